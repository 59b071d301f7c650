/- The code of these functions, run by the machine Mx, gives what the plain functions say, if their callees do (part 1). -/
import Derived.Test.YtnjkmbogbfjffaaWTy
import Derived.Test.YtnjkmbogbfjffaaWireItemBytesD
set_option linter.unusedSimpArgs false
set_option linter.unusedVariables false
set_option linter.constructorNameAsVariable false
set_option linter.unnecessarySimpa false
namespace Go.Proofs.Ytnjkmbogbfjffaa
open Go Go.Mx Go.Proofs
/-! ### client.number -/
def n127 : Note where
  keep := fun i => match i with
    | 0 => [0]
    | 1 => [2]
    | _ => []
  ro := fun _ => false
  mv := fun _ => false
  give := fun _ => false
  free := fun _ => []
theorem n127k0 : n127.keep 0 = [0] := rfl
theorem n127k1 : n127.keep 1 = [2] := rfl
theorem n127ro (t : Nat) : n127.ro t = (false) := rfl
theorem n127mv (t : Nat) : n127.mv t = (false) := rfl
theorem n127gv (t : Nat) : n127.give t = (false) := rfl
theorem res127 : Try.f127.results.toList = [.tmp 2] := rfl
noncomputable def b127 : Code := bodyOf Try.f127
set_option maxRecDepth 100000 in
set_option maxHeartbeats 40000000 in
theorem r_client_number (C : Oracle)  (p0 : Int) (r : Bool) (hF : client_number p0 = some r) : evFn TT C.wide (evW TT C.wide n127 b127) n127 Try.f127.results.toList (bodyOf Try.f127) [.v (.i .i64 p0)] [] = some (.v (.b r), []) := by
  unfold client_number at hF
  refine boolTF (decide (1 ≤ p0)) ?_ ?_
  focus
    intro h1
    replace hF := condT h1 hF
    have hR := Option.some.inj hF
    clear hF
    subst hR
  rotate_left 1
  intro h1
  replace hF := condF h1 hF
  have hR := Option.some.inj hF
  clear hF
  subst hR
  all_goals (rw [evFn_finish]; show finish _ _ _ (evCode _ _ _ _ (Code.seq _ _) _) = _; simp (maxSteps := 4000000) only [*, res127, n127k0, n127k1, n127ro, n127mv, n127gv, ↓evCode_skip, ↓evCode_ret, ↓evCode_exit, ↓evCode_loop, ↓evCode_block_seq, ↓evCode_block_region, ↓evCode_block_cond, ↓evCode_block_block, ↓evCode_block_skip, ↓cond_true, ↓cond_false, enter, List.toList_toArray, Bool.false_and, cond_false, guardB, yieldedD, isWork, cond_true, workOk, workOp, Mx.force, opnd, Mx.look, Nat.reduceBEq, solid, Mx.fit, fitCs, fitC, List.isEmpty_cons, List.isEmpty_nil, Bool.false_or, Bool.or_false, Bool.true_or, Bool.or_true, Bool.and_true, Bool.true_and, Bool.and_false, Bool.not_true, Bool.not_false, Bool.not_not, Bool.or_not_self, Bool.not_or_self, Bool.and_self, Bool.or_self, toVs, cellsOf, toV, setReg_m, spend_m, hasOwn, ownFree, List.all_cons, List.all_nil, ownFreeC, Mx.put, ofConst, ofCell, after_some, Mx.prune, List.map_cons, List.map_nil, killB, killBs, unblock_normal, unblock_ret, unblock_exit, pureOp, putDst, offReg_m, callFails, isFuncCall, Option.isNone_none, Option.isNone_some, Option.isSome_none, Option.isSome_some, fieldOff, loadAt, partD, List.length_cons, List.length_nil, List.map, List.drop_succ_cons, List.drop_zero, List.take_succ_cons, List.take_zero, List.take_nil, List.drop_nil, List.getElem?_cons_zero, List.getElem?_cons_succ, List.getElem?_nil, Nat.reduceAdd, Nat.reduceMul, Nat.zero_add, Nat.add_zero, binD, binV, eqCells, eqC, lenD, sliceOf, ite_true, if_true, eq_self, reduceIte, reduceCtorEq, finish_ret, finish_normal, giveBack, resAll, resOne, outD, outOk, stayC, cellOk, valOk, lowC, lowP, forceAll, bound, asNat, elemIs, isStrK, sameInt, sliceD, kill, spendLoc, spendOk, setOwn, dropAl, dropAls, inReg, inObj, isCell, gone, List.contains_cons, List.contains_nil, List.elem_cons, List.elem_nil, lend, lendA, tracked, trackedA, noSlT, noSlV, bare, bareC, List.any_cons, List.any_nil, frz, frzC, frzReg_m, isGive, argE, argsE, isOwn, noOwn, fill, setCells, setVs, takeParts, rowsOf, inOrder, ownAt, List.set_cons_zero, List.set_cons_succ, List.nil_append, List.cons_append, List.append_nil, Nat.reduceBNe, Nat.reduceSub, Nat.reduceLT, Nat.reduceLeDiff, decide_true, decide_false, Int.cast_ofNat_Int, again_norm, againN_some, trunc_m, lowA, lowLoc, again_ret, again_exit, beq_self_eq_true, Bool.cond_true_left, Bool.cond_false_right, Bool.cond_false_left, Bool.cond_true_right, ge_iff_le, gt_iff_lt, kindW, plainWork, ownsDst, calmOp, calm, calmC, calmP, immB, noLoc, noLocC, readsAt, plainK, freeOk, pairOk, rwOk, List.getD_cons_zero, List.getD_cons_succ, Op.operands, Bool.not_eq_true, Option.map_some, Option.map_none, Int.reduceBEq, Int.reduceLT, Int.reduceLE, Int.reduceNeg, Bool.decide_eq_true, Int.reduceBNe, pickOk_f, pickOk_x, pickOk_h, outTup, cond_nest_t, cond_nest_f, cond_same, newB, newC, flatB, flatI, flatS, binK, binI, bne, mapR_len, mapR_app, mapR_emp, mapR_sub, mapR_nil, byL_m, strL_m, allB_m, strL0, row_oneB, row_consB, row_oneI, row_consI, row_oneS, row_consS, set_B, set_I, set_S, rep_B, rep_I, seq_m, slt_m, str0, modS_0, modS_s, ↓evCode_seqI, ↓evCode_condI, ↓evCode_regionI, ↓evCode_drawI, thenI_normal, thenI_ret, thenI_exit, branchI_t, branchI_f, runI_nil, runI_cons, opsI_some, stepI_t, stepI_f, guardI_none, guardI_some, runK_nil, runK_cons, opsK_some, kindI_t, kindI_f, endK_some, drawI_nil, drawI_cons, pickOk, aliasCs, standB, tailOf, isSliceK, effOk, Sum.elim_inl, Sum.elim_inr, beq_true, beq_false, Bool.true_beq, Bool.false_beq, Call.operands, List.isEmpty_toArray, Array.toList_append, Option.toArray_some, Option.toArray_none, ty3, ty4])
/-! ### value.field -/
def n67 : Note where
  keep := fun i => match i with
    | 0 => [0]
    | 1 => [2]
    | _ => []
  ro := fun _ => false
  mv := fun _ => false
  give := fun _ => false
  free := fun _ => []
theorem n67k0 : n67.keep 0 = [0] := rfl
theorem n67k1 : n67.keep 1 = [2] := rfl
theorem n67ro (t : Nat) : n67.ro t = (false) := rfl
theorem n67mv (t : Nat) : n67.mv t = (false) := rfl
theorem n67gv (t : Nat) : n67.give t = (false) := rfl
theorem res67 : Try.f67.results.toList = [.tmp 2] := rfl
noncomputable def b67 : Code := bodyOf Try.f67
set_option maxRecDepth 100000 in
set_option maxHeartbeats 40000000 in
theorem r_value_field (C : Oracle)  (p0 : ByteArray) (r : Bool) (hF : value_field p0 = some r) : evFn TT C.wide (evW TT C.wide n67 b67) n67 Try.f67.results.toList (bodyOf Try.f67) [.v (.s p0)] [] = some (.v (.b r), []) := by
  unfold value_field at hF
  refine boolTF (decide (1 ≤ (p0.size : Int))) ?_ ?_
  focus
    intro h1
    replace hF := condT h1 hF
    have hR := Option.some.inj hF
    clear hF
    subst hR
  rotate_left 1
  intro h1
  replace hF := condF h1 hF
  have hR := Option.some.inj hF
  clear hF
  subst hR
  all_goals (rw [evFn_finish]; show finish _ _ _ (evCode _ _ _ _ (Code.seq _ _) _) = _; simp (maxSteps := 4000000) only [*, res67, n67k0, n67k1, n67ro, n67mv, n67gv, ↓evCode_skip, ↓evCode_ret, ↓evCode_exit, ↓evCode_loop, ↓evCode_block_seq, ↓evCode_block_region, ↓evCode_block_cond, ↓evCode_block_block, ↓evCode_block_skip, ↓cond_true, ↓cond_false, enter, List.toList_toArray, Bool.false_and, cond_false, guardB, yieldedD, isWork, cond_true, workOk, workOp, Mx.force, opnd, Mx.look, Nat.reduceBEq, solid, Mx.fit, fitCs, fitC, List.isEmpty_cons, List.isEmpty_nil, Bool.false_or, Bool.or_false, Bool.true_or, Bool.or_true, Bool.and_true, Bool.true_and, Bool.and_false, Bool.not_true, Bool.not_false, Bool.not_not, Bool.or_not_self, Bool.not_or_self, Bool.and_self, Bool.or_self, toVs, cellsOf, toV, setReg_m, spend_m, hasOwn, ownFree, List.all_cons, List.all_nil, ownFreeC, Mx.put, ofConst, ofCell, after_some, Mx.prune, List.map_cons, List.map_nil, killB, killBs, unblock_normal, unblock_ret, unblock_exit, pureOp, putDst, offReg_m, callFails, isFuncCall, Option.isNone_none, Option.isNone_some, Option.isSome_none, Option.isSome_some, fieldOff, loadAt, partD, List.length_cons, List.length_nil, List.map, List.drop_succ_cons, List.drop_zero, List.take_succ_cons, List.take_zero, List.take_nil, List.drop_nil, List.getElem?_cons_zero, List.getElem?_cons_succ, List.getElem?_nil, Nat.reduceAdd, Nat.reduceMul, Nat.zero_add, Nat.add_zero, binD, binV, eqCells, eqC, lenD, sliceOf, ite_true, if_true, eq_self, reduceIte, reduceCtorEq, finish_ret, finish_normal, giveBack, resAll, resOne, outD, outOk, stayC, cellOk, valOk, lowC, lowP, forceAll, bound, asNat, elemIs, isStrK, sameInt, sliceD, kill, spendLoc, spendOk, setOwn, dropAl, dropAls, inReg, inObj, isCell, gone, List.contains_cons, List.contains_nil, List.elem_cons, List.elem_nil, lend, lendA, tracked, trackedA, noSlT, noSlV, bare, bareC, List.any_cons, List.any_nil, frz, frzC, frzReg_m, isGive, argE, argsE, isOwn, noOwn, fill, setCells, setVs, takeParts, rowsOf, inOrder, ownAt, List.set_cons_zero, List.set_cons_succ, List.nil_append, List.cons_append, List.append_nil, Nat.reduceBNe, Nat.reduceSub, Nat.reduceLT, Nat.reduceLeDiff, decide_true, decide_false, Int.cast_ofNat_Int, again_norm, againN_some, trunc_m, lowA, lowLoc, again_ret, again_exit, beq_self_eq_true, Bool.cond_true_left, Bool.cond_false_right, Bool.cond_false_left, Bool.cond_true_right, ge_iff_le, gt_iff_lt, kindW, plainWork, ownsDst, calmOp, calm, calmC, calmP, immB, noLoc, noLocC, readsAt, plainK, freeOk, pairOk, rwOk, List.getD_cons_zero, List.getD_cons_succ, Op.operands, Bool.not_eq_true, Option.map_some, Option.map_none, Int.reduceBEq, Int.reduceLT, Int.reduceLE, Int.reduceNeg, Bool.decide_eq_true, Int.reduceBNe, pickOk_f, pickOk_x, pickOk_h, outTup, cond_nest_t, cond_nest_f, cond_same, newB, newC, flatB, flatI, flatS, binK, binI, bne, mapR_len, mapR_app, mapR_emp, mapR_sub, mapR_nil, byL_m, strL_m, allB_m, strL0, row_oneB, row_consB, row_oneI, row_consI, row_oneS, row_consS, set_B, set_I, set_S, rep_B, rep_I, seq_m, slt_m, str0, modS_0, modS_s, ↓evCode_seqI, ↓evCode_condI, ↓evCode_regionI, ↓evCode_drawI, thenI_normal, thenI_ret, thenI_exit, branchI_t, branchI_f, runI_nil, runI_cons, opsI_some, stepI_t, stepI_f, guardI_none, guardI_some, runK_nil, runK_cons, opsK_some, kindI_t, kindI_f, endK_some, drawI_nil, drawI_cons, pickOk, aliasCs, standB, tailOf, isSliceK, effOk, Sum.elim_inl, Sum.elim_inr, beq_true, beq_false, Bool.true_beq, Bool.false_beq, Call.operands, List.isEmpty_toArray, Array.toList_append, Option.toArray_some, Option.toArray_none, ty3, ty4, ty9])
/-! ### value.text -/
def n62 : Note where
  keep := fun i => match i with
    | 0 => [0]
    | 1 => [2]
    | _ => []
  ro := fun _ => false
  mv := fun _ => false
  give := fun _ => false
  free := fun _ => []
theorem n62k0 : n62.keep 0 = [0] := rfl
theorem n62k1 : n62.keep 1 = [2] := rfl
theorem n62ro (t : Nat) : n62.ro t = (false) := rfl
theorem n62mv (t : Nat) : n62.mv t = (false) := rfl
theorem n62gv (t : Nat) : n62.give t = (false) := rfl
theorem res62 : Try.f62.results.toList = [.tmp 2] := rfl
noncomputable def b62 : Code := bodyOf Try.f62
set_option maxRecDepth 100000 in
set_option maxHeartbeats 40000000 in
theorem r_value_text (C : Oracle)  (p0 : ByteArray) (r : Bool) (hF : value_text p0 = some r) : evFn TT C.wide (evW TT C.wide n62 b62) n62 Try.f62.results.toList (bodyOf Try.f62) [.v (.s p0)] [] = some (.v (.b r), []) := by
  unfold value_text at hF
  have hR := Option.some.inj hF
  clear hF
  subst hR
  all_goals (rw [evFn_finish]; show finish _ _ _ (evCode _ _ _ _ (Code.seq _ _) _) = _; simp (maxSteps := 4000000) only [*, res62, n62k0, n62k1, n62ro, n62mv, n62gv, ↓evCode_skip, ↓evCode_ret, ↓evCode_exit, ↓evCode_loop, ↓evCode_block_seq, ↓evCode_block_region, ↓evCode_block_cond, ↓evCode_block_block, ↓evCode_block_skip, ↓cond_true, ↓cond_false, enter, List.toList_toArray, Bool.false_and, cond_false, guardB, yieldedD, isWork, cond_true, workOk, workOp, Mx.force, opnd, Mx.look, Nat.reduceBEq, solid, Mx.fit, fitCs, fitC, List.isEmpty_cons, List.isEmpty_nil, Bool.false_or, Bool.or_false, Bool.true_or, Bool.or_true, Bool.and_true, Bool.true_and, Bool.and_false, Bool.not_true, Bool.not_false, Bool.not_not, Bool.or_not_self, Bool.not_or_self, Bool.and_self, Bool.or_self, toVs, cellsOf, toV, setReg_m, spend_m, hasOwn, ownFree, List.all_cons, List.all_nil, ownFreeC, Mx.put, ofConst, ofCell, after_some, Mx.prune, List.map_cons, List.map_nil, killB, killBs, unblock_normal, unblock_ret, unblock_exit, pureOp, putDst, offReg_m, callFails, isFuncCall, Option.isNone_none, Option.isNone_some, Option.isSome_none, Option.isSome_some, fieldOff, loadAt, partD, List.length_cons, List.length_nil, List.map, List.drop_succ_cons, List.drop_zero, List.take_succ_cons, List.take_zero, List.take_nil, List.drop_nil, List.getElem?_cons_zero, List.getElem?_cons_succ, List.getElem?_nil, Nat.reduceAdd, Nat.reduceMul, Nat.zero_add, Nat.add_zero, binD, binV, eqCells, eqC, lenD, sliceOf, ite_true, if_true, eq_self, reduceIte, reduceCtorEq, finish_ret, finish_normal, giveBack, resAll, resOne, outD, outOk, stayC, cellOk, valOk, lowC, lowP, forceAll, bound, asNat, elemIs, isStrK, sameInt, sliceD, kill, spendLoc, spendOk, setOwn, dropAl, dropAls, inReg, inObj, isCell, gone, List.contains_cons, List.contains_nil, List.elem_cons, List.elem_nil, lend, lendA, tracked, trackedA, noSlT, noSlV, bare, bareC, List.any_cons, List.any_nil, frz, frzC, frzReg_m, isGive, argE, argsE, isOwn, noOwn, fill, setCells, setVs, takeParts, rowsOf, inOrder, ownAt, List.set_cons_zero, List.set_cons_succ, List.nil_append, List.cons_append, List.append_nil, Nat.reduceBNe, Nat.reduceSub, Nat.reduceLT, Nat.reduceLeDiff, decide_true, decide_false, Int.cast_ofNat_Int, again_norm, againN_some, trunc_m, lowA, lowLoc, again_ret, again_exit, beq_self_eq_true, Bool.cond_true_left, Bool.cond_false_right, Bool.cond_false_left, Bool.cond_true_right, ge_iff_le, gt_iff_lt, kindW, plainWork, ownsDst, calmOp, calm, calmC, calmP, immB, noLoc, noLocC, readsAt, plainK, freeOk, pairOk, rwOk, List.getD_cons_zero, List.getD_cons_succ, Op.operands, Bool.not_eq_true, Option.map_some, Option.map_none, Int.reduceBEq, Int.reduceLT, Int.reduceLE, Int.reduceNeg, Bool.decide_eq_true, Int.reduceBNe, pickOk_f, pickOk_x, pickOk_h, outTup, cond_nest_t, cond_nest_f, cond_same, newB, newC, flatB, flatI, flatS, binK, binI, bne, mapR_len, mapR_app, mapR_emp, mapR_sub, mapR_nil, byL_m, strL_m, allB_m, strL0, row_oneB, row_consB, row_oneI, row_consI, row_oneS, row_consS, set_B, set_I, set_S, rep_B, rep_I, seq_m, slt_m, str0, modS_0, modS_s, ↓evCode_seqI, ↓evCode_condI, ↓evCode_regionI, ↓evCode_drawI, thenI_normal, thenI_ret, thenI_exit, branchI_t, branchI_f, runI_nil, runI_cons, opsI_some, stepI_t, stepI_f, guardI_none, guardI_some, runK_nil, runK_cons, opsK_some, kindI_t, kindI_f, endK_some, drawI_nil, drawI_cons, pickOk, aliasCs, standB, tailOf, isSliceK, effOk, Sum.elim_inl, Sum.elim_inr, beq_true, beq_false, Bool.true_beq, Bool.false_beq, Call.operands, List.isEmpty_toArray, Array.toList_append, Option.toArray_some, Option.toArray_none, ty3, ty4, ty9])
/-! ### value.count -/
def n70 : Note where
  keep := fun i => match i with
    | 0 => [0]
    | 1 => [2]
    | _ => []
  ro := fun _ => false
  mv := fun _ => false
  give := fun _ => false
  free := fun _ => []
theorem n70k0 : n70.keep 0 = [0] := rfl
theorem n70k1 : n70.keep 1 = [2] := rfl
theorem n70ro (t : Nat) : n70.ro t = (false) := rfl
theorem n70mv (t : Nat) : n70.mv t = (false) := rfl
theorem n70gv (t : Nat) : n70.give t = (false) := rfl
theorem res70 : Try.f70.results.toList = [.tmp 2] := rfl
noncomputable def b70 : Code := bodyOf Try.f70
set_option maxRecDepth 100000 in
set_option maxHeartbeats 40000000 in
theorem r_value_count (C : Oracle)  (p0 : Int) (r : Bool) (hF : value_count p0 = some r) : evFn TT C.wide (evW TT C.wide n70 b70) n70 Try.f70.results.toList (bodyOf Try.f70) [.v (.i .i64 p0)] [] = some (.v (.b r), []) := by
  unfold value_count at hF
  refine boolTF (decide ((-1099511627776) ≤ p0)) ?_ ?_
  focus
    intro h1
    replace hF := condT h1 hF
    have hR := Option.some.inj hF
    clear hF
    subst hR
  rotate_left 1
  intro h1
  replace hF := condF h1 hF
  have hR := Option.some.inj hF
  clear hF
  subst hR
  all_goals (rw [evFn_finish]; show finish _ _ _ (evCode _ _ _ _ (Code.seq _ _) _) = _; simp (maxSteps := 4000000) only [*, res70, n70k0, n70k1, n70ro, n70mv, n70gv, ↓evCode_skip, ↓evCode_ret, ↓evCode_exit, ↓evCode_loop, ↓evCode_block_seq, ↓evCode_block_region, ↓evCode_block_cond, ↓evCode_block_block, ↓evCode_block_skip, ↓cond_true, ↓cond_false, enter, List.toList_toArray, Bool.false_and, cond_false, guardB, yieldedD, isWork, cond_true, workOk, workOp, Mx.force, opnd, Mx.look, Nat.reduceBEq, solid, Mx.fit, fitCs, fitC, List.isEmpty_cons, List.isEmpty_nil, Bool.false_or, Bool.or_false, Bool.true_or, Bool.or_true, Bool.and_true, Bool.true_and, Bool.and_false, Bool.not_true, Bool.not_false, Bool.not_not, Bool.or_not_self, Bool.not_or_self, Bool.and_self, Bool.or_self, toVs, cellsOf, toV, setReg_m, spend_m, hasOwn, ownFree, List.all_cons, List.all_nil, ownFreeC, Mx.put, ofConst, ofCell, after_some, Mx.prune, List.map_cons, List.map_nil, killB, killBs, unblock_normal, unblock_ret, unblock_exit, pureOp, putDst, offReg_m, callFails, isFuncCall, Option.isNone_none, Option.isNone_some, Option.isSome_none, Option.isSome_some, fieldOff, loadAt, partD, List.length_cons, List.length_nil, List.map, List.drop_succ_cons, List.drop_zero, List.take_succ_cons, List.take_zero, List.take_nil, List.drop_nil, List.getElem?_cons_zero, List.getElem?_cons_succ, List.getElem?_nil, Nat.reduceAdd, Nat.reduceMul, Nat.zero_add, Nat.add_zero, binD, binV, eqCells, eqC, lenD, sliceOf, ite_true, if_true, eq_self, reduceIte, reduceCtorEq, finish_ret, finish_normal, giveBack, resAll, resOne, outD, outOk, stayC, cellOk, valOk, lowC, lowP, forceAll, bound, asNat, elemIs, isStrK, sameInt, sliceD, kill, spendLoc, spendOk, setOwn, dropAl, dropAls, inReg, inObj, isCell, gone, List.contains_cons, List.contains_nil, List.elem_cons, List.elem_nil, lend, lendA, tracked, trackedA, noSlT, noSlV, bare, bareC, List.any_cons, List.any_nil, frz, frzC, frzReg_m, isGive, argE, argsE, isOwn, noOwn, fill, setCells, setVs, takeParts, rowsOf, inOrder, ownAt, List.set_cons_zero, List.set_cons_succ, List.nil_append, List.cons_append, List.append_nil, Nat.reduceBNe, Nat.reduceSub, Nat.reduceLT, Nat.reduceLeDiff, decide_true, decide_false, Int.cast_ofNat_Int, again_norm, againN_some, trunc_m, lowA, lowLoc, again_ret, again_exit, beq_self_eq_true, Bool.cond_true_left, Bool.cond_false_right, Bool.cond_false_left, Bool.cond_true_right, ge_iff_le, gt_iff_lt, kindW, plainWork, ownsDst, calmOp, calm, calmC, calmP, immB, noLoc, noLocC, readsAt, plainK, freeOk, pairOk, rwOk, List.getD_cons_zero, List.getD_cons_succ, Op.operands, Bool.not_eq_true, Option.map_some, Option.map_none, Int.reduceBEq, Int.reduceLT, Int.reduceLE, Int.reduceNeg, Bool.decide_eq_true, Int.reduceBNe, pickOk_f, pickOk_x, pickOk_h, outTup, cond_nest_t, cond_nest_f, cond_same, newB, newC, flatB, flatI, flatS, binK, binI, bne, mapR_len, mapR_app, mapR_emp, mapR_sub, mapR_nil, byL_m, strL_m, allB_m, strL0, row_oneB, row_consB, row_oneI, row_consI, row_oneS, row_consS, set_B, set_I, set_S, rep_B, rep_I, seq_m, slt_m, str0, modS_0, modS_s, ↓evCode_seqI, ↓evCode_condI, ↓evCode_regionI, ↓evCode_drawI, thenI_normal, thenI_ret, thenI_exit, branchI_t, branchI_f, runI_nil, runI_cons, opsI_some, stepI_t, stepI_f, guardI_none, guardI_some, runK_nil, runK_cons, opsK_some, kindI_t, kindI_f, endK_some, drawI_nil, drawI_cons, pickOk, aliasCs, standB, tailOf, isSliceK, effOk, Sum.elim_inl, Sum.elim_inr, beq_true, beq_false, Bool.true_beq, Bool.false_beq, Call.operands, List.isEmpty_toArray, Array.toList_append, Option.toArray_some, Option.toArray_none, ty3, ty4])
/-! ### value.CheckCommand -/
def n128 : Note where
  keep := fun i => match i with
    | 0 => [1]
    | 1 => [1, 11]
    | 2 => [2]
    | 3 => [1, 3]
    | 4 => [1, 3, 18]
    | 5 => [1, 3, 18, 19]
    | 6 => [1, 3, 18, 19]
    | 7 => [1, 3, 18, 19]
    | 8 => [1, 3, 18, 19]
    | 9 => [1, 3, 18, 19]
    | 10 => [1, 3, 18, 19]
    | 11 => [1, 3, 18, 19]
    | 12 => [1, 3, 18, 19]
    | 13 => [1, 3]
    | 14 => [1, 3, 18, 31]
    | 15 => [1, 3, 18, 31]
    | 16 => [1, 3]
    | 17 => [1, 3, 18, 37]
    | 18 => [1, 3]
    | 19 => [1, 3, 18, 45]
    | 20 => [1, 3, 18, 45]
    | 21 => [1, 3]
    | 22 => [1, 3, 18, 51]
    | 23 => [1, 3]
    | 24 => [1, 3, 59]
    | 25 => [1, 3]
    | 26 => [1, 64]
    | 27 => [2]
    | 28 => [1, 95]
    | 29 => [2]
    | 30 => [99]
    | 31 => [2]
    | 32 => [2]
    | _ => []
  ro := fun t => t == 1
  mv := fun _ => false
  give := fun _ => false
  free := fun i => match i with | 18 => [(0, 2), (1, 2), (0, 3), (1, 3), (2, 4), (3, 4), (2, 5), (3, 5)] | 23 => [(0, 2), (1, 2), (0, 3), (1, 3), (2, 4), (3, 4), (2, 5), (3, 5)] | _ => []
theorem n128k0 : n128.keep 0 = [1] := rfl
theorem n128k1 : n128.keep 1 = [1, 11] := rfl
theorem n128k2 : n128.keep 2 = [2] := rfl
theorem n128k3 : n128.keep 3 = [1, 3] := rfl
theorem n128k4 : n128.keep 4 = [1, 3, 18] := rfl
theorem n128k5 : n128.keep 5 = [1, 3, 18, 19] := rfl
theorem n128k6 : n128.keep 6 = [1, 3, 18, 19] := rfl
theorem n128k7 : n128.keep 7 = [1, 3, 18, 19] := rfl
theorem n128k8 : n128.keep 8 = [1, 3, 18, 19] := rfl
theorem n128k9 : n128.keep 9 = [1, 3, 18, 19] := rfl
theorem n128k10 : n128.keep 10 = [1, 3, 18, 19] := rfl
theorem n128k11 : n128.keep 11 = [1, 3, 18, 19] := rfl
theorem n128k12 : n128.keep 12 = [1, 3, 18, 19] := rfl
theorem n128k13 : n128.keep 13 = [1, 3] := rfl
theorem n128k14 : n128.keep 14 = [1, 3, 18, 31] := rfl
theorem n128k15 : n128.keep 15 = [1, 3, 18, 31] := rfl
theorem n128k16 : n128.keep 16 = [1, 3] := rfl
theorem n128k17 : n128.keep 17 = [1, 3, 18, 37] := rfl
theorem n128k18 : n128.keep 18 = [1, 3] := rfl
theorem n128k19 : n128.keep 19 = [1, 3, 18, 45] := rfl
theorem n128k20 : n128.keep 20 = [1, 3, 18, 45] := rfl
theorem n128k21 : n128.keep 21 = [1, 3] := rfl
theorem n128k22 : n128.keep 22 = [1, 3, 18, 51] := rfl
theorem n128k23 : n128.keep 23 = [1, 3] := rfl
theorem n128k24 : n128.keep 24 = [1, 3, 59] := rfl
theorem n128k25 : n128.keep 25 = [1, 3] := rfl
theorem n128k26 : n128.keep 26 = [1, 64] := rfl
theorem n128k27 : n128.keep 27 = [2] := rfl
theorem n128k28 : n128.keep 28 = [1, 95] := rfl
theorem n128k29 : n128.keep 29 = [2] := rfl
theorem n128k30 : n128.keep 30 = [99] := rfl
theorem n128k31 : n128.keep 31 = [2] := rfl
theorem n128k32 : n128.keep 32 = [2] := rfl
theorem n128ro (t : Nat) : n128.ro t = (t == 1) := rfl
theorem n128mv (t : Nat) : n128.mv t = (false) := rfl
theorem n128gv (t : Nat) : n128.give t = (false) := rfl
theorem n128f18 : n128.free 18 = [(0, 2), (1, 2), (0, 3), (1, 3), (2, 4), (3, 4), (2, 5), (3, 5)] := rfl
theorem n128f23 : n128.free 23 = [(0, 2), (1, 2), (0, 3), (1, 3), (2, 4), (3, 4), (2, 5), (3, 5)] := rfl
theorem res128 : Try.f128.results.toList = [.tmp 2] := rfl
noncomputable def b128 : Code := bodyOf Try.f128
set_option maxRecDepth 100000 in
set_option maxHeartbeats 40000000 in
theorem rg_value_CheckCommand_k28 (C : Oracle) (k_value_field : K_value_field C) (k_value_text : K_value_text C) (p0 : GCommand) (p1 : Int) (p2 : ByteArray) (p3 : ByteArray) (ops : Array Oper) (dr : Bool) (ho : regAt 28 b128 = some (ops, dr)) (r : Bool) (hF : ck_value_CheckCommand_k28 p0 p1 p2 p3 = some r) : evCode TT C.wide (evW TT C.wide n128 b128) n128 (.region 28 ops dr) ⟨[(1, .rp [.i .i64 p0.fKind, .s p0.fKey, .s p0.fField, .s p0.fText, .i .i64 p0.fN]), (64, .v (.b false))], [[.v (.i .i64 p1), .v (.s p2), .v (.s ByteArray.empty), .v (.s p3), .v (.i .i64 0)]]⟩ = some (.normal, ⟨[(1, .rp [.i .i64 p0.fKind, .s p0.fKey, .s p0.fField, .s p0.fText, .i .i64 p0.fN]), (95, .v (.b r))], [[.v (.i .i64 p1), .v (.s p2), .v (.s ByteArray.empty), .v (.s p3), .v (.i .i64 0)]]⟩) := by
  have e := Option.some.inj (ho.symm.trans (rfl : regAt 28 b128 = some (_, _)))
  obtain ⟨rfl, rfl⟩ := Prod.mk.inj e
  clear e ho
  unfold ck_value_CheckCommand_k28 at hF
  refine boolTF (p0.fKind == 22) ?_ ?_
  focus
    intro h1
    replace hF := condT h1 hF
    refine boolFT (decide (4 ≤ p0.fKind)) ?_ ?_
    focus
      intro h2
      replace hF := condF h2 hF
      have g1 : C.wide 62 [.v (.s p0.fText)] [] = some (.v (.b (value_text_v p0.fText)), []) := k_value_text p0.fText _ (value_text_t p0.fText)
      have hR := Option.some.inj hF
      clear hF
      subst hR
    rotate_left 1
    intro h2
    replace hF := condT h2 hF
    refine boolFT (decide (p0.fKind ≤ 6)) ?_ ?_
    focus
      intro h3
      replace hF := condF h3 hF
      have g1 : C.wide 62 [.v (.s p0.fText)] [] = some (.v (.b (value_text_v p0.fText)), []) := k_value_text p0.fText _ (value_text_t p0.fText)
      have hR := Option.some.inj hF
      clear hF
      subst hR
    rotate_left 1
    intro h3
    replace hF := condT h3 hF
    have g2 : C.wide 67 [.v (.s p0.fField)] [] = some (.v (.b (value_field_v p0.fField)), []) := k_value_field p0.fField _ (value_field_t p0.fField)
    refine boolTF (value_field_v p0.fField) ?_ ?_
    focus
      intro h4
      replace hF := condT h4 hF
      have g1 : C.wide 62 [.v (.s p0.fText)] [] = some (.v (.b (value_text_v p0.fText)), []) := k_value_text p0.fText _ (value_text_t p0.fText)
      have hR := Option.some.inj hF
      clear hF
      subst hR
    rotate_left 1
    intro h4
    replace hF := condF h4 hF
    have hR := Option.some.inj hF
    clear hF
    subst hR
  rotate_left 4
  intro h1
  replace hF := condF h1 hF
  unfold ck_value_CheckCommand_k28_c0 at hF
  have g3 : C.wide 67 [.v (.s p0.fKey)] [] = some (.v (.b (value_field_v p0.fKey)), []) := k_value_field p0.fKey _ (value_field_t p0.fKey)
  refine boolFT (value_field_v p0.fKey) ?_ ?_
  focus
    intro h2
    replace hF := condF h2 hF
    have hR := Option.some.inj hF
    clear hF
    subst hR
  rotate_left 1
  intro h2
  replace hF := condT h2 hF
  refine boolFT (decide (4 ≤ p0.fKind)) ?_ ?_
  focus
    intro h3
    replace hF := condF h3 hF
    have g1 : C.wide 62 [.v (.s p0.fText)] [] = some (.v (.b (value_text_v p0.fText)), []) := k_value_text p0.fText _ (value_text_t p0.fText)
    have hR := Option.some.inj hF
    clear hF
    subst hR
  rotate_left 1
  intro h3
  replace hF := condT h3 hF
  refine boolFT (decide (p0.fKind ≤ 6)) ?_ ?_
  focus
    intro h4
    replace hF := condF h4 hF
    have g1 : C.wide 62 [.v (.s p0.fText)] [] = some (.v (.b (value_text_v p0.fText)), []) := k_value_text p0.fText _ (value_text_t p0.fText)
    have hR := Option.some.inj hF
    clear hF
    subst hR
  rotate_left 1
  intro h4
  replace hF := condT h4 hF
  have g2 : C.wide 67 [.v (.s p0.fField)] [] = some (.v (.b (value_field_v p0.fField)), []) := k_value_field p0.fField _ (value_field_t p0.fField)
  refine boolTF (value_field_v p0.fField) ?_ ?_
  focus
    intro h5
    replace hF := condT h5 hF
    have g1 : C.wide 62 [.v (.s p0.fText)] [] = some (.v (.b (value_text_v p0.fText)), []) := k_value_text p0.fText _ (value_text_t p0.fText)
    have hR := Option.some.inj hF
    clear hF
    subst hR
  rotate_left 1
  intro h5
  replace hF := condF h5 hF
  have hR := Option.some.inj hF
  clear hF
  subst hR
  all_goals (simp (maxSteps := 4000000) only [*, res128, n128k0, n128k1, n128k2, n128k3, n128k4, n128k5, n128k6, n128k7, n128k8, n128k9, n128k10, n128k11, n128k12, n128k13, n128k14, n128k15, n128k16, n128k17, n128k18, n128k19, n128k20, n128k21, n128k22, n128k23, n128k24, n128k25, n128k26, n128k27, n128k28, n128k29, n128k30, n128k31, n128k32, n128f18, n128f23, n128ro, n128mv, n128gv, ↓evCode_skip, ↓evCode_ret, ↓evCode_exit, ↓evCode_loop, ↓evCode_block_seq, ↓evCode_block_region, ↓evCode_block_cond, ↓evCode_block_block, ↓evCode_block_skip, ↓cond_true, ↓cond_false, enter, List.toList_toArray, Bool.false_and, cond_false, guardB, yieldedD, isWork, cond_true, workOk, workOp, Mx.force, opnd, Mx.look, Nat.reduceBEq, solid, Mx.fit, fitCs, fitC, List.isEmpty_cons, List.isEmpty_nil, Bool.false_or, Bool.or_false, Bool.true_or, Bool.or_true, Bool.and_true, Bool.true_and, Bool.and_false, Bool.not_true, Bool.not_false, Bool.not_not, Bool.or_not_self, Bool.not_or_self, Bool.and_self, Bool.or_self, toVs, cellsOf, toV, setReg_m, spend_m, hasOwn, ownFree, List.all_cons, List.all_nil, ownFreeC, Mx.put, ofConst, ofCell, after_some, Mx.prune, List.map_cons, List.map_nil, killB, killBs, unblock_normal, unblock_ret, unblock_exit, pureOp, putDst, offReg_m, callFails, isFuncCall, Option.isNone_none, Option.isNone_some, Option.isSome_none, Option.isSome_some, fieldOff, loadAt, partD, List.length_cons, List.length_nil, List.map, List.drop_succ_cons, List.drop_zero, List.take_succ_cons, List.take_zero, List.take_nil, List.drop_nil, List.getElem?_cons_zero, List.getElem?_cons_succ, List.getElem?_nil, Nat.reduceAdd, Nat.reduceMul, Nat.zero_add, Nat.add_zero, binD, binV, eqCells, eqC, lenD, sliceOf, ite_true, if_true, eq_self, reduceIte, reduceCtorEq, finish_ret, finish_normal, giveBack, resAll, resOne, outD, outOk, stayC, cellOk, valOk, lowC, lowP, forceAll, bound, asNat, elemIs, isStrK, sameInt, sliceD, kill, spendLoc, spendOk, setOwn, dropAl, dropAls, inReg, inObj, isCell, gone, List.contains_cons, List.contains_nil, List.elem_cons, List.elem_nil, lend, lendA, tracked, trackedA, noSlT, noSlV, bare, bareC, List.any_cons, List.any_nil, frz, frzC, frzReg_m, isGive, argE, argsE, isOwn, noOwn, fill, setCells, setVs, takeParts, rowsOf, inOrder, ownAt, List.set_cons_zero, List.set_cons_succ, List.nil_append, List.cons_append, List.append_nil, Nat.reduceBNe, Nat.reduceSub, Nat.reduceLT, Nat.reduceLeDiff, decide_true, decide_false, Int.cast_ofNat_Int, again_norm, againN_some, trunc_m, lowA, lowLoc, again_ret, again_exit, beq_self_eq_true, Bool.cond_true_left, Bool.cond_false_right, Bool.cond_false_left, Bool.cond_true_right, ge_iff_le, gt_iff_lt, kindW, plainWork, ownsDst, calmOp, calm, calmC, calmP, immB, noLoc, noLocC, readsAt, plainK, freeOk, pairOk, rwOk, List.getD_cons_zero, List.getD_cons_succ, Op.operands, Bool.not_eq_true, Option.map_some, Option.map_none, Int.reduceBEq, Int.reduceLT, Int.reduceLE, Int.reduceNeg, Bool.decide_eq_true, Int.reduceBNe, pickOk_f, pickOk_x, pickOk_h, outTup, cond_nest_t, cond_nest_f, cond_same, newB, newC, flatB, flatI, flatS, binK, binI, bne, mapR_len, mapR_app, mapR_emp, mapR_sub, mapR_nil, byL_m, strL_m, allB_m, strL0, row_oneB, row_consB, row_oneI, row_consI, row_oneS, row_consS, set_B, set_I, set_S, rep_B, rep_I, seq_m, slt_m, str0, modS_0, modS_s, ↓evCode_seqI, ↓evCode_condI, thenI_normal, thenI_ret, thenI_exit, branchI_t, branchI_f, runI_nil, runI_cons, opsI_some, stepI_t, stepI_f, guardI_none, guardI_some, runK_nil, runK_cons, opsK_some, kindI_t, kindI_f, endK_some, drawI_nil, drawI_cons, pickOk, aliasCs, standB, tailOf, isSliceK, effOk, Sum.elim_inl, Sum.elim_inr, beq_true, beq_false, Bool.true_beq, Bool.false_beq, Call.operands, List.isEmpty_toArray, Array.toList_append, Option.toArray_some, Option.toArray_none, ty3, ty4, ty9, ty25, ty34, ↓evCode_regionI _ _ _ _ 28])
set_option maxRecDepth 100000 in
set_option maxHeartbeats 40000000 in
theorem rg_value_CheckCommand_k28v2 (C : Oracle) (k_value_field : K_value_field C) (k_value_text : K_value_text C) (p0 : GCommand) (p1 : Int) (p2 : ByteArray) (p3 : Int) (ops : Array Oper) (dr : Bool) (ho : regAt 28 b128 = some (ops, dr)) (r : Bool) (hF : ck_value_CheckCommand_k28v2 p0 p1 p2 p3 = some r) : evCode TT C.wide (evW TT C.wide n128 b128) n128 (.region 28 ops dr) ⟨[(1, .rp [.i .i64 p0.fKind, .s p0.fKey, .s p0.fField, .s p0.fText, .i .i64 p0.fN]), (64, .v (.b false))], [[.v (.i .i64 p1), .v (.s p2), .v (.s ByteArray.empty), .v (.s ByteArray.empty), .v (.i .i64 p3)]]⟩ = some (.normal, ⟨[(1, .rp [.i .i64 p0.fKind, .s p0.fKey, .s p0.fField, .s p0.fText, .i .i64 p0.fN]), (95, .v (.b r))], [[.v (.i .i64 p1), .v (.s p2), .v (.s ByteArray.empty), .v (.s ByteArray.empty), .v (.i .i64 p3)]]⟩) := by
  have e := Option.some.inj (ho.symm.trans (rfl : regAt 28 b128 = some (_, _)))
  obtain ⟨rfl, rfl⟩ := Prod.mk.inj e
  clear e ho
  unfold ck_value_CheckCommand_k28v2 at hF
  refine boolTF (p0.fKind == 22) ?_ ?_
  focus
    intro h1
    replace hF := condT h1 hF
    refine boolFT (decide (4 ≤ p0.fKind)) ?_ ?_
    focus
      intro h2
      replace hF := condF h2 hF
      have g1 : C.wide 62 [.v (.s p0.fText)] [] = some (.v (.b (value_text_v p0.fText)), []) := k_value_text p0.fText _ (value_text_t p0.fText)
      have hR := Option.some.inj hF
      clear hF
      subst hR
    rotate_left 1
    intro h2
    replace hF := condT h2 hF
    refine boolFT (decide (p0.fKind ≤ 6)) ?_ ?_
    focus
      intro h3
      replace hF := condF h3 hF
      have g1 : C.wide 62 [.v (.s p0.fText)] [] = some (.v (.b (value_text_v p0.fText)), []) := k_value_text p0.fText _ (value_text_t p0.fText)
      have hR := Option.some.inj hF
      clear hF
      subst hR
    rotate_left 1
    intro h3
    replace hF := condT h3 hF
    have g2 : C.wide 67 [.v (.s p0.fField)] [] = some (.v (.b (value_field_v p0.fField)), []) := k_value_field p0.fField _ (value_field_t p0.fField)
    refine boolTF (value_field_v p0.fField) ?_ ?_
    focus
      intro h4
      replace hF := condT h4 hF
      have g1 : C.wide 62 [.v (.s p0.fText)] [] = some (.v (.b (value_text_v p0.fText)), []) := k_value_text p0.fText _ (value_text_t p0.fText)
      have hR := Option.some.inj hF
      clear hF
      subst hR
    rotate_left 1
    intro h4
    replace hF := condF h4 hF
    have hR := Option.some.inj hF
    clear hF
    subst hR
  rotate_left 4
  intro h1
  replace hF := condF h1 hF
  unfold ck_value_CheckCommand_k28v2_c0 at hF
  have g3 : C.wide 67 [.v (.s p0.fKey)] [] = some (.v (.b (value_field_v p0.fKey)), []) := k_value_field p0.fKey _ (value_field_t p0.fKey)
  refine boolFT (value_field_v p0.fKey) ?_ ?_
  focus
    intro h2
    replace hF := condF h2 hF
    have hR := Option.some.inj hF
    clear hF
    subst hR
  rotate_left 1
  intro h2
  replace hF := condT h2 hF
  refine boolFT (decide (4 ≤ p0.fKind)) ?_ ?_
  focus
    intro h3
    replace hF := condF h3 hF
    have g1 : C.wide 62 [.v (.s p0.fText)] [] = some (.v (.b (value_text_v p0.fText)), []) := k_value_text p0.fText _ (value_text_t p0.fText)
    have hR := Option.some.inj hF
    clear hF
    subst hR
  rotate_left 1
  intro h3
  replace hF := condT h3 hF
  refine boolFT (decide (p0.fKind ≤ 6)) ?_ ?_
  focus
    intro h4
    replace hF := condF h4 hF
    have g1 : C.wide 62 [.v (.s p0.fText)] [] = some (.v (.b (value_text_v p0.fText)), []) := k_value_text p0.fText _ (value_text_t p0.fText)
    have hR := Option.some.inj hF
    clear hF
    subst hR
  rotate_left 1
  intro h4
  replace hF := condT h4 hF
  have g2 : C.wide 67 [.v (.s p0.fField)] [] = some (.v (.b (value_field_v p0.fField)), []) := k_value_field p0.fField _ (value_field_t p0.fField)
  refine boolTF (value_field_v p0.fField) ?_ ?_
  focus
    intro h5
    replace hF := condT h5 hF
    have g1 : C.wide 62 [.v (.s p0.fText)] [] = some (.v (.b (value_text_v p0.fText)), []) := k_value_text p0.fText _ (value_text_t p0.fText)
    have hR := Option.some.inj hF
    clear hF
    subst hR
  rotate_left 1
  intro h5
  replace hF := condF h5 hF
  have hR := Option.some.inj hF
  clear hF
  subst hR
  all_goals (simp (maxSteps := 4000000) only [*, res128, n128k0, n128k1, n128k2, n128k3, n128k4, n128k5, n128k6, n128k7, n128k8, n128k9, n128k10, n128k11, n128k12, n128k13, n128k14, n128k15, n128k16, n128k17, n128k18, n128k19, n128k20, n128k21, n128k22, n128k23, n128k24, n128k25, n128k26, n128k27, n128k28, n128k29, n128k30, n128k31, n128k32, n128f18, n128f23, n128ro, n128mv, n128gv, ↓evCode_skip, ↓evCode_ret, ↓evCode_exit, ↓evCode_loop, ↓evCode_block_seq, ↓evCode_block_region, ↓evCode_block_cond, ↓evCode_block_block, ↓evCode_block_skip, ↓cond_true, ↓cond_false, enter, List.toList_toArray, Bool.false_and, cond_false, guardB, yieldedD, isWork, cond_true, workOk, workOp, Mx.force, opnd, Mx.look, Nat.reduceBEq, solid, Mx.fit, fitCs, fitC, List.isEmpty_cons, List.isEmpty_nil, Bool.false_or, Bool.or_false, Bool.true_or, Bool.or_true, Bool.and_true, Bool.true_and, Bool.and_false, Bool.not_true, Bool.not_false, Bool.not_not, Bool.or_not_self, Bool.not_or_self, Bool.and_self, Bool.or_self, toVs, cellsOf, toV, setReg_m, spend_m, hasOwn, ownFree, List.all_cons, List.all_nil, ownFreeC, Mx.put, ofConst, ofCell, after_some, Mx.prune, List.map_cons, List.map_nil, killB, killBs, unblock_normal, unblock_ret, unblock_exit, pureOp, putDst, offReg_m, callFails, isFuncCall, Option.isNone_none, Option.isNone_some, Option.isSome_none, Option.isSome_some, fieldOff, loadAt, partD, List.length_cons, List.length_nil, List.map, List.drop_succ_cons, List.drop_zero, List.take_succ_cons, List.take_zero, List.take_nil, List.drop_nil, List.getElem?_cons_zero, List.getElem?_cons_succ, List.getElem?_nil, Nat.reduceAdd, Nat.reduceMul, Nat.zero_add, Nat.add_zero, binD, binV, eqCells, eqC, lenD, sliceOf, ite_true, if_true, eq_self, reduceIte, reduceCtorEq, finish_ret, finish_normal, giveBack, resAll, resOne, outD, outOk, stayC, cellOk, valOk, lowC, lowP, forceAll, bound, asNat, elemIs, isStrK, sameInt, sliceD, kill, spendLoc, spendOk, setOwn, dropAl, dropAls, inReg, inObj, isCell, gone, List.contains_cons, List.contains_nil, List.elem_cons, List.elem_nil, lend, lendA, tracked, trackedA, noSlT, noSlV, bare, bareC, List.any_cons, List.any_nil, frz, frzC, frzReg_m, isGive, argE, argsE, isOwn, noOwn, fill, setCells, setVs, takeParts, rowsOf, inOrder, ownAt, List.set_cons_zero, List.set_cons_succ, List.nil_append, List.cons_append, List.append_nil, Nat.reduceBNe, Nat.reduceSub, Nat.reduceLT, Nat.reduceLeDiff, decide_true, decide_false, Int.cast_ofNat_Int, again_norm, againN_some, trunc_m, lowA, lowLoc, again_ret, again_exit, beq_self_eq_true, Bool.cond_true_left, Bool.cond_false_right, Bool.cond_false_left, Bool.cond_true_right, ge_iff_le, gt_iff_lt, kindW, plainWork, ownsDst, calmOp, calm, calmC, calmP, immB, noLoc, noLocC, readsAt, plainK, freeOk, pairOk, rwOk, List.getD_cons_zero, List.getD_cons_succ, Op.operands, Bool.not_eq_true, Option.map_some, Option.map_none, Int.reduceBEq, Int.reduceLT, Int.reduceLE, Int.reduceNeg, Bool.decide_eq_true, Int.reduceBNe, pickOk_f, pickOk_x, pickOk_h, outTup, cond_nest_t, cond_nest_f, cond_same, newB, newC, flatB, flatI, flatS, binK, binI, bne, mapR_len, mapR_app, mapR_emp, mapR_sub, mapR_nil, byL_m, strL_m, allB_m, strL0, row_oneB, row_consB, row_oneI, row_consI, row_oneS, row_consS, set_B, set_I, set_S, rep_B, rep_I, seq_m, slt_m, str0, modS_0, modS_s, ↓evCode_seqI, ↓evCode_condI, thenI_normal, thenI_ret, thenI_exit, branchI_t, branchI_f, runI_nil, runI_cons, opsI_some, stepI_t, stepI_f, guardI_none, guardI_some, runK_nil, runK_cons, opsK_some, kindI_t, kindI_f, endK_some, drawI_nil, drawI_cons, pickOk, aliasCs, standB, tailOf, isSliceK, effOk, Sum.elim_inl, Sum.elim_inr, beq_true, beq_false, Bool.true_beq, Bool.false_beq, Call.operands, List.isEmpty_toArray, Array.toList_append, Option.toArray_some, Option.toArray_none, ty3, ty4, ty9, ty25, ty34, ↓evCode_regionI _ _ _ _ 28])
set_option maxRecDepth 100000 in
set_option maxHeartbeats 40000000 in
theorem rg_value_CheckCommand_k28v3 (C : Oracle) (k_value_field : K_value_field C) (k_value_text : K_value_text C) (p0 : GCommand) (p1 : Int) (p2 : ByteArray) (p3 : ByteArray) (p4 : ByteArray) (ops : Array Oper) (dr : Bool) (ho : regAt 28 b128 = some (ops, dr)) (r : Bool) (hF : ck_value_CheckCommand_k28v3 p0 p1 p2 p3 p4 = some r) : evCode TT C.wide (evW TT C.wide n128 b128) n128 (.region 28 ops dr) ⟨[(1, .rp [.i .i64 p0.fKind, .s p0.fKey, .s p0.fField, .s p0.fText, .i .i64 p0.fN]), (64, .v (.b false))], [[.v (.i .i64 p1), .v (.s p2), .v (.s p3), .v (.s p4), .v (.i .i64 0)]]⟩ = some (.normal, ⟨[(1, .rp [.i .i64 p0.fKind, .s p0.fKey, .s p0.fField, .s p0.fText, .i .i64 p0.fN]), (95, .v (.b r))], [[.v (.i .i64 p1), .v (.s p2), .v (.s p3), .v (.s p4), .v (.i .i64 0)]]⟩) := by
  have e := Option.some.inj (ho.symm.trans (rfl : regAt 28 b128 = some (_, _)))
  obtain ⟨rfl, rfl⟩ := Prod.mk.inj e
  clear e ho
  unfold ck_value_CheckCommand_k28v3 at hF
  refine boolTF (p0.fKind == 22) ?_ ?_
  focus
    intro h1
    replace hF := condT h1 hF
    refine boolFT (decide (4 ≤ p0.fKind)) ?_ ?_
    focus
      intro h2
      replace hF := condF h2 hF
      have g1 : C.wide 62 [.v (.s p0.fText)] [] = some (.v (.b (value_text_v p0.fText)), []) := k_value_text p0.fText _ (value_text_t p0.fText)
      have hR := Option.some.inj hF
      clear hF
      subst hR
    rotate_left 1
    intro h2
    replace hF := condT h2 hF
    refine boolFT (decide (p0.fKind ≤ 6)) ?_ ?_
    focus
      intro h3
      replace hF := condF h3 hF
      have g1 : C.wide 62 [.v (.s p0.fText)] [] = some (.v (.b (value_text_v p0.fText)), []) := k_value_text p0.fText _ (value_text_t p0.fText)
      have hR := Option.some.inj hF
      clear hF
      subst hR
    rotate_left 1
    intro h3
    replace hF := condT h3 hF
    have g2 : C.wide 67 [.v (.s p0.fField)] [] = some (.v (.b (value_field_v p0.fField)), []) := k_value_field p0.fField _ (value_field_t p0.fField)
    refine boolTF (value_field_v p0.fField) ?_ ?_
    focus
      intro h4
      replace hF := condT h4 hF
      have g1 : C.wide 62 [.v (.s p0.fText)] [] = some (.v (.b (value_text_v p0.fText)), []) := k_value_text p0.fText _ (value_text_t p0.fText)
      have hR := Option.some.inj hF
      clear hF
      subst hR
    rotate_left 1
    intro h4
    replace hF := condF h4 hF
    have hR := Option.some.inj hF
    clear hF
    subst hR
  rotate_left 4
  intro h1
  replace hF := condF h1 hF
  unfold ck_value_CheckCommand_k28v3_c0 at hF
  have g3 : C.wide 67 [.v (.s p0.fKey)] [] = some (.v (.b (value_field_v p0.fKey)), []) := k_value_field p0.fKey _ (value_field_t p0.fKey)
  refine boolFT (value_field_v p0.fKey) ?_ ?_
  focus
    intro h2
    replace hF := condF h2 hF
    have hR := Option.some.inj hF
    clear hF
    subst hR
  rotate_left 1
  intro h2
  replace hF := condT h2 hF
  refine boolFT (decide (4 ≤ p0.fKind)) ?_ ?_
  focus
    intro h3
    replace hF := condF h3 hF
    have g1 : C.wide 62 [.v (.s p0.fText)] [] = some (.v (.b (value_text_v p0.fText)), []) := k_value_text p0.fText _ (value_text_t p0.fText)
    have hR := Option.some.inj hF
    clear hF
    subst hR
  rotate_left 1
  intro h3
  replace hF := condT h3 hF
  refine boolFT (decide (p0.fKind ≤ 6)) ?_ ?_
  focus
    intro h4
    replace hF := condF h4 hF
    have g1 : C.wide 62 [.v (.s p0.fText)] [] = some (.v (.b (value_text_v p0.fText)), []) := k_value_text p0.fText _ (value_text_t p0.fText)
    have hR := Option.some.inj hF
    clear hF
    subst hR
  rotate_left 1
  intro h4
  replace hF := condT h4 hF
  have g2 : C.wide 67 [.v (.s p0.fField)] [] = some (.v (.b (value_field_v p0.fField)), []) := k_value_field p0.fField _ (value_field_t p0.fField)
  refine boolTF (value_field_v p0.fField) ?_ ?_
  focus
    intro h5
    replace hF := condT h5 hF
    have g1 : C.wide 62 [.v (.s p0.fText)] [] = some (.v (.b (value_text_v p0.fText)), []) := k_value_text p0.fText _ (value_text_t p0.fText)
    have hR := Option.some.inj hF
    clear hF
    subst hR
  rotate_left 1
  intro h5
  replace hF := condF h5 hF
  have hR := Option.some.inj hF
  clear hF
  subst hR
  all_goals (simp (maxSteps := 4000000) only [*, res128, n128k0, n128k1, n128k2, n128k3, n128k4, n128k5, n128k6, n128k7, n128k8, n128k9, n128k10, n128k11, n128k12, n128k13, n128k14, n128k15, n128k16, n128k17, n128k18, n128k19, n128k20, n128k21, n128k22, n128k23, n128k24, n128k25, n128k26, n128k27, n128k28, n128k29, n128k30, n128k31, n128k32, n128f18, n128f23, n128ro, n128mv, n128gv, ↓evCode_skip, ↓evCode_ret, ↓evCode_exit, ↓evCode_loop, ↓evCode_block_seq, ↓evCode_block_region, ↓evCode_block_cond, ↓evCode_block_block, ↓evCode_block_skip, ↓cond_true, ↓cond_false, enter, List.toList_toArray, Bool.false_and, cond_false, guardB, yieldedD, isWork, cond_true, workOk, workOp, Mx.force, opnd, Mx.look, Nat.reduceBEq, solid, Mx.fit, fitCs, fitC, List.isEmpty_cons, List.isEmpty_nil, Bool.false_or, Bool.or_false, Bool.true_or, Bool.or_true, Bool.and_true, Bool.true_and, Bool.and_false, Bool.not_true, Bool.not_false, Bool.not_not, Bool.or_not_self, Bool.not_or_self, Bool.and_self, Bool.or_self, toVs, cellsOf, toV, setReg_m, spend_m, hasOwn, ownFree, List.all_cons, List.all_nil, ownFreeC, Mx.put, ofConst, ofCell, after_some, Mx.prune, List.map_cons, List.map_nil, killB, killBs, unblock_normal, unblock_ret, unblock_exit, pureOp, putDst, offReg_m, callFails, isFuncCall, Option.isNone_none, Option.isNone_some, Option.isSome_none, Option.isSome_some, fieldOff, loadAt, partD, List.length_cons, List.length_nil, List.map, List.drop_succ_cons, List.drop_zero, List.take_succ_cons, List.take_zero, List.take_nil, List.drop_nil, List.getElem?_cons_zero, List.getElem?_cons_succ, List.getElem?_nil, Nat.reduceAdd, Nat.reduceMul, Nat.zero_add, Nat.add_zero, binD, binV, eqCells, eqC, lenD, sliceOf, ite_true, if_true, eq_self, reduceIte, reduceCtorEq, finish_ret, finish_normal, giveBack, resAll, resOne, outD, outOk, stayC, cellOk, valOk, lowC, lowP, forceAll, bound, asNat, elemIs, isStrK, sameInt, sliceD, kill, spendLoc, spendOk, setOwn, dropAl, dropAls, inReg, inObj, isCell, gone, List.contains_cons, List.contains_nil, List.elem_cons, List.elem_nil, lend, lendA, tracked, trackedA, noSlT, noSlV, bare, bareC, List.any_cons, List.any_nil, frz, frzC, frzReg_m, isGive, argE, argsE, isOwn, noOwn, fill, setCells, setVs, takeParts, rowsOf, inOrder, ownAt, List.set_cons_zero, List.set_cons_succ, List.nil_append, List.cons_append, List.append_nil, Nat.reduceBNe, Nat.reduceSub, Nat.reduceLT, Nat.reduceLeDiff, decide_true, decide_false, Int.cast_ofNat_Int, again_norm, againN_some, trunc_m, lowA, lowLoc, again_ret, again_exit, beq_self_eq_true, Bool.cond_true_left, Bool.cond_false_right, Bool.cond_false_left, Bool.cond_true_right, ge_iff_le, gt_iff_lt, kindW, plainWork, ownsDst, calmOp, calm, calmC, calmP, immB, noLoc, noLocC, readsAt, plainK, freeOk, pairOk, rwOk, List.getD_cons_zero, List.getD_cons_succ, Op.operands, Bool.not_eq_true, Option.map_some, Option.map_none, Int.reduceBEq, Int.reduceLT, Int.reduceLE, Int.reduceNeg, Bool.decide_eq_true, Int.reduceBNe, pickOk_f, pickOk_x, pickOk_h, outTup, cond_nest_t, cond_nest_f, cond_same, newB, newC, flatB, flatI, flatS, binK, binI, bne, mapR_len, mapR_app, mapR_emp, mapR_sub, mapR_nil, byL_m, strL_m, allB_m, strL0, row_oneB, row_consB, row_oneI, row_consI, row_oneS, row_consS, set_B, set_I, set_S, rep_B, rep_I, seq_m, slt_m, str0, modS_0, modS_s, ↓evCode_seqI, ↓evCode_condI, thenI_normal, thenI_ret, thenI_exit, branchI_t, branchI_f, runI_nil, runI_cons, opsI_some, stepI_t, stepI_f, guardI_none, guardI_some, runK_nil, runK_cons, opsK_some, kindI_t, kindI_f, endK_some, drawI_nil, drawI_cons, pickOk, aliasCs, standB, tailOf, isSliceK, effOk, Sum.elim_inl, Sum.elim_inr, beq_true, beq_false, Bool.true_beq, Bool.false_beq, Call.operands, List.isEmpty_toArray, Array.toList_append, Option.toArray_some, Option.toArray_none, ty3, ty4, ty9, ty25, ty34, ↓evCode_regionI _ _ _ _ 28])
set_option maxRecDepth 100000 in
set_option maxHeartbeats 40000000 in
theorem rg_value_CheckCommand_k28v4 (C : Oracle) (k_value_field : K_value_field C) (k_value_text : K_value_text C) (p0 : GCommand) (p1 : Int) (p2 : ByteArray) (p3 : ByteArray) (ops : Array Oper) (dr : Bool) (ho : regAt 28 b128 = some (ops, dr)) (r : Bool) (hF : ck_value_CheckCommand_k28v4 p0 p1 p2 p3 = some r) : evCode TT C.wide (evW TT C.wide n128 b128) n128 (.region 28 ops dr) ⟨[(1, .rp [.i .i64 p0.fKind, .s p0.fKey, .s p0.fField, .s p0.fText, .i .i64 p0.fN]), (64, .v (.b false))], [[.v (.i .i64 p1), .v (.s p2), .v (.s p3), .v (.s ByteArray.empty), .v (.i .i64 0)]]⟩ = some (.normal, ⟨[(1, .rp [.i .i64 p0.fKind, .s p0.fKey, .s p0.fField, .s p0.fText, .i .i64 p0.fN]), (95, .v (.b r))], [[.v (.i .i64 p1), .v (.s p2), .v (.s p3), .v (.s ByteArray.empty), .v (.i .i64 0)]]⟩) := by
  have e := Option.some.inj (ho.symm.trans (rfl : regAt 28 b128 = some (_, _)))
  obtain ⟨rfl, rfl⟩ := Prod.mk.inj e
  clear e ho
  unfold ck_value_CheckCommand_k28v4 at hF
  refine boolTF (p0.fKind == 22) ?_ ?_
  focus
    intro h1
    replace hF := condT h1 hF
    refine boolFT (decide (4 ≤ p0.fKind)) ?_ ?_
    focus
      intro h2
      replace hF := condF h2 hF
      have g1 : C.wide 62 [.v (.s p0.fText)] [] = some (.v (.b (value_text_v p0.fText)), []) := k_value_text p0.fText _ (value_text_t p0.fText)
      have hR := Option.some.inj hF
      clear hF
      subst hR
    rotate_left 1
    intro h2
    replace hF := condT h2 hF
    refine boolFT (decide (p0.fKind ≤ 6)) ?_ ?_
    focus
      intro h3
      replace hF := condF h3 hF
      have g1 : C.wide 62 [.v (.s p0.fText)] [] = some (.v (.b (value_text_v p0.fText)), []) := k_value_text p0.fText _ (value_text_t p0.fText)
      have hR := Option.some.inj hF
      clear hF
      subst hR
    rotate_left 1
    intro h3
    replace hF := condT h3 hF
    have g2 : C.wide 67 [.v (.s p0.fField)] [] = some (.v (.b (value_field_v p0.fField)), []) := k_value_field p0.fField _ (value_field_t p0.fField)
    refine boolTF (value_field_v p0.fField) ?_ ?_
    focus
      intro h4
      replace hF := condT h4 hF
      have g1 : C.wide 62 [.v (.s p0.fText)] [] = some (.v (.b (value_text_v p0.fText)), []) := k_value_text p0.fText _ (value_text_t p0.fText)
      have hR := Option.some.inj hF
      clear hF
      subst hR
    rotate_left 1
    intro h4
    replace hF := condF h4 hF
    have hR := Option.some.inj hF
    clear hF
    subst hR
  rotate_left 4
  intro h1
  replace hF := condF h1 hF
  unfold ck_value_CheckCommand_k28v4_c0 at hF
  have g3 : C.wide 67 [.v (.s p0.fKey)] [] = some (.v (.b (value_field_v p0.fKey)), []) := k_value_field p0.fKey _ (value_field_t p0.fKey)
  refine boolFT (value_field_v p0.fKey) ?_ ?_
  focus
    intro h2
    replace hF := condF h2 hF
    have hR := Option.some.inj hF
    clear hF
    subst hR
  rotate_left 1
  intro h2
  replace hF := condT h2 hF
  refine boolFT (decide (4 ≤ p0.fKind)) ?_ ?_
  focus
    intro h3
    replace hF := condF h3 hF
    have g1 : C.wide 62 [.v (.s p0.fText)] [] = some (.v (.b (value_text_v p0.fText)), []) := k_value_text p0.fText _ (value_text_t p0.fText)
    have hR := Option.some.inj hF
    clear hF
    subst hR
  rotate_left 1
  intro h3
  replace hF := condT h3 hF
  refine boolFT (decide (p0.fKind ≤ 6)) ?_ ?_
  focus
    intro h4
    replace hF := condF h4 hF
    have g1 : C.wide 62 [.v (.s p0.fText)] [] = some (.v (.b (value_text_v p0.fText)), []) := k_value_text p0.fText _ (value_text_t p0.fText)
    have hR := Option.some.inj hF
    clear hF
    subst hR
  rotate_left 1
  intro h4
  replace hF := condT h4 hF
  have g2 : C.wide 67 [.v (.s p0.fField)] [] = some (.v (.b (value_field_v p0.fField)), []) := k_value_field p0.fField _ (value_field_t p0.fField)
  refine boolTF (value_field_v p0.fField) ?_ ?_
  focus
    intro h5
    replace hF := condT h5 hF
    have g1 : C.wide 62 [.v (.s p0.fText)] [] = some (.v (.b (value_text_v p0.fText)), []) := k_value_text p0.fText _ (value_text_t p0.fText)
    have hR := Option.some.inj hF
    clear hF
    subst hR
  rotate_left 1
  intro h5
  replace hF := condF h5 hF
  have hR := Option.some.inj hF
  clear hF
  subst hR
  all_goals (simp (maxSteps := 4000000) only [*, res128, n128k0, n128k1, n128k2, n128k3, n128k4, n128k5, n128k6, n128k7, n128k8, n128k9, n128k10, n128k11, n128k12, n128k13, n128k14, n128k15, n128k16, n128k17, n128k18, n128k19, n128k20, n128k21, n128k22, n128k23, n128k24, n128k25, n128k26, n128k27, n128k28, n128k29, n128k30, n128k31, n128k32, n128f18, n128f23, n128ro, n128mv, n128gv, ↓evCode_skip, ↓evCode_ret, ↓evCode_exit, ↓evCode_loop, ↓evCode_block_seq, ↓evCode_block_region, ↓evCode_block_cond, ↓evCode_block_block, ↓evCode_block_skip, ↓cond_true, ↓cond_false, enter, List.toList_toArray, Bool.false_and, cond_false, guardB, yieldedD, isWork, cond_true, workOk, workOp, Mx.force, opnd, Mx.look, Nat.reduceBEq, solid, Mx.fit, fitCs, fitC, List.isEmpty_cons, List.isEmpty_nil, Bool.false_or, Bool.or_false, Bool.true_or, Bool.or_true, Bool.and_true, Bool.true_and, Bool.and_false, Bool.not_true, Bool.not_false, Bool.not_not, Bool.or_not_self, Bool.not_or_self, Bool.and_self, Bool.or_self, toVs, cellsOf, toV, setReg_m, spend_m, hasOwn, ownFree, List.all_cons, List.all_nil, ownFreeC, Mx.put, ofConst, ofCell, after_some, Mx.prune, List.map_cons, List.map_nil, killB, killBs, unblock_normal, unblock_ret, unblock_exit, pureOp, putDst, offReg_m, callFails, isFuncCall, Option.isNone_none, Option.isNone_some, Option.isSome_none, Option.isSome_some, fieldOff, loadAt, partD, List.length_cons, List.length_nil, List.map, List.drop_succ_cons, List.drop_zero, List.take_succ_cons, List.take_zero, List.take_nil, List.drop_nil, List.getElem?_cons_zero, List.getElem?_cons_succ, List.getElem?_nil, Nat.reduceAdd, Nat.reduceMul, Nat.zero_add, Nat.add_zero, binD, binV, eqCells, eqC, lenD, sliceOf, ite_true, if_true, eq_self, reduceIte, reduceCtorEq, finish_ret, finish_normal, giveBack, resAll, resOne, outD, outOk, stayC, cellOk, valOk, lowC, lowP, forceAll, bound, asNat, elemIs, isStrK, sameInt, sliceD, kill, spendLoc, spendOk, setOwn, dropAl, dropAls, inReg, inObj, isCell, gone, List.contains_cons, List.contains_nil, List.elem_cons, List.elem_nil, lend, lendA, tracked, trackedA, noSlT, noSlV, bare, bareC, List.any_cons, List.any_nil, frz, frzC, frzReg_m, isGive, argE, argsE, isOwn, noOwn, fill, setCells, setVs, takeParts, rowsOf, inOrder, ownAt, List.set_cons_zero, List.set_cons_succ, List.nil_append, List.cons_append, List.append_nil, Nat.reduceBNe, Nat.reduceSub, Nat.reduceLT, Nat.reduceLeDiff, decide_true, decide_false, Int.cast_ofNat_Int, again_norm, againN_some, trunc_m, lowA, lowLoc, again_ret, again_exit, beq_self_eq_true, Bool.cond_true_left, Bool.cond_false_right, Bool.cond_false_left, Bool.cond_true_right, ge_iff_le, gt_iff_lt, kindW, plainWork, ownsDst, calmOp, calm, calmC, calmP, immB, noLoc, noLocC, readsAt, plainK, freeOk, pairOk, rwOk, List.getD_cons_zero, List.getD_cons_succ, Op.operands, Bool.not_eq_true, Option.map_some, Option.map_none, Int.reduceBEq, Int.reduceLT, Int.reduceLE, Int.reduceNeg, Bool.decide_eq_true, Int.reduceBNe, pickOk_f, pickOk_x, pickOk_h, outTup, cond_nest_t, cond_nest_f, cond_same, newB, newC, flatB, flatI, flatS, binK, binI, bne, mapR_len, mapR_app, mapR_emp, mapR_sub, mapR_nil, byL_m, strL_m, allB_m, strL0, row_oneB, row_consB, row_oneI, row_consI, row_oneS, row_consS, set_B, set_I, set_S, rep_B, rep_I, seq_m, slt_m, str0, modS_0, modS_s, ↓evCode_seqI, ↓evCode_condI, thenI_normal, thenI_ret, thenI_exit, branchI_t, branchI_f, runI_nil, runI_cons, opsI_some, stepI_t, stepI_f, guardI_none, guardI_some, runK_nil, runK_cons, opsK_some, kindI_t, kindI_f, endK_some, drawI_nil, drawI_cons, pickOk, aliasCs, standB, tailOf, isSliceK, effOk, Sum.elim_inl, Sum.elim_inr, beq_true, beq_false, Bool.true_beq, Bool.false_beq, Call.operands, List.isEmpty_toArray, Array.toList_append, Option.toArray_some, Option.toArray_none, ty3, ty4, ty9, ty25, ty34, ↓evCode_regionI _ _ _ _ 28])
set_option maxRecDepth 100000 in
set_option maxHeartbeats 40000000 in
theorem rg_value_CheckCommand_k28v5 (C : Oracle) (k_value_field : K_value_field C) (k_value_text : K_value_text C) (p0 : GCommand) (p1 : Int) (p2 : ByteArray) (p3 : ByteArray) (p4 : Int) (ops : Array Oper) (dr : Bool) (ho : regAt 28 b128 = some (ops, dr)) (r : Bool) (hF : ck_value_CheckCommand_k28v5 p0 p1 p2 p3 p4 = some r) : evCode TT C.wide (evW TT C.wide n128 b128) n128 (.region 28 ops dr) ⟨[(1, .rp [.i .i64 p0.fKind, .s p0.fKey, .s p0.fField, .s p0.fText, .i .i64 p0.fN]), (64, .v (.b false))], [[.v (.i .i64 p1), .v (.s p2), .v (.s ByteArray.empty), .v (.s p3), .v (.i .i64 p4)]]⟩ = some (.normal, ⟨[(1, .rp [.i .i64 p0.fKind, .s p0.fKey, .s p0.fField, .s p0.fText, .i .i64 p0.fN]), (95, .v (.b r))], [[.v (.i .i64 p1), .v (.s p2), .v (.s ByteArray.empty), .v (.s p3), .v (.i .i64 p4)]]⟩) := by
  have e := Option.some.inj (ho.symm.trans (rfl : regAt 28 b128 = some (_, _)))
  obtain ⟨rfl, rfl⟩ := Prod.mk.inj e
  clear e ho
  unfold ck_value_CheckCommand_k28v5 at hF
  refine boolTF (p0.fKind == 22) ?_ ?_
  focus
    intro h1
    replace hF := condT h1 hF
    refine boolFT (decide (4 ≤ p0.fKind)) ?_ ?_
    focus
      intro h2
      replace hF := condF h2 hF
      have g1 : C.wide 62 [.v (.s p0.fText)] [] = some (.v (.b (value_text_v p0.fText)), []) := k_value_text p0.fText _ (value_text_t p0.fText)
      have hR := Option.some.inj hF
      clear hF
      subst hR
    rotate_left 1
    intro h2
    replace hF := condT h2 hF
    refine boolFT (decide (p0.fKind ≤ 6)) ?_ ?_
    focus
      intro h3
      replace hF := condF h3 hF
      have g1 : C.wide 62 [.v (.s p0.fText)] [] = some (.v (.b (value_text_v p0.fText)), []) := k_value_text p0.fText _ (value_text_t p0.fText)
      have hR := Option.some.inj hF
      clear hF
      subst hR
    rotate_left 1
    intro h3
    replace hF := condT h3 hF
    have g2 : C.wide 67 [.v (.s p0.fField)] [] = some (.v (.b (value_field_v p0.fField)), []) := k_value_field p0.fField _ (value_field_t p0.fField)
    refine boolTF (value_field_v p0.fField) ?_ ?_
    focus
      intro h4
      replace hF := condT h4 hF
      have g1 : C.wide 62 [.v (.s p0.fText)] [] = some (.v (.b (value_text_v p0.fText)), []) := k_value_text p0.fText _ (value_text_t p0.fText)
      have hR := Option.some.inj hF
      clear hF
      subst hR
    rotate_left 1
    intro h4
    replace hF := condF h4 hF
    have hR := Option.some.inj hF
    clear hF
    subst hR
  rotate_left 4
  intro h1
  replace hF := condF h1 hF
  unfold ck_value_CheckCommand_k28v5_c0 at hF
  have g3 : C.wide 67 [.v (.s p0.fKey)] [] = some (.v (.b (value_field_v p0.fKey)), []) := k_value_field p0.fKey _ (value_field_t p0.fKey)
  refine boolFT (value_field_v p0.fKey) ?_ ?_
  focus
    intro h2
    replace hF := condF h2 hF
    have hR := Option.some.inj hF
    clear hF
    subst hR
  rotate_left 1
  intro h2
  replace hF := condT h2 hF
  refine boolFT (decide (4 ≤ p0.fKind)) ?_ ?_
  focus
    intro h3
    replace hF := condF h3 hF
    have g1 : C.wide 62 [.v (.s p0.fText)] [] = some (.v (.b (value_text_v p0.fText)), []) := k_value_text p0.fText _ (value_text_t p0.fText)
    have hR := Option.some.inj hF
    clear hF
    subst hR
  rotate_left 1
  intro h3
  replace hF := condT h3 hF
  refine boolFT (decide (p0.fKind ≤ 6)) ?_ ?_
  focus
    intro h4
    replace hF := condF h4 hF
    have g1 : C.wide 62 [.v (.s p0.fText)] [] = some (.v (.b (value_text_v p0.fText)), []) := k_value_text p0.fText _ (value_text_t p0.fText)
    have hR := Option.some.inj hF
    clear hF
    subst hR
  rotate_left 1
  intro h4
  replace hF := condT h4 hF
  have g2 : C.wide 67 [.v (.s p0.fField)] [] = some (.v (.b (value_field_v p0.fField)), []) := k_value_field p0.fField _ (value_field_t p0.fField)
  refine boolTF (value_field_v p0.fField) ?_ ?_
  focus
    intro h5
    replace hF := condT h5 hF
    have g1 : C.wide 62 [.v (.s p0.fText)] [] = some (.v (.b (value_text_v p0.fText)), []) := k_value_text p0.fText _ (value_text_t p0.fText)
    have hR := Option.some.inj hF
    clear hF
    subst hR
  rotate_left 1
  intro h5
  replace hF := condF h5 hF
  have hR := Option.some.inj hF
  clear hF
  subst hR
  all_goals (simp (maxSteps := 4000000) only [*, res128, n128k0, n128k1, n128k2, n128k3, n128k4, n128k5, n128k6, n128k7, n128k8, n128k9, n128k10, n128k11, n128k12, n128k13, n128k14, n128k15, n128k16, n128k17, n128k18, n128k19, n128k20, n128k21, n128k22, n128k23, n128k24, n128k25, n128k26, n128k27, n128k28, n128k29, n128k30, n128k31, n128k32, n128f18, n128f23, n128ro, n128mv, n128gv, ↓evCode_skip, ↓evCode_ret, ↓evCode_exit, ↓evCode_loop, ↓evCode_block_seq, ↓evCode_block_region, ↓evCode_block_cond, ↓evCode_block_block, ↓evCode_block_skip, ↓cond_true, ↓cond_false, enter, List.toList_toArray, Bool.false_and, cond_false, guardB, yieldedD, isWork, cond_true, workOk, workOp, Mx.force, opnd, Mx.look, Nat.reduceBEq, solid, Mx.fit, fitCs, fitC, List.isEmpty_cons, List.isEmpty_nil, Bool.false_or, Bool.or_false, Bool.true_or, Bool.or_true, Bool.and_true, Bool.true_and, Bool.and_false, Bool.not_true, Bool.not_false, Bool.not_not, Bool.or_not_self, Bool.not_or_self, Bool.and_self, Bool.or_self, toVs, cellsOf, toV, setReg_m, spend_m, hasOwn, ownFree, List.all_cons, List.all_nil, ownFreeC, Mx.put, ofConst, ofCell, after_some, Mx.prune, List.map_cons, List.map_nil, killB, killBs, unblock_normal, unblock_ret, unblock_exit, pureOp, putDst, offReg_m, callFails, isFuncCall, Option.isNone_none, Option.isNone_some, Option.isSome_none, Option.isSome_some, fieldOff, loadAt, partD, List.length_cons, List.length_nil, List.map, List.drop_succ_cons, List.drop_zero, List.take_succ_cons, List.take_zero, List.take_nil, List.drop_nil, List.getElem?_cons_zero, List.getElem?_cons_succ, List.getElem?_nil, Nat.reduceAdd, Nat.reduceMul, Nat.zero_add, Nat.add_zero, binD, binV, eqCells, eqC, lenD, sliceOf, ite_true, if_true, eq_self, reduceIte, reduceCtorEq, finish_ret, finish_normal, giveBack, resAll, resOne, outD, outOk, stayC, cellOk, valOk, lowC, lowP, forceAll, bound, asNat, elemIs, isStrK, sameInt, sliceD, kill, spendLoc, spendOk, setOwn, dropAl, dropAls, inReg, inObj, isCell, gone, List.contains_cons, List.contains_nil, List.elem_cons, List.elem_nil, lend, lendA, tracked, trackedA, noSlT, noSlV, bare, bareC, List.any_cons, List.any_nil, frz, frzC, frzReg_m, isGive, argE, argsE, isOwn, noOwn, fill, setCells, setVs, takeParts, rowsOf, inOrder, ownAt, List.set_cons_zero, List.set_cons_succ, List.nil_append, List.cons_append, List.append_nil, Nat.reduceBNe, Nat.reduceSub, Nat.reduceLT, Nat.reduceLeDiff, decide_true, decide_false, Int.cast_ofNat_Int, again_norm, againN_some, trunc_m, lowA, lowLoc, again_ret, again_exit, beq_self_eq_true, Bool.cond_true_left, Bool.cond_false_right, Bool.cond_false_left, Bool.cond_true_right, ge_iff_le, gt_iff_lt, kindW, plainWork, ownsDst, calmOp, calm, calmC, calmP, immB, noLoc, noLocC, readsAt, plainK, freeOk, pairOk, rwOk, List.getD_cons_zero, List.getD_cons_succ, Op.operands, Bool.not_eq_true, Option.map_some, Option.map_none, Int.reduceBEq, Int.reduceLT, Int.reduceLE, Int.reduceNeg, Bool.decide_eq_true, Int.reduceBNe, pickOk_f, pickOk_x, pickOk_h, outTup, cond_nest_t, cond_nest_f, cond_same, newB, newC, flatB, flatI, flatS, binK, binI, bne, mapR_len, mapR_app, mapR_emp, mapR_sub, mapR_nil, byL_m, strL_m, allB_m, strL0, row_oneB, row_consB, row_oneI, row_consI, row_oneS, row_consS, set_B, set_I, set_S, rep_B, rep_I, seq_m, slt_m, str0, modS_0, modS_s, ↓evCode_seqI, ↓evCode_condI, thenI_normal, thenI_ret, thenI_exit, branchI_t, branchI_f, runI_nil, runI_cons, opsI_some, stepI_t, stepI_f, guardI_none, guardI_some, runK_nil, runK_cons, opsK_some, kindI_t, kindI_f, endK_some, drawI_nil, drawI_cons, pickOk, aliasCs, standB, tailOf, isSliceK, effOk, Sum.elim_inl, Sum.elim_inr, beq_true, beq_false, Bool.true_beq, Bool.false_beq, Call.operands, List.isEmpty_toArray, Array.toList_append, Option.toArray_some, Option.toArray_none, ty3, ty4, ty9, ty25, ty34, ↓evCode_regionI _ _ _ _ 28])
set_option maxRecDepth 100000 in
set_option maxHeartbeats 40000000 in
theorem rg_value_CheckCommand_k28v6 (C : Oracle) (k_value_field : K_value_field C) (k_value_text : K_value_text C) (p0 : GCommand) (p1 : Int) (ops : Array Oper) (dr : Bool) (ho : regAt 28 b128 = some (ops, dr)) (r : Bool) (hF : ck_value_CheckCommand_k28v6 p0 p1 = some r) : evCode TT C.wide (evW TT C.wide n128 b128) n128 (.region 28 ops dr) ⟨[(1, .rp [.i .i64 p0.fKind, .s p0.fKey, .s p0.fField, .s p0.fText, .i .i64 p0.fN]), (64, .v (.b false))], [[.v (.i .i64 p1), .v (.s ByteArray.empty), .v (.s ByteArray.empty), .v (.s ByteArray.empty), .v (.i .i64 0)]]⟩ = some (.normal, ⟨[(1, .rp [.i .i64 p0.fKind, .s p0.fKey, .s p0.fField, .s p0.fText, .i .i64 p0.fN]), (95, .v (.b r))], [[.v (.i .i64 p1), .v (.s ByteArray.empty), .v (.s ByteArray.empty), .v (.s ByteArray.empty), .v (.i .i64 0)]]⟩) := by
  have e := Option.some.inj (ho.symm.trans (rfl : regAt 28 b128 = some (_, _)))
  obtain ⟨rfl, rfl⟩ := Prod.mk.inj e
  clear e ho
  unfold ck_value_CheckCommand_k28v6 at hF
  refine boolTF (p0.fKind == 22) ?_ ?_
  focus
    intro h1
    replace hF := condT h1 hF
    refine boolFT (decide (4 ≤ p0.fKind)) ?_ ?_
    focus
      intro h2
      replace hF := condF h2 hF
      have g1 : C.wide 62 [.v (.s p0.fText)] [] = some (.v (.b (value_text_v p0.fText)), []) := k_value_text p0.fText _ (value_text_t p0.fText)
      have hR := Option.some.inj hF
      clear hF
      subst hR
    rotate_left 1
    intro h2
    replace hF := condT h2 hF
    refine boolFT (decide (p0.fKind ≤ 6)) ?_ ?_
    focus
      intro h3
      replace hF := condF h3 hF
      have g1 : C.wide 62 [.v (.s p0.fText)] [] = some (.v (.b (value_text_v p0.fText)), []) := k_value_text p0.fText _ (value_text_t p0.fText)
      have hR := Option.some.inj hF
      clear hF
      subst hR
    rotate_left 1
    intro h3
    replace hF := condT h3 hF
    have g2 : C.wide 67 [.v (.s p0.fField)] [] = some (.v (.b (value_field_v p0.fField)), []) := k_value_field p0.fField _ (value_field_t p0.fField)
    refine boolTF (value_field_v p0.fField) ?_ ?_
    focus
      intro h4
      replace hF := condT h4 hF
      have g1 : C.wide 62 [.v (.s p0.fText)] [] = some (.v (.b (value_text_v p0.fText)), []) := k_value_text p0.fText _ (value_text_t p0.fText)
      have hR := Option.some.inj hF
      clear hF
      subst hR
    rotate_left 1
    intro h4
    replace hF := condF h4 hF
    have hR := Option.some.inj hF
    clear hF
    subst hR
  rotate_left 4
  intro h1
  replace hF := condF h1 hF
  unfold ck_value_CheckCommand_k28v6_c0 at hF
  have g3 : C.wide 67 [.v (.s p0.fKey)] [] = some (.v (.b (value_field_v p0.fKey)), []) := k_value_field p0.fKey _ (value_field_t p0.fKey)
  refine boolFT (value_field_v p0.fKey) ?_ ?_
  focus
    intro h2
    replace hF := condF h2 hF
    have hR := Option.some.inj hF
    clear hF
    subst hR
  rotate_left 1
  intro h2
  replace hF := condT h2 hF
  refine boolFT (decide (4 ≤ p0.fKind)) ?_ ?_
  focus
    intro h3
    replace hF := condF h3 hF
    have g1 : C.wide 62 [.v (.s p0.fText)] [] = some (.v (.b (value_text_v p0.fText)), []) := k_value_text p0.fText _ (value_text_t p0.fText)
    have hR := Option.some.inj hF
    clear hF
    subst hR
  rotate_left 1
  intro h3
  replace hF := condT h3 hF
  refine boolFT (decide (p0.fKind ≤ 6)) ?_ ?_
  focus
    intro h4
    replace hF := condF h4 hF
    have g1 : C.wide 62 [.v (.s p0.fText)] [] = some (.v (.b (value_text_v p0.fText)), []) := k_value_text p0.fText _ (value_text_t p0.fText)
    have hR := Option.some.inj hF
    clear hF
    subst hR
  rotate_left 1
  intro h4
  replace hF := condT h4 hF
  have g2 : C.wide 67 [.v (.s p0.fField)] [] = some (.v (.b (value_field_v p0.fField)), []) := k_value_field p0.fField _ (value_field_t p0.fField)
  refine boolTF (value_field_v p0.fField) ?_ ?_
  focus
    intro h5
    replace hF := condT h5 hF
    have g1 : C.wide 62 [.v (.s p0.fText)] [] = some (.v (.b (value_text_v p0.fText)), []) := k_value_text p0.fText _ (value_text_t p0.fText)
    have hR := Option.some.inj hF
    clear hF
    subst hR
  rotate_left 1
  intro h5
  replace hF := condF h5 hF
  have hR := Option.some.inj hF
  clear hF
  subst hR
  all_goals (simp (maxSteps := 4000000) only [*, res128, n128k0, n128k1, n128k2, n128k3, n128k4, n128k5, n128k6, n128k7, n128k8, n128k9, n128k10, n128k11, n128k12, n128k13, n128k14, n128k15, n128k16, n128k17, n128k18, n128k19, n128k20, n128k21, n128k22, n128k23, n128k24, n128k25, n128k26, n128k27, n128k28, n128k29, n128k30, n128k31, n128k32, n128f18, n128f23, n128ro, n128mv, n128gv, ↓evCode_skip, ↓evCode_ret, ↓evCode_exit, ↓evCode_loop, ↓evCode_block_seq, ↓evCode_block_region, ↓evCode_block_cond, ↓evCode_block_block, ↓evCode_block_skip, ↓cond_true, ↓cond_false, enter, List.toList_toArray, Bool.false_and, cond_false, guardB, yieldedD, isWork, cond_true, workOk, workOp, Mx.force, opnd, Mx.look, Nat.reduceBEq, solid, Mx.fit, fitCs, fitC, List.isEmpty_cons, List.isEmpty_nil, Bool.false_or, Bool.or_false, Bool.true_or, Bool.or_true, Bool.and_true, Bool.true_and, Bool.and_false, Bool.not_true, Bool.not_false, Bool.not_not, Bool.or_not_self, Bool.not_or_self, Bool.and_self, Bool.or_self, toVs, cellsOf, toV, setReg_m, spend_m, hasOwn, ownFree, List.all_cons, List.all_nil, ownFreeC, Mx.put, ofConst, ofCell, after_some, Mx.prune, List.map_cons, List.map_nil, killB, killBs, unblock_normal, unblock_ret, unblock_exit, pureOp, putDst, offReg_m, callFails, isFuncCall, Option.isNone_none, Option.isNone_some, Option.isSome_none, Option.isSome_some, fieldOff, loadAt, partD, List.length_cons, List.length_nil, List.map, List.drop_succ_cons, List.drop_zero, List.take_succ_cons, List.take_zero, List.take_nil, List.drop_nil, List.getElem?_cons_zero, List.getElem?_cons_succ, List.getElem?_nil, Nat.reduceAdd, Nat.reduceMul, Nat.zero_add, Nat.add_zero, binD, binV, eqCells, eqC, lenD, sliceOf, ite_true, if_true, eq_self, reduceIte, reduceCtorEq, finish_ret, finish_normal, giveBack, resAll, resOne, outD, outOk, stayC, cellOk, valOk, lowC, lowP, forceAll, bound, asNat, elemIs, isStrK, sameInt, sliceD, kill, spendLoc, spendOk, setOwn, dropAl, dropAls, inReg, inObj, isCell, gone, List.contains_cons, List.contains_nil, List.elem_cons, List.elem_nil, lend, lendA, tracked, trackedA, noSlT, noSlV, bare, bareC, List.any_cons, List.any_nil, frz, frzC, frzReg_m, isGive, argE, argsE, isOwn, noOwn, fill, setCells, setVs, takeParts, rowsOf, inOrder, ownAt, List.set_cons_zero, List.set_cons_succ, List.nil_append, List.cons_append, List.append_nil, Nat.reduceBNe, Nat.reduceSub, Nat.reduceLT, Nat.reduceLeDiff, decide_true, decide_false, Int.cast_ofNat_Int, again_norm, againN_some, trunc_m, lowA, lowLoc, again_ret, again_exit, beq_self_eq_true, Bool.cond_true_left, Bool.cond_false_right, Bool.cond_false_left, Bool.cond_true_right, ge_iff_le, gt_iff_lt, kindW, plainWork, ownsDst, calmOp, calm, calmC, calmP, immB, noLoc, noLocC, readsAt, plainK, freeOk, pairOk, rwOk, List.getD_cons_zero, List.getD_cons_succ, Op.operands, Bool.not_eq_true, Option.map_some, Option.map_none, Int.reduceBEq, Int.reduceLT, Int.reduceLE, Int.reduceNeg, Bool.decide_eq_true, Int.reduceBNe, pickOk_f, pickOk_x, pickOk_h, outTup, cond_nest_t, cond_nest_f, cond_same, newB, newC, flatB, flatI, flatS, binK, binI, bne, mapR_len, mapR_app, mapR_emp, mapR_sub, mapR_nil, byL_m, strL_m, allB_m, strL0, row_oneB, row_consB, row_oneI, row_consI, row_oneS, row_consS, set_B, set_I, set_S, rep_B, rep_I, seq_m, slt_m, str0, modS_0, modS_s, ↓evCode_seqI, ↓evCode_condI, thenI_normal, thenI_ret, thenI_exit, branchI_t, branchI_f, runI_nil, runI_cons, opsI_some, stepI_t, stepI_f, guardI_none, guardI_some, runK_nil, runK_cons, opsK_some, kindI_t, kindI_f, endK_some, drawI_nil, drawI_cons, pickOk, aliasCs, standB, tailOf, isSliceK, effOk, Sum.elim_inl, Sum.elim_inr, beq_true, beq_false, Bool.true_beq, Bool.false_beq, Call.operands, List.isEmpty_toArray, Array.toList_append, Option.toArray_some, Option.toArray_none, ty3, ty4, ty9, ty25, ty34, ↓evCode_regionI _ _ _ _ 28])
set_option maxRecDepth 100000 in
set_option maxHeartbeats 40000000 in
theorem rg_value_CheckCommand_k28v7 (C : Oracle) (k_value_field : K_value_field C) (k_value_text : K_value_text C) (p0 : GCommand) (p1 : Int) (p2 : ByteArray) (ops : Array Oper) (dr : Bool) (ho : regAt 28 b128 = some (ops, dr)) (r : Bool) (hF : ck_value_CheckCommand_k28v7 p0 p1 p2 = some r) : evCode TT C.wide (evW TT C.wide n128 b128) n128 (.region 28 ops dr) ⟨[(1, .rp [.i .i64 p0.fKind, .s p0.fKey, .s p0.fField, .s p0.fText, .i .i64 p0.fN]), (64, .v (.b false))], [[.v (.i .i64 p1), .v (.s p2), .v (.s ByteArray.empty), .v (.s ByteArray.empty), .v (.i .i64 0)]]⟩ = some (.normal, ⟨[(1, .rp [.i .i64 p0.fKind, .s p0.fKey, .s p0.fField, .s p0.fText, .i .i64 p0.fN]), (95, .v (.b r))], [[.v (.i .i64 p1), .v (.s p2), .v (.s ByteArray.empty), .v (.s ByteArray.empty), .v (.i .i64 0)]]⟩) := by
  have e := Option.some.inj (ho.symm.trans (rfl : regAt 28 b128 = some (_, _)))
  obtain ⟨rfl, rfl⟩ := Prod.mk.inj e
  clear e ho
  unfold ck_value_CheckCommand_k28v7 at hF
  refine boolTF (p0.fKind == 22) ?_ ?_
  focus
    intro h1
    replace hF := condT h1 hF
    refine boolFT (decide (4 ≤ p0.fKind)) ?_ ?_
    focus
      intro h2
      replace hF := condF h2 hF
      have g1 : C.wide 62 [.v (.s p0.fText)] [] = some (.v (.b (value_text_v p0.fText)), []) := k_value_text p0.fText _ (value_text_t p0.fText)
      have hR := Option.some.inj hF
      clear hF
      subst hR
    rotate_left 1
    intro h2
    replace hF := condT h2 hF
    refine boolFT (decide (p0.fKind ≤ 6)) ?_ ?_
    focus
      intro h3
      replace hF := condF h3 hF
      have g1 : C.wide 62 [.v (.s p0.fText)] [] = some (.v (.b (value_text_v p0.fText)), []) := k_value_text p0.fText _ (value_text_t p0.fText)
      have hR := Option.some.inj hF
      clear hF
      subst hR
    rotate_left 1
    intro h3
    replace hF := condT h3 hF
    have g2 : C.wide 67 [.v (.s p0.fField)] [] = some (.v (.b (value_field_v p0.fField)), []) := k_value_field p0.fField _ (value_field_t p0.fField)
    refine boolTF (value_field_v p0.fField) ?_ ?_
    focus
      intro h4
      replace hF := condT h4 hF
      have g1 : C.wide 62 [.v (.s p0.fText)] [] = some (.v (.b (value_text_v p0.fText)), []) := k_value_text p0.fText _ (value_text_t p0.fText)
      have hR := Option.some.inj hF
      clear hF
      subst hR
    rotate_left 1
    intro h4
    replace hF := condF h4 hF
    have hR := Option.some.inj hF
    clear hF
    subst hR
  rotate_left 4
  intro h1
  replace hF := condF h1 hF
  unfold ck_value_CheckCommand_k28v7_c0 at hF
  have g3 : C.wide 67 [.v (.s p0.fKey)] [] = some (.v (.b (value_field_v p0.fKey)), []) := k_value_field p0.fKey _ (value_field_t p0.fKey)
  refine boolFT (value_field_v p0.fKey) ?_ ?_
  focus
    intro h2
    replace hF := condF h2 hF
    have hR := Option.some.inj hF
    clear hF
    subst hR
  rotate_left 1
  intro h2
  replace hF := condT h2 hF
  refine boolFT (decide (4 ≤ p0.fKind)) ?_ ?_
  focus
    intro h3
    replace hF := condF h3 hF
    have g1 : C.wide 62 [.v (.s p0.fText)] [] = some (.v (.b (value_text_v p0.fText)), []) := k_value_text p0.fText _ (value_text_t p0.fText)
    have hR := Option.some.inj hF
    clear hF
    subst hR
  rotate_left 1
  intro h3
  replace hF := condT h3 hF
  refine boolFT (decide (p0.fKind ≤ 6)) ?_ ?_
  focus
    intro h4
    replace hF := condF h4 hF
    have g1 : C.wide 62 [.v (.s p0.fText)] [] = some (.v (.b (value_text_v p0.fText)), []) := k_value_text p0.fText _ (value_text_t p0.fText)
    have hR := Option.some.inj hF
    clear hF
    subst hR
  rotate_left 1
  intro h4
  replace hF := condT h4 hF
  have g2 : C.wide 67 [.v (.s p0.fField)] [] = some (.v (.b (value_field_v p0.fField)), []) := k_value_field p0.fField _ (value_field_t p0.fField)
  refine boolTF (value_field_v p0.fField) ?_ ?_
  focus
    intro h5
    replace hF := condT h5 hF
    have g1 : C.wide 62 [.v (.s p0.fText)] [] = some (.v (.b (value_text_v p0.fText)), []) := k_value_text p0.fText _ (value_text_t p0.fText)
    have hR := Option.some.inj hF
    clear hF
    subst hR
  rotate_left 1
  intro h5
  replace hF := condF h5 hF
  have hR := Option.some.inj hF
  clear hF
  subst hR
  all_goals (simp (maxSteps := 4000000) only [*, res128, n128k0, n128k1, n128k2, n128k3, n128k4, n128k5, n128k6, n128k7, n128k8, n128k9, n128k10, n128k11, n128k12, n128k13, n128k14, n128k15, n128k16, n128k17, n128k18, n128k19, n128k20, n128k21, n128k22, n128k23, n128k24, n128k25, n128k26, n128k27, n128k28, n128k29, n128k30, n128k31, n128k32, n128f18, n128f23, n128ro, n128mv, n128gv, ↓evCode_skip, ↓evCode_ret, ↓evCode_exit, ↓evCode_loop, ↓evCode_block_seq, ↓evCode_block_region, ↓evCode_block_cond, ↓evCode_block_block, ↓evCode_block_skip, ↓cond_true, ↓cond_false, enter, List.toList_toArray, Bool.false_and, cond_false, guardB, yieldedD, isWork, cond_true, workOk, workOp, Mx.force, opnd, Mx.look, Nat.reduceBEq, solid, Mx.fit, fitCs, fitC, List.isEmpty_cons, List.isEmpty_nil, Bool.false_or, Bool.or_false, Bool.true_or, Bool.or_true, Bool.and_true, Bool.true_and, Bool.and_false, Bool.not_true, Bool.not_false, Bool.not_not, Bool.or_not_self, Bool.not_or_self, Bool.and_self, Bool.or_self, toVs, cellsOf, toV, setReg_m, spend_m, hasOwn, ownFree, List.all_cons, List.all_nil, ownFreeC, Mx.put, ofConst, ofCell, after_some, Mx.prune, List.map_cons, List.map_nil, killB, killBs, unblock_normal, unblock_ret, unblock_exit, pureOp, putDst, offReg_m, callFails, isFuncCall, Option.isNone_none, Option.isNone_some, Option.isSome_none, Option.isSome_some, fieldOff, loadAt, partD, List.length_cons, List.length_nil, List.map, List.drop_succ_cons, List.drop_zero, List.take_succ_cons, List.take_zero, List.take_nil, List.drop_nil, List.getElem?_cons_zero, List.getElem?_cons_succ, List.getElem?_nil, Nat.reduceAdd, Nat.reduceMul, Nat.zero_add, Nat.add_zero, binD, binV, eqCells, eqC, lenD, sliceOf, ite_true, if_true, eq_self, reduceIte, reduceCtorEq, finish_ret, finish_normal, giveBack, resAll, resOne, outD, outOk, stayC, cellOk, valOk, lowC, lowP, forceAll, bound, asNat, elemIs, isStrK, sameInt, sliceD, kill, spendLoc, spendOk, setOwn, dropAl, dropAls, inReg, inObj, isCell, gone, List.contains_cons, List.contains_nil, List.elem_cons, List.elem_nil, lend, lendA, tracked, trackedA, noSlT, noSlV, bare, bareC, List.any_cons, List.any_nil, frz, frzC, frzReg_m, isGive, argE, argsE, isOwn, noOwn, fill, setCells, setVs, takeParts, rowsOf, inOrder, ownAt, List.set_cons_zero, List.set_cons_succ, List.nil_append, List.cons_append, List.append_nil, Nat.reduceBNe, Nat.reduceSub, Nat.reduceLT, Nat.reduceLeDiff, decide_true, decide_false, Int.cast_ofNat_Int, again_norm, againN_some, trunc_m, lowA, lowLoc, again_ret, again_exit, beq_self_eq_true, Bool.cond_true_left, Bool.cond_false_right, Bool.cond_false_left, Bool.cond_true_right, ge_iff_le, gt_iff_lt, kindW, plainWork, ownsDst, calmOp, calm, calmC, calmP, immB, noLoc, noLocC, readsAt, plainK, freeOk, pairOk, rwOk, List.getD_cons_zero, List.getD_cons_succ, Op.operands, Bool.not_eq_true, Option.map_some, Option.map_none, Int.reduceBEq, Int.reduceLT, Int.reduceLE, Int.reduceNeg, Bool.decide_eq_true, Int.reduceBNe, pickOk_f, pickOk_x, pickOk_h, outTup, cond_nest_t, cond_nest_f, cond_same, newB, newC, flatB, flatI, flatS, binK, binI, bne, mapR_len, mapR_app, mapR_emp, mapR_sub, mapR_nil, byL_m, strL_m, allB_m, strL0, row_oneB, row_consB, row_oneI, row_consI, row_oneS, row_consS, set_B, set_I, set_S, rep_B, rep_I, seq_m, slt_m, str0, modS_0, modS_s, ↓evCode_seqI, ↓evCode_condI, thenI_normal, thenI_ret, thenI_exit, branchI_t, branchI_f, runI_nil, runI_cons, opsI_some, stepI_t, stepI_f, guardI_none, guardI_some, runK_nil, runK_cons, opsK_some, kindI_t, kindI_f, endK_some, drawI_nil, drawI_cons, pickOk, aliasCs, standB, tailOf, isSliceK, effOk, Sum.elim_inl, Sum.elim_inr, beq_true, beq_false, Bool.true_beq, Bool.false_beq, Call.operands, List.isEmpty_toArray, Array.toList_append, Option.toArray_some, Option.toArray_none, ty3, ty4, ty9, ty25, ty34, ↓evCode_regionI _ _ _ _ 28])
set_option maxRecDepth 100000 in
set_option maxHeartbeats 40000000 in
theorem r_value_CheckCommand (C : Oracle) (k_value_field : K_value_field C) (k_value_text : K_value_text C) (k_value_count : K_value_count C) (p0 : GCommand) (r : Int) (hF : value_CheckCommand p0 = some r) : evFn TT C.wide (evW TT C.wide n128 b128) n128 Try.f128.results.toList (bodyOf Try.f128) [.agg [.v (.i .i64 p0.fKind), .v (.s p0.fKey), .v (.s p0.fField), .v (.s p0.fText), .v (.i .i64 p0.fN)]] [] = some (.v (.i .i64 r), []) := by
  unfold value_CheckCommand at hF
  refine boolTF (decide (p0.fKind < 1)) ?_ ?_
  focus
    intro h1
    replace hF := condT h1 hF
    have hR := Option.some.inj hF
    clear hF
    subst hR
  rotate_left 1
  intro h1
  replace hF := condF h1 hF
  refine boolTF (decide (22 < p0.fKind)) ?_ ?_
  focus
    intro h2
    replace hF := condT h2 hF
    have hR := Option.some.inj hF
    clear hF
    subst hR
  rotate_left 1
  intro h2
  replace hF := condF h2 hF
  refine boolTF (p0.fKind == 1) ?_ ?_
  focus
    intro h3
    replace hF := condT h3 hF
    refine boolFT (seqB p0.fField ByteArray.empty) ?_ ?_
    focus
      intro h4
      replace hF := condF h4 hF
      have hR := Option.some.inj hF
      clear hF
      subst hR
    rotate_left 1
    intro h4
    replace hF := condT h4 hF
    refine boolFT (p0.fN == 0) ?_ ?_
    focus
      intro h5
      replace hF := condF h5 hF
      have hR := Option.some.inj hF
      clear hF
      subst hR
    rotate_left 1
    intro h5
    replace hF := condT h5 hF
    have g1 : @regI TT C.wide (evW TT C.wide n128 b128) n128 28 ⟨[(1, .rp [.i .i64 p0.fKind, .s p0.fKey, .s p0.fField, .s p0.fText, .i .i64 p0.fN]), (64, .v (.b false))], [[.v (.i .i64 p0.fKind), .v (.s p0.fKey), .v (.s ByteArray.empty), .v (.s p0.fText), .v (.i .i64 0)]]⟩ ⟨(_, _)⟩ = some (.normal, ⟨[(1, .rp [.i .i64 p0.fKind, .s p0.fKey, .s p0.fField, .s p0.fText, .i .i64 p0.fN]), (95, .v (.b (ck_value_CheckCommand_k28_v p0 p0.fKind p0.fKey p0.fText)))], [[.v (.i .i64 p0.fKind), .v (.s p0.fKey), .v (.s ByteArray.empty), .v (.s p0.fText), .v (.i .i64 0)]]⟩) := rg_value_CheckCommand_k28 C k_value_field k_value_text p0 p0.fKind p0.fKey p0.fText _ _ rfl (ck_value_CheckCommand_k28_v p0 p0.fKind p0.fKey p0.fText) (ck_value_CheckCommand_k28_t p0 p0.fKind p0.fKey p0.fText)
    refine boolTF (ck_value_CheckCommand_k28_v p0 p0.fKind p0.fKey p0.fText) ?_ ?_
    focus
      intro h6
      replace hF := condT h6 hF
      have hR := Option.some.inj hF
      clear hF
      subst hR
    rotate_left 1
    intro h6
    replace hF := condF h6 hF
    have g2 : C.wide 70 [.v (.i .i64 p0.fN)] [] = some (.v (.b (value_count_v p0.fN)), []) := k_value_count p0.fN _ (value_count_t p0.fN)
    refine boolTF (value_count_v p0.fN) ?_ ?_
    focus
      intro h7
      replace hF := condT h7 hF
      have hR := Option.some.inj hF
      clear hF
      subst hR
    rotate_left 1
    intro h7
    replace hF := condF h7 hF
    have hR := Option.some.inj hF
    clear hF
    subst hR
  rotate_left 5
  intro h3
  replace hF := condF h3 hF
  unfold value_CheckCommand_c14 at hF
  refine boolTF (p0.fKind == 7) ?_ ?_
  focus
    intro h4
    replace hF := condT h4 hF
    refine boolFT (seqB p0.fField ByteArray.empty) ?_ ?_
    focus
      intro h5
      replace hF := condF h5 hF
      have hR := Option.some.inj hF
      clear hF
      subst hR
    rotate_left 1
    intro h5
    replace hF := condT h5 hF
    refine boolFT (p0.fN == 0) ?_ ?_
    focus
      intro h6
      replace hF := condF h6 hF
      have hR := Option.some.inj hF
      clear hF
      subst hR
    rotate_left 1
    intro h6
    replace hF := condT h6 hF
    have g1 : @regI TT C.wide (evW TT C.wide n128 b128) n128 28 ⟨[(1, .rp [.i .i64 p0.fKind, .s p0.fKey, .s p0.fField, .s p0.fText, .i .i64 p0.fN]), (64, .v (.b false))], [[.v (.i .i64 p0.fKind), .v (.s p0.fKey), .v (.s ByteArray.empty), .v (.s p0.fText), .v (.i .i64 0)]]⟩ ⟨(_, _)⟩ = some (.normal, ⟨[(1, .rp [.i .i64 p0.fKind, .s p0.fKey, .s p0.fField, .s p0.fText, .i .i64 p0.fN]), (95, .v (.b (ck_value_CheckCommand_k28_v p0 p0.fKind p0.fKey p0.fText)))], [[.v (.i .i64 p0.fKind), .v (.s p0.fKey), .v (.s ByteArray.empty), .v (.s p0.fText), .v (.i .i64 0)]]⟩) := rg_value_CheckCommand_k28 C k_value_field k_value_text p0 p0.fKind p0.fKey p0.fText _ _ rfl (ck_value_CheckCommand_k28_v p0 p0.fKind p0.fKey p0.fText) (ck_value_CheckCommand_k28_t p0 p0.fKind p0.fKey p0.fText)
    refine boolTF (ck_value_CheckCommand_k28_v p0 p0.fKind p0.fKey p0.fText) ?_ ?_
    focus
      intro h7
      replace hF := condT h7 hF
      have hR := Option.some.inj hF
      clear hF
      subst hR
    rotate_left 1
    intro h7
    replace hF := condF h7 hF
    have g2 : C.wide 70 [.v (.i .i64 p0.fN)] [] = some (.v (.b (value_count_v p0.fN)), []) := k_value_count p0.fN _ (value_count_t p0.fN)
    refine boolTF (value_count_v p0.fN) ?_ ?_
    focus
      intro h8
      replace hF := condT h8 hF
      have hR := Option.some.inj hF
      clear hF
      subst hR
    rotate_left 1
    intro h8
    replace hF := condF h8 hF
    have hR := Option.some.inj hF
    clear hF
    subst hR
  rotate_left 5
  intro h4
  replace hF := condF h4 hF
  unfold value_CheckCommand_c13 at hF
  refine boolTF (p0.fKind == 8) ?_ ?_
  focus
    intro h5
    replace hF := condT h5 hF
    refine boolFT (seqB p0.fField ByteArray.empty) ?_ ?_
    focus
      intro h6
      replace hF := condF h6 hF
      have hR := Option.some.inj hF
      clear hF
      subst hR
    rotate_left 1
    intro h6
    replace hF := condT h6 hF
    refine boolFT (p0.fN == 0) ?_ ?_
    focus
      intro h7
      replace hF := condF h7 hF
      have hR := Option.some.inj hF
      clear hF
      subst hR
    rotate_left 1
    intro h7
    replace hF := condT h7 hF
    have g1 : @regI TT C.wide (evW TT C.wide n128 b128) n128 28 ⟨[(1, .rp [.i .i64 p0.fKind, .s p0.fKey, .s p0.fField, .s p0.fText, .i .i64 p0.fN]), (64, .v (.b false))], [[.v (.i .i64 p0.fKind), .v (.s p0.fKey), .v (.s ByteArray.empty), .v (.s p0.fText), .v (.i .i64 0)]]⟩ ⟨(_, _)⟩ = some (.normal, ⟨[(1, .rp [.i .i64 p0.fKind, .s p0.fKey, .s p0.fField, .s p0.fText, .i .i64 p0.fN]), (95, .v (.b (ck_value_CheckCommand_k28_v p0 p0.fKind p0.fKey p0.fText)))], [[.v (.i .i64 p0.fKind), .v (.s p0.fKey), .v (.s ByteArray.empty), .v (.s p0.fText), .v (.i .i64 0)]]⟩) := rg_value_CheckCommand_k28 C k_value_field k_value_text p0 p0.fKind p0.fKey p0.fText _ _ rfl (ck_value_CheckCommand_k28_v p0 p0.fKind p0.fKey p0.fText) (ck_value_CheckCommand_k28_t p0 p0.fKind p0.fKey p0.fText)
    refine boolTF (ck_value_CheckCommand_k28_v p0 p0.fKind p0.fKey p0.fText) ?_ ?_
    focus
      intro h8
      replace hF := condT h8 hF
      have hR := Option.some.inj hF
      clear hF
      subst hR
    rotate_left 1
    intro h8
    replace hF := condF h8 hF
    have g2 : C.wide 70 [.v (.i .i64 p0.fN)] [] = some (.v (.b (value_count_v p0.fN)), []) := k_value_count p0.fN _ (value_count_t p0.fN)
    refine boolTF (value_count_v p0.fN) ?_ ?_
    focus
      intro h9
      replace hF := condT h9 hF
      have hR := Option.some.inj hF
      clear hF
      subst hR
    rotate_left 1
    intro h9
    replace hF := condF h9 hF
    have hR := Option.some.inj hF
    clear hF
    subst hR
  rotate_left 5
  intro h5
  replace hF := condF h5 hF
  unfold value_CheckCommand_c12 at hF
  refine boolTF (p0.fKind == 11) ?_ ?_
  focus
    intro h6
    replace hF := condT h6 hF
    refine boolFT (seqB p0.fField ByteArray.empty) ?_ ?_
    focus
      intro h7
      replace hF := condF h7 hF
      have hR := Option.some.inj hF
      clear hF
      subst hR
    rotate_left 1
    intro h7
    replace hF := condT h7 hF
    refine boolFT (p0.fN == 0) ?_ ?_
    focus
      intro h8
      replace hF := condF h8 hF
      have hR := Option.some.inj hF
      clear hF
      subst hR
    rotate_left 1
    intro h8
    replace hF := condT h8 hF
    have g1 : @regI TT C.wide (evW TT C.wide n128 b128) n128 28 ⟨[(1, .rp [.i .i64 p0.fKind, .s p0.fKey, .s p0.fField, .s p0.fText, .i .i64 p0.fN]), (64, .v (.b false))], [[.v (.i .i64 p0.fKind), .v (.s p0.fKey), .v (.s ByteArray.empty), .v (.s p0.fText), .v (.i .i64 0)]]⟩ ⟨(_, _)⟩ = some (.normal, ⟨[(1, .rp [.i .i64 p0.fKind, .s p0.fKey, .s p0.fField, .s p0.fText, .i .i64 p0.fN]), (95, .v (.b (ck_value_CheckCommand_k28_v p0 p0.fKind p0.fKey p0.fText)))], [[.v (.i .i64 p0.fKind), .v (.s p0.fKey), .v (.s ByteArray.empty), .v (.s p0.fText), .v (.i .i64 0)]]⟩) := rg_value_CheckCommand_k28 C k_value_field k_value_text p0 p0.fKind p0.fKey p0.fText _ _ rfl (ck_value_CheckCommand_k28_v p0 p0.fKind p0.fKey p0.fText) (ck_value_CheckCommand_k28_t p0 p0.fKind p0.fKey p0.fText)
    refine boolTF (ck_value_CheckCommand_k28_v p0 p0.fKind p0.fKey p0.fText) ?_ ?_
    focus
      intro h9
      replace hF := condT h9 hF
      have hR := Option.some.inj hF
      clear hF
      subst hR
    rotate_left 1
    intro h9
    replace hF := condF h9 hF
    have g2 : C.wide 70 [.v (.i .i64 p0.fN)] [] = some (.v (.b (value_count_v p0.fN)), []) := k_value_count p0.fN _ (value_count_t p0.fN)
    refine boolTF (value_count_v p0.fN) ?_ ?_
    focus
      intro h10
      replace hF := condT h10 hF
      have hR := Option.some.inj hF
      clear hF
      subst hR
    rotate_left 1
    intro h10
    replace hF := condF h10 hF
    have hR := Option.some.inj hF
    clear hF
    subst hR
  rotate_left 5
  intro h6
  replace hF := condF h6 hF
  unfold value_CheckCommand_c11 at hF
  refine boolTF (p0.fKind == 12) ?_ ?_
  focus
    intro h7
    replace hF := condT h7 hF
    refine boolFT (seqB p0.fField ByteArray.empty) ?_ ?_
    focus
      intro h8
      replace hF := condF h8 hF
      have hR := Option.some.inj hF
      clear hF
      subst hR
    rotate_left 1
    intro h8
    replace hF := condT h8 hF
    refine boolFT (p0.fN == 0) ?_ ?_
    focus
      intro h9
      replace hF := condF h9 hF
      have hR := Option.some.inj hF
      clear hF
      subst hR
    rotate_left 1
    intro h9
    replace hF := condT h9 hF
    have g1 : @regI TT C.wide (evW TT C.wide n128 b128) n128 28 ⟨[(1, .rp [.i .i64 p0.fKind, .s p0.fKey, .s p0.fField, .s p0.fText, .i .i64 p0.fN]), (64, .v (.b false))], [[.v (.i .i64 p0.fKind), .v (.s p0.fKey), .v (.s ByteArray.empty), .v (.s p0.fText), .v (.i .i64 0)]]⟩ ⟨(_, _)⟩ = some (.normal, ⟨[(1, .rp [.i .i64 p0.fKind, .s p0.fKey, .s p0.fField, .s p0.fText, .i .i64 p0.fN]), (95, .v (.b (ck_value_CheckCommand_k28_v p0 p0.fKind p0.fKey p0.fText)))], [[.v (.i .i64 p0.fKind), .v (.s p0.fKey), .v (.s ByteArray.empty), .v (.s p0.fText), .v (.i .i64 0)]]⟩) := rg_value_CheckCommand_k28 C k_value_field k_value_text p0 p0.fKind p0.fKey p0.fText _ _ rfl (ck_value_CheckCommand_k28_v p0 p0.fKind p0.fKey p0.fText) (ck_value_CheckCommand_k28_t p0 p0.fKind p0.fKey p0.fText)
    refine boolTF (ck_value_CheckCommand_k28_v p0 p0.fKind p0.fKey p0.fText) ?_ ?_
    focus
      intro h10
      replace hF := condT h10 hF
      have hR := Option.some.inj hF
      clear hF
      subst hR
    rotate_left 1
    intro h10
    replace hF := condF h10 hF
    have g2 : C.wide 70 [.v (.i .i64 p0.fN)] [] = some (.v (.b (value_count_v p0.fN)), []) := k_value_count p0.fN _ (value_count_t p0.fN)
    refine boolTF (value_count_v p0.fN) ?_ ?_
    focus
      intro h11
      replace hF := condT h11 hF
      have hR := Option.some.inj hF
      clear hF
      subst hR
    rotate_left 1
    intro h11
    replace hF := condF h11 hF
    have hR := Option.some.inj hF
    clear hF
    subst hR
  rotate_left 5
  intro h7
  replace hF := condF h7 hF
  unfold value_CheckCommand_c10 at hF
  refine boolTF (p0.fKind == 13) ?_ ?_
  focus
    intro h8
    replace hF := condT h8 hF
    refine boolFT (seqB p0.fField ByteArray.empty) ?_ ?_
    focus
      intro h9
      replace hF := condF h9 hF
      have hR := Option.some.inj hF
      clear hF
      subst hR
    rotate_left 1
    intro h9
    replace hF := condT h9 hF
    refine boolFT (p0.fN == 0) ?_ ?_
    focus
      intro h10
      replace hF := condF h10 hF
      have hR := Option.some.inj hF
      clear hF
      subst hR
    rotate_left 1
    intro h10
    replace hF := condT h10 hF
    have g1 : @regI TT C.wide (evW TT C.wide n128 b128) n128 28 ⟨[(1, .rp [.i .i64 p0.fKind, .s p0.fKey, .s p0.fField, .s p0.fText, .i .i64 p0.fN]), (64, .v (.b false))], [[.v (.i .i64 p0.fKind), .v (.s p0.fKey), .v (.s ByteArray.empty), .v (.s p0.fText), .v (.i .i64 0)]]⟩ ⟨(_, _)⟩ = some (.normal, ⟨[(1, .rp [.i .i64 p0.fKind, .s p0.fKey, .s p0.fField, .s p0.fText, .i .i64 p0.fN]), (95, .v (.b (ck_value_CheckCommand_k28_v p0 p0.fKind p0.fKey p0.fText)))], [[.v (.i .i64 p0.fKind), .v (.s p0.fKey), .v (.s ByteArray.empty), .v (.s p0.fText), .v (.i .i64 0)]]⟩) := rg_value_CheckCommand_k28 C k_value_field k_value_text p0 p0.fKind p0.fKey p0.fText _ _ rfl (ck_value_CheckCommand_k28_v p0 p0.fKind p0.fKey p0.fText) (ck_value_CheckCommand_k28_t p0 p0.fKind p0.fKey p0.fText)
    refine boolTF (ck_value_CheckCommand_k28_v p0 p0.fKind p0.fKey p0.fText) ?_ ?_
    focus
      intro h11
      replace hF := condT h11 hF
      have hR := Option.some.inj hF
      clear hF
      subst hR
    rotate_left 1
    intro h11
    replace hF := condF h11 hF
    have g2 : C.wide 70 [.v (.i .i64 p0.fN)] [] = some (.v (.b (value_count_v p0.fN)), []) := k_value_count p0.fN _ (value_count_t p0.fN)
    refine boolTF (value_count_v p0.fN) ?_ ?_
    focus
      intro h12
      replace hF := condT h12 hF
      have hR := Option.some.inj hF
      clear hF
      subst hR
    rotate_left 1
    intro h12
    replace hF := condF h12 hF
    have hR := Option.some.inj hF
    clear hF
    subst hR
  rotate_left 5
  intro h8
  replace hF := condF h8 hF
  unfold value_CheckCommand_c9 at hF
  refine boolTF (p0.fKind == 15) ?_ ?_
  focus
    intro h9
    replace hF := condT h9 hF
    refine boolFT (seqB p0.fField ByteArray.empty) ?_ ?_
    focus
      intro h10
      replace hF := condF h10 hF
      have hR := Option.some.inj hF
      clear hF
      subst hR
    rotate_left 1
    intro h10
    replace hF := condT h10 hF
    refine boolFT (p0.fN == 0) ?_ ?_
    focus
      intro h11
      replace hF := condF h11 hF
      have hR := Option.some.inj hF
      clear hF
      subst hR
    rotate_left 1
    intro h11
    replace hF := condT h11 hF
    have g1 : @regI TT C.wide (evW TT C.wide n128 b128) n128 28 ⟨[(1, .rp [.i .i64 p0.fKind, .s p0.fKey, .s p0.fField, .s p0.fText, .i .i64 p0.fN]), (64, .v (.b false))], [[.v (.i .i64 p0.fKind), .v (.s p0.fKey), .v (.s ByteArray.empty), .v (.s p0.fText), .v (.i .i64 0)]]⟩ ⟨(_, _)⟩ = some (.normal, ⟨[(1, .rp [.i .i64 p0.fKind, .s p0.fKey, .s p0.fField, .s p0.fText, .i .i64 p0.fN]), (95, .v (.b (ck_value_CheckCommand_k28_v p0 p0.fKind p0.fKey p0.fText)))], [[.v (.i .i64 p0.fKind), .v (.s p0.fKey), .v (.s ByteArray.empty), .v (.s p0.fText), .v (.i .i64 0)]]⟩) := rg_value_CheckCommand_k28 C k_value_field k_value_text p0 p0.fKind p0.fKey p0.fText _ _ rfl (ck_value_CheckCommand_k28_v p0 p0.fKind p0.fKey p0.fText) (ck_value_CheckCommand_k28_t p0 p0.fKind p0.fKey p0.fText)
    refine boolTF (ck_value_CheckCommand_k28_v p0 p0.fKind p0.fKey p0.fText) ?_ ?_
    focus
      intro h12
      replace hF := condT h12 hF
      have hR := Option.some.inj hF
      clear hF
      subst hR
    rotate_left 1
    intro h12
    replace hF := condF h12 hF
    have g2 : C.wide 70 [.v (.i .i64 p0.fN)] [] = some (.v (.b (value_count_v p0.fN)), []) := k_value_count p0.fN _ (value_count_t p0.fN)
    refine boolTF (value_count_v p0.fN) ?_ ?_
    focus
      intro h13
      replace hF := condT h13 hF
      have hR := Option.some.inj hF
      clear hF
      subst hR
    rotate_left 1
    intro h13
    replace hF := condF h13 hF
    have hR := Option.some.inj hF
    clear hF
    subst hR
  rotate_left 5
  intro h9
  replace hF := condF h9 hF
  unfold value_CheckCommand_c8 at hF
  refine boolTF (p0.fKind == 16) ?_ ?_
  focus
    intro h10
    replace hF := condT h10 hF
    refine boolFT (seqB p0.fField ByteArray.empty) ?_ ?_
    focus
      intro h11
      replace hF := condF h11 hF
      have hR := Option.some.inj hF
      clear hF
      subst hR
    rotate_left 1
    intro h11
    replace hF := condT h11 hF
    refine boolFT (p0.fN == 0) ?_ ?_
    focus
      intro h12
      replace hF := condF h12 hF
      have hR := Option.some.inj hF
      clear hF
      subst hR
    rotate_left 1
    intro h12
    replace hF := condT h12 hF
    have g1 : @regI TT C.wide (evW TT C.wide n128 b128) n128 28 ⟨[(1, .rp [.i .i64 p0.fKind, .s p0.fKey, .s p0.fField, .s p0.fText, .i .i64 p0.fN]), (64, .v (.b false))], [[.v (.i .i64 p0.fKind), .v (.s p0.fKey), .v (.s ByteArray.empty), .v (.s p0.fText), .v (.i .i64 0)]]⟩ ⟨(_, _)⟩ = some (.normal, ⟨[(1, .rp [.i .i64 p0.fKind, .s p0.fKey, .s p0.fField, .s p0.fText, .i .i64 p0.fN]), (95, .v (.b (ck_value_CheckCommand_k28_v p0 p0.fKind p0.fKey p0.fText)))], [[.v (.i .i64 p0.fKind), .v (.s p0.fKey), .v (.s ByteArray.empty), .v (.s p0.fText), .v (.i .i64 0)]]⟩) := rg_value_CheckCommand_k28 C k_value_field k_value_text p0 p0.fKind p0.fKey p0.fText _ _ rfl (ck_value_CheckCommand_k28_v p0 p0.fKind p0.fKey p0.fText) (ck_value_CheckCommand_k28_t p0 p0.fKind p0.fKey p0.fText)
    refine boolTF (ck_value_CheckCommand_k28_v p0 p0.fKind p0.fKey p0.fText) ?_ ?_
    focus
      intro h13
      replace hF := condT h13 hF
      have hR := Option.some.inj hF
      clear hF
      subst hR
    rotate_left 1
    intro h13
    replace hF := condF h13 hF
    have g2 : C.wide 70 [.v (.i .i64 p0.fN)] [] = some (.v (.b (value_count_v p0.fN)), []) := k_value_count p0.fN _ (value_count_t p0.fN)
    refine boolTF (value_count_v p0.fN) ?_ ?_
    focus
      intro h14
      replace hF := condT h14 hF
      have hR := Option.some.inj hF
      clear hF
      subst hR
    rotate_left 1
    intro h14
    replace hF := condF h14 hF
    have hR := Option.some.inj hF
    clear hF
    subst hR
  rotate_left 5
  intro h10
  replace hF := condF h10 hF
  unfold value_CheckCommand_c7 at hF
  refine boolTF (p0.fKind == 3) ?_ ?_
  focus
    intro h11
    replace hF := condT h11 hF
    refine boolFT (seqB p0.fField ByteArray.empty) ?_ ?_
    focus
      intro h12
      replace hF := condF h12 hF
      have hR := Option.some.inj hF
      clear hF
      subst hR
    rotate_left 1
    intro h12
    replace hF := condT h12 hF
    refine boolFT (seqB p0.fText ByteArray.empty) ?_ ?_
    focus
      intro h13
      replace hF := condF h13 hF
      have hR := Option.some.inj hF
      clear hF
      subst hR
    rotate_left 1
    intro h13
    replace hF := condT h13 hF
    have g3 : @regI TT C.wide (evW TT C.wide n128 b128) n128 28 ⟨[(1, .rp [.i .i64 p0.fKind, .s p0.fKey, .s p0.fField, .s p0.fText, .i .i64 p0.fN]), (64, .v (.b false))], [[.v (.i .i64 p0.fKind), .v (.s p0.fKey), .v (.s ByteArray.empty), .v (.s ByteArray.empty), .v (.i .i64 p0.fN)]]⟩ ⟨(_, _)⟩ = some (.normal, ⟨[(1, .rp [.i .i64 p0.fKind, .s p0.fKey, .s p0.fField, .s p0.fText, .i .i64 p0.fN]), (95, .v (.b (ck_value_CheckCommand_k28v2_v p0 p0.fKind p0.fKey p0.fN)))], [[.v (.i .i64 p0.fKind), .v (.s p0.fKey), .v (.s ByteArray.empty), .v (.s ByteArray.empty), .v (.i .i64 p0.fN)]]⟩) := rg_value_CheckCommand_k28v2 C k_value_field k_value_text p0 p0.fKind p0.fKey p0.fN _ _ rfl (ck_value_CheckCommand_k28v2_v p0 p0.fKind p0.fKey p0.fN) (ck_value_CheckCommand_k28v2_t p0 p0.fKind p0.fKey p0.fN)
    refine boolTF (ck_value_CheckCommand_k28v2_v p0 p0.fKind p0.fKey p0.fN) ?_ ?_
    focus
      intro h14
      replace hF := condT h14 hF
      have hR := Option.some.inj hF
      clear hF
      subst hR
    rotate_left 1
    intro h14
    replace hF := condF h14 hF
    have g2 : C.wide 70 [.v (.i .i64 p0.fN)] [] = some (.v (.b (value_count_v p0.fN)), []) := k_value_count p0.fN _ (value_count_t p0.fN)
    refine boolTF (value_count_v p0.fN) ?_ ?_
    focus
      intro h15
      replace hF := condT h15 hF
      have hR := Option.some.inj hF
      clear hF
      subst hR
    rotate_left 1
    intro h15
    replace hF := condF h15 hF
    have hR := Option.some.inj hF
    clear hF
    subst hR
  rotate_left 5
  intro h11
  replace hF := condF h11 hF
  unfold value_CheckCommand_c6 at hF
  refine boolTF (p0.fKind == 20) ?_ ?_
  focus
    intro h12
    replace hF := condT h12 hF
    unfold value_CheckCommand_c5 at hF
    refine boolFT (seqB p0.fField ByteArray.empty) ?_ ?_
    focus
      intro h13
      replace hF := condF h13 hF
      have hR := Option.some.inj hF
      clear hF
      subst hR
    rotate_left 1
    intro h13
    replace hF := condT h13 hF
    refine boolFT (seqB p0.fText ByteArray.empty) ?_ ?_
    focus
      intro h14
      replace hF := condF h14 hF
      have hR := Option.some.inj hF
      clear hF
      subst hR
    rotate_left 1
    intro h14
    replace hF := condT h14 hF
    have g3 : @regI TT C.wide (evW TT C.wide n128 b128) n128 28 ⟨[(1, .rp [.i .i64 p0.fKind, .s p0.fKey, .s p0.fField, .s p0.fText, .i .i64 p0.fN]), (64, .v (.b false))], [[.v (.i .i64 p0.fKind), .v (.s p0.fKey), .v (.s ByteArray.empty), .v (.s ByteArray.empty), .v (.i .i64 p0.fN)]]⟩ ⟨(_, _)⟩ = some (.normal, ⟨[(1, .rp [.i .i64 p0.fKind, .s p0.fKey, .s p0.fField, .s p0.fText, .i .i64 p0.fN]), (95, .v (.b (ck_value_CheckCommand_k28v2_v p0 p0.fKind p0.fKey p0.fN)))], [[.v (.i .i64 p0.fKind), .v (.s p0.fKey), .v (.s ByteArray.empty), .v (.s ByteArray.empty), .v (.i .i64 p0.fN)]]⟩) := rg_value_CheckCommand_k28v2 C k_value_field k_value_text p0 p0.fKind p0.fKey p0.fN _ _ rfl (ck_value_CheckCommand_k28v2_v p0 p0.fKind p0.fKey p0.fN) (ck_value_CheckCommand_k28v2_t p0 p0.fKind p0.fKey p0.fN)
    refine boolTF (ck_value_CheckCommand_k28v2_v p0 p0.fKind p0.fKey p0.fN) ?_ ?_
    focus
      intro h15
      replace hF := condT h15 hF
      have hR := Option.some.inj hF
      clear hF
      subst hR
    rotate_left 1
    intro h15
    replace hF := condF h15 hF
    have g2 : C.wide 70 [.v (.i .i64 p0.fN)] [] = some (.v (.b (value_count_v p0.fN)), []) := k_value_count p0.fN _ (value_count_t p0.fN)
    refine boolTF (value_count_v p0.fN) ?_ ?_
    focus
      intro h16
      replace hF := condT h16 hF
      have hR := Option.some.inj hF
      clear hF
      subst hR
    rotate_left 1
    intro h16
    replace hF := condF h16 hF
    have hR := Option.some.inj hF
    clear hF
    subst hR
  rotate_left 5
  intro h12
  replace hF := condF h12 hF
  refine boolTF (p0.fKind == 4) ?_ ?_
  focus
    intro h13
    replace hF := condT h13 hF
    refine boolFT (p0.fN == 0) ?_ ?_
    focus
      intro h14
      replace hF := condF h14 hF
      have hR := Option.some.inj hF
      clear hF
      subst hR
    rotate_left 1
    intro h14
    replace hF := condT h14 hF
    have g4 : @regI TT C.wide (evW TT C.wide n128 b128) n128 28 ⟨[(1, .rp [.i .i64 p0.fKind, .s p0.fKey, .s p0.fField, .s p0.fText, .i .i64 p0.fN]), (64, .v (.b false))], [[.v (.i .i64 p0.fKind), .v (.s p0.fKey), .v (.s p0.fField), .v (.s p0.fText), .v (.i .i64 0)]]⟩ ⟨(_, _)⟩ = some (.normal, ⟨[(1, .rp [.i .i64 p0.fKind, .s p0.fKey, .s p0.fField, .s p0.fText, .i .i64 p0.fN]), (95, .v (.b (ck_value_CheckCommand_k28v3_v p0 p0.fKind p0.fKey p0.fField p0.fText)))], [[.v (.i .i64 p0.fKind), .v (.s p0.fKey), .v (.s p0.fField), .v (.s p0.fText), .v (.i .i64 0)]]⟩) := rg_value_CheckCommand_k28v3 C k_value_field k_value_text p0 p0.fKind p0.fKey p0.fField p0.fText _ _ rfl (ck_value_CheckCommand_k28v3_v p0 p0.fKind p0.fKey p0.fField p0.fText) (ck_value_CheckCommand_k28v3_t p0 p0.fKind p0.fKey p0.fField p0.fText)
    refine boolTF (ck_value_CheckCommand_k28v3_v p0 p0.fKind p0.fKey p0.fField p0.fText) ?_ ?_
    focus
      intro h15
      replace hF := condT h15 hF
      have hR := Option.some.inj hF
      clear hF
      subst hR
    rotate_left 1
    intro h15
    replace hF := condF h15 hF
    have g2 : C.wide 70 [.v (.i .i64 p0.fN)] [] = some (.v (.b (value_count_v p0.fN)), []) := k_value_count p0.fN _ (value_count_t p0.fN)
    refine boolTF (value_count_v p0.fN) ?_ ?_
    focus
      intro h16
      replace hF := condT h16 hF
      have hR := Option.some.inj hF
      clear hF
      subst hR
    rotate_left 1
    intro h16
    replace hF := condF h16 hF
    have hR := Option.some.inj hF
    clear hF
    subst hR
  rotate_left 4
  intro h13
  replace hF := condF h13 hF
  unfold value_CheckCommand_c4 at hF
  refine boolTF (p0.fKind == 5) ?_ ?_
  focus
    intro h14
    replace hF := condT h14 hF
    refine boolFT (seqB p0.fText ByteArray.empty) ?_ ?_
    focus
      intro h15
      replace hF := condF h15 hF
      have hR := Option.some.inj hF
      clear hF
      subst hR
    rotate_left 1
    intro h15
    replace hF := condT h15 hF
    refine boolFT (p0.fN == 0) ?_ ?_
    focus
      intro h16
      replace hF := condF h16 hF
      have hR := Option.some.inj hF
      clear hF
      subst hR
    rotate_left 1
    intro h16
    replace hF := condT h16 hF
    have g5 : @regI TT C.wide (evW TT C.wide n128 b128) n128 28 ⟨[(1, .rp [.i .i64 p0.fKind, .s p0.fKey, .s p0.fField, .s p0.fText, .i .i64 p0.fN]), (64, .v (.b false))], [[.v (.i .i64 p0.fKind), .v (.s p0.fKey), .v (.s p0.fField), .v (.s ByteArray.empty), .v (.i .i64 0)]]⟩ ⟨(_, _)⟩ = some (.normal, ⟨[(1, .rp [.i .i64 p0.fKind, .s p0.fKey, .s p0.fField, .s p0.fText, .i .i64 p0.fN]), (95, .v (.b (ck_value_CheckCommand_k28v4_v p0 p0.fKind p0.fKey p0.fField)))], [[.v (.i .i64 p0.fKind), .v (.s p0.fKey), .v (.s p0.fField), .v (.s ByteArray.empty), .v (.i .i64 0)]]⟩) := rg_value_CheckCommand_k28v4 C k_value_field k_value_text p0 p0.fKind p0.fKey p0.fField _ _ rfl (ck_value_CheckCommand_k28v4_v p0 p0.fKind p0.fKey p0.fField) (ck_value_CheckCommand_k28v4_t p0 p0.fKind p0.fKey p0.fField)
    refine boolTF (ck_value_CheckCommand_k28v4_v p0 p0.fKind p0.fKey p0.fField) ?_ ?_
    focus
      intro h17
      replace hF := condT h17 hF
      have hR := Option.some.inj hF
      clear hF
      subst hR
    rotate_left 1
    intro h17
    replace hF := condF h17 hF
    have g2 : C.wide 70 [.v (.i .i64 p0.fN)] [] = some (.v (.b (value_count_v p0.fN)), []) := k_value_count p0.fN _ (value_count_t p0.fN)
    refine boolTF (value_count_v p0.fN) ?_ ?_
    focus
      intro h18
      replace hF := condT h18 hF
      have hR := Option.some.inj hF
      clear hF
      subst hR
    rotate_left 1
    intro h18
    replace hF := condF h18 hF
    have hR := Option.some.inj hF
    clear hF
    subst hR
  rotate_left 5
  intro h14
  replace hF := condF h14 hF
  unfold value_CheckCommand_c3 at hF
  refine boolTF (p0.fKind == 6) ?_ ?_
  focus
    intro h15
    replace hF := condT h15 hF
    unfold value_CheckCommand_c2 at hF
    refine boolFT (seqB p0.fText ByteArray.empty) ?_ ?_
    focus
      intro h16
      replace hF := condF h16 hF
      have hR := Option.some.inj hF
      clear hF
      subst hR
    rotate_left 1
    intro h16
    replace hF := condT h16 hF
    refine boolFT (p0.fN == 0) ?_ ?_
    focus
      intro h17
      replace hF := condF h17 hF
      have hR := Option.some.inj hF
      clear hF
      subst hR
    rotate_left 1
    intro h17
    replace hF := condT h17 hF
    have g5 : @regI TT C.wide (evW TT C.wide n128 b128) n128 28 ⟨[(1, .rp [.i .i64 p0.fKind, .s p0.fKey, .s p0.fField, .s p0.fText, .i .i64 p0.fN]), (64, .v (.b false))], [[.v (.i .i64 p0.fKind), .v (.s p0.fKey), .v (.s p0.fField), .v (.s ByteArray.empty), .v (.i .i64 0)]]⟩ ⟨(_, _)⟩ = some (.normal, ⟨[(1, .rp [.i .i64 p0.fKind, .s p0.fKey, .s p0.fField, .s p0.fText, .i .i64 p0.fN]), (95, .v (.b (ck_value_CheckCommand_k28v4_v p0 p0.fKind p0.fKey p0.fField)))], [[.v (.i .i64 p0.fKind), .v (.s p0.fKey), .v (.s p0.fField), .v (.s ByteArray.empty), .v (.i .i64 0)]]⟩) := rg_value_CheckCommand_k28v4 C k_value_field k_value_text p0 p0.fKind p0.fKey p0.fField _ _ rfl (ck_value_CheckCommand_k28v4_v p0 p0.fKind p0.fKey p0.fField) (ck_value_CheckCommand_k28v4_t p0 p0.fKind p0.fKey p0.fField)
    refine boolTF (ck_value_CheckCommand_k28v4_v p0 p0.fKind p0.fKey p0.fField) ?_ ?_
    focus
      intro h18
      replace hF := condT h18 hF
      have hR := Option.some.inj hF
      clear hF
      subst hR
    rotate_left 1
    intro h18
    replace hF := condF h18 hF
    have g2 : C.wide 70 [.v (.i .i64 p0.fN)] [] = some (.v (.b (value_count_v p0.fN)), []) := k_value_count p0.fN _ (value_count_t p0.fN)
    refine boolTF (value_count_v p0.fN) ?_ ?_
    focus
      intro h19
      replace hF := condT h19 hF
      have hR := Option.some.inj hF
      clear hF
      subst hR
    rotate_left 1
    intro h19
    replace hF := condF h19 hF
    have hR := Option.some.inj hF
    clear hF
    subst hR
  rotate_left 5
  intro h15
  replace hF := condF h15 hF
  refine boolTF (p0.fKind == 14) ?_ ?_
  focus
    intro h16
    replace hF := condT h16 hF
    refine boolFT (seqB p0.fField ByteArray.empty) ?_ ?_
    focus
      intro h17
      replace hF := condF h17 hF
      have hR := Option.some.inj hF
      clear hF
      subst hR
    rotate_left 1
    intro h17
    replace hF := condT h17 hF
    have g6 : @regI TT C.wide (evW TT C.wide n128 b128) n128 28 ⟨[(1, .rp [.i .i64 p0.fKind, .s p0.fKey, .s p0.fField, .s p0.fText, .i .i64 p0.fN]), (64, .v (.b false))], [[.v (.i .i64 p0.fKind), .v (.s p0.fKey), .v (.s ByteArray.empty), .v (.s p0.fText), .v (.i .i64 p0.fN)]]⟩ ⟨(_, _)⟩ = some (.normal, ⟨[(1, .rp [.i .i64 p0.fKind, .s p0.fKey, .s p0.fField, .s p0.fText, .i .i64 p0.fN]), (95, .v (.b (ck_value_CheckCommand_k28v5_v p0 p0.fKind p0.fKey p0.fText p0.fN)))], [[.v (.i .i64 p0.fKind), .v (.s p0.fKey), .v (.s ByteArray.empty), .v (.s p0.fText), .v (.i .i64 p0.fN)]]⟩) := rg_value_CheckCommand_k28v5 C k_value_field k_value_text p0 p0.fKind p0.fKey p0.fText p0.fN _ _ rfl (ck_value_CheckCommand_k28v5_v p0 p0.fKind p0.fKey p0.fText p0.fN) (ck_value_CheckCommand_k28v5_t p0 p0.fKind p0.fKey p0.fText p0.fN)
    refine boolTF (ck_value_CheckCommand_k28v5_v p0 p0.fKind p0.fKey p0.fText p0.fN) ?_ ?_
    focus
      intro h18
      replace hF := condT h18 hF
      have hR := Option.some.inj hF
      clear hF
      subst hR
    rotate_left 1
    intro h18
    replace hF := condF h18 hF
    have g2 : C.wide 70 [.v (.i .i64 p0.fN)] [] = some (.v (.b (value_count_v p0.fN)), []) := k_value_count p0.fN _ (value_count_t p0.fN)
    refine boolTF (value_count_v p0.fN) ?_ ?_
    focus
      intro h19
      replace hF := condT h19 hF
      have hR := Option.some.inj hF
      clear hF
      subst hR
    rotate_left 1
    intro h19
    replace hF := condF h19 hF
    have hR := Option.some.inj hF
    clear hF
    subst hR
  rotate_left 4
  intro h16
  replace hF := condF h16 hF
  unfold value_CheckCommand_c1 at hF
  refine boolFT (p0.fKind == 22) ?_ ?_
  focus
    intro h17
    replace hF := condF h17 hF
    refine boolFT (seqB p0.fField ByteArray.empty) ?_ ?_
    focus
      intro h18
      replace hF := condF h18 hF
      have hR := Option.some.inj hF
      clear hF
      subst hR
    rotate_left 1
    intro h18
    replace hF := condT h18 hF
    refine boolFT (seqB p0.fText ByteArray.empty) ?_ ?_
    focus
      intro h19
      replace hF := condF h19 hF
      have hR := Option.some.inj hF
      clear hF
      subst hR
    rotate_left 1
    intro h19
    replace hF := condT h19 hF
    refine boolFT (p0.fN == 0) ?_ ?_
    focus
      intro h20
      replace hF := condF h20 hF
      have hR := Option.some.inj hF
      clear hF
      subst hR
    rotate_left 1
    intro h20
    replace hF := condT h20 hF
    have g7 : @regI TT C.wide (evW TT C.wide n128 b128) n128 28 ⟨[(1, .rp [.i .i64 p0.fKind, .s p0.fKey, .s p0.fField, .s p0.fText, .i .i64 p0.fN]), (64, .v (.b false))], [[.v (.i .i64 p0.fKind), .v (.s p0.fKey), .v (.s ByteArray.empty), .v (.s ByteArray.empty), .v (.i .i64 0)]]⟩ ⟨(_, _)⟩ = some (.normal, ⟨[(1, .rp [.i .i64 p0.fKind, .s p0.fKey, .s p0.fField, .s p0.fText, .i .i64 p0.fN]), (95, .v (.b (ck_value_CheckCommand_k28v7_v p0 p0.fKind p0.fKey)))], [[.v (.i .i64 p0.fKind), .v (.s p0.fKey), .v (.s ByteArray.empty), .v (.s ByteArray.empty), .v (.i .i64 0)]]⟩) := rg_value_CheckCommand_k28v7 C k_value_field k_value_text p0 p0.fKind p0.fKey _ _ rfl (ck_value_CheckCommand_k28v7_v p0 p0.fKind p0.fKey) (ck_value_CheckCommand_k28v7_t p0 p0.fKind p0.fKey)
    refine boolTF (ck_value_CheckCommand_k28v7_v p0 p0.fKind p0.fKey) ?_ ?_
    focus
      intro h21
      replace hF := condT h21 hF
      have hR := Option.some.inj hF
      clear hF
      subst hR
    rotate_left 1
    intro h21
    replace hF := condF h21 hF
    have g2 : C.wide 70 [.v (.i .i64 p0.fN)] [] = some (.v (.b (value_count_v p0.fN)), []) := k_value_count p0.fN _ (value_count_t p0.fN)
    refine boolTF (value_count_v p0.fN) ?_ ?_
    focus
      intro h22
      replace hF := condT h22 hF
      have hR := Option.some.inj hF
      clear hF
      subst hR
    rotate_left 1
    intro h22
    replace hF := condF h22 hF
    have hR := Option.some.inj hF
    clear hF
    subst hR
  rotate_left 6
  intro h17
  replace hF := condT h17 hF
  unfold value_CheckCommand_c0 at hF
  refine boolFT (seqB p0.fKey ByteArray.empty) ?_ ?_
  focus
    intro h18
    replace hF := condF h18 hF
    have hR := Option.some.inj hF
    clear hF
    subst hR
  rotate_left 1
  intro h18
  replace hF := condT h18 hF
  refine boolFT (seqB p0.fField ByteArray.empty) ?_ ?_
  focus
    intro h19
    replace hF := condF h19 hF
    have hR := Option.some.inj hF
    clear hF
    subst hR
  rotate_left 1
  intro h19
  replace hF := condT h19 hF
  refine boolFT (seqB p0.fText ByteArray.empty) ?_ ?_
  focus
    intro h20
    replace hF := condF h20 hF
    have hR := Option.some.inj hF
    clear hF
    subst hR
  rotate_left 1
  intro h20
  replace hF := condT h20 hF
  refine boolFT (p0.fN == 0) ?_ ?_
  focus
    intro h21
    replace hF := condF h21 hF
    have hR := Option.some.inj hF
    clear hF
    subst hR
  rotate_left 1
  intro h21
  replace hF := condT h21 hF
  have g8 : @regI TT C.wide (evW TT C.wide n128 b128) n128 28 ⟨[(1, .rp [.i .i64 p0.fKind, .s p0.fKey, .s p0.fField, .s p0.fText, .i .i64 p0.fN]), (64, .v (.b false))], [[.v (.i .i64 p0.fKind), .v (.s ByteArray.empty), .v (.s ByteArray.empty), .v (.s ByteArray.empty), .v (.i .i64 0)]]⟩ ⟨(_, _)⟩ = some (.normal, ⟨[(1, .rp [.i .i64 p0.fKind, .s p0.fKey, .s p0.fField, .s p0.fText, .i .i64 p0.fN]), (95, .v (.b (ck_value_CheckCommand_k28v6_v p0 p0.fKind)))], [[.v (.i .i64 p0.fKind), .v (.s ByteArray.empty), .v (.s ByteArray.empty), .v (.s ByteArray.empty), .v (.i .i64 0)]]⟩) := rg_value_CheckCommand_k28v6 C k_value_field k_value_text p0 p0.fKind _ _ rfl (ck_value_CheckCommand_k28v6_v p0 p0.fKind) (ck_value_CheckCommand_k28v6_t p0 p0.fKind)
  refine boolTF (ck_value_CheckCommand_k28v6_v p0 p0.fKind) ?_ ?_
  focus
    intro h22
    replace hF := condT h22 hF
    have hR := Option.some.inj hF
    clear hF
    subst hR
  rotate_left 1
  intro h22
  replace hF := condF h22 hF
  have g2 : C.wide 70 [.v (.i .i64 p0.fN)] [] = some (.v (.b (value_count_v p0.fN)), []) := k_value_count p0.fN _ (value_count_t p0.fN)
  refine boolTF (value_count_v p0.fN) ?_ ?_
  focus
    intro h23
    replace hF := condT h23 hF
    have hR := Option.some.inj hF
    clear hF
    subst hR
  rotate_left 1
  intro h23
  replace hF := condF h23 hF
  have hR := Option.some.inj hF
  clear hF
  subst hR
  all_goals (rw [evFn_finish]; show finish _ _ _ (evCode _ _ _ _ (Code.seq _ _) _) = _; simp (maxSteps := 4000000) only [*, res128, n128k0, n128k1, n128k2, n128k3, n128k4, n128k5, n128k6, n128k7, n128k8, n128k9, n128k10, n128k11, n128k12, n128k13, n128k14, n128k15, n128k16, n128k17, n128k18, n128k19, n128k20, n128k21, n128k22, n128k23, n128k24, n128k25, n128k26, n128k27, n128k28, n128k29, n128k30, n128k31, n128k32, n128f18, n128f23, n128ro, n128mv, n128gv, ↓evCode_skip, ↓evCode_ret, ↓evCode_exit, ↓evCode_loop, ↓evCode_block_seq, ↓evCode_block_region, ↓evCode_block_cond, ↓evCode_block_block, ↓evCode_block_skip, ↓cond_true, ↓cond_false, enter, List.toList_toArray, Bool.false_and, cond_false, guardB, yieldedD, isWork, cond_true, workOk, workOp, Mx.force, opnd, Mx.look, Nat.reduceBEq, solid, Mx.fit, fitCs, fitC, List.isEmpty_cons, List.isEmpty_nil, Bool.false_or, Bool.or_false, Bool.true_or, Bool.or_true, Bool.and_true, Bool.true_and, Bool.and_false, Bool.not_true, Bool.not_false, Bool.not_not, Bool.or_not_self, Bool.not_or_self, Bool.and_self, Bool.or_self, toVs, cellsOf, toV, setReg_m, spend_m, hasOwn, ownFree, List.all_cons, List.all_nil, ownFreeC, Mx.put, ofConst, ofCell, after_some, Mx.prune, List.map_cons, List.map_nil, killB, killBs, unblock_normal, unblock_ret, unblock_exit, pureOp, putDst, offReg_m, callFails, isFuncCall, Option.isNone_none, Option.isNone_some, Option.isSome_none, Option.isSome_some, fieldOff, loadAt, partD, List.length_cons, List.length_nil, List.map, List.drop_succ_cons, List.drop_zero, List.take_succ_cons, List.take_zero, List.take_nil, List.drop_nil, List.getElem?_cons_zero, List.getElem?_cons_succ, List.getElem?_nil, Nat.reduceAdd, Nat.reduceMul, Nat.zero_add, Nat.add_zero, binD, binV, eqCells, eqC, lenD, sliceOf, ite_true, if_true, eq_self, reduceIte, reduceCtorEq, finish_ret, finish_normal, giveBack, resAll, resOne, outD, outOk, stayC, cellOk, valOk, lowC, lowP, forceAll, bound, asNat, elemIs, isStrK, sameInt, sliceD, kill, spendLoc, spendOk, setOwn, dropAl, dropAls, inReg, inObj, isCell, gone, List.contains_cons, List.contains_nil, List.elem_cons, List.elem_nil, lend, lendA, tracked, trackedA, noSlT, noSlV, bare, bareC, List.any_cons, List.any_nil, frz, frzC, frzReg_m, isGive, argE, argsE, isOwn, noOwn, fill, setCells, setVs, takeParts, rowsOf, inOrder, ownAt, List.set_cons_zero, List.set_cons_succ, List.nil_append, List.cons_append, List.append_nil, Nat.reduceBNe, Nat.reduceSub, Nat.reduceLT, Nat.reduceLeDiff, decide_true, decide_false, Int.cast_ofNat_Int, again_norm, againN_some, trunc_m, lowA, lowLoc, again_ret, again_exit, beq_self_eq_true, Bool.cond_true_left, Bool.cond_false_right, Bool.cond_false_left, Bool.cond_true_right, ge_iff_le, gt_iff_lt, kindW, plainWork, ownsDst, calmOp, calm, calmC, calmP, immB, noLoc, noLocC, readsAt, plainK, freeOk, pairOk, rwOk, List.getD_cons_zero, List.getD_cons_succ, Op.operands, Bool.not_eq_true, Option.map_some, Option.map_none, Int.reduceBEq, Int.reduceLT, Int.reduceLE, Int.reduceNeg, Bool.decide_eq_true, Int.reduceBNe, pickOk_f, pickOk_x, pickOk_h, outTup, cond_nest_t, cond_nest_f, cond_same, newB, newC, flatB, flatI, flatS, binK, binI, bne, mapR_len, mapR_app, mapR_emp, mapR_sub, mapR_nil, byL_m, strL_m, allB_m, strL0, row_oneB, row_consB, row_oneI, row_consI, row_oneS, row_consS, set_B, set_I, set_S, rep_B, rep_I, seq_m, slt_m, str0, modS_0, modS_s, ↓evCode_seqI, ↓evCode_condI, thenI_normal, thenI_ret, thenI_exit, branchI_t, branchI_f, runI_nil, runI_cons, opsI_some, stepI_t, stepI_f, guardI_none, guardI_some, runK_nil, runK_cons, opsK_some, kindI_t, kindI_f, endK_some, drawI_nil, drawI_cons, pickOk, aliasCs, standB, tailOf, isSliceK, effOk, Sum.elim_inl, Sum.elim_inr, beq_true, beq_false, Bool.true_beq, Bool.false_beq, Call.operands, List.isEmpty_toArray, Array.toList_append, Option.toArray_some, Option.toArray_none, ty3, ty4, ty9, ty25, ty34, ↓evCode_regionI _ _ _ _ 0, ↓evCode_regionI _ _ _ _ 1, ↓evCode_regionI _ _ _ _ 2, ↓evCode_regionI _ _ _ _ 3, ↓evCode_regionI _ _ _ _ 4, ↓evCode_regionI _ _ _ _ 5, ↓evCode_regionI _ _ _ _ 6, ↓evCode_regionI _ _ _ _ 7, ↓evCode_regionI _ _ _ _ 8, ↓evCode_regionI _ _ _ _ 9, ↓evCode_regionI _ _ _ _ 10, ↓evCode_regionI _ _ _ _ 11, ↓evCode_regionI _ _ _ _ 12, ↓evCode_regionI _ _ _ _ 13, ↓evCode_regionI _ _ _ _ 14, ↓evCode_regionI _ _ _ _ 15, ↓evCode_regionI _ _ _ _ 16, ↓evCode_regionI _ _ _ _ 17, ↓evCode_drawI _ _ _ _ 18, ↓evCode_regionI _ _ _ _ 19, ↓evCode_regionI _ _ _ _ 20, ↓evCode_regionI _ _ _ _ 21, ↓evCode_regionI _ _ _ _ 22, ↓evCode_drawI _ _ _ _ 23, ↓evCode_regionI _ _ _ _ 24, ↓evCode_regionI _ _ _ _ 25, ↓evCode_regionI _ _ _ _ 26, ↓evCode_regionI _ _ _ _ 27, ↓evCode_regionB _ _ _ _ 28, ↓evCode_regionI _ _ _ _ 29, ↓evCode_regionI _ _ _ _ 30, ↓evCode_regionI _ _ _ _ 31, ↓evCode_regionI _ _ _ _ 32])
/-! ### client.CheckCall -/
def n102 : Note where
  keep := fun i => match i with
    | 0 => [1]
    | 1 => [1, 5]
    | 2 => [8]
    | 3 => [2]
    | 4 => [2]
    | 5 => [1, 18]
    | 6 => [2]
    | 7 => [2]
    | _ => []
  ro := fun t => t == 1
  mv := fun _ => false
  give := fun _ => false
  free := fun _ => []
theorem n102k0 : n102.keep 0 = [1] := rfl
theorem n102k1 : n102.keep 1 = [1, 5] := rfl
theorem n102k2 : n102.keep 2 = [8] := rfl
theorem n102k3 : n102.keep 3 = [2] := rfl
theorem n102k4 : n102.keep 4 = [2] := rfl
theorem n102k5 : n102.keep 5 = [1, 18] := rfl
theorem n102k6 : n102.keep 6 = [2] := rfl
theorem n102k7 : n102.keep 7 = [2] := rfl
theorem n102ro (t : Nat) : n102.ro t = (t == 1) := rfl
theorem n102mv (t : Nat) : n102.mv t = (false) := rfl
theorem n102gv (t : Nat) : n102.give t = (false) := rfl
theorem res102 : Try.f102.results.toList = [.tmp 2] := rfl
noncomputable def b102 : Code := bodyOf Try.f102
set_option maxRecDepth 100000 in
set_option maxHeartbeats 40000000 in
theorem r_client_CheckCall (C : Oracle) (k_client_number : K_client_number C) (k_value_CheckCommand : K_value_CheckCommand C) (p0 : GCall) (r : Int) (hF : client_CheckCall p0 = some r) : evFn TT C.wide (evW TT C.wide n102 b102) n102 Try.f102.results.toList (bodyOf Try.f102) [.agg [.v (.i .i64 p0.fClient), .v (.i .i64 p0.fSeq), .v (.i .i64 p0.fCommand.fKind), .v (.s p0.fCommand.fKey), .v (.s p0.fCommand.fField), .v (.s p0.fCommand.fText), .v (.i .i64 p0.fCommand.fN)]] [] = some (.v (.i .i64 r), []) := by
  unfold client_CheckCall at hF
  refine boolFT (p0.fClient == 0) ?_ ?_
  focus
    intro h1
    replace hF := condF h1 hF
    have g1 : C.wide 127 [.v (.i .i64 p0.fClient)] [] = some (.v (.b (client_number_v p0.fClient)), []) := k_client_number p0.fClient _ (client_number_t p0.fClient)
    refine boolFT (client_number_v p0.fClient) ?_ ?_
    focus
      intro h2
      replace hF := condF h2 hF
      have hR := Option.some.inj hF
      clear hF
      subst hR
    rotate_left 1
    intro h2
    replace hF := condT h2 hF
    have g2 : C.wide 127 [.v (.i .i64 p0.fSeq)] [] = some (.v (.b (client_number_v p0.fSeq)), []) := k_client_number p0.fSeq _ (client_number_t p0.fSeq)
    refine boolTF (client_number_v p0.fSeq) ?_ ?_
    focus
      intro h3
      replace hF := condT h3 hF
      have g3 : C.wide 128 [.agg [.v (.i .i64 p0.fCommand.fKind), .v (.s p0.fCommand.fKey), .v (.s p0.fCommand.fField), .v (.s p0.fCommand.fText), .v (.i .i64 p0.fCommand.fN)]] [] = some (.v (.i .i64 (value_CheckCommand_v p0.fCommand)), []) := k_value_CheckCommand p0.fCommand _ (value_CheckCommand_t p0.fCommand)
      have hR := Option.some.inj hF
      clear hF
      subst hR
    rotate_left 1
    intro h3
    replace hF := condF h3 hF
    have hR := Option.some.inj hF
    clear hF
    subst hR
  rotate_left 3
  intro h1
  replace hF := condT h1 hF
  unfold client_CheckCall_c0 at hF
  refine boolFT (p0.fSeq == 0) ?_ ?_
  focus
    intro h2
    replace hF := condF h2 hF
    have hR := Option.some.inj hF
    clear hF
    subst hR
  rotate_left 1
  intro h2
  replace hF := condT h2 hF
  refine boolFT (p0.fCommand.fKind == 0) ?_ ?_
  focus
    intro h3
    replace hF := condF h3 hF
    have hR := Option.some.inj hF
    clear hF
    subst hR
  rotate_left 1
  intro h3
  replace hF := condT h3 hF
  refine boolFT (seqB p0.fCommand.fKey ByteArray.empty) ?_ ?_
  focus
    intro h4
    replace hF := condF h4 hF
    have hR := Option.some.inj hF
    clear hF
    subst hR
  rotate_left 1
  intro h4
  replace hF := condT h4 hF
  refine boolFT (seqB p0.fCommand.fField ByteArray.empty) ?_ ?_
  focus
    intro h5
    replace hF := condF h5 hF
    have hR := Option.some.inj hF
    clear hF
    subst hR
  rotate_left 1
  intro h5
  replace hF := condT h5 hF
  refine boolFT (seqB p0.fCommand.fText ByteArray.empty) ?_ ?_
  focus
    intro h6
    replace hF := condF h6 hF
    have hR := Option.some.inj hF
    clear hF
    subst hR
  rotate_left 1
  intro h6
  replace hF := condT h6 hF
  refine boolTF (p0.fCommand.fN == 0) ?_ ?_
  focus
    intro h7
    replace hF := condT h7 hF
    have hR := Option.some.inj hF
    clear hF
    subst hR
  rotate_left 1
  intro h7
  replace hF := condF h7 hF
  have hR := Option.some.inj hF
  clear hF
  subst hR
  all_goals (rw [evFn_finish]; show finish _ _ _ (evCode _ _ _ _ (Code.seq _ _) _) = _; simp (maxSteps := 4000000) only [*, res102, n102k0, n102k1, n102k2, n102k3, n102k4, n102k5, n102k6, n102k7, n102ro, n102mv, n102gv, ↓evCode_skip, ↓evCode_ret, ↓evCode_exit, ↓evCode_loop, ↓evCode_block_seq, ↓evCode_block_region, ↓evCode_block_cond, ↓evCode_block_block, ↓evCode_block_skip, ↓cond_true, ↓cond_false, enter, List.toList_toArray, Bool.false_and, cond_false, guardB, yieldedD, isWork, cond_true, workOk, workOp, Mx.force, opnd, Mx.look, Nat.reduceBEq, solid, Mx.fit, fitCs, fitC, List.isEmpty_cons, List.isEmpty_nil, Bool.false_or, Bool.or_false, Bool.true_or, Bool.or_true, Bool.and_true, Bool.true_and, Bool.and_false, Bool.not_true, Bool.not_false, Bool.not_not, Bool.or_not_self, Bool.not_or_self, Bool.and_self, Bool.or_self, toVs, cellsOf, toV, setReg_m, spend_m, hasOwn, ownFree, List.all_cons, List.all_nil, ownFreeC, Mx.put, ofConst, ofCell, after_some, Mx.prune, List.map_cons, List.map_nil, killB, killBs, unblock_normal, unblock_ret, unblock_exit, pureOp, putDst, offReg_m, callFails, isFuncCall, Option.isNone_none, Option.isNone_some, Option.isSome_none, Option.isSome_some, fieldOff, loadAt, partD, List.length_cons, List.length_nil, List.map, List.drop_succ_cons, List.drop_zero, List.take_succ_cons, List.take_zero, List.take_nil, List.drop_nil, List.getElem?_cons_zero, List.getElem?_cons_succ, List.getElem?_nil, Nat.reduceAdd, Nat.reduceMul, Nat.zero_add, Nat.add_zero, binD, binV, eqCells, eqC, lenD, sliceOf, ite_true, if_true, eq_self, reduceIte, reduceCtorEq, finish_ret, finish_normal, giveBack, resAll, resOne, outD, outOk, stayC, cellOk, valOk, lowC, lowP, forceAll, bound, asNat, elemIs, isStrK, sameInt, sliceD, kill, spendLoc, spendOk, setOwn, dropAl, dropAls, inReg, inObj, isCell, gone, List.contains_cons, List.contains_nil, List.elem_cons, List.elem_nil, lend, lendA, tracked, trackedA, noSlT, noSlV, bare, bareC, List.any_cons, List.any_nil, frz, frzC, frzReg_m, isGive, argE, argsE, isOwn, noOwn, fill, setCells, setVs, takeParts, rowsOf, inOrder, ownAt, List.set_cons_zero, List.set_cons_succ, List.nil_append, List.cons_append, List.append_nil, Nat.reduceBNe, Nat.reduceSub, Nat.reduceLT, Nat.reduceLeDiff, decide_true, decide_false, Int.cast_ofNat_Int, again_norm, againN_some, trunc_m, lowA, lowLoc, again_ret, again_exit, beq_self_eq_true, Bool.cond_true_left, Bool.cond_false_right, Bool.cond_false_left, Bool.cond_true_right, ge_iff_le, gt_iff_lt, kindW, plainWork, ownsDst, calmOp, calm, calmC, calmP, immB, noLoc, noLocC, readsAt, plainK, freeOk, pairOk, rwOk, List.getD_cons_zero, List.getD_cons_succ, Op.operands, Bool.not_eq_true, Option.map_some, Option.map_none, Int.reduceBEq, Int.reduceLT, Int.reduceLE, Int.reduceNeg, Bool.decide_eq_true, Int.reduceBNe, pickOk_f, pickOk_x, pickOk_h, outTup, cond_nest_t, cond_nest_f, cond_same, newB, newC, flatB, flatI, flatS, binK, binI, bne, mapR_len, mapR_app, mapR_emp, mapR_sub, mapR_nil, byL_m, strL_m, allB_m, strL0, row_oneB, row_consB, row_oneI, row_consI, row_oneS, row_consS, set_B, set_I, set_S, rep_B, rep_I, seq_m, slt_m, str0, modS_0, modS_s, ↓evCode_seqI, ↓evCode_condI, ↓evCode_regionI, ↓evCode_drawI, thenI_normal, thenI_ret, thenI_exit, branchI_t, branchI_f, runI_nil, runI_cons, opsI_some, stepI_t, stepI_f, guardI_none, guardI_some, runK_nil, runK_cons, opsK_some, kindI_t, kindI_f, endK_some, drawI_nil, drawI_cons, pickOk, aliasCs, standB, tailOf, isSliceK, effOk, Sum.elim_inl, Sum.elim_inr, beq_true, beq_false, Bool.true_beq, Bool.false_beq, Call.operands, List.isEmpty_toArray, Array.toList_append, Option.toArray_some, Option.toArray_none, ty3, ty4, ty9, ty25, ty34, ty36])
/-! ### wire.CheckItem -/
def n56 : Note where
  keep := fun i => match i with
    | 0 => [1]
    | 1 => [1, 20]
    | 2 => [2]
    | 3 => [1, 22]
    | 4 => [26]
    | 5 => [2]
    | 6 => [2]
    | 7 => [2]
    | _ => []
  ro := fun t => t == 1
  mv := fun _ => false
  give := fun _ => false
  free := fun _ => []
theorem n56k0 : n56.keep 0 = [1] := rfl
theorem n56k1 : n56.keep 1 = [1, 20] := rfl
theorem n56k2 : n56.keep 2 = [2] := rfl
theorem n56k3 : n56.keep 3 = [1, 22] := rfl
theorem n56k4 : n56.keep 4 = [26] := rfl
theorem n56k5 : n56.keep 5 = [2] := rfl
theorem n56k6 : n56.keep 6 = [2] := rfl
theorem n56k7 : n56.keep 7 = [2] := rfl
theorem n56ro (t : Nat) : n56.ro t = (t == 1) := rfl
theorem n56mv (t : Nat) : n56.mv t = (false) := rfl
theorem n56gv (t : Nat) : n56.give t = (false) := rfl
theorem res56 : Try.f56.results.toList = [.tmp 2] := rfl
noncomputable def b56 : Code := bodyOf Try.f56
set_option maxRecDepth 100000 in
set_option maxHeartbeats 40000000 in
theorem rg_wire_CheckItem_k1 (C : Oracle)  (p0 : GItem) (ops : Array Oper) (dr : Bool) (ho : regAt 1 b56 = some (ops, dr)) (r : Bool) (hF : ck_wire_CheckItem_k1 p0 = some r) : evCode TT C.wide (evW TT C.wide n56 b56) n56 (.region 1 ops dr) ⟨[(1, .rp [.i .i64 p0.fTerm, .i .i64 p0.fTime, .b p0.fNop, .i .i64 p0.fCall.fClient, .i .i64 p0.fCall.fSeq, .i .i64 p0.fCall.fCommand.fKind, .s p0.fCall.fCommand.fKey, .s p0.fCall.fCommand.fField, .s p0.fCall.fCommand.fText, .i .i64 p0.fCall.fCommand.fN])], []⟩ = some (.normal, ⟨[(1, .rp [.i .i64 p0.fTerm, .i .i64 p0.fTime, .b p0.fNop, .i .i64 p0.fCall.fClient, .i .i64 p0.fCall.fSeq, .i .i64 p0.fCall.fCommand.fKind, .s p0.fCall.fCommand.fKey, .s p0.fCall.fCommand.fField, .s p0.fCall.fCommand.fText, .i .i64 p0.fCall.fCommand.fN]), (20, .v (.b r))], []⟩) := by
  have e := Option.some.inj (ho.symm.trans (rfl : regAt 1 b56 = some (_, _)))
  obtain ⟨rfl, rfl⟩ := Prod.mk.inj e
  clear e ho
  unfold ck_wire_CheckItem_k1 at hF
  refine boolTF (decide (p0.fTerm < 1)) ?_ ?_
  focus
    intro h1
    replace hF := condT h1 hF
    have hR := Option.some.inj hF
    clear hF
    subst hR
  rotate_left 1
  intro h1
  replace hF := condF h1 hF
  refine boolTF (decide (1048576 < p0.fTerm)) ?_ ?_
  focus
    intro h2
    replace hF := condT h2 hF
    have hR := Option.some.inj hF
    clear hF
    subst hR
  rotate_left 1
  intro h2
  replace hF := condF h2 hF
  refine boolTF (decide (p0.fTime < 0)) ?_ ?_
  focus
    intro h3
    replace hF := condT h3 hF
    have hR := Option.some.inj hF
    clear hF
    subst hR
  rotate_left 1
  intro h3
  replace hF := condF h3 hF
  have hR := Option.some.inj hF
  clear hF
  subst hR
  all_goals (simp (maxSteps := 4000000) only [*, res56, n56k0, n56k1, n56k2, n56k3, n56k4, n56k5, n56k6, n56k7, n56ro, n56mv, n56gv, ↓evCode_skip, ↓evCode_ret, ↓evCode_exit, ↓evCode_loop, ↓evCode_block_seq, ↓evCode_block_region, ↓evCode_block_cond, ↓evCode_block_block, ↓evCode_block_skip, ↓cond_true, ↓cond_false, enter, List.toList_toArray, Bool.false_and, cond_false, guardB, yieldedD, isWork, cond_true, workOk, workOp, Mx.force, opnd, Mx.look, Nat.reduceBEq, solid, Mx.fit, fitCs, fitC, List.isEmpty_cons, List.isEmpty_nil, Bool.false_or, Bool.or_false, Bool.true_or, Bool.or_true, Bool.and_true, Bool.true_and, Bool.and_false, Bool.not_true, Bool.not_false, Bool.not_not, Bool.or_not_self, Bool.not_or_self, Bool.and_self, Bool.or_self, toVs, cellsOf, toV, setReg_m, spend_m, hasOwn, ownFree, List.all_cons, List.all_nil, ownFreeC, Mx.put, ofConst, ofCell, after_some, Mx.prune, List.map_cons, List.map_nil, killB, killBs, unblock_normal, unblock_ret, unblock_exit, pureOp, putDst, offReg_m, callFails, isFuncCall, Option.isNone_none, Option.isNone_some, Option.isSome_none, Option.isSome_some, fieldOff, loadAt, partD, List.length_cons, List.length_nil, List.map, List.drop_succ_cons, List.drop_zero, List.take_succ_cons, List.take_zero, List.take_nil, List.drop_nil, List.getElem?_cons_zero, List.getElem?_cons_succ, List.getElem?_nil, Nat.reduceAdd, Nat.reduceMul, Nat.zero_add, Nat.add_zero, binD, binV, eqCells, eqC, lenD, sliceOf, ite_true, if_true, eq_self, reduceIte, reduceCtorEq, finish_ret, finish_normal, giveBack, resAll, resOne, outD, outOk, stayC, cellOk, valOk, lowC, lowP, forceAll, bound, asNat, elemIs, isStrK, sameInt, sliceD, kill, spendLoc, spendOk, setOwn, dropAl, dropAls, inReg, inObj, isCell, gone, List.contains_cons, List.contains_nil, List.elem_cons, List.elem_nil, lend, lendA, tracked, trackedA, noSlT, noSlV, bare, bareC, List.any_cons, List.any_nil, frz, frzC, frzReg_m, isGive, argE, argsE, isOwn, noOwn, fill, setCells, setVs, takeParts, rowsOf, inOrder, ownAt, List.set_cons_zero, List.set_cons_succ, List.nil_append, List.cons_append, List.append_nil, Nat.reduceBNe, Nat.reduceSub, Nat.reduceLT, Nat.reduceLeDiff, decide_true, decide_false, Int.cast_ofNat_Int, again_norm, againN_some, trunc_m, lowA, lowLoc, again_ret, again_exit, beq_self_eq_true, Bool.cond_true_left, Bool.cond_false_right, Bool.cond_false_left, Bool.cond_true_right, ge_iff_le, gt_iff_lt, kindW, plainWork, ownsDst, calmOp, calm, calmC, calmP, immB, noLoc, noLocC, readsAt, plainK, freeOk, pairOk, rwOk, List.getD_cons_zero, List.getD_cons_succ, Op.operands, Bool.not_eq_true, Option.map_some, Option.map_none, Int.reduceBEq, Int.reduceLT, Int.reduceLE, Int.reduceNeg, Bool.decide_eq_true, Int.reduceBNe, pickOk_f, pickOk_x, pickOk_h, outTup, cond_nest_t, cond_nest_f, cond_same, newB, newC, flatB, flatI, flatS, binK, binI, bne, mapR_len, mapR_app, mapR_emp, mapR_sub, mapR_nil, byL_m, strL_m, allB_m, strL0, row_oneB, row_consB, row_oneI, row_consI, row_oneS, row_consS, set_B, set_I, set_S, rep_B, rep_I, seq_m, slt_m, str0, modS_0, modS_s, ↓evCode_seqI, ↓evCode_condI, thenI_normal, thenI_ret, thenI_exit, branchI_t, branchI_f, runI_nil, runI_cons, opsI_some, stepI_t, stepI_f, guardI_none, guardI_some, runK_nil, runK_cons, opsK_some, kindI_t, kindI_f, endK_some, drawI_nil, drawI_cons, pickOk, aliasCs, standB, tailOf, isSliceK, effOk, Sum.elim_inl, Sum.elim_inr, beq_true, beq_false, Bool.true_beq, Bool.false_beq, Call.operands, List.isEmpty_toArray, Array.toList_append, Option.toArray_some, Option.toArray_none, ty3, ty4, ty9, ty25, ty34, ty36, ty38, ↓evCode_regionI _ _ _ _ 1])
set_option maxRecDepth 100000 in
set_option maxHeartbeats 40000000 in
theorem r_wire_CheckItem (C : Oracle) (k_client_CheckCall : K_client_CheckCall C) (p0 : GItem) (r : Int) (hF : wire_CheckItem p0 = some r) : evFn TT C.wide (evW TT C.wide n56 b56) n56 Try.f56.results.toList (bodyOf Try.f56) [.agg [.v (.i .i64 p0.fTerm), .v (.i .i64 p0.fTime), .v (.b p0.fNop), .v (.i .i64 p0.fCall.fClient), .v (.i .i64 p0.fCall.fSeq), .v (.i .i64 p0.fCall.fCommand.fKind), .v (.s p0.fCall.fCommand.fKey), .v (.s p0.fCall.fCommand.fField), .v (.s p0.fCall.fCommand.fText), .v (.i .i64 p0.fCall.fCommand.fN)]] [] = some (.v (.i .i64 r), []) := by
  unfold wire_CheckItem at hF
  have g1 : @regI TT C.wide (evW TT C.wide n56 b56) n56 1 ⟨[(1, .rp [.i .i64 p0.fTerm, .i .i64 p0.fTime, .b p0.fNop, .i .i64 p0.fCall.fClient, .i .i64 p0.fCall.fSeq, .i .i64 p0.fCall.fCommand.fKind, .s p0.fCall.fCommand.fKey, .s p0.fCall.fCommand.fField, .s p0.fCall.fCommand.fText, .i .i64 p0.fCall.fCommand.fN])], []⟩ ⟨(_, _)⟩ = some (.normal, ⟨[(1, .rp [.i .i64 p0.fTerm, .i .i64 p0.fTime, .b p0.fNop, .i .i64 p0.fCall.fClient, .i .i64 p0.fCall.fSeq, .i .i64 p0.fCall.fCommand.fKind, .s p0.fCall.fCommand.fKey, .s p0.fCall.fCommand.fField, .s p0.fCall.fCommand.fText, .i .i64 p0.fCall.fCommand.fN]), (20, .v (.b (ck_wire_CheckItem_k1_v p0)))], []⟩) := rg_wire_CheckItem_k1 C p0 _ _ rfl (ck_wire_CheckItem_k1_v p0) (ck_wire_CheckItem_k1_t p0)
  refine boolTF (ck_wire_CheckItem_k1_v p0) ?_ ?_
  focus
    intro h1
    replace hF := condT h1 hF
    have hR := Option.some.inj hF
    clear hF
    subst hR
  rotate_left 1
  intro h1
  replace hF := condF h1 hF
  refine boolFT p0.fNop ?_ ?_
  focus
    intro h2
    replace hF := condF h2 hF
    have g2 : C.wide 102 [.agg [.v (.i .i64 p0.fCall.fClient), .v (.i .i64 p0.fCall.fSeq), .v (.i .i64 p0.fCall.fCommand.fKind), .v (.s p0.fCall.fCommand.fKey), .v (.s p0.fCall.fCommand.fField), .v (.s p0.fCall.fCommand.fText), .v (.i .i64 p0.fCall.fCommand.fN)]] [] = some (.v (.i .i64 (client_CheckCall_v p0.fCall)), []) := k_client_CheckCall p0.fCall _ (client_CheckCall_t p0.fCall)
    try simp only [h2] at g1
    have hR := Option.some.inj hF
    clear hF
    subst hR
  rotate_left 1
  intro h2
  replace hF := condT h2 hF
  unfold wire_CheckItem_c0 at hF
  refine boolFT (p0.fCall.fClient == 0) ?_ ?_
  focus
    intro h3
    replace hF := condF h3 hF
    try simp only [h2] at g1
    have hR := Option.some.inj hF
    clear hF
    subst hR
  rotate_left 1
  intro h3
  replace hF := condT h3 hF
  refine boolFT (p0.fCall.fSeq == 0) ?_ ?_
  focus
    intro h4
    replace hF := condF h4 hF
    try simp only [h2] at g1
    have hR := Option.some.inj hF
    clear hF
    subst hR
  rotate_left 1
  intro h4
  replace hF := condT h4 hF
  refine boolFT (p0.fCall.fCommand.fKind == 0) ?_ ?_
  focus
    intro h5
    replace hF := condF h5 hF
    try simp only [h2] at g1
    have hR := Option.some.inj hF
    clear hF
    subst hR
  rotate_left 1
  intro h5
  replace hF := condT h5 hF
  refine boolFT (seqB p0.fCall.fCommand.fKey ByteArray.empty) ?_ ?_
  focus
    intro h6
    replace hF := condF h6 hF
    try simp only [h2] at g1
    have hR := Option.some.inj hF
    clear hF
    subst hR
  rotate_left 1
  intro h6
  replace hF := condT h6 hF
  refine boolFT (seqB p0.fCall.fCommand.fField ByteArray.empty) ?_ ?_
  focus
    intro h7
    replace hF := condF h7 hF
    try simp only [h2] at g1
    have hR := Option.some.inj hF
    clear hF
    subst hR
  rotate_left 1
  intro h7
  replace hF := condT h7 hF
  refine boolFT (seqB p0.fCall.fCommand.fText ByteArray.empty) ?_ ?_
  focus
    intro h8
    replace hF := condF h8 hF
    try simp only [h2] at g1
    have hR := Option.some.inj hF
    clear hF
    subst hR
  rotate_left 1
  intro h8
  replace hF := condT h8 hF
  refine boolTF (p0.fCall.fCommand.fN == 0) ?_ ?_
  focus
    intro h9
    replace hF := condT h9 hF
    try simp only [h2] at g1
    have hR := Option.some.inj hF
    clear hF
    subst hR
  rotate_left 1
  intro h9
  replace hF := condF h9 hF
  try simp only [h2] at g1
  have hR := Option.some.inj hF
  clear hF
  subst hR
  all_goals (rw [evFn_finish]; show finish _ _ _ (evCode _ _ _ _ (Code.seq _ _) _) = _; simp (maxSteps := 4000000) only [*, res56, n56k0, n56k1, n56k2, n56k3, n56k4, n56k5, n56k6, n56k7, n56ro, n56mv, n56gv, ↓evCode_skip, ↓evCode_ret, ↓evCode_exit, ↓evCode_loop, ↓evCode_block_seq, ↓evCode_block_region, ↓evCode_block_cond, ↓evCode_block_block, ↓evCode_block_skip, ↓cond_true, ↓cond_false, enter, List.toList_toArray, Bool.false_and, cond_false, guardB, yieldedD, isWork, cond_true, workOk, workOp, Mx.force, opnd, Mx.look, Nat.reduceBEq, solid, Mx.fit, fitCs, fitC, List.isEmpty_cons, List.isEmpty_nil, Bool.false_or, Bool.or_false, Bool.true_or, Bool.or_true, Bool.and_true, Bool.true_and, Bool.and_false, Bool.not_true, Bool.not_false, Bool.not_not, Bool.or_not_self, Bool.not_or_self, Bool.and_self, Bool.or_self, toVs, cellsOf, toV, setReg_m, spend_m, hasOwn, ownFree, List.all_cons, List.all_nil, ownFreeC, Mx.put, ofConst, ofCell, after_some, Mx.prune, List.map_cons, List.map_nil, killB, killBs, unblock_normal, unblock_ret, unblock_exit, pureOp, putDst, offReg_m, callFails, isFuncCall, Option.isNone_none, Option.isNone_some, Option.isSome_none, Option.isSome_some, fieldOff, loadAt, partD, List.length_cons, List.length_nil, List.map, List.drop_succ_cons, List.drop_zero, List.take_succ_cons, List.take_zero, List.take_nil, List.drop_nil, List.getElem?_cons_zero, List.getElem?_cons_succ, List.getElem?_nil, Nat.reduceAdd, Nat.reduceMul, Nat.zero_add, Nat.add_zero, binD, binV, eqCells, eqC, lenD, sliceOf, ite_true, if_true, eq_self, reduceIte, reduceCtorEq, finish_ret, finish_normal, giveBack, resAll, resOne, outD, outOk, stayC, cellOk, valOk, lowC, lowP, forceAll, bound, asNat, elemIs, isStrK, sameInt, sliceD, kill, spendLoc, spendOk, setOwn, dropAl, dropAls, inReg, inObj, isCell, gone, List.contains_cons, List.contains_nil, List.elem_cons, List.elem_nil, lend, lendA, tracked, trackedA, noSlT, noSlV, bare, bareC, List.any_cons, List.any_nil, frz, frzC, frzReg_m, isGive, argE, argsE, isOwn, noOwn, fill, setCells, setVs, takeParts, rowsOf, inOrder, ownAt, List.set_cons_zero, List.set_cons_succ, List.nil_append, List.cons_append, List.append_nil, Nat.reduceBNe, Nat.reduceSub, Nat.reduceLT, Nat.reduceLeDiff, decide_true, decide_false, Int.cast_ofNat_Int, again_norm, againN_some, trunc_m, lowA, lowLoc, again_ret, again_exit, beq_self_eq_true, Bool.cond_true_left, Bool.cond_false_right, Bool.cond_false_left, Bool.cond_true_right, ge_iff_le, gt_iff_lt, kindW, plainWork, ownsDst, calmOp, calm, calmC, calmP, immB, noLoc, noLocC, readsAt, plainK, freeOk, pairOk, rwOk, List.getD_cons_zero, List.getD_cons_succ, Op.operands, Bool.not_eq_true, Option.map_some, Option.map_none, Int.reduceBEq, Int.reduceLT, Int.reduceLE, Int.reduceNeg, Bool.decide_eq_true, Int.reduceBNe, pickOk_f, pickOk_x, pickOk_h, outTup, cond_nest_t, cond_nest_f, cond_same, newB, newC, flatB, flatI, flatS, binK, binI, bne, mapR_len, mapR_app, mapR_emp, mapR_sub, mapR_nil, byL_m, strL_m, allB_m, strL0, row_oneB, row_consB, row_oneI, row_consI, row_oneS, row_consS, set_B, set_I, set_S, rep_B, rep_I, seq_m, slt_m, str0, modS_0, modS_s, ↓evCode_seqI, ↓evCode_condI, thenI_normal, thenI_ret, thenI_exit, branchI_t, branchI_f, runI_nil, runI_cons, opsI_some, stepI_t, stepI_f, guardI_none, guardI_some, runK_nil, runK_cons, opsK_some, kindI_t, kindI_f, endK_some, drawI_nil, drawI_cons, pickOk, aliasCs, standB, tailOf, isSliceK, effOk, Sum.elim_inl, Sum.elim_inr, beq_true, beq_false, Bool.true_beq, Bool.false_beq, Call.operands, List.isEmpty_toArray, Array.toList_append, Option.toArray_some, Option.toArray_none, ty3, ty4, ty9, ty25, ty34, ty36, ty38, ↓evCode_regionI _ _ _ _ 0, ↓evCode_regionB _ _ _ _ 1, ↓evCode_regionI _ _ _ _ 2, ↓evCode_regionI _ _ _ _ 3, ↓evCode_regionI _ _ _ _ 4, ↓evCode_regionI _ _ _ _ 5, ↓evCode_regionI _ _ _ _ 6, ↓evCode_regionI _ _ _ _ 7])
/-! ### (*wire.writer).number -/
def n94 : Note where
  keep := fun i => match i with
    | 0 => [0, 4]
    | 1 => [0, 4, 5]
    | 2 => [0, 4, 5, 10]
    | 3 => [0, 4, 5]
    | 4 => [0, 4, 5]
    | _ => []
  ro := fun _ => false
  mv := fun _ => false
  give := fun _ => false
  free := fun i => match i with | 4 => [(0, 1), (0, 2), (0, 3), (0, 4), (0, 5), (1, 5), (2, 5), (3, 5), (4, 5), (0, 6), (1, 6), (2, 6), (3, 6), (4, 6), (5, 6), (0, 7), (1, 7), (2, 7), (3, 7), (4, 7), (0, 8), (1, 8), (2, 8), (3, 8), (4, 8), (0, 9), (1, 9), (2, 9), (3, 9), (4, 9), (0, 10)] | _ => []
theorem n94k0 : n94.keep 0 = [0, 4] := rfl
theorem n94k1 : n94.keep 1 = [0, 4, 5] := rfl
theorem n94k2 : n94.keep 2 = [0, 4, 5, 10] := rfl
theorem n94k3 : n94.keep 3 = [0, 4, 5] := rfl
theorem n94k4 : n94.keep 4 = [0, 4, 5] := rfl
theorem n94ro (t : Nat) : n94.ro t = (false) := rfl
theorem n94mv (t : Nat) : n94.mv t = (false) := rfl
theorem n94gv (t : Nat) : n94.give t = (false) := rfl
theorem n94f4 : n94.free 4 = [(0, 1), (0, 2), (0, 3), (0, 4), (0, 5), (1, 5), (2, 5), (3, 5), (4, 5), (0, 6), (1, 6), (2, 6), (3, 6), (4, 6), (5, 6), (0, 7), (1, 7), (2, 7), (3, 7), (4, 7), (0, 8), (1, 8), (2, 8), (3, 8), (4, 8), (0, 9), (1, 9), (2, 9), (3, 9), (4, 9), (0, 10)] := rfl
theorem res94 : Try.f94.results.toList = [] := rfl
noncomputable def b94 : Code := bodyOf Try.f94
noncomputable def c94_0 : Code := (findLoop 0 (bodyOf Try.f94)).getD .skip
theorem fl94_0 : findLoop 0 b94 = some c94_0 := rfl
def hd_wire_writer_number_0 (p0 : Int) (s : Int × Gwriter) : St := ⟨[(0, .ptr 0 0), (4, .v (.i .u64 p0)), (5, .v (.i .i64 s.1))], [[.own 1 (mapR rowB s.2.fb)]]⟩
def ou_wire_writer_number_0 (p0 : Int) (r : Int × Bool × Gwriter) : Option (Ex × St) := some (.normal, ⟨[(0, .ptr 0 0), (4, .v (.i .u64 p0)), (5, .v (.i .i64 r.1)), (10, .v (.b r.2.1))], [[.own 1 (mapR rowB r.2.2.fb)]]⟩)
set_option maxRecDepth 100000 in
set_option maxHeartbeats 40000000 in
theorem sl_wire_writer_number_0 (C : Oracle)  (p0 : Int) (s : Int × Gwriter) (o : (Int × Gwriter) ⊕ (Int × Bool × Gwriter)) (hF : st_wire_writer_number_0 p0 s = some o) : evW TT C.wide n94 b94 0 (hd_wire_writer_number_0 p0 s) = Sum.elim (fun s => evW TT C.wide n94 b94 0 (hd_wire_writer_number_0 p0 s)) (fun r => ou_wire_writer_number_0 p0 r) o := by
  obtain ⟨p1, p2⟩ := s
  unfold st_wire_writer_number_0 at hF
  try dsimp only at hF
  rw [evW_step TT n94 fl94_0]
  refine boolFT (decide (0 ≤ p1)) ?_ ?_
  focus
    intro h1
    replace hF := condF h1 hF
    have hR := Option.some.inj hF
    clear hF
    subst hR
  rotate_left 1
  intro h1
  replace hF := condT h1 hF
  refine boolTF (fitsB (p2.fb.length + 1) 1) ?_ ?_
  focus
    intro h2
    replace hF := condT h2 hF
    have hR := Option.some.inj hF
    clear hF
    subst hR
  rotate_left 1
  intro h2
  replace hF := condF h2 hF
  cases hF
  all_goals (show again _ _ _ (evCode _ _ _ _ (Code.seq _ _) _) = _; simp (maxSteps := 4000000) only [*, hd_wire_writer_number_0, ou_wire_writer_number_0, res94, n94k0, n94k1, n94k2, n94k3, n94k4, n94f4, n94ro, n94mv, n94gv, ↓evCode_skip, ↓evCode_ret, ↓evCode_exit, ↓evCode_loop, ↓evCode_block_seq, ↓evCode_block_region, ↓evCode_block_cond, ↓evCode_block_block, ↓evCode_block_skip, ↓cond_true, ↓cond_false, enter, List.toList_toArray, Bool.false_and, cond_false, guardB, yieldedD, isWork, cond_true, workOk, workOp, Mx.force, opnd, Mx.look, Nat.reduceBEq, solid, Mx.fit, fitCs, fitC, List.isEmpty_cons, List.isEmpty_nil, Bool.false_or, Bool.or_false, Bool.true_or, Bool.or_true, Bool.and_true, Bool.true_and, Bool.and_false, Bool.not_true, Bool.not_false, Bool.not_not, Bool.or_not_self, Bool.not_or_self, Bool.and_self, Bool.or_self, toVs, cellsOf, toV, setReg_m, spend_m, hasOwn, ownFree, List.all_cons, List.all_nil, ownFreeC, Mx.put, ofConst, ofCell, after_some, Mx.prune, List.map_cons, List.map_nil, killB, killBs, unblock_normal, unblock_ret, unblock_exit, pureOp, putDst, offReg_m, callFails, isFuncCall, Option.isNone_none, Option.isNone_some, Option.isSome_none, Option.isSome_some, fieldOff, loadAt, partD, List.length_cons, List.length_nil, List.map, List.drop_succ_cons, List.drop_zero, List.take_succ_cons, List.take_zero, List.take_nil, List.drop_nil, List.getElem?_cons_zero, List.getElem?_cons_succ, List.getElem?_nil, Nat.reduceAdd, Nat.reduceMul, Nat.zero_add, Nat.add_zero, binD, binV, eqCells, eqC, lenD, sliceOf, ite_true, if_true, eq_self, reduceIte, reduceCtorEq, finish_ret, finish_normal, giveBack, resAll, resOne, outD, outOk, stayC, cellOk, valOk, lowC, lowP, forceAll, bound, asNat, elemIs, isStrK, sameInt, sliceD, kill, spendLoc, spendOk, setOwn, dropAl, dropAls, inReg, inObj, isCell, gone, List.contains_cons, List.contains_nil, List.elem_cons, List.elem_nil, lend, lendA, tracked, trackedA, noSlT, noSlV, bare, bareC, List.any_cons, List.any_nil, frz, frzC, frzReg_m, isGive, argE, argsE, isOwn, noOwn, fill, setCells, setVs, takeParts, rowsOf, inOrder, ownAt, List.set_cons_zero, List.set_cons_succ, List.nil_append, List.cons_append, List.append_nil, Nat.reduceBNe, Nat.reduceSub, Nat.reduceLT, Nat.reduceLeDiff, decide_true, decide_false, Int.cast_ofNat_Int, again_norm, againN_some, trunc_m, lowA, lowLoc, again_ret, again_exit, beq_self_eq_true, Bool.cond_true_left, Bool.cond_false_right, Bool.cond_false_left, Bool.cond_true_right, ge_iff_le, gt_iff_lt, kindW, plainWork, ownsDst, calmOp, calm, calmC, calmP, immB, noLoc, noLocC, readsAt, plainK, freeOk, pairOk, rwOk, List.getD_cons_zero, List.getD_cons_succ, Op.operands, Bool.not_eq_true, Option.map_some, Option.map_none, Int.reduceBEq, Int.reduceLT, Int.reduceLE, Int.reduceNeg, Bool.decide_eq_true, Int.reduceBNe, pickOk_f, pickOk_x, pickOk_h, outTup, cond_nest_t, cond_nest_f, cond_same, newB, newC, flatB, flatI, flatS, binK, binI, bne, mapR_len, mapR_app, mapR_emp, mapR_sub, mapR_nil, byL_m, strL_m, allB_m, strL0, row_oneB, row_consB, row_oneI, row_consI, row_oneS, row_consS, set_B, set_I, set_S, rep_B, rep_I, seq_m, slt_m, str0, modS_0, modS_s, ↓evCode_seqI, ↓evCode_condI, ↓evCode_regionI, ↓evCode_drawI, thenI_normal, thenI_ret, thenI_exit, branchI_t, branchI_f, runI_nil, runI_cons, opsI_some, stepI_t, stepI_f, guardI_none, guardI_some, runK_nil, runK_cons, opsK_some, kindI_t, kindI_f, endK_some, drawI_nil, drawI_cons, pickOk, aliasCs, standB, tailOf, isSliceK, effOk, Sum.elim_inl, Sum.elim_inr, beq_true, beq_false, Bool.true_beq, Bool.false_beq, Call.operands, List.isEmpty_toArray, Array.toList_append, Option.toArray_some, Option.toArray_none, ty3, ty4, ty5, ty39, ty91, ty93, ty154])
set_option maxRecDepth 100000 in
set_option maxHeartbeats 40000000 in
theorem r_wire_writer_number (C : Oracle)  (p0 : Int) (p1 : Gwriter) (r : Gwriter) (hF : wire_writer_number p0 p1 = some r) : evFn TT C.wide (evW TT C.wide n94 b94) n94 Try.f94.results.toList (bodyOf Try.f94) [.ptr 0 0, .v (.i .i64 p0)] [[.own 1 (mapR rowB p1.fb)]] = some (.tup [], [[.own 1 (mapR rowB r.fb)]]) := by
  unfold wire_writer_number at hF
  revert hF
  cases h1 : loopM (st_wire_writer_number_0 (IntKind.u64.wrap (IntKind.i64.wrap (p0 + 4611686018427387904)))) (56, p1)
  focus
    intro hF
    cases hF
  rename_i qh1
  obtain ⟨x1, x2, x3⟩ := qh1
  intro hF
  try dsimp only at hF
  have g1 : evW TT C.wide n94 b94 0 ⟨[(0, .ptr 0 0), (4, .v (.i .u64 (IntKind.u64.wrap (IntKind.i64.wrap (p0 + 4611686018427387904))))), (5, .v (.i .i64 56))], [[.own 1 (mapR rowB p1.fb)]]⟩ = some (.normal, ⟨[(0, .ptr 0 0), (4, .v (.i .u64 (IntKind.u64.wrap (IntKind.i64.wrap (p0 + 4611686018427387904))))), (5, .v (.i .i64 x1)), (10, .v (.b x2))], [[.own 1 (mapR rowB x3.fb)]]⟩) := loopW (hd_wire_writer_number_0 (IntKind.u64.wrap (IntKind.i64.wrap (p0 + 4611686018427387904)))) (ou_wire_writer_number_0 (IntKind.u64.wrap (IntKind.i64.wrap (p0 + 4611686018427387904)))) (fun s o hs => sl_wire_writer_number_0 C (IntKind.u64.wrap (IntKind.i64.wrap (p0 + 4611686018427387904))) s o hs) h1
  have hR := Option.some.inj hF
  clear hF
  subst hR
  all_goals (rw [evFn_finish]; show finish _ _ _ (evCode _ _ _ _ (Code.seq _ _) _) = _; simp (maxSteps := 4000000) only [*, res94, n94k0, n94k1, n94k2, n94k3, n94k4, n94f4, n94ro, n94mv, n94gv, ↓evCode_skip, ↓evCode_ret, ↓evCode_exit, ↓evCode_loop, ↓evCode_block_seq, ↓evCode_block_region, ↓evCode_block_cond, ↓evCode_block_block, ↓evCode_block_skip, ↓cond_true, ↓cond_false, enter, List.toList_toArray, Bool.false_and, cond_false, guardB, yieldedD, isWork, cond_true, workOk, workOp, Mx.force, opnd, Mx.look, Nat.reduceBEq, solid, Mx.fit, fitCs, fitC, List.isEmpty_cons, List.isEmpty_nil, Bool.false_or, Bool.or_false, Bool.true_or, Bool.or_true, Bool.and_true, Bool.true_and, Bool.and_false, Bool.not_true, Bool.not_false, Bool.not_not, Bool.or_not_self, Bool.not_or_self, Bool.and_self, Bool.or_self, toVs, cellsOf, toV, setReg_m, spend_m, hasOwn, ownFree, List.all_cons, List.all_nil, ownFreeC, Mx.put, ofConst, ofCell, after_some, Mx.prune, List.map_cons, List.map_nil, killB, killBs, unblock_normal, unblock_ret, unblock_exit, pureOp, putDst, offReg_m, callFails, isFuncCall, Option.isNone_none, Option.isNone_some, Option.isSome_none, Option.isSome_some, fieldOff, loadAt, partD, List.length_cons, List.length_nil, List.map, List.drop_succ_cons, List.drop_zero, List.take_succ_cons, List.take_zero, List.take_nil, List.drop_nil, List.getElem?_cons_zero, List.getElem?_cons_succ, List.getElem?_nil, Nat.reduceAdd, Nat.reduceMul, Nat.zero_add, Nat.add_zero, binD, binV, eqCells, eqC, lenD, sliceOf, ite_true, if_true, eq_self, reduceIte, reduceCtorEq, finish_ret, finish_normal, giveBack, resAll, resOne, outD, outOk, stayC, cellOk, valOk, lowC, lowP, forceAll, bound, asNat, elemIs, isStrK, sameInt, sliceD, kill, spendLoc, spendOk, setOwn, dropAl, dropAls, inReg, inObj, isCell, gone, List.contains_cons, List.contains_nil, List.elem_cons, List.elem_nil, lend, lendA, tracked, trackedA, noSlT, noSlV, bare, bareC, List.any_cons, List.any_nil, frz, frzC, frzReg_m, isGive, argE, argsE, isOwn, noOwn, fill, setCells, setVs, takeParts, rowsOf, inOrder, ownAt, List.set_cons_zero, List.set_cons_succ, List.nil_append, List.cons_append, List.append_nil, Nat.reduceBNe, Nat.reduceSub, Nat.reduceLT, Nat.reduceLeDiff, decide_true, decide_false, Int.cast_ofNat_Int, again_norm, againN_some, trunc_m, lowA, lowLoc, again_ret, again_exit, beq_self_eq_true, Bool.cond_true_left, Bool.cond_false_right, Bool.cond_false_left, Bool.cond_true_right, ge_iff_le, gt_iff_lt, kindW, plainWork, ownsDst, calmOp, calm, calmC, calmP, immB, noLoc, noLocC, readsAt, plainK, freeOk, pairOk, rwOk, List.getD_cons_zero, List.getD_cons_succ, Op.operands, Bool.not_eq_true, Option.map_some, Option.map_none, Int.reduceBEq, Int.reduceLT, Int.reduceLE, Int.reduceNeg, Bool.decide_eq_true, Int.reduceBNe, pickOk_f, pickOk_x, pickOk_h, outTup, cond_nest_t, cond_nest_f, cond_same, newB, newC, flatB, flatI, flatS, binK, binI, bne, mapR_len, mapR_app, mapR_emp, mapR_sub, mapR_nil, byL_m, strL_m, allB_m, strL0, row_oneB, row_consB, row_oneI, row_consI, row_oneS, row_consS, set_B, set_I, set_S, rep_B, rep_I, seq_m, slt_m, str0, modS_0, modS_s, ↓evCode_seqI, ↓evCode_condI, ↓evCode_regionI, ↓evCode_drawI, thenI_normal, thenI_ret, thenI_exit, branchI_t, branchI_f, runI_nil, runI_cons, opsI_some, stepI_t, stepI_f, guardI_none, guardI_some, runK_nil, runK_cons, opsK_some, kindI_t, kindI_f, endK_some, drawI_nil, drawI_cons, pickOk, aliasCs, standB, tailOf, isSliceK, effOk, Sum.elim_inl, Sum.elim_inr, beq_true, beq_false, Bool.true_beq, Bool.false_beq, Call.operands, List.isEmpty_toArray, Array.toList_append, Option.toArray_some, Option.toArray_none, ty3, ty4, ty5, ty39, ty91, ty93, ty154])
/-! ### (*wire.writer).small -/
def n95 : Note where
  keep := fun i => match i with
    | 0 => []
    | _ => []
  ro := fun _ => false
  mv := fun _ => false
  give := fun _ => false
  free := fun _ => []
theorem n95k0 : n95.keep 0 = [] := rfl
theorem n95ro (t : Nat) : n95.ro t = (false) := rfl
theorem n95mv (t : Nat) : n95.mv t = (false) := rfl
theorem n95gv (t : Nat) : n95.give t = (false) := rfl
theorem res95 : Try.f95.results.toList = [] := rfl
noncomputable def b95 : Code := bodyOf Try.f95
set_option maxRecDepth 100000 in
set_option maxHeartbeats 40000000 in
theorem r_wire_writer_small (C : Oracle)  (p0 : Int) (p1 : Gwriter) (r : Gwriter) (hF : wire_writer_small p0 p1 = some r) : evFn TT C.wide (evW TT C.wide n95 b95) n95 Try.f95.results.toList (bodyOf Try.f95) [.ptr 0 0, .v (.i .i64 p0)] [[.own 1 (mapR rowB p1.fb)]] = some (.tup [], [[.own 1 (mapR rowB r.fb)]]) := by
  unfold wire_writer_small at hF
  refine boolTF (fitsB (p1.fb.length + 1) 1) ?_ ?_
  focus
    intro h1
    replace hF := condT h1 hF
    have hR := Option.some.inj hF
    clear hF
    subst hR
  rotate_left 1
  intro h1
  replace hF := condF h1 hF
  cases hF
  all_goals (rw [evFn_finish]; show finish _ _ _ (evCode _ _ _ _ (Code.region _ _ _) _) = _; simp (maxSteps := 4000000) only [*, res95, n95k0, n95ro, n95mv, n95gv, ↓evCode_skip, ↓evCode_ret, ↓evCode_exit, ↓evCode_loop, ↓evCode_block_seq, ↓evCode_block_region, ↓evCode_block_cond, ↓evCode_block_block, ↓evCode_block_skip, ↓cond_true, ↓cond_false, enter, List.toList_toArray, Bool.false_and, cond_false, guardB, yieldedD, isWork, cond_true, workOk, workOp, Mx.force, opnd, Mx.look, Nat.reduceBEq, solid, Mx.fit, fitCs, fitC, List.isEmpty_cons, List.isEmpty_nil, Bool.false_or, Bool.or_false, Bool.true_or, Bool.or_true, Bool.and_true, Bool.true_and, Bool.and_false, Bool.not_true, Bool.not_false, Bool.not_not, Bool.or_not_self, Bool.not_or_self, Bool.and_self, Bool.or_self, toVs, cellsOf, toV, setReg_m, spend_m, hasOwn, ownFree, List.all_cons, List.all_nil, ownFreeC, Mx.put, ofConst, ofCell, after_some, Mx.prune, List.map_cons, List.map_nil, killB, killBs, unblock_normal, unblock_ret, unblock_exit, pureOp, putDst, offReg_m, callFails, isFuncCall, Option.isNone_none, Option.isNone_some, Option.isSome_none, Option.isSome_some, fieldOff, loadAt, partD, List.length_cons, List.length_nil, List.map, List.drop_succ_cons, List.drop_zero, List.take_succ_cons, List.take_zero, List.take_nil, List.drop_nil, List.getElem?_cons_zero, List.getElem?_cons_succ, List.getElem?_nil, Nat.reduceAdd, Nat.reduceMul, Nat.zero_add, Nat.add_zero, binD, binV, eqCells, eqC, lenD, sliceOf, ite_true, if_true, eq_self, reduceIte, reduceCtorEq, finish_ret, finish_normal, giveBack, resAll, resOne, outD, outOk, stayC, cellOk, valOk, lowC, lowP, forceAll, bound, asNat, elemIs, isStrK, sameInt, sliceD, kill, spendLoc, spendOk, setOwn, dropAl, dropAls, inReg, inObj, isCell, gone, List.contains_cons, List.contains_nil, List.elem_cons, List.elem_nil, lend, lendA, tracked, trackedA, noSlT, noSlV, bare, bareC, List.any_cons, List.any_nil, frz, frzC, frzReg_m, isGive, argE, argsE, isOwn, noOwn, fill, setCells, setVs, takeParts, rowsOf, inOrder, ownAt, List.set_cons_zero, List.set_cons_succ, List.nil_append, List.cons_append, List.append_nil, Nat.reduceBNe, Nat.reduceSub, Nat.reduceLT, Nat.reduceLeDiff, decide_true, decide_false, Int.cast_ofNat_Int, again_norm, againN_some, trunc_m, lowA, lowLoc, again_ret, again_exit, beq_self_eq_true, Bool.cond_true_left, Bool.cond_false_right, Bool.cond_false_left, Bool.cond_true_right, ge_iff_le, gt_iff_lt, kindW, plainWork, ownsDst, calmOp, calm, calmC, calmP, immB, noLoc, noLocC, readsAt, plainK, freeOk, pairOk, rwOk, List.getD_cons_zero, List.getD_cons_succ, Op.operands, Bool.not_eq_true, Option.map_some, Option.map_none, Int.reduceBEq, Int.reduceLT, Int.reduceLE, Int.reduceNeg, Bool.decide_eq_true, Int.reduceBNe, pickOk_f, pickOk_x, pickOk_h, outTup, cond_nest_t, cond_nest_f, cond_same, newB, newC, flatB, flatI, flatS, binK, binI, bne, mapR_len, mapR_app, mapR_emp, mapR_sub, mapR_nil, byL_m, strL_m, allB_m, strL0, row_oneB, row_consB, row_oneI, row_consI, row_oneS, row_consS, set_B, set_I, set_S, rep_B, rep_I, seq_m, slt_m, str0, modS_0, modS_s, ↓evCode_seqI, ↓evCode_condI, ↓evCode_regionI, ↓evCode_drawI, thenI_normal, thenI_ret, thenI_exit, branchI_t, branchI_f, runI_nil, runI_cons, opsI_some, stepI_t, stepI_f, guardI_none, guardI_some, runK_nil, runK_cons, opsK_some, kindI_t, kindI_f, endK_some, drawI_nil, drawI_cons, pickOk, aliasCs, standB, tailOf, isSliceK, effOk, Sum.elim_inl, Sum.elim_inr, beq_true, beq_false, Bool.true_beq, Bool.false_beq, Call.operands, List.isEmpty_toArray, Array.toList_append, Option.toArray_some, Option.toArray_none, ty3, ty5, ty39, ty91, ty93])
/-! ### (*wire.writer).text -/
def n96 : Note where
  keep := fun i => match i with
    | 0 => [0, 1]
    | 1 => []
    | _ => []
  ro := fun _ => false
  mv := fun _ => false
  give := fun _ => false
  free := fun _ => []
theorem n96k0 : n96.keep 0 = [0, 1] := rfl
theorem n96k1 : n96.keep 1 = [] := rfl
theorem n96ro (t : Nat) : n96.ro t = (false) := rfl
theorem n96mv (t : Nat) : n96.mv t = (false) := rfl
theorem n96gv (t : Nat) : n96.give t = (false) := rfl
theorem res96 : Try.f96.results.toList = [] := rfl
noncomputable def b96 : Code := bodyOf Try.f96
set_option maxRecDepth 100000 in
set_option maxHeartbeats 40000000 in
theorem r_wire_writer_text (C : Oracle) (k_wire_writer_small : K_wire_writer_small C) (p0 : ByteArray) (p1 : Gwriter) (r : Gwriter) (hF : wire_writer_text p0 p1 = some r) : evFn TT C.wide (evW TT C.wide n96 b96) n96 Try.f96.results.toList (bodyOf Try.f96) [.ptr 0 0, .v (.s p0)] [[.own 1 (mapR rowB p1.fb)]] = some (.tup [], [[.own 1 (mapR rowB r.fb)]]) := by
  unfold wire_writer_text at hF
  revert hF
  cases h1 : wire_writer_small (p0.size : Int) p1
  focus
    intro hF
    cases hF
  rename_i x1
  intro hF
  try dsimp only at hF
  have g1 : C.wide 95 [.ptr 0 0, .v (.i .i64 (p0.size : Int))] [[.own 1 (mapR rowB p1.fb)]] = some (.tup [], [[.own 1 (mapR rowB x1.fb)]]) := wide_eq [0] rfl rfl rfl rfl (k_wire_writer_small (p0.size : Int) p1 _ h1) rfl rfl
  refine boolTF (fitsB (x1.fb.length + (byL p0).length) 1) ?_ ?_
  focus
    intro h2
    replace hF := condT h2 hF
    have hR := Option.some.inj hF
    clear hF
    subst hR
  rotate_left 1
  intro h2
  replace hF := condF h2 hF
  cases hF
  all_goals (rw [evFn_finish]; show finish _ _ _ (evCode _ _ _ _ (Code.seq _ _) _) = _; simp (maxSteps := 4000000) only [*, res96, n96k0, n96k1, n96ro, n96mv, n96gv, ↓evCode_skip, ↓evCode_ret, ↓evCode_exit, ↓evCode_loop, ↓evCode_block_seq, ↓evCode_block_region, ↓evCode_block_cond, ↓evCode_block_block, ↓evCode_block_skip, ↓cond_true, ↓cond_false, enter, List.toList_toArray, Bool.false_and, cond_false, guardB, yieldedD, isWork, cond_true, workOk, workOp, Mx.force, opnd, Mx.look, Nat.reduceBEq, solid, Mx.fit, fitCs, fitC, List.isEmpty_cons, List.isEmpty_nil, Bool.false_or, Bool.or_false, Bool.true_or, Bool.or_true, Bool.and_true, Bool.true_and, Bool.and_false, Bool.not_true, Bool.not_false, Bool.not_not, Bool.or_not_self, Bool.not_or_self, Bool.and_self, Bool.or_self, toVs, cellsOf, toV, setReg_m, spend_m, hasOwn, ownFree, List.all_cons, List.all_nil, ownFreeC, Mx.put, ofConst, ofCell, after_some, Mx.prune, List.map_cons, List.map_nil, killB, killBs, unblock_normal, unblock_ret, unblock_exit, pureOp, putDst, offReg_m, callFails, isFuncCall, Option.isNone_none, Option.isNone_some, Option.isSome_none, Option.isSome_some, fieldOff, loadAt, partD, List.length_cons, List.length_nil, List.map, List.drop_succ_cons, List.drop_zero, List.take_succ_cons, List.take_zero, List.take_nil, List.drop_nil, List.getElem?_cons_zero, List.getElem?_cons_succ, List.getElem?_nil, Nat.reduceAdd, Nat.reduceMul, Nat.zero_add, Nat.add_zero, binD, binV, eqCells, eqC, lenD, sliceOf, ite_true, if_true, eq_self, reduceIte, reduceCtorEq, finish_ret, finish_normal, giveBack, resAll, resOne, outD, outOk, stayC, cellOk, valOk, lowC, lowP, forceAll, bound, asNat, elemIs, isStrK, sameInt, sliceD, kill, spendLoc, spendOk, setOwn, dropAl, dropAls, inReg, inObj, isCell, gone, List.contains_cons, List.contains_nil, List.elem_cons, List.elem_nil, lend, lendA, tracked, trackedA, noSlT, noSlV, bare, bareC, List.any_cons, List.any_nil, frz, frzC, frzReg_m, isGive, argE, argsE, isOwn, noOwn, fill, setCells, setVs, takeParts, rowsOf, inOrder, ownAt, List.set_cons_zero, List.set_cons_succ, List.nil_append, List.cons_append, List.append_nil, Nat.reduceBNe, Nat.reduceSub, Nat.reduceLT, Nat.reduceLeDiff, decide_true, decide_false, Int.cast_ofNat_Int, again_norm, againN_some, trunc_m, lowA, lowLoc, again_ret, again_exit, beq_self_eq_true, Bool.cond_true_left, Bool.cond_false_right, Bool.cond_false_left, Bool.cond_true_right, ge_iff_le, gt_iff_lt, kindW, plainWork, ownsDst, calmOp, calm, calmC, calmP, immB, noLoc, noLocC, readsAt, plainK, freeOk, pairOk, rwOk, List.getD_cons_zero, List.getD_cons_succ, Op.operands, Bool.not_eq_true, Option.map_some, Option.map_none, Int.reduceBEq, Int.reduceLT, Int.reduceLE, Int.reduceNeg, Bool.decide_eq_true, Int.reduceBNe, pickOk_f, pickOk_x, pickOk_h, outTup, cond_nest_t, cond_nest_f, cond_same, newB, newC, flatB, flatI, flatS, binK, binI, bne, mapR_len, mapR_app, mapR_emp, mapR_sub, mapR_nil, byL_m, strL_m, allB_m, strL0, row_oneB, row_consB, row_oneI, row_consI, row_oneS, row_consS, set_B, set_I, set_S, rep_B, rep_I, seq_m, slt_m, str0, modS_0, modS_s, ↓evCode_seqI, ↓evCode_condI, ↓evCode_regionI, ↓evCode_drawI, thenI_normal, thenI_ret, thenI_exit, branchI_t, branchI_f, runI_nil, runI_cons, opsI_some, stepI_t, stepI_f, guardI_none, guardI_some, runK_nil, runK_cons, opsK_some, kindI_t, kindI_f, endK_some, drawI_nil, drawI_cons, pickOk, aliasCs, standB, tailOf, isSliceK, effOk, Sum.elim_inl, Sum.elim_inr, beq_true, beq_false, Bool.true_beq, Bool.false_beq, Call.operands, List.isEmpty_toArray, Array.toList_append, Option.toArray_some, Option.toArray_none, ty3, ty5, ty9, ty39, ty91, ty93, tailOf])
/-! ### (*wire.writer).command -/
def n129 : Note where
  keep := fun i => match i with
    | 0 => [0, 3]
    | 1 => [0, 3]
    | 2 => [0, 3]
    | 3 => [0, 3]
    | 4 => [0, 3]
    | 5 => []
    | _ => []
  ro := fun t => t == 3
  mv := fun _ => false
  give := fun _ => false
  free := fun _ => []
theorem n129k0 : n129.keep 0 = [0, 3] := rfl
theorem n129k1 : n129.keep 1 = [0, 3] := rfl
theorem n129k2 : n129.keep 2 = [0, 3] := rfl
theorem n129k3 : n129.keep 3 = [0, 3] := rfl
theorem n129k4 : n129.keep 4 = [0, 3] := rfl
theorem n129k5 : n129.keep 5 = [] := rfl
theorem n129ro (t : Nat) : n129.ro t = (t == 3) := rfl
theorem n129mv (t : Nat) : n129.mv t = (false) := rfl
theorem n129gv (t : Nat) : n129.give t = (false) := rfl
theorem res129 : Try.f129.results.toList = [] := rfl
noncomputable def b129 : Code := bodyOf Try.f129
set_option maxRecDepth 100000 in
set_option maxHeartbeats 40000000 in
theorem r_wire_writer_command (C : Oracle) (k_wire_writer_small : K_wire_writer_small C) (k_wire_writer_text : K_wire_writer_text C) (k_wire_writer_number : K_wire_writer_number C) (p0 : GCommand) (p1 : Gwriter) (r : Gwriter) (hF : wire_writer_command p0 p1 = some r) : evFn TT C.wide (evW TT C.wide n129 b129) n129 Try.f129.results.toList (bodyOf Try.f129) [.ptr 0 0, .agg [.v (.i .i64 p0.fKind), .v (.s p0.fKey), .v (.s p0.fField), .v (.s p0.fText), .v (.i .i64 p0.fN)]] [[.own 1 (mapR rowB p1.fb)]] = some (.tup [], [[.own 1 (mapR rowB r.fb)]]) := by
  unfold wire_writer_command at hF
  revert hF
  cases h1 : wire_writer_small p0.fKind p1
  focus
    intro hF
    cases hF
  rename_i x1
  intro hF
  try dsimp only at hF
  have g1 : C.wide 95 [.ptr 0 0, .v (.i .i64 p0.fKind)] [[.own 1 (mapR rowB p1.fb)]] = some (.tup [], [[.own 1 (mapR rowB x1.fb)]]) := wide_eq [0] rfl rfl rfl rfl (k_wire_writer_small p0.fKind p1 _ h1) rfl rfl
  revert hF
  cases h2 : wire_writer_text p0.fKey x1
  focus
    intro hF
    cases hF
  rename_i x2
  intro hF
  try dsimp only at hF
  have g2 : C.wide 96 [.ptr 0 0, .v (.s p0.fKey)] [[.own 1 (mapR rowB x1.fb)]] = some (.tup [], [[.own 1 (mapR rowB x2.fb)]]) := wide_eq [0] rfl rfl rfl rfl (k_wire_writer_text p0.fKey x1 _ h2) rfl rfl
  revert hF
  cases h3 : wire_writer_text p0.fField x2
  focus
    intro hF
    cases hF
  rename_i x3
  intro hF
  try dsimp only at hF
  have g3 : C.wide 96 [.ptr 0 0, .v (.s p0.fField)] [[.own 1 (mapR rowB x2.fb)]] = some (.tup [], [[.own 1 (mapR rowB x3.fb)]]) := wide_eq [0] rfl rfl rfl rfl (k_wire_writer_text p0.fField x2 _ h3) rfl rfl
  revert hF
  cases h4 : wire_writer_text p0.fText x3
  focus
    intro hF
    cases hF
  rename_i x4
  intro hF
  try dsimp only at hF
  have g4 : C.wide 96 [.ptr 0 0, .v (.s p0.fText)] [[.own 1 (mapR rowB x3.fb)]] = some (.tup [], [[.own 1 (mapR rowB x4.fb)]]) := wide_eq [0] rfl rfl rfl rfl (k_wire_writer_text p0.fText x3 _ h4) rfl rfl
  revert hF
  cases h5 : wire_writer_number p0.fN x4
  focus
    intro hF
    cases hF
  rename_i x5
  intro hF
  try dsimp only at hF
  have g5 : C.wide 94 [.ptr 0 0, .v (.i .i64 p0.fN)] [[.own 1 (mapR rowB x4.fb)]] = some (.tup [], [[.own 1 (mapR rowB x5.fb)]]) := wide_eq [0] rfl rfl rfl rfl (k_wire_writer_number p0.fN x4 _ h5) rfl rfl
  have hR := Option.some.inj hF
  clear hF
  subst hR
  all_goals (rw [evFn_finish]; show finish _ _ _ (evCode _ _ _ _ (Code.seq _ _) _) = _; simp (maxSteps := 4000000) only [*, res129, n129k0, n129k1, n129k2, n129k3, n129k4, n129k5, n129ro, n129mv, n129gv, ↓evCode_skip, ↓evCode_ret, ↓evCode_exit, ↓evCode_loop, ↓evCode_block_seq, ↓evCode_block_region, ↓evCode_block_cond, ↓evCode_block_block, ↓evCode_block_skip, ↓cond_true, ↓cond_false, enter, List.toList_toArray, Bool.false_and, cond_false, guardB, yieldedD, isWork, cond_true, workOk, workOp, Mx.force, opnd, Mx.look, Nat.reduceBEq, solid, Mx.fit, fitCs, fitC, List.isEmpty_cons, List.isEmpty_nil, Bool.false_or, Bool.or_false, Bool.true_or, Bool.or_true, Bool.and_true, Bool.true_and, Bool.and_false, Bool.not_true, Bool.not_false, Bool.not_not, Bool.or_not_self, Bool.not_or_self, Bool.and_self, Bool.or_self, toVs, cellsOf, toV, setReg_m, spend_m, hasOwn, ownFree, List.all_cons, List.all_nil, ownFreeC, Mx.put, ofConst, ofCell, after_some, Mx.prune, List.map_cons, List.map_nil, killB, killBs, unblock_normal, unblock_ret, unblock_exit, pureOp, putDst, offReg_m, callFails, isFuncCall, Option.isNone_none, Option.isNone_some, Option.isSome_none, Option.isSome_some, fieldOff, loadAt, partD, List.length_cons, List.length_nil, List.map, List.drop_succ_cons, List.drop_zero, List.take_succ_cons, List.take_zero, List.take_nil, List.drop_nil, List.getElem?_cons_zero, List.getElem?_cons_succ, List.getElem?_nil, Nat.reduceAdd, Nat.reduceMul, Nat.zero_add, Nat.add_zero, binD, binV, eqCells, eqC, lenD, sliceOf, ite_true, if_true, eq_self, reduceIte, reduceCtorEq, finish_ret, finish_normal, giveBack, resAll, resOne, outD, outOk, stayC, cellOk, valOk, lowC, lowP, forceAll, bound, asNat, elemIs, isStrK, sameInt, sliceD, kill, spendLoc, spendOk, setOwn, dropAl, dropAls, inReg, inObj, isCell, gone, List.contains_cons, List.contains_nil, List.elem_cons, List.elem_nil, lend, lendA, tracked, trackedA, noSlT, noSlV, bare, bareC, List.any_cons, List.any_nil, frz, frzC, frzReg_m, isGive, argE, argsE, isOwn, noOwn, fill, setCells, setVs, takeParts, rowsOf, inOrder, ownAt, List.set_cons_zero, List.set_cons_succ, List.nil_append, List.cons_append, List.append_nil, Nat.reduceBNe, Nat.reduceSub, Nat.reduceLT, Nat.reduceLeDiff, decide_true, decide_false, Int.cast_ofNat_Int, again_norm, againN_some, trunc_m, lowA, lowLoc, again_ret, again_exit, beq_self_eq_true, Bool.cond_true_left, Bool.cond_false_right, Bool.cond_false_left, Bool.cond_true_right, ge_iff_le, gt_iff_lt, kindW, plainWork, ownsDst, calmOp, calm, calmC, calmP, immB, noLoc, noLocC, readsAt, plainK, freeOk, pairOk, rwOk, List.getD_cons_zero, List.getD_cons_succ, Op.operands, Bool.not_eq_true, Option.map_some, Option.map_none, Int.reduceBEq, Int.reduceLT, Int.reduceLE, Int.reduceNeg, Bool.decide_eq_true, Int.reduceBNe, pickOk_f, pickOk_x, pickOk_h, outTup, cond_nest_t, cond_nest_f, cond_same, newB, newC, flatB, flatI, flatS, binK, binI, bne, mapR_len, mapR_app, mapR_emp, mapR_sub, mapR_nil, byL_m, strL_m, allB_m, strL0, row_oneB, row_consB, row_oneI, row_consI, row_oneS, row_consS, set_B, set_I, set_S, rep_B, rep_I, seq_m, slt_m, str0, modS_0, modS_s, ↓evCode_seqI, ↓evCode_condI, ↓evCode_regionI, ↓evCode_drawI, thenI_normal, thenI_ret, thenI_exit, branchI_t, branchI_f, runI_nil, runI_cons, opsI_some, stepI_t, stepI_f, guardI_none, guardI_some, runK_nil, runK_cons, opsK_some, kindI_t, kindI_f, endK_some, drawI_nil, drawI_cons, pickOk, aliasCs, standB, tailOf, isSliceK, effOk, Sum.elim_inl, Sum.elim_inr, beq_true, beq_false, Bool.true_beq, Bool.false_beq, Call.operands, List.isEmpty_toArray, Array.toList_append, Option.toArray_some, Option.toArray_none, ty3, ty9, ty34, ty91])
/-! ### (*wire.writer).call -/
def n103 : Note where
  keep := fun i => match i with
    | 0 => [0, 3]
    | 1 => [0, 3]
    | 2 => [0, 3, 10]
    | 3 => [0, 3]
    | 4 => []
    | _ => []
  ro := fun t => t == 3
  mv := fun _ => false
  give := fun _ => false
  free := fun _ => []
theorem n103k0 : n103.keep 0 = [0, 3] := rfl
theorem n103k1 : n103.keep 1 = [0, 3] := rfl
theorem n103k2 : n103.keep 2 = [0, 3, 10] := rfl
theorem n103k3 : n103.keep 3 = [0, 3] := rfl
theorem n103k4 : n103.keep 4 = [] := rfl
theorem n103ro (t : Nat) : n103.ro t = (t == 3) := rfl
theorem n103mv (t : Nat) : n103.mv t = (false) := rfl
theorem n103gv (t : Nat) : n103.give t = (false) := rfl
theorem res103 : Try.f103.results.toList = [] := rfl
noncomputable def b103 : Code := bodyOf Try.f103
set_option maxRecDepth 100000 in
set_option maxHeartbeats 40000000 in
theorem r_wire_writer_call (C : Oracle) (k_wire_writer_number : K_wire_writer_number C) (k_wire_writer_command : K_wire_writer_command C) (p0 : GCall) (p1 : Gwriter) (r : Gwriter) (hF : wire_writer_call p0 p1 = some r) : evFn TT C.wide (evW TT C.wide n103 b103) n103 Try.f103.results.toList (bodyOf Try.f103) [.ptr 0 0, .agg [.v (.i .i64 p0.fClient), .v (.i .i64 p0.fSeq), .v (.i .i64 p0.fCommand.fKind), .v (.s p0.fCommand.fKey), .v (.s p0.fCommand.fField), .v (.s p0.fCommand.fText), .v (.i .i64 p0.fCommand.fN)]] [[.own 1 (mapR rowB p1.fb)]] = some (.tup [], [[.own 1 (mapR rowB r.fb)]]) := by
  unfold wire_writer_call at hF
  revert hF
  cases h1 : wire_writer_number p0.fClient p1
  focus
    intro hF
    cases hF
  rename_i x1
  intro hF
  try dsimp only at hF
  have g1 : C.wide 94 [.ptr 0 0, .v (.i .i64 p0.fClient)] [[.own 1 (mapR rowB p1.fb)]] = some (.tup [], [[.own 1 (mapR rowB x1.fb)]]) := wide_eq [0] rfl rfl rfl rfl (k_wire_writer_number p0.fClient p1 _ h1) rfl rfl
  refine boolFT (decide (0 < p0.fClient)) ?_ ?_
  focus
    intro h2
    replace hF := condF h2 hF
    have hR := Option.some.inj hF
    clear hF
    subst hR
  rotate_left 1
  intro h2
  replace hF := condT h2 hF
  revert hF
  cases h3 : wire_writer_number p0.fSeq x1
  focus
    intro hF
    cases hF
  rename_i x2
  intro hF
  try dsimp only at hF
  have g2 : C.wide 94 [.ptr 0 0, .v (.i .i64 p0.fSeq)] [[.own 1 (mapR rowB x1.fb)]] = some (.tup [], [[.own 1 (mapR rowB x2.fb)]]) := wide_eq [0] rfl rfl rfl rfl (k_wire_writer_number p0.fSeq x1 _ h3) rfl rfl
  revert hF
  cases h4 : wire_writer_command p0.fCommand x2
  focus
    intro hF
    cases hF
  rename_i x3
  intro hF
  try dsimp only at hF
  have g3 : C.wide 129 [.ptr 0 0, .agg [.v (.i .i64 p0.fCommand.fKind), .v (.s p0.fCommand.fKey), .v (.s p0.fCommand.fField), .v (.s p0.fCommand.fText), .v (.i .i64 p0.fCommand.fN)]] [[.own 1 (mapR rowB x2.fb)]] = some (.tup [], [[.own 1 (mapR rowB x3.fb)]]) := wide_eq [0] rfl rfl rfl rfl (k_wire_writer_command p0.fCommand x2 _ h4) rfl rfl
  have hR := Option.some.inj hF
  clear hF
  subst hR
  all_goals (rw [evFn_finish]; show finish _ _ _ (evCode _ _ _ _ (Code.seq _ _) _) = _; simp (maxSteps := 4000000) only [*, res103, n103k0, n103k1, n103k2, n103k3, n103k4, n103ro, n103mv, n103gv, ↓evCode_skip, ↓evCode_ret, ↓evCode_exit, ↓evCode_loop, ↓evCode_block_seq, ↓evCode_block_region, ↓evCode_block_cond, ↓evCode_block_block, ↓evCode_block_skip, ↓cond_true, ↓cond_false, enter, List.toList_toArray, Bool.false_and, cond_false, guardB, yieldedD, isWork, cond_true, workOk, workOp, Mx.force, opnd, Mx.look, Nat.reduceBEq, solid, Mx.fit, fitCs, fitC, List.isEmpty_cons, List.isEmpty_nil, Bool.false_or, Bool.or_false, Bool.true_or, Bool.or_true, Bool.and_true, Bool.true_and, Bool.and_false, Bool.not_true, Bool.not_false, Bool.not_not, Bool.or_not_self, Bool.not_or_self, Bool.and_self, Bool.or_self, toVs, cellsOf, toV, setReg_m, spend_m, hasOwn, ownFree, List.all_cons, List.all_nil, ownFreeC, Mx.put, ofConst, ofCell, after_some, Mx.prune, List.map_cons, List.map_nil, killB, killBs, unblock_normal, unblock_ret, unblock_exit, pureOp, putDst, offReg_m, callFails, isFuncCall, Option.isNone_none, Option.isNone_some, Option.isSome_none, Option.isSome_some, fieldOff, loadAt, partD, List.length_cons, List.length_nil, List.map, List.drop_succ_cons, List.drop_zero, List.take_succ_cons, List.take_zero, List.take_nil, List.drop_nil, List.getElem?_cons_zero, List.getElem?_cons_succ, List.getElem?_nil, Nat.reduceAdd, Nat.reduceMul, Nat.zero_add, Nat.add_zero, binD, binV, eqCells, eqC, lenD, sliceOf, ite_true, if_true, eq_self, reduceIte, reduceCtorEq, finish_ret, finish_normal, giveBack, resAll, resOne, outD, outOk, stayC, cellOk, valOk, lowC, lowP, forceAll, bound, asNat, elemIs, isStrK, sameInt, sliceD, kill, spendLoc, spendOk, setOwn, dropAl, dropAls, inReg, inObj, isCell, gone, List.contains_cons, List.contains_nil, List.elem_cons, List.elem_nil, lend, lendA, tracked, trackedA, noSlT, noSlV, bare, bareC, List.any_cons, List.any_nil, frz, frzC, frzReg_m, isGive, argE, argsE, isOwn, noOwn, fill, setCells, setVs, takeParts, rowsOf, inOrder, ownAt, List.set_cons_zero, List.set_cons_succ, List.nil_append, List.cons_append, List.append_nil, Nat.reduceBNe, Nat.reduceSub, Nat.reduceLT, Nat.reduceLeDiff, decide_true, decide_false, Int.cast_ofNat_Int, again_norm, againN_some, trunc_m, lowA, lowLoc, again_ret, again_exit, beq_self_eq_true, Bool.cond_true_left, Bool.cond_false_right, Bool.cond_false_left, Bool.cond_true_right, ge_iff_le, gt_iff_lt, kindW, plainWork, ownsDst, calmOp, calm, calmC, calmP, immB, noLoc, noLocC, readsAt, plainK, freeOk, pairOk, rwOk, List.getD_cons_zero, List.getD_cons_succ, Op.operands, Bool.not_eq_true, Option.map_some, Option.map_none, Int.reduceBEq, Int.reduceLT, Int.reduceLE, Int.reduceNeg, Bool.decide_eq_true, Int.reduceBNe, pickOk_f, pickOk_x, pickOk_h, outTup, cond_nest_t, cond_nest_f, cond_same, newB, newC, flatB, flatI, flatS, binK, binI, bne, mapR_len, mapR_app, mapR_emp, mapR_sub, mapR_nil, byL_m, strL_m, allB_m, strL0, row_oneB, row_consB, row_oneI, row_consI, row_oneS, row_consS, set_B, set_I, set_S, rep_B, rep_I, seq_m, slt_m, str0, modS_0, modS_s, ↓evCode_seqI, ↓evCode_condI, ↓evCode_regionI, ↓evCode_drawI, thenI_normal, thenI_ret, thenI_exit, branchI_t, branchI_f, runI_nil, runI_cons, opsI_some, stepI_t, stepI_f, guardI_none, guardI_some, runK_nil, runK_cons, opsK_some, kindI_t, kindI_f, endK_some, drawI_nil, drawI_cons, pickOk, aliasCs, standB, tailOf, isSliceK, effOk, Sum.elim_inl, Sum.elim_inr, beq_true, beq_false, Bool.true_beq, Bool.false_beq, Call.operands, List.isEmpty_toArray, Array.toList_append, Option.toArray_some, Option.toArray_none, ty3, ty4, ty9, ty34, ty36, ty91])
/-! ### (*wire.writer).item -/
def n57 : Note where
  keep := fun i => match i with
    | 0 => [0, 3]
    | 1 => [0, 3]
    | 2 => [0, 3]
    | 3 => [0, 3, 13]
    | 4 => []
    | 5 => [0, 3]
    | 6 => []
    | _ => []
  ro := fun t => t == 3
  mv := fun _ => false
  give := fun _ => false
  free := fun _ => []
theorem n57k0 : n57.keep 0 = [0, 3] := rfl
theorem n57k1 : n57.keep 1 = [0, 3] := rfl
theorem n57k2 : n57.keep 2 = [0, 3] := rfl
theorem n57k3 : n57.keep 3 = [0, 3, 13] := rfl
theorem n57k4 : n57.keep 4 = [] := rfl
theorem n57k5 : n57.keep 5 = [0, 3] := rfl
theorem n57k6 : n57.keep 6 = [] := rfl
theorem n57ro (t : Nat) : n57.ro t = (t == 3) := rfl
theorem n57mv (t : Nat) : n57.mv t = (false) := rfl
theorem n57gv (t : Nat) : n57.give t = (false) := rfl
theorem res57 : Try.f57.results.toList = [] := rfl
noncomputable def b57 : Code := bodyOf Try.f57
set_option maxRecDepth 100000 in
set_option maxHeartbeats 40000000 in
theorem r_wire_writer_item (C : Oracle) (k_wire_writer_number : K_wire_writer_number C) (k_wire_writer_small : K_wire_writer_small C) (k_wire_writer_call : K_wire_writer_call C) (p0 : GItem) (p1 : Gwriter) (r : Gwriter) (hF : wire_writer_item p0 p1 = some r) : evFn TT C.wide (evW TT C.wide n57 b57) n57 Try.f57.results.toList (bodyOf Try.f57) [.ptr 0 0, .agg [.v (.i .i64 p0.fTerm), .v (.i .i64 p0.fTime), .v (.b p0.fNop), .v (.i .i64 p0.fCall.fClient), .v (.i .i64 p0.fCall.fSeq), .v (.i .i64 p0.fCall.fCommand.fKind), .v (.s p0.fCall.fCommand.fKey), .v (.s p0.fCall.fCommand.fField), .v (.s p0.fCall.fCommand.fText), .v (.i .i64 p0.fCall.fCommand.fN)]] [[.own 1 (mapR rowB p1.fb)]] = some (.tup [], [[.own 1 (mapR rowB r.fb)]]) := by
  unfold wire_writer_item at hF
  revert hF
  cases h1 : wire_writer_number p0.fTerm p1
  focus
    intro hF
    cases hF
  rename_i x1
  intro hF
  try dsimp only at hF
  have g1 : C.wide 94 [.ptr 0 0, .v (.i .i64 p0.fTerm)] [[.own 1 (mapR rowB p1.fb)]] = some (.tup [], [[.own 1 (mapR rowB x1.fb)]]) := wide_eq [0] rfl rfl rfl rfl (k_wire_writer_number p0.fTerm p1 _ h1) rfl rfl
  revert hF
  cases h2 : wire_writer_number p0.fTime x1
  focus
    intro hF
    cases hF
  rename_i x2
  intro hF
  try dsimp only at hF
  have g2 : C.wide 94 [.ptr 0 0, .v (.i .i64 p0.fTime)] [[.own 1 (mapR rowB x1.fb)]] = some (.tup [], [[.own 1 (mapR rowB x2.fb)]]) := wide_eq [0] rfl rfl rfl rfl (k_wire_writer_number p0.fTime x1 _ h2) rfl rfl
  refine boolTF p0.fNop ?_ ?_
  focus
    intro h3
    replace hF := condT h3 hF
    revert hF
    cases h4 : wire_writer_small 1 x2
    focus
      intro hF
      cases hF
    rename_i x3
    intro hF
    try dsimp only at hF
    have g3 : C.wide 95 [.ptr 0 0, .v (.i .i64 1)] [[.own 1 (mapR rowB x2.fb)]] = some (.tup [], [[.own 1 (mapR rowB x3.fb)]]) := wide_eq [0] rfl rfl rfl rfl (k_wire_writer_small 1 x2 _ h4) rfl rfl
    have hR := Option.some.inj hF
    clear hF
    subst hR
  rotate_left 1
  intro h3
  replace hF := condF h3 hF
  revert hF
  cases h4 : wire_writer_small 0 x2
  focus
    intro hF
    cases hF
  rename_i x3
  intro hF
  try dsimp only at hF
  have g4 : C.wide 95 [.ptr 0 0, .v (.i .i64 0)] [[.own 1 (mapR rowB x2.fb)]] = some (.tup [], [[.own 1 (mapR rowB x3.fb)]]) := wide_eq [0] rfl rfl rfl rfl (k_wire_writer_small 0 x2 _ h4) rfl rfl
  revert hF
  cases h5 : wire_writer_call p0.fCall x3
  focus
    intro hF
    cases hF
  rename_i x4
  intro hF
  try dsimp only at hF
  have g5 : C.wide 103 [.ptr 0 0, .agg [.v (.i .i64 p0.fCall.fClient), .v (.i .i64 p0.fCall.fSeq), .v (.i .i64 p0.fCall.fCommand.fKind), .v (.s p0.fCall.fCommand.fKey), .v (.s p0.fCall.fCommand.fField), .v (.s p0.fCall.fCommand.fText), .v (.i .i64 p0.fCall.fCommand.fN)]] [[.own 1 (mapR rowB x3.fb)]] = some (.tup [], [[.own 1 (mapR rowB x4.fb)]]) := wide_eq [0] rfl rfl rfl rfl (k_wire_writer_call p0.fCall x3 _ h5) rfl rfl
  have hR := Option.some.inj hF
  clear hF
  subst hR
  all_goals (rw [evFn_finish]; show finish _ _ _ (evCode _ _ _ _ (Code.seq _ _) _) = _; simp (maxSteps := 4000000) only [*, res57, n57k0, n57k1, n57k2, n57k3, n57k4, n57k5, n57k6, n57ro, n57mv, n57gv, ↓evCode_skip, ↓evCode_ret, ↓evCode_exit, ↓evCode_loop, ↓evCode_block_seq, ↓evCode_block_region, ↓evCode_block_cond, ↓evCode_block_block, ↓evCode_block_skip, ↓cond_true, ↓cond_false, enter, List.toList_toArray, Bool.false_and, cond_false, guardB, yieldedD, isWork, cond_true, workOk, workOp, Mx.force, opnd, Mx.look, Nat.reduceBEq, solid, Mx.fit, fitCs, fitC, List.isEmpty_cons, List.isEmpty_nil, Bool.false_or, Bool.or_false, Bool.true_or, Bool.or_true, Bool.and_true, Bool.true_and, Bool.and_false, Bool.not_true, Bool.not_false, Bool.not_not, Bool.or_not_self, Bool.not_or_self, Bool.and_self, Bool.or_self, toVs, cellsOf, toV, setReg_m, spend_m, hasOwn, ownFree, List.all_cons, List.all_nil, ownFreeC, Mx.put, ofConst, ofCell, after_some, Mx.prune, List.map_cons, List.map_nil, killB, killBs, unblock_normal, unblock_ret, unblock_exit, pureOp, putDst, offReg_m, callFails, isFuncCall, Option.isNone_none, Option.isNone_some, Option.isSome_none, Option.isSome_some, fieldOff, loadAt, partD, List.length_cons, List.length_nil, List.map, List.drop_succ_cons, List.drop_zero, List.take_succ_cons, List.take_zero, List.take_nil, List.drop_nil, List.getElem?_cons_zero, List.getElem?_cons_succ, List.getElem?_nil, Nat.reduceAdd, Nat.reduceMul, Nat.zero_add, Nat.add_zero, binD, binV, eqCells, eqC, lenD, sliceOf, ite_true, if_true, eq_self, reduceIte, reduceCtorEq, finish_ret, finish_normal, giveBack, resAll, resOne, outD, outOk, stayC, cellOk, valOk, lowC, lowP, forceAll, bound, asNat, elemIs, isStrK, sameInt, sliceD, kill, spendLoc, spendOk, setOwn, dropAl, dropAls, inReg, inObj, isCell, gone, List.contains_cons, List.contains_nil, List.elem_cons, List.elem_nil, lend, lendA, tracked, trackedA, noSlT, noSlV, bare, bareC, List.any_cons, List.any_nil, frz, frzC, frzReg_m, isGive, argE, argsE, isOwn, noOwn, fill, setCells, setVs, takeParts, rowsOf, inOrder, ownAt, List.set_cons_zero, List.set_cons_succ, List.nil_append, List.cons_append, List.append_nil, Nat.reduceBNe, Nat.reduceSub, Nat.reduceLT, Nat.reduceLeDiff, decide_true, decide_false, Int.cast_ofNat_Int, again_norm, againN_some, trunc_m, lowA, lowLoc, again_ret, again_exit, beq_self_eq_true, Bool.cond_true_left, Bool.cond_false_right, Bool.cond_false_left, Bool.cond_true_right, ge_iff_le, gt_iff_lt, kindW, plainWork, ownsDst, calmOp, calm, calmC, calmP, immB, noLoc, noLocC, readsAt, plainK, freeOk, pairOk, rwOk, List.getD_cons_zero, List.getD_cons_succ, Op.operands, Bool.not_eq_true, Option.map_some, Option.map_none, Int.reduceBEq, Int.reduceLT, Int.reduceLE, Int.reduceNeg, Bool.decide_eq_true, Int.reduceBNe, pickOk_f, pickOk_x, pickOk_h, outTup, cond_nest_t, cond_nest_f, cond_same, newB, newC, flatB, flatI, flatS, binK, binI, bne, mapR_len, mapR_app, mapR_emp, mapR_sub, mapR_nil, byL_m, strL_m, allB_m, strL0, row_oneB, row_consB, row_oneI, row_consI, row_oneS, row_consS, set_B, set_I, set_S, rep_B, rep_I, seq_m, slt_m, str0, modS_0, modS_s, ↓evCode_seqI, ↓evCode_condI, ↓evCode_regionI, ↓evCode_drawI, thenI_normal, thenI_ret, thenI_exit, branchI_t, branchI_f, runI_nil, runI_cons, opsI_some, stepI_t, stepI_f, guardI_none, guardI_some, runK_nil, runK_cons, opsK_some, kindI_t, kindI_f, endK_some, drawI_nil, drawI_cons, pickOk, aliasCs, standB, tailOf, isSliceK, effOk, Sum.elim_inl, Sum.elim_inr, beq_true, beq_false, Bool.true_beq, Bool.false_beq, Call.operands, List.isEmpty_toArray, Array.toList_append, Option.toArray_some, Option.toArray_none, ty3, ty4, ty9, ty34, ty36, ty38, ty91])
/-! ### wire.EncodeItem -/
def n20 : Note where
  keep := fun i => match i with
    | 0 => [1]
    | 1 => [1, 4]
    | 2 => [1, 4, 9]
    | 3 => [2, 3, 19]
    | 4 => [1, 5]
    | 5 => [5]
    | 6 => [2, 3, 19]
    | _ => []
  ro := fun t => t == 1
  mv := fun t => t == 19
  give := fun _ => false
  free := fun _ => []
theorem n20k0 : n20.keep 0 = [1] := rfl
theorem n20k1 : n20.keep 1 = [1, 4] := rfl
theorem n20k2 : n20.keep 2 = [1, 4, 9] := rfl
theorem n20k3 : n20.keep 3 = [2, 3, 19] := rfl
theorem n20k4 : n20.keep 4 = [1, 5] := rfl
theorem n20k5 : n20.keep 5 = [5] := rfl
theorem n20k6 : n20.keep 6 = [2, 3, 19] := rfl
theorem n20ro (t : Nat) : n20.ro t = (t == 1) := rfl
theorem n20mv (t : Nat) : n20.mv t = (t == 19) := rfl
theorem n20gv (t : Nat) : n20.give t = (false) := rfl
theorem res20 : Try.f20.results.toList = [.tmp 2, .tmp 3] := rfl
noncomputable def b20 : Code := bodyOf Try.f20
set_option maxRecDepth 100000 in
set_option maxHeartbeats 40000000 in
theorem r_wire_EncodeItem (C : Oracle) (k_wire_CheckItem : K_wire_CheckItem C) (k_wire_writer_item : K_wire_writer_item C) (p0 : GItem) (r : (List Int) × Int) (hF : wire_EncodeItem p0 = some r) : evFn TT C.wide (evW TT C.wide n20 b20) n20 Try.f20.results.toList (bodyOf Try.f20) [.agg [.v (.i .i64 p0.fTerm), .v (.i .i64 p0.fTime), .v (.b p0.fNop), .v (.i .i64 p0.fCall.fClient), .v (.i .i64 p0.fCall.fSeq), .v (.i .i64 p0.fCall.fCommand.fKind), .v (.s p0.fCall.fCommand.fKey), .v (.s p0.fCall.fCommand.fField), .v (.s p0.fCall.fCommand.fText), .v (.i .i64 p0.fCall.fCommand.fN)]] [] = some (.tup [.v (.sl 1 (mapR rowB r.1)), .v (.i .i64 r.2)], []) := by
  unfold wire_EncodeItem at hF
  have g1 : C.wide 56 [.agg [.v (.i .i64 p0.fTerm), .v (.i .i64 p0.fTime), .v (.b p0.fNop), .v (.i .i64 p0.fCall.fClient), .v (.i .i64 p0.fCall.fSeq), .v (.i .i64 p0.fCall.fCommand.fKind), .v (.s p0.fCall.fCommand.fKey), .v (.s p0.fCall.fCommand.fField), .v (.s p0.fCall.fCommand.fText), .v (.i .i64 p0.fCall.fCommand.fN)]] [] = some (.v (.i .i64 (wire_CheckItem_v p0)), []) := k_wire_CheckItem p0 _ (wire_CheckItem_t p0)
  refine boolFT ((wire_CheckItem_v p0) == 0) ?_ ?_
  focus
    intro h1
    replace hF := condF h1 hF
    have hR := Option.some.inj hF
    clear hF
    subst hR
  rotate_left 1
  intro h1
  replace hF := condT h1 hF
  revert hF
  cases h2 : wire_writer_item p0 (Gwriter.mk [])
  focus
    intro hF
    cases hF
  rename_i x1
  intro hF
  try dsimp only at hF
  have g2 : C.wide 57 [.ptr 0 0, .agg [.v (.i .i64 p0.fTerm), .v (.i .i64 p0.fTime), .v (.b p0.fNop), .v (.i .i64 p0.fCall.fClient), .v (.i .i64 p0.fCall.fSeq), .v (.i .i64 p0.fCall.fCommand.fKind), .v (.s p0.fCall.fCommand.fKey), .v (.s p0.fCall.fCommand.fField), .v (.s p0.fCall.fCommand.fText), .v (.i .i64 p0.fCall.fCommand.fN)]] [[.own 1 []]] = some (.tup [], [[.own 1 (mapR rowB x1.fb)]]) := wide_eq [0] rfl rfl rfl rfl (k_wire_writer_item p0 (Gwriter.mk []) _ h2) rfl rfl
  have hR := Option.some.inj hF
  clear hF
  subst hR
  all_goals (rw [evFn_finish]; show finish _ _ _ (evCode _ _ _ _ (Code.seq _ _) _) = _; simp (maxSteps := 4000000) only [*, res20, n20k0, n20k1, n20k2, n20k3, n20k4, n20k5, n20k6, n20ro, n20mv, n20gv, ↓evCode_skip, ↓evCode_ret, ↓evCode_exit, ↓evCode_loop, ↓evCode_block_seq, ↓evCode_block_region, ↓evCode_block_cond, ↓evCode_block_block, ↓evCode_block_skip, ↓cond_true, ↓cond_false, enter, List.toList_toArray, Bool.false_and, cond_false, guardB, yieldedD, isWork, cond_true, workOk, workOp, Mx.force, opnd, Mx.look, Nat.reduceBEq, solid, Mx.fit, fitCs, fitC, List.isEmpty_cons, List.isEmpty_nil, Bool.false_or, Bool.or_false, Bool.true_or, Bool.or_true, Bool.and_true, Bool.true_and, Bool.and_false, Bool.not_true, Bool.not_false, Bool.not_not, Bool.or_not_self, Bool.not_or_self, Bool.and_self, Bool.or_self, toVs, cellsOf, toV, setReg_m, spend_m, hasOwn, ownFree, List.all_cons, List.all_nil, ownFreeC, Mx.put, ofConst, ofCell, after_some, Mx.prune, List.map_cons, List.map_nil, killB, killBs, unblock_normal, unblock_ret, unblock_exit, pureOp, putDst, offReg_m, callFails, isFuncCall, Option.isNone_none, Option.isNone_some, Option.isSome_none, Option.isSome_some, fieldOff, loadAt, partD, List.length_cons, List.length_nil, List.map, List.drop_succ_cons, List.drop_zero, List.take_succ_cons, List.take_zero, List.take_nil, List.drop_nil, List.getElem?_cons_zero, List.getElem?_cons_succ, List.getElem?_nil, Nat.reduceAdd, Nat.reduceMul, Nat.zero_add, Nat.add_zero, binD, binV, eqCells, eqC, lenD, sliceOf, ite_true, if_true, eq_self, reduceIte, reduceCtorEq, finish_ret, finish_normal, giveBack, resAll, resOne, outD, outOk, stayC, cellOk, valOk, lowC, lowP, forceAll, bound, asNat, elemIs, isStrK, sameInt, sliceD, kill, spendLoc, spendOk, setOwn, dropAl, dropAls, inReg, inObj, isCell, gone, List.contains_cons, List.contains_nil, List.elem_cons, List.elem_nil, lend, lendA, tracked, trackedA, noSlT, noSlV, bare, bareC, List.any_cons, List.any_nil, frz, frzC, frzReg_m, isGive, argE, argsE, isOwn, noOwn, fill, setCells, setVs, takeParts, rowsOf, inOrder, ownAt, List.set_cons_zero, List.set_cons_succ, List.nil_append, List.cons_append, List.append_nil, Nat.reduceBNe, Nat.reduceSub, Nat.reduceLT, Nat.reduceLeDiff, decide_true, decide_false, Int.cast_ofNat_Int, again_norm, againN_some, trunc_m, lowA, lowLoc, again_ret, again_exit, beq_self_eq_true, Bool.cond_true_left, Bool.cond_false_right, Bool.cond_false_left, Bool.cond_true_right, ge_iff_le, gt_iff_lt, kindW, plainWork, ownsDst, calmOp, calm, calmC, calmP, immB, noLoc, noLocC, readsAt, plainK, freeOk, pairOk, rwOk, List.getD_cons_zero, List.getD_cons_succ, Op.operands, Bool.not_eq_true, Option.map_some, Option.map_none, Int.reduceBEq, Int.reduceLT, Int.reduceLE, Int.reduceNeg, Bool.decide_eq_true, Int.reduceBNe, pickOk_f, pickOk_x, pickOk_h, outTup, cond_nest_t, cond_nest_f, cond_same, newB, newC, flatB, flatI, flatS, binK, binI, bne, mapR_len, mapR_app, mapR_emp, mapR_sub, mapR_nil, byL_m, strL_m, allB_m, strL0, row_oneB, row_consB, row_oneI, row_consI, row_oneS, row_consS, set_B, set_I, set_S, rep_B, rep_I, seq_m, slt_m, str0, modS_0, modS_s, ↓evCode_seqI, ↓evCode_condI, ↓evCode_regionI, ↓evCode_drawI, thenI_normal, thenI_ret, thenI_exit, branchI_t, branchI_f, runI_nil, runI_cons, opsI_some, stepI_t, stepI_f, guardI_none, guardI_some, runK_nil, runK_cons, opsK_some, kindI_t, kindI_f, endK_some, drawI_nil, drawI_cons, pickOk, aliasCs, standB, tailOf, isSliceK, effOk, Sum.elim_inl, Sum.elim_inr, beq_true, beq_false, Bool.true_beq, Bool.false_beq, Call.operands, List.isEmpty_toArray, Array.toList_append, Option.toArray_some, Option.toArray_none, ty3, ty4, ty5, ty9, ty25, ty34, ty36, ty38, ty39, ty91, ty93])
/-! ### rostrumref.In -/
def n55 : Note where
  keep := fun i => match i with
    | 0 => [0, 1, 2]
    | 1 => [6]
    | _ => []
  ro := fun _ => false
  mv := fun _ => false
  give := fun _ => false
  free := fun _ => []
theorem n55k0 : n55.keep 0 = [0, 1, 2] := rfl
theorem n55k1 : n55.keep 1 = [6] := rfl
theorem n55ro (t : Nat) : n55.ro t = (false) := rfl
theorem n55mv (t : Nat) : n55.mv t = (false) := rfl
theorem n55gv (t : Nat) : n55.give t = (false) := rfl
theorem res55 : Try.f55.results.toList = [.tmp 6] := rfl
noncomputable def b55 : Code := bodyOf Try.f55
set_option maxRecDepth 100000 in
set_option maxHeartbeats 40000000 in
theorem r_rostrumref_In (C : Oracle)  (p0 : Int) (p1 : Int) (p2 : Int) (r : Bool) (hF : rostrumref_In p0 p1 p2 = some r) : evFn TT C.wide (evW TT C.wide n55 b55) n55 Try.f55.results.toList (bodyOf Try.f55) [.v (.i .i64 p0), .v (.i .i64 p1), .v (.i .i64 p2)] [] = some (.v (.b r), []) := by
  unfold rostrumref_In at hF
  refine boolTF (decide (p1 ≤ p0)) ?_ ?_
  focus
    intro h1
    replace hF := condT h1 hF
    have hR := Option.some.inj hF
    clear hF
    subst hR
  rotate_left 1
  intro h1
  replace hF := condF h1 hF
  have hR := Option.some.inj hF
  clear hF
  subst hR
  all_goals (rw [evFn_finish]; show finish _ _ _ (evCode _ _ _ _ (Code.seq _ _) _) = _; simp (maxSteps := 4000000) only [*, res55, n55k0, n55k1, n55ro, n55mv, n55gv, ↓evCode_skip, ↓evCode_ret, ↓evCode_exit, ↓evCode_loop, ↓evCode_block_seq, ↓evCode_block_region, ↓evCode_block_cond, ↓evCode_block_block, ↓evCode_block_skip, ↓cond_true, ↓cond_false, enter, List.toList_toArray, Bool.false_and, cond_false, guardB, yieldedD, isWork, cond_true, workOk, workOp, Mx.force, opnd, Mx.look, Nat.reduceBEq, solid, Mx.fit, fitCs, fitC, List.isEmpty_cons, List.isEmpty_nil, Bool.false_or, Bool.or_false, Bool.true_or, Bool.or_true, Bool.and_true, Bool.true_and, Bool.and_false, Bool.not_true, Bool.not_false, Bool.not_not, Bool.or_not_self, Bool.not_or_self, Bool.and_self, Bool.or_self, toVs, cellsOf, toV, setReg_m, spend_m, hasOwn, ownFree, List.all_cons, List.all_nil, ownFreeC, Mx.put, ofConst, ofCell, after_some, Mx.prune, List.map_cons, List.map_nil, killB, killBs, unblock_normal, unblock_ret, unblock_exit, pureOp, putDst, offReg_m, callFails, isFuncCall, Option.isNone_none, Option.isNone_some, Option.isSome_none, Option.isSome_some, fieldOff, loadAt, partD, List.length_cons, List.length_nil, List.map, List.drop_succ_cons, List.drop_zero, List.take_succ_cons, List.take_zero, List.take_nil, List.drop_nil, List.getElem?_cons_zero, List.getElem?_cons_succ, List.getElem?_nil, Nat.reduceAdd, Nat.reduceMul, Nat.zero_add, Nat.add_zero, binD, binV, eqCells, eqC, lenD, sliceOf, ite_true, if_true, eq_self, reduceIte, reduceCtorEq, finish_ret, finish_normal, giveBack, resAll, resOne, outD, outOk, stayC, cellOk, valOk, lowC, lowP, forceAll, bound, asNat, elemIs, isStrK, sameInt, sliceD, kill, spendLoc, spendOk, setOwn, dropAl, dropAls, inReg, inObj, isCell, gone, List.contains_cons, List.contains_nil, List.elem_cons, List.elem_nil, lend, lendA, tracked, trackedA, noSlT, noSlV, bare, bareC, List.any_cons, List.any_nil, frz, frzC, frzReg_m, isGive, argE, argsE, isOwn, noOwn, fill, setCells, setVs, takeParts, rowsOf, inOrder, ownAt, List.set_cons_zero, List.set_cons_succ, List.nil_append, List.cons_append, List.append_nil, Nat.reduceBNe, Nat.reduceSub, Nat.reduceLT, Nat.reduceLeDiff, decide_true, decide_false, Int.cast_ofNat_Int, again_norm, againN_some, trunc_m, lowA, lowLoc, again_ret, again_exit, beq_self_eq_true, Bool.cond_true_left, Bool.cond_false_right, Bool.cond_false_left, Bool.cond_true_right, ge_iff_le, gt_iff_lt, kindW, plainWork, ownsDst, calmOp, calm, calmC, calmP, immB, noLoc, noLocC, readsAt, plainK, freeOk, pairOk, rwOk, List.getD_cons_zero, List.getD_cons_succ, Op.operands, Bool.not_eq_true, Option.map_some, Option.map_none, Int.reduceBEq, Int.reduceLT, Int.reduceLE, Int.reduceNeg, Bool.decide_eq_true, Int.reduceBNe, pickOk_f, pickOk_x, pickOk_h, outTup, cond_nest_t, cond_nest_f, cond_same, newB, newC, flatB, flatI, flatS, binK, binI, bne, mapR_len, mapR_app, mapR_emp, mapR_sub, mapR_nil, byL_m, strL_m, allB_m, strL0, row_oneB, row_consB, row_oneI, row_consI, row_oneS, row_consS, set_B, set_I, set_S, rep_B, rep_I, seq_m, slt_m, str0, modS_0, modS_s, ↓evCode_seqI, ↓evCode_condI, ↓evCode_regionI, ↓evCode_drawI, thenI_normal, thenI_ret, thenI_exit, branchI_t, branchI_f, runI_nil, runI_cons, opsI_some, stepI_t, stepI_f, guardI_none, guardI_some, runK_nil, runK_cons, opsK_some, kindI_t, kindI_f, endK_some, drawI_nil, drawI_cons, pickOk, aliasCs, standB, tailOf, isSliceK, effOk, Sum.elim_inl, Sum.elim_inr, beq_true, beq_false, Bool.true_beq, Bool.false_beq, Call.operands, List.isEmpty_toArray, Array.toList_append, Option.toArray_some, Option.toArray_none, ty3, ty4])
/-! ### rostrumref.numberMay -/
def n91 : Note where
  keep := fun i => match i with
    | 0 => [0]
    | 1 => [2]
    | _ => []
  ro := fun _ => false
  mv := fun _ => false
  give := fun _ => false
  free := fun _ => []
theorem n91k0 : n91.keep 0 = [0] := rfl
theorem n91k1 : n91.keep 1 = [2] := rfl
theorem n91ro (t : Nat) : n91.ro t = (false) := rfl
theorem n91mv (t : Nat) : n91.mv t = (false) := rfl
theorem n91gv (t : Nat) : n91.give t = (false) := rfl
theorem res91 : Try.f91.results.toList = [.tmp 2] := rfl
noncomputable def b91 : Code := bodyOf Try.f91
set_option maxRecDepth 100000 in
set_option maxHeartbeats 40000000 in
theorem r_rostrumref_numberMay (C : Oracle) (k_rostrumref_In : K_rostrumref_In C) (p0 : Int) (r : Bool) (hF : rostrumref_numberMay p0 = some r) : evFn TT C.wide (evW TT C.wide n91 b91) n91 Try.f91.results.toList (bodyOf Try.f91) [.v (.i .i64 p0)] [] = some (.v (.b r), []) := by
  unfold rostrumref_numberMay at hF
  have g1 : C.wide 55 [.v (.i .i64 p0), .v (.i .i64 1), .v (.i .i64 1048576)] [] = some (.v (.b (rostrumref_In_v p0 1 1048576)), []) := k_rostrumref_In p0 1 1048576 _ (rostrumref_In_t p0 1 1048576)
  have g2 : rostrumref_In_v p0 1 1048576 = (decide (1 ≤ p0) && decide (p0 ≤ 1048576)) := by first | rfl | (simp [rostrumref_In_v]; done) | (simp only [rostrumref_In_v]; decide)
  have hR := Option.some.inj hF
  clear hF
  subst hR
  all_goals (rw [evFn_finish]; show finish _ _ _ (evCode _ _ _ _ (Code.seq _ _) _) = _; simp (maxSteps := 4000000) only [*, res91, n91k0, n91k1, n91ro, n91mv, n91gv, ↓evCode_skip, ↓evCode_ret, ↓evCode_exit, ↓evCode_loop, ↓evCode_block_seq, ↓evCode_block_region, ↓evCode_block_cond, ↓evCode_block_block, ↓evCode_block_skip, ↓cond_true, ↓cond_false, enter, List.toList_toArray, Bool.false_and, cond_false, guardB, yieldedD, isWork, cond_true, workOk, workOp, Mx.force, opnd, Mx.look, Nat.reduceBEq, solid, Mx.fit, fitCs, fitC, List.isEmpty_cons, List.isEmpty_nil, Bool.false_or, Bool.or_false, Bool.true_or, Bool.or_true, Bool.and_true, Bool.true_and, Bool.and_false, Bool.not_true, Bool.not_false, Bool.not_not, Bool.or_not_self, Bool.not_or_self, Bool.and_self, Bool.or_self, toVs, cellsOf, toV, setReg_m, spend_m, hasOwn, ownFree, List.all_cons, List.all_nil, ownFreeC, Mx.put, ofConst, ofCell, after_some, Mx.prune, List.map_cons, List.map_nil, killB, killBs, unblock_normal, unblock_ret, unblock_exit, pureOp, putDst, offReg_m, callFails, isFuncCall, Option.isNone_none, Option.isNone_some, Option.isSome_none, Option.isSome_some, fieldOff, loadAt, partD, List.length_cons, List.length_nil, List.map, List.drop_succ_cons, List.drop_zero, List.take_succ_cons, List.take_zero, List.take_nil, List.drop_nil, List.getElem?_cons_zero, List.getElem?_cons_succ, List.getElem?_nil, Nat.reduceAdd, Nat.reduceMul, Nat.zero_add, Nat.add_zero, binD, binV, eqCells, eqC, lenD, sliceOf, ite_true, if_true, eq_self, reduceIte, reduceCtorEq, finish_ret, finish_normal, giveBack, resAll, resOne, outD, outOk, stayC, cellOk, valOk, lowC, lowP, forceAll, bound, asNat, elemIs, isStrK, sameInt, sliceD, kill, spendLoc, spendOk, setOwn, dropAl, dropAls, inReg, inObj, isCell, gone, List.contains_cons, List.contains_nil, List.elem_cons, List.elem_nil, lend, lendA, tracked, trackedA, noSlT, noSlV, bare, bareC, List.any_cons, List.any_nil, frz, frzC, frzReg_m, isGive, argE, argsE, isOwn, noOwn, fill, setCells, setVs, takeParts, rowsOf, inOrder, ownAt, List.set_cons_zero, List.set_cons_succ, List.nil_append, List.cons_append, List.append_nil, Nat.reduceBNe, Nat.reduceSub, Nat.reduceLT, Nat.reduceLeDiff, decide_true, decide_false, Int.cast_ofNat_Int, again_norm, againN_some, trunc_m, lowA, lowLoc, again_ret, again_exit, beq_self_eq_true, Bool.cond_true_left, Bool.cond_false_right, Bool.cond_false_left, Bool.cond_true_right, ge_iff_le, gt_iff_lt, kindW, plainWork, ownsDst, calmOp, calm, calmC, calmP, immB, noLoc, noLocC, readsAt, plainK, freeOk, pairOk, rwOk, List.getD_cons_zero, List.getD_cons_succ, Op.operands, Bool.not_eq_true, Option.map_some, Option.map_none, Int.reduceBEq, Int.reduceLT, Int.reduceLE, Int.reduceNeg, Bool.decide_eq_true, Int.reduceBNe, pickOk_f, pickOk_x, pickOk_h, outTup, cond_nest_t, cond_nest_f, cond_same, newB, newC, flatB, flatI, flatS, binK, binI, bne, mapR_len, mapR_app, mapR_emp, mapR_sub, mapR_nil, byL_m, strL_m, allB_m, strL0, row_oneB, row_consB, row_oneI, row_consI, row_oneS, row_consS, set_B, set_I, set_S, rep_B, rep_I, seq_m, slt_m, str0, modS_0, modS_s, ↓evCode_seqI, ↓evCode_condI, ↓evCode_regionI, ↓evCode_drawI, thenI_normal, thenI_ret, thenI_exit, branchI_t, branchI_f, runI_nil, runI_cons, opsI_some, stepI_t, stepI_f, guardI_none, guardI_some, runK_nil, runK_cons, opsK_some, kindI_t, kindI_f, endK_some, drawI_nil, drawI_cons, pickOk, aliasCs, standB, tailOf, isSliceK, effOk, Sum.elim_inl, Sum.elim_inr, beq_true, beq_false, Bool.true_beq, Bool.false_beq, Call.operands, List.isEmpty_toArray, Array.toList_append, Option.toArray_some, Option.toArray_none, ty3, ty4])
/-! ### rostrumref.fieldMay -/
def n81 : Note where
  keep := fun i => match i with
    | 0 => [0]
    | 1 => [2]
    | _ => []
  ro := fun _ => false
  mv := fun _ => false
  give := fun _ => false
  free := fun _ => []
theorem n81k0 : n81.keep 0 = [0] := rfl
theorem n81k1 : n81.keep 1 = [2] := rfl
theorem n81ro (t : Nat) : n81.ro t = (false) := rfl
theorem n81mv (t : Nat) : n81.mv t = (false) := rfl
theorem n81gv (t : Nat) : n81.give t = (false) := rfl
theorem res81 : Try.f81.results.toList = [.tmp 2] := rfl
noncomputable def b81 : Code := bodyOf Try.f81
set_option maxRecDepth 100000 in
set_option maxHeartbeats 40000000 in
theorem r_rostrumref_fieldMay (C : Oracle) (k_rostrumref_In : K_rostrumref_In C) (p0 : ByteArray) (r : Bool) (hF : rostrumref_fieldMay p0 = some r) : evFn TT C.wide (evW TT C.wide n81 b81) n81 Try.f81.results.toList (bodyOf Try.f81) [.v (.s p0)] [] = some (.v (.b r), []) := by
  unfold rostrumref_fieldMay at hF
  have g1 : C.wide 55 [.v (.i .i64 (p0.size : Int)), .v (.i .i64 1), .v (.i .i64 12)] [] = some (.v (.b (rostrumref_In_v (p0.size : Int) 1 12)), []) := k_rostrumref_In (p0.size : Int) 1 12 _ (rostrumref_In_t (p0.size : Int) 1 12)
  have g2 : rostrumref_In_v (p0.size : Int) 1 12 = (decide (1 ≤ (p0.size : Int)) && decide ((p0.size : Int) ≤ 12)) := by first | rfl | (simp [rostrumref_In_v]; done) | (simp only [rostrumref_In_v]; decide)
  have hR := Option.some.inj hF
  clear hF
  subst hR
  all_goals (rw [evFn_finish]; show finish _ _ _ (evCode _ _ _ _ (Code.seq _ _) _) = _; simp (maxSteps := 4000000) only [*, res81, n81k0, n81k1, n81ro, n81mv, n81gv, ↓evCode_skip, ↓evCode_ret, ↓evCode_exit, ↓evCode_loop, ↓evCode_block_seq, ↓evCode_block_region, ↓evCode_block_cond, ↓evCode_block_block, ↓evCode_block_skip, ↓cond_true, ↓cond_false, enter, List.toList_toArray, Bool.false_and, cond_false, guardB, yieldedD, isWork, cond_true, workOk, workOp, Mx.force, opnd, Mx.look, Nat.reduceBEq, solid, Mx.fit, fitCs, fitC, List.isEmpty_cons, List.isEmpty_nil, Bool.false_or, Bool.or_false, Bool.true_or, Bool.or_true, Bool.and_true, Bool.true_and, Bool.and_false, Bool.not_true, Bool.not_false, Bool.not_not, Bool.or_not_self, Bool.not_or_self, Bool.and_self, Bool.or_self, toVs, cellsOf, toV, setReg_m, spend_m, hasOwn, ownFree, List.all_cons, List.all_nil, ownFreeC, Mx.put, ofConst, ofCell, after_some, Mx.prune, List.map_cons, List.map_nil, killB, killBs, unblock_normal, unblock_ret, unblock_exit, pureOp, putDst, offReg_m, callFails, isFuncCall, Option.isNone_none, Option.isNone_some, Option.isSome_none, Option.isSome_some, fieldOff, loadAt, partD, List.length_cons, List.length_nil, List.map, List.drop_succ_cons, List.drop_zero, List.take_succ_cons, List.take_zero, List.take_nil, List.drop_nil, List.getElem?_cons_zero, List.getElem?_cons_succ, List.getElem?_nil, Nat.reduceAdd, Nat.reduceMul, Nat.zero_add, Nat.add_zero, binD, binV, eqCells, eqC, lenD, sliceOf, ite_true, if_true, eq_self, reduceIte, reduceCtorEq, finish_ret, finish_normal, giveBack, resAll, resOne, outD, outOk, stayC, cellOk, valOk, lowC, lowP, forceAll, bound, asNat, elemIs, isStrK, sameInt, sliceD, kill, spendLoc, spendOk, setOwn, dropAl, dropAls, inReg, inObj, isCell, gone, List.contains_cons, List.contains_nil, List.elem_cons, List.elem_nil, lend, lendA, tracked, trackedA, noSlT, noSlV, bare, bareC, List.any_cons, List.any_nil, frz, frzC, frzReg_m, isGive, argE, argsE, isOwn, noOwn, fill, setCells, setVs, takeParts, rowsOf, inOrder, ownAt, List.set_cons_zero, List.set_cons_succ, List.nil_append, List.cons_append, List.append_nil, Nat.reduceBNe, Nat.reduceSub, Nat.reduceLT, Nat.reduceLeDiff, decide_true, decide_false, Int.cast_ofNat_Int, again_norm, againN_some, trunc_m, lowA, lowLoc, again_ret, again_exit, beq_self_eq_true, Bool.cond_true_left, Bool.cond_false_right, Bool.cond_false_left, Bool.cond_true_right, ge_iff_le, gt_iff_lt, kindW, plainWork, ownsDst, calmOp, calm, calmC, calmP, immB, noLoc, noLocC, readsAt, plainK, freeOk, pairOk, rwOk, List.getD_cons_zero, List.getD_cons_succ, Op.operands, Bool.not_eq_true, Option.map_some, Option.map_none, Int.reduceBEq, Int.reduceLT, Int.reduceLE, Int.reduceNeg, Bool.decide_eq_true, Int.reduceBNe, pickOk_f, pickOk_x, pickOk_h, outTup, cond_nest_t, cond_nest_f, cond_same, newB, newC, flatB, flatI, flatS, binK, binI, bne, mapR_len, mapR_app, mapR_emp, mapR_sub, mapR_nil, byL_m, strL_m, allB_m, strL0, row_oneB, row_consB, row_oneI, row_consI, row_oneS, row_consS, set_B, set_I, set_S, rep_B, rep_I, seq_m, slt_m, str0, modS_0, modS_s, ↓evCode_seqI, ↓evCode_condI, ↓evCode_regionI, ↓evCode_drawI, thenI_normal, thenI_ret, thenI_exit, branchI_t, branchI_f, runI_nil, runI_cons, opsI_some, stepI_t, stepI_f, guardI_none, guardI_some, runK_nil, runK_cons, opsK_some, kindI_t, kindI_f, endK_some, drawI_nil, drawI_cons, pickOk, aliasCs, standB, tailOf, isSliceK, effOk, Sum.elim_inl, Sum.elim_inr, beq_true, beq_false, Bool.true_beq, Bool.false_beq, Call.operands, List.isEmpty_toArray, Array.toList_append, Option.toArray_some, Option.toArray_none, ty3, ty4, ty9])
/-! ### rostrumref.textMay -/
def n80 : Note where
  keep := fun i => match i with
    | 0 => [0]
    | 1 => [2]
    | _ => []
  ro := fun _ => false
  mv := fun _ => false
  give := fun _ => false
  free := fun _ => []
theorem n80k0 : n80.keep 0 = [0] := rfl
theorem n80k1 : n80.keep 1 = [2] := rfl
theorem n80ro (t : Nat) : n80.ro t = (false) := rfl
theorem n80mv (t : Nat) : n80.mv t = (false) := rfl
theorem n80gv (t : Nat) : n80.give t = (false) := rfl
theorem res80 : Try.f80.results.toList = [.tmp 2] := rfl
noncomputable def b80 : Code := bodyOf Try.f80
set_option maxRecDepth 100000 in
set_option maxHeartbeats 40000000 in
theorem r_rostrumref_textMay (C : Oracle)  (p0 : ByteArray) (r : Bool) (hF : rostrumref_textMay p0 = some r) : evFn TT C.wide (evW TT C.wide n80 b80) n80 Try.f80.results.toList (bodyOf Try.f80) [.v (.s p0)] [] = some (.v (.b r), []) := by
  unfold rostrumref_textMay at hF
  have hR := Option.some.inj hF
  clear hF
  subst hR
  all_goals (rw [evFn_finish]; show finish _ _ _ (evCode _ _ _ _ (Code.seq _ _) _) = _; simp (maxSteps := 4000000) only [*, res80, n80k0, n80k1, n80ro, n80mv, n80gv, ↓evCode_skip, ↓evCode_ret, ↓evCode_exit, ↓evCode_loop, ↓evCode_block_seq, ↓evCode_block_region, ↓evCode_block_cond, ↓evCode_block_block, ↓evCode_block_skip, ↓cond_true, ↓cond_false, enter, List.toList_toArray, Bool.false_and, cond_false, guardB, yieldedD, isWork, cond_true, workOk, workOp, Mx.force, opnd, Mx.look, Nat.reduceBEq, solid, Mx.fit, fitCs, fitC, List.isEmpty_cons, List.isEmpty_nil, Bool.false_or, Bool.or_false, Bool.true_or, Bool.or_true, Bool.and_true, Bool.true_and, Bool.and_false, Bool.not_true, Bool.not_false, Bool.not_not, Bool.or_not_self, Bool.not_or_self, Bool.and_self, Bool.or_self, toVs, cellsOf, toV, setReg_m, spend_m, hasOwn, ownFree, List.all_cons, List.all_nil, ownFreeC, Mx.put, ofConst, ofCell, after_some, Mx.prune, List.map_cons, List.map_nil, killB, killBs, unblock_normal, unblock_ret, unblock_exit, pureOp, putDst, offReg_m, callFails, isFuncCall, Option.isNone_none, Option.isNone_some, Option.isSome_none, Option.isSome_some, fieldOff, loadAt, partD, List.length_cons, List.length_nil, List.map, List.drop_succ_cons, List.drop_zero, List.take_succ_cons, List.take_zero, List.take_nil, List.drop_nil, List.getElem?_cons_zero, List.getElem?_cons_succ, List.getElem?_nil, Nat.reduceAdd, Nat.reduceMul, Nat.zero_add, Nat.add_zero, binD, binV, eqCells, eqC, lenD, sliceOf, ite_true, if_true, eq_self, reduceIte, reduceCtorEq, finish_ret, finish_normal, giveBack, resAll, resOne, outD, outOk, stayC, cellOk, valOk, lowC, lowP, forceAll, bound, asNat, elemIs, isStrK, sameInt, sliceD, kill, spendLoc, spendOk, setOwn, dropAl, dropAls, inReg, inObj, isCell, gone, List.contains_cons, List.contains_nil, List.elem_cons, List.elem_nil, lend, lendA, tracked, trackedA, noSlT, noSlV, bare, bareC, List.any_cons, List.any_nil, frz, frzC, frzReg_m, isGive, argE, argsE, isOwn, noOwn, fill, setCells, setVs, takeParts, rowsOf, inOrder, ownAt, List.set_cons_zero, List.set_cons_succ, List.nil_append, List.cons_append, List.append_nil, Nat.reduceBNe, Nat.reduceSub, Nat.reduceLT, Nat.reduceLeDiff, decide_true, decide_false, Int.cast_ofNat_Int, again_norm, againN_some, trunc_m, lowA, lowLoc, again_ret, again_exit, beq_self_eq_true, Bool.cond_true_left, Bool.cond_false_right, Bool.cond_false_left, Bool.cond_true_right, ge_iff_le, gt_iff_lt, kindW, plainWork, ownsDst, calmOp, calm, calmC, calmP, immB, noLoc, noLocC, readsAt, plainK, freeOk, pairOk, rwOk, List.getD_cons_zero, List.getD_cons_succ, Op.operands, Bool.not_eq_true, Option.map_some, Option.map_none, Int.reduceBEq, Int.reduceLT, Int.reduceLE, Int.reduceNeg, Bool.decide_eq_true, Int.reduceBNe, pickOk_f, pickOk_x, pickOk_h, outTup, cond_nest_t, cond_nest_f, cond_same, newB, newC, flatB, flatI, flatS, binK, binI, bne, mapR_len, mapR_app, mapR_emp, mapR_sub, mapR_nil, byL_m, strL_m, allB_m, strL0, row_oneB, row_consB, row_oneI, row_consI, row_oneS, row_consS, set_B, set_I, set_S, rep_B, rep_I, seq_m, slt_m, str0, modS_0, modS_s, ↓evCode_seqI, ↓evCode_condI, ↓evCode_regionI, ↓evCode_drawI, thenI_normal, thenI_ret, thenI_exit, branchI_t, branchI_f, runI_nil, runI_cons, opsI_some, stepI_t, stepI_f, guardI_none, guardI_some, runK_nil, runK_cons, opsK_some, kindI_t, kindI_f, endK_some, drawI_nil, drawI_cons, pickOk, aliasCs, standB, tailOf, isSliceK, effOk, Sum.elim_inl, Sum.elim_inr, beq_true, beq_false, Bool.true_beq, Bool.false_beq, Call.operands, List.isEmpty_toArray, Array.toList_append, Option.toArray_some, Option.toArray_none, ty3, ty4, ty9])
/-! ### rostrumref.countMay -/
def n82 : Note where
  keep := fun i => match i with
    | 0 => [0]
    | 1 => [2]
    | _ => []
  ro := fun _ => false
  mv := fun _ => false
  give := fun _ => false
  free := fun _ => []
theorem n82k0 : n82.keep 0 = [0] := rfl
theorem n82k1 : n82.keep 1 = [2] := rfl
theorem n82ro (t : Nat) : n82.ro t = (false) := rfl
theorem n82mv (t : Nat) : n82.mv t = (false) := rfl
theorem n82gv (t : Nat) : n82.give t = (false) := rfl
theorem res82 : Try.f82.results.toList = [.tmp 2] := rfl
noncomputable def b82 : Code := bodyOf Try.f82
set_option maxRecDepth 100000 in
set_option maxHeartbeats 40000000 in
theorem r_rostrumref_countMay (C : Oracle) (k_rostrumref_In : K_rostrumref_In C) (p0 : Int) (r : Bool) (hF : rostrumref_countMay p0 = some r) : evFn TT C.wide (evW TT C.wide n82 b82) n82 Try.f82.results.toList (bodyOf Try.f82) [.v (.i .i64 p0)] [] = some (.v (.b r), []) := by
  unfold rostrumref_countMay at hF
  have g1 : C.wide 55 [.v (.i .i64 p0), .v (.i .i64 (-1099511627776)), .v (.i .i64 1099511627776)] [] = some (.v (.b (rostrumref_In_v p0 (-1099511627776) 1099511627776)), []) := k_rostrumref_In p0 (-1099511627776) 1099511627776 _ (rostrumref_In_t p0 (-1099511627776) 1099511627776)
  have g2 : rostrumref_In_v p0 (-1099511627776) 1099511627776 = (decide ((-1099511627776) ≤ p0) && decide (p0 ≤ 1099511627776)) := by first | rfl | (simp [rostrumref_In_v]; done) | (simp only [rostrumref_In_v]; decide)
  have hR := Option.some.inj hF
  clear hF
  subst hR
  all_goals (rw [evFn_finish]; show finish _ _ _ (evCode _ _ _ _ (Code.seq _ _) _) = _; simp (maxSteps := 4000000) only [*, res82, n82k0, n82k1, n82ro, n82mv, n82gv, ↓evCode_skip, ↓evCode_ret, ↓evCode_exit, ↓evCode_loop, ↓evCode_block_seq, ↓evCode_block_region, ↓evCode_block_cond, ↓evCode_block_block, ↓evCode_block_skip, ↓cond_true, ↓cond_false, enter, List.toList_toArray, Bool.false_and, cond_false, guardB, yieldedD, isWork, cond_true, workOk, workOp, Mx.force, opnd, Mx.look, Nat.reduceBEq, solid, Mx.fit, fitCs, fitC, List.isEmpty_cons, List.isEmpty_nil, Bool.false_or, Bool.or_false, Bool.true_or, Bool.or_true, Bool.and_true, Bool.true_and, Bool.and_false, Bool.not_true, Bool.not_false, Bool.not_not, Bool.or_not_self, Bool.not_or_self, Bool.and_self, Bool.or_self, toVs, cellsOf, toV, setReg_m, spend_m, hasOwn, ownFree, List.all_cons, List.all_nil, ownFreeC, Mx.put, ofConst, ofCell, after_some, Mx.prune, List.map_cons, List.map_nil, killB, killBs, unblock_normal, unblock_ret, unblock_exit, pureOp, putDst, offReg_m, callFails, isFuncCall, Option.isNone_none, Option.isNone_some, Option.isSome_none, Option.isSome_some, fieldOff, loadAt, partD, List.length_cons, List.length_nil, List.map, List.drop_succ_cons, List.drop_zero, List.take_succ_cons, List.take_zero, List.take_nil, List.drop_nil, List.getElem?_cons_zero, List.getElem?_cons_succ, List.getElem?_nil, Nat.reduceAdd, Nat.reduceMul, Nat.zero_add, Nat.add_zero, binD, binV, eqCells, eqC, lenD, sliceOf, ite_true, if_true, eq_self, reduceIte, reduceCtorEq, finish_ret, finish_normal, giveBack, resAll, resOne, outD, outOk, stayC, cellOk, valOk, lowC, lowP, forceAll, bound, asNat, elemIs, isStrK, sameInt, sliceD, kill, spendLoc, spendOk, setOwn, dropAl, dropAls, inReg, inObj, isCell, gone, List.contains_cons, List.contains_nil, List.elem_cons, List.elem_nil, lend, lendA, tracked, trackedA, noSlT, noSlV, bare, bareC, List.any_cons, List.any_nil, frz, frzC, frzReg_m, isGive, argE, argsE, isOwn, noOwn, fill, setCells, setVs, takeParts, rowsOf, inOrder, ownAt, List.set_cons_zero, List.set_cons_succ, List.nil_append, List.cons_append, List.append_nil, Nat.reduceBNe, Nat.reduceSub, Nat.reduceLT, Nat.reduceLeDiff, decide_true, decide_false, Int.cast_ofNat_Int, again_norm, againN_some, trunc_m, lowA, lowLoc, again_ret, again_exit, beq_self_eq_true, Bool.cond_true_left, Bool.cond_false_right, Bool.cond_false_left, Bool.cond_true_right, ge_iff_le, gt_iff_lt, kindW, plainWork, ownsDst, calmOp, calm, calmC, calmP, immB, noLoc, noLocC, readsAt, plainK, freeOk, pairOk, rwOk, List.getD_cons_zero, List.getD_cons_succ, Op.operands, Bool.not_eq_true, Option.map_some, Option.map_none, Int.reduceBEq, Int.reduceLT, Int.reduceLE, Int.reduceNeg, Bool.decide_eq_true, Int.reduceBNe, pickOk_f, pickOk_x, pickOk_h, outTup, cond_nest_t, cond_nest_f, cond_same, newB, newC, flatB, flatI, flatS, binK, binI, bne, mapR_len, mapR_app, mapR_emp, mapR_sub, mapR_nil, byL_m, strL_m, allB_m, strL0, row_oneB, row_consB, row_oneI, row_consI, row_oneS, row_consS, set_B, set_I, set_S, rep_B, rep_I, seq_m, slt_m, str0, modS_0, modS_s, ↓evCode_seqI, ↓evCode_condI, ↓evCode_regionI, ↓evCode_drawI, thenI_normal, thenI_ret, thenI_exit, branchI_t, branchI_f, runI_nil, runI_cons, opsI_some, stepI_t, stepI_f, guardI_none, guardI_some, runK_nil, runK_cons, opsK_some, kindI_t, kindI_f, endK_some, drawI_nil, drawI_cons, pickOk, aliasCs, standB, tailOf, isSliceK, effOk, Sum.elim_inl, Sum.elim_inr, beq_true, beq_false, Bool.true_beq, Bool.false_beq, Call.operands, List.isEmpty_toArray, Array.toList_append, Option.toArray_some, Option.toArray_none, ty3, ty4])
end Go.Proofs.Ytnjkmbogbfjffaa
