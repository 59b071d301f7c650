/- The code of these functions, run by the machine Mx, gives what the plain functions say, if their callees do (part 2). -/
import Derived.Test.YtnjkmbogbfjffaaWTy
import Derived.Test.YtnjkmbogbfjffaaWireItemBytesD
set_option linter.unusedSimpArgs false
set_option linter.unusedVariables false
set_option linter.constructorNameAsVariable false
set_option linter.unnecessarySimpa false
namespace Go.Proofs.Ytnjkmbogbfjffaa
open Go Go.Mx Go.Proofs
/-! ### rostrumref.CommandFault -/
def n130 : Note where
  keep := fun i => match i with
    | 0 => [1]
    | 1 => [1, 10]
    | 2 => [2]
    | 3 => [1, 3]
    | 4 => [1, 3, 4]
    | 5 => [1, 3, 4, 5]
    | 6 => [1, 3, 4, 5, 6]
    | 7 => [1, 4, 6, 86]
    | 8 => [2]
    | 9 => [1, 108]
    | 10 => [2]
    | 11 => [112]
    | 12 => [2]
    | 13 => [2]
    | _ => []
  ro := fun t => t == 1
  mv := fun _ => false
  give := fun _ => false
  free := fun _ => []
theorem n130k0 : n130.keep 0 = [1] := rfl
theorem n130k1 : n130.keep 1 = [1, 10] := rfl
theorem n130k2 : n130.keep 2 = [2] := rfl
theorem n130k3 : n130.keep 3 = [1, 3] := rfl
theorem n130k4 : n130.keep 4 = [1, 3, 4] := rfl
theorem n130k5 : n130.keep 5 = [1, 3, 4, 5] := rfl
theorem n130k6 : n130.keep 6 = [1, 3, 4, 5, 6] := rfl
theorem n130k7 : n130.keep 7 = [1, 4, 6, 86] := rfl
theorem n130k8 : n130.keep 8 = [2] := rfl
theorem n130k9 : n130.keep 9 = [1, 108] := rfl
theorem n130k10 : n130.keep 10 = [2] := rfl
theorem n130k11 : n130.keep 11 = [112] := rfl
theorem n130k12 : n130.keep 12 = [2] := rfl
theorem n130k13 : n130.keep 13 = [2] := rfl
theorem n130ro (t : Nat) : n130.ro t = (t == 1) := rfl
theorem n130mv (t : Nat) : n130.mv t = (false) := rfl
theorem n130gv (t : Nat) : n130.give t = (false) := rfl
theorem res130 : Try.f130.results.toList = [.tmp 2] := rfl
noncomputable def b130 : Code := bodyOf Try.f130
set_option maxRecDepth 100000 in
set_option maxHeartbeats 40000000 in
theorem rg_rostrumref_CommandFault_k3 (C : Oracle) (k_rostrumref_In : K_rostrumref_In C) (p0 : GCommand) (ops : Array Oper) (dr : Bool) (ho : regAt 3 b130 = some (ops, dr)) (r : Bool) (hF : ck_rostrumref_CommandFault_k3 p0 = some r) : evCode TT C.wide (evW TT C.wide n130 b130) n130 (.region 3 ops dr) ⟨[(1, .rp [.i .i64 p0.fKind, .s p0.fKey, .s p0.fField, .s p0.fText, .i .i64 p0.fN]), (10, .v (.b false))], []⟩ = some (.normal, ⟨[(1, .rp [.i .i64 p0.fKind, .s p0.fKey, .s p0.fField, .s p0.fText, .i .i64 p0.fN]), (3, .v (.b r))], []⟩) := by
  have e := Option.some.inj (ho.symm.trans (rfl : regAt 3 b130 = some (_, _)))
  obtain ⟨rfl, rfl⟩ := Prod.mk.inj e
  clear e ho
  unfold ck_rostrumref_CommandFault_k3 at hF
  refine boolTF (p0.fKind == 1) ?_ ?_
  focus
    intro h1
    replace hF := condT h1 hF
    have hR := Option.some.inj hF
    clear hF
    subst hR
  rotate_left 1
  intro h1
  replace hF := condF h1 hF
  refine boolTF (p0.fKind == 4) ?_ ?_
  focus
    intro h2
    replace hF := condT h2 hF
    have hR := Option.some.inj hF
    clear hF
    subst hR
  rotate_left 1
  intro h2
  replace hF := condF h2 hF
  refine boolTF (p0.fKind == 7) ?_ ?_
  focus
    intro h3
    replace hF := condT h3 hF
    have hR := Option.some.inj hF
    clear hF
    subst hR
  rotate_left 1
  intro h3
  replace hF := condF h3 hF
  refine boolTF (p0.fKind == 8) ?_ ?_
  focus
    intro h4
    replace hF := condT h4 hF
    have hR := Option.some.inj hF
    clear hF
    subst hR
  rotate_left 1
  intro h4
  replace hF := condF h4 hF
  have g1 : C.wide 55 [.v (.i .i64 p0.fKind), .v (.i .i64 11), .v (.i .i64 16)] [] = some (.v (.b (rostrumref_In_v p0.fKind 11 16)), []) := k_rostrumref_In p0.fKind 11 16 _ (rostrumref_In_t p0.fKind 11 16)
  have g2 : rostrumref_In_v p0.fKind 11 16 = (decide (11 ≤ p0.fKind) && decide (p0.fKind ≤ 16)) := by first | rfl | (simp [rostrumref_In_v]; done) | (simp only [rostrumref_In_v]; decide)
  have hR := Option.some.inj hF
  clear hF
  subst hR
  all_goals (simp (maxSteps := 4000000) only [*, res130, n130k0, n130k1, n130k2, n130k3, n130k4, n130k5, n130k6, n130k7, n130k8, n130k9, n130k10, n130k11, n130k12, n130k13, n130ro, n130mv, n130gv, ↓evCode_skip, ↓evCode_ret, ↓evCode_exit, ↓evCode_loop, ↓evCode_block_seq, ↓evCode_block_region, ↓evCode_block_cond, ↓evCode_block_block, ↓evCode_block_skip, ↓cond_true, ↓cond_false, enter, List.toList_toArray, Bool.false_and, cond_false, guardB, yieldedD, isWork, cond_true, workOk, workOp, Mx.force, opnd, Mx.look, Nat.reduceBEq, solid, Mx.fit, fitCs, fitC, List.isEmpty_cons, List.isEmpty_nil, Bool.false_or, Bool.or_false, Bool.true_or, Bool.or_true, Bool.and_true, Bool.true_and, Bool.and_false, Bool.not_true, Bool.not_false, Bool.not_not, Bool.or_not_self, Bool.not_or_self, Bool.and_self, Bool.or_self, toVs, cellsOf, toV, setReg_m, spend_m, hasOwn, ownFree, List.all_cons, List.all_nil, ownFreeC, Mx.put, ofConst, ofCell, after_some, Mx.prune, List.map_cons, List.map_nil, killB, killBs, unblock_normal, unblock_ret, unblock_exit, pureOp, putDst, offReg_m, callFails, isFuncCall, Option.isNone_none, Option.isNone_some, Option.isSome_none, Option.isSome_some, fieldOff, loadAt, partD, List.length_cons, List.length_nil, List.map, List.drop_succ_cons, List.drop_zero, List.take_succ_cons, List.take_zero, List.take_nil, List.drop_nil, List.getElem?_cons_zero, List.getElem?_cons_succ, List.getElem?_nil, Nat.reduceAdd, Nat.reduceMul, Nat.zero_add, Nat.add_zero, binD, binV, eqCells, eqC, lenD, sliceOf, ite_true, if_true, eq_self, reduceIte, reduceCtorEq, finish_ret, finish_normal, giveBack, resAll, resOne, outD, outOk, stayC, cellOk, valOk, lowC, lowP, forceAll, bound, asNat, elemIs, isStrK, sameInt, sliceD, kill, spendLoc, spendOk, setOwn, dropAl, dropAls, inReg, inObj, isCell, gone, List.contains_cons, List.contains_nil, List.elem_cons, List.elem_nil, lend, lendA, tracked, trackedA, noSlT, noSlV, bare, bareC, List.any_cons, List.any_nil, frz, frzC, frzReg_m, isGive, argE, argsE, isOwn, noOwn, fill, setCells, setVs, takeParts, rowsOf, inOrder, ownAt, List.set_cons_zero, List.set_cons_succ, List.nil_append, List.cons_append, List.append_nil, Nat.reduceBNe, Nat.reduceSub, Nat.reduceLT, Nat.reduceLeDiff, decide_true, decide_false, Int.cast_ofNat_Int, again_norm, againN_some, trunc_m, lowA, lowLoc, again_ret, again_exit, beq_self_eq_true, Bool.cond_true_left, Bool.cond_false_right, Bool.cond_false_left, Bool.cond_true_right, ge_iff_le, gt_iff_lt, kindW, plainWork, ownsDst, calmOp, calm, calmC, calmP, immB, noLoc, noLocC, readsAt, plainK, freeOk, pairOk, rwOk, List.getD_cons_zero, List.getD_cons_succ, Op.operands, Bool.not_eq_true, Option.map_some, Option.map_none, Int.reduceBEq, Int.reduceLT, Int.reduceLE, Int.reduceNeg, Bool.decide_eq_true, Int.reduceBNe, pickOk_f, pickOk_x, pickOk_h, outTup, cond_nest_t, cond_nest_f, cond_same, newB, newC, flatB, flatI, flatS, binK, binI, bne, mapR_len, mapR_app, mapR_emp, mapR_sub, mapR_nil, byL_m, strL_m, allB_m, strL0, row_oneB, row_consB, row_oneI, row_consI, row_oneS, row_consS, set_B, set_I, set_S, rep_B, rep_I, seq_m, slt_m, str0, modS_0, modS_s, ↓evCode_seqI, ↓evCode_condI, thenI_normal, thenI_ret, thenI_exit, branchI_t, branchI_f, runI_nil, runI_cons, opsI_some, stepI_t, stepI_f, guardI_none, guardI_some, runK_nil, runK_cons, opsK_some, kindI_t, kindI_f, endK_some, drawI_nil, drawI_cons, pickOk, aliasCs, standB, tailOf, isSliceK, effOk, Sum.elim_inl, Sum.elim_inr, beq_true, beq_false, Bool.true_beq, Bool.false_beq, Call.operands, List.isEmpty_toArray, Array.toList_append, Option.toArray_some, Option.toArray_none, ty3, ty4, ty9, ty25, ty34, ↓evCode_regionI _ _ _ _ 3])
set_option maxRecDepth 100000 in
set_option maxHeartbeats 40000000 in
theorem rg_rostrumref_CommandFault_k5 (C : Oracle)  (p0 : GCommand) (p1 : Bool) (p2 : Bool) (ops : Array Oper) (dr : Bool) (ho : regAt 5 b130 = some (ops, dr)) (r : Bool) (hF : ck_rostrumref_CommandFault_k5 p0 p1 p2 = some r) : evCode TT C.wide (evW TT C.wide n130 b130) n130 (.region 5 ops dr) ⟨[(1, .rp [.i .i64 p0.fKind, .s p0.fKey, .s p0.fField, .s p0.fText, .i .i64 p0.fN]), (3, .v (.b p1)), (4, .v (.b p2))], []⟩ = some (.normal, ⟨[(1, .rp [.i .i64 p0.fKind, .s p0.fKey, .s p0.fField, .s p0.fText, .i .i64 p0.fN]), (3, .v (.b p1)), (4, .v (.b p2)), (5, .v (.b r))], []⟩) := by
  have e := Option.some.inj (ho.symm.trans (rfl : regAt 5 b130 = some (_, _)))
  obtain ⟨rfl, rfl⟩ := Prod.mk.inj e
  clear e ho
  unfold ck_rostrumref_CommandFault_k5 at hF
  refine boolTF (p0.fKind == 3) ?_ ?_
  focus
    intro h1
    replace hF := condT h1 hF
    have hR := Option.some.inj hF
    clear hF
    subst hR
  rotate_left 1
  intro h1
  replace hF := condF h1 hF
  refine boolTF (p0.fKind == 14) ?_ ?_
  focus
    intro h2
    replace hF := condT h2 hF
    have hR := Option.some.inj hF
    clear hF
    subst hR
  rotate_left 1
  intro h2
  replace hF := condF h2 hF
  have hR := Option.some.inj hF
  clear hF
  subst hR
  all_goals (simp (maxSteps := 4000000) only [*, res130, n130k0, n130k1, n130k2, n130k3, n130k4, n130k5, n130k6, n130k7, n130k8, n130k9, n130k10, n130k11, n130k12, n130k13, n130ro, n130mv, n130gv, ↓evCode_skip, ↓evCode_ret, ↓evCode_exit, ↓evCode_loop, ↓evCode_block_seq, ↓evCode_block_region, ↓evCode_block_cond, ↓evCode_block_block, ↓evCode_block_skip, ↓cond_true, ↓cond_false, enter, List.toList_toArray, Bool.false_and, cond_false, guardB, yieldedD, isWork, cond_true, workOk, workOp, Mx.force, opnd, Mx.look, Nat.reduceBEq, solid, Mx.fit, fitCs, fitC, List.isEmpty_cons, List.isEmpty_nil, Bool.false_or, Bool.or_false, Bool.true_or, Bool.or_true, Bool.and_true, Bool.true_and, Bool.and_false, Bool.not_true, Bool.not_false, Bool.not_not, Bool.or_not_self, Bool.not_or_self, Bool.and_self, Bool.or_self, toVs, cellsOf, toV, setReg_m, spend_m, hasOwn, ownFree, List.all_cons, List.all_nil, ownFreeC, Mx.put, ofConst, ofCell, after_some, Mx.prune, List.map_cons, List.map_nil, killB, killBs, unblock_normal, unblock_ret, unblock_exit, pureOp, putDst, offReg_m, callFails, isFuncCall, Option.isNone_none, Option.isNone_some, Option.isSome_none, Option.isSome_some, fieldOff, loadAt, partD, List.length_cons, List.length_nil, List.map, List.drop_succ_cons, List.drop_zero, List.take_succ_cons, List.take_zero, List.take_nil, List.drop_nil, List.getElem?_cons_zero, List.getElem?_cons_succ, List.getElem?_nil, Nat.reduceAdd, Nat.reduceMul, Nat.zero_add, Nat.add_zero, binD, binV, eqCells, eqC, lenD, sliceOf, ite_true, if_true, eq_self, reduceIte, reduceCtorEq, finish_ret, finish_normal, giveBack, resAll, resOne, outD, outOk, stayC, cellOk, valOk, lowC, lowP, forceAll, bound, asNat, elemIs, isStrK, sameInt, sliceD, kill, spendLoc, spendOk, setOwn, dropAl, dropAls, inReg, inObj, isCell, gone, List.contains_cons, List.contains_nil, List.elem_cons, List.elem_nil, lend, lendA, tracked, trackedA, noSlT, noSlV, bare, bareC, List.any_cons, List.any_nil, frz, frzC, frzReg_m, isGive, argE, argsE, isOwn, noOwn, fill, setCells, setVs, takeParts, rowsOf, inOrder, ownAt, List.set_cons_zero, List.set_cons_succ, List.nil_append, List.cons_append, List.append_nil, Nat.reduceBNe, Nat.reduceSub, Nat.reduceLT, Nat.reduceLeDiff, decide_true, decide_false, Int.cast_ofNat_Int, again_norm, againN_some, trunc_m, lowA, lowLoc, again_ret, again_exit, beq_self_eq_true, Bool.cond_true_left, Bool.cond_false_right, Bool.cond_false_left, Bool.cond_true_right, ge_iff_le, gt_iff_lt, kindW, plainWork, ownsDst, calmOp, calm, calmC, calmP, immB, noLoc, noLocC, readsAt, plainK, freeOk, pairOk, rwOk, List.getD_cons_zero, List.getD_cons_succ, Op.operands, Bool.not_eq_true, Option.map_some, Option.map_none, Int.reduceBEq, Int.reduceLT, Int.reduceLE, Int.reduceNeg, Bool.decide_eq_true, Int.reduceBNe, pickOk_f, pickOk_x, pickOk_h, outTup, cond_nest_t, cond_nest_f, cond_same, newB, newC, flatB, flatI, flatS, binK, binI, bne, mapR_len, mapR_app, mapR_emp, mapR_sub, mapR_nil, byL_m, strL_m, allB_m, strL0, row_oneB, row_consB, row_oneI, row_consI, row_oneS, row_consS, set_B, set_I, set_S, rep_B, rep_I, seq_m, slt_m, str0, modS_0, modS_s, ↓evCode_seqI, ↓evCode_condI, thenI_normal, thenI_ret, thenI_exit, branchI_t, branchI_f, runI_nil, runI_cons, opsI_some, stepI_t, stepI_f, guardI_none, guardI_some, runK_nil, runK_cons, opsK_some, kindI_t, kindI_f, endK_some, drawI_nil, drawI_cons, pickOk, aliasCs, standB, tailOf, isSliceK, effOk, Sum.elim_inl, Sum.elim_inr, beq_true, beq_false, Bool.true_beq, Bool.false_beq, Call.operands, List.isEmpty_toArray, Array.toList_append, Option.toArray_some, Option.toArray_none, ty3, ty4, ty9, ty25, ty34, ↓evCode_regionI _ _ _ _ 5])
set_option maxRecDepth 100000 in
set_option maxHeartbeats 40000000 in
theorem rg_rostrumref_CommandFault_k7 (C : Oracle)  (p0 : GCommand) (p1 : Bool) (p2 : Bool) (p3 : Bool) (p4 : Bool) (ops : Array Oper) (dr : Bool) (ho : regAt 7 b130 = some (ops, dr)) (r : Bool) (hF : ck_rostrumref_CommandFault_k7 p0 p1 p2 p3 p4 = some r) : evCode TT C.wide (evW TT C.wide n130 b130) n130 (.region 7 ops dr) ⟨[(1, .rp [.i .i64 p0.fKind, .s p0.fKey, .s p0.fField, .s p0.fText, .i .i64 p0.fN]), (3, .v (.b p1)), (4, .v (.b p2)), (5, .v (.b p3)), (6, .v (.b p4))], []⟩ = some (.normal, ⟨[(1, .rp [.i .i64 p0.fKind, .s p0.fKey, .s p0.fField, .s p0.fText, .i .i64 p0.fN]), (4, .v (.b p2)), (6, .v (.b p4)), (86, .v (.b r))], []⟩) := by
  have e := Option.some.inj (ho.symm.trans (rfl : regAt 7 b130 = some (_, _)))
  obtain ⟨rfl, rfl⟩ := Prod.mk.inj e
  clear e ho
  unfold ck_rostrumref_CommandFault_k7 at hF
  refine boolTF p1 ?_ ?_
  focus
    intro h1
    replace hF := condT h1 hF
    refine boolTF p2 ?_ ?_
    focus
      intro h2
      replace hF := condT h2 hF
      refine boolTF p3 ?_ ?_
      focus
        intro h3
        replace hF := condT h3 hF
        refine boolTF p4 ?_ ?_
        focus
          intro h4
          replace hF := condT h4 hF
          have hR := Option.some.inj hF
          clear hF
          subst hR
        rotate_left 1
        intro h4
        replace hF := condF h4 hF
        have hR := Option.some.inj hF
        clear hF
        subst hR
      rotate_left 2
      intro h3
      replace hF := condF h3 hF
      refine boolFT (p0.fN == 0) ?_ ?_
      focus
        intro h4
        replace hF := condF h4 hF
        have hR := Option.some.inj hF
        clear hF
        subst hR
      rotate_left 1
      intro h4
      replace hF := condT h4 hF
      refine boolTF p4 ?_ ?_
      focus
        intro h5
        replace hF := condT h5 hF
        have hR := Option.some.inj hF
        clear hF
        subst hR
      rotate_left 1
      intro h5
      replace hF := condF h5 hF
      have hR := Option.some.inj hF
      clear hF
      subst hR
    rotate_left 5
    intro h2
    replace hF := condF h2 hF
    unfold ck_rostrumref_CommandFault_k7_c0 at hF
    refine boolFT (seqB p0.fField ByteArray.empty) ?_ ?_
    focus
      intro h3
      replace hF := condF h3 hF
      have hR := Option.some.inj hF
      clear hF
      subst hR
    rotate_left 1
    intro h3
    replace hF := condT h3 hF
    refine boolTF p3 ?_ ?_
    focus
      intro h4
      replace hF := condT h4 hF
      refine boolTF p4 ?_ ?_
      focus
        intro h5
        replace hF := condT h5 hF
        have hR := Option.some.inj hF
        clear hF
        subst hR
      rotate_left 1
      intro h5
      replace hF := condF h5 hF
      have hR := Option.some.inj hF
      clear hF
      subst hR
    rotate_left 2
    intro h4
    replace hF := condF h4 hF
    refine boolFT (p0.fN == 0) ?_ ?_
    focus
      intro h5
      replace hF := condF h5 hF
      have hR := Option.some.inj hF
      clear hF
      subst hR
    rotate_left 1
    intro h5
    replace hF := condT h5 hF
    refine boolTF p4 ?_ ?_
    focus
      intro h6
      replace hF := condT h6 hF
      have hR := Option.some.inj hF
      clear hF
      subst hR
    rotate_left 1
    intro h6
    replace hF := condF h6 hF
    have hR := Option.some.inj hF
    clear hF
    subst hR
  rotate_left 11
  intro h1
  replace hF := condF h1 hF
  unfold ck_rostrumref_CommandFault_k7_c2 at hF
  refine boolFT (seqB p0.fText ByteArray.empty) ?_ ?_
  focus
    intro h2
    replace hF := condF h2 hF
    have hR := Option.some.inj hF
    clear hF
    subst hR
  rotate_left 1
  intro h2
  replace hF := condT h2 hF
  refine boolTF p2 ?_ ?_
  focus
    intro h3
    replace hF := condT h3 hF
    refine boolTF p3 ?_ ?_
    focus
      intro h4
      replace hF := condT h4 hF
      refine boolTF p4 ?_ ?_
      focus
        intro h5
        replace hF := condT h5 hF
        have hR := Option.some.inj hF
        clear hF
        subst hR
      rotate_left 1
      intro h5
      replace hF := condF h5 hF
      have hR := Option.some.inj hF
      clear hF
      subst hR
    rotate_left 2
    intro h4
    replace hF := condF h4 hF
    refine boolFT (p0.fN == 0) ?_ ?_
    focus
      intro h5
      replace hF := condF h5 hF
      have hR := Option.some.inj hF
      clear hF
      subst hR
    rotate_left 1
    intro h5
    replace hF := condT h5 hF
    refine boolTF p4 ?_ ?_
    focus
      intro h6
      replace hF := condT h6 hF
      have hR := Option.some.inj hF
      clear hF
      subst hR
    rotate_left 1
    intro h6
    replace hF := condF h6 hF
    have hR := Option.some.inj hF
    clear hF
    subst hR
  rotate_left 5
  intro h3
  replace hF := condF h3 hF
  unfold ck_rostrumref_CommandFault_k7_c1 at hF
  refine boolFT (seqB p0.fField ByteArray.empty) ?_ ?_
  focus
    intro h4
    replace hF := condF h4 hF
    have hR := Option.some.inj hF
    clear hF
    subst hR
  rotate_left 1
  intro h4
  replace hF := condT h4 hF
  refine boolTF p3 ?_ ?_
  focus
    intro h5
    replace hF := condT h5 hF
    refine boolTF p4 ?_ ?_
    focus
      intro h6
      replace hF := condT h6 hF
      have hR := Option.some.inj hF
      clear hF
      subst hR
    rotate_left 1
    intro h6
    replace hF := condF h6 hF
    have hR := Option.some.inj hF
    clear hF
    subst hR
  rotate_left 2
  intro h5
  replace hF := condF h5 hF
  refine boolFT (p0.fN == 0) ?_ ?_
  focus
    intro h6
    replace hF := condF h6 hF
    have hR := Option.some.inj hF
    clear hF
    subst hR
  rotate_left 1
  intro h6
  replace hF := condT h6 hF
  refine boolTF p4 ?_ ?_
  focus
    intro h7
    replace hF := condT h7 hF
    have hR := Option.some.inj hF
    clear hF
    subst hR
  rotate_left 1
  intro h7
  replace hF := condF h7 hF
  have hR := Option.some.inj hF
  clear hF
  subst hR
  all_goals (simp (maxSteps := 4000000) only [*, res130, n130k0, n130k1, n130k2, n130k3, n130k4, n130k5, n130k6, n130k7, n130k8, n130k9, n130k10, n130k11, n130k12, n130k13, n130ro, n130mv, n130gv, ↓evCode_skip, ↓evCode_ret, ↓evCode_exit, ↓evCode_loop, ↓evCode_block_seq, ↓evCode_block_region, ↓evCode_block_cond, ↓evCode_block_block, ↓evCode_block_skip, ↓cond_true, ↓cond_false, enter, List.toList_toArray, Bool.false_and, cond_false, guardB, yieldedD, isWork, cond_true, workOk, workOp, Mx.force, opnd, Mx.look, Nat.reduceBEq, solid, Mx.fit, fitCs, fitC, List.isEmpty_cons, List.isEmpty_nil, Bool.false_or, Bool.or_false, Bool.true_or, Bool.or_true, Bool.and_true, Bool.true_and, Bool.and_false, Bool.not_true, Bool.not_false, Bool.not_not, Bool.or_not_self, Bool.not_or_self, Bool.and_self, Bool.or_self, toVs, cellsOf, toV, setReg_m, spend_m, hasOwn, ownFree, List.all_cons, List.all_nil, ownFreeC, Mx.put, ofConst, ofCell, after_some, Mx.prune, List.map_cons, List.map_nil, killB, killBs, unblock_normal, unblock_ret, unblock_exit, pureOp, putDst, offReg_m, callFails, isFuncCall, Option.isNone_none, Option.isNone_some, Option.isSome_none, Option.isSome_some, fieldOff, loadAt, partD, List.length_cons, List.length_nil, List.map, List.drop_succ_cons, List.drop_zero, List.take_succ_cons, List.take_zero, List.take_nil, List.drop_nil, List.getElem?_cons_zero, List.getElem?_cons_succ, List.getElem?_nil, Nat.reduceAdd, Nat.reduceMul, Nat.zero_add, Nat.add_zero, binD, binV, eqCells, eqC, lenD, sliceOf, ite_true, if_true, eq_self, reduceIte, reduceCtorEq, finish_ret, finish_normal, giveBack, resAll, resOne, outD, outOk, stayC, cellOk, valOk, lowC, lowP, forceAll, bound, asNat, elemIs, isStrK, sameInt, sliceD, kill, spendLoc, spendOk, setOwn, dropAl, dropAls, inReg, inObj, isCell, gone, List.contains_cons, List.contains_nil, List.elem_cons, List.elem_nil, lend, lendA, tracked, trackedA, noSlT, noSlV, bare, bareC, List.any_cons, List.any_nil, frz, frzC, frzReg_m, isGive, argE, argsE, isOwn, noOwn, fill, setCells, setVs, takeParts, rowsOf, inOrder, ownAt, List.set_cons_zero, List.set_cons_succ, List.nil_append, List.cons_append, List.append_nil, Nat.reduceBNe, Nat.reduceSub, Nat.reduceLT, Nat.reduceLeDiff, decide_true, decide_false, Int.cast_ofNat_Int, again_norm, againN_some, trunc_m, lowA, lowLoc, again_ret, again_exit, beq_self_eq_true, Bool.cond_true_left, Bool.cond_false_right, Bool.cond_false_left, Bool.cond_true_right, ge_iff_le, gt_iff_lt, kindW, plainWork, ownsDst, calmOp, calm, calmC, calmP, immB, noLoc, noLocC, readsAt, plainK, freeOk, pairOk, rwOk, List.getD_cons_zero, List.getD_cons_succ, Op.operands, Bool.not_eq_true, Option.map_some, Option.map_none, Int.reduceBEq, Int.reduceLT, Int.reduceLE, Int.reduceNeg, Bool.decide_eq_true, Int.reduceBNe, pickOk_f, pickOk_x, pickOk_h, outTup, cond_nest_t, cond_nest_f, cond_same, newB, newC, flatB, flatI, flatS, binK, binI, bne, mapR_len, mapR_app, mapR_emp, mapR_sub, mapR_nil, byL_m, strL_m, allB_m, strL0, row_oneB, row_consB, row_oneI, row_consI, row_oneS, row_consS, set_B, set_I, set_S, rep_B, rep_I, seq_m, slt_m, str0, modS_0, modS_s, ↓evCode_seqI, ↓evCode_condI, thenI_normal, thenI_ret, thenI_exit, branchI_t, branchI_f, runI_nil, runI_cons, opsI_some, stepI_t, stepI_f, guardI_none, guardI_some, runK_nil, runK_cons, opsK_some, kindI_t, kindI_f, endK_some, drawI_nil, drawI_cons, pickOk, aliasCs, standB, tailOf, isSliceK, effOk, Sum.elim_inl, Sum.elim_inr, beq_true, beq_false, Bool.true_beq, Bool.false_beq, Call.operands, List.isEmpty_toArray, Array.toList_append, Option.toArray_some, Option.toArray_none, ty3, ty4, ty9, ty25, ty34, ↓evCode_regionI _ _ _ _ 7])
set_option maxRecDepth 100000 in
set_option maxHeartbeats 40000000 in
theorem rg_rostrumref_CommandFault_k9 (C : Oracle) (k_rostrumref_fieldMay : K_rostrumref_fieldMay C) (k_rostrumref_textMay : K_rostrumref_textMay C) (p0 : GCommand) (p1 : Bool) (p2 : Bool) (ops : Array Oper) (dr : Bool) (ho : regAt 9 b130 = some (ops, dr)) (r : Bool) (hF : ck_rostrumref_CommandFault_k9 p0 p1 p2 = some r) : evCode TT C.wide (evW TT C.wide n130 b130) n130 (.region 9 ops dr) ⟨[(1, .rp [.i .i64 p0.fKind, .s p0.fKey, .s p0.fField, .s p0.fText, .i .i64 p0.fN]), (4, .v (.b p1)), (6, .v (.b p2)), (86, .v (.b false))], []⟩ = some (.normal, ⟨[(1, .rp [.i .i64 p0.fKind, .s p0.fKey, .s p0.fField, .s p0.fText, .i .i64 p0.fN]), (108, .v (.b r))], []⟩) := by
  have e := Option.some.inj (ho.symm.trans (rfl : regAt 9 b130 = some (_, _)))
  obtain ⟨rfl, rfl⟩ := Prod.mk.inj e
  clear e ho
  unfold ck_rostrumref_CommandFault_k9 at hF
  refine boolFT p2 ?_ ?_
  focus
    intro h1
    replace hF := condF h1 hF
    refine boolFT p1 ?_ ?_
    focus
      intro h2
      replace hF := condF h2 hF
      have g1 : C.wide 80 [.v (.s p0.fText)] [] = some (.v (.b (rostrumref_textMay_v p0.fText)), []) := k_rostrumref_textMay p0.fText _ (rostrumref_textMay_t p0.fText)
      have hR := Option.some.inj hF
      clear hF
      subst hR
    rotate_left 1
    intro h2
    replace hF := condT h2 hF
    have g2 : C.wide 81 [.v (.s p0.fField)] [] = some (.v (.b (rostrumref_fieldMay_v p0.fField)), []) := k_rostrumref_fieldMay p0.fField _ (rostrumref_fieldMay_t p0.fField)
    refine boolTF (rostrumref_fieldMay_v p0.fField) ?_ ?_
    focus
      intro h3
      replace hF := condT h3 hF
      have g1 : C.wide 80 [.v (.s p0.fText)] [] = some (.v (.b (rostrumref_textMay_v p0.fText)), []) := k_rostrumref_textMay p0.fText _ (rostrumref_textMay_t p0.fText)
      have hR := Option.some.inj hF
      clear hF
      subst hR
    rotate_left 1
    intro h3
    replace hF := condF h3 hF
    have hR := Option.some.inj hF
    clear hF
    subst hR
  rotate_left 3
  intro h1
  replace hF := condT h1 hF
  have g3 : C.wide 81 [.v (.s p0.fKey)] [] = some (.v (.b (rostrumref_fieldMay_v p0.fKey)), []) := k_rostrumref_fieldMay p0.fKey _ (rostrumref_fieldMay_t p0.fKey)
  refine boolFT (rostrumref_fieldMay_v p0.fKey) ?_ ?_
  focus
    intro h2
    replace hF := condF h2 hF
    have hR := Option.some.inj hF
    clear hF
    subst hR
  rotate_left 1
  intro h2
  replace hF := condT h2 hF
  refine boolFT p1 ?_ ?_
  focus
    intro h3
    replace hF := condF h3 hF
    have g1 : C.wide 80 [.v (.s p0.fText)] [] = some (.v (.b (rostrumref_textMay_v p0.fText)), []) := k_rostrumref_textMay p0.fText _ (rostrumref_textMay_t p0.fText)
    have hR := Option.some.inj hF
    clear hF
    subst hR
  rotate_left 1
  intro h3
  replace hF := condT h3 hF
  have g2 : C.wide 81 [.v (.s p0.fField)] [] = some (.v (.b (rostrumref_fieldMay_v p0.fField)), []) := k_rostrumref_fieldMay p0.fField _ (rostrumref_fieldMay_t p0.fField)
  refine boolTF (rostrumref_fieldMay_v p0.fField) ?_ ?_
  focus
    intro h4
    replace hF := condT h4 hF
    have g1 : C.wide 80 [.v (.s p0.fText)] [] = some (.v (.b (rostrumref_textMay_v p0.fText)), []) := k_rostrumref_textMay p0.fText _ (rostrumref_textMay_t p0.fText)
    have hR := Option.some.inj hF
    clear hF
    subst hR
  rotate_left 1
  intro h4
  replace hF := condF h4 hF
  have hR := Option.some.inj hF
  clear hF
  subst hR
  all_goals (simp (maxSteps := 4000000) only [*, res130, n130k0, n130k1, n130k2, n130k3, n130k4, n130k5, n130k6, n130k7, n130k8, n130k9, n130k10, n130k11, n130k12, n130k13, n130ro, n130mv, n130gv, ↓evCode_skip, ↓evCode_ret, ↓evCode_exit, ↓evCode_loop, ↓evCode_block_seq, ↓evCode_block_region, ↓evCode_block_cond, ↓evCode_block_block, ↓evCode_block_skip, ↓cond_true, ↓cond_false, enter, List.toList_toArray, Bool.false_and, cond_false, guardB, yieldedD, isWork, cond_true, workOk, workOp, Mx.force, opnd, Mx.look, Nat.reduceBEq, solid, Mx.fit, fitCs, fitC, List.isEmpty_cons, List.isEmpty_nil, Bool.false_or, Bool.or_false, Bool.true_or, Bool.or_true, Bool.and_true, Bool.true_and, Bool.and_false, Bool.not_true, Bool.not_false, Bool.not_not, Bool.or_not_self, Bool.not_or_self, Bool.and_self, Bool.or_self, toVs, cellsOf, toV, setReg_m, spend_m, hasOwn, ownFree, List.all_cons, List.all_nil, ownFreeC, Mx.put, ofConst, ofCell, after_some, Mx.prune, List.map_cons, List.map_nil, killB, killBs, unblock_normal, unblock_ret, unblock_exit, pureOp, putDst, offReg_m, callFails, isFuncCall, Option.isNone_none, Option.isNone_some, Option.isSome_none, Option.isSome_some, fieldOff, loadAt, partD, List.length_cons, List.length_nil, List.map, List.drop_succ_cons, List.drop_zero, List.take_succ_cons, List.take_zero, List.take_nil, List.drop_nil, List.getElem?_cons_zero, List.getElem?_cons_succ, List.getElem?_nil, Nat.reduceAdd, Nat.reduceMul, Nat.zero_add, Nat.add_zero, binD, binV, eqCells, eqC, lenD, sliceOf, ite_true, if_true, eq_self, reduceIte, reduceCtorEq, finish_ret, finish_normal, giveBack, resAll, resOne, outD, outOk, stayC, cellOk, valOk, lowC, lowP, forceAll, bound, asNat, elemIs, isStrK, sameInt, sliceD, kill, spendLoc, spendOk, setOwn, dropAl, dropAls, inReg, inObj, isCell, gone, List.contains_cons, List.contains_nil, List.elem_cons, List.elem_nil, lend, lendA, tracked, trackedA, noSlT, noSlV, bare, bareC, List.any_cons, List.any_nil, frz, frzC, frzReg_m, isGive, argE, argsE, isOwn, noOwn, fill, setCells, setVs, takeParts, rowsOf, inOrder, ownAt, List.set_cons_zero, List.set_cons_succ, List.nil_append, List.cons_append, List.append_nil, Nat.reduceBNe, Nat.reduceSub, Nat.reduceLT, Nat.reduceLeDiff, decide_true, decide_false, Int.cast_ofNat_Int, again_norm, againN_some, trunc_m, lowA, lowLoc, again_ret, again_exit, beq_self_eq_true, Bool.cond_true_left, Bool.cond_false_right, Bool.cond_false_left, Bool.cond_true_right, ge_iff_le, gt_iff_lt, kindW, plainWork, ownsDst, calmOp, calm, calmC, calmP, immB, noLoc, noLocC, readsAt, plainK, freeOk, pairOk, rwOk, List.getD_cons_zero, List.getD_cons_succ, Op.operands, Bool.not_eq_true, Option.map_some, Option.map_none, Int.reduceBEq, Int.reduceLT, Int.reduceLE, Int.reduceNeg, Bool.decide_eq_true, Int.reduceBNe, pickOk_f, pickOk_x, pickOk_h, outTup, cond_nest_t, cond_nest_f, cond_same, newB, newC, flatB, flatI, flatS, binK, binI, bne, mapR_len, mapR_app, mapR_emp, mapR_sub, mapR_nil, byL_m, strL_m, allB_m, strL0, row_oneB, row_consB, row_oneI, row_consI, row_oneS, row_consS, set_B, set_I, set_S, rep_B, rep_I, seq_m, slt_m, str0, modS_0, modS_s, ↓evCode_seqI, ↓evCode_condI, thenI_normal, thenI_ret, thenI_exit, branchI_t, branchI_f, runI_nil, runI_cons, opsI_some, stepI_t, stepI_f, guardI_none, guardI_some, runK_nil, runK_cons, opsK_some, kindI_t, kindI_f, endK_some, drawI_nil, drawI_cons, pickOk, aliasCs, standB, tailOf, isSliceK, effOk, Sum.elim_inl, Sum.elim_inr, beq_true, beq_false, Bool.true_beq, Bool.false_beq, Call.operands, List.isEmpty_toArray, Array.toList_append, Option.toArray_some, Option.toArray_none, ty3, ty4, ty9, ty25, ty34, ↓evCode_regionI _ _ _ _ 9])
set_option maxRecDepth 100000 in
set_option maxHeartbeats 40000000 in
theorem r_rostrumref_CommandFault (C : Oracle) (k_rostrumref_In : K_rostrumref_In C) (k_rostrumref_fieldMay : K_rostrumref_fieldMay C) (k_rostrumref_textMay : K_rostrumref_textMay C) (k_rostrumref_countMay : K_rostrumref_countMay C) (p0 : GCommand) (r : Int) (hF : rostrumref_CommandFault p0 = some r) : evFn TT C.wide (evW TT C.wide n130 b130) n130 Try.f130.results.toList (bodyOf Try.f130) [.agg [.v (.i .i64 p0.fKind), .v (.s p0.fKey), .v (.s p0.fField), .v (.s p0.fText), .v (.i .i64 p0.fN)]] [] = some (.v (.i .i64 r), []) := by
  unfold rostrumref_CommandFault at hF
  have g1 : C.wide 55 [.v (.i .i64 p0.fKind), .v (.i .i64 1), .v (.i .i64 22)] [] = some (.v (.b (rostrumref_In_v p0.fKind 1 22)), []) := k_rostrumref_In p0.fKind 1 22 _ (rostrumref_In_t p0.fKind 1 22)
  have g2 : rostrumref_In_v p0.fKind 1 22 = (decide (1 ≤ p0.fKind) && decide (p0.fKind ≤ 22)) := by first | rfl | (simp [rostrumref_In_v]; done) | (simp only [rostrumref_In_v]; decide)
  refine boolFT (decide (1 ≤ p0.fKind)) ?_ ?_
  focus
    intro h1
    replace hF := condF h1 hF
    have hR := Option.some.inj hF
    clear hF
    subst hR
  rotate_left 1
  intro h1
  replace hF := condT h1 hF
  refine boolFT (decide (p0.fKind ≤ 22)) ?_ ?_
  focus
    intro h2
    replace hF := condF h2 hF
    have hR := Option.some.inj hF
    clear hF
    subst hR
  rotate_left 1
  intro h2
  replace hF := condT h2 hF
  have g3 : @regI TT C.wide (evW TT C.wide n130 b130) n130 3 ⟨[(1, .rp [.i .i64 p0.fKind, .s p0.fKey, .s p0.fField, .s p0.fText, .i .i64 p0.fN]), (10, .v (.b false))], []⟩ ⟨(_, _)⟩ = some (.normal, ⟨[(1, .rp [.i .i64 p0.fKind, .s p0.fKey, .s p0.fField, .s p0.fText, .i .i64 p0.fN]), (3, .v (.b (ck_rostrumref_CommandFault_k3_v p0)))], []⟩) := rg_rostrumref_CommandFault_k3 C k_rostrumref_In p0 _ _ rfl (ck_rostrumref_CommandFault_k3_v p0) (ck_rostrumref_CommandFault_k3_t p0)
  have g4 : C.wide 55 [.v (.i .i64 p0.fKind), .v (.i .i64 4), .v (.i .i64 6)] [] = some (.v (.b (rostrumref_In_v p0.fKind 4 6)), []) := k_rostrumref_In p0.fKind 4 6 _ (rostrumref_In_t p0.fKind 4 6)
  have g5 : rostrumref_In_v p0.fKind 4 6 = (decide (4 ≤ p0.fKind) && decide (p0.fKind ≤ 6)) := by first | rfl | (simp [rostrumref_In_v]; done) | (simp only [rostrumref_In_v]; decide)
  have g6 : @regI TT C.wide (evW TT C.wide n130 b130) n130 5 ⟨[(1, .rp [.i .i64 p0.fKind, .s p0.fKey, .s p0.fField, .s p0.fText, .i .i64 p0.fN]), (3, .v (.b (ck_rostrumref_CommandFault_k3_v p0))), (4, .v (.b (decide (4 ≤ p0.fKind) && decide (p0.fKind ≤ 6))))], []⟩ ⟨(_, _)⟩ = some (.normal, ⟨[(1, .rp [.i .i64 p0.fKind, .s p0.fKey, .s p0.fField, .s p0.fText, .i .i64 p0.fN]), (3, .v (.b (ck_rostrumref_CommandFault_k3_v p0))), (4, .v (.b (decide (4 ≤ p0.fKind) && decide (p0.fKind ≤ 6)))), (5, .v (.b (ck_rostrumref_CommandFault_k5_v p0 (ck_rostrumref_CommandFault_k3_v p0) (decide (4 ≤ p0.fKind) && decide (p0.fKind ≤ 6)))))], []⟩) := rg_rostrumref_CommandFault_k5 C p0 (ck_rostrumref_CommandFault_k3_v p0) (decide (4 ≤ p0.fKind) && decide (p0.fKind ≤ 6)) _ _ rfl (ck_rostrumref_CommandFault_k5_v p0 (ck_rostrumref_CommandFault_k3_v p0) (decide (4 ≤ p0.fKind) && decide (p0.fKind ≤ 6))) (ck_rostrumref_CommandFault_k5_t p0 (ck_rostrumref_CommandFault_k3_v p0) (decide (4 ≤ p0.fKind) && decide (p0.fKind ≤ 6)))
  have g7 : @regI TT C.wide (evW TT C.wide n130 b130) n130 7 ⟨[(1, .rp [.i .i64 p0.fKind, .s p0.fKey, .s p0.fField, .s p0.fText, .i .i64 p0.fN]), (3, .v (.b (ck_rostrumref_CommandFault_k3_v p0))), (4, .v (.b (decide (4 ≤ p0.fKind) && decide (p0.fKind ≤ 6)))), (5, .v (.b (ck_rostrumref_CommandFault_k5_v p0 (ck_rostrumref_CommandFault_k3_v p0) (decide (4 ≤ p0.fKind) && decide (p0.fKind ≤ 6))))), (6, .v (.b (!(p0.fKind == 22))))], []⟩ ⟨(_, _)⟩ = some (.normal, ⟨[(1, .rp [.i .i64 p0.fKind, .s p0.fKey, .s p0.fField, .s p0.fText, .i .i64 p0.fN]), (4, .v (.b (decide (4 ≤ p0.fKind) && decide (p0.fKind ≤ 6)))), (6, .v (.b (!(p0.fKind == 22)))), (86, .v (.b (ck_rostrumref_CommandFault_k7_v p0 (ck_rostrumref_CommandFault_k3_v p0) (decide (4 ≤ p0.fKind) && decide (p0.fKind ≤ 6)) (ck_rostrumref_CommandFault_k5_v p0 (ck_rostrumref_CommandFault_k3_v p0) (decide (4 ≤ p0.fKind) && decide (p0.fKind ≤ 6))) (!(p0.fKind == 22)))))], []⟩) := rg_rostrumref_CommandFault_k7 C p0 (ck_rostrumref_CommandFault_k3_v p0) (decide (4 ≤ p0.fKind) && decide (p0.fKind ≤ 6)) (ck_rostrumref_CommandFault_k5_v p0 (ck_rostrumref_CommandFault_k3_v p0) (decide (4 ≤ p0.fKind) && decide (p0.fKind ≤ 6))) (!(p0.fKind == 22)) _ _ rfl (ck_rostrumref_CommandFault_k7_v p0 (ck_rostrumref_CommandFault_k3_v p0) (decide (4 ≤ p0.fKind) && decide (p0.fKind ≤ 6)) (ck_rostrumref_CommandFault_k5_v p0 (ck_rostrumref_CommandFault_k3_v p0) (decide (4 ≤ p0.fKind) && decide (p0.fKind ≤ 6))) (!(p0.fKind == 22))) (ck_rostrumref_CommandFault_k7_t p0 (ck_rostrumref_CommandFault_k3_v p0) (decide (4 ≤ p0.fKind) && decide (p0.fKind ≤ 6)) (ck_rostrumref_CommandFault_k5_v p0 (ck_rostrumref_CommandFault_k3_v p0) (decide (4 ≤ p0.fKind) && decide (p0.fKind ≤ 6))) (!(p0.fKind == 22)))
  refine boolTF (ck_rostrumref_CommandFault_k7_v p0 (ck_rostrumref_CommandFault_k3_v p0) (decide (4 ≤ p0.fKind) && decide (p0.fKind ≤ 6)) (ck_rostrumref_CommandFault_k5_v p0 (ck_rostrumref_CommandFault_k3_v p0) (decide (4 ≤ p0.fKind) && decide (p0.fKind ≤ 6))) (!(p0.fKind == 22))) ?_ ?_
  focus
    intro h3
    replace hF := condT h3 hF
    have hR := Option.some.inj hF
    clear hF
    subst hR
  rotate_left 1
  intro h3
  replace hF := condF h3 hF
  have g8 : @regI TT C.wide (evW TT C.wide n130 b130) n130 9 ⟨[(1, .rp [.i .i64 p0.fKind, .s p0.fKey, .s p0.fField, .s p0.fText, .i .i64 p0.fN]), (4, .v (.b (decide (4 ≤ p0.fKind) && decide (p0.fKind ≤ 6)))), (6, .v (.b (!(p0.fKind == 22)))), (86, .v (.b false))], []⟩ ⟨(_, _)⟩ = some (.normal, ⟨[(1, .rp [.i .i64 p0.fKind, .s p0.fKey, .s p0.fField, .s p0.fText, .i .i64 p0.fN]), (108, .v (.b (ck_rostrumref_CommandFault_k9_v p0 (decide (4 ≤ p0.fKind) && decide (p0.fKind ≤ 6)) (!(p0.fKind == 22)))))], []⟩) := rg_rostrumref_CommandFault_k9 C k_rostrumref_fieldMay k_rostrumref_textMay p0 (decide (4 ≤ p0.fKind) && decide (p0.fKind ≤ 6)) (!(p0.fKind == 22)) _ _ rfl (ck_rostrumref_CommandFault_k9_v p0 (decide (4 ≤ p0.fKind) && decide (p0.fKind ≤ 6)) (!(p0.fKind == 22))) (ck_rostrumref_CommandFault_k9_t p0 (decide (4 ≤ p0.fKind) && decide (p0.fKind ≤ 6)) (!(p0.fKind == 22)))
  refine boolTF (ck_rostrumref_CommandFault_k9_v p0 (decide (4 ≤ p0.fKind) && decide (p0.fKind ≤ 6)) (!(p0.fKind == 22))) ?_ ?_
  focus
    intro h4
    replace hF := condT h4 hF
    have hR := Option.some.inj hF
    clear hF
    subst hR
  rotate_left 1
  intro h4
  replace hF := condF h4 hF
  have g9 : C.wide 82 [.v (.i .i64 p0.fN)] [] = some (.v (.b (rostrumref_countMay_v p0.fN)), []) := k_rostrumref_countMay p0.fN _ (rostrumref_countMay_t p0.fN)
  refine boolTF (rostrumref_countMay_v p0.fN) ?_ ?_
  focus
    intro h5
    replace hF := condT h5 hF
    have hR := Option.some.inj hF
    clear hF
    subst hR
  rotate_left 1
  intro h5
  replace hF := condF h5 hF
  have hR := Option.some.inj hF
  clear hF
  subst hR
  all_goals (rw [evFn_finish]; show finish _ _ _ (evCode _ _ _ _ (Code.seq _ _) _) = _; simp (maxSteps := 4000000) only [*, res130, n130k0, n130k1, n130k2, n130k3, n130k4, n130k5, n130k6, n130k7, n130k8, n130k9, n130k10, n130k11, n130k12, n130k13, n130ro, n130mv, n130gv, ↓evCode_skip, ↓evCode_ret, ↓evCode_exit, ↓evCode_loop, ↓evCode_block_seq, ↓evCode_block_region, ↓evCode_block_cond, ↓evCode_block_block, ↓evCode_block_skip, ↓cond_true, ↓cond_false, enter, List.toList_toArray, Bool.false_and, cond_false, guardB, yieldedD, isWork, cond_true, workOk, workOp, Mx.force, opnd, Mx.look, Nat.reduceBEq, solid, Mx.fit, fitCs, fitC, List.isEmpty_cons, List.isEmpty_nil, Bool.false_or, Bool.or_false, Bool.true_or, Bool.or_true, Bool.and_true, Bool.true_and, Bool.and_false, Bool.not_true, Bool.not_false, Bool.not_not, Bool.or_not_self, Bool.not_or_self, Bool.and_self, Bool.or_self, toVs, cellsOf, toV, setReg_m, spend_m, hasOwn, ownFree, List.all_cons, List.all_nil, ownFreeC, Mx.put, ofConst, ofCell, after_some, Mx.prune, List.map_cons, List.map_nil, killB, killBs, unblock_normal, unblock_ret, unblock_exit, pureOp, putDst, offReg_m, callFails, isFuncCall, Option.isNone_none, Option.isNone_some, Option.isSome_none, Option.isSome_some, fieldOff, loadAt, partD, List.length_cons, List.length_nil, List.map, List.drop_succ_cons, List.drop_zero, List.take_succ_cons, List.take_zero, List.take_nil, List.drop_nil, List.getElem?_cons_zero, List.getElem?_cons_succ, List.getElem?_nil, Nat.reduceAdd, Nat.reduceMul, Nat.zero_add, Nat.add_zero, binD, binV, eqCells, eqC, lenD, sliceOf, ite_true, if_true, eq_self, reduceIte, reduceCtorEq, finish_ret, finish_normal, giveBack, resAll, resOne, outD, outOk, stayC, cellOk, valOk, lowC, lowP, forceAll, bound, asNat, elemIs, isStrK, sameInt, sliceD, kill, spendLoc, spendOk, setOwn, dropAl, dropAls, inReg, inObj, isCell, gone, List.contains_cons, List.contains_nil, List.elem_cons, List.elem_nil, lend, lendA, tracked, trackedA, noSlT, noSlV, bare, bareC, List.any_cons, List.any_nil, frz, frzC, frzReg_m, isGive, argE, argsE, isOwn, noOwn, fill, setCells, setVs, takeParts, rowsOf, inOrder, ownAt, List.set_cons_zero, List.set_cons_succ, List.nil_append, List.cons_append, List.append_nil, Nat.reduceBNe, Nat.reduceSub, Nat.reduceLT, Nat.reduceLeDiff, decide_true, decide_false, Int.cast_ofNat_Int, again_norm, againN_some, trunc_m, lowA, lowLoc, again_ret, again_exit, beq_self_eq_true, Bool.cond_true_left, Bool.cond_false_right, Bool.cond_false_left, Bool.cond_true_right, ge_iff_le, gt_iff_lt, kindW, plainWork, ownsDst, calmOp, calm, calmC, calmP, immB, noLoc, noLocC, readsAt, plainK, freeOk, pairOk, rwOk, List.getD_cons_zero, List.getD_cons_succ, Op.operands, Bool.not_eq_true, Option.map_some, Option.map_none, Int.reduceBEq, Int.reduceLT, Int.reduceLE, Int.reduceNeg, Bool.decide_eq_true, Int.reduceBNe, pickOk_f, pickOk_x, pickOk_h, outTup, cond_nest_t, cond_nest_f, cond_same, newB, newC, flatB, flatI, flatS, binK, binI, bne, mapR_len, mapR_app, mapR_emp, mapR_sub, mapR_nil, byL_m, strL_m, allB_m, strL0, row_oneB, row_consB, row_oneI, row_consI, row_oneS, row_consS, set_B, set_I, set_S, rep_B, rep_I, seq_m, slt_m, str0, modS_0, modS_s, ↓evCode_seqI, ↓evCode_condI, thenI_normal, thenI_ret, thenI_exit, branchI_t, branchI_f, runI_nil, runI_cons, opsI_some, stepI_t, stepI_f, guardI_none, guardI_some, runK_nil, runK_cons, opsK_some, kindI_t, kindI_f, endK_some, drawI_nil, drawI_cons, pickOk, aliasCs, standB, tailOf, isSliceK, effOk, Sum.elim_inl, Sum.elim_inr, beq_true, beq_false, Bool.true_beq, Bool.false_beq, Call.operands, List.isEmpty_toArray, Array.toList_append, Option.toArray_some, Option.toArray_none, ty3, ty4, ty9, ty25, ty34, ↓evCode_regionI _ _ _ _ 0, ↓evCode_regionI _ _ _ _ 1, ↓evCode_regionI _ _ _ _ 2, ↓evCode_regionB _ _ _ _ 3, ↓evCode_regionI _ _ _ _ 4, ↓evCode_regionB _ _ _ _ 5, ↓evCode_regionI _ _ _ _ 6, ↓evCode_regionB _ _ _ _ 7, ↓evCode_regionI _ _ _ _ 8, ↓evCode_regionB _ _ _ _ 9, ↓evCode_regionI _ _ _ _ 10, ↓evCode_regionI _ _ _ _ 11, ↓evCode_regionI _ _ _ _ 12, ↓evCode_regionI _ _ _ _ 13])
/-! ### rostrumref.CallFault -/
def n104 : Note where
  keep := fun i => match i with
    | 0 => [1]
    | 1 => [1, 5]
    | 2 => [14]
    | 3 => [2]
    | 4 => [2]
    | 5 => [1, 24]
    | 6 => [2]
    | 7 => [2]
    | _ => []
  ro := fun t => t == 1
  mv := fun _ => false
  give := fun _ => false
  free := fun _ => []
theorem n104k0 : n104.keep 0 = [1] := rfl
theorem n104k1 : n104.keep 1 = [1, 5] := rfl
theorem n104k2 : n104.keep 2 = [14] := rfl
theorem n104k3 : n104.keep 3 = [2] := rfl
theorem n104k4 : n104.keep 4 = [2] := rfl
theorem n104k5 : n104.keep 5 = [1, 24] := rfl
theorem n104k6 : n104.keep 6 = [2] := rfl
theorem n104k7 : n104.keep 7 = [2] := rfl
theorem n104ro (t : Nat) : n104.ro t = (t == 1) := rfl
theorem n104mv (t : Nat) : n104.mv t = (false) := rfl
theorem n104gv (t : Nat) : n104.give t = (false) := rfl
theorem res104 : Try.f104.results.toList = [.tmp 2] := rfl
noncomputable def b104 : Code := bodyOf Try.f104
set_option maxRecDepth 100000 in
set_option maxHeartbeats 40000000 in
theorem r_rostrumref_CallFault (C : Oracle) (k_rostrumref_numberMay : K_rostrumref_numberMay C) (k_rostrumref_CommandFault : K_rostrumref_CommandFault C) (p0 : GCall) (r : Int) (hF : rostrumref_CallFault p0 = some r) : evFn TT C.wide (evW TT C.wide n104 b104) n104 Try.f104.results.toList (bodyOf Try.f104) [.agg [.v (.i .i64 p0.fClient), .v (.i .i64 p0.fSeq), .v (.i .i64 p0.fCommand.fKind), .v (.s p0.fCommand.fKey), .v (.s p0.fCommand.fField), .v (.s p0.fCommand.fText), .v (.i .i64 p0.fCommand.fN)]] [] = some (.v (.i .i64 r), []) := by
  unfold rostrumref_CallFault at hF
  refine boolFT (p0.fClient == 0) ?_ ?_
  focus
    intro h1
    replace hF := condF h1 hF
    have g1 : C.wide 91 [.v (.i .i64 p0.fClient)] [] = some (.v (.b (rostrumref_numberMay_v p0.fClient)), []) := k_rostrumref_numberMay p0.fClient _ (rostrumref_numberMay_t p0.fClient)
    refine boolFT (rostrumref_numberMay_v p0.fClient) ?_ ?_
    focus
      intro h2
      replace hF := condF h2 hF
      have hR := Option.some.inj hF
      clear hF
      subst hR
    rotate_left 1
    intro h2
    replace hF := condT h2 hF
    have g2 : C.wide 91 [.v (.i .i64 p0.fSeq)] [] = some (.v (.b (rostrumref_numberMay_v p0.fSeq)), []) := k_rostrumref_numberMay p0.fSeq _ (rostrumref_numberMay_t p0.fSeq)
    refine boolTF (rostrumref_numberMay_v p0.fSeq) ?_ ?_
    focus
      intro h3
      replace hF := condT h3 hF
      have g3 : C.wide 130 [.agg [.v (.i .i64 p0.fCommand.fKind), .v (.s p0.fCommand.fKey), .v (.s p0.fCommand.fField), .v (.s p0.fCommand.fText), .v (.i .i64 p0.fCommand.fN)]] [] = some (.v (.i .i64 (rostrumref_CommandFault_v p0.fCommand)), []) := k_rostrumref_CommandFault p0.fCommand _ (rostrumref_CommandFault_t p0.fCommand)
      have hR := Option.some.inj hF
      clear hF
      subst hR
    rotate_left 1
    intro h3
    replace hF := condF h3 hF
    have hR := Option.some.inj hF
    clear hF
    subst hR
  rotate_left 3
  intro h1
  replace hF := condT h1 hF
  unfold rostrumref_CallFault_c0 at hF
  refine boolFT (p0.fSeq == 0) ?_ ?_
  focus
    intro h2
    replace hF := condF h2 hF
    have hR := Option.some.inj hF
    clear hF
    subst hR
  rotate_left 1
  intro h2
  replace hF := condT h2 hF
  refine boolFT (p0.fCommand.fKind == 0) ?_ ?_
  focus
    intro h3
    replace hF := condF h3 hF
    have hR := Option.some.inj hF
    clear hF
    subst hR
  rotate_left 1
  intro h3
  replace hF := condT h3 hF
  refine boolFT (seqB p0.fCommand.fKey ByteArray.empty) ?_ ?_
  focus
    intro h4
    replace hF := condF h4 hF
    have hR := Option.some.inj hF
    clear hF
    subst hR
  rotate_left 1
  intro h4
  replace hF := condT h4 hF
  refine boolFT (seqB p0.fCommand.fField ByteArray.empty) ?_ ?_
  focus
    intro h5
    replace hF := condF h5 hF
    have hR := Option.some.inj hF
    clear hF
    subst hR
  rotate_left 1
  intro h5
  replace hF := condT h5 hF
  refine boolFT (seqB p0.fCommand.fText ByteArray.empty) ?_ ?_
  focus
    intro h6
    replace hF := condF h6 hF
    have hR := Option.some.inj hF
    clear hF
    subst hR
  rotate_left 1
  intro h6
  replace hF := condT h6 hF
  refine boolTF (p0.fCommand.fN == 0) ?_ ?_
  focus
    intro h7
    replace hF := condT h7 hF
    have hR := Option.some.inj hF
    clear hF
    subst hR
  rotate_left 1
  intro h7
  replace hF := condF h7 hF
  have hR := Option.some.inj hF
  clear hF
  subst hR
  all_goals (rw [evFn_finish]; show finish _ _ _ (evCode _ _ _ _ (Code.seq _ _) _) = _; simp (maxSteps := 4000000) only [*, res104, n104k0, n104k1, n104k2, n104k3, n104k4, n104k5, n104k6, n104k7, n104ro, n104mv, n104gv, ↓evCode_skip, ↓evCode_ret, ↓evCode_exit, ↓evCode_loop, ↓evCode_block_seq, ↓evCode_block_region, ↓evCode_block_cond, ↓evCode_block_block, ↓evCode_block_skip, ↓cond_true, ↓cond_false, enter, List.toList_toArray, Bool.false_and, cond_false, guardB, yieldedD, isWork, cond_true, workOk, workOp, Mx.force, opnd, Mx.look, Nat.reduceBEq, solid, Mx.fit, fitCs, fitC, List.isEmpty_cons, List.isEmpty_nil, Bool.false_or, Bool.or_false, Bool.true_or, Bool.or_true, Bool.and_true, Bool.true_and, Bool.and_false, Bool.not_true, Bool.not_false, Bool.not_not, Bool.or_not_self, Bool.not_or_self, Bool.and_self, Bool.or_self, toVs, cellsOf, toV, setReg_m, spend_m, hasOwn, ownFree, List.all_cons, List.all_nil, ownFreeC, Mx.put, ofConst, ofCell, after_some, Mx.prune, List.map_cons, List.map_nil, killB, killBs, unblock_normal, unblock_ret, unblock_exit, pureOp, putDst, offReg_m, callFails, isFuncCall, Option.isNone_none, Option.isNone_some, Option.isSome_none, Option.isSome_some, fieldOff, loadAt, partD, List.length_cons, List.length_nil, List.map, List.drop_succ_cons, List.drop_zero, List.take_succ_cons, List.take_zero, List.take_nil, List.drop_nil, List.getElem?_cons_zero, List.getElem?_cons_succ, List.getElem?_nil, Nat.reduceAdd, Nat.reduceMul, Nat.zero_add, Nat.add_zero, binD, binV, eqCells, eqC, lenD, sliceOf, ite_true, if_true, eq_self, reduceIte, reduceCtorEq, finish_ret, finish_normal, giveBack, resAll, resOne, outD, outOk, stayC, cellOk, valOk, lowC, lowP, forceAll, bound, asNat, elemIs, isStrK, sameInt, sliceD, kill, spendLoc, spendOk, setOwn, dropAl, dropAls, inReg, inObj, isCell, gone, List.contains_cons, List.contains_nil, List.elem_cons, List.elem_nil, lend, lendA, tracked, trackedA, noSlT, noSlV, bare, bareC, List.any_cons, List.any_nil, frz, frzC, frzReg_m, isGive, argE, argsE, isOwn, noOwn, fill, setCells, setVs, takeParts, rowsOf, inOrder, ownAt, List.set_cons_zero, List.set_cons_succ, List.nil_append, List.cons_append, List.append_nil, Nat.reduceBNe, Nat.reduceSub, Nat.reduceLT, Nat.reduceLeDiff, decide_true, decide_false, Int.cast_ofNat_Int, again_norm, againN_some, trunc_m, lowA, lowLoc, again_ret, again_exit, beq_self_eq_true, Bool.cond_true_left, Bool.cond_false_right, Bool.cond_false_left, Bool.cond_true_right, ge_iff_le, gt_iff_lt, kindW, plainWork, ownsDst, calmOp, calm, calmC, calmP, immB, noLoc, noLocC, readsAt, plainK, freeOk, pairOk, rwOk, List.getD_cons_zero, List.getD_cons_succ, Op.operands, Bool.not_eq_true, Option.map_some, Option.map_none, Int.reduceBEq, Int.reduceLT, Int.reduceLE, Int.reduceNeg, Bool.decide_eq_true, Int.reduceBNe, pickOk_f, pickOk_x, pickOk_h, outTup, cond_nest_t, cond_nest_f, cond_same, newB, newC, flatB, flatI, flatS, binK, binI, bne, mapR_len, mapR_app, mapR_emp, mapR_sub, mapR_nil, byL_m, strL_m, allB_m, strL0, row_oneB, row_consB, row_oneI, row_consI, row_oneS, row_consS, set_B, set_I, set_S, rep_B, rep_I, seq_m, slt_m, str0, modS_0, modS_s, ↓evCode_seqI, ↓evCode_condI, ↓evCode_regionI, ↓evCode_drawI, thenI_normal, thenI_ret, thenI_exit, branchI_t, branchI_f, runI_nil, runI_cons, opsI_some, stepI_t, stepI_f, guardI_none, guardI_some, runK_nil, runK_cons, opsK_some, kindI_t, kindI_f, endK_some, drawI_nil, drawI_cons, pickOk, aliasCs, standB, tailOf, isSliceK, effOk, Sum.elim_inl, Sum.elim_inr, beq_true, beq_false, Bool.true_beq, Bool.false_beq, Call.operands, List.isEmpty_toArray, Array.toList_append, Option.toArray_some, Option.toArray_none, ty3, ty4, ty9, ty25, ty34, ty36])
/-! ### rostrumref.ItemFault -/
def n58 : Note where
  keep := fun i => match i with
    | 0 => [1]
    | 1 => [1, 12]
    | 2 => [2]
    | 3 => [1, 15]
    | 4 => [2]
    | 5 => [22]
    | 6 => [2]
    | 7 => [2]
    | _ => []
  ro := fun t => t == 1
  mv := fun _ => false
  give := fun _ => false
  free := fun _ => []
theorem n58k0 : n58.keep 0 = [1] := rfl
theorem n58k1 : n58.keep 1 = [1, 12] := rfl
theorem n58k2 : n58.keep 2 = [2] := rfl
theorem n58k3 : n58.keep 3 = [1, 15] := rfl
theorem n58k4 : n58.keep 4 = [2] := rfl
theorem n58k5 : n58.keep 5 = [22] := rfl
theorem n58k6 : n58.keep 6 = [2] := rfl
theorem n58k7 : n58.keep 7 = [2] := rfl
theorem n58ro (t : Nat) : n58.ro t = (t == 1) := rfl
theorem n58mv (t : Nat) : n58.mv t = (false) := rfl
theorem n58gv (t : Nat) : n58.give t = (false) := rfl
theorem res58 : Try.f58.results.toList = [.tmp 2] := rfl
noncomputable def b58 : Code := bodyOf Try.f58
set_option maxRecDepth 100000 in
set_option maxHeartbeats 40000000 in
theorem r_rostrumref_ItemFault (C : Oracle) (k_rostrumref_numberMay : K_rostrumref_numberMay C) (k_rostrumref_In : K_rostrumref_In C) (k_rostrumref_CallFault : K_rostrumref_CallFault C) (p0 : GItem) (r : Int) (hF : rostrumref_ItemFault p0 = some r) : evFn TT C.wide (evW TT C.wide n58 b58) n58 Try.f58.results.toList (bodyOf Try.f58) [.agg [.v (.i .i64 p0.fTerm), .v (.i .i64 p0.fTime), .v (.b p0.fNop), .v (.i .i64 p0.fCall.fClient), .v (.i .i64 p0.fCall.fSeq), .v (.i .i64 p0.fCall.fCommand.fKind), .v (.s p0.fCall.fCommand.fKey), .v (.s p0.fCall.fCommand.fField), .v (.s p0.fCall.fCommand.fText), .v (.i .i64 p0.fCall.fCommand.fN)]] [] = some (.v (.i .i64 r), []) := by
  unfold rostrumref_ItemFault at hF
  have g1 : C.wide 91 [.v (.i .i64 p0.fTerm)] [] = some (.v (.b (rostrumref_numberMay_v p0.fTerm)), []) := k_rostrumref_numberMay p0.fTerm _ (rostrumref_numberMay_t p0.fTerm)
  refine boolFT (rostrumref_numberMay_v p0.fTerm) ?_ ?_
  focus
    intro h1
    replace hF := condF h1 hF
    have hR := Option.some.inj hF
    clear hF
    subst hR
  rotate_left 1
  intro h1
  replace hF := condT h1 hF
  have g2 : C.wide 55 [.v (.i .i64 p0.fTime), .v (.i .i64 0), .v (.i .i64 1073741824)] [] = some (.v (.b (rostrumref_In_v p0.fTime 0 1073741824)), []) := k_rostrumref_In p0.fTime 0 1073741824 _ (rostrumref_In_t p0.fTime 0 1073741824)
  have g3 : rostrumref_In_v p0.fTime 0 1073741824 = (decide (0 ≤ p0.fTime) && decide (p0.fTime ≤ 1073741824)) := by first | rfl | (simp [rostrumref_In_v]; done) | (simp only [rostrumref_In_v]; decide)
  refine boolFT (decide (0 ≤ p0.fTime)) ?_ ?_
  focus
    intro h2
    replace hF := condF h2 hF
    have hR := Option.some.inj hF
    clear hF
    subst hR
  rotate_left 1
  intro h2
  replace hF := condT h2 hF
  refine boolFT (decide (p0.fTime ≤ 1073741824)) ?_ ?_
  focus
    intro h3
    replace hF := condF h3 hF
    have hR := Option.some.inj hF
    clear hF
    subst hR
  rotate_left 1
  intro h3
  replace hF := condT h3 hF
  refine boolFT p0.fNop ?_ ?_
  focus
    intro h4
    replace hF := condF h4 hF
    have g4 : C.wide 104 [.agg [.v (.i .i64 p0.fCall.fClient), .v (.i .i64 p0.fCall.fSeq), .v (.i .i64 p0.fCall.fCommand.fKind), .v (.s p0.fCall.fCommand.fKey), .v (.s p0.fCall.fCommand.fField), .v (.s p0.fCall.fCommand.fText), .v (.i .i64 p0.fCall.fCommand.fN)]] [] = some (.v (.i .i64 (rostrumref_CallFault_v p0.fCall)), []) := k_rostrumref_CallFault p0.fCall _ (rostrumref_CallFault_t p0.fCall)
    have hR := Option.some.inj hF
    clear hF
    subst hR
  rotate_left 1
  intro h4
  replace hF := condT h4 hF
  unfold rostrumref_ItemFault_c0 at hF
  refine boolFT (p0.fCall.fClient == 0) ?_ ?_
  focus
    intro h5
    replace hF := condF h5 hF
    have hR := Option.some.inj hF
    clear hF
    subst hR
  rotate_left 1
  intro h5
  replace hF := condT h5 hF
  refine boolFT (p0.fCall.fSeq == 0) ?_ ?_
  focus
    intro h6
    replace hF := condF h6 hF
    have hR := Option.some.inj hF
    clear hF
    subst hR
  rotate_left 1
  intro h6
  replace hF := condT h6 hF
  refine boolFT (p0.fCall.fCommand.fKind == 0) ?_ ?_
  focus
    intro h7
    replace hF := condF h7 hF
    have hR := Option.some.inj hF
    clear hF
    subst hR
  rotate_left 1
  intro h7
  replace hF := condT h7 hF
  refine boolFT (seqB p0.fCall.fCommand.fKey ByteArray.empty) ?_ ?_
  focus
    intro h8
    replace hF := condF h8 hF
    have hR := Option.some.inj hF
    clear hF
    subst hR
  rotate_left 1
  intro h8
  replace hF := condT h8 hF
  refine boolFT (seqB p0.fCall.fCommand.fField ByteArray.empty) ?_ ?_
  focus
    intro h9
    replace hF := condF h9 hF
    have hR := Option.some.inj hF
    clear hF
    subst hR
  rotate_left 1
  intro h9
  replace hF := condT h9 hF
  refine boolFT (seqB p0.fCall.fCommand.fText ByteArray.empty) ?_ ?_
  focus
    intro h10
    replace hF := condF h10 hF
    have hR := Option.some.inj hF
    clear hF
    subst hR
  rotate_left 1
  intro h10
  replace hF := condT h10 hF
  refine boolTF (p0.fCall.fCommand.fN == 0) ?_ ?_
  focus
    intro h11
    replace hF := condT h11 hF
    have hR := Option.some.inj hF
    clear hF
    subst hR
  rotate_left 1
  intro h11
  replace hF := condF h11 hF
  have hR := Option.some.inj hF
  clear hF
  subst hR
  all_goals (rw [evFn_finish]; show finish _ _ _ (evCode _ _ _ _ (Code.seq _ _) _) = _; simp (maxSteps := 4000000) only [*, res58, n58k0, n58k1, n58k2, n58k3, n58k4, n58k5, n58k6, n58k7, n58ro, n58mv, n58gv, ↓evCode_skip, ↓evCode_ret, ↓evCode_exit, ↓evCode_loop, ↓evCode_block_seq, ↓evCode_block_region, ↓evCode_block_cond, ↓evCode_block_block, ↓evCode_block_skip, ↓cond_true, ↓cond_false, enter, List.toList_toArray, Bool.false_and, cond_false, guardB, yieldedD, isWork, cond_true, workOk, workOp, Mx.force, opnd, Mx.look, Nat.reduceBEq, solid, Mx.fit, fitCs, fitC, List.isEmpty_cons, List.isEmpty_nil, Bool.false_or, Bool.or_false, Bool.true_or, Bool.or_true, Bool.and_true, Bool.true_and, Bool.and_false, Bool.not_true, Bool.not_false, Bool.not_not, Bool.or_not_self, Bool.not_or_self, Bool.and_self, Bool.or_self, toVs, cellsOf, toV, setReg_m, spend_m, hasOwn, ownFree, List.all_cons, List.all_nil, ownFreeC, Mx.put, ofConst, ofCell, after_some, Mx.prune, List.map_cons, List.map_nil, killB, killBs, unblock_normal, unblock_ret, unblock_exit, pureOp, putDst, offReg_m, callFails, isFuncCall, Option.isNone_none, Option.isNone_some, Option.isSome_none, Option.isSome_some, fieldOff, loadAt, partD, List.length_cons, List.length_nil, List.map, List.drop_succ_cons, List.drop_zero, List.take_succ_cons, List.take_zero, List.take_nil, List.drop_nil, List.getElem?_cons_zero, List.getElem?_cons_succ, List.getElem?_nil, Nat.reduceAdd, Nat.reduceMul, Nat.zero_add, Nat.add_zero, binD, binV, eqCells, eqC, lenD, sliceOf, ite_true, if_true, eq_self, reduceIte, reduceCtorEq, finish_ret, finish_normal, giveBack, resAll, resOne, outD, outOk, stayC, cellOk, valOk, lowC, lowP, forceAll, bound, asNat, elemIs, isStrK, sameInt, sliceD, kill, spendLoc, spendOk, setOwn, dropAl, dropAls, inReg, inObj, isCell, gone, List.contains_cons, List.contains_nil, List.elem_cons, List.elem_nil, lend, lendA, tracked, trackedA, noSlT, noSlV, bare, bareC, List.any_cons, List.any_nil, frz, frzC, frzReg_m, isGive, argE, argsE, isOwn, noOwn, fill, setCells, setVs, takeParts, rowsOf, inOrder, ownAt, List.set_cons_zero, List.set_cons_succ, List.nil_append, List.cons_append, List.append_nil, Nat.reduceBNe, Nat.reduceSub, Nat.reduceLT, Nat.reduceLeDiff, decide_true, decide_false, Int.cast_ofNat_Int, again_norm, againN_some, trunc_m, lowA, lowLoc, again_ret, again_exit, beq_self_eq_true, Bool.cond_true_left, Bool.cond_false_right, Bool.cond_false_left, Bool.cond_true_right, ge_iff_le, gt_iff_lt, kindW, plainWork, ownsDst, calmOp, calm, calmC, calmP, immB, noLoc, noLocC, readsAt, plainK, freeOk, pairOk, rwOk, List.getD_cons_zero, List.getD_cons_succ, Op.operands, Bool.not_eq_true, Option.map_some, Option.map_none, Int.reduceBEq, Int.reduceLT, Int.reduceLE, Int.reduceNeg, Bool.decide_eq_true, Int.reduceBNe, pickOk_f, pickOk_x, pickOk_h, outTup, cond_nest_t, cond_nest_f, cond_same, newB, newC, flatB, flatI, flatS, binK, binI, bne, mapR_len, mapR_app, mapR_emp, mapR_sub, mapR_nil, byL_m, strL_m, allB_m, strL0, row_oneB, row_consB, row_oneI, row_consI, row_oneS, row_consS, set_B, set_I, set_S, rep_B, rep_I, seq_m, slt_m, str0, modS_0, modS_s, ↓evCode_seqI, ↓evCode_condI, ↓evCode_regionI, ↓evCode_drawI, thenI_normal, thenI_ret, thenI_exit, branchI_t, branchI_f, runI_nil, runI_cons, opsI_some, stepI_t, stepI_f, guardI_none, guardI_some, runK_nil, runK_cons, opsK_some, kindI_t, kindI_f, endK_some, drawI_nil, drawI_cons, pickOk, aliasCs, standB, tailOf, isSliceK, effOk, Sum.elim_inl, Sum.elim_inr, beq_true, beq_false, Bool.true_beq, Bool.false_beq, Call.operands, List.isEmpty_toArray, Array.toList_append, Option.toArray_some, Option.toArray_none, ty3, ty4, ty9, ty25, ty34, ty36, ty38])
/-! ### rostrumref.eight -/
def n106 : Note where
  keep := fun i => match i with
    | 0 => [0]
    | 1 => [0, 3, 5]
    | 2 => [0, 3, 5]
    | 3 => [0, 3, 4, 5]
    | 4 => [0, 3, 4, 5, 9]
    | 5 => [0, 3, 4, 5]
    | 6 => [0, 3, 4, 5]
    | 7 => [0, 3, 4, 5]
    | 8 => [2, 3, 5, 20]
    | _ => []
  ro := fun _ => false
  mv := fun _ => false
  give := fun _ => false
  free := fun _ => []
theorem n106k0 : n106.keep 0 = [0] := rfl
theorem n106k1 : n106.keep 1 = [0, 3, 5] := rfl
theorem n106k2 : n106.keep 2 = [0, 3, 5] := rfl
theorem n106k3 : n106.keep 3 = [0, 3, 4, 5] := rfl
theorem n106k4 : n106.keep 4 = [0, 3, 4, 5, 9] := rfl
theorem n106k5 : n106.keep 5 = [0, 3, 4, 5] := rfl
theorem n106k6 : n106.keep 6 = [0, 3, 4, 5] := rfl
theorem n106k7 : n106.keep 7 = [0, 3, 4, 5] := rfl
theorem n106k8 : n106.keep 8 = [2, 3, 5, 20] := rfl
theorem n106ro (t : Nat) : n106.ro t = (false) := rfl
theorem n106mv (t : Nat) : n106.mv t = (false) := rfl
theorem n106gv (t : Nat) : n106.give t = (false) := rfl
theorem res106 : Try.f106.results.toList = [.tmp 2] := rfl
noncomputable def b106 : Code := bodyOf Try.f106
noncomputable def c106_0 : Code := (findLoop 0 (bodyOf Try.f106)).getD .skip
theorem fl106_0 : findLoop 0 b106 = some c106_0 := rfl
def hd_rostrumref_eight_0  (s : Int × (List Int) × Int) : St := ⟨[(0, .v (.i .i64 s.1)), (3, .own 1 (mapR rowB s.2.1)), (4, .v (.i .i64 s.2.2)), (5, .bad)], []⟩
def ou_rostrumref_eight_0  (r : Int × (List Int) × Int × Bool) : Option (Ex × St) := some (.normal, ⟨[(0, .v (.i .i64 r.1)), (3, .own 1 (mapR rowB r.2.1)), (4, .v (.i .i64 r.2.2.1)), (5, .bad), (9, .v (.b r.2.2.2))], []⟩)
set_option maxRecDepth 100000 in
set_option maxHeartbeats 40000000 in
theorem sl_rostrumref_eight_0 (C : Oracle)   (s : Int × (List Int) × Int) (o : (Int × (List Int) × Int) ⊕ (Int × (List Int) × Int × Bool)) (hF : st_rostrumref_eight_0  s = some o) : evW TT C.wide n106 b106 0 (hd_rostrumref_eight_0  s) = Sum.elim (fun s => evW TT C.wide n106 b106 0 (hd_rostrumref_eight_0  s)) (fun r => ou_rostrumref_eight_0  r) o := by
  obtain ⟨p0, p1, p2⟩ := s
  unfold st_rostrumref_eight_0 at hF
  try dsimp only at hF
  rw [evW_step TT n106 fl106_0]
  refine boolFT (decide (0 ≤ p2)) ?_ ?_
  focus
    intro h1
    replace hF := condF h1 hF
    have hR := Option.some.inj hF
    clear hF
    subst hR
  rotate_left 1
  intro h1
  replace hF := condT h1 hF
  refine boolFT (ltB p2 (p1.length : Int)) ?_ ?_
  focus
    intro h2
    replace hF := condF h2 hF
    cases hF
  intro h2
  replace hF := condT h2 hF
  revert hF
  cases h3 : idx p1 p2
  focus
    intro hF
    cases hF
  rename_i x1
  intro hF
  try dsimp only at hF
  have g1 : decide (0 ≤ p2) = true := (idx_some h3).1
  have g2 : (mapR rowB p1)[(p2 : Int).toNat]? = some [.i .u8 x1] := idx_mapR _ h3
  have hR := Option.some.inj hF
  clear hF
  subst hR
  all_goals (show again _ _ _ (evCode _ _ _ _ (Code.seq _ _) _) = _; simp (maxSteps := 4000000) only [*, hd_rostrumref_eight_0, ou_rostrumref_eight_0, res106, n106k0, n106k1, n106k2, n106k3, n106k4, n106k5, n106k6, n106k7, n106k8, n106ro, n106mv, n106gv, ↓evCode_skip, ↓evCode_ret, ↓evCode_exit, ↓evCode_loop, ↓evCode_block_seq, ↓evCode_block_region, ↓evCode_block_cond, ↓evCode_block_block, ↓evCode_block_skip, ↓cond_true, ↓cond_false, enter, List.toList_toArray, Bool.false_and, cond_false, guardB, yieldedD, isWork, cond_true, workOk, workOp, Mx.force, opnd, Mx.look, Nat.reduceBEq, solid, Mx.fit, fitCs, fitC, List.isEmpty_cons, List.isEmpty_nil, Bool.false_or, Bool.or_false, Bool.true_or, Bool.or_true, Bool.and_true, Bool.true_and, Bool.and_false, Bool.not_true, Bool.not_false, Bool.not_not, Bool.or_not_self, Bool.not_or_self, Bool.and_self, Bool.or_self, toVs, cellsOf, toV, setReg_m, spend_m, hasOwn, ownFree, List.all_cons, List.all_nil, ownFreeC, Mx.put, ofConst, ofCell, after_some, Mx.prune, List.map_cons, List.map_nil, killB, killBs, unblock_normal, unblock_ret, unblock_exit, pureOp, putDst, offReg_m, callFails, isFuncCall, Option.isNone_none, Option.isNone_some, Option.isSome_none, Option.isSome_some, fieldOff, loadAt, partD, List.length_cons, List.length_nil, List.map, List.drop_succ_cons, List.drop_zero, List.take_succ_cons, List.take_zero, List.take_nil, List.drop_nil, List.getElem?_cons_zero, List.getElem?_cons_succ, List.getElem?_nil, Nat.reduceAdd, Nat.reduceMul, Nat.zero_add, Nat.add_zero, binD, binV, eqCells, eqC, lenD, sliceOf, ite_true, if_true, eq_self, reduceIte, reduceCtorEq, finish_ret, finish_normal, giveBack, resAll, resOne, outD, outOk, stayC, cellOk, valOk, lowC, lowP, forceAll, bound, asNat, elemIs, isStrK, sameInt, sliceD, kill, spendLoc, spendOk, setOwn, dropAl, dropAls, inReg, inObj, isCell, gone, List.contains_cons, List.contains_nil, List.elem_cons, List.elem_nil, lend, lendA, tracked, trackedA, noSlT, noSlV, bare, bareC, List.any_cons, List.any_nil, frz, frzC, frzReg_m, isGive, argE, argsE, isOwn, noOwn, fill, setCells, setVs, takeParts, rowsOf, inOrder, ownAt, List.set_cons_zero, List.set_cons_succ, List.nil_append, List.cons_append, List.append_nil, Nat.reduceBNe, Nat.reduceSub, Nat.reduceLT, Nat.reduceLeDiff, decide_true, decide_false, Int.cast_ofNat_Int, again_norm, againN_some, trunc_m, lowA, lowLoc, again_ret, again_exit, beq_self_eq_true, Bool.cond_true_left, Bool.cond_false_right, Bool.cond_false_left, Bool.cond_true_right, ge_iff_le, gt_iff_lt, kindW, plainWork, ownsDst, calmOp, calm, calmC, calmP, immB, noLoc, noLocC, readsAt, plainK, freeOk, pairOk, rwOk, List.getD_cons_zero, List.getD_cons_succ, Op.operands, Bool.not_eq_true, Option.map_some, Option.map_none, Int.reduceBEq, Int.reduceLT, Int.reduceLE, Int.reduceNeg, Bool.decide_eq_true, Int.reduceBNe, pickOk_f, pickOk_x, pickOk_h, outTup, cond_nest_t, cond_nest_f, cond_same, newB, newC, flatB, flatI, flatS, binK, binI, bne, mapR_len, mapR_app, mapR_emp, mapR_sub, mapR_nil, byL_m, strL_m, allB_m, strL0, row_oneB, row_consB, row_oneI, row_consI, row_oneS, row_consS, set_B, set_I, set_S, rep_B, rep_I, seq_m, slt_m, str0, modS_0, modS_s, ↓evCode_seqI, ↓evCode_condI, ↓evCode_regionI, ↓evCode_drawI, thenI_normal, thenI_ret, thenI_exit, branchI_t, branchI_f, runI_nil, runI_cons, opsI_some, stepI_t, stepI_f, guardI_none, guardI_some, runK_nil, runK_cons, opsK_some, kindI_t, kindI_f, endK_some, drawI_nil, drawI_cons, pickOk, aliasCs, standB, tailOf, isSliceK, effOk, Sum.elim_inl, Sum.elim_inr, beq_true, beq_false, Bool.true_beq, Bool.false_beq, Call.operands, List.isEmpty_toArray, Array.toList_append, Option.toArray_some, Option.toArray_none, ty3, ty4, ty5, ty39])
set_option maxRecDepth 100000 in
set_option maxHeartbeats 40000000 in
theorem r_rostrumref_eight (C : Oracle)  (p0 : Int) (r : (List Int)) (hF : rostrumref_eight p0 = some r) : evFn TT C.wide (evW TT C.wide n106 b106) n106 Try.f106.results.toList (bodyOf Try.f106) [.v (.i .i64 p0)] [] = some (.own 1 (mapR rowB r), []) := by
  unfold rostrumref_eight at hF
  have g1 : makeB 8 1 = true := by decide
  revert hF
  cases h1 : loopM (st_rostrumref_eight_0) ((IntKind.i64.wrap (p0 + 4611686018427387904)), (List.replicate (8 : Int).toNat 0), 7)
  focus
    intro hF
    cases hF
  rename_i qh1
  obtain ⟨x1, x2, x3, x4⟩ := qh1
  intro hF
  try dsimp only at hF
  have g2 : evW TT C.wide n106 b106 0 ⟨[(0, .v (.i .i64 (IntKind.i64.wrap (p0 + 4611686018427387904)))), (3, .own 1 (mapR rowB (List.replicate (8 : Int).toNat 0))), (4, .v (.i .i64 7)), (5, .bad)], []⟩ = some (.normal, ⟨[(0, .v (.i .i64 x1)), (3, .own 1 (mapR rowB x2)), (4, .v (.i .i64 x3)), (5, .bad), (9, .v (.b x4))], []⟩) := loopW (hd_rostrumref_eight_0) (ou_rostrumref_eight_0) (fun s o hs => sl_rostrumref_eight_0 C s o hs) h1
  have hR := Option.some.inj hF
  clear hF
  subst hR
  all_goals (rw [evFn_finish]; show finish _ _ _ (evCode _ _ _ _ (Code.seq _ _) _) = _; simp (maxSteps := 4000000) only [*, res106, n106k0, n106k1, n106k2, n106k3, n106k4, n106k5, n106k6, n106k7, n106k8, n106ro, n106mv, n106gv, ↓evCode_skip, ↓evCode_ret, ↓evCode_exit, ↓evCode_loop, ↓evCode_block_seq, ↓evCode_block_region, ↓evCode_block_cond, ↓evCode_block_block, ↓evCode_block_skip, ↓cond_true, ↓cond_false, enter, List.toList_toArray, Bool.false_and, cond_false, guardB, yieldedD, isWork, cond_true, workOk, workOp, Mx.force, opnd, Mx.look, Nat.reduceBEq, solid, Mx.fit, fitCs, fitC, List.isEmpty_cons, List.isEmpty_nil, Bool.false_or, Bool.or_false, Bool.true_or, Bool.or_true, Bool.and_true, Bool.true_and, Bool.and_false, Bool.not_true, Bool.not_false, Bool.not_not, Bool.or_not_self, Bool.not_or_self, Bool.and_self, Bool.or_self, toVs, cellsOf, toV, setReg_m, spend_m, hasOwn, ownFree, List.all_cons, List.all_nil, ownFreeC, Mx.put, ofConst, ofCell, after_some, Mx.prune, List.map_cons, List.map_nil, killB, killBs, unblock_normal, unblock_ret, unblock_exit, pureOp, putDst, offReg_m, callFails, isFuncCall, Option.isNone_none, Option.isNone_some, Option.isSome_none, Option.isSome_some, fieldOff, loadAt, partD, List.length_cons, List.length_nil, List.map, List.drop_succ_cons, List.drop_zero, List.take_succ_cons, List.take_zero, List.take_nil, List.drop_nil, List.getElem?_cons_zero, List.getElem?_cons_succ, List.getElem?_nil, Nat.reduceAdd, Nat.reduceMul, Nat.zero_add, Nat.add_zero, binD, binV, eqCells, eqC, lenD, sliceOf, ite_true, if_true, eq_self, reduceIte, reduceCtorEq, finish_ret, finish_normal, giveBack, resAll, resOne, outD, outOk, stayC, cellOk, valOk, lowC, lowP, forceAll, bound, asNat, elemIs, isStrK, sameInt, sliceD, kill, spendLoc, spendOk, setOwn, dropAl, dropAls, inReg, inObj, isCell, gone, List.contains_cons, List.contains_nil, List.elem_cons, List.elem_nil, lend, lendA, tracked, trackedA, noSlT, noSlV, bare, bareC, List.any_cons, List.any_nil, frz, frzC, frzReg_m, isGive, argE, argsE, isOwn, noOwn, fill, setCells, setVs, takeParts, rowsOf, inOrder, ownAt, List.set_cons_zero, List.set_cons_succ, List.nil_append, List.cons_append, List.append_nil, Nat.reduceBNe, Nat.reduceSub, Nat.reduceLT, Nat.reduceLeDiff, decide_true, decide_false, Int.cast_ofNat_Int, again_norm, againN_some, trunc_m, lowA, lowLoc, again_ret, again_exit, beq_self_eq_true, Bool.cond_true_left, Bool.cond_false_right, Bool.cond_false_left, Bool.cond_true_right, ge_iff_le, gt_iff_lt, kindW, plainWork, ownsDst, calmOp, calm, calmC, calmP, immB, noLoc, noLocC, readsAt, plainK, freeOk, pairOk, rwOk, List.getD_cons_zero, List.getD_cons_succ, Op.operands, Bool.not_eq_true, Option.map_some, Option.map_none, Int.reduceBEq, Int.reduceLT, Int.reduceLE, Int.reduceNeg, Bool.decide_eq_true, Int.reduceBNe, pickOk_f, pickOk_x, pickOk_h, outTup, cond_nest_t, cond_nest_f, cond_same, newB, newC, flatB, flatI, flatS, binK, binI, bne, mapR_len, mapR_app, mapR_emp, mapR_sub, mapR_nil, byL_m, strL_m, allB_m, strL0, row_oneB, row_consB, row_oneI, row_consI, row_oneS, row_consS, set_B, set_I, set_S, rep_B, rep_I, seq_m, slt_m, str0, modS_0, modS_s, ↓evCode_seqI, ↓evCode_condI, ↓evCode_regionI, ↓evCode_drawI, thenI_normal, thenI_ret, thenI_exit, branchI_t, branchI_f, runI_nil, runI_cons, opsI_some, stepI_t, stepI_f, guardI_none, guardI_some, runK_nil, runK_cons, opsK_some, kindI_t, kindI_f, endK_some, drawI_nil, drawI_cons, pickOk, aliasCs, standB, tailOf, isSliceK, effOk, Sum.elim_inl, Sum.elim_inr, beq_true, beq_false, Bool.true_beq, Bool.false_beq, Call.operands, List.isEmpty_toArray, Array.toList_append, Option.toArray_some, Option.toArray_none, ty3, ty4, ty5, ty39])
/-! ### rostrumref.joined -/
def n105 : Note where
  keep := fun i => match i with
    | 0 => [0, 1]
    | 1 => [0, 1, 5, 20, 33]
    | 2 => [0, 1, 5, 6, 20, 33]
    | 3 => [0, 1, 5, 6, 11, 20, 33]
    | 4 => [0, 1, 5, 6, 20, 33]
    | 5 => [0, 1, 5, 6, 20, 33]
    | 6 => [1, 5, 7, 20, 33]
    | 7 => [1, 5, 7, 20, 24, 33]
    | 8 => [1, 5, 7, 20, 33]
    | 9 => [1, 5, 7, 20, 33]
    | 10 => [4, 5, 20, 33, 34]
    | _ => []
  ro := fun _ => false
  mv := fun _ => false
  give := fun _ => false
  free := fun _ => []
theorem n105k0 : n105.keep 0 = [0, 1] := rfl
theorem n105k1 : n105.keep 1 = [0, 1, 5, 20, 33] := rfl
theorem n105k2 : n105.keep 2 = [0, 1, 5, 6, 20, 33] := rfl
theorem n105k3 : n105.keep 3 = [0, 1, 5, 6, 11, 20, 33] := rfl
theorem n105k4 : n105.keep 4 = [0, 1, 5, 6, 20, 33] := rfl
theorem n105k5 : n105.keep 5 = [0, 1, 5, 6, 20, 33] := rfl
theorem n105k6 : n105.keep 6 = [1, 5, 7, 20, 33] := rfl
theorem n105k7 : n105.keep 7 = [1, 5, 7, 20, 24, 33] := rfl
theorem n105k8 : n105.keep 8 = [1, 5, 7, 20, 33] := rfl
theorem n105k9 : n105.keep 9 = [1, 5, 7, 20, 33] := rfl
theorem n105k10 : n105.keep 10 = [4, 5, 20, 33, 34] := rfl
theorem n105ro (t : Nat) : n105.ro t = (false) := rfl
theorem n105mv (t : Nat) : n105.mv t = (false) := rfl
theorem n105gv (t : Nat) : n105.give t = (false) := rfl
theorem res105 : Try.f105.results.toList = [.tmp 4] := rfl
noncomputable def b105 : Code := bodyOf Try.f105
noncomputable def c105_0 : Code := (findLoop 0 (bodyOf Try.f105)).getD .skip
theorem fl105_0 : findLoop 0 b105 = some c105_0 := rfl
noncomputable def c105_2 : Code := (findLoop 2 (bodyOf Try.f105)).getD .skip
theorem fl105_2 : findLoop 2 b105 = some c105_2 := rfl
def hd_rostrumref_joined_0 (p0 : List Int) (p1 : List Int) (s : (List Int) × Int) : St := ⟨[(0, .v (.sl 1 (mapR rowB p0))), (1, .v (.sl 1 (mapR rowB p1))), (5, .own 1 (mapR rowB s.1)), (6, .v (.i .i64 s.2)), (20, .bad), (33, .bad)], []⟩
def ou_rostrumref_joined_0 (p0 : List Int) (p1 : List Int) (r : (List Int) × Int × Bool) : Option (Ex × St) := some (.normal, ⟨[(0, .v (.sl 1 (mapR rowB p0))), (1, .v (.sl 1 (mapR rowB p1))), (5, .own 1 (mapR rowB r.1)), (6, .v (.i .i64 r.2.1)), (11, .v (.b r.2.2)), (20, .bad), (33, .bad)], []⟩)
set_option maxRecDepth 100000 in
set_option maxHeartbeats 40000000 in
theorem sl_rostrumref_joined_0 (C : Oracle)  (p0 : List Int) (p1 : List Int) (s : (List Int) × Int) (o : ((List Int) × Int) ⊕ ((List Int) × Int × Bool)) (hF : st_rostrumref_joined_0 p0 p1 s = some o) : evW TT C.wide n105 b105 0 (hd_rostrumref_joined_0 p0 p1 s) = Sum.elim (fun s => evW TT C.wide n105 b105 0 (hd_rostrumref_joined_0 p0 p1 s)) (fun r => ou_rostrumref_joined_0 p0 p1 r) o := by
  obtain ⟨p2, p3⟩ := s
  unfold st_rostrumref_joined_0 at hF
  try dsimp only at hF
  rw [evW_step TT n105 fl105_0]
  refine boolFT (decide (p3 < (p0.length : Int))) ?_ ?_
  focus
    intro h1
    replace hF := condF h1 hF
    have hR := Option.some.inj hF
    clear hF
    subst hR
  rotate_left 1
  intro h1
  replace hF := condT h1 hF
  revert hF
  cases h2 : idx p0 p3
  focus
    intro hF
    cases hF
  rename_i x1
  intro hF
  try dsimp only at hF
  have g1 : decide (0 ≤ p3) = true := (idx_some h2).1
  have g2 : (mapR rowB p0)[(p3 : Int).toNat]? = some [.i .u8 x1] := idx_mapR _ h2
  refine boolTF (fitsB (p2.length + 1) 1) ?_ ?_
  focus
    intro h3
    replace hF := condT h3 hF
    have hR := Option.some.inj hF
    clear hF
    subst hR
  rotate_left 1
  intro h3
  replace hF := condF h3 hF
  cases hF
  all_goals (show again _ _ _ (evCode _ _ _ _ (Code.seq _ _) _) = _; simp (maxSteps := 4000000) only [*, hd_rostrumref_joined_0, ou_rostrumref_joined_0, res105, n105k0, n105k1, n105k2, n105k3, n105k4, n105k5, n105k6, n105k7, n105k8, n105k9, n105k10, n105ro, n105mv, n105gv, ↓evCode_skip, ↓evCode_ret, ↓evCode_exit, ↓evCode_loop, ↓evCode_block_seq, ↓evCode_block_region, ↓evCode_block_cond, ↓evCode_block_block, ↓evCode_block_skip, ↓cond_true, ↓cond_false, enter, List.toList_toArray, Bool.false_and, cond_false, guardB, yieldedD, isWork, cond_true, workOk, workOp, Mx.force, opnd, Mx.look, Nat.reduceBEq, solid, Mx.fit, fitCs, fitC, List.isEmpty_cons, List.isEmpty_nil, Bool.false_or, Bool.or_false, Bool.true_or, Bool.or_true, Bool.and_true, Bool.true_and, Bool.and_false, Bool.not_true, Bool.not_false, Bool.not_not, Bool.or_not_self, Bool.not_or_self, Bool.and_self, Bool.or_self, toVs, cellsOf, toV, setReg_m, spend_m, hasOwn, ownFree, List.all_cons, List.all_nil, ownFreeC, Mx.put, ofConst, ofCell, after_some, Mx.prune, List.map_cons, List.map_nil, killB, killBs, unblock_normal, unblock_ret, unblock_exit, pureOp, putDst, offReg_m, callFails, isFuncCall, Option.isNone_none, Option.isNone_some, Option.isSome_none, Option.isSome_some, fieldOff, loadAt, partD, List.length_cons, List.length_nil, List.map, List.drop_succ_cons, List.drop_zero, List.take_succ_cons, List.take_zero, List.take_nil, List.drop_nil, List.getElem?_cons_zero, List.getElem?_cons_succ, List.getElem?_nil, Nat.reduceAdd, Nat.reduceMul, Nat.zero_add, Nat.add_zero, binD, binV, eqCells, eqC, lenD, sliceOf, ite_true, if_true, eq_self, reduceIte, reduceCtorEq, finish_ret, finish_normal, giveBack, resAll, resOne, outD, outOk, stayC, cellOk, valOk, lowC, lowP, forceAll, bound, asNat, elemIs, isStrK, sameInt, sliceD, kill, spendLoc, spendOk, setOwn, dropAl, dropAls, inReg, inObj, isCell, gone, List.contains_cons, List.contains_nil, List.elem_cons, List.elem_nil, lend, lendA, tracked, trackedA, noSlT, noSlV, bare, bareC, List.any_cons, List.any_nil, frz, frzC, frzReg_m, isGive, argE, argsE, isOwn, noOwn, fill, setCells, setVs, takeParts, rowsOf, inOrder, ownAt, List.set_cons_zero, List.set_cons_succ, List.nil_append, List.cons_append, List.append_nil, Nat.reduceBNe, Nat.reduceSub, Nat.reduceLT, Nat.reduceLeDiff, decide_true, decide_false, Int.cast_ofNat_Int, again_norm, againN_some, trunc_m, lowA, lowLoc, again_ret, again_exit, beq_self_eq_true, Bool.cond_true_left, Bool.cond_false_right, Bool.cond_false_left, Bool.cond_true_right, ge_iff_le, gt_iff_lt, kindW, plainWork, ownsDst, calmOp, calm, calmC, calmP, immB, noLoc, noLocC, readsAt, plainK, freeOk, pairOk, rwOk, List.getD_cons_zero, List.getD_cons_succ, Op.operands, Bool.not_eq_true, Option.map_some, Option.map_none, Int.reduceBEq, Int.reduceLT, Int.reduceLE, Int.reduceNeg, Bool.decide_eq_true, Int.reduceBNe, pickOk_f, pickOk_x, pickOk_h, outTup, cond_nest_t, cond_nest_f, cond_same, newB, newC, flatB, flatI, flatS, binK, binI, bne, mapR_len, mapR_app, mapR_emp, mapR_sub, mapR_nil, byL_m, strL_m, allB_m, strL0, row_oneB, row_consB, row_oneI, row_consI, row_oneS, row_consS, set_B, set_I, set_S, rep_B, rep_I, seq_m, slt_m, str0, modS_0, modS_s, ↓evCode_seqI, ↓evCode_condI, ↓evCode_regionI, ↓evCode_drawI, thenI_normal, thenI_ret, thenI_exit, branchI_t, branchI_f, runI_nil, runI_cons, opsI_some, stepI_t, stepI_f, guardI_none, guardI_some, runK_nil, runK_cons, opsK_some, kindI_t, kindI_f, endK_some, drawI_nil, drawI_cons, pickOk, aliasCs, standB, tailOf, isSliceK, effOk, Sum.elim_inl, Sum.elim_inr, beq_true, beq_false, Bool.true_beq, Bool.false_beq, Call.operands, List.isEmpty_toArray, Array.toList_append, Option.toArray_some, Option.toArray_none, ty3, ty4, ty5, ty39])
def hd_rostrumref_joined_2 (p0 : List Int) (s : (List Int) × Int) : St := ⟨[(1, .v (.sl 1 (mapR rowB p0))), (5, .own 1 (mapR rowB s.1)), (7, .v (.i .i64 s.2)), (20, .bad), (33, .bad)], []⟩
def ou_rostrumref_joined_2 (p0 : List Int) (r : (List Int) × Int × Bool) : Option (Ex × St) := some (.normal, ⟨[(1, .v (.sl 1 (mapR rowB p0))), (5, .own 1 (mapR rowB r.1)), (7, .v (.i .i64 r.2.1)), (20, .bad), (24, .v (.b r.2.2)), (33, .bad)], []⟩)
set_option maxRecDepth 100000 in
set_option maxHeartbeats 40000000 in
theorem sl_rostrumref_joined_2 (C : Oracle)  (p0 : List Int) (s : (List Int) × Int) (o : ((List Int) × Int) ⊕ ((List Int) × Int × Bool)) (hF : st_rostrumref_joined_2 p0 s = some o) : evW TT C.wide n105 b105 2 (hd_rostrumref_joined_2 p0 s) = Sum.elim (fun s => evW TT C.wide n105 b105 2 (hd_rostrumref_joined_2 p0 s)) (fun r => ou_rostrumref_joined_2 p0 r) o := by
  obtain ⟨p1, p2⟩ := s
  unfold st_rostrumref_joined_2 at hF
  try dsimp only at hF
  rw [evW_step TT n105 fl105_2]
  refine boolFT (decide (p2 < (p0.length : Int))) ?_ ?_
  focus
    intro h1
    replace hF := condF h1 hF
    have hR := Option.some.inj hF
    clear hF
    subst hR
  rotate_left 1
  intro h1
  replace hF := condT h1 hF
  revert hF
  cases h2 : idx p0 p2
  focus
    intro hF
    cases hF
  rename_i x1
  intro hF
  try dsimp only at hF
  have g1 : decide (0 ≤ p2) = true := (idx_some h2).1
  have g2 : (mapR rowB p0)[(p2 : Int).toNat]? = some [.i .u8 x1] := idx_mapR _ h2
  refine boolTF (fitsB (p1.length + 1) 1) ?_ ?_
  focus
    intro h3
    replace hF := condT h3 hF
    have hR := Option.some.inj hF
    clear hF
    subst hR
  rotate_left 1
  intro h3
  replace hF := condF h3 hF
  cases hF
  all_goals (show again _ _ _ (evCode _ _ _ _ (Code.seq _ _) _) = _; simp (maxSteps := 4000000) only [*, hd_rostrumref_joined_2, ou_rostrumref_joined_2, res105, n105k0, n105k1, n105k2, n105k3, n105k4, n105k5, n105k6, n105k7, n105k8, n105k9, n105k10, n105ro, n105mv, n105gv, ↓evCode_skip, ↓evCode_ret, ↓evCode_exit, ↓evCode_loop, ↓evCode_block_seq, ↓evCode_block_region, ↓evCode_block_cond, ↓evCode_block_block, ↓evCode_block_skip, ↓cond_true, ↓cond_false, enter, List.toList_toArray, Bool.false_and, cond_false, guardB, yieldedD, isWork, cond_true, workOk, workOp, Mx.force, opnd, Mx.look, Nat.reduceBEq, solid, Mx.fit, fitCs, fitC, List.isEmpty_cons, List.isEmpty_nil, Bool.false_or, Bool.or_false, Bool.true_or, Bool.or_true, Bool.and_true, Bool.true_and, Bool.and_false, Bool.not_true, Bool.not_false, Bool.not_not, Bool.or_not_self, Bool.not_or_self, Bool.and_self, Bool.or_self, toVs, cellsOf, toV, setReg_m, spend_m, hasOwn, ownFree, List.all_cons, List.all_nil, ownFreeC, Mx.put, ofConst, ofCell, after_some, Mx.prune, List.map_cons, List.map_nil, killB, killBs, unblock_normal, unblock_ret, unblock_exit, pureOp, putDst, offReg_m, callFails, isFuncCall, Option.isNone_none, Option.isNone_some, Option.isSome_none, Option.isSome_some, fieldOff, loadAt, partD, List.length_cons, List.length_nil, List.map, List.drop_succ_cons, List.drop_zero, List.take_succ_cons, List.take_zero, List.take_nil, List.drop_nil, List.getElem?_cons_zero, List.getElem?_cons_succ, List.getElem?_nil, Nat.reduceAdd, Nat.reduceMul, Nat.zero_add, Nat.add_zero, binD, binV, eqCells, eqC, lenD, sliceOf, ite_true, if_true, eq_self, reduceIte, reduceCtorEq, finish_ret, finish_normal, giveBack, resAll, resOne, outD, outOk, stayC, cellOk, valOk, lowC, lowP, forceAll, bound, asNat, elemIs, isStrK, sameInt, sliceD, kill, spendLoc, spendOk, setOwn, dropAl, dropAls, inReg, inObj, isCell, gone, List.contains_cons, List.contains_nil, List.elem_cons, List.elem_nil, lend, lendA, tracked, trackedA, noSlT, noSlV, bare, bareC, List.any_cons, List.any_nil, frz, frzC, frzReg_m, isGive, argE, argsE, isOwn, noOwn, fill, setCells, setVs, takeParts, rowsOf, inOrder, ownAt, List.set_cons_zero, List.set_cons_succ, List.nil_append, List.cons_append, List.append_nil, Nat.reduceBNe, Nat.reduceSub, Nat.reduceLT, Nat.reduceLeDiff, decide_true, decide_false, Int.cast_ofNat_Int, again_norm, againN_some, trunc_m, lowA, lowLoc, again_ret, again_exit, beq_self_eq_true, Bool.cond_true_left, Bool.cond_false_right, Bool.cond_false_left, Bool.cond_true_right, ge_iff_le, gt_iff_lt, kindW, plainWork, ownsDst, calmOp, calm, calmC, calmP, immB, noLoc, noLocC, readsAt, plainK, freeOk, pairOk, rwOk, List.getD_cons_zero, List.getD_cons_succ, Op.operands, Bool.not_eq_true, Option.map_some, Option.map_none, Int.reduceBEq, Int.reduceLT, Int.reduceLE, Int.reduceNeg, Bool.decide_eq_true, Int.reduceBNe, pickOk_f, pickOk_x, pickOk_h, outTup, cond_nest_t, cond_nest_f, cond_same, newB, newC, flatB, flatI, flatS, binK, binI, bne, mapR_len, mapR_app, mapR_emp, mapR_sub, mapR_nil, byL_m, strL_m, allB_m, strL0, row_oneB, row_consB, row_oneI, row_consI, row_oneS, row_consS, set_B, set_I, set_S, rep_B, rep_I, seq_m, slt_m, str0, modS_0, modS_s, ↓evCode_seqI, ↓evCode_condI, ↓evCode_regionI, ↓evCode_drawI, thenI_normal, thenI_ret, thenI_exit, branchI_t, branchI_f, runI_nil, runI_cons, opsI_some, stepI_t, stepI_f, guardI_none, guardI_some, runK_nil, runK_cons, opsK_some, kindI_t, kindI_f, endK_some, drawI_nil, drawI_cons, pickOk, aliasCs, standB, tailOf, isSliceK, effOk, Sum.elim_inl, Sum.elim_inr, beq_true, beq_false, Bool.true_beq, Bool.false_beq, Call.operands, List.isEmpty_toArray, Array.toList_append, Option.toArray_some, Option.toArray_none, ty3, ty4, ty5, ty39])
set_option maxRecDepth 100000 in
set_option maxHeartbeats 40000000 in
theorem r_rostrumref_joined (C : Oracle)  (p0 : List Int) (p1 : List Int) (r : (List Int)) (hF : rostrumref_joined p0 p1 = some r) : evFn TT C.wide (evW TT C.wide n105 b105) n105 Try.f105.results.toList (bodyOf Try.f105) [.v (.sl 1 (mapR rowB p0)), .v (.sl 1 (mapR rowB p1))] [] = some (.own 1 (mapR rowB r), []) := by
  unfold rostrumref_joined at hF
  revert hF
  cases h1 : loopM (st_rostrumref_joined_0 p0 p1) ([], 0)
  focus
    intro hF
    cases hF
  rename_i qh1
  obtain ⟨x1, x2, x3⟩ := qh1
  intro hF
  try dsimp only at hF
  have g1 : evW TT C.wide n105 b105 0 ⟨[(0, .v (.sl 1 (mapR rowB p0))), (1, .v (.sl 1 (mapR rowB p1))), (5, .own 1 []), (6, .v (.i .i64 0)), (20, .bad), (33, .bad)], []⟩ = some (.normal, ⟨[(0, .v (.sl 1 (mapR rowB p0))), (1, .v (.sl 1 (mapR rowB p1))), (5, .own 1 (mapR rowB x1)), (6, .v (.i .i64 x2)), (11, .v (.b x3)), (20, .bad), (33, .bad)], []⟩) := loopW (hd_rostrumref_joined_0 p0 p1) (ou_rostrumref_joined_0 p0 p1) (fun s o hs => sl_rostrumref_joined_0 C p0 p1 s o hs) h1
  revert hF
  cases h2 : loopM (st_rostrumref_joined_2 p1) (x1, 0)
  focus
    intro hF
    cases hF
  rename_i qh2
  obtain ⟨x4, x5, x6⟩ := qh2
  intro hF
  try dsimp only at hF
  have g2 : evW TT C.wide n105 b105 2 ⟨[(1, .v (.sl 1 (mapR rowB p1))), (5, .own 1 (mapR rowB x1)), (7, .v (.i .i64 0)), (20, .bad), (33, .bad)], []⟩ = some (.normal, ⟨[(1, .v (.sl 1 (mapR rowB p1))), (5, .own 1 (mapR rowB x4)), (7, .v (.i .i64 x5)), (20, .bad), (24, .v (.b x6)), (33, .bad)], []⟩) := loopW (hd_rostrumref_joined_2 p1) (ou_rostrumref_joined_2 p1) (fun s o hs => sl_rostrumref_joined_2 C p1 s o hs) h2
  have hR := Option.some.inj hF
  clear hF
  subst hR
  all_goals (rw [evFn_finish]; show finish _ _ _ (evCode _ _ _ _ (Code.seq _ _) _) = _; simp (maxSteps := 4000000) only [*, res105, n105k0, n105k1, n105k2, n105k3, n105k4, n105k5, n105k6, n105k7, n105k8, n105k9, n105k10, n105ro, n105mv, n105gv, ↓evCode_skip, ↓evCode_ret, ↓evCode_exit, ↓evCode_loop, ↓evCode_block_seq, ↓evCode_block_region, ↓evCode_block_cond, ↓evCode_block_block, ↓evCode_block_skip, ↓cond_true, ↓cond_false, enter, List.toList_toArray, Bool.false_and, cond_false, guardB, yieldedD, isWork, cond_true, workOk, workOp, Mx.force, opnd, Mx.look, Nat.reduceBEq, solid, Mx.fit, fitCs, fitC, List.isEmpty_cons, List.isEmpty_nil, Bool.false_or, Bool.or_false, Bool.true_or, Bool.or_true, Bool.and_true, Bool.true_and, Bool.and_false, Bool.not_true, Bool.not_false, Bool.not_not, Bool.or_not_self, Bool.not_or_self, Bool.and_self, Bool.or_self, toVs, cellsOf, toV, setReg_m, spend_m, hasOwn, ownFree, List.all_cons, List.all_nil, ownFreeC, Mx.put, ofConst, ofCell, after_some, Mx.prune, List.map_cons, List.map_nil, killB, killBs, unblock_normal, unblock_ret, unblock_exit, pureOp, putDst, offReg_m, callFails, isFuncCall, Option.isNone_none, Option.isNone_some, Option.isSome_none, Option.isSome_some, fieldOff, loadAt, partD, List.length_cons, List.length_nil, List.map, List.drop_succ_cons, List.drop_zero, List.take_succ_cons, List.take_zero, List.take_nil, List.drop_nil, List.getElem?_cons_zero, List.getElem?_cons_succ, List.getElem?_nil, Nat.reduceAdd, Nat.reduceMul, Nat.zero_add, Nat.add_zero, binD, binV, eqCells, eqC, lenD, sliceOf, ite_true, if_true, eq_self, reduceIte, reduceCtorEq, finish_ret, finish_normal, giveBack, resAll, resOne, outD, outOk, stayC, cellOk, valOk, lowC, lowP, forceAll, bound, asNat, elemIs, isStrK, sameInt, sliceD, kill, spendLoc, spendOk, setOwn, dropAl, dropAls, inReg, inObj, isCell, gone, List.contains_cons, List.contains_nil, List.elem_cons, List.elem_nil, lend, lendA, tracked, trackedA, noSlT, noSlV, bare, bareC, List.any_cons, List.any_nil, frz, frzC, frzReg_m, isGive, argE, argsE, isOwn, noOwn, fill, setCells, setVs, takeParts, rowsOf, inOrder, ownAt, List.set_cons_zero, List.set_cons_succ, List.nil_append, List.cons_append, List.append_nil, Nat.reduceBNe, Nat.reduceSub, Nat.reduceLT, Nat.reduceLeDiff, decide_true, decide_false, Int.cast_ofNat_Int, again_norm, againN_some, trunc_m, lowA, lowLoc, again_ret, again_exit, beq_self_eq_true, Bool.cond_true_left, Bool.cond_false_right, Bool.cond_false_left, Bool.cond_true_right, ge_iff_le, gt_iff_lt, kindW, plainWork, ownsDst, calmOp, calm, calmC, calmP, immB, noLoc, noLocC, readsAt, plainK, freeOk, pairOk, rwOk, List.getD_cons_zero, List.getD_cons_succ, Op.operands, Bool.not_eq_true, Option.map_some, Option.map_none, Int.reduceBEq, Int.reduceLT, Int.reduceLE, Int.reduceNeg, Bool.decide_eq_true, Int.reduceBNe, pickOk_f, pickOk_x, pickOk_h, outTup, cond_nest_t, cond_nest_f, cond_same, newB, newC, flatB, flatI, flatS, binK, binI, bne, mapR_len, mapR_app, mapR_emp, mapR_sub, mapR_nil, byL_m, strL_m, allB_m, strL0, row_oneB, row_consB, row_oneI, row_consI, row_oneS, row_consS, set_B, set_I, set_S, rep_B, rep_I, seq_m, slt_m, str0, modS_0, modS_s, ↓evCode_seqI, ↓evCode_condI, ↓evCode_regionI, ↓evCode_drawI, thenI_normal, thenI_ret, thenI_exit, branchI_t, branchI_f, runI_nil, runI_cons, opsI_some, stepI_t, stepI_f, guardI_none, guardI_some, runK_nil, runK_cons, opsK_some, kindI_t, kindI_f, endK_some, drawI_nil, drawI_cons, pickOk, aliasCs, standB, tailOf, isSliceK, effOk, Sum.elim_inl, Sum.elim_inr, beq_true, beq_false, Bool.true_beq, Bool.false_beq, Call.operands, List.isEmpty_toArray, Array.toList_append, Option.toArray_some, Option.toArray_none, ty3, ty4, ty5, ty39])
/-! ### rostrumref.textBytes -/
def n107 : Note where
  keep := fun i => match i with
    | 0 => [0]
    | 1 => [2, 9]
    | _ => []
  ro := fun _ => false
  mv := fun _ => false
  give := fun _ => false
  free := fun _ => []
theorem n107k0 : n107.keep 0 = [0] := rfl
theorem n107k1 : n107.keep 1 = [2, 9] := rfl
theorem n107ro (t : Nat) : n107.ro t = (false) := rfl
theorem n107mv (t : Nat) : n107.mv t = (false) := rfl
theorem n107gv (t : Nat) : n107.give t = (false) := rfl
theorem res107 : Try.f107.results.toList = [.tmp 2] := rfl
noncomputable def b107 : Code := bodyOf Try.f107
set_option maxRecDepth 100000 in
set_option maxHeartbeats 40000000 in
theorem r_rostrumref_textBytes (C : Oracle) (k_rostrumref_joined : K_rostrumref_joined C) (p0 : ByteArray) (r : (List Int)) (hF : rostrumref_textBytes p0 = some r) : evFn TT C.wide (evW TT C.wide n107 b107) n107 Try.f107.results.toList (bodyOf Try.f107) [.v (.s p0)] [] = some (.own 1 (mapR rowB r), []) := by
  unfold rostrumref_textBytes at hF
  revert hF
  cases h1 : rostrumref_joined [(IntKind.u8.wrap (p0.size : Int))] (byL p0)
  focus
    intro hF
    cases hF
  rename_i x1
  intro hF
  try dsimp only at hF
  have g1 : C.wide 105 [.v (.sl 1 (mapR rowB [(IntKind.u8.wrap (p0.size : Int))])), .v (.sl 1 (mapR rowB (byL p0)))] [] = some (.own 1 (mapR rowB x1), []) := k_rostrumref_joined [(IntKind.u8.wrap (p0.size : Int))] (byL p0) _ h1
  have hR := Option.some.inj hF
  clear hF
  subst hR
  all_goals (rw [evFn_finish]; show finish _ _ _ (evCode _ _ _ _ (Code.seq _ _) _) = _; simp (maxSteps := 4000000) only [*, res107, n107k0, n107k1, n107ro, n107mv, n107gv, ↓evCode_skip, ↓evCode_ret, ↓evCode_exit, ↓evCode_loop, ↓evCode_block_seq, ↓evCode_block_region, ↓evCode_block_cond, ↓evCode_block_block, ↓evCode_block_skip, ↓cond_true, ↓cond_false, enter, List.toList_toArray, Bool.false_and, cond_false, guardB, yieldedD, isWork, cond_true, workOk, workOp, Mx.force, opnd, Mx.look, Nat.reduceBEq, solid, Mx.fit, fitCs, fitC, List.isEmpty_cons, List.isEmpty_nil, Bool.false_or, Bool.or_false, Bool.true_or, Bool.or_true, Bool.and_true, Bool.true_and, Bool.and_false, Bool.not_true, Bool.not_false, Bool.not_not, Bool.or_not_self, Bool.not_or_self, Bool.and_self, Bool.or_self, toVs, cellsOf, toV, setReg_m, spend_m, hasOwn, ownFree, List.all_cons, List.all_nil, ownFreeC, Mx.put, ofConst, ofCell, after_some, Mx.prune, List.map_cons, List.map_nil, killB, killBs, unblock_normal, unblock_ret, unblock_exit, pureOp, putDst, offReg_m, callFails, isFuncCall, Option.isNone_none, Option.isNone_some, Option.isSome_none, Option.isSome_some, fieldOff, loadAt, partD, List.length_cons, List.length_nil, List.map, List.drop_succ_cons, List.drop_zero, List.take_succ_cons, List.take_zero, List.take_nil, List.drop_nil, List.getElem?_cons_zero, List.getElem?_cons_succ, List.getElem?_nil, Nat.reduceAdd, Nat.reduceMul, Nat.zero_add, Nat.add_zero, binD, binV, eqCells, eqC, lenD, sliceOf, ite_true, if_true, eq_self, reduceIte, reduceCtorEq, finish_ret, finish_normal, giveBack, resAll, resOne, outD, outOk, stayC, cellOk, valOk, lowC, lowP, forceAll, bound, asNat, elemIs, isStrK, sameInt, sliceD, kill, spendLoc, spendOk, setOwn, dropAl, dropAls, inReg, inObj, isCell, gone, List.contains_cons, List.contains_nil, List.elem_cons, List.elem_nil, lend, lendA, tracked, trackedA, noSlT, noSlV, bare, bareC, List.any_cons, List.any_nil, frz, frzC, frzReg_m, isGive, argE, argsE, isOwn, noOwn, fill, setCells, setVs, takeParts, rowsOf, inOrder, ownAt, List.set_cons_zero, List.set_cons_succ, List.nil_append, List.cons_append, List.append_nil, Nat.reduceBNe, Nat.reduceSub, Nat.reduceLT, Nat.reduceLeDiff, decide_true, decide_false, Int.cast_ofNat_Int, again_norm, againN_some, trunc_m, lowA, lowLoc, again_ret, again_exit, beq_self_eq_true, Bool.cond_true_left, Bool.cond_false_right, Bool.cond_false_left, Bool.cond_true_right, ge_iff_le, gt_iff_lt, kindW, plainWork, ownsDst, calmOp, calm, calmC, calmP, immB, noLoc, noLocC, readsAt, plainK, freeOk, pairOk, rwOk, List.getD_cons_zero, List.getD_cons_succ, Op.operands, Bool.not_eq_true, Option.map_some, Option.map_none, Int.reduceBEq, Int.reduceLT, Int.reduceLE, Int.reduceNeg, Bool.decide_eq_true, Int.reduceBNe, pickOk_f, pickOk_x, pickOk_h, outTup, cond_nest_t, cond_nest_f, cond_same, newB, newC, flatB, flatI, flatS, binK, binI, bne, mapR_len, mapR_app, mapR_emp, mapR_sub, mapR_nil, byL_m, strL_m, allB_m, strL0, row_oneB, row_consB, row_oneI, row_consI, row_oneS, row_consS, set_B, set_I, set_S, rep_B, rep_I, seq_m, slt_m, str0, modS_0, modS_s, ↓evCode_seqI, ↓evCode_condI, ↓evCode_regionI, ↓evCode_drawI, thenI_normal, thenI_ret, thenI_exit, branchI_t, branchI_f, runI_nil, runI_cons, opsI_some, stepI_t, stepI_f, guardI_none, guardI_some, runK_nil, runK_cons, opsK_some, kindI_t, kindI_f, endK_some, drawI_nil, drawI_cons, pickOk, aliasCs, standB, tailOf, isSliceK, effOk, Sum.elim_inl, Sum.elim_inr, beq_true, beq_false, Bool.true_beq, Bool.false_beq, Call.operands, List.isEmpty_toArray, Array.toList_append, Option.toArray_some, Option.toArray_none, ty3, ty5, ty9, ty39])
/-! ### rostrumref.itemBytes -/
def n59 : Note where
  keep := fun i => match i with
    | 0 => [1]
    | 1 => [1, 3, 11, 19, 25, 39, 45, 50, 55, 60]
    | 2 => [1, 3, 11, 13, 19, 25, 39, 45, 50, 55, 60]
    | 3 => [2, 3, 11, 16, 19, 25, 30, 39, 45, 50, 55, 60, 65]
    | 4 => [1, 3, 11, 19, 25, 39, 45, 50, 55, 60]
    | 5 => [1, 3, 11, 19, 25, 39, 45, 50, 55, 60]
    | 6 => [1, 3, 11, 19, 25, 29, 39, 45, 50, 55, 60]
    | 7 => [2, 3, 11, 16, 19, 25, 30, 39, 45, 50, 55, 60, 65]
    | 8 => [1, 3, 4, 11, 19, 25, 39, 45, 50, 55, 60]
    | 9 => [3, 4, 11, 19, 25, 39, 45, 50, 55, 60]
    | 10 => [3, 4, 11, 19, 25, 39, 45, 50, 55, 60]
    | 11 => [3, 4, 11, 19, 25, 39, 45, 50, 55, 60]
    | 12 => [3, 4, 11, 19, 25, 39, 45, 50, 55, 60]
    | 13 => [3, 4, 11, 19, 25, 39, 45, 50, 55, 60]
    | 14 => [2, 3, 11, 16, 19, 25, 30, 39, 45, 50, 55, 60, 65]
    | _ => []
  ro := fun t => t == 1
  mv := fun _ => false
  give := fun _ => false
  free := fun i => match i with | 1 => [(0, 3), (1, 3), (2, 3), (0, 4), (1, 4), (2, 4)] | _ => []
theorem n59k0 : n59.keep 0 = [1] := rfl
theorem n59k1 : n59.keep 1 = [1, 3, 11, 19, 25, 39, 45, 50, 55, 60] := rfl
theorem n59k2 : n59.keep 2 = [1, 3, 11, 13, 19, 25, 39, 45, 50, 55, 60] := rfl
theorem n59k3 : n59.keep 3 = [2, 3, 11, 16, 19, 25, 30, 39, 45, 50, 55, 60, 65] := rfl
theorem n59k4 : n59.keep 4 = [1, 3, 11, 19, 25, 39, 45, 50, 55, 60] := rfl
theorem n59k5 : n59.keep 5 = [1, 3, 11, 19, 25, 39, 45, 50, 55, 60] := rfl
theorem n59k6 : n59.keep 6 = [1, 3, 11, 19, 25, 29, 39, 45, 50, 55, 60] := rfl
theorem n59k7 : n59.keep 7 = [2, 3, 11, 16, 19, 25, 30, 39, 45, 50, 55, 60, 65] := rfl
theorem n59k8 : n59.keep 8 = [1, 3, 4, 11, 19, 25, 39, 45, 50, 55, 60] := rfl
theorem n59k9 : n59.keep 9 = [3, 4, 11, 19, 25, 39, 45, 50, 55, 60] := rfl
theorem n59k10 : n59.keep 10 = [3, 4, 11, 19, 25, 39, 45, 50, 55, 60] := rfl
theorem n59k11 : n59.keep 11 = [3, 4, 11, 19, 25, 39, 45, 50, 55, 60] := rfl
theorem n59k12 : n59.keep 12 = [3, 4, 11, 19, 25, 39, 45, 50, 55, 60] := rfl
theorem n59k13 : n59.keep 13 = [3, 4, 11, 19, 25, 39, 45, 50, 55, 60] := rfl
theorem n59k14 : n59.keep 14 = [2, 3, 11, 16, 19, 25, 30, 39, 45, 50, 55, 60, 65] := rfl
theorem n59ro (t : Nat) : n59.ro t = (t == 1) := rfl
theorem n59mv (t : Nat) : n59.mv t = (false) := rfl
theorem n59gv (t : Nat) : n59.give t = (false) := rfl
theorem n59f1 : n59.free 1 = [(0, 3), (1, 3), (2, 3), (0, 4), (1, 4), (2, 4)] := rfl
theorem res59 : Try.f59.results.toList = [.tmp 2] := rfl
noncomputable def b59 : Code := bodyOf Try.f59
set_option maxRecDepth 100000 in
set_option maxHeartbeats 40000000 in
theorem r_rostrumref_itemBytes (C : Oracle) (k_rostrumref_eight : K_rostrumref_eight C) (k_rostrumref_joined : K_rostrumref_joined C) (k_rostrumref_textBytes : K_rostrumref_textBytes C) (p0 : GItem) (r : (List Int)) (hF : rostrumref_itemBytes p0 = some r) : evFn TT C.wide (evW TT C.wide n59 b59) n59 Try.f59.results.toList (bodyOf Try.f59) [.agg [.v (.i .i64 p0.fTerm), .v (.i .i64 p0.fTime), .v (.b p0.fNop), .v (.i .i64 p0.fCall.fClient), .v (.i .i64 p0.fCall.fSeq), .v (.i .i64 p0.fCall.fCommand.fKind), .v (.s p0.fCall.fCommand.fKey), .v (.s p0.fCall.fCommand.fField), .v (.s p0.fCall.fCommand.fText), .v (.i .i64 p0.fCall.fCommand.fN)]] [] = some (.own 1 (mapR rowB r), []) := by
  unfold rostrumref_itemBytes at hF
  revert hF
  cases h1 : rostrumref_eight p0.fTerm
  focus
    intro hF
    cases hF
  rename_i x1
  intro hF
  try dsimp only at hF
  have g1 : C.wide 106 [.v (.i .i64 p0.fTerm)] [] = some (.own 1 (mapR rowB x1), []) := k_rostrumref_eight p0.fTerm _ h1
  revert hF
  cases h2 : rostrumref_eight p0.fTime
  focus
    intro hF
    cases hF
  rename_i x2
  intro hF
  try dsimp only at hF
  have g2 : C.wide 106 [.v (.i .i64 p0.fTime)] [] = some (.own 1 (mapR rowB x2), []) := k_rostrumref_eight p0.fTime _ h2
  revert hF
  cases h3 : rostrumref_joined x1 x2
  focus
    intro hF
    cases hF
  rename_i x3
  intro hF
  try dsimp only at hF
  have g3 : C.wide 105 [.v (.sl 1 (mapR rowB x1)), .v (.sl 1 (mapR rowB x2))] [] = some (.own 1 (mapR rowB x3), []) := k_rostrumref_joined x1 x2 _ h3
  refine boolTF p0.fNop ?_ ?_
  focus
    intro h4
    replace hF := condT h4 hF
    refine boolTF (fitsB (x3.length + 1) 1) ?_ ?_
    focus
      intro h5
      replace hF := condT h5 hF
      have hR := Option.some.inj hF
      clear hF
      subst hR
    rotate_left 1
    intro h5
    replace hF := condF h5 hF
    cases hF
  rotate_left 1
  intro h4
  replace hF := condF h4 hF
  refine boolFT (fitsB (x3.length + 1) 1) ?_ ?_
  focus
    intro h5
    replace hF := condF h5 hF
    cases hF
  intro h5
  replace hF := condT h5 hF
  unfold rostrumref_itemBytes_c1 at hF
  revert hF
  cases h6 : rostrumref_eight p0.fCall.fClient
  focus
    intro hF
    cases hF
  rename_i x4
  intro hF
  try dsimp only at hF
  have g4 : C.wide 106 [.v (.i .i64 p0.fCall.fClient)] [] = some (.own 1 (mapR rowB x4), []) := k_rostrumref_eight p0.fCall.fClient _ h6
  revert hF
  cases h7 : rostrumref_joined (x3 ++ [0]) x4
  focus
    intro hF
    cases hF
  rename_i x5
  intro hF
  try dsimp only at hF
  have g5 : C.wide 105 [.v (.sl 1 (mapR rowB (x3 ++ [0]))), .v (.sl 1 (mapR rowB x4))] [] = some (.own 1 (mapR rowB x5), []) := k_rostrumref_joined (x3 ++ [0]) x4 _ h7
  refine boolTF (p0.fCall.fClient == 0) ?_ ?_
  focus
    intro h8
    replace hF := condT h8 hF
    have hR := Option.some.inj hF
    clear hF
    subst hR
  rotate_left 1
  intro h8
  replace hF := condF h8 hF
  revert hF
  cases h9 : rostrumref_eight p0.fCall.fSeq
  focus
    intro hF
    cases hF
  rename_i x6
  intro hF
  try dsimp only at hF
  have g6 : C.wide 106 [.v (.i .i64 p0.fCall.fSeq)] [] = some (.own 1 (mapR rowB x6), []) := k_rostrumref_eight p0.fCall.fSeq _ h9
  revert hF
  cases h10 : rostrumref_joined x5 x6
  focus
    intro hF
    cases hF
  rename_i x7
  intro hF
  try dsimp only at hF
  have g7 : C.wide 105 [.v (.sl 1 (mapR rowB x5)), .v (.sl 1 (mapR rowB x6))] [] = some (.own 1 (mapR rowB x7), []) := k_rostrumref_joined x5 x6 _ h10
  refine boolFT (fitsB (x7.length + 1) 1) ?_ ?_
  focus
    intro h11
    replace hF := condF h11 hF
    cases hF
  intro h11
  replace hF := condT h11 hF
  revert hF
  cases h12 : rostrumref_textBytes p0.fCall.fCommand.fKey
  focus
    intro hF
    cases hF
  rename_i x8
  intro hF
  try dsimp only at hF
  unfold rostrumref_itemBytes_c0 at hF
  have g8 : C.wide 107 [.v (.s p0.fCall.fCommand.fKey)] [] = some (.own 1 (mapR rowB x8), []) := k_rostrumref_textBytes p0.fCall.fCommand.fKey _ h12
  revert hF
  cases h13 : rostrumref_joined (x7 ++ [(IntKind.u8.wrap p0.fCall.fCommand.fKind)]) x8
  focus
    intro hF
    cases hF
  rename_i x9
  intro hF
  try dsimp only at hF
  have g9 : C.wide 105 [.v (.sl 1 (mapR rowB (x7 ++ [(IntKind.u8.wrap p0.fCall.fCommand.fKind)]))), .v (.sl 1 (mapR rowB x8))] [] = some (.own 1 (mapR rowB x9), []) := k_rostrumref_joined (x7 ++ [(IntKind.u8.wrap p0.fCall.fCommand.fKind)]) x8 _ h13
  revert hF
  cases h14 : rostrumref_textBytes p0.fCall.fCommand.fField
  focus
    intro hF
    cases hF
  rename_i x10
  intro hF
  try dsimp only at hF
  have g10 : C.wide 107 [.v (.s p0.fCall.fCommand.fField)] [] = some (.own 1 (mapR rowB x10), []) := k_rostrumref_textBytes p0.fCall.fCommand.fField _ h14
  revert hF
  cases h15 : rostrumref_joined x9 x10
  focus
    intro hF
    cases hF
  rename_i x11
  intro hF
  try dsimp only at hF
  have g11 : C.wide 105 [.v (.sl 1 (mapR rowB x9)), .v (.sl 1 (mapR rowB x10))] [] = some (.own 1 (mapR rowB x11), []) := k_rostrumref_joined x9 x10 _ h15
  revert hF
  cases h16 : rostrumref_textBytes p0.fCall.fCommand.fText
  focus
    intro hF
    cases hF
  rename_i x12
  intro hF
  try dsimp only at hF
  have g12 : C.wide 107 [.v (.s p0.fCall.fCommand.fText)] [] = some (.own 1 (mapR rowB x12), []) := k_rostrumref_textBytes p0.fCall.fCommand.fText _ h16
  revert hF
  cases h17 : rostrumref_joined x11 x12
  focus
    intro hF
    cases hF
  rename_i x13
  intro hF
  try dsimp only at hF
  have g13 : C.wide 105 [.v (.sl 1 (mapR rowB x11)), .v (.sl 1 (mapR rowB x12))] [] = some (.own 1 (mapR rowB x13), []) := k_rostrumref_joined x11 x12 _ h17
  revert hF
  cases h18 : rostrumref_eight p0.fCall.fCommand.fN
  focus
    intro hF
    cases hF
  rename_i x14
  intro hF
  try dsimp only at hF
  have g14 : C.wide 106 [.v (.i .i64 p0.fCall.fCommand.fN)] [] = some (.own 1 (mapR rowB x14), []) := k_rostrumref_eight p0.fCall.fCommand.fN _ h18
  revert hF
  cases h19 : rostrumref_joined x13 x14
  focus
    intro hF
    cases hF
  rename_i x15
  intro hF
  try dsimp only at hF
  have g15 : C.wide 105 [.v (.sl 1 (mapR rowB x13)), .v (.sl 1 (mapR rowB x14))] [] = some (.own 1 (mapR rowB x15), []) := k_rostrumref_joined x13 x14 _ h19
  have hR := Option.some.inj hF
  clear hF
  subst hR
  all_goals (rw [evFn_finish]; show finish _ _ _ (evCode _ _ _ _ (Code.seq _ _) _) = _; simp (maxSteps := 4000000) only [*, res59, n59k0, n59k1, n59k2, n59k3, n59k4, n59k5, n59k6, n59k7, n59k8, n59k9, n59k10, n59k11, n59k12, n59k13, n59k14, n59f1, n59ro, n59mv, n59gv, ↓evCode_skip, ↓evCode_ret, ↓evCode_exit, ↓evCode_loop, ↓evCode_block_seq, ↓evCode_block_region, ↓evCode_block_cond, ↓evCode_block_block, ↓evCode_block_skip, ↓cond_true, ↓cond_false, enter, List.toList_toArray, Bool.false_and, cond_false, guardB, yieldedD, isWork, cond_true, workOk, workOp, Mx.force, opnd, Mx.look, Nat.reduceBEq, solid, Mx.fit, fitCs, fitC, List.isEmpty_cons, List.isEmpty_nil, Bool.false_or, Bool.or_false, Bool.true_or, Bool.or_true, Bool.and_true, Bool.true_and, Bool.and_false, Bool.not_true, Bool.not_false, Bool.not_not, Bool.or_not_self, Bool.not_or_self, Bool.and_self, Bool.or_self, toVs, cellsOf, toV, setReg_m, spend_m, hasOwn, ownFree, List.all_cons, List.all_nil, ownFreeC, Mx.put, ofConst, ofCell, after_some, Mx.prune, List.map_cons, List.map_nil, killB, killBs, unblock_normal, unblock_ret, unblock_exit, pureOp, putDst, offReg_m, callFails, isFuncCall, Option.isNone_none, Option.isNone_some, Option.isSome_none, Option.isSome_some, fieldOff, loadAt, partD, List.length_cons, List.length_nil, List.map, List.drop_succ_cons, List.drop_zero, List.take_succ_cons, List.take_zero, List.take_nil, List.drop_nil, List.getElem?_cons_zero, List.getElem?_cons_succ, List.getElem?_nil, Nat.reduceAdd, Nat.reduceMul, Nat.zero_add, Nat.add_zero, binD, binV, eqCells, eqC, lenD, sliceOf, ite_true, if_true, eq_self, reduceIte, reduceCtorEq, finish_ret, finish_normal, giveBack, resAll, resOne, outD, outOk, stayC, cellOk, valOk, lowC, lowP, forceAll, bound, asNat, elemIs, isStrK, sameInt, sliceD, kill, spendLoc, spendOk, setOwn, dropAl, dropAls, inReg, inObj, isCell, gone, List.contains_cons, List.contains_nil, List.elem_cons, List.elem_nil, lend, lendA, tracked, trackedA, noSlT, noSlV, bare, bareC, List.any_cons, List.any_nil, frz, frzC, frzReg_m, isGive, argE, argsE, isOwn, noOwn, fill, setCells, setVs, takeParts, rowsOf, inOrder, ownAt, List.set_cons_zero, List.set_cons_succ, List.nil_append, List.cons_append, List.append_nil, Nat.reduceBNe, Nat.reduceSub, Nat.reduceLT, Nat.reduceLeDiff, decide_true, decide_false, Int.cast_ofNat_Int, again_norm, againN_some, trunc_m, lowA, lowLoc, again_ret, again_exit, beq_self_eq_true, Bool.cond_true_left, Bool.cond_false_right, Bool.cond_false_left, Bool.cond_true_right, ge_iff_le, gt_iff_lt, kindW, plainWork, ownsDst, calmOp, calm, calmC, calmP, immB, noLoc, noLocC, readsAt, plainK, freeOk, pairOk, rwOk, List.getD_cons_zero, List.getD_cons_succ, Op.operands, Bool.not_eq_true, Option.map_some, Option.map_none, Int.reduceBEq, Int.reduceLT, Int.reduceLE, Int.reduceNeg, Bool.decide_eq_true, Int.reduceBNe, pickOk_f, pickOk_x, pickOk_h, outTup, cond_nest_t, cond_nest_f, cond_same, newB, newC, flatB, flatI, flatS, binK, binI, bne, mapR_len, mapR_app, mapR_emp, mapR_sub, mapR_nil, byL_m, strL_m, allB_m, strL0, row_oneB, row_consB, row_oneI, row_consI, row_oneS, row_consS, set_B, set_I, set_S, rep_B, rep_I, seq_m, slt_m, str0, modS_0, modS_s, ↓evCode_seqI, ↓evCode_condI, ↓evCode_regionI, ↓evCode_drawI, thenI_normal, thenI_ret, thenI_exit, branchI_t, branchI_f, runI_nil, runI_cons, opsI_some, stepI_t, stepI_f, guardI_none, guardI_some, runK_nil, runK_cons, opsK_some, kindI_t, kindI_f, endK_some, drawI_nil, drawI_cons, pickOk, aliasCs, standB, tailOf, isSliceK, effOk, Sum.elim_inl, Sum.elim_inr, beq_true, beq_false, Bool.true_beq, Bool.false_beq, Call.operands, List.isEmpty_toArray, Array.toList_append, Option.toArray_some, Option.toArray_none, ty3, ty4, ty5, ty9, ty34, ty36, ty38, ty39])
/-! ### rostrumref.ItemBytes -/
def n21 : Note where
  keep := fun i => match i with
    | 0 => [1]
    | 1 => [1, 4]
    | 2 => [1, 4, 8]
    | 3 => [2, 3, 11]
    | 4 => [2, 3, 11]
    | _ => []
  ro := fun t => t == 1
  mv := fun _ => false
  give := fun _ => false
  free := fun _ => []
theorem n21k0 : n21.keep 0 = [1] := rfl
theorem n21k1 : n21.keep 1 = [1, 4] := rfl
theorem n21k2 : n21.keep 2 = [1, 4, 8] := rfl
theorem n21k3 : n21.keep 3 = [2, 3, 11] := rfl
theorem n21k4 : n21.keep 4 = [2, 3, 11] := rfl
theorem n21ro (t : Nat) : n21.ro t = (t == 1) := rfl
theorem n21mv (t : Nat) : n21.mv t = (false) := rfl
theorem n21gv (t : Nat) : n21.give t = (false) := rfl
theorem res21 : Try.f21.results.toList = [.tmp 2, .tmp 3] := rfl
noncomputable def b21 : Code := bodyOf Try.f21
set_option maxRecDepth 100000 in
set_option maxHeartbeats 40000000 in
theorem r_rostrumref_ItemBytes (C : Oracle) (k_rostrumref_ItemFault : K_rostrumref_ItemFault C) (k_rostrumref_itemBytes : K_rostrumref_itemBytes C) (p0 : GItem) (r : (List Int) × Int) (hF : rostrumref_ItemBytes p0 = some r) : evFn TT C.wide (evW TT C.wide n21 b21) n21 Try.f21.results.toList (bodyOf Try.f21) [.agg [.v (.i .i64 p0.fTerm), .v (.i .i64 p0.fTime), .v (.b p0.fNop), .v (.i .i64 p0.fCall.fClient), .v (.i .i64 p0.fCall.fSeq), .v (.i .i64 p0.fCall.fCommand.fKind), .v (.s p0.fCall.fCommand.fKey), .v (.s p0.fCall.fCommand.fField), .v (.s p0.fCall.fCommand.fText), .v (.i .i64 p0.fCall.fCommand.fN)]] [] = some (.tup [.v (.sl 1 (mapR rowB r.1)), .v (.i .i64 r.2)], []) := by
  unfold rostrumref_ItemBytes at hF
  have g1 : C.wide 58 [.agg [.v (.i .i64 p0.fTerm), .v (.i .i64 p0.fTime), .v (.b p0.fNop), .v (.i .i64 p0.fCall.fClient), .v (.i .i64 p0.fCall.fSeq), .v (.i .i64 p0.fCall.fCommand.fKind), .v (.s p0.fCall.fCommand.fKey), .v (.s p0.fCall.fCommand.fField), .v (.s p0.fCall.fCommand.fText), .v (.i .i64 p0.fCall.fCommand.fN)]] [] = some (.v (.i .i64 (rostrumref_ItemFault_v p0)), []) := k_rostrumref_ItemFault p0 _ (rostrumref_ItemFault_t p0)
  refine boolFT ((rostrumref_ItemFault_v p0) == 0) ?_ ?_
  focus
    intro h1
    replace hF := condF h1 hF
    have hR := Option.some.inj hF
    clear hF
    subst hR
  rotate_left 1
  intro h1
  replace hF := condT h1 hF
  revert hF
  cases h2 : rostrumref_itemBytes p0
  focus
    intro hF
    cases hF
  rename_i x1
  intro hF
  try dsimp only at hF
  have g2 : C.wide 59 [.agg [.v (.i .i64 p0.fTerm), .v (.i .i64 p0.fTime), .v (.b p0.fNop), .v (.i .i64 p0.fCall.fClient), .v (.i .i64 p0.fCall.fSeq), .v (.i .i64 p0.fCall.fCommand.fKind), .v (.s p0.fCall.fCommand.fKey), .v (.s p0.fCall.fCommand.fField), .v (.s p0.fCall.fCommand.fText), .v (.i .i64 p0.fCall.fCommand.fN)]] [] = some (.own 1 (mapR rowB x1), []) := k_rostrumref_itemBytes p0 _ h2
  have hR := Option.some.inj hF
  clear hF
  subst hR
  all_goals (rw [evFn_finish]; show finish _ _ _ (evCode _ _ _ _ (Code.seq _ _) _) = _; simp (maxSteps := 4000000) only [*, res21, n21k0, n21k1, n21k2, n21k3, n21k4, n21ro, n21mv, n21gv, ↓evCode_skip, ↓evCode_ret, ↓evCode_exit, ↓evCode_loop, ↓evCode_block_seq, ↓evCode_block_region, ↓evCode_block_cond, ↓evCode_block_block, ↓evCode_block_skip, ↓cond_true, ↓cond_false, enter, List.toList_toArray, Bool.false_and, cond_false, guardB, yieldedD, isWork, cond_true, workOk, workOp, Mx.force, opnd, Mx.look, Nat.reduceBEq, solid, Mx.fit, fitCs, fitC, List.isEmpty_cons, List.isEmpty_nil, Bool.false_or, Bool.or_false, Bool.true_or, Bool.or_true, Bool.and_true, Bool.true_and, Bool.and_false, Bool.not_true, Bool.not_false, Bool.not_not, Bool.or_not_self, Bool.not_or_self, Bool.and_self, Bool.or_self, toVs, cellsOf, toV, setReg_m, spend_m, hasOwn, ownFree, List.all_cons, List.all_nil, ownFreeC, Mx.put, ofConst, ofCell, after_some, Mx.prune, List.map_cons, List.map_nil, killB, killBs, unblock_normal, unblock_ret, unblock_exit, pureOp, putDst, offReg_m, callFails, isFuncCall, Option.isNone_none, Option.isNone_some, Option.isSome_none, Option.isSome_some, fieldOff, loadAt, partD, List.length_cons, List.length_nil, List.map, List.drop_succ_cons, List.drop_zero, List.take_succ_cons, List.take_zero, List.take_nil, List.drop_nil, List.getElem?_cons_zero, List.getElem?_cons_succ, List.getElem?_nil, Nat.reduceAdd, Nat.reduceMul, Nat.zero_add, Nat.add_zero, binD, binV, eqCells, eqC, lenD, sliceOf, ite_true, if_true, eq_self, reduceIte, reduceCtorEq, finish_ret, finish_normal, giveBack, resAll, resOne, outD, outOk, stayC, cellOk, valOk, lowC, lowP, forceAll, bound, asNat, elemIs, isStrK, sameInt, sliceD, kill, spendLoc, spendOk, setOwn, dropAl, dropAls, inReg, inObj, isCell, gone, List.contains_cons, List.contains_nil, List.elem_cons, List.elem_nil, lend, lendA, tracked, trackedA, noSlT, noSlV, bare, bareC, List.any_cons, List.any_nil, frz, frzC, frzReg_m, isGive, argE, argsE, isOwn, noOwn, fill, setCells, setVs, takeParts, rowsOf, inOrder, ownAt, List.set_cons_zero, List.set_cons_succ, List.nil_append, List.cons_append, List.append_nil, Nat.reduceBNe, Nat.reduceSub, Nat.reduceLT, Nat.reduceLeDiff, decide_true, decide_false, Int.cast_ofNat_Int, again_norm, againN_some, trunc_m, lowA, lowLoc, again_ret, again_exit, beq_self_eq_true, Bool.cond_true_left, Bool.cond_false_right, Bool.cond_false_left, Bool.cond_true_right, ge_iff_le, gt_iff_lt, kindW, plainWork, ownsDst, calmOp, calm, calmC, calmP, immB, noLoc, noLocC, readsAt, plainK, freeOk, pairOk, rwOk, List.getD_cons_zero, List.getD_cons_succ, Op.operands, Bool.not_eq_true, Option.map_some, Option.map_none, Int.reduceBEq, Int.reduceLT, Int.reduceLE, Int.reduceNeg, Bool.decide_eq_true, Int.reduceBNe, pickOk_f, pickOk_x, pickOk_h, outTup, cond_nest_t, cond_nest_f, cond_same, newB, newC, flatB, flatI, flatS, binK, binI, bne, mapR_len, mapR_app, mapR_emp, mapR_sub, mapR_nil, byL_m, strL_m, allB_m, strL0, row_oneB, row_consB, row_oneI, row_consI, row_oneS, row_consS, set_B, set_I, set_S, rep_B, rep_I, seq_m, slt_m, str0, modS_0, modS_s, ↓evCode_seqI, ↓evCode_condI, ↓evCode_regionI, ↓evCode_drawI, thenI_normal, thenI_ret, thenI_exit, branchI_t, branchI_f, runI_nil, runI_cons, opsI_some, stepI_t, stepI_f, guardI_none, guardI_some, runK_nil, runK_cons, opsK_some, kindI_t, kindI_f, endK_some, drawI_nil, drawI_cons, pickOk, aliasCs, standB, tailOf, isSliceK, effOk, Sum.elim_inl, Sum.elim_inr, beq_true, beq_false, Bool.true_beq, Bool.false_beq, Call.operands, List.isEmpty_toArray, Array.toList_append, Option.toArray_some, Option.toArray_none, ty3, ty4, ty5, ty9, ty25, ty34, ty36, ty38, ty39])
/-! ### rostrumlaw.WireItemBytes -/
def n5 : Note where
  keep := fun i => match i with
    | 0 => [1]
    | 1 => [1, 3, 4, 10]
    | 2 => [3, 4, 5, 6, 10, 15]
    | 3 => [2]
    | _ => []
  ro := fun t => t == 1
  mv := fun _ => false
  give := fun _ => false
  free := fun _ => []
theorem n5k0 : n5.keep 0 = [1] := rfl
theorem n5k1 : n5.keep 1 = [1, 3, 4, 10] := rfl
theorem n5k2 : n5.keep 2 = [3, 4, 5, 6, 10, 15] := rfl
theorem n5k3 : n5.keep 3 = [2] := rfl
theorem n5ro (t : Nat) : n5.ro t = (t == 1) := rfl
theorem n5mv (t : Nat) : n5.mv t = (false) := rfl
theorem n5gv (t : Nat) : n5.give t = (false) := rfl
theorem res5 : Try.f5.results.toList = [.tmp 2] := rfl
noncomputable def b5 : Code := bodyOf Try.f5
set_option maxRecDepth 100000 in
set_option maxHeartbeats 40000000 in
theorem r_rostrumlaw_WireItemBytes (C : Oracle) (k_wire_EncodeItem : K_wire_EncodeItem C) (k_rostrumref_ItemBytes : K_rostrumref_ItemBytes C) (p0 : GItem) (r : Bool) (hF : rostrumlaw_WireItemBytes p0 = some r) : evFn TT C.wide (evW TT C.wide n5 b5) n5 Try.f5.results.toList (bodyOf Try.f5) [.agg [.v (.i .i64 p0.fTerm), .v (.i .i64 p0.fTime), .v (.b p0.fNop), .v (.i .i64 p0.fCall.fClient), .v (.i .i64 p0.fCall.fSeq), .v (.i .i64 p0.fCall.fCommand.fKind), .v (.s p0.fCall.fCommand.fKey), .v (.s p0.fCall.fCommand.fField), .v (.s p0.fCall.fCommand.fText), .v (.i .i64 p0.fCall.fCommand.fN)]] [] = some (.v (.b r), []) := by
  unfold rostrumlaw_WireItemBytes at hF
  revert hF
  cases h1 : wire_EncodeItem p0
  focus
    intro hF
    cases hF
  rename_i qh1
  obtain ⟨x1, x2⟩ := qh1
  intro hF
  try dsimp only at hF
  have g1 : C.wide 20 [.agg [.v (.i .i64 p0.fTerm), .v (.i .i64 p0.fTime), .v (.b p0.fNop), .v (.i .i64 p0.fCall.fClient), .v (.i .i64 p0.fCall.fSeq), .v (.i .i64 p0.fCall.fCommand.fKind), .v (.s p0.fCall.fCommand.fKey), .v (.s p0.fCall.fCommand.fField), .v (.s p0.fCall.fCommand.fText), .v (.i .i64 p0.fCall.fCommand.fN)]] [] = some (.tup [.v (.sl 1 (mapR rowB x1)), .v (.i .i64 x2)], []) := k_wire_EncodeItem p0 _ h1
  revert hF
  cases h2 : rostrumref_ItemBytes p0
  focus
    intro hF
    cases hF
  rename_i qh2
  obtain ⟨x3, x4⟩ := qh2
  intro hF
  try dsimp only at hF
  have g2 : C.wide 21 [.agg [.v (.i .i64 p0.fTerm), .v (.i .i64 p0.fTime), .v (.b p0.fNop), .v (.i .i64 p0.fCall.fClient), .v (.i .i64 p0.fCall.fSeq), .v (.i .i64 p0.fCall.fCommand.fKind), .v (.s p0.fCall.fCommand.fKey), .v (.s p0.fCall.fCommand.fField), .v (.s p0.fCall.fCommand.fText), .v (.i .i64 p0.fCall.fCommand.fN)]] [] = some (.tup [.v (.sl 1 (mapR rowB x3)), .v (.i .i64 x4)], []) := k_rostrumref_ItemBytes p0 _ h2
  refine boolFT (x2 == x4) ?_ ?_
  focus
    intro h3
    replace hF := condF h3 hF
    have hR := Option.some.inj hF
    clear hF
    subst hR
  rotate_left 1
  intro h3
  replace hF := condT h3 hF
  refine boolFT (allB x1) ?_ ?_
  focus
    intro h4
    replace hF := condF h4 hF
    cases hF
  intro h4
  replace hF := condT h4 hF
  refine boolTF (allB x3) ?_ ?_
  focus
    intro h5
    replace hF := condT h5 hF
    have hR := Option.some.inj hF
    clear hF
    subst hR
  rotate_left 1
  intro h5
  replace hF := condF h5 hF
  cases hF
  all_goals (rw [evFn_finish]; show finish _ _ _ (evCode _ _ _ _ (Code.seq _ _) _) = _; simp (maxSteps := 4000000) only [*, res5, n5k0, n5k1, n5k2, n5k3, n5ro, n5mv, n5gv, ↓evCode_skip, ↓evCode_ret, ↓evCode_exit, ↓evCode_loop, ↓evCode_block_seq, ↓evCode_block_region, ↓evCode_block_cond, ↓evCode_block_block, ↓evCode_block_skip, ↓cond_true, ↓cond_false, enter, List.toList_toArray, Bool.false_and, cond_false, guardB, yieldedD, isWork, cond_true, workOk, workOp, Mx.force, opnd, Mx.look, Nat.reduceBEq, solid, Mx.fit, fitCs, fitC, List.isEmpty_cons, List.isEmpty_nil, Bool.false_or, Bool.or_false, Bool.true_or, Bool.or_true, Bool.and_true, Bool.true_and, Bool.and_false, Bool.not_true, Bool.not_false, Bool.not_not, Bool.or_not_self, Bool.not_or_self, Bool.and_self, Bool.or_self, toVs, cellsOf, toV, setReg_m, spend_m, hasOwn, ownFree, List.all_cons, List.all_nil, ownFreeC, Mx.put, ofConst, ofCell, after_some, Mx.prune, List.map_cons, List.map_nil, killB, killBs, unblock_normal, unblock_ret, unblock_exit, pureOp, putDst, offReg_m, callFails, isFuncCall, Option.isNone_none, Option.isNone_some, Option.isSome_none, Option.isSome_some, fieldOff, loadAt, partD, List.length_cons, List.length_nil, List.map, List.drop_succ_cons, List.drop_zero, List.take_succ_cons, List.take_zero, List.take_nil, List.drop_nil, List.getElem?_cons_zero, List.getElem?_cons_succ, List.getElem?_nil, Nat.reduceAdd, Nat.reduceMul, Nat.zero_add, Nat.add_zero, binD, binV, eqCells, eqC, lenD, sliceOf, ite_true, if_true, eq_self, reduceIte, reduceCtorEq, finish_ret, finish_normal, giveBack, resAll, resOne, outD, outOk, stayC, cellOk, valOk, lowC, lowP, forceAll, bound, asNat, elemIs, isStrK, sameInt, sliceD, kill, spendLoc, spendOk, setOwn, dropAl, dropAls, inReg, inObj, isCell, gone, List.contains_cons, List.contains_nil, List.elem_cons, List.elem_nil, lend, lendA, tracked, trackedA, noSlT, noSlV, bare, bareC, List.any_cons, List.any_nil, frz, frzC, frzReg_m, isGive, argE, argsE, isOwn, noOwn, fill, setCells, setVs, takeParts, rowsOf, inOrder, ownAt, List.set_cons_zero, List.set_cons_succ, List.nil_append, List.cons_append, List.append_nil, Nat.reduceBNe, Nat.reduceSub, Nat.reduceLT, Nat.reduceLeDiff, decide_true, decide_false, Int.cast_ofNat_Int, again_norm, againN_some, trunc_m, lowA, lowLoc, again_ret, again_exit, beq_self_eq_true, Bool.cond_true_left, Bool.cond_false_right, Bool.cond_false_left, Bool.cond_true_right, ge_iff_le, gt_iff_lt, kindW, plainWork, ownsDst, calmOp, calm, calmC, calmP, immB, noLoc, noLocC, readsAt, plainK, freeOk, pairOk, rwOk, List.getD_cons_zero, List.getD_cons_succ, Op.operands, Bool.not_eq_true, Option.map_some, Option.map_none, Int.reduceBEq, Int.reduceLT, Int.reduceLE, Int.reduceNeg, Bool.decide_eq_true, Int.reduceBNe, pickOk_f, pickOk_x, pickOk_h, outTup, cond_nest_t, cond_nest_f, cond_same, newB, newC, flatB, flatI, flatS, binK, binI, bne, mapR_len, mapR_app, mapR_emp, mapR_sub, mapR_nil, byL_m, strL_m, allB_m, strL0, row_oneB, row_consB, row_oneI, row_consI, row_oneS, row_consS, set_B, set_I, set_S, rep_B, rep_I, seq_m, slt_m, str0, modS_0, modS_s, ↓evCode_seqI, ↓evCode_condI, ↓evCode_regionI, ↓evCode_drawI, thenI_normal, thenI_ret, thenI_exit, branchI_t, branchI_f, runI_nil, runI_cons, opsI_some, stepI_t, stepI_f, guardI_none, guardI_some, runK_nil, runK_cons, opsK_some, kindI_t, kindI_f, endK_some, drawI_nil, drawI_cons, pickOk, aliasCs, standB, tailOf, isSliceK, effOk, Sum.elim_inl, Sum.elim_inr, beq_true, beq_false, Bool.true_beq, Bool.false_beq, Call.operands, List.isEmpty_toArray, Array.toList_append, Option.toArray_some, Option.toArray_none, ty3, ty4, ty5, ty9, ty25, ty34, ty36, ty38, ty39])
end Go.Proofs.Ytnjkmbogbfjffaa
