/- Part of the proof by the machine Mx: R2. -/
import Derived.Test.YtnjkmbogbfjffaaMxFour
import Derived.Test.YtnjkmbogbfjffaaStr
import Derived.Test.YtnjkmbogbfjffaaG0
import Derived.Test.YtnjkmbogbfjffaaH0
import Derived.Test.YtnjkmbogbfjffaaJ0
import Derived.Test.YtnjkmbogbfjffaaK0
import Derived.Test.YtnjkmbogbfjffaaN0
import Derived.Test.YtnjkmbogbfjffaaQ0
import Derived.Test.YtnjkmbogbfjffaaR0
set_option linter.unusedSimpArgs false
set_option linter.unusedVariables false
set_option linter.constructorNameAsVariable false
set_option linter.unnecessarySimpa false
namespace Go.Proofs.Ytnjkmbogbfjffaa
open Go Go.Mx Go.Proofs
/-! ### rostrumlaw.LedgerBehinds -/
def n7 : Note where
  keep := fun i => match i with
    | 0 => [1, 2, 3]
    | 1 => [1, 2, 3, 7, 8]
    | 2 => [7, 8, 9, 10]
    | 3 => [6]
    | _ => []
  ro := fun t => t == 3
  mv := fun _ => false
  give := fun _ => false
  free := fun _ => []
theorem n7k0 : n7.keep 0 = [1, 2, 3] := rfl
theorem n7k1 : n7.keep 1 = [1, 2, 3, 7, 8] := rfl
theorem n7k2 : n7.keep 2 = [7, 8, 9, 10] := rfl
theorem n7k3 : n7.keep 3 = [6] := rfl
theorem n7ro (t : Nat) : n7.ro t = (t == 3) := rfl
theorem n7mv (t : Nat) : n7.mv t = (false) := rfl
theorem n7gv (t : Nat) : n7.give t = (false) := rfl
noncomputable def b7 : Code := bodyOf Try.f7
theorem r7 (C : Oracle) (L : Loops) (base bt : Int) (l : List S37) (place most : Int) (hn : (l.length : Int) ≤ 140737488355328) (hCp : C 16 [.agg [.v (.i .i64 base), .v (.i .i64 bt), .v (.sl 10 (l.map S37.row))]] [] = some (.agg [.v (.i .i64 base), .v (.i .i64 bt), .v (.sl 10 (l.map S37.row))], []))(h1 : C 25 [.agg [.v (.i .i64 base), .v (.i .i64 bt), .v (.sl 10 (l.map S37.row))], .v (.i .i64 place), .v (.i .i64 most)] [] = some (.tup [.v (.sl 10 ((bif (bif logF base bt l == 0 then (bif inB place 0 1048576 && decide (0 ≤ most) then teF base l place else 2) else logF base bt l) == 0 then (l.drop (place - base).toNat).take most.toNat else []).map S37.row)), .v (.i .i64 (bif logF base bt l == 0 then (bif inB place 0 1048576 && decide (0 ≤ most) then teF base l place else 2) else logF base bt l))], []))(h2 : C 26 [.agg [.v (.i .i64 base), .v (.i .i64 bt), .v (.sl 10 (l.map S37.row))], .v (.i .i64 place), .v (.i .i64 most)] [] = some (.tup [.v (.sl 10 ((bif (bif logF base bt l == 0 then (bif inB place 0 1048576 && decide (0 ≤ most) then teF base l place else 2) else logF base bt l) == 0 then (l.drop (place - base).toNat).take most.toNat else []).map S37.row)), .v (.i .i64 (bif logF base bt l == 0 then (bif inB place 0 1048576 && decide (0 ≤ most) then teF base l place else 2) else logF base bt l))], []))(hSI : ∀ q : List S37, (q.length : Int) ≤ 140737488355328 → C 27 [.v (.sl 10 (q.map S37.row)), .v (.sl 10 (q.map S37.row))] [] = some (.v (.b true), [])) :
    evFn TT C L n7 Try.f7.results.toList (bodyOf Try.f7) [.agg [.v (.i .i64 base), .v (.i .i64 bt), .v (.sl 10 (l.map S37.row))], .v (.i .i64 place), .v (.i .i64 most)] [] = some (.v (.b true), []) := by
  have s2 := hSI (bif (bif logF base bt l == 0 then (bif inB place 0 1048576 && decide (0 ≤ most) then teF base l place else 2) else logF base bt l) == 0 then (l.drop (place - base).toNat).take most.toNat else []) (by
    cases (bif logF base bt l == 0 then (bif inB place 0 1048576 && decide (0 ≤ most) then teF base l place else 2) else logF base bt l) == 0 with
    | true => simp only [cond_true, List.length_take, List.length_drop]; omega
    | false => simp)
  generalize (bif (bif logF base bt l == 0 then (bif inB place 0 1048576 && decide (0 ≤ most) then teF base l place else 2) else logF base bt l) == 0 then (l.drop (place - base).toNat).take most.toNat else []) = q3 at h1 h2 s2
  simp only [hCp, h1, h2, s2, Try.f7, n7k0, n7k1, n7k2, n7k3, n7ro, n7mv, n7gv, evFn_finish, bodyOf, Option.getD_some, ↓evCode_seq, ↓evCode_region, ↓evCode_condC, ↓evCode_skip, ↓evCode_ret, ↓evCode_exit, ↓evCode_loop, ↓evCode_block_seq, ↓evCode_block_region, ↓evCode_block_cond, ↓evCode_block_block, ↓evCode_block_skip, ↓cond_true, ↓cond_false, enter, List.toList_toArray, ↓evRegion_f, ↓evRegion_t, Bool.false_and, cond_false, evOps, ↓stepOp_m, guardB, yieldedD, isWork, cond_true, workOk, workOp, Mx.force, opnd, Mx.look, Nat.reduceBEq, solid, Mx.fit, fitCs, fitC, List.isEmpty_cons, List.isEmpty_nil, Bool.false_or, Bool.or_false, Bool.true_or, Bool.or_true, Bool.and_true, Bool.true_and, Bool.and_false, Bool.not_true, Bool.not_false, Bool.not_not, Bool.or_not_self, Bool.not_or_self, Bool.and_self, Bool.or_self, toVs, cellsOf, toV, setReg_m, spend_m, hasOwn, ownFree, List.all_cons, List.all_nil, ownFreeC, Mx.put, ofConst, ofCell, after_some, Mx.prune, List.map_cons, List.map_nil, killB, killBs, andThen_normal, andThen_ret, andThen_exit, andThen_bif, after_bif, branchC_b, unblock_normal, unblock_ret, unblock_exit, unblock_bif, pureOp, gx_m, putDst, offReg_m, callFails, isFuncCall, Option.isNone_none, Option.isNone_some, Option.isSome_none, Option.isSome_some, fieldOff, loadAt, partD, List.length_cons, List.length_nil, List.map, List.drop_succ_cons, List.drop_zero, List.take_succ_cons, List.take_zero, List.take_nil, List.drop_nil, List.getElem?_cons_zero, List.getElem?_cons_succ, List.getElem?_nil, Nat.reduceAdd, Nat.reduceMul, Nat.zero_add, Nat.add_zero, binD, binV, eqCells, eqC, lenD, sliceOf, ite_true, if_true, eq_self, reduceIte, reduceCtorEq, finish_ret, finish_normal, finish_bif, giveBack, resAll, resOne, outD, outOk, stayC, cellOk, valOk, lowC, lowP, List.take_zero, List.length_nil, forceAll, bound, asNat, elemIs, isStrK, sameInt, sliceD, kill, spendLoc, spendOk, setOwn, dropAl, dropAls, inReg, inObj, isCell, gone, List.contains_cons, List.contains_nil, List.elem_cons, List.elem_nil, lend, lendA, tracked, trackedA, noSl, noSlC, noSlV, bare, bareC, List.any_cons, List.any_nil, frz, frzC, frzReg_m, isGive, argE, argsE, isOwn, noOwn, fill, setCells, setVs, takeParts, rowsOf, inOrder, ownAt, List.set_cons_zero, List.set_cons_succ, List.nil_append, List.cons_append, List.append_nil, Nat.reduceBNe, Nat.reduceSub, Nat.reduceLT, Nat.reduceLeDiff, decide_true, decide_false, List.concat_eq_append, List.getElem?_append_right, List.singleton_append, Int.cast_ofNat_Int, again_norm, againN_some, trunc_m, lowA, lowLoc, again_ret, again_exit, again_bif, beq_self_eq_true, findLoop, Bool.cond_true_left, Bool.cond_false_right, Bool.cond_false_left, Bool.cond_true_right, ge_iff_le, gt_iff_lt, evOpsK, ↓kindOp_m, kindW, plainWork, ownsDst, calmOp, calm, calmC, calmP, immB, noLoc, noLocC, readsAt, plainK, freeOk, pairOk, rwOk, List.getD_cons_zero, List.getD_cons_succ, Op.operands, Bool.not_eq_true, Option.map_some, Option.map_none, Int.reduceBEq, Int.reduceLT, Int.reduceLE, Int.reduceNeg, Bool.decide_eq_true, Int.reduceBNe, pickOk_n, pickOk_p, pickOk_tn, pickOk_tp, pickOk_f, pickOk_x, pickOk_h, pickOk_g, outTup, cond_nest_t, cond_nest_f, cond_same, ty3, ty4, ty9, ty22, ty24, ty25, ty34, ty36, ty38]
end Go.Proofs.Ytnjkmbogbfjffaa
