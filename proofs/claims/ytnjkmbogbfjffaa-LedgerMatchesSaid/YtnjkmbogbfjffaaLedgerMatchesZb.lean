/- The code of these functions, run by the machine Mx, gives what the plain functions say, if their callees do (part 2). -/
import Derived.Test.YtnjkmbogbfjffaaWTy
import Derived.Test.YtnjkmbogbfjffaaLedgerMatchesD
set_option linter.unusedSimpArgs false
set_option linter.unusedVariables false
set_option linter.constructorNameAsVariable false
set_option linter.unnecessarySimpa false
namespace Go.Proofs.Ytnjkmbogbfjffaa
open Go Go.Mx Go.Proofs
/-! ### rostrumref.LogFault -/
def n51 : cC where
  keep := fun i => match i with
    | 0 => [1]
    | 1 => [1, 37]
    | 2 => [2]
    | 3 => [1, 3]
    | 4 => [1, 3, 42]
    | 5 => [1, 3]
    | 6 => [1, 3, 62]
    | 7 => [2]
    | 8 => [1, 3, 96]
    | 9 => [2]
    | 10 => [2]
    | _ => []
  ro := fun t => t == 1
  mv := fun _ => false
  give := fun _ => false
  free := fun i => match i with | 6 => [(0, 2), (1, 2), (8, 10), (9, 10), (8, 14), (9, 14), (10, 14), (11, 14), (12, 14), (13, 14), (8, 15), (9, 15), (10, 15), (11, 15), (12, 15), (13, 15)] | 8 => [(3, 5), (4, 5), (3, 9), (4, 9), (5, 9), (6, 9), (7, 9), (8, 9), (3, 10), (4, 10), (5, 10), (6, 10), (7, 10), (8, 10), (3, 11), (4, 11), (5, 11), (6, 11), (7, 11), (8, 11), (9, 11), (10, 11), (3, 12), (4, 12), (5, 12), (6, 12), (7, 12), (8, 12), (9, 12), (10, 12), (3, 13), (4, 13), (5, 13), (6, 13), (7, 13), (8, 13), (3, 14), (4, 14), (5, 14), (6, 14), (7, 14), (8, 14), (3, 15), (4, 15), (5, 15), (6, 15), (7, 15), (8, 15), (18, 20), (19, 20), (18, 24), (19, 24), (20, 24), (21, 24), (22, 24), (23, 24), (18, 25), (19, 25), (20, 25), (21, 25), (22, 25), (23, 25), (18, 26), (19, 26), (20, 26), (21, 26), (22, 26), (23, 26), (24, 26), (25, 26), (18, 27), (19, 27), (20, 27), (21, 27), (22, 27), (23, 27), (24, 27), (25, 27), (18, 28), (19, 28), (20, 28), (21, 28), (22, 28), (23, 28), (18, 29), (19, 29), (20, 29), (21, 29), (22, 29), (23, 29), (18, 30), (19, 30), (20, 30), (21, 30), (22, 30), (23, 30)] | _ => []
  alive := fun i x => match i, x with
    | 37, true => some []
    | 37, false => some [1]
    | 42, true => some [1, 3]
    | 42, false => some []
    | 62, true => some []
    | 62, false => some [1, 3]
    | 96, true => some []
    | 96, false => some [1, 3]
    | _, _ => none
theorem n51a37t (e : Env) (S : aA) : aw n51 37 true ⟨e, S⟩ = ⟨prune [] e, S⟩ := rfl
theorem n51a37f (e : Env) (S : aA) : aw n51 37 false ⟨e, S⟩ = ⟨prune [1] e, S⟩ := rfl
theorem n51a42t (e : Env) (S : aA) : aw n51 42 true ⟨e, S⟩ = ⟨prune [1, 3] e, S⟩ := rfl
theorem n51a42f (e : Env) (S : aA) : aw n51 42 false ⟨e, S⟩ = ⟨prune [] e, S⟩ := rfl
theorem n51a62t (e : Env) (S : aA) : aw n51 62 true ⟨e, S⟩ = ⟨prune [] e, S⟩ := rfl
theorem n51a62f (e : Env) (S : aA) : aw n51 62 false ⟨e, S⟩ = ⟨prune [1, 3] e, S⟩ := rfl
theorem n51a96t (e : Env) (S : aA) : aw n51 96 true ⟨e, S⟩ = ⟨prune [] e, S⟩ := rfl
theorem n51a96f (e : Env) (S : aA) : aw n51 96 false ⟨e, S⟩ = ⟨prune [1, 3] e, S⟩ := rfl
theorem n51k0 : n51.keep 0 = [1] := rfl
theorem n51k1 : n51.keep 1 = [1, 37] := rfl
theorem n51k2 : n51.keep 2 = [2] := rfl
theorem n51k3 : n51.keep 3 = [1, 3] := rfl
theorem n51k4 : n51.keep 4 = [1, 3, 42] := rfl
theorem n51k5 : n51.keep 5 = [1, 3] := rfl
theorem n51k6 : n51.keep 6 = [1, 3, 62] := rfl
theorem n51k7 : n51.keep 7 = [2] := rfl
theorem n51k8 : n51.keep 8 = [1, 3, 96] := rfl
theorem n51k9 : n51.keep 9 = [2] := rfl
theorem n51k10 : n51.keep 10 = [2] := rfl
theorem n51ro (t : Nat) : n51.ro t = (t == 1) := rfl
theorem n51mv (t : Nat) : n51.mv t = (false) := rfl
theorem n51gv (t : Nat) : n51.give t = (false) := rfl
theorem n51f6 : n51.free 6 = [(0, 2), (1, 2), (8, 10), (9, 10), (8, 14), (9, 14), (10, 14), (11, 14), (12, 14), (13, 14), (8, 15), (9, 15), (10, 15), (11, 15), (12, 15), (13, 15)] := rfl
theorem n51f8 : n51.free 8 = [(3, 5), (4, 5), (3, 9), (4, 9), (5, 9), (6, 9), (7, 9), (8, 9), (3, 10), (4, 10), (5, 10), (6, 10), (7, 10), (8, 10), (3, 11), (4, 11), (5, 11), (6, 11), (7, 11), (8, 11), (9, 11), (10, 11), (3, 12), (4, 12), (5, 12), (6, 12), (7, 12), (8, 12), (9, 12), (10, 12), (3, 13), (4, 13), (5, 13), (6, 13), (7, 13), (8, 13), (3, 14), (4, 14), (5, 14), (6, 14), (7, 14), (8, 14), (3, 15), (4, 15), (5, 15), (6, 15), (7, 15), (8, 15), (18, 20), (19, 20), (18, 24), (19, 24), (20, 24), (21, 24), (22, 24), (23, 24), (18, 25), (19, 25), (20, 25), (21, 25), (22, 25), (23, 25), (18, 26), (19, 26), (20, 26), (21, 26), (22, 26), (23, 26), (24, 26), (25, 26), (18, 27), (19, 27), (20, 27), (21, 27), (22, 27), (23, 27), (24, 27), (25, 27), (18, 28), (19, 28), (20, 28), (21, 28), (22, 28), (23, 28), (18, 29), (19, 29), (20, 29), (21, 29), (22, 29), (23, 29), (18, 30), (19, 30), (20, 30), (21, 30), (22, 30), (23, 30)] := rfl
theorem res51 : Try.f51.results.toList = [.tmp 2] := rfl
noncomputable def b51 : Code := aQ Try.f51
noncomputable def c51_0 : Code := (bz 0 (aQ Try.f51)).getD .skip
theorem fl51_0 : bz 0 b51 = some c51_0 := rfl
set_option maxRecDepth 100000 in
set_option maxHeartbeats 40000000 in
theorem rg_rostrumref_LogFault_k1 (C : ak) (k_rostrumref_In : K_rostrumref_In C) (p0 : GLog) (c : Code) (ho : cr 0 1 b51 = some c) (r : Bool) (hF : ck_rostrumref_LogFault_k1 p0 = some r) : aH TT C.wide (evW TT C.wide n51 b51) n51 c ⟨[(1, .rp [.i .i64 p0.fBase, .i .i64 p0.fBaseTerm, .sl 10 (ab GItem.row p0.fItems)])], []⟩ = some (.normal, ⟨[(1, .rp [.i .i64 p0.fBase, .i .i64 p0.fBaseTerm, .sl 10 (ab GItem.row p0.fItems)]), (37, .v (.b r))], []⟩) := by
  have e := Option.some.inj (ho.symm.trans (rfl : cr 0 1 b51 = some _))
  subst e
  clear ho
  unfold ck_rostrumref_LogFault_k1 at hF
  have g1 : C.wide 55 [.v (.i .i64 p0.fBase), .v (.i .i64 0), .v (.i .i64 1048576)] [] = some (.v (.b (rostrumref_In_v p0.fBase 0 1048576)), []) := k_rostrumref_In p0.fBase 0 1048576 _ (rostrumref_In_t p0.fBase 0 1048576)
  have g2 : rostrumref_In_v p0.fBase 0 1048576 = (decide (0 ≤ p0.fBase) && decide (p0.fBase ≤ 1048576)) := by first | rfl | (simp [rostrumref_In_v]; done) | (simp only [rostrumref_In_v]; decide)
  refine aT (decide (0 ≤ p0.fBase)) ?_ ?_
  focus
    intro h1
    replace hF := ar h1 hF
    have hR := Option.some.inj hF
    clear hF
    subst hR
  rotate_left 1
  intro h1
  replace hF := aq h1 hF
  refine aT (decide (p0.fBase ≤ 1048576)) ?_ ?_
  focus
    intro h2
    replace hF := ar h2 hF
    have hR := Option.some.inj hF
    clear hF
    subst hR
  rotate_left 1
  intro h2
  replace hF := aq h2 hF
  unfold ck_rostrumref_LogFault_k1_c0 at hF
  have g3 : C.wide 55 [.v (.i .i64 p0.fBaseTerm), .v (.i .i64 0), .v (.i .i64 1048576)] [] = some (.v (.b (rostrumref_In_v p0.fBaseTerm 0 1048576)), []) := k_rostrumref_In p0.fBaseTerm 0 1048576 _ (rostrumref_In_t p0.fBaseTerm 0 1048576)
  have g4 : rostrumref_In_v p0.fBaseTerm 0 1048576 = (decide (0 ≤ p0.fBaseTerm) && decide (p0.fBaseTerm ≤ 1048576)) := by first | rfl | (simp [rostrumref_In_v]; done) | (simp only [rostrumref_In_v]; decide)
  refine aT (decide (0 ≤ p0.fBaseTerm)) ?_ ?_
  focus
    intro h3
    replace hF := ar h3 hF
    have hR := Option.some.inj hF
    clear hF
    subst hR
  rotate_left 1
  intro h3
  replace hF := aq h3 hF
  refine aT (decide (p0.fBaseTerm ≤ 1048576)) ?_ ?_
  focus
    intro h4
    replace hF := ar h4 hF
    have hR := Option.some.inj hF
    clear hF
    subst hR
  rotate_left 1
  intro h4
  replace hF := aq h4 hF
  refine aG (p0.fBase == 0) ?_ ?_
  focus
    intro h5
    replace hF := aq h5 hF
    refine aT (p0.fBaseTerm == 0) ?_ ?_
    focus
      intro h6
      replace hF := ar h6 hF
      have hR := Option.some.inj hF
      clear hF
      subst hR
    rotate_left 1
    intro h6
    replace hF := aq h6 hF
    refine aG (decide (200 < (p0.fItems.length : Int))) ?_ ?_
    focus
      intro h7
      replace hF := aq h7 hF
      have hR := Option.some.inj hF
      clear hF
      subst hR
    rotate_left 1
    intro h7
    replace hF := ar h7 hF
    have hR := Option.some.inj hF
    clear hF
    subst hR
  rotate_left 3
  intro h5
  replace hF := ar h5 hF
  refine aG (p0.fBaseTerm == 0) ?_ ?_
  focus
    intro h6
    replace hF := aq h6 hF
    have hR := Option.some.inj hF
    clear hF
    subst hR
  rotate_left 1
  intro h6
  replace hF := ar h6 hF
  refine aG (decide (200 < (p0.fItems.length : Int))) ?_ ?_
  focus
    intro h7
    replace hF := aq h7 hF
    have hR := Option.some.inj hF
    clear hF
    subst hR
  rotate_left 1
  intro h7
  replace hF := ar h7 hF
  have hR := Option.some.inj hF
  clear hF
  subst hR
  all_goals (simp (maxSteps := 4000000) only [*, res51, n51a37t, n51a37f, n51a42t, n51a42f, n51a62t, n51a62f, n51a96t, n51a96f, n51k0, n51k1, n51k2, n51k3, n51k4, n51k5, n51k6, n51k7, n51k8, n51k9, n51k10, n51f6, n51f8, n51ro, n51mv, n51gv, ↓RP, RB, ↓ah, ↓ac, ↓af, ↓ad, ↓ae, enter, aW, aC, aZ, be, aM, Mx.bw, opnd, Mx.bF, Nat.reduceBEq, bK, Mx.fit, bI, bY, toVs, cellsOf, toV, aO, aB, ax, Mx.put, ofConst, ofCell, Mx.prune, killB, killBs, aK, putDst, au, ao, aD, loadAt, bM, List.map, Nat.reduceAdd, Nat.reduceMul, cm, cn, aF, eqC, cg, aN, reduceIte, reduceCtorEq, az, bn, bq, co, bN, bD, aL, bx, lowC, lowP, forceAll, bound, bW, bg, bv, aU, br, kill, spendLoc, spendOk, setOwn, dropAl, dropAls, bG, bP, bd, cb, lend, lendA, aS, ay, bU, bL, bare, bQ, frz, bZ, bo, argE, argsE, bB, bT, fill, setCells, bR, takeParts, bp, aR, ownAt, Nat.reduceBNe, Nat.reduceSub, Nat.reduceLT, Nat.reduceLeDiff, lowA, bi, bJ, av, aJ, aX, bX, bO, bE, bS, ce, bV, bk, aI, bh, bj, bf, cd, Op.operands, Int.reduceBEq, Int.reduceLT, Int.reduceLE, Int.reduceNeg, Int.reduceBNe, bl, newB, ch, ck, cj, bne, ↓aj, ↓ai, bc, aP, bm, bu, aE, bH, Call.operands, ty3, ty4, ty9, ty22, ty24, ty25, ty34, ty36, ty38, ↓aa _ _ _ _ 1])
def hd_rostrumref_LogFault_0 (p0 : GLog) (s : Int) : St := ⟨[(1, .rp [.i .i64 p0.fBase, .i .i64 p0.fBaseTerm, .sl 10 (ab GItem.row p0.fItems)]), (3, .v (.i .i64 s))], []⟩
def ou_rostrumref_LogFault_0 (p0 : GLog) (r : Unit ⊕ Unit) : Option (Ex × St) := match r with
  | .inl r => some (.ret, ⟨[(2, .v (.i .i64 13))], []⟩)
  | .inr r => some (.normal, ⟨[], []⟩)

set_option maxRecDepth 100000 in
set_option maxHeartbeats 40000000 in
theorem sl_rostrumref_LogFault_0 (C : ak) (k_rostrumref_ItemFault : K_rostrumref_ItemFault C) (p0 : GLog) (p1 : Int) (o : Int ⊕ (Unit ⊕ Unit)) (hF : st_rostrumref_LogFault_0 p0 p1 = some o) : evW TT C.wide n51 b51 0 (hd_rostrumref_LogFault_0 p0 p1) = Sum.elim (fun s => evW TT C.wide n51 b51 0 (hd_rostrumref_LogFault_0 p0 s)) (fun r => ou_rostrumref_LogFault_0 p0 r) o := by
  unfold st_rostrumref_LogFault_0 at hF
  try dsimp only at hF
  rw [ct TT n51 fl51_0]
  refine aT (decide (p1 < (p0.fItems.length : Int))) ?_ ?_
  focus
    intro h1
    replace hF := ar h1 hF
    have hR := Option.some.inj hF
    clear hF
    subst hR
  rotate_left 1
  intro h1
  replace hF := aq h1 hF
  unfold st_rostrumref_LogFault_0_c0 at hF
  revert hF
  cases h2 : idx p0.fItems p1
  focus
    intro hF
    cases hF
  rename_i x1
  intro hF
  try dsimp only at hF
  have g1 : decide (0 ≤ p1) = true := (cc h2).1
  have g2 : (ab GItem.row p0.fItems)[(p1 : Int).toNat]? = some [.i .i64 x1.fTerm, .i .i64 x1.fTime, .b x1.fNop, .i .i64 x1.fCall.fClient, .i .i64 x1.fCall.fSeq, .i .i64 x1.fCall.fCommand.fKind, .s x1.fCall.fCommand.fKey, .s x1.fCall.fCommand.fField, .s x1.fCall.fCommand.fText, .i .i64 x1.fCall.fCommand.fN] := ca _ h2
  have g3 : C.wide 58 [.agg [.v (.i .i64 x1.fTerm), .v (.i .i64 x1.fTime), .v (.b x1.fNop), .v (.i .i64 x1.fCall.fClient), .v (.i .i64 x1.fCall.fSeq), .v (.i .i64 x1.fCall.fCommand.fKind), .v (.s x1.fCall.fCommand.fKey), .v (.s x1.fCall.fCommand.fField), .v (.s x1.fCall.fCommand.fText), .v (.i .i64 x1.fCall.fCommand.fN)]] [] = some (.v (.i .i64 (rostrumref_ItemFault_v x1)), []) := k_rostrumref_ItemFault x1 _ (rostrumref_ItemFault_t x1)
  refine aT ((rostrumref_ItemFault_v x1) == 0) ?_ ?_
  focus
    intro h3
    replace hF := ar h3 hF
    have hR := Option.some.inj hF
    clear hF
    subst hR
  rotate_left 1
  intro h3
  replace hF := aq h3 hF
  refine aG (decide (x1.fTerm < p0.fBaseTerm)) ?_ ?_
  focus
    intro h4
    replace hF := aq h4 hF
    have hR := Option.some.inj hF
    clear hF
    subst hR
  rotate_left 1
  intro h4
  replace hF := ar h4 hF
  refine aT (decide (0 < p1)) ?_ ?_
  focus
    intro h5
    replace hF := ar h5 hF
    have hR := Option.some.inj hF
    clear hF
    subst hR
  rotate_left 1
  intro h5
  replace hF := aq h5 hF
  revert hF
  cases h6 : idx p0.fItems (IntKind.i64.wrap (p1 - 1))
  focus
    intro hF
    cases hF
  rename_i x2
  intro hF
  try dsimp only at hF
  have g4 : decide (0 ≤ (IntKind.i64.wrap (p1 - 1))) = true := (cc h6).1
  have g5 : (ab GItem.row p0.fItems)[((IntKind.i64.wrap (p1 - 1)) : Int).toNat]? = some [.i .i64 x2.fTerm, .i .i64 x2.fTime, .b x2.fNop, .i .i64 x2.fCall.fClient, .i .i64 x2.fCall.fSeq, .i .i64 x2.fCall.fCommand.fKind, .s x2.fCall.fCommand.fKey, .s x2.fCall.fCommand.fField, .s x2.fCall.fCommand.fText, .i .i64 x2.fCall.fCommand.fN] := ca _ h6
  refine aG (decide (x1.fTerm < x2.fTerm)) ?_ ?_
  focus
    intro h7
    replace hF := aq h7 hF
    have hR := Option.some.inj hF
    clear hF
    subst hR
  rotate_left 1
  intro h7
  replace hF := ar h7 hF
  refine aG (decide (x1.fTime < x2.fTime)) ?_ ?_
  focus
    intro h8
    replace hF := aq h8 hF
    have hR := Option.some.inj hF
    clear hF
    subst hR
  rotate_left 1
  intro h8
  replace hF := ar h8 hF
  have hR := Option.some.inj hF
  clear hF
  subst hR
  all_goals (show cD _ _ _ (aH _ _ _ _ (Code.seq _ _) _) = _; simp (maxSteps := 4000000) only [*, hd_rostrumref_LogFault_0, ou_rostrumref_LogFault_0, res51, n51a37t, n51a37f, n51a42t, n51a42f, n51a62t, n51a62f, n51a96t, n51a96f, n51k0, n51k1, n51k2, n51k3, n51k4, n51k5, n51k6, n51k7, n51k8, n51k9, n51k10, n51f6, n51f8, n51ro, n51mv, n51gv, ↓RP, RB, ↓ah, ↓ac, ↓af, ↓ad, ↓ae, enter, aW, aC, aZ, be, aM, Mx.bw, opnd, Mx.bF, Nat.reduceBEq, bK, Mx.fit, bI, bY, toVs, cellsOf, toV, aO, aB, ax, Mx.put, ofConst, ofCell, Mx.prune, killB, killBs, aK, putDst, au, ao, aD, loadAt, bM, List.map, Nat.reduceAdd, Nat.reduceMul, cm, cn, aF, eqC, cg, aN, reduceIte, reduceCtorEq, az, bn, bq, co, bN, bD, aL, bx, lowC, lowP, forceAll, bound, bW, bg, bv, aU, br, kill, spendLoc, spendOk, setOwn, dropAl, dropAls, bG, bP, bd, cb, lend, lendA, aS, ay, bU, bL, bare, bQ, frz, bZ, bo, argE, argsE, bB, bT, fill, setCells, bR, takeParts, bp, aR, ownAt, Nat.reduceBNe, Nat.reduceSub, Nat.reduceLT, Nat.reduceLeDiff, lowA, bi, bJ, av, aJ, aX, bX, bO, bE, bS, ce, bV, bk, aI, bh, bj, bf, cd, Op.operands, Int.reduceBEq, Int.reduceLT, Int.reduceLE, Int.reduceNeg, Int.reduceBNe, bl, newB, ch, ck, cj, bne, ↓aj, ↓ai, bc, aP, bm, bu, aE, bH, Call.operands, ty3, ty4, ty9, ty22, ty24, ty25, ty34, ty36, ty38, ↓aa _ _ _ _ 0, ↓bC _ _ _ _ 1, ↓aa _ _ _ _ 2, ↓aa _ _ _ _ 3, ↓aa _ _ _ _ 4, ↓am _ _ _ _ 6, ↓aa _ _ _ _ 7, ↓am _ _ _ _ 8, ↓aa _ _ _ _ 9, ↓aa _ _ _ _ 5, ↓aa _ _ _ _ 10])
set_option maxRecDepth 100000 in
set_option maxHeartbeats 40000000 in
theorem r_rostrumref_LogFault (C : ak) (k_rostrumref_In : K_rostrumref_In C) (k_rostrumref_ItemFault : K_rostrumref_ItemFault C) (p0 : GLog) (r : Int) (hF : rostrumref_LogFault p0 = some r) : cF TT C.wide (evW TT C.wide n51 b51) n51 Try.f51.results.toList (aQ Try.f51) [.agg [.v (.i .i64 p0.fBase), .v (.i .i64 p0.fBaseTerm), .v (.sl 10 (ab GItem.row p0.fItems))]] [] = some (.v (.i .i64 r), []) := by
  unfold rostrumref_LogFault at hF
  have g1 : @cR TT C.wide (evW TT C.wide n51 b51) n51 0 1 ⟨[(1, .rp [.i .i64 p0.fBase, .i .i64 p0.fBaseTerm, .sl 10 (ab GItem.row p0.fItems)])], []⟩ ⟨_⟩ = some (.normal, ⟨[(1, .rp [.i .i64 p0.fBase, .i .i64 p0.fBaseTerm, .sl 10 (ab GItem.row p0.fItems)]), (37, .v (.b (ck_rostrumref_LogFault_k1_v p0)))], []⟩) := rg_rostrumref_LogFault_k1 C k_rostrumref_In p0 _ rfl (ck_rostrumref_LogFault_k1_v p0) (ck_rostrumref_LogFault_k1_t p0)
  refine aG (ck_rostrumref_LogFault_k1_v p0) ?_ ?_
  focus
    intro h1
    replace hF := aq h1 hF
    have hR := Option.some.inj hF
    clear hF
    subst hR
  rotate_left 1
  intro h1
  replace hF := ar h1 hF
  revert hF
  cases h2 : ci (st_rostrumref_LogFault_0 p0) 0
  focus
    intro hF
    cases hF
  rename_i qh2
  cases qh2
  focus
    rename_i z0h2
    intro hF
    try dsimp only at hF
    have g2 : evW TT C.wide n51 b51 0 ⟨[(1, .rp [.i .i64 p0.fBase, .i .i64 p0.fBaseTerm, .sl 10 (ab GItem.row p0.fItems)]), (3, .v (.i .i64 0))], []⟩ = some (.ret, ⟨[(2, .v (.i .i64 13))], []⟩) := cy (hd_rostrumref_LogFault_0 p0) (ou_rostrumref_LogFault_0 p0) (fun s o hs => sl_rostrumref_LogFault_0 C k_rostrumref_ItemFault p0 s o hs) h2
    have hR := Option.some.inj hF
    clear hF
    subst hR
  rotate_left 1
  rename_i y0h2
  intro hF
  try dsimp only at hF
  have g3 : evW TT C.wide n51 b51 0 ⟨[(1, .rp [.i .i64 p0.fBase, .i .i64 p0.fBaseTerm, .sl 10 (ab GItem.row p0.fItems)]), (3, .v (.i .i64 0))], []⟩ = some (.normal, ⟨[], []⟩) := cy (hd_rostrumref_LogFault_0 p0) (ou_rostrumref_LogFault_0 p0) (fun s o hs => sl_rostrumref_LogFault_0 C k_rostrumref_ItemFault p0 s o hs) h2
  have hR := Option.some.inj hF
  clear hF
  subst hR
  all_goals (rw [ba]; show cp _ _ _ (aH _ _ _ _ (Code.seq _ _) _) = _; simp (maxSteps := 4000000) only [*, res51, n51a37t, n51a37f, n51a42t, n51a42f, n51a62t, n51a62f, n51a96t, n51a96f, n51k0, n51k1, n51k2, n51k3, n51k4, n51k5, n51k6, n51k7, n51k8, n51k9, n51k10, n51f6, n51f8, n51ro, n51mv, n51gv, ↓RP, RB, ↓ah, ↓ac, ↓af, ↓ad, ↓ae, enter, aW, aC, aZ, be, aM, Mx.bw, opnd, Mx.bF, Nat.reduceBEq, bK, Mx.fit, bI, bY, toVs, cellsOf, toV, aO, aB, ax, Mx.put, ofConst, ofCell, Mx.prune, killB, killBs, aK, putDst, au, ao, aD, loadAt, bM, List.map, Nat.reduceAdd, Nat.reduceMul, cm, cn, aF, eqC, cg, aN, reduceIte, reduceCtorEq, az, bn, bq, co, bN, bD, aL, bx, lowC, lowP, forceAll, bound, bW, bg, bv, aU, br, kill, spendLoc, spendOk, setOwn, dropAl, dropAls, bG, bP, bd, cb, lend, lendA, aS, ay, bU, bL, bare, bQ, frz, bZ, bo, argE, argsE, bB, bT, fill, setCells, bR, takeParts, bp, aR, ownAt, Nat.reduceBNe, Nat.reduceSub, Nat.reduceLT, Nat.reduceLeDiff, lowA, bi, bJ, av, aJ, aX, bX, bO, bE, bS, ce, bV, bk, aI, bh, bj, bf, cd, Op.operands, Int.reduceBEq, Int.reduceLT, Int.reduceLE, Int.reduceNeg, Int.reduceBNe, bl, newB, ch, ck, cj, bne, ↓aj, ↓ai, bc, aP, bm, bu, aE, bH, Call.operands, ty3, ty4, ty9, ty22, ty24, ty25, ty34, ty36, ty38, ↓aa _ _ _ _ 0, ↓bC _ _ _ _ 1, ↓aa _ _ _ _ 2, ↓aa _ _ _ _ 3, ↓aa _ _ _ _ 4, ↓am _ _ _ _ 6, ↓aa _ _ _ _ 7, ↓am _ _ _ _ 8, ↓aa _ _ _ _ 9, ↓aa _ _ _ _ 5, ↓aa _ _ _ _ 10])
/-! ### rostrumref.lastOf -/
def n53 : cC where
  keep := fun i => match i with
    | 0 => [1]
    | 1 => [2]
    | _ => []
  ro := fun t => t == 1
  mv := fun _ => false
  give := fun _ => false
  free := fun _ => []
theorem n53k0 : n53.keep 0 = [1] := rfl
theorem n53k1 : n53.keep 1 = [2] := rfl
theorem n53ro (t : Nat) : n53.ro t = (t == 1) := rfl
theorem n53mv (t : Nat) : n53.mv t = (false) := rfl
theorem n53gv (t : Nat) : n53.give t = (false) := rfl
theorem res53 : Try.f53.results.toList = [.tmp 2] := rfl
noncomputable def b53 : Code := aQ Try.f53
set_option maxRecDepth 100000 in
set_option maxHeartbeats 40000000 in
theorem r_rostrumref_lastOf (C : ak)  (p0 : GLog) (r : Int) (hF : rostrumref_lastOf p0 = some r) : cF TT C.wide (evW TT C.wide n53 b53) n53 Try.f53.results.toList (aQ Try.f53) [.agg [.v (.i .i64 p0.fBase), .v (.i .i64 p0.fBaseTerm), .v (.sl 10 (ab GItem.row p0.fItems))]] [] = some (.v (.i .i64 r), []) := by
  unfold rostrumref_lastOf at hF
  have hR := Option.some.inj hF
  clear hF
  subst hR
  all_goals (rw [ba]; show cp _ _ _ (aH _ _ _ _ (Code.seq _ _) _) = _; simp (maxSteps := 4000000) only [*, res53, n53k0, n53k1, n53ro, n53mv, n53gv, ↓RP, RB, ↓ah, ↓ac, ↓af, ↓ad, ↓ae, enter, aW, aC, aZ, be, aM, Mx.bw, opnd, Mx.bF, Nat.reduceBEq, bK, Mx.fit, bI, bY, toVs, cellsOf, toV, aO, aB, ax, Mx.put, ofConst, ofCell, Mx.prune, killB, killBs, aK, putDst, au, ao, aD, loadAt, bM, List.map, Nat.reduceAdd, Nat.reduceMul, cm, cn, aF, eqC, cg, aN, reduceIte, reduceCtorEq, az, bn, bq, co, bN, bD, aL, bx, lowC, lowP, forceAll, bound, bW, bg, bv, aU, br, kill, spendLoc, spendOk, setOwn, dropAl, dropAls, bG, bP, bd, cb, lend, lendA, aS, ay, bU, bL, bare, bQ, frz, bZ, bo, argE, argsE, bB, bT, fill, setCells, bR, takeParts, bp, aR, ownAt, Nat.reduceBNe, Nat.reduceSub, Nat.reduceLT, Nat.reduceLeDiff, lowA, bi, bJ, av, aJ, aX, bX, bO, bE, bS, ce, bV, bk, aI, bh, bj, bf, cd, Op.operands, Int.reduceBEq, Int.reduceLT, Int.reduceLE, Int.reduceNeg, Int.reduceBNe, bl, newB, ch, ck, cj, bne, ↓aj, ↓ai, ↓aa, ↓am, bc, aP, bm, bu, aE, bH, Call.operands, ty3, ty4, ty9, ty22, ty24, ty34, ty36, ty38])
/-! ### rostrumref.termAt -/
def n52 : cC where
  keep := fun i => match i with
    | 0 => [1, 2]
    | 1 => [1, 2, 8]
    | 2 => [4]
    | 3 => [1, 2, 12]
    | 4 => [4]
    | 5 => [1, 2, 16]
    | 6 => [4]
    | 7 => [4]
    | _ => []
  ro := fun t => t == 2
  mv := fun _ => false
  give := fun _ => false
  free := fun _ => []
  alive := fun i x => match i, x with
    | 8, true => some []
    | 8, false => some [1, 2]
    | 12, true => some []
    | 12, false => some [1, 2]
    | 16, true => some [2]
    | 16, false => some [1, 2]
    | _, _ => none
theorem n52a8t (e : Env) (S : aA) : aw n52 8 true ⟨e, S⟩ = ⟨prune [] e, S⟩ := rfl
theorem n52a8f (e : Env) (S : aA) : aw n52 8 false ⟨e, S⟩ = ⟨prune [1, 2] e, S⟩ := rfl
theorem n52a12t (e : Env) (S : aA) : aw n52 12 true ⟨e, S⟩ = ⟨prune [] e, S⟩ := rfl
theorem n52a12f (e : Env) (S : aA) : aw n52 12 false ⟨e, S⟩ = ⟨prune [1, 2] e, S⟩ := rfl
theorem n52a16t (e : Env) (S : aA) : aw n52 16 true ⟨e, S⟩ = ⟨prune [2] e, S⟩ := rfl
theorem n52a16f (e : Env) (S : aA) : aw n52 16 false ⟨e, S⟩ = ⟨prune [1, 2] e, S⟩ := rfl
theorem n52k0 : n52.keep 0 = [1, 2] := rfl
theorem n52k1 : n52.keep 1 = [1, 2, 8] := rfl
theorem n52k2 : n52.keep 2 = [4] := rfl
theorem n52k3 : n52.keep 3 = [1, 2, 12] := rfl
theorem n52k4 : n52.keep 4 = [4] := rfl
theorem n52k5 : n52.keep 5 = [1, 2, 16] := rfl
theorem n52k6 : n52.keep 6 = [4] := rfl
theorem n52k7 : n52.keep 7 = [4] := rfl
theorem n52ro (t : Nat) : n52.ro t = (t == 2) := rfl
theorem n52mv (t : Nat) : n52.mv t = (false) := rfl
theorem n52gv (t : Nat) : n52.give t = (false) := rfl
theorem res52 : Try.f52.results.toList = [.tmp 4] := rfl
noncomputable def b52 : Code := aQ Try.f52
set_option maxRecDepth 100000 in
set_option maxHeartbeats 40000000 in
theorem r_rostrumref_termAt (C : ak) (k_rostrumref_lastOf : K_rostrumref_lastOf C) (p0 : GLog) (p1 : Int) (r : Int) (hF : rostrumref_termAt p0 p1 = some r) : cF TT C.wide (evW TT C.wide n52 b52) n52 Try.f52.results.toList (aQ Try.f52) [.agg [.v (.i .i64 p0.fBase), .v (.i .i64 p0.fBaseTerm), .v (.sl 10 (ab GItem.row p0.fItems))], .v (.i .i64 p1)] [] = some (.v (.i .i64 r), []) := by
  unfold rostrumref_termAt at hF
  refine aG (decide (p1 < p0.fBase)) ?_ ?_
  focus
    intro h1
    replace hF := aq h1 hF
    have hR := Option.some.inj hF
    clear hF
    subst hR
  rotate_left 1
  intro h1
  replace hF := ar h1 hF
  have g1 : C.wide 53 [.agg [.v (.i .i64 p0.fBase), .v (.i .i64 p0.fBaseTerm), .v (.sl 10 (ab GItem.row p0.fItems))]] [] = some (.v (.i .i64 (rostrumref_lastOf_v p0)), []) := k_rostrumref_lastOf p0 _ (rostrumref_lastOf_t p0)
  refine aG (decide ((rostrumref_lastOf_v p0) < p1)) ?_ ?_
  focus
    intro h2
    replace hF := aq h2 hF
    have hR := Option.some.inj hF
    clear hF
    subst hR
  rotate_left 1
  intro h2
  replace hF := ar h2 hF
  refine aG (p1 == p0.fBase) ?_ ?_
  focus
    intro h3
    replace hF := aq h3 hF
    have hR := Option.some.inj hF
    clear hF
    subst hR
  rotate_left 1
  intro h3
  replace hF := ar h3 hF
  revert hF
  cases h4 : idx p0.fItems (IntKind.i64.wrap ((IntKind.i64.wrap (p1 - p0.fBase)) - 1))
  focus
    intro hF
    cases hF
  rename_i x1
  intro hF
  try dsimp only at hF
  have g2 : decide (0 ≤ (IntKind.i64.wrap ((IntKind.i64.wrap (p1 - p0.fBase)) - 1))) = true := (cc h4).1
  have g3 : (ab GItem.row p0.fItems)[((IntKind.i64.wrap ((IntKind.i64.wrap (p1 - p0.fBase)) - 1)) : Int).toNat]? = some [.i .i64 x1.fTerm, .i .i64 x1.fTime, .b x1.fNop, .i .i64 x1.fCall.fClient, .i .i64 x1.fCall.fSeq, .i .i64 x1.fCall.fCommand.fKind, .s x1.fCall.fCommand.fKey, .s x1.fCall.fCommand.fField, .s x1.fCall.fCommand.fText, .i .i64 x1.fCall.fCommand.fN] := ca _ h4
  have hR := Option.some.inj hF
  clear hF
  subst hR
  all_goals (rw [ba]; show cp _ _ _ (aH _ _ _ _ (Code.seq _ _) _) = _; simp (maxSteps := 4000000) only [*, res52, n52a8t, n52a8f, n52a12t, n52a12f, n52a16t, n52a16f, n52k0, n52k1, n52k2, n52k3, n52k4, n52k5, n52k6, n52k7, n52ro, n52mv, n52gv, ↓RP, RB, ↓ah, ↓ac, ↓af, ↓ad, ↓ae, enter, aW, aC, aZ, be, aM, Mx.bw, opnd, Mx.bF, Nat.reduceBEq, bK, Mx.fit, bI, bY, toVs, cellsOf, toV, aO, aB, ax, Mx.put, ofConst, ofCell, Mx.prune, killB, killBs, aK, putDst, au, ao, aD, loadAt, bM, List.map, Nat.reduceAdd, Nat.reduceMul, cm, cn, aF, eqC, cg, aN, reduceIte, reduceCtorEq, az, bn, bq, co, bN, bD, aL, bx, lowC, lowP, forceAll, bound, bW, bg, bv, aU, br, kill, spendLoc, spendOk, setOwn, dropAl, dropAls, bG, bP, bd, cb, lend, lendA, aS, ay, bU, bL, bare, bQ, frz, bZ, bo, argE, argsE, bB, bT, fill, setCells, bR, takeParts, bp, aR, ownAt, Nat.reduceBNe, Nat.reduceSub, Nat.reduceLT, Nat.reduceLeDiff, lowA, bi, bJ, av, aJ, aX, bX, bO, bE, bS, ce, bV, bk, aI, bh, bj, bf, cd, Op.operands, Int.reduceBEq, Int.reduceLT, Int.reduceLE, Int.reduceNeg, Int.reduceBNe, bl, newB, ch, ck, cj, bne, ↓aj, ↓ai, ↓aa, ↓am, bc, aP, bm, bu, aE, bH, Call.operands, ty3, ty4, ty9, ty22, ty24, ty34, ty36, ty38])
/-! ### rostrumref.Matched -/
def n33 : cC where
  keep := fun i => match i with
    | 0 => [1, 2, 3, 4, 8]
    | 1 => [1, 2, 3, 4, 8, 12]
    | 2 => [1, 2, 3, 4, 8, 12, 29]
    | 3 => [1, 2, 3, 4, 8, 12]
    | 4 => [1, 2, 3, 4, 8, 12, 31]
    | 5 => [8, 9, 10, 11]
    | 6 => [1, 2, 3, 4, 8, 13]
    | 7 => [1, 3, 4, 8, 13, 46]
    | 8 => [8, 9, 10, 11]
    | 9 => [1, 3, 4, 8, 13, 14]
    | 10 => [1, 3, 4, 8, 13, 14, 51]
    | 11 => [1, 3, 4, 8, 13, 14]
    | 12 => [1, 3, 4, 8, 13, 14, 15]
    | 13 => [1, 3, 4, 8, 13, 14, 15, 72]
    | 14 => [3, 4, 8, 13, 14, 15]
    | 15 => [3, 4, 8, 13, 14, 15, 16]
    | 16 => [3, 4, 8, 13, 14, 15, 16, 79]
    | 17 => [3, 4, 8, 13, 14, 15, 16]
    | 18 => [3, 4, 8, 13, 14, 15, 16]
    | 19 => [3, 8, 13, 15, 17]
    | 20 => [3, 8, 13, 15, 17, 100]
    | 21 => [3, 8, 13, 15, 17]
    | 22 => [3, 8, 13, 15, 17]
    | 23 => [8, 13, 15, 114]
    | 24 => [8, 9, 10, 11]
    | 25 => [8, 9, 10, 11]
    | 26 => [8, 9, 10, 11]
    | _ => []
  ro := fun t => t == 4
  mv := fun t => t == 116
  give := fun _ => false
  free := fun i => match i with | 13 => [(0, 1), (0, 2), (5, 6), (5, 8), (6, 8), (7, 8), (5, 9), (6, 9), (7, 9), (8, 9), (5, 10), (6, 10), (7, 10), (5, 11), (6, 11), (7, 11), (5, 12), (6, 12), (7, 12)] | 18 => [(0, 2), (1, 2), (0, 3), (1, 3), (0, 4), (1, 4), (2, 4), (3, 4), (0, 5), (1, 5), (2, 5), (3, 5), (4, 5), (0, 6), (1, 6), (2, 6), (3, 6), (4, 6), (0, 7), (1, 7), (2, 7), (3, 7), (0, 8), (1, 8), (2, 8), (3, 8), (0, 9), (1, 9), (0, 10), (1, 10), (0, 11), (1, 11)] | 22 => [(0, 2), (1, 2), (0, 3), (1, 3), (2, 3), (0, 4), (1, 4), (0, 5), (1, 5), (0, 6), (1, 6)] | _ => []
  alive := fun i x => match i, x with
    | 29, true => some [1, 2, 3, 4, 8]
    | 29, false => some [1, 2, 3, 4, 8, 12]
    | 31, true => some [8, 12]
    | 31, false => some [1, 2, 3, 4, 8]
    | 46, true => some [8, 13]
    | 46, false => some [1, 3, 4, 8, 13]
    | 51, true => some [1, 3, 4, 8, 13, 14]
    | 51, false => some [8, 13]
    | 72, true => some [1, 3, 4, 8, 13, 14]
    | 72, false => some [3, 4, 8, 13, 14, 15]
    | 79, true => some [3, 4, 8, 13, 14, 15, 16]
    | 79, false => some [3, 8, 13, 14, 15]
    | 100, true => some [3, 8, 13, 15, 17]
    | 100, false => some [8, 13, 15]
    | 114, true => some [8]
    | 114, false => some [8, 13, 15]
    | _, _ => none
theorem n33a29t (e : Env) (S : aA) : aw n33 29 true ⟨e, S⟩ = ⟨prune [1, 2, 3, 4, 8] e, S⟩ := rfl
theorem n33a29f (e : Env) (S : aA) : aw n33 29 false ⟨e, S⟩ = ⟨prune [1, 2, 3, 4, 8, 12] e, S⟩ := rfl
theorem n33a31t (e : Env) (S : aA) : aw n33 31 true ⟨e, S⟩ = ⟨prune [8, 12] e, S⟩ := rfl
theorem n33a31f (e : Env) (S : aA) : aw n33 31 false ⟨e, S⟩ = ⟨prune [1, 2, 3, 4, 8] e, S⟩ := rfl
theorem n33a46t (e : Env) (S : aA) : aw n33 46 true ⟨e, S⟩ = ⟨prune [8, 13] e, S⟩ := rfl
theorem n33a46f (e : Env) (S : aA) : aw n33 46 false ⟨e, S⟩ = ⟨prune [1, 3, 4, 8, 13] e, S⟩ := rfl
theorem n33a51t (e : Env) (S : aA) : aw n33 51 true ⟨e, S⟩ = ⟨prune [1, 3, 4, 8, 13, 14] e, S⟩ := rfl
theorem n33a51f (e : Env) (S : aA) : aw n33 51 false ⟨e, S⟩ = ⟨prune [8, 13] e, S⟩ := rfl
theorem n33a72t (e : Env) (S : aA) : aw n33 72 true ⟨e, S⟩ = ⟨prune [1, 3, 4, 8, 13, 14] e, S⟩ := rfl
theorem n33a72f (e : Env) (S : aA) : aw n33 72 false ⟨e, S⟩ = ⟨prune [3, 4, 8, 13, 14, 15] e, S⟩ := rfl
theorem n33a79t (e : Env) (S : aA) : aw n33 79 true ⟨e, S⟩ = ⟨prune [3, 4, 8, 13, 14, 15, 16] e, S⟩ := rfl
theorem n33a79f (e : Env) (S : aA) : aw n33 79 false ⟨e, S⟩ = ⟨prune [3, 8, 13, 14, 15] e, S⟩ := rfl
theorem n33a100t (e : Env) (S : aA) : aw n33 100 true ⟨e, S⟩ = ⟨prune [3, 8, 13, 15, 17] e, S⟩ := rfl
theorem n33a100f (e : Env) (S : aA) : aw n33 100 false ⟨e, S⟩ = ⟨prune [8, 13, 15] e, S⟩ := rfl
theorem n33a114t (e : Env) (S : aA) : aw n33 114 true ⟨e, S⟩ = ⟨prune [8] e, S⟩ := rfl
theorem n33a114f (e : Env) (S : aA) : aw n33 114 false ⟨e, S⟩ = ⟨prune [8, 13, 15] e, S⟩ := rfl
theorem n33k0 : n33.keep 0 = [1, 2, 3, 4, 8] := rfl
theorem n33k1 : n33.keep 1 = [1, 2, 3, 4, 8, 12] := rfl
theorem n33k2 : n33.keep 2 = [1, 2, 3, 4, 8, 12, 29] := rfl
theorem n33k3 : n33.keep 3 = [1, 2, 3, 4, 8, 12] := rfl
theorem n33k4 : n33.keep 4 = [1, 2, 3, 4, 8, 12, 31] := rfl
theorem n33k5 : n33.keep 5 = [8, 9, 10, 11] := rfl
theorem n33k6 : n33.keep 6 = [1, 2, 3, 4, 8, 13] := rfl
theorem n33k7 : n33.keep 7 = [1, 3, 4, 8, 13, 46] := rfl
theorem n33k8 : n33.keep 8 = [8, 9, 10, 11] := rfl
theorem n33k9 : n33.keep 9 = [1, 3, 4, 8, 13, 14] := rfl
theorem n33k10 : n33.keep 10 = [1, 3, 4, 8, 13, 14, 51] := rfl
theorem n33k11 : n33.keep 11 = [1, 3, 4, 8, 13, 14] := rfl
theorem n33k12 : n33.keep 12 = [1, 3, 4, 8, 13, 14, 15] := rfl
theorem n33k13 : n33.keep 13 = [1, 3, 4, 8, 13, 14, 15, 72] := rfl
theorem n33k14 : n33.keep 14 = [3, 4, 8, 13, 14, 15] := rfl
theorem n33k15 : n33.keep 15 = [3, 4, 8, 13, 14, 15, 16] := rfl
theorem n33k16 : n33.keep 16 = [3, 4, 8, 13, 14, 15, 16, 79] := rfl
theorem n33k17 : n33.keep 17 = [3, 4, 8, 13, 14, 15, 16] := rfl
theorem n33k18 : n33.keep 18 = [3, 4, 8, 13, 14, 15, 16] := rfl
theorem n33k19 : n33.keep 19 = [3, 8, 13, 15, 17] := rfl
theorem n33k20 : n33.keep 20 = [3, 8, 13, 15, 17, 100] := rfl
theorem n33k21 : n33.keep 21 = [3, 8, 13, 15, 17] := rfl
theorem n33k22 : n33.keep 22 = [3, 8, 13, 15, 17] := rfl
theorem n33k23 : n33.keep 23 = [8, 13, 15, 114] := rfl
theorem n33k24 : n33.keep 24 = [8, 9, 10, 11] := rfl
theorem n33k25 : n33.keep 25 = [8, 9, 10, 11] := rfl
theorem n33k26 : n33.keep 26 = [8, 9, 10, 11] := rfl
theorem n33ro (t : Nat) : n33.ro t = (t == 4) := rfl
theorem n33mv (t : Nat) : n33.mv t = (t == 116) := rfl
theorem n33gv (t : Nat) : n33.give t = (false) := rfl
theorem n33f13 : n33.free 13 = [(0, 1), (0, 2), (5, 6), (5, 8), (6, 8), (7, 8), (5, 9), (6, 9), (7, 9), (8, 9), (5, 10), (6, 10), (7, 10), (5, 11), (6, 11), (7, 11), (5, 12), (6, 12), (7, 12)] := rfl
theorem n33f18 : n33.free 18 = [(0, 2), (1, 2), (0, 3), (1, 3), (0, 4), (1, 4), (2, 4), (3, 4), (0, 5), (1, 5), (2, 5), (3, 5), (4, 5), (0, 6), (1, 6), (2, 6), (3, 6), (4, 6), (0, 7), (1, 7), (2, 7), (3, 7), (0, 8), (1, 8), (2, 8), (3, 8), (0, 9), (1, 9), (0, 10), (1, 10), (0, 11), (1, 11)] := rfl
theorem n33f22 : n33.free 22 = [(0, 2), (1, 2), (0, 3), (1, 3), (2, 3), (0, 4), (1, 4), (0, 5), (1, 5), (0, 6), (1, 6)] := rfl
theorem res33 : Try.f33.results.toList = [.cell 8 24, .tmp 9, .tmp 10, .tmp 11] := rfl
noncomputable def b33 : Code := aQ Try.f33
noncomputable def c33_0 : Code := (bz 0 (aQ Try.f33)).getD .skip
theorem fl33_0 : bz 0 b33 = some c33_0 := rfl
noncomputable def c33_2 : Code := (bz 2 (aQ Try.f33)).getD .skip
theorem fl33_2 : bz 2 b33 = some c33_2 := rfl
noncomputable def c33_4 : Code := (bz 4 (aQ Try.f33)).getD .skip
theorem fl33_4 : bz 4 b33 = some c33_4 := rfl
set_option maxRecDepth 100000 in
set_option maxHeartbeats 40000000 in
theorem rg_rostrumref_Matched_q29 (C : ak)  (p0 : Int) (p1 : Int) (p2 : List GItem) (p3 : GLog) (p4 : Int) (p5 : Bool) (c : Code) (ho : cr 1 29 b33 = some c) (r : Int) (hF : ck_rostrumref_Matched_q29 p0 p1 p2 p3 p4 p5 = some r) : aH TT C.wide (evW TT C.wide n33 b33) n33 c ⟨[(1, .v (.i .i64 p0)), (2, .v (.i .i64 p1)), (3, .v (.sl 10 (ab GItem.row p2))), (4, .rp [.i .i64 p3.fBase, .i .i64 p3.fBaseTerm, .sl 10 (ab GItem.row p3.fItems)]), (8, .ptr 0 0), (12, .v (.i .i64 p4)), (29, .v (.b p5))], [[.v (.i .i64 0), .v (.i .i64 0), .own 10 []]]⟩ = some (.normal, ⟨[(1, .v (.i .i64 p0)), (2, .v (.i .i64 p1)), (3, .v (.sl 10 (ab GItem.row p2))), (4, .rp [.i .i64 p3.fBase, .i .i64 p3.fBaseTerm, .sl 10 (ab GItem.row p3.fItems)]), (8, .ptr 0 0), (12, .v (.i .i64 r))], [[.v (.i .i64 0), .v (.i .i64 0), .own 10 []]]⟩) := by
  have e := Option.some.inj (ho.symm.trans (rfl : cr 1 29 b33 = some _))
  subst e
  clear ho
  unfold ck_rostrumref_Matched_q29 at hF
  refine aG p5 ?_ ?_
  focus
    intro h1
    replace hF := aq h1 hF
    have hR := Option.some.inj hF
    clear hF
    subst hR
  rotate_left 1
  intro h1
  replace hF := ar h1 hF
  have hR := Option.some.inj hF
  clear hF
  subst hR
  all_goals (simp (maxSteps := 4000000) only [*, res33, n33a29t, n33a29f, n33a31t, n33a31f, n33a46t, n33a46f, n33a51t, n33a51f, n33a72t, n33a72f, n33a79t, n33a79f, n33a100t, n33a100f, n33a114t, n33a114f, n33k0, n33k1, n33k2, n33k3, n33k4, n33k5, n33k6, n33k7, n33k8, n33k9, n33k10, n33k11, n33k12, n33k13, n33k14, n33k15, n33k16, n33k17, n33k18, n33k19, n33k20, n33k21, n33k22, n33k23, n33k24, n33k25, n33k26, n33f13, n33f18, n33f22, n33ro, n33mv, n33gv, ↓RP, RB, ↓ah, ↓ac, ↓af, ↓ad, ↓ae, enter, aW, aC, aZ, be, aM, Mx.bw, opnd, Mx.bF, Nat.reduceBEq, bK, Mx.fit, bI, bY, toVs, cellsOf, toV, aO, aB, ax, Mx.put, ofConst, ofCell, Mx.prune, killB, killBs, aK, putDst, au, ao, aD, loadAt, bM, List.map, Nat.reduceAdd, Nat.reduceMul, cm, cn, aF, eqC, cg, aN, reduceIte, reduceCtorEq, az, bn, bq, co, bN, bD, aL, bx, lowC, lowP, forceAll, bound, bW, bg, bv, aU, br, kill, spendLoc, spendOk, setOwn, dropAl, dropAls, bG, bP, bd, cb, lend, lendA, aS, ay, bU, bL, bare, bQ, frz, bZ, bo, argE, argsE, bB, bT, fill, setCells, bR, takeParts, bp, aR, ownAt, Nat.reduceBNe, Nat.reduceSub, Nat.reduceLT, Nat.reduceLeDiff, lowA, bi, bJ, av, aJ, aX, bX, bO, bE, bS, ce, bV, bk, aI, bh, bj, bf, cd, Op.operands, Int.reduceBEq, Int.reduceLT, Int.reduceLE, Int.reduceNeg, Int.reduceBNe, bl, newB, ch, ck, cj, bne, ↓aj, ↓ai, bc, aP, bm, bu, aE, bH, Call.operands, ty3, ty4, ty9, ty22, ty24, ty25, ty34, ty36, ty38, ↓aa _ _ _ _ 3])
def hd_rostrumref_Matched_2 (p0 : List GItem) (p1 : GLog) (p2 : Int) (s : Int × GLog) : St := ⟨[(3, .v (.sl 10 (ab GItem.row p0))), (4, .rp [.i .i64 p1.fBase, .i .i64 p1.fBaseTerm, .sl 10 (ab GItem.row p1.fItems)]), (8, .ptr 0 0), (13, .ptr 1 0), (14, .v (.i .i64 0)), (15, .v (.i .i64 p2)), (16, .v (.i .i64 s.1))], [[.v (.i .i64 0), .v (.i .i64 0), .own 10 []], [.v (.i .i64 s.2.fBase), .v (.i .i64 s.2.fBaseTerm), .own 10 (ab GItem.row s.2.fItems)]]⟩
def ou_rostrumref_Matched_2 (p0 : List GItem) (p1 : GLog) (p2 : Int) (r : GLog) : Option (Ex × St) := some (.normal, ⟨[(3, .v (.sl 10 (ab GItem.row p0))), (8, .ptr 0 0), (13, .ptr 1 0), (14, .v (.i .i64 0)), (15, .v (.i .i64 p2))], [[.v (.i .i64 0), .v (.i .i64 0), .own 10 []], [.v (.i .i64 r.fBase), .v (.i .i64 r.fBaseTerm), .own 10 (ab GItem.row r.fItems)]]⟩)
set_option maxRecDepth 100000 in
set_option maxHeartbeats 40000000 in
theorem sl_rostrumref_Matched_2 (C : ak)  (p0 : List GItem) (p1 : GLog) (p2 : Int) (s : Int × GLog) (o : (Int × GLog) ⊕ GLog) (hF : st_rostrumref_Matched_2 p0 p1 p2 s = some o) : evW TT C.wide n33 b33 2 (hd_rostrumref_Matched_2 p0 p1 p2 s) = Sum.elim (fun s => evW TT C.wide n33 b33 2 (hd_rostrumref_Matched_2 p0 p1 p2 s)) (fun r => ou_rostrumref_Matched_2 p0 p1 p2 r) o := by
  obtain ⟨p3, p4⟩ := s
  unfold st_rostrumref_Matched_2 at hF
  try dsimp only at hF
  rw [ct TT n33 fl33_2]
  refine aT (decide (p3 < p2)) ?_ ?_
  focus
    intro h1
    replace hF := ar h1 hF
    have hR := Option.some.inj hF
    clear hF
    subst hR
  rotate_left 1
  intro h1
  replace hF := aq h1 hF
  revert hF
  cases h2 : idx p1.fItems (IntKind.i64.wrap ((IntKind.i64.wrap (p3 - p1.fBase)) - 1))
  focus
    intro hF
    cases hF
  rename_i x1
  intro hF
  try dsimp only at hF
  have g1 : decide (0 ≤ (IntKind.i64.wrap ((IntKind.i64.wrap (p3 - p1.fBase)) - 1))) = true := (cc h2).1
  have g2 : (ab GItem.row p1.fItems)[((IntKind.i64.wrap ((IntKind.i64.wrap (p3 - p1.fBase)) - 1)) : Int).toNat]? = some [.i .i64 x1.fTerm, .i .i64 x1.fTime, .b x1.fNop, .i .i64 x1.fCall.fClient, .i .i64 x1.fCall.fSeq, .i .i64 x1.fCall.fCommand.fKind, .s x1.fCall.fCommand.fKey, .s x1.fCall.fCommand.fField, .s x1.fCall.fCommand.fText, .i .i64 x1.fCall.fCommand.fN] := ca _ h2
  refine aG (cH (p4.fItems.length + 1) 104) ?_ ?_
  focus
    intro h3
    replace hF := aq h3 hF
    have hR := Option.some.inj hF
    clear hF
    subst hR
  rotate_left 1
  intro h3
  replace hF := ar h3 hF
  cases hF
  all_goals (show cD _ _ _ (aH _ _ _ _ (Code.seq _ _) _) = _; simp (maxSteps := 4000000) only [*, hd_rostrumref_Matched_2, ou_rostrumref_Matched_2, res33, n33a29t, n33a29f, n33a31t, n33a31f, n33a46t, n33a46f, n33a51t, n33a51f, n33a72t, n33a72f, n33a79t, n33a79f, n33a100t, n33a100f, n33a114t, n33a114f, n33k0, n33k1, n33k2, n33k3, n33k4, n33k5, n33k6, n33k7, n33k8, n33k9, n33k10, n33k11, n33k12, n33k13, n33k14, n33k15, n33k16, n33k17, n33k18, n33k19, n33k20, n33k21, n33k22, n33k23, n33k24, n33k25, n33k26, n33f13, n33f18, n33f22, n33ro, n33mv, n33gv, ↓RP, RB, ↓ah, ↓ac, ↓af, ↓ad, ↓ae, enter, aW, aC, aZ, be, aM, Mx.bw, opnd, Mx.bF, Nat.reduceBEq, bK, Mx.fit, bI, bY, toVs, cellsOf, toV, aO, aB, ax, Mx.put, ofConst, ofCell, Mx.prune, killB, killBs, aK, putDst, au, ao, aD, loadAt, bM, List.map, Nat.reduceAdd, Nat.reduceMul, cm, cn, aF, eqC, cg, aN, reduceIte, reduceCtorEq, az, bn, bq, co, bN, bD, aL, bx, lowC, lowP, forceAll, bound, bW, bg, bv, aU, br, kill, spendLoc, spendOk, setOwn, dropAl, dropAls, bG, bP, bd, cb, lend, lendA, aS, ay, bU, bL, bare, bQ, frz, bZ, bo, argE, argsE, bB, bT, fill, setCells, bR, takeParts, bp, aR, ownAt, Nat.reduceBNe, Nat.reduceSub, Nat.reduceLT, Nat.reduceLeDiff, lowA, bi, bJ, av, aJ, aX, bX, bO, bE, bS, ce, bV, bk, aI, bh, bj, bf, cd, Op.operands, Int.reduceBEq, Int.reduceLT, Int.reduceLE, Int.reduceNeg, Int.reduceBNe, bl, newB, ch, ck, cj, bne, ↓aj, bc, aP, bm, bu, aE, bH, Call.operands, ty3, ty4, ty9, ty22, ty24, ty25, ty34, ty36, ty38, GItem.cons, GItem.one, GItem.rep, GItem.set, ↓aa _ _ _ _ 0, ↓aa _ _ _ _ 1, ↓aa _ _ _ _ 2, ↓cP _ _ _ _ 29, ↓aa _ _ _ _ 3, ↓aa _ _ _ _ 4, ↓ai _ _ _ _ 31, ↓aa _ _ _ _ 5, ↓aa _ _ _ _ 6, ↓aa _ _ _ _ 7, ↓ai _ _ _ _ 46, ↓aa _ _ _ _ 8, ↓aa _ _ _ _ 9, ↓aa _ _ _ _ 10, ↓ai _ _ _ _ 51, ↓aa _ _ _ _ 12, ↓am _ _ _ _ 13, ↓ai _ _ _ _ 72, ↓aa _ _ _ _ 14, ↓aa _ _ _ _ 15, ↓aa _ _ _ _ 16, ↓ai _ _ _ _ 79, ↓am _ _ _ _ 18, ↓aa _ _ _ _ 17, ↓aa _ _ _ _ 19, ↓aa _ _ _ _ 20, ↓ai _ _ _ _ 100, ↓am _ _ _ _ 22, ↓aa _ _ _ _ 21, ↓aa _ _ _ _ 23, ↓ai _ _ _ _ 114, ↓aa _ _ _ _ 24, ↓aa _ _ _ _ 25, ↓aa _ _ _ _ 11, ↓aa _ _ _ _ 26])
def hd_rostrumref_Matched_4 (p0 : List GItem) (p1 : Int) (s : Int × GLog) : St := ⟨[(3, .v (.sl 10 (ab GItem.row p0))), (8, .ptr 0 0), (13, .ptr 1 0), (15, .v (.i .i64 p1)), (17, .v (.i .i64 s.1))], [[.v (.i .i64 0), .v (.i .i64 0), .own 10 []], [.v (.i .i64 s.2.fBase), .v (.i .i64 s.2.fBaseTerm), .own 10 (ab GItem.row s.2.fItems)]]⟩
def ou_rostrumref_Matched_4 (p0 : List GItem) (p1 : Int) (r : GLog) : Option (Ex × St) := some (.normal, ⟨[(8, .ptr 0 0), (13, .ptr 1 0), (15, .v (.i .i64 p1))], [[.v (.i .i64 0), .v (.i .i64 0), .own 10 []], [.v (.i .i64 r.fBase), .v (.i .i64 r.fBaseTerm), .own 10 (ab GItem.row r.fItems)]]⟩)
set_option maxRecDepth 100000 in
set_option maxHeartbeats 40000000 in
theorem sl_rostrumref_Matched_4 (C : ak)  (p0 : List GItem) (p1 : Int) (s : Int × GLog) (o : (Int × GLog) ⊕ GLog) (hF : st_rostrumref_Matched_4 p0 p1 s = some o) : evW TT C.wide n33 b33 4 (hd_rostrumref_Matched_4 p0 p1 s) = Sum.elim (fun s => evW TT C.wide n33 b33 4 (hd_rostrumref_Matched_4 p0 p1 s)) (fun r => ou_rostrumref_Matched_4 p0 p1 r) o := by
  obtain ⟨p2, p3⟩ := s
  unfold st_rostrumref_Matched_4 at hF
  try dsimp only at hF
  rw [ct TT n33 fl33_4]
  refine aT (decide (p2 < (p0.length : Int))) ?_ ?_
  focus
    intro h1
    replace hF := ar h1 hF
    have hR := Option.some.inj hF
    clear hF
    subst hR
  rotate_left 1
  intro h1
  replace hF := aq h1 hF
  revert hF
  cases h2 : idx p0 p2
  focus
    intro hF
    cases hF
  rename_i x1
  intro hF
  try dsimp only at hF
  have g1 : decide (0 ≤ p2) = true := (cc h2).1
  have g2 : (ab GItem.row p0)[(p2 : Int).toNat]? = some [.i .i64 x1.fTerm, .i .i64 x1.fTime, .b x1.fNop, .i .i64 x1.fCall.fClient, .i .i64 x1.fCall.fSeq, .i .i64 x1.fCall.fCommand.fKind, .s x1.fCall.fCommand.fKey, .s x1.fCall.fCommand.fField, .s x1.fCall.fCommand.fText, .i .i64 x1.fCall.fCommand.fN] := ca _ h2
  refine aG (cH (p3.fItems.length + 1) 104) ?_ ?_
  focus
    intro h3
    replace hF := aq h3 hF
    have hR := Option.some.inj hF
    clear hF
    subst hR
  rotate_left 1
  intro h3
  replace hF := ar h3 hF
  cases hF
  all_goals (show cD _ _ _ (aH _ _ _ _ (Code.seq _ _) _) = _; simp (maxSteps := 4000000) only [*, hd_rostrumref_Matched_4, ou_rostrumref_Matched_4, res33, n33a29t, n33a29f, n33a31t, n33a31f, n33a46t, n33a46f, n33a51t, n33a51f, n33a72t, n33a72f, n33a79t, n33a79f, n33a100t, n33a100f, n33a114t, n33a114f, n33k0, n33k1, n33k2, n33k3, n33k4, n33k5, n33k6, n33k7, n33k8, n33k9, n33k10, n33k11, n33k12, n33k13, n33k14, n33k15, n33k16, n33k17, n33k18, n33k19, n33k20, n33k21, n33k22, n33k23, n33k24, n33k25, n33k26, n33f13, n33f18, n33f22, n33ro, n33mv, n33gv, ↓RP, RB, ↓ah, ↓ac, ↓af, ↓ad, ↓ae, enter, aW, aC, aZ, be, aM, Mx.bw, opnd, Mx.bF, Nat.reduceBEq, bK, Mx.fit, bI, bY, toVs, cellsOf, toV, aO, aB, ax, Mx.put, ofConst, ofCell, Mx.prune, killB, killBs, aK, putDst, au, ao, aD, loadAt, bM, List.map, Nat.reduceAdd, Nat.reduceMul, cm, cn, aF, eqC, cg, aN, reduceIte, reduceCtorEq, az, bn, bq, co, bN, bD, aL, bx, lowC, lowP, forceAll, bound, bW, bg, bv, aU, br, kill, spendLoc, spendOk, setOwn, dropAl, dropAls, bG, bP, bd, cb, lend, lendA, aS, ay, bU, bL, bare, bQ, frz, bZ, bo, argE, argsE, bB, bT, fill, setCells, bR, takeParts, bp, aR, ownAt, Nat.reduceBNe, Nat.reduceSub, Nat.reduceLT, Nat.reduceLeDiff, lowA, bi, bJ, av, aJ, aX, bX, bO, bE, bS, ce, bV, bk, aI, bh, bj, bf, cd, Op.operands, Int.reduceBEq, Int.reduceLT, Int.reduceLE, Int.reduceNeg, Int.reduceBNe, bl, newB, ch, ck, cj, bne, ↓aj, bc, aP, bm, bu, aE, bH, Call.operands, ty3, ty4, ty9, ty22, ty24, ty25, ty34, ty36, ty38, GItem.cons, GItem.one, GItem.rep, GItem.set, ↓aa _ _ _ _ 0, ↓aa _ _ _ _ 1, ↓aa _ _ _ _ 2, ↓cP _ _ _ _ 29, ↓aa _ _ _ _ 3, ↓aa _ _ _ _ 4, ↓ai _ _ _ _ 31, ↓aa _ _ _ _ 5, ↓aa _ _ _ _ 6, ↓aa _ _ _ _ 7, ↓ai _ _ _ _ 46, ↓aa _ _ _ _ 8, ↓aa _ _ _ _ 9, ↓aa _ _ _ _ 10, ↓ai _ _ _ _ 51, ↓aa _ _ _ _ 12, ↓am _ _ _ _ 13, ↓ai _ _ _ _ 72, ↓aa _ _ _ _ 14, ↓aa _ _ _ _ 15, ↓aa _ _ _ _ 16, ↓ai _ _ _ _ 79, ↓am _ _ _ _ 18, ↓aa _ _ _ _ 17, ↓aa _ _ _ _ 19, ↓aa _ _ _ _ 20, ↓ai _ _ _ _ 100, ↓am _ _ _ _ 22, ↓aa _ _ _ _ 21, ↓aa _ _ _ _ 23, ↓ai _ _ _ _ 114, ↓aa _ _ _ _ 24, ↓aa _ _ _ _ 25, ↓aa _ _ _ _ 11, ↓aa _ _ _ _ 26])
def hd_rostrumref_Matched_2v3 (p0 : List GItem) (p1 : GLog) (p2 : Int) (p3 : Int) (s : Int × GLog) : St := ⟨[(3, .v (.sl 10 (ab GItem.row p0))), (4, .rp [.i .i64 p1.fBase, .i .i64 p1.fBaseTerm, .sl 10 (ab GItem.row p1.fItems)]), (8, .ptr 0 0), (13, .ptr 1 0), (14, .v (.i .i64 p2)), (15, .v (.i .i64 p3)), (16, .v (.i .i64 s.1))], [[.v (.i .i64 0), .v (.i .i64 0), .own 10 []], [.v (.i .i64 s.2.fBase), .v (.i .i64 s.2.fBaseTerm), .own 10 (ab GItem.row s.2.fItems)]]⟩
def ou_rostrumref_Matched_2v3 (p0 : List GItem) (p1 : GLog) (p2 : Int) (p3 : Int) (r : GLog) : Option (Ex × St) := some (.normal, ⟨[(3, .v (.sl 10 (ab GItem.row p0))), (8, .ptr 0 0), (13, .ptr 1 0), (14, .v (.i .i64 p2)), (15, .v (.i .i64 p3))], [[.v (.i .i64 0), .v (.i .i64 0), .own 10 []], [.v (.i .i64 r.fBase), .v (.i .i64 r.fBaseTerm), .own 10 (ab GItem.row r.fItems)]]⟩)
set_option maxRecDepth 100000 in
set_option maxHeartbeats 40000000 in
theorem sl_rostrumref_Matched_2v3 (C : ak)  (p0 : List GItem) (p1 : GLog) (p2 : Int) (p3 : Int) (s : Int × GLog) (o : (Int × GLog) ⊕ GLog) (hF : st_rostrumref_Matched_2v3 p0 p1 p2 p3 s = some o) : evW TT C.wide n33 b33 2 (hd_rostrumref_Matched_2v3 p0 p1 p2 p3 s) = Sum.elim (fun s => evW TT C.wide n33 b33 2 (hd_rostrumref_Matched_2v3 p0 p1 p2 p3 s)) (fun r => ou_rostrumref_Matched_2v3 p0 p1 p2 p3 r) o := by
  obtain ⟨p4, p5⟩ := s
  unfold st_rostrumref_Matched_2v3 at hF
  try dsimp only at hF
  rw [ct TT n33 fl33_2]
  refine aT (decide (p4 < p3)) ?_ ?_
  focus
    intro h1
    replace hF := ar h1 hF
    have hR := Option.some.inj hF
    clear hF
    subst hR
  rotate_left 1
  intro h1
  replace hF := aq h1 hF
  revert hF
  cases h2 : idx p1.fItems (IntKind.i64.wrap ((IntKind.i64.wrap (p4 - p1.fBase)) - 1))
  focus
    intro hF
    cases hF
  rename_i x1
  intro hF
  try dsimp only at hF
  have g1 : decide (0 ≤ (IntKind.i64.wrap ((IntKind.i64.wrap (p4 - p1.fBase)) - 1))) = true := (cc h2).1
  have g2 : (ab GItem.row p1.fItems)[((IntKind.i64.wrap ((IntKind.i64.wrap (p4 - p1.fBase)) - 1)) : Int).toNat]? = some [.i .i64 x1.fTerm, .i .i64 x1.fTime, .b x1.fNop, .i .i64 x1.fCall.fClient, .i .i64 x1.fCall.fSeq, .i .i64 x1.fCall.fCommand.fKind, .s x1.fCall.fCommand.fKey, .s x1.fCall.fCommand.fField, .s x1.fCall.fCommand.fText, .i .i64 x1.fCall.fCommand.fN] := ca _ h2
  refine aG (cH (p5.fItems.length + 1) 104) ?_ ?_
  focus
    intro h3
    replace hF := aq h3 hF
    have hR := Option.some.inj hF
    clear hF
    subst hR
  rotate_left 1
  intro h3
  replace hF := ar h3 hF
  cases hF
  all_goals (show cD _ _ _ (aH _ _ _ _ (Code.seq _ _) _) = _; simp (maxSteps := 4000000) only [*, hd_rostrumref_Matched_2v3, ou_rostrumref_Matched_2v3, res33, n33a29t, n33a29f, n33a31t, n33a31f, n33a46t, n33a46f, n33a51t, n33a51f, n33a72t, n33a72f, n33a79t, n33a79f, n33a100t, n33a100f, n33a114t, n33a114f, n33k0, n33k1, n33k2, n33k3, n33k4, n33k5, n33k6, n33k7, n33k8, n33k9, n33k10, n33k11, n33k12, n33k13, n33k14, n33k15, n33k16, n33k17, n33k18, n33k19, n33k20, n33k21, n33k22, n33k23, n33k24, n33k25, n33k26, n33f13, n33f18, n33f22, n33ro, n33mv, n33gv, ↓RP, RB, ↓ah, ↓ac, ↓af, ↓ad, ↓ae, enter, aW, aC, aZ, be, aM, Mx.bw, opnd, Mx.bF, Nat.reduceBEq, bK, Mx.fit, bI, bY, toVs, cellsOf, toV, aO, aB, ax, Mx.put, ofConst, ofCell, Mx.prune, killB, killBs, aK, putDst, au, ao, aD, loadAt, bM, List.map, Nat.reduceAdd, Nat.reduceMul, cm, cn, aF, eqC, cg, aN, reduceIte, reduceCtorEq, az, bn, bq, co, bN, bD, aL, bx, lowC, lowP, forceAll, bound, bW, bg, bv, aU, br, kill, spendLoc, spendOk, setOwn, dropAl, dropAls, bG, bP, bd, cb, lend, lendA, aS, ay, bU, bL, bare, bQ, frz, bZ, bo, argE, argsE, bB, bT, fill, setCells, bR, takeParts, bp, aR, ownAt, Nat.reduceBNe, Nat.reduceSub, Nat.reduceLT, Nat.reduceLeDiff, lowA, bi, bJ, av, aJ, aX, bX, bO, bE, bS, ce, bV, bk, aI, bh, bj, bf, cd, Op.operands, Int.reduceBEq, Int.reduceLT, Int.reduceLE, Int.reduceNeg, Int.reduceBNe, bl, newB, ch, ck, cj, bne, ↓aj, bc, aP, bm, bu, aE, bH, Call.operands, ty3, ty4, ty9, ty22, ty24, ty25, ty34, ty36, ty38, GItem.cons, GItem.one, GItem.rep, GItem.set, ↓aa _ _ _ _ 0, ↓aa _ _ _ _ 1, ↓aa _ _ _ _ 2, ↓cP _ _ _ _ 29, ↓aa _ _ _ _ 3, ↓aa _ _ _ _ 4, ↓ai _ _ _ _ 31, ↓aa _ _ _ _ 5, ↓aa _ _ _ _ 6, ↓aa _ _ _ _ 7, ↓ai _ _ _ _ 46, ↓aa _ _ _ _ 8, ↓aa _ _ _ _ 9, ↓aa _ _ _ _ 10, ↓ai _ _ _ _ 51, ↓aa _ _ _ _ 12, ↓am _ _ _ _ 13, ↓ai _ _ _ _ 72, ↓aa _ _ _ _ 14, ↓aa _ _ _ _ 15, ↓aa _ _ _ _ 16, ↓ai _ _ _ _ 79, ↓am _ _ _ _ 18, ↓aa _ _ _ _ 17, ↓aa _ _ _ _ 19, ↓aa _ _ _ _ 20, ↓ai _ _ _ _ 100, ↓am _ _ _ _ 22, ↓aa _ _ _ _ 21, ↓aa _ _ _ _ 23, ↓ai _ _ _ _ 114, ↓aa _ _ _ _ 24, ↓aa _ _ _ _ 25, ↓aa _ _ _ _ 11, ↓aa _ _ _ _ 26])
def hd_rostrumref_Matched_0 (p0 : Int) (p1 : List GItem) (p2 : GLog) (p4 : GLog) (s : Int) : St := ⟨[(1, .v (.i .i64 p0)), (3, .v (.sl 10 (ab GItem.row p1))), (4, .rp [.i .i64 p2.fBase, .i .i64 p2.fBaseTerm, .sl 10 (ab GItem.row p2.fItems)]), (8, .ptr 0 0), (13, .ptr 1 0), (14, .v (.i .i64 s))], [[.v (.i .i64 0), .v (.i .i64 0), .own 10 []], [.v (.i .i64 p4.fBase), .v (.i .i64 p4.fBaseTerm), .v (.sl 10 (ab GItem.row p4.fItems))]]⟩
def ou_rostrumref_Matched_0 (p0 : Int) (p1 : List GItem) (p2 : GLog) (p4 : GLog) (r : (Int × GLog × Int × Int) ⊕ (GLog ⊕ Unit)) : Option (Ex × St) := match r with
  | .inl r => some (.ret, ⟨[(8, .ptr 0 0), (9, .v (.b true)), (10, .v (.i .i64 r.1)), (11, .v (.i .i64 0))], [[.v (.i .i64 r.2.1.fBase), .v (.i .i64 r.2.1.fBaseTerm), .own 10 (ab GItem.row r.2.1.fItems)], [.v (.i .i64 r.2.2.1), .v (.i .i64 r.2.2.2), .bad]]⟩)
  | .inr (.inl r) => some (.ret, ⟨[(8, .ptr 0 0), (9, .v (.b false)), (10, .v (.i .i64 0)), (11, .v (.i .i64 6))], [[.v (.i .i64 0), .v (.i .i64 0), .own 10 []], [.v (.i .i64 r.fBase), .v (.i .i64 r.fBaseTerm), .own 10 (ab GItem.row r.fItems)]]⟩)
  | .inr (.inr r) => some (.normal, ⟨[(8, .ptr 0 0), (13, .ptr 1 0)], [[.v (.i .i64 0), .v (.i .i64 0), .own 10 []], [.v (.i .i64 p4.fBase), .v (.i .i64 p4.fBaseTerm), .v (.sl 10 (ab GItem.row p4.fItems))]]⟩)

set_option maxRecDepth 100000 in
set_option maxHeartbeats 40000000 in
theorem sl_rostrumref_Matched_0 (C : ak) (k_rostrumref_termAt : K_rostrumref_termAt C) (k_rostrumref_LogFault : K_rostrumref_LogFault C) (p0 : Int) (p1 : List GItem) (p2 : GLog) (p4 : GLog) (p3 : Int) (o : Int ⊕ ((Int × GLog × Int × Int) ⊕ (GLog ⊕ Unit))) (hF : st_rostrumref_Matched_0 p0 p1 p2 p4 p3 = some o) : evW TT C.wide n33 b33 0 (hd_rostrumref_Matched_0 p0 p1 p2 p4 p3) = Sum.elim (fun s => evW TT C.wide n33 b33 0 (hd_rostrumref_Matched_0 p0 p1 p2 p4 s)) (fun r => ou_rostrumref_Matched_0 p0 p1 p2 p4 r) o := by
  unfold st_rostrumref_Matched_0 at hF
  try dsimp only at hF
  rw [ct TT n33 fl33_0]
  refine aT (decide (p3 < (p1.length : Int))) ?_ ?_
  focus
    intro h1
    replace hF := ar h1 hF
    have hR := Option.some.inj hF
    clear hF
    subst hR
  rotate_left 1
  intro h1
  replace hF := aq h1 hF
  refine aG (decide ((IntKind.i64.wrap ((IntKind.i64.wrap (p0 + 1)) + p3)) ≤ p2.fBase)) ?_ ?_
  focus
    intro h2
    replace hF := aq h2 hF
    have hR := Option.some.inj hF
    clear hF
    subst hR
  rotate_left 1
  intro h2
  replace hF := ar h2 hF
  revert hF
  cases h3 : rostrumref_termAt p2 (IntKind.i64.wrap ((IntKind.i64.wrap (p0 + 1)) + p3))
  focus
    intro hF
    cases hF
  rename_i x1
  intro hF
  try dsimp only at hF
  have g1 : C.wide 52 [.agg [.v (.i .i64 p2.fBase), .v (.i .i64 p2.fBaseTerm), .v (.sl 10 (ab GItem.row p2.fItems))], .v (.i .i64 (IntKind.i64.wrap ((IntKind.i64.wrap (p0 + 1)) + p3)))] [] = some (.v (.i .i64 x1), []) := k_rostrumref_termAt p2 (IntKind.i64.wrap ((IntKind.i64.wrap (p0 + 1)) + p3)) _ h3
  revert hF
  cases h4 : idx p1 p3
  focus
    intro hF
    cases hF
  rename_i x2
  intro hF
  try dsimp only at hF
  have g2 : decide (0 ≤ p3) = true := (cc h4).1
  have g3 : (ab GItem.row p1)[(p3 : Int).toNat]? = some [.i .i64 x2.fTerm, .i .i64 x2.fTime, .b x2.fNop, .i .i64 x2.fCall.fClient, .i .i64 x2.fCall.fSeq, .i .i64 x2.fCall.fCommand.fKind, .s x2.fCall.fCommand.fKey, .s x2.fCall.fCommand.fField, .s x2.fCall.fCommand.fText, .i .i64 x2.fCall.fCommand.fN] := ca _ h4
  refine aG (x1 == x2.fTerm) ?_ ?_
  focus
    intro h5
    replace hF := aq h5 hF
    have hR := Option.some.inj hF
    clear hF
    subst hR
  rotate_left 1
  intro h5
  replace hF := ar h5 hF
  revert hF
  cases h6 : ci (st_rostrumref_Matched_2v3 p1 p2 p3 (IntKind.i64.wrap ((IntKind.i64.wrap (p0 + 1)) + p3))) ((IntKind.i64.wrap (p2.fBase + 1)), (GLog.mk p4.fBase p4.fBaseTerm []))
  focus
    intro hF
    cases hF
  rename_i qh6
  revert qh6
  intro x3 h6
  intro hF
  try dsimp only at hF
  have g4 : evW TT C.wide n33 b33 2 ⟨[(3, .v (.sl 10 (ab GItem.row p1))), (4, .rp [.i .i64 p2.fBase, .i .i64 p2.fBaseTerm, .sl 10 (ab GItem.row p2.fItems)]), (8, .ptr 0 0), (13, .ptr 1 0), (14, .v (.i .i64 p3)), (15, .v (.i .i64 (IntKind.i64.wrap ((IntKind.i64.wrap (p0 + 1)) + p3)))), (16, .v (.i .i64 (IntKind.i64.wrap (p2.fBase + 1))))], [[.v (.i .i64 0), .v (.i .i64 0), .own 10 []], [.v (.i .i64 p4.fBase), .v (.i .i64 p4.fBaseTerm), .own 10 []]]⟩ = some (.normal, ⟨[(3, .v (.sl 10 (ab GItem.row p1))), (8, .ptr 0 0), (13, .ptr 1 0), (14, .v (.i .i64 p3)), (15, .v (.i .i64 (IntKind.i64.wrap ((IntKind.i64.wrap (p0 + 1)) + p3))))], [[.v (.i .i64 0), .v (.i .i64 0), .own 10 []], [.v (.i .i64 x3.fBase), .v (.i .i64 x3.fBaseTerm), .own 10 (ab GItem.row x3.fItems)]]⟩) := cy (hd_rostrumref_Matched_2v3 p1 p2 p3 (IntKind.i64.wrap ((IntKind.i64.wrap (p0 + 1)) + p3))) (ou_rostrumref_Matched_2v3 p1 p2 p3 (IntKind.i64.wrap ((IntKind.i64.wrap (p0 + 1)) + p3))) (fun s o hs => sl_rostrumref_Matched_2v3 C p1 p2 p3 (IntKind.i64.wrap ((IntKind.i64.wrap (p0 + 1)) + p3)) s o hs) h6
  revert hF
  cases h7 : ci (st_rostrumref_Matched_4 p1 (IntKind.i64.wrap ((IntKind.i64.wrap (p0 + 1)) + p3))) (p3, x3)
  focus
    intro hF
    cases hF
  rename_i qh7
  revert qh7
  intro x4 h7
  intro hF
  try dsimp only at hF
  unfold st_rostrumref_Matched_0_c0 at hF
  have g5 : evW TT C.wide n33 b33 4 ⟨[(3, .v (.sl 10 (ab GItem.row p1))), (8, .ptr 0 0), (13, .ptr 1 0), (15, .v (.i .i64 (IntKind.i64.wrap ((IntKind.i64.wrap (p0 + 1)) + p3)))), (17, .v (.i .i64 p3))], [[.v (.i .i64 0), .v (.i .i64 0), .own 10 []], [.v (.i .i64 x3.fBase), .v (.i .i64 x3.fBaseTerm), .own 10 (ab GItem.row x3.fItems)]]⟩ = some (.normal, ⟨[(8, .ptr 0 0), (13, .ptr 1 0), (15, .v (.i .i64 (IntKind.i64.wrap ((IntKind.i64.wrap (p0 + 1)) + p3))))], [[.v (.i .i64 0), .v (.i .i64 0), .own 10 []], [.v (.i .i64 x4.fBase), .v (.i .i64 x4.fBaseTerm), .own 10 (ab GItem.row x4.fItems)]]⟩) := cy (hd_rostrumref_Matched_4 p1 (IntKind.i64.wrap ((IntKind.i64.wrap (p0 + 1)) + p3))) (ou_rostrumref_Matched_4 p1 (IntKind.i64.wrap ((IntKind.i64.wrap (p0 + 1)) + p3))) (fun s o hs => sl_rostrumref_Matched_4 C p1 (IntKind.i64.wrap ((IntKind.i64.wrap (p0 + 1)) + p3)) s o hs) h7
  revert hF
  cases h8 : rostrumref_LogFault x4
  focus
    intro hF
    cases hF
  rename_i x5
  intro hF
  try dsimp only at hF
  have g6 : C.wide 51 [.agg [.v (.i .i64 x4.fBase), .v (.i .i64 x4.fBaseTerm), .v (.sl 10 (ab GItem.row x4.fItems))]] [] = some (.v (.i .i64 x5), []) := k_rostrumref_LogFault x4 _ h8
  refine aG (x5 == 0) ?_ ?_
  focus
    intro h9
    replace hF := aq h9 hF
    have hR := Option.some.inj hF
    clear hF
    subst hR
  rotate_left 1
  intro h9
  replace hF := ar h9 hF
  have hR := Option.some.inj hF
  clear hF
  subst hR
  all_goals (show cD _ _ _ (aH _ _ _ _ (Code.seq _ _) _) = _; simp (maxSteps := 4000000) only [*, hd_rostrumref_Matched_0, ou_rostrumref_Matched_0, res33, n33a29t, n33a29f, n33a31t, n33a31f, n33a46t, n33a46f, n33a51t, n33a51f, n33a72t, n33a72f, n33a79t, n33a79f, n33a100t, n33a100f, n33a114t, n33a114f, n33k0, n33k1, n33k2, n33k3, n33k4, n33k5, n33k6, n33k7, n33k8, n33k9, n33k10, n33k11, n33k12, n33k13, n33k14, n33k15, n33k16, n33k17, n33k18, n33k19, n33k20, n33k21, n33k22, n33k23, n33k24, n33k25, n33k26, n33f13, n33f18, n33f22, n33ro, n33mv, n33gv, ↓RP, RB, ↓ah, ↓ac, ↓af, ↓ad, ↓ae, enter, aW, aC, aZ, be, aM, Mx.bw, opnd, Mx.bF, Nat.reduceBEq, bK, Mx.fit, bI, bY, toVs, cellsOf, toV, aO, aB, ax, Mx.put, ofConst, ofCell, Mx.prune, killB, killBs, aK, putDst, au, ao, aD, loadAt, bM, List.map, Nat.reduceAdd, Nat.reduceMul, cm, cn, aF, eqC, cg, aN, reduceIte, reduceCtorEq, az, bn, bq, co, bN, bD, aL, bx, lowC, lowP, forceAll, bound, bW, bg, bv, aU, br, kill, spendLoc, spendOk, setOwn, dropAl, dropAls, bG, bP, bd, cb, lend, lendA, aS, ay, bU, bL, bare, bQ, frz, bZ, bo, argE, argsE, bB, bT, fill, setCells, bR, takeParts, bp, aR, ownAt, Nat.reduceBNe, Nat.reduceSub, Nat.reduceLT, Nat.reduceLeDiff, lowA, bi, bJ, av, aJ, aX, bX, bO, bE, bS, ce, bV, bk, aI, bh, bj, bf, cd, Op.operands, Int.reduceBEq, Int.reduceLT, Int.reduceLE, Int.reduceNeg, Int.reduceBNe, bl, newB, ch, ck, cj, bne, ↓aj, bc, aP, bm, bu, aE, bH, Call.operands, ty3, ty4, ty9, ty22, ty24, ty25, ty34, ty36, ty38, ↓aa _ _ _ _ 0, ↓aa _ _ _ _ 1, ↓aa _ _ _ _ 2, ↓cP _ _ _ _ 29, ↓aa _ _ _ _ 3, ↓aa _ _ _ _ 4, ↓ai _ _ _ _ 31, ↓aa _ _ _ _ 5, ↓aa _ _ _ _ 6, ↓aa _ _ _ _ 7, ↓ai _ _ _ _ 46, ↓aa _ _ _ _ 8, ↓aa _ _ _ _ 9, ↓aa _ _ _ _ 10, ↓ai _ _ _ _ 51, ↓aa _ _ _ _ 12, ↓am _ _ _ _ 13, ↓ai _ _ _ _ 72, ↓aa _ _ _ _ 14, ↓aa _ _ _ _ 15, ↓aa _ _ _ _ 16, ↓ai _ _ _ _ 79, ↓am _ _ _ _ 18, ↓aa _ _ _ _ 17, ↓aa _ _ _ _ 19, ↓aa _ _ _ _ 20, ↓ai _ _ _ _ 100, ↓am _ _ _ _ 22, ↓aa _ _ _ _ 21, ↓aa _ _ _ _ 23, ↓ai _ _ _ _ 114, ↓aa _ _ _ _ 24, ↓aa _ _ _ _ 25, ↓aa _ _ _ _ 11, ↓aa _ _ _ _ 26])
set_option maxRecDepth 100000 in
set_option maxHeartbeats 40000000 in
theorem r_rostrumref_Matched (C : ak) (k_rostrumref_LogFault : K_rostrumref_LogFault C) (k_rostrumref_LogCopy_z : K_rostrumref_LogCopy_z C) (k_rostrumref_termAt : K_rostrumref_termAt C) (p0 : GLog) (p1 : Int) (p2 : Int) (p3 : List GItem) (r : GLog × Bool × Int × Int) (hF : rostrumref_Matched p0 p1 p2 p3 = some r) : cF TT C.wide (evW TT C.wide n33 b33) n33 Try.f33.results.toList (aQ Try.f33) [.agg [.v (.i .i64 p0.fBase), .v (.i .i64 p0.fBaseTerm), .v (.sl 10 (ab GItem.row p0.fItems))], .v (.i .i64 p1), .v (.i .i64 p2), .v (.sl 10 (ab GItem.row p3))] [] = some (.tup [.agg [.v (.i .i64 r.1.fBase), .v (.i .i64 r.1.fBaseTerm), .v (.sl 10 (ab GItem.row r.1.fItems))], .v (.b r.2.1), .v (.i .i64 r.2.2.1), .v (.i .i64 r.2.2.2)], []) := by
  unfold rostrumref_Matched at hF
  revert hF
  cases h1 : rostrumref_LogFault p0
  focus
    intro hF
    cases hF
  rename_i x1
  intro hF
  try dsimp only at hF
  have g1 : C.wide 51 [.agg [.v (.i .i64 p0.fBase), .v (.i .i64 p0.fBaseTerm), .v (.sl 10 (ab GItem.row p0.fItems))]] [] = some (.v (.i .i64 x1), []) := k_rostrumref_LogFault p0 _ h1
  refine aT (x1 == 0) ?_ ?_
  focus
    intro h2
    replace hF := ar h2 hF
    have hR := Option.some.inj hF
    clear hF
    subst hR
  rotate_left 1
  intro h2
  replace hF := aq h2 hF
  unfold rostrumref_Matched_c1 at hF
  revert hF
  cases h3 : rostrumref_LogFault (GLog.mk p1 p2 p3)
  focus
    intro hF
    cases hF
  rename_i x2
  intro hF
  try dsimp only at hF
  have g2 : C.wide 51 [.agg [.v (.i .i64 p1), .v (.i .i64 p2), .v (.sl 10 (ab GItem.row p3))]] [] = some (.v (.i .i64 x2), []) := k_rostrumref_LogFault (GLog.mk p1 p2 p3) _ h3
  have g3 : @cR TT C.wide (evW TT C.wide n33 b33) n33 1 29 ⟨[(1, .v (.i .i64 p1)), (2, .v (.i .i64 p2)), (3, .v (.sl 10 (ab GItem.row p3))), (4, .rp [.i .i64 p0.fBase, .i .i64 p0.fBaseTerm, .sl 10 (ab GItem.row p0.fItems)]), (8, .ptr 0 0), (12, .v (.i .i64 x1)), (29, .v (.b (!(x2 == 0))))], [[.v (.i .i64 0), .v (.i .i64 0), .own 10 []]]⟩ ⟨_⟩ = some (.normal, ⟨[(1, .v (.i .i64 p1)), (2, .v (.i .i64 p2)), (3, .v (.sl 10 (ab GItem.row p3))), (4, .rp [.i .i64 p0.fBase, .i .i64 p0.fBaseTerm, .sl 10 (ab GItem.row p0.fItems)]), (8, .ptr 0 0), (12, .v (.i .i64 (ck_rostrumref_Matched_q29_v p1 p2 p3 p0 x1 (!(x2 == 0)))))], [[.v (.i .i64 0), .v (.i .i64 0), .own 10 []]]⟩) := rg_rostrumref_Matched_q29 C p1 p2 p3 p0 x1 (!(x2 == 0)) _ rfl (ck_rostrumref_Matched_q29_v p1 p2 p3 p0 x1 (!(x2 == 0))) (ck_rostrumref_Matched_q29_t p1 p2 p3 p0 x1 (!(x2 == 0)))
  refine aT ((ck_rostrumref_Matched_q29_v p1 p2 p3 p0 x1 (!(x2 == 0))) == 0) ?_ ?_
  focus
    intro h4
    replace hF := ar h4 hF
    have hR := Option.some.inj hF
    clear hF
    subst hR
  rotate_left 1
  intro h4
  replace hF := aq h4 hF
  revert hF
  cases h5 : rostrumref_LogCopy_z p0
  focus
    intro hF
    cases hF
  rename_i x3
  intro hF
  try dsimp only at hF
  have g4 : C.wide 16 [.agg [.v (.i .i64 p0.fBase), .v (.i .i64 p0.fBaseTerm), .v (.sl 10 (ab GItem.row p0.fItems))]] [] = some (.agg [.v (.i .i64 x3.fBase), .v (.i .i64 x3.fBaseTerm), .v (.sl 10 (ab GItem.row x3.fItems))], []) := k_rostrumref_LogCopy_z p0 _ h5
  refine aT (decide (p0.fBase ≤ p1)) ?_ ?_
  focus
    intro h6
    replace hF := ar h6 hF
    revert hF
    cases h7 : ci (st_rostrumref_Matched_0 p1 p3 p0 x3) 0
    focus
      intro hF
      cases hF
    rename_i qh7
    cases qh7
    focus
      rename_i z0h7
      obtain ⟨x4, x5, x6, x7⟩ := z0h7
      intro hF
      try dsimp only at hF
      have g5 : evW TT C.wide n33 b33 0 ⟨[(1, .v (.i .i64 p1)), (3, .v (.sl 10 (ab GItem.row p3))), (4, .rp [.i .i64 p0.fBase, .i .i64 p0.fBaseTerm, .sl 10 (ab GItem.row p0.fItems)]), (8, .ptr 0 0), (13, .ptr 1 0), (14, .v (.i .i64 0))], [[.v (.i .i64 0), .v (.i .i64 0), .own 10 []], [.v (.i .i64 x3.fBase), .v (.i .i64 x3.fBaseTerm), .v (.sl 10 (ab GItem.row x3.fItems))]]⟩ = some (.ret, ⟨[(8, .ptr 0 0), (9, .v (.b true)), (10, .v (.i .i64 x4)), (11, .v (.i .i64 0))], [[.v (.i .i64 x5.fBase), .v (.i .i64 x5.fBaseTerm), .own 10 (ab GItem.row x5.fItems)], [.v (.i .i64 x6), .v (.i .i64 x7), .bad]]⟩) := cy (hd_rostrumref_Matched_0 p1 p3 p0 x3) (ou_rostrumref_Matched_0 p1 p3 p0 x3) (fun s o hs => sl_rostrumref_Matched_0 C k_rostrumref_termAt k_rostrumref_LogFault p1 p3 p0 x3 s o hs) h7
      have hR := Option.some.inj hF
      clear hF
      subst hR
    rotate_left 1
    rename_i y0h7
    cases y0h7
    focus
      rename_i z1h7
      revert z1h7
      intro x4 h7
      intro hF
      try dsimp only at hF
      have g6 : evW TT C.wide n33 b33 0 ⟨[(1, .v (.i .i64 p1)), (3, .v (.sl 10 (ab GItem.row p3))), (4, .rp [.i .i64 p0.fBase, .i .i64 p0.fBaseTerm, .sl 10 (ab GItem.row p0.fItems)]), (8, .ptr 0 0), (13, .ptr 1 0), (14, .v (.i .i64 0))], [[.v (.i .i64 0), .v (.i .i64 0), .own 10 []], [.v (.i .i64 x3.fBase), .v (.i .i64 x3.fBaseTerm), .v (.sl 10 (ab GItem.row x3.fItems))]]⟩ = some (.ret, ⟨[(8, .ptr 0 0), (9, .v (.b false)), (10, .v (.i .i64 0)), (11, .v (.i .i64 6))], [[.v (.i .i64 0), .v (.i .i64 0), .own 10 []], [.v (.i .i64 x4.fBase), .v (.i .i64 x4.fBaseTerm), .own 10 (ab GItem.row x4.fItems)]]⟩) := cy (hd_rostrumref_Matched_0 p1 p3 p0 x3) (ou_rostrumref_Matched_0 p1 p3 p0 x3) (fun s o hs => sl_rostrumref_Matched_0 C k_rostrumref_termAt k_rostrumref_LogFault p1 p3 p0 x3 s o hs) h7
      have hR := Option.some.inj hF
      clear hF
      subst hR
    rotate_left 1
    rename_i y1h7
    intro hF
    try dsimp only at hF
    have g7 : evW TT C.wide n33 b33 0 ⟨[(1, .v (.i .i64 p1)), (3, .v (.sl 10 (ab GItem.row p3))), (4, .rp [.i .i64 p0.fBase, .i .i64 p0.fBaseTerm, .sl 10 (ab GItem.row p0.fItems)]), (8, .ptr 0 0), (13, .ptr 1 0), (14, .v (.i .i64 0))], [[.v (.i .i64 0), .v (.i .i64 0), .own 10 []], [.v (.i .i64 x3.fBase), .v (.i .i64 x3.fBaseTerm), .v (.sl 10 (ab GItem.row x3.fItems))]]⟩ = some (.normal, ⟨[(8, .ptr 0 0), (13, .ptr 1 0)], [[.v (.i .i64 0), .v (.i .i64 0), .own 10 []], [.v (.i .i64 x3.fBase), .v (.i .i64 x3.fBaseTerm), .v (.sl 10 (ab GItem.row x3.fItems))]]⟩) := cy (hd_rostrumref_Matched_0 p1 p3 p0 x3) (ou_rostrumref_Matched_0 p1 p3 p0 x3) (fun s o hs => sl_rostrumref_Matched_0 C k_rostrumref_termAt k_rostrumref_LogFault p1 p3 p0 x3 s o hs) h7
    have hR := Option.some.inj hF
    clear hF
    subst hR
  rotate_left 3
  intro h6
  replace hF := aq h6 hF
  unfold rostrumref_Matched_c0 at hF
  revert hF
  cases h7 : rostrumref_termAt p0 p1
  focus
    intro hF
    cases hF
  rename_i x4
  intro hF
  try dsimp only at hF
  have g8 : C.wide 52 [.agg [.v (.i .i64 p0.fBase), .v (.i .i64 p0.fBaseTerm), .v (.sl 10 (ab GItem.row p0.fItems))], .v (.i .i64 p1)] [] = some (.v (.i .i64 x4), []) := k_rostrumref_termAt p0 p1 _ h7
  refine aT (x4 == p2) ?_ ?_
  focus
    intro h8
    replace hF := ar h8 hF
    have hR := Option.some.inj hF
    clear hF
    subst hR
  rotate_left 1
  intro h8
  replace hF := aq h8 hF
  revert hF
  cases h9 : ci (st_rostrumref_Matched_0 p1 p3 p0 x3) 0
  focus
    intro hF
    cases hF
  rename_i qh9
  cases qh9
  focus
    rename_i z0h9
    obtain ⟨x5, x6, x7, x8⟩ := z0h9
    intro hF
    try dsimp only at hF
    have g9 : evW TT C.wide n33 b33 0 ⟨[(1, .v (.i .i64 p1)), (3, .v (.sl 10 (ab GItem.row p3))), (4, .rp [.i .i64 p0.fBase, .i .i64 p0.fBaseTerm, .sl 10 (ab GItem.row p0.fItems)]), (8, .ptr 0 0), (13, .ptr 1 0), (14, .v (.i .i64 0))], [[.v (.i .i64 0), .v (.i .i64 0), .own 10 []], [.v (.i .i64 x3.fBase), .v (.i .i64 x3.fBaseTerm), .v (.sl 10 (ab GItem.row x3.fItems))]]⟩ = some (.ret, ⟨[(8, .ptr 0 0), (9, .v (.b true)), (10, .v (.i .i64 x5)), (11, .v (.i .i64 0))], [[.v (.i .i64 x6.fBase), .v (.i .i64 x6.fBaseTerm), .own 10 (ab GItem.row x6.fItems)], [.v (.i .i64 x7), .v (.i .i64 x8), .bad]]⟩) := cy (hd_rostrumref_Matched_0 p1 p3 p0 x3) (ou_rostrumref_Matched_0 p1 p3 p0 x3) (fun s o hs => sl_rostrumref_Matched_0 C k_rostrumref_termAt k_rostrumref_LogFault p1 p3 p0 x3 s o hs) h9
    have hR := Option.some.inj hF
    clear hF
    subst hR
  rotate_left 1
  rename_i y0h9
  cases y0h9
  focus
    rename_i z1h9
    revert z1h9
    intro x5 h9
    intro hF
    try dsimp only at hF
    have g10 : evW TT C.wide n33 b33 0 ⟨[(1, .v (.i .i64 p1)), (3, .v (.sl 10 (ab GItem.row p3))), (4, .rp [.i .i64 p0.fBase, .i .i64 p0.fBaseTerm, .sl 10 (ab GItem.row p0.fItems)]), (8, .ptr 0 0), (13, .ptr 1 0), (14, .v (.i .i64 0))], [[.v (.i .i64 0), .v (.i .i64 0), .own 10 []], [.v (.i .i64 x3.fBase), .v (.i .i64 x3.fBaseTerm), .v (.sl 10 (ab GItem.row x3.fItems))]]⟩ = some (.ret, ⟨[(8, .ptr 0 0), (9, .v (.b false)), (10, .v (.i .i64 0)), (11, .v (.i .i64 6))], [[.v (.i .i64 0), .v (.i .i64 0), .own 10 []], [.v (.i .i64 x5.fBase), .v (.i .i64 x5.fBaseTerm), .own 10 (ab GItem.row x5.fItems)]]⟩) := cy (hd_rostrumref_Matched_0 p1 p3 p0 x3) (ou_rostrumref_Matched_0 p1 p3 p0 x3) (fun s o hs => sl_rostrumref_Matched_0 C k_rostrumref_termAt k_rostrumref_LogFault p1 p3 p0 x3 s o hs) h9
    have hR := Option.some.inj hF
    clear hF
    subst hR
  rotate_left 1
  rename_i y1h9
  intro hF
  try dsimp only at hF
  have g7 : evW TT C.wide n33 b33 0 ⟨[(1, .v (.i .i64 p1)), (3, .v (.sl 10 (ab GItem.row p3))), (4, .rp [.i .i64 p0.fBase, .i .i64 p0.fBaseTerm, .sl 10 (ab GItem.row p0.fItems)]), (8, .ptr 0 0), (13, .ptr 1 0), (14, .v (.i .i64 0))], [[.v (.i .i64 0), .v (.i .i64 0), .own 10 []], [.v (.i .i64 x3.fBase), .v (.i .i64 x3.fBaseTerm), .v (.sl 10 (ab GItem.row x3.fItems))]]⟩ = some (.normal, ⟨[(8, .ptr 0 0), (13, .ptr 1 0)], [[.v (.i .i64 0), .v (.i .i64 0), .own 10 []], [.v (.i .i64 x3.fBase), .v (.i .i64 x3.fBaseTerm), .v (.sl 10 (ab GItem.row x3.fItems))]]⟩) := cy (hd_rostrumref_Matched_0 p1 p3 p0 x3) (ou_rostrumref_Matched_0 p1 p3 p0 x3) (fun s o hs => sl_rostrumref_Matched_0 C k_rostrumref_termAt k_rostrumref_LogFault p1 p3 p0 x3 s o hs) h9
  have hR := Option.some.inj hF
  clear hF
  subst hR
  all_goals (rw [ba]; show cp _ _ _ (aH _ _ _ _ (Code.seq _ _) _) = _; simp (maxSteps := 4000000) only [*, res33, n33a29t, n33a29f, n33a31t, n33a31f, n33a46t, n33a46f, n33a51t, n33a51f, n33a72t, n33a72f, n33a79t, n33a79f, n33a100t, n33a100f, n33a114t, n33a114f, n33k0, n33k1, n33k2, n33k3, n33k4, n33k5, n33k6, n33k7, n33k8, n33k9, n33k10, n33k11, n33k12, n33k13, n33k14, n33k15, n33k16, n33k17, n33k18, n33k19, n33k20, n33k21, n33k22, n33k23, n33k24, n33k25, n33k26, n33f13, n33f18, n33f22, n33ro, n33mv, n33gv, ↓RP, RB, ↓ah, ↓ac, ↓af, ↓ad, ↓ae, enter, aW, aC, aZ, be, aM, Mx.bw, opnd, Mx.bF, Nat.reduceBEq, bK, Mx.fit, bI, bY, toVs, cellsOf, toV, aO, aB, ax, Mx.put, ofConst, ofCell, Mx.prune, killB, killBs, aK, putDst, au, ao, aD, loadAt, bM, List.map, Nat.reduceAdd, Nat.reduceMul, cm, cn, aF, eqC, cg, aN, reduceIte, reduceCtorEq, az, bn, bq, co, bN, bD, aL, bx, lowC, lowP, forceAll, bound, bW, bg, bv, aU, br, kill, spendLoc, spendOk, setOwn, dropAl, dropAls, bG, bP, bd, cb, lend, lendA, aS, ay, bU, bL, bare, bQ, frz, bZ, bo, argE, argsE, bB, bT, fill, setCells, bR, takeParts, bp, aR, ownAt, Nat.reduceBNe, Nat.reduceSub, Nat.reduceLT, Nat.reduceLeDiff, lowA, bi, bJ, av, aJ, aX, bX, bO, bE, bS, ce, bV, bk, aI, bh, bj, bf, cd, Op.operands, Int.reduceBEq, Int.reduceLT, Int.reduceLE, Int.reduceNeg, Int.reduceBNe, bl, newB, ch, ck, cj, bne, ↓aj, bc, aP, bm, bu, aE, bH, Call.operands, ty3, ty4, ty9, ty22, ty24, ty25, ty34, ty36, ty38, ↓aa _ _ _ _ 0, ↓aa _ _ _ _ 1, ↓aa _ _ _ _ 2, codeI_t, codeI_f, ↓cP _ _ _ _ 29, ↓aa _ _ _ _ 3, ↓aa _ _ _ _ 4, ↓ai _ _ _ _ 31, ↓aa _ _ _ _ 5, ↓aa _ _ _ _ 6, ↓aa _ _ _ _ 7, ↓ai _ _ _ _ 46, ↓aa _ _ _ _ 8, ↓aa _ _ _ _ 9, ↓aa _ _ _ _ 10, ↓ai _ _ _ _ 51, ↓aa _ _ _ _ 12, ↓am _ _ _ _ 13, ↓ai _ _ _ _ 72, ↓aa _ _ _ _ 14, ↓aa _ _ _ _ 15, ↓aa _ _ _ _ 16, ↓ai _ _ _ _ 79, ↓am _ _ _ _ 18, ↓aa _ _ _ _ 17, ↓aa _ _ _ _ 19, ↓aa _ _ _ _ 20, ↓ai _ _ _ _ 100, ↓am _ _ _ _ 22, ↓aa _ _ _ _ 21, ↓aa _ _ _ _ 23, ↓ai _ _ _ _ 114, ↓aa _ _ _ _ 24, ↓aa _ _ _ _ 25, ↓aa _ _ _ _ 11, ↓aa _ _ _ _ 26])
/-! ### rostrumlaw.sameItems -/
def n27 : cC where
  keep := fun i => match i with
    | 0 => [0, 1]
    | 1 => [0, 1, 10]
    | 2 => [4]
    | 3 => [0, 1, 5]
    | 4 => [0, 1, 5, 14]
    | 5 => [0, 1, 5]
    | 6 => [0, 1, 5, 25]
    | 7 => [4]
    | 8 => [4]
    | _ => []
  ro := fun _ => false
  mv := fun _ => false
  give := fun _ => false
  free := fun i => match i with | 6 => [(0, 1), (0, 4), (1, 4), (2, 4), (3, 4), (0, 5), (1, 5), (2, 5), (3, 5), (4, 5), (0, 6), (1, 6), (2, 6), (3, 6), (0, 7), (1, 7), (2, 7), (3, 7)] | _ => []
  alive := fun i x => match i, x with
    | 10, true => some []
    | 10, false => some [0, 1]
    | 14, true => some [0, 1, 5]
    | 14, false => some []
    | 25, true => some []
    | 25, false => some [0, 1, 5]
    | _, _ => none
theorem n27a10t (e : Env) (S : aA) : aw n27 10 true ⟨e, S⟩ = ⟨prune [] e, S⟩ := rfl
theorem n27a10f (e : Env) (S : aA) : aw n27 10 false ⟨e, S⟩ = ⟨prune [0, 1] e, S⟩ := rfl
theorem n27a14t (e : Env) (S : aA) : aw n27 14 true ⟨e, S⟩ = ⟨prune [0, 1, 5] e, S⟩ := rfl
theorem n27a14f (e : Env) (S : aA) : aw n27 14 false ⟨e, S⟩ = ⟨prune [] e, S⟩ := rfl
theorem n27a25t (e : Env) (S : aA) : aw n27 25 true ⟨e, S⟩ = ⟨prune [] e, S⟩ := rfl
theorem n27a25f (e : Env) (S : aA) : aw n27 25 false ⟨e, S⟩ = ⟨prune [0, 1, 5] e, S⟩ := rfl
theorem n27k0 : n27.keep 0 = [0, 1] := rfl
theorem n27k1 : n27.keep 1 = [0, 1, 10] := rfl
theorem n27k2 : n27.keep 2 = [4] := rfl
theorem n27k3 : n27.keep 3 = [0, 1, 5] := rfl
theorem n27k4 : n27.keep 4 = [0, 1, 5, 14] := rfl
theorem n27k5 : n27.keep 5 = [0, 1, 5] := rfl
theorem n27k6 : n27.keep 6 = [0, 1, 5, 25] := rfl
theorem n27k7 : n27.keep 7 = [4] := rfl
theorem n27k8 : n27.keep 8 = [4] := rfl
theorem n27ro (t : Nat) : n27.ro t = (false) := rfl
theorem n27mv (t : Nat) : n27.mv t = (false) := rfl
theorem n27gv (t : Nat) : n27.give t = (false) := rfl
theorem n27f6 : n27.free 6 = [(0, 1), (0, 4), (1, 4), (2, 4), (3, 4), (0, 5), (1, 5), (2, 5), (3, 5), (4, 5), (0, 6), (1, 6), (2, 6), (3, 6), (0, 7), (1, 7), (2, 7), (3, 7)] := rfl
theorem res27 : Try.f27.results.toList = [.tmp 4] := rfl
noncomputable def b27 : Code := aQ Try.f27
noncomputable def c27_0 : Code := (bz 0 (aQ Try.f27)).getD .skip
theorem fl27_0 : bz 0 b27 = some c27_0 := rfl
def hd_rostrumlaw_sameItems_0 (p0 : List GItem) (p1 : List GItem) (s : Int) : St := ⟨[(0, .v (.sl 10 (ab GItem.row p0))), (1, .v (.sl 10 (ab GItem.row p1))), (5, .v (.i .i64 s))], []⟩
def ou_rostrumlaw_sameItems_0 (p0 : List GItem) (p1 : List GItem) (r : Unit ⊕ Unit) : Option (Ex × St) := match r with
  | .inl r => some (.ret, ⟨[(4, .v (.b false))], []⟩)
  | .inr r => some (.normal, ⟨[], []⟩)

set_option maxRecDepth 100000 in
set_option maxHeartbeats 40000000 in
theorem sl_rostrumlaw_sameItems_0 (C : ak)  (p0 : List GItem) (p1 : List GItem) (p2 : Int) (o : Int ⊕ (Unit ⊕ Unit)) (hF : st_rostrumlaw_sameItems_0 p0 p1 p2 = some o) : evW TT C.wide n27 b27 0 (hd_rostrumlaw_sameItems_0 p0 p1 p2) = Sum.elim (fun s => evW TT C.wide n27 b27 0 (hd_rostrumlaw_sameItems_0 p0 p1 s)) (fun r => ou_rostrumlaw_sameItems_0 p0 p1 r) o := by
  unfold st_rostrumlaw_sameItems_0 at hF
  try dsimp only at hF
  rw [ct TT n27 fl27_0]
  refine aT (decide (p2 < (p0.length : Int))) ?_ ?_
  focus
    intro h1
    replace hF := ar h1 hF
    have hR := Option.some.inj hF
    clear hF
    subst hR
  rotate_left 1
  intro h1
  replace hF := aq h1 hF
  revert hF
  cases h2 : idx p0 p2
  focus
    intro hF
    cases hF
  rename_i x1
  intro hF
  try dsimp only at hF
  have g1 : decide (0 ≤ p2) = true := (cc h2).1
  have g2 : (ab GItem.row p0)[(p2 : Int).toNat]? = some [.i .i64 x1.fTerm, .i .i64 x1.fTime, .b x1.fNop, .i .i64 x1.fCall.fClient, .i .i64 x1.fCall.fSeq, .i .i64 x1.fCall.fCommand.fKind, .s x1.fCall.fCommand.fKey, .s x1.fCall.fCommand.fField, .s x1.fCall.fCommand.fText, .i .i64 x1.fCall.fCommand.fN] := ca _ h2
  revert hF
  cases h3 : idx p1 p2
  focus
    intro hF
    cases hF
  rename_i x2
  intro hF
  try dsimp only at hF
  have g3 : (ab GItem.row p1)[(p2 : Int).toNat]? = some [.i .i64 x2.fTerm, .i .i64 x2.fTime, .b x2.fNop, .i .i64 x2.fCall.fClient, .i .i64 x2.fCall.fSeq, .i .i64 x2.fCall.fCommand.fKind, .s x2.fCall.fCommand.fKey, .s x2.fCall.fCommand.fField, .s x2.fCall.fCommand.fText, .i .i64 x2.fCall.fCommand.fN] := ca _ h3
  refine aT (x1.fTerm == x2.fTerm) ?_ ?_
  focus
    intro h4
    replace hF := ar h4 hF
    have hR := Option.some.inj hF
    clear hF
    subst hR
  rotate_left 1
  intro h4
  replace hF := aq h4 hF
  refine aT (x1.fTime == x2.fTime) ?_ ?_
  focus
    intro h5
    replace hF := ar h5 hF
    have hR := Option.some.inj hF
    clear hF
    subst hR
  rotate_left 1
  intro h5
  replace hF := aq h5 hF
  refine aT (x1.fNop == x2.fNop) ?_ ?_
  focus
    intro h6
    replace hF := ar h6 hF
    have hR := Option.some.inj hF
    clear hF
    subst hR
  rotate_left 1
  intro h6
  replace hF := aq h6 hF
  unfold st_rostrumlaw_sameItems_0_c0 at hF
  refine aT (x1.fCall.fClient == x2.fCall.fClient) ?_ ?_
  focus
    intro h7
    replace hF := ar h7 hF
    have hR := Option.some.inj hF
    clear hF
    subst hR
  rotate_left 1
  intro h7
  replace hF := aq h7 hF
  refine aT (x1.fCall.fSeq == x2.fCall.fSeq) ?_ ?_
  focus
    intro h8
    replace hF := ar h8 hF
    have hR := Option.some.inj hF
    clear hF
    subst hR
  rotate_left 1
  intro h8
  replace hF := aq h8 hF
  refine aT (x1.fCall.fCommand.fKind == x2.fCall.fCommand.fKind) ?_ ?_
  focus
    intro h9
    replace hF := ar h9 hF
    have hR := Option.some.inj hF
    clear hF
    subst hR
  rotate_left 1
  intro h9
  replace hF := aq h9 hF
  refine aT (cJ x1.fCall.fCommand.fKey x2.fCall.fCommand.fKey) ?_ ?_
  focus
    intro h10
    replace hF := ar h10 hF
    have hR := Option.some.inj hF
    clear hF
    subst hR
  rotate_left 1
  intro h10
  replace hF := aq h10 hF
  refine aT (cJ x1.fCall.fCommand.fField x2.fCall.fCommand.fField) ?_ ?_
  focus
    intro h11
    replace hF := ar h11 hF
    have hR := Option.some.inj hF
    clear hF
    subst hR
  rotate_left 1
  intro h11
  replace hF := aq h11 hF
  refine aT (cJ x1.fCall.fCommand.fText x2.fCall.fCommand.fText) ?_ ?_
  focus
    intro h12
    replace hF := ar h12 hF
    have hR := Option.some.inj hF
    clear hF
    subst hR
  rotate_left 1
  intro h12
  replace hF := aq h12 hF
  refine aG (x1.fCall.fCommand.fN == x2.fCall.fCommand.fN) ?_ ?_
  focus
    intro h13
    replace hF := aq h13 hF
    have hR := Option.some.inj hF
    clear hF
    subst hR
  rotate_left 1
  intro h13
  replace hF := ar h13 hF
  have hR := Option.some.inj hF
  clear hF
  subst hR
  all_goals (show cD _ _ _ (aH _ _ _ _ (Code.seq _ _) _) = _; simp (maxSteps := 4000000) only [*, hd_rostrumlaw_sameItems_0, ou_rostrumlaw_sameItems_0, res27, n27a10t, n27a10f, n27a14t, n27a14f, n27a25t, n27a25f, n27k0, n27k1, n27k2, n27k3, n27k4, n27k5, n27k6, n27k7, n27k8, n27f6, n27ro, n27mv, n27gv, ↓RP, RB, ↓ah, ↓ac, ↓af, ↓ad, ↓ae, enter, aW, aC, aZ, be, aM, Mx.bw, opnd, Mx.bF, Nat.reduceBEq, bK, Mx.fit, bI, bY, toVs, cellsOf, toV, aO, aB, ax, Mx.put, ofConst, ofCell, Mx.prune, killB, killBs, aK, putDst, au, ao, aD, loadAt, bM, List.map, Nat.reduceAdd, Nat.reduceMul, cm, cn, aF, eqC, cg, aN, reduceIte, reduceCtorEq, az, bn, bq, co, bN, bD, aL, bx, lowC, lowP, forceAll, bound, bW, bg, bv, aU, br, kill, spendLoc, spendOk, setOwn, dropAl, dropAls, bG, bP, bd, cb, lend, lendA, aS, ay, bU, bL, bare, bQ, frz, bZ, bo, argE, argsE, bB, bT, fill, setCells, bR, takeParts, bp, aR, ownAt, Nat.reduceBNe, Nat.reduceSub, Nat.reduceLT, Nat.reduceLeDiff, lowA, bi, bJ, av, aJ, aX, bX, bO, bE, bS, ce, bV, bk, aI, bh, bj, bf, cd, Op.operands, Int.reduceBEq, Int.reduceLT, Int.reduceLE, Int.reduceNeg, Int.reduceBNe, bl, newB, ch, ck, cj, bne, ↓aj, ↓ai, ↓aa, ↓am, bc, aP, bm, bu, aE, bH, Call.operands, ty3, ty4, ty9, ty22, ty34, ty36, ty38])
set_option maxRecDepth 100000 in
set_option maxHeartbeats 40000000 in
theorem r_rostrumlaw_sameItems (C : ak)  (p0 : List GItem) (p1 : List GItem) (r : Bool) (hF : rostrumlaw_sameItems p0 p1 = some r) : cF TT C.wide (evW TT C.wide n27 b27) n27 Try.f27.results.toList (aQ Try.f27) [.v (.sl 10 (ab GItem.row p0)), .v (.sl 10 (ab GItem.row p1))] [] = some (.v (.b r), []) := by
  unfold rostrumlaw_sameItems at hF
  refine aT ((p0.length : Int) == (p1.length : Int)) ?_ ?_
  focus
    intro h1
    replace hF := ar h1 hF
    have hR := Option.some.inj hF
    clear hF
    subst hR
  rotate_left 1
  intro h1
  replace hF := aq h1 hF
  revert hF
  cases h2 : ci (st_rostrumlaw_sameItems_0 p0 p1) 0
  focus
    intro hF
    cases hF
  rename_i qh2
  cases qh2
  focus
    rename_i z0h2
    intro hF
    try dsimp only at hF
    have g1 : evW TT C.wide n27 b27 0 ⟨[(0, .v (.sl 10 (ab GItem.row p0))), (1, .v (.sl 10 (ab GItem.row p1))), (5, .v (.i .i64 0))], []⟩ = some (.ret, ⟨[(4, .v (.b false))], []⟩) := cy (hd_rostrumlaw_sameItems_0 p0 p1) (ou_rostrumlaw_sameItems_0 p0 p1) (fun s o hs => sl_rostrumlaw_sameItems_0 C p0 p1 s o hs) h2
    have hR := Option.some.inj hF
    clear hF
    subst hR
  rotate_left 1
  rename_i y0h2
  intro hF
  try dsimp only at hF
  have g2 : evW TT C.wide n27 b27 0 ⟨[(0, .v (.sl 10 (ab GItem.row p0))), (1, .v (.sl 10 (ab GItem.row p1))), (5, .v (.i .i64 0))], []⟩ = some (.normal, ⟨[], []⟩) := cy (hd_rostrumlaw_sameItems_0 p0 p1) (ou_rostrumlaw_sameItems_0 p0 p1) (fun s o hs => sl_rostrumlaw_sameItems_0 C p0 p1 s o hs) h2
  have hR := Option.some.inj hF
  clear hF
  subst hR
  all_goals (rw [ba]; show cp _ _ _ (aH _ _ _ _ (Code.seq _ _) _) = _; simp (maxSteps := 4000000) only [*, res27, n27a10t, n27a10f, n27a14t, n27a14f, n27a25t, n27a25f, n27k0, n27k1, n27k2, n27k3, n27k4, n27k5, n27k6, n27k7, n27k8, n27f6, n27ro, n27mv, n27gv, ↓RP, RB, ↓ah, ↓ac, ↓af, ↓ad, ↓ae, enter, aW, aC, aZ, be, aM, Mx.bw, opnd, Mx.bF, Nat.reduceBEq, bK, Mx.fit, bI, bY, toVs, cellsOf, toV, aO, aB, ax, Mx.put, ofConst, ofCell, Mx.prune, killB, killBs, aK, putDst, au, ao, aD, loadAt, bM, List.map, Nat.reduceAdd, Nat.reduceMul, cm, cn, aF, eqC, cg, aN, reduceIte, reduceCtorEq, az, bn, bq, co, bN, bD, aL, bx, lowC, lowP, forceAll, bound, bW, bg, bv, aU, br, kill, spendLoc, spendOk, setOwn, dropAl, dropAls, bG, bP, bd, cb, lend, lendA, aS, ay, bU, bL, bare, bQ, frz, bZ, bo, argE, argsE, bB, bT, fill, setCells, bR, takeParts, bp, aR, ownAt, Nat.reduceBNe, Nat.reduceSub, Nat.reduceLT, Nat.reduceLeDiff, lowA, bi, bJ, av, aJ, aX, bX, bO, bE, bS, ce, bV, bk, aI, bh, bj, bf, cd, Op.operands, Int.reduceBEq, Int.reduceLT, Int.reduceLE, Int.reduceNeg, Int.reduceBNe, bl, newB, ch, ck, cj, bne, ↓aj, ↓ai, ↓aa, ↓am, bc, aP, bm, bu, aE, bH, Call.operands, ty3, ty4, ty9, ty22, ty34, ty36, ty38])
/-! ### rostrumlaw.sameLog -/
def n24 : cC where
  keep := fun i => match i with
    | 0 => [2, 3]
    | 1 => [4]
    | _ => []
  ro := fun t => t == 2 || t == 3
  mv := fun _ => false
  give := fun _ => false
  free := fun _ => []
theorem n24k0 : n24.keep 0 = [2, 3] := rfl
theorem n24k1 : n24.keep 1 = [4] := rfl
theorem n24ro (t : Nat) : n24.ro t = (t == 2 || t == 3) := rfl
theorem n24mv (t : Nat) : n24.mv t = (false) := rfl
theorem n24gv (t : Nat) : n24.give t = (false) := rfl
theorem res24 : Try.f24.results.toList = [.tmp 4] := rfl
noncomputable def b24 : Code := aQ Try.f24
set_option maxRecDepth 100000 in
set_option maxHeartbeats 40000000 in
theorem rg_rostrumlaw_sameLog_k1 (C : ak) (k_rostrumlaw_sameItems : K_rostrumlaw_sameItems C) (p0 : GLog) (p1 : GLog) (c : Code) (ho : cr 0 1 b24 = some c) (r : Bool) (hF : ck_rostrumlaw_sameLog_k1 p0 p1 = some r) : aH TT C.wide (evW TT C.wide n24 b24) n24 c ⟨[(2, .rp [.i .i64 p0.fBase, .i .i64 p0.fBaseTerm, .sl 10 (ab GItem.row p0.fItems)]), (3, .rp [.i .i64 p1.fBase, .i .i64 p1.fBaseTerm, .sl 10 (ab GItem.row p1.fItems)])], []⟩ = some (.normal, ⟨[(4, .v (.b r))], []⟩) := by
  have e := Option.some.inj (ho.symm.trans (rfl : cr 0 1 b24 = some _))
  subst e
  clear ho
  unfold ck_rostrumlaw_sameLog_k1 at hF
  refine aT (p0.fBase == p1.fBase) ?_ ?_
  focus
    intro h1
    replace hF := ar h1 hF
    have hR := Option.some.inj hF
    clear hF
    subst hR
  rotate_left 1
  intro h1
  replace hF := aq h1 hF
  refine aT (p0.fBaseTerm == p1.fBaseTerm) ?_ ?_
  focus
    intro h2
    replace hF := ar h2 hF
    have hR := Option.some.inj hF
    clear hF
    subst hR
  rotate_left 1
  intro h2
  replace hF := aq h2 hF
  revert hF
  cases h3 : rostrumlaw_sameItems p0.fItems p1.fItems
  focus
    intro hF
    cases hF
  rename_i x1
  intro hF
  try dsimp only at hF
  have g1 : C.wide 27 [.v (.sl 10 (ab GItem.row p0.fItems)), .v (.sl 10 (ab GItem.row p1.fItems))] [] = some (.v (.b x1), []) := k_rostrumlaw_sameItems p0.fItems p1.fItems _ h3
  have hR := Option.some.inj hF
  clear hF
  subst hR
  all_goals (simp (maxSteps := 4000000) only [*, res24, n24k0, n24k1, n24ro, n24mv, n24gv, ↓RP, RB, ↓ah, ↓ac, ↓af, ↓ad, ↓ae, enter, aW, aC, aZ, be, aM, Mx.bw, opnd, Mx.bF, Nat.reduceBEq, bK, Mx.fit, bI, bY, toVs, cellsOf, toV, aO, aB, ax, Mx.put, ofConst, ofCell, Mx.prune, killB, killBs, aK, putDst, au, ao, aD, loadAt, bM, List.map, Nat.reduceAdd, Nat.reduceMul, cm, cn, aF, eqC, cg, aN, reduceIte, reduceCtorEq, az, bn, bq, co, bN, bD, aL, bx, lowC, lowP, forceAll, bound, bW, bg, bv, aU, br, kill, spendLoc, spendOk, setOwn, dropAl, dropAls, bG, bP, bd, cb, lend, lendA, aS, ay, bU, bL, bare, bQ, frz, bZ, bo, argE, argsE, bB, bT, fill, setCells, bR, takeParts, bp, aR, ownAt, Nat.reduceBNe, Nat.reduceSub, Nat.reduceLT, Nat.reduceLeDiff, lowA, bi, bJ, av, aJ, aX, bX, bO, bE, bS, ce, bV, bk, aI, bh, bj, bf, cd, Op.operands, Int.reduceBEq, Int.reduceLT, Int.reduceLE, Int.reduceNeg, Int.reduceBNe, bl, newB, ch, ck, cj, bne, ↓aj, ↓ai, bc, aP, bm, bu, aE, bH, Call.operands, ty3, ty4, ty9, ty22, ty24, ty34, ty36, ty38, ↓aa _ _ _ _ 1])
set_option maxRecDepth 100000 in
set_option maxHeartbeats 40000000 in
theorem r_rostrumlaw_sameLog (C : ak) (k_rostrumlaw_sameItems : K_rostrumlaw_sameItems C) (p0 : GLog) (p1 : GLog) (r : Bool) (hF : rostrumlaw_sameLog p0 p1 = some r) : cF TT C.wide (evW TT C.wide n24 b24) n24 Try.f24.results.toList (aQ Try.f24) [.agg [.v (.i .i64 p0.fBase), .v (.i .i64 p0.fBaseTerm), .v (.sl 10 (ab GItem.row p0.fItems))], .agg [.v (.i .i64 p1.fBase), .v (.i .i64 p1.fBaseTerm), .v (.sl 10 (ab GItem.row p1.fItems))]] [] = some (.v (.b r), []) := by
  unfold rostrumlaw_sameLog at hF
  revert hF
  cases h1 : ck_rostrumlaw_sameLog_k1 p0 p1
  focus
    intro hF
    cases hF
  rename_i x1
  intro hF
  try dsimp only at hF
  have g1 : @cR TT C.wide (evW TT C.wide n24 b24) n24 0 1 ⟨[(2, .rp [.i .i64 p0.fBase, .i .i64 p0.fBaseTerm, .sl 10 (ab GItem.row p0.fItems)]), (3, .rp [.i .i64 p1.fBase, .i .i64 p1.fBaseTerm, .sl 10 (ab GItem.row p1.fItems)])], []⟩ ⟨_⟩ = some (.normal, ⟨[(4, .v (.b x1))], []⟩) := rg_rostrumlaw_sameLog_k1 C k_rostrumlaw_sameItems p0 p1 _ rfl _ h1
  have hR := Option.some.inj hF
  clear hF
  subst hR
  all_goals (rw [ba]; show cp _ _ _ (aH _ _ _ _ (Code.seq _ _) _) = _; simp (maxSteps := 4000000) only [*, res24, n24k0, n24k1, n24ro, n24mv, n24gv, ↓RP, RB, ↓ah, ↓ac, ↓af, ↓ad, ↓ae, enter, aW, aC, aZ, be, aM, Mx.bw, opnd, Mx.bF, Nat.reduceBEq, bK, Mx.fit, bI, bY, toVs, cellsOf, toV, aO, aB, ax, Mx.put, ofConst, ofCell, Mx.prune, killB, killBs, aK, putDst, au, ao, aD, loadAt, bM, List.map, Nat.reduceAdd, Nat.reduceMul, cm, cn, aF, eqC, cg, aN, reduceIte, reduceCtorEq, az, bn, bq, co, bN, bD, aL, bx, lowC, lowP, forceAll, bound, bW, bg, bv, aU, br, kill, spendLoc, spendOk, setOwn, dropAl, dropAls, bG, bP, bd, cb, lend, lendA, aS, ay, bU, bL, bare, bQ, frz, bZ, bo, argE, argsE, bB, bT, fill, setCells, bR, takeParts, bp, aR, ownAt, Nat.reduceBNe, Nat.reduceSub, Nat.reduceLT, Nat.reduceLeDiff, lowA, bi, bJ, av, aJ, aX, bX, bO, bE, bS, ce, bV, bk, aI, bh, bj, bf, cd, Op.operands, Int.reduceBEq, Int.reduceLT, Int.reduceLE, Int.reduceNeg, Int.reduceBNe, bl, newB, ch, ck, cj, bne, ↓aj, ↓ai, bc, aP, bm, bu, aE, bH, Call.operands, ty3, ty4, ty9, ty22, ty24, ty34, ty36, ty38, ↓aa _ _ _ _ 0, ↓bC _ _ _ _ 1])
/-! ### rostrumlaw.LedgerMatches -/
def n9 : cC where
  keep := fun i => match i with
    | 0 => [1, 2, 3, 4]
    | 1 => [1, 2, 3, 4, 9]
    | 2 => [1, 2, 3, 4, 9, 10, 11, 12, 13]
    | 3 => [4, 9, 10, 11, 12, 13, 14, 15, 16, 17]
    | 4 => [8]
    | _ => []
  ro := fun t => t == 4
  mv := fun _ => false
  give := fun _ => false
  free := fun i => match i with | 2 => [(0, 1), (0, 2), (1, 2), (0, 3), (1, 3), (2, 3), (0, 4), (1, 4), (2, 4), (7, 8), (7, 9), (8, 9), (7, 10), (8, 10), (9, 10), (0, 11), (1, 11), (2, 11), (3, 11), (4, 11), (5, 11), (6, 11), (7, 11), (8, 11), (9, 11), (10, 11), (8, 12), (9, 12), (10, 12), (9, 13), (10, 13), (10, 14)] | _ => []
theorem n9k0 : n9.keep 0 = [1, 2, 3, 4] := rfl
theorem n9k1 : n9.keep 1 = [1, 2, 3, 4, 9] := rfl
theorem n9k2 : n9.keep 2 = [1, 2, 3, 4, 9, 10, 11, 12, 13] := rfl
theorem n9k3 : n9.keep 3 = [4, 9, 10, 11, 12, 13, 14, 15, 16, 17] := rfl
theorem n9k4 : n9.keep 4 = [8] := rfl
theorem n9ro (t : Nat) : n9.ro t = (t == 4) := rfl
theorem n9mv (t : Nat) : n9.mv t = (false) := rfl
theorem n9gv (t : Nat) : n9.give t = (false) := rfl
theorem n9f2 : n9.free 2 = [(0, 1), (0, 2), (1, 2), (0, 3), (1, 3), (2, 3), (0, 4), (1, 4), (2, 4), (7, 8), (7, 9), (8, 9), (7, 10), (8, 10), (9, 10), (0, 11), (1, 11), (2, 11), (3, 11), (4, 11), (5, 11), (6, 11), (7, 11), (8, 11), (9, 11), (10, 11), (8, 12), (9, 12), (10, 12), (9, 13), (10, 13), (10, 14)] := rfl
theorem res9 : Try.f9.results.toList = [.tmp 8] := rfl
noncomputable def b9 : Code := aQ Try.f9
set_option maxRecDepth 100000 in
set_option maxHeartbeats 40000000 in
theorem rg_rostrumlaw_LedgerMatches_k4 (C : ak) (k_rostrumlaw_sameLog : K_rostrumlaw_sameLog C) (p0 : GLog) (p1 : Bool) (p2 : Int) (p3 : Int) (p4 : Bool) (p5 : Int) (p6 : Int) (p7 : GLog) (p8 : GLog) (p9 : GLog) (c : Code) (ho : cr 0 4 b9 = some c) (r : Bool) (hF : ck_rostrumlaw_LedgerMatches_k4 p0 p1 p2 p3 p4 p5 p6 p7 p8 p9 = some r) : aH TT C.wide (evW TT C.wide n9 b9) n9 c ⟨[(4, .rp [.i .i64 p0.fBase, .i .i64 p0.fBaseTerm, .sl 10 (ab GItem.row p0.fItems)]), (9, .ptr 0 0), (10, .ptr 1 0), (11, .v (.b p1)), (12, .v (.i .i64 p2)), (13, .v (.i .i64 p3)), (14, .ptr 2 0), (15, .v (.b p4)), (16, .v (.i .i64 p5)), (17, .v (.i .i64 p6))], [[.v (.i .i64 p7.fBase), .v (.i .i64 p7.fBaseTerm), .v (.sl 10 (ab GItem.row p7.fItems))], [.v (.i .i64 p8.fBase), .v (.i .i64 p8.fBaseTerm), .v (.sl 10 (ab GItem.row p8.fItems))], [.v (.i .i64 p9.fBase), .v (.i .i64 p9.fBaseTerm), .v (.sl 10 (ab GItem.row p9.fItems))]]⟩ = some (.normal, ⟨[(8, .v (.b r))], [[.v (.i .i64 p7.fBase), .v (.i .i64 p7.fBaseTerm), .v (.sl 10 (ab GItem.row p7.fItems))], [.v (.i .i64 p8.fBase), .v (.i .i64 p8.fBaseTerm), .v (.sl 10 (ab GItem.row p8.fItems))], [.v (.i .i64 p9.fBase), .v (.i .i64 p9.fBaseTerm), .v (.sl 10 (ab GItem.row p9.fItems))]]⟩) := by
  have e := Option.some.inj (ho.symm.trans (rfl : cr 0 4 b9 = some _))
  subst e
  clear ho
  unfold ck_rostrumlaw_LedgerMatches_k4 at hF
  refine aT (p3 == p6) ?_ ?_
  focus
    intro h1
    replace hF := ar h1 hF
    have hR := Option.some.inj hF
    clear hF
    subst hR
  rotate_left 1
  intro h1
  replace hF := aq h1 hF
  refine aG p1 ?_ ?_
  focus
    intro h2
    replace hF := aq h2 hF
    unfold ck_rostrumlaw_LedgerMatches_k4_c0 at hF
    refine aT p4 ?_ ?_
    focus
      intro h3
      replace hF := ar h3 hF
      have hR := Option.some.inj hF
      clear hF
      subst hR
    rotate_left 1
    intro h3
    replace hF := aq h3 hF
    refine aT (p2 == p5) ?_ ?_
    focus
      intro h4
      replace hF := ar h4 hF
      have hR := Option.some.inj hF
      clear hF
      subst hR
    rotate_left 1
    intro h4
    replace hF := aq h4 hF
    revert hF
    cases h5 : rostrumlaw_sameLog p8 p9
    focus
      intro hF
      cases hF
    rename_i x1
    intro hF
    try dsimp only at hF
    have g1 : C.wide 24 [.agg [.v (.i .i64 p8.fBase), .v (.i .i64 p8.fBaseTerm), .v (.sl 10 (ab GItem.row p8.fItems))], .agg [.v (.i .i64 p9.fBase), .v (.i .i64 p9.fBaseTerm), .v (.sl 10 (ab GItem.row p9.fItems))]] [] = some (.v (.b x1), []) := k_rostrumlaw_sameLog p8 p9 _ h5
    refine aT x1 ?_ ?_
    focus
      intro h6
      replace hF := ar h6 hF
      have hR := Option.some.inj hF
      clear hF
      subst hR
    rotate_left 1
    intro h6
    replace hF := aq h6 hF
    revert hF
    cases h7 : rostrumlaw_sameLog p7 p0
    focus
      intro hF
      cases hF
    rename_i x2
    intro hF
    try dsimp only at hF
    have g2 : C.wide 24 [.agg [.v (.i .i64 p7.fBase), .v (.i .i64 p7.fBaseTerm), .v (.sl 10 (ab GItem.row p7.fItems))], .agg [.v (.i .i64 p0.fBase), .v (.i .i64 p0.fBaseTerm), .v (.sl 10 (ab GItem.row p0.fItems))]] [] = some (.v (.b x2), []) := k_rostrumlaw_sameLog p7 p0 _ h7
    have hR := Option.some.inj hF
    clear hF
    subst hR
  rotate_left 4
  intro h2
  replace hF := ar h2 hF
  refine aG p4 ?_ ?_
  focus
    intro h3
    replace hF := aq h3 hF
    have hR := Option.some.inj hF
    clear hF
    subst hR
  rotate_left 1
  intro h3
  replace hF := ar h3 hF
  refine aT (p2 == p5) ?_ ?_
  focus
    intro h4
    replace hF := ar h4 hF
    have hR := Option.some.inj hF
    clear hF
    subst hR
  rotate_left 1
  intro h4
  replace hF := aq h4 hF
  revert hF
  cases h5 : rostrumlaw_sameLog p8 p9
  focus
    intro hF
    cases hF
  rename_i x1
  intro hF
  try dsimp only at hF
  have g1 : C.wide 24 [.agg [.v (.i .i64 p8.fBase), .v (.i .i64 p8.fBaseTerm), .v (.sl 10 (ab GItem.row p8.fItems))], .agg [.v (.i .i64 p9.fBase), .v (.i .i64 p9.fBaseTerm), .v (.sl 10 (ab GItem.row p9.fItems))]] [] = some (.v (.b x1), []) := k_rostrumlaw_sameLog p8 p9 _ h5
  refine aT x1 ?_ ?_
  focus
    intro h6
    replace hF := ar h6 hF
    have hR := Option.some.inj hF
    clear hF
    subst hR
  rotate_left 1
  intro h6
  replace hF := aq h6 hF
  revert hF
  cases h7 : rostrumlaw_sameLog p7 p0
  focus
    intro hF
    cases hF
  rename_i x2
  intro hF
  try dsimp only at hF
  have g2 : C.wide 24 [.agg [.v (.i .i64 p7.fBase), .v (.i .i64 p7.fBaseTerm), .v (.sl 10 (ab GItem.row p7.fItems))], .agg [.v (.i .i64 p0.fBase), .v (.i .i64 p0.fBaseTerm), .v (.sl 10 (ab GItem.row p0.fItems))]] [] = some (.v (.b x2), []) := k_rostrumlaw_sameLog p7 p0 _ h7
  have hR := Option.some.inj hF
  clear hF
  subst hR
  all_goals (simp (maxSteps := 4000000) only [*, res9, n9k0, n9k1, n9k2, n9k3, n9k4, n9f2, n9ro, n9mv, n9gv, ↓RP, RB, ↓ah, ↓ac, ↓af, ↓ad, ↓ae, enter, aW, aC, aZ, be, aM, Mx.bw, opnd, Mx.bF, Nat.reduceBEq, bK, Mx.fit, bI, bY, toVs, cellsOf, toV, aO, aB, ax, Mx.put, ofConst, ofCell, Mx.prune, killB, killBs, aK, putDst, au, ao, aD, loadAt, bM, List.map, Nat.reduceAdd, Nat.reduceMul, cm, cn, aF, eqC, cg, aN, reduceIte, reduceCtorEq, az, bn, bq, co, bN, bD, aL, bx, lowC, lowP, forceAll, bound, bW, bg, bv, aU, br, kill, spendLoc, spendOk, setOwn, dropAl, dropAls, bG, bP, bd, cb, lend, lendA, aS, ay, bU, bL, bare, bQ, frz, bZ, bo, argE, argsE, bB, bT, fill, setCells, bR, takeParts, bp, aR, ownAt, Nat.reduceBNe, Nat.reduceSub, Nat.reduceLT, Nat.reduceLeDiff, lowA, bi, bJ, av, aJ, aX, bX, bO, bE, bS, ce, bV, bk, aI, bh, bj, bf, cd, Op.operands, Int.reduceBEq, Int.reduceLT, Int.reduceLE, Int.reduceNeg, Int.reduceBNe, bl, newB, ch, ck, cj, bne, ↓aj, ↓ai, bc, aP, bm, bu, aE, bH, Call.operands, ty3, ty4, ty9, ty22, ty24, ty25, ty34, ty36, ty38, ↓aa _ _ _ _ 4])
set_option maxRecDepth 100000 in
set_option maxHeartbeats 40000000 in
theorem r_rostrumlaw_LedgerMatches (C : ak) (k_rostrumref_LogCopy_z : K_rostrumref_LogCopy_z C) (k_rostrumlaw_items_z : K_rostrumlaw_items_z C) (k_ledger_Match : K_ledger_Match C) (k_rostrumref_Matched : K_rostrumref_Matched C) (k_rostrumlaw_sameLog : K_rostrumlaw_sameLog C) (p0 : GLog) (p1 : Int) (p2 : Int) (p3 : List GItem) (r : Bool) (hF : rostrumlaw_LedgerMatches p0 p1 p2 p3 = some r) : cF TT C.wide (evW TT C.wide n9 b9) n9 Try.f9.results.toList (aQ Try.f9) [.agg [.v (.i .i64 p0.fBase), .v (.i .i64 p0.fBaseTerm), .v (.sl 10 (ab GItem.row p0.fItems))], .v (.i .i64 p1), .v (.i .i64 p2), .v (.sl 10 (ab GItem.row p3))] [] = some (.v (.b r), []) := by
  unfold rostrumlaw_LedgerMatches at hF
  revert hF
  cases h1 : rostrumref_LogCopy_z p0
  focus
    intro hF
    cases hF
  rename_i x1
  intro hF
  try dsimp only at hF
  have g1 : C.wide 16 [.agg [.v (.i .i64 p0.fBase), .v (.i .i64 p0.fBaseTerm), .v (.sl 10 (ab GItem.row p0.fItems))]] [] = some (.agg [.v (.i .i64 x1.fBase), .v (.i .i64 x1.fBaseTerm), .v (.sl 10 (ab GItem.row x1.fItems))], []) := k_rostrumref_LogCopy_z p0 _ h1
  revert hF
  cases h2 : rostrumlaw_items_z p3
  focus
    intro hF
    cases hF
  rename_i x2
  intro hF
  try dsimp only at hF
  have g2 : C.wide 32 [.v (.sl 10 (ab GItem.row p3))] [] = some (.v (.sl 10 (ab GItem.row x2)), []) := k_rostrumlaw_items_z p3 _ h2
  revert hF
  cases h3 : ledger_Match x1 p1 p2 x2
  focus
    intro hF
    cases hF
  rename_i qh3
  obtain ⟨x3, x4, x5, x6⟩ := qh3
  intro hF
  try dsimp only at hF
  have g3 : C.wide 31 [.agg [.v (.i .i64 x1.fBase), .v (.i .i64 x1.fBaseTerm), .v (.sl 10 (ab GItem.row x1.fItems))], .v (.i .i64 p1), .v (.i .i64 p2), .v (.sl 10 (ab GItem.row x2))] [] = some (.tup [.agg [.v (.i .i64 x3.fBase), .v (.i .i64 x3.fBaseTerm), .v (.sl 10 (ab GItem.row x3.fItems))], .v (.b x4), .v (.i .i64 x5), .v (.i .i64 x6)], []) := k_ledger_Match x1 p1 p2 x2 _ h3
  revert hF
  cases h4 : rostrumref_Matched p0 p1 p2 p3
  focus
    intro hF
    cases hF
  rename_i qh4
  obtain ⟨x7, x8, x9, x10⟩ := qh4
  intro hF
  try dsimp only at hF
  have g4 : C.wide 33 [.agg [.v (.i .i64 p0.fBase), .v (.i .i64 p0.fBaseTerm), .v (.sl 10 (ab GItem.row p0.fItems))], .v (.i .i64 p1), .v (.i .i64 p2), .v (.sl 10 (ab GItem.row p3))] [] = some (.tup [.agg [.v (.i .i64 x7.fBase), .v (.i .i64 x7.fBaseTerm), .v (.sl 10 (ab GItem.row x7.fItems))], .v (.b x8), .v (.i .i64 x9), .v (.i .i64 x10)], []) := k_rostrumref_Matched p0 p1 p2 p3 _ h4
  revert hF
  cases h5 : ck_rostrumlaw_LedgerMatches_k4 p0 x4 x5 x6 x8 x9 x10 x1 x3 x7
  focus
    intro hF
    cases hF
  rename_i x11
  intro hF
  try dsimp only at hF
  have g5 : @cR TT C.wide (evW TT C.wide n9 b9) n9 0 4 ⟨[(4, .rp [.i .i64 p0.fBase, .i .i64 p0.fBaseTerm, .sl 10 (ab GItem.row p0.fItems)]), (9, .ptr 0 0), (10, .ptr 1 0), (11, .v (.b x4)), (12, .v (.i .i64 x5)), (13, .v (.i .i64 x6)), (14, .ptr 2 0), (15, .v (.b x8)), (16, .v (.i .i64 x9)), (17, .v (.i .i64 x10))], [[.v (.i .i64 x1.fBase), .v (.i .i64 x1.fBaseTerm), .v (.sl 10 (ab GItem.row x1.fItems))], [.v (.i .i64 x3.fBase), .v (.i .i64 x3.fBaseTerm), .v (.sl 10 (ab GItem.row x3.fItems))], [.v (.i .i64 x7.fBase), .v (.i .i64 x7.fBaseTerm), .v (.sl 10 (ab GItem.row x7.fItems))]]⟩ ⟨_⟩ = some (.normal, ⟨[(8, .v (.b x11))], [[.v (.i .i64 x1.fBase), .v (.i .i64 x1.fBaseTerm), .v (.sl 10 (ab GItem.row x1.fItems))], [.v (.i .i64 x3.fBase), .v (.i .i64 x3.fBaseTerm), .v (.sl 10 (ab GItem.row x3.fItems))], [.v (.i .i64 x7.fBase), .v (.i .i64 x7.fBaseTerm), .v (.sl 10 (ab GItem.row x7.fItems))]]⟩) := rg_rostrumlaw_LedgerMatches_k4 C k_rostrumlaw_sameLog p0 x4 x5 x6 x8 x9 x10 x1 x3 x7 _ rfl _ h5
  have hR := Option.some.inj hF
  clear hF
  subst hR
  all_goals (rw [ba]; show cp _ _ _ (aH _ _ _ _ (Code.seq _ _) _) = _; simp (maxSteps := 4000000) only [*, res9, n9k0, n9k1, n9k2, n9k3, n9k4, n9f2, n9ro, n9mv, n9gv, ↓RP, RB, ↓ah, ↓ac, ↓af, ↓ad, ↓ae, enter, aW, aC, aZ, be, aM, Mx.bw, opnd, Mx.bF, Nat.reduceBEq, bK, Mx.fit, bI, bY, toVs, cellsOf, toV, aO, aB, ax, Mx.put, ofConst, ofCell, Mx.prune, killB, killBs, aK, putDst, au, ao, aD, loadAt, bM, List.map, Nat.reduceAdd, Nat.reduceMul, cm, cn, aF, eqC, cg, aN, reduceIte, reduceCtorEq, az, bn, bq, co, bN, bD, aL, bx, lowC, lowP, forceAll, bound, bW, bg, bv, aU, br, kill, spendLoc, spendOk, setOwn, dropAl, dropAls, bG, bP, bd, cb, lend, lendA, aS, ay, bU, bL, bare, bQ, frz, bZ, bo, argE, argsE, bB, bT, fill, setCells, bR, takeParts, bp, aR, ownAt, Nat.reduceBNe, Nat.reduceSub, Nat.reduceLT, Nat.reduceLeDiff, lowA, bi, bJ, av, aJ, aX, bX, bO, bE, bS, ce, bV, bk, aI, bh, bj, bf, cd, Op.operands, Int.reduceBEq, Int.reduceLT, Int.reduceLE, Int.reduceNeg, Int.reduceBNe, bl, newB, ch, ck, cj, bne, ↓aj, ↓ai, bc, aP, bm, bu, aE, bH, Call.operands, ty3, ty4, ty9, ty22, ty24, ty25, ty34, ty36, ty38, ↓aa _ _ _ _ 0, ↓aa _ _ _ _ 1, ↓am _ _ _ _ 2, ↓aa _ _ _ _ 3, ↓bC _ _ _ _ 4])
end Go.Proofs.Ytnjkmbogbfjffaa
