/- The code of these functions, run by the machine Mx, gives what the plain functions say, if their callees do (part 1). -/
import Derived.Test.YtnjkmbogbfjffaaWTy
import Derived.Test.YtnjkmbogbfjffaaLedgerMatchesD
set_option linter.unusedSimpArgs false
set_option linter.unusedVariables false
set_option linter.constructorNameAsVariable false
set_option linter.unnecessarySimpa false
namespace Go.Proofs.Ytnjkmbogbfjffaa
open Go Go.Mx Go.Proofs
/-! ### rostrumref.LogCopy -/
def n16 : cC where
  keep := fun i => match i with
    | 0 => [1, 2]
    | 1 => [1, 2, 3]
    | 2 => [1, 2, 3, 4]
    | 3 => [1, 2, 3, 4, 14]
    | 4 => [1, 2, 3, 4]
    | 5 => [1, 2, 3, 4]
    | 6 => [2]
    | _ => []
  ro := fun t => t == 1
  mv := fun t => t == 27
  give := fun _ => false
  free := fun i => match i with | 5 => [(0, 2), (1, 2), (0, 3), (1, 3), (0, 4), (1, 4), (2, 4), (3, 4), (0, 5), (1, 5), (0, 6), (1, 6), (0, 7), (1, 7)] | _ => []
  alive := fun i x => match i, x with
    | 14, true => some [1, 2, 3, 4]
    | 14, false => some [2, 3]
    | _, _ => none
theorem n16a14t (e : Env) (S : aA) : aw n16 14 true ⟨e, S⟩ = ⟨prune [1, 2, 3, 4] e, S⟩ := rfl
theorem n16a14f (e : Env) (S : aA) : aw n16 14 false ⟨e, S⟩ = ⟨prune [2, 3] e, S⟩ := rfl
theorem n16k0 : n16.keep 0 = [1, 2] := rfl
theorem n16k1 : n16.keep 1 = [1, 2, 3] := rfl
theorem n16k2 : n16.keep 2 = [1, 2, 3, 4] := rfl
theorem n16k3 : n16.keep 3 = [1, 2, 3, 4, 14] := rfl
theorem n16k4 : n16.keep 4 = [1, 2, 3, 4] := rfl
theorem n16k5 : n16.keep 5 = [1, 2, 3, 4] := rfl
theorem n16k6 : n16.keep 6 = [2] := rfl
theorem n16ro (t : Nat) : n16.ro t = (t == 1) := rfl
theorem n16mv (t : Nat) : n16.mv t = (t == 27) := rfl
theorem n16gv (t : Nat) : n16.give t = (false) := rfl
theorem n16f5 : n16.free 5 = [(0, 2), (1, 2), (0, 3), (1, 3), (0, 4), (1, 4), (2, 4), (3, 4), (0, 5), (1, 5), (0, 6), (1, 6), (0, 7), (1, 7)] := rfl
theorem res16 : Try.f16.results.toList = [.cell 2 24] := rfl
noncomputable def b16 : Code := aQ Try.f16
noncomputable def c16_0 : Code := (bz 0 (aQ Try.f16)).getD .skip
theorem fl16_0 : bz 0 b16 = some c16_0 := rfl
def hd_rostrumref_LogCopy_z_0 (p0 : GLog) (s : Int × GLog) : St := ⟨[(1, .rp [.i .i64 p0.fBase, .i .i64 p0.fBaseTerm, .sl 10 (ab GItem.row p0.fItems)]), (2, .ptr 0 0), (3, .ptr 1 0), (4, .v (.i .i64 s.1))], [[.v (.i .i64 0), .v (.i .i64 0), .own 10 []], [.v (.i .i64 s.2.fBase), .v (.i .i64 s.2.fBaseTerm), .own 10 (ab GItem.row s.2.fItems)]]⟩
def ou_rostrumref_LogCopy_z_0 (p0 : GLog) (r : GLog) : Option (Ex × St) := some (.normal, ⟨[(2, .ptr 0 0), (3, .ptr 1 0)], [[.v (.i .i64 0), .v (.i .i64 0), .own 10 []], [.v (.i .i64 r.fBase), .v (.i .i64 r.fBaseTerm), .own 10 (ab GItem.row r.fItems)]]⟩)
set_option maxRecDepth 100000 in
set_option maxHeartbeats 40000000 in
theorem sl_rostrumref_LogCopy_z_0 (C : ak)  (p0 : GLog) (s : Int × GLog) (o : (Int × GLog) ⊕ GLog) (hF : st_rostrumref_LogCopy_z_0 p0 s = some o) : evW TT C.wide n16 b16 0 (hd_rostrumref_LogCopy_z_0 p0 s) = Sum.elim (fun s => evW TT C.wide n16 b16 0 (hd_rostrumref_LogCopy_z_0 p0 s)) (fun r => ou_rostrumref_LogCopy_z_0 p0 r) o := by
  obtain ⟨p1, p2⟩ := s
  unfold st_rostrumref_LogCopy_z_0 at hF
  try dsimp only at hF
  rw [ct TT n16 fl16_0]
  refine aT (decide (p1 < (p0.fItems.length : Int))) ?_ ?_
  focus
    intro h1
    replace hF := ar h1 hF
    have hR := Option.some.inj hF
    clear hF
    subst hR
  rotate_left 1
  intro h1
  replace hF := aq h1 hF
  revert hF
  cases h2 : idx p0.fItems p1
  focus
    intro hF
    cases hF
  rename_i x1
  intro hF
  try dsimp only at hF
  have g1 : decide (0 ≤ p1) = true := (cc h2).1
  have g2 : (ab GItem.row p0.fItems)[(p1 : Int).toNat]? = some [.i .i64 x1.fTerm, .i .i64 x1.fTime, .b x1.fNop, .i .i64 x1.fCall.fClient, .i .i64 x1.fCall.fSeq, .i .i64 x1.fCall.fCommand.fKind, .s x1.fCall.fCommand.fKey, .s x1.fCall.fCommand.fField, .s x1.fCall.fCommand.fText, .i .i64 x1.fCall.fCommand.fN] := ca _ h2
  refine aG (cH (p2.fItems.length + 1) 104) ?_ ?_
  focus
    intro h3
    replace hF := aq h3 hF
    have hR := Option.some.inj hF
    clear hF
    subst hR
  rotate_left 1
  intro h3
  replace hF := ar h3 hF
  cases hF
  all_goals (show cD _ _ _ (aH _ _ _ _ (Code.seq _ _) _) = _; simp (maxSteps := 4000000) only [*, hd_rostrumref_LogCopy_z_0, ou_rostrumref_LogCopy_z_0, res16, n16a14t, n16a14f, n16k0, n16k1, n16k2, n16k3, n16k4, n16k5, n16k6, n16f5, n16ro, n16mv, n16gv, ↓RP, RB, ↓ah, ↓ac, ↓af, ↓ad, ↓ae, enter, aW, aC, aZ, be, aM, Mx.bw, opnd, Mx.bF, Nat.reduceBEq, bK, Mx.fit, bI, bY, toVs, cellsOf, toV, aO, aB, ax, Mx.put, ofConst, ofCell, Mx.prune, killB, killBs, aK, putDst, au, ao, aD, loadAt, bM, List.map, Nat.reduceAdd, Nat.reduceMul, cm, cn, aF, eqC, cg, aN, reduceIte, reduceCtorEq, az, bn, bq, co, bN, bD, aL, bx, lowC, lowP, forceAll, bound, bW, bg, bv, aU, br, kill, spendLoc, spendOk, setOwn, dropAl, dropAls, bG, bP, bd, cb, lend, lendA, aS, ay, bU, bL, bare, bQ, frz, bZ, bo, argE, argsE, bB, bT, fill, setCells, bR, takeParts, bp, aR, ownAt, Nat.reduceBNe, Nat.reduceSub, Nat.reduceLT, Nat.reduceLeDiff, lowA, bi, bJ, av, aJ, aX, bX, bO, bE, bS, ce, bV, bk, aI, bh, bj, bf, cd, Op.operands, Int.reduceBEq, Int.reduceLT, Int.reduceLE, Int.reduceNeg, Int.reduceBNe, bl, newB, ch, ck, cj, bne, ↓aj, ↓ai, ↓aa, ↓am, bc, aP, bm, bu, aE, bH, Call.operands, ty3, ty4, ty9, ty22, ty24, ty34, ty36, ty38, GItem.cons, GItem.one, GItem.rep, GItem.set])
set_option maxRecDepth 100000 in
set_option maxHeartbeats 40000000 in
theorem r_rostrumref_LogCopy_z (C : ak)  (p0 : GLog) (r : GLog) (hF : rostrumref_LogCopy_z p0 = some r) : ∃ d S, cF TT C.wide (evW TT C.wide n16 b16) n16 Try.f16.results.toList (aQ Try.f16) [.agg [.v (.i .i64 p0.fBase), .v (.i .i64 p0.fBaseTerm), .v (.sl 10 (ab GItem.row p0.fItems))]] [] = some (d, S) ∧ bx d = true ∧ (frz d, S) = (.agg [.v (.i .i64 r.fBase), .v (.i .i64 r.fBaseTerm), .v (.sl 10 (ab GItem.row r.fItems))], []) := by
  unfold rostrumref_LogCopy_z at hF
  revert hF
  cases h1 : ci (st_rostrumref_LogCopy_z_0 p0) (0, (GLog.mk p0.fBase p0.fBaseTerm []))
  focus
    intro hF
    cases hF
  rename_i qh1
  revert qh1
  intro x1 h1
  intro hF
  try dsimp only at hF
  have g1 : evW TT C.wide n16 b16 0 ⟨[(1, .rp [.i .i64 p0.fBase, .i .i64 p0.fBaseTerm, .sl 10 (ab GItem.row p0.fItems)]), (2, .ptr 0 0), (3, .ptr 1 0), (4, .v (.i .i64 0))], [[.v (.i .i64 0), .v (.i .i64 0), .own 10 []], [.v (.i .i64 p0.fBase), .v (.i .i64 p0.fBaseTerm), .own 10 []]]⟩ = some (.normal, ⟨[(2, .ptr 0 0), (3, .ptr 1 0)], [[.v (.i .i64 0), .v (.i .i64 0), .own 10 []], [.v (.i .i64 x1.fBase), .v (.i .i64 x1.fBaseTerm), .own 10 (ab GItem.row x1.fItems)]]⟩) := cy (hd_rostrumref_LogCopy_z_0 p0) (ou_rostrumref_LogCopy_z_0 p0) (fun s o hs => sl_rostrumref_LogCopy_z_0 C p0 s o hs) h1
  have hR := Option.some.inj hF
  clear hF
  subst hR
  refine ⟨.agg [.v (.i .i64 x1.fBase), .v (.i .i64 x1.fBaseTerm), .own 10 (ab GItem.row x1.fItems)], [], ?_, rfl, by first | rfl | (simp only [*]; done) | (simp only [*]; rfl)⟩
  all_goals (rw [ba]; show cp _ _ _ (aH _ _ _ _ (Code.seq _ _) _) = _; simp (maxSteps := 4000000) only [*, res16, n16a14t, n16a14f, n16k0, n16k1, n16k2, n16k3, n16k4, n16k5, n16k6, n16f5, n16ro, n16mv, n16gv, ↓RP, RB, ↓ah, ↓ac, ↓af, ↓ad, ↓ae, enter, aW, aC, aZ, be, aM, Mx.bw, opnd, Mx.bF, Nat.reduceBEq, bK, Mx.fit, bI, bY, toVs, cellsOf, toV, aO, aB, ax, Mx.put, ofConst, ofCell, Mx.prune, killB, killBs, aK, putDst, au, ao, aD, loadAt, bM, List.map, Nat.reduceAdd, Nat.reduceMul, cm, cn, aF, eqC, cg, aN, reduceIte, reduceCtorEq, az, bn, bq, co, bN, bD, aL, bx, lowC, lowP, forceAll, bound, bW, bg, bv, aU, br, kill, spendLoc, spendOk, setOwn, dropAl, dropAls, bG, bP, bd, cb, lend, lendA, aS, ay, bU, bL, bare, bQ, frz, bZ, bo, argE, argsE, bB, bT, fill, setCells, bR, takeParts, bp, aR, ownAt, Nat.reduceBNe, Nat.reduceSub, Nat.reduceLT, Nat.reduceLeDiff, lowA, bi, bJ, av, aJ, aX, bX, bO, bE, bS, ce, bV, bk, aI, bh, bj, bf, cd, Op.operands, Int.reduceBEq, Int.reduceLT, Int.reduceLE, Int.reduceNeg, Int.reduceBNe, bl, newB, ch, ck, cj, bne, ↓aj, ↓ai, ↓aa, ↓am, bc, aP, bm, bu, aE, bH, Call.operands, ty3, ty4, ty9, ty22, ty24, ty34, ty36, ty38])
/-! ### rostrumlaw.items -/
def n32 : cC where
  keep := fun i => match i with
    | 0 => [0]
    | 1 => [2, 4]
    | _ => []
  ro := fun _ => false
  mv := fun _ => false
  give := fun _ => false
  free := fun _ => []
theorem n32k0 : n32.keep 0 = [0] := rfl
theorem n32k1 : n32.keep 1 = [2, 4] := rfl
theorem n32ro (t : Nat) : n32.ro t = (false) := rfl
theorem n32mv (t : Nat) : n32.mv t = (false) := rfl
theorem n32gv (t : Nat) : n32.give t = (false) := rfl
theorem res32 : Try.f32.results.toList = [.tmp 2] := rfl
noncomputable def b32 : Code := aQ Try.f32
set_option maxRecDepth 100000 in
set_option maxHeartbeats 40000000 in
theorem r_rostrumlaw_items_z (C : ak)  (p0 : List GItem) (r : (List GItem)) (hF : rostrumlaw_items_z p0 = some r) : ∃ d S, cF TT C.wide (evW TT C.wide n32 b32) n32 Try.f32.results.toList (aQ Try.f32) [.v (.sl 10 (ab GItem.row p0))] [] = some (d, S) ∧ bx d = true ∧ (frz d, S) = (.v (.sl 10 (ab GItem.row r)), []) := by
  unfold rostrumlaw_items_z at hF
  refine aG (cH p0.length 104) ?_ ?_
  focus
    intro h1
    replace hF := aq h1 hF
    have hR := Option.some.inj hF
    clear hF
    subst hR
    refine ⟨.own 10 (ab GItem.row p0), [], ?_, rfl, by first | rfl | (simp only [*]; done) | (simp only [*]; rfl)⟩
  rotate_left 1
  intro h1
  replace hF := ar h1 hF
  cases hF
  all_goals (rw [ba]; show cp _ _ _ (aH _ _ _ _ (Code.seq _ _) _) = _; simp (maxSteps := 4000000) only [*, res32, n32k0, n32k1, n32ro, n32mv, n32gv, ↓RP, RB, ↓ah, ↓ac, ↓af, ↓ad, ↓ae, enter, aW, aC, aZ, be, aM, Mx.bw, opnd, Mx.bF, Nat.reduceBEq, bK, Mx.fit, bI, bY, toVs, cellsOf, toV, aO, aB, ax, Mx.put, ofConst, ofCell, Mx.prune, killB, killBs, aK, putDst, au, ao, aD, loadAt, bM, List.map, Nat.reduceAdd, Nat.reduceMul, cm, cn, aF, eqC, cg, aN, reduceIte, reduceCtorEq, az, bn, bq, co, bN, bD, aL, bx, lowC, lowP, forceAll, bound, bW, bg, bv, aU, br, kill, spendLoc, spendOk, setOwn, dropAl, dropAls, bG, bP, bd, cb, lend, lendA, aS, ay, bU, bL, bare, bQ, frz, bZ, bo, argE, argsE, bB, bT, fill, setCells, bR, takeParts, bp, aR, ownAt, Nat.reduceBNe, Nat.reduceSub, Nat.reduceLT, Nat.reduceLeDiff, lowA, bi, bJ, av, aJ, aX, bX, bO, bE, bS, ce, bV, bk, aI, bh, bj, bf, cd, Op.operands, Int.reduceBEq, Int.reduceLT, Int.reduceLE, Int.reduceNeg, Int.reduceBNe, bl, newB, ch, ck, cj, bne, ↓aj, ↓ai, ↓aa, ↓am, bc, aP, bm, bu, aE, bH, Call.operands, ty3, ty4, ty9, ty22, ty34, ty36, ty38, GItem.cons, GItem.one, GItem.rep, GItem.set])
/-! ### client.number -/
def n127 : cC where
  keep := fun i => match i with
    | 0 => [0]
    | 1 => [2]
    | _ => []
  ro := fun _ => false
  mv := fun _ => false
  give := fun _ => false
  free := fun _ => []
theorem n127k0 : n127.keep 0 = [0] := rfl
theorem n127k1 : n127.keep 1 = [2] := rfl
theorem n127ro (t : Nat) : n127.ro t = (false) := rfl
theorem n127mv (t : Nat) : n127.mv t = (false) := rfl
theorem n127gv (t : Nat) : n127.give t = (false) := rfl
theorem res127 : Try.f127.results.toList = [.tmp 2] := rfl
noncomputable def b127 : Code := aQ Try.f127
set_option maxRecDepth 100000 in
set_option maxHeartbeats 40000000 in
theorem r_client_number (C : ak)  (p0 : Int) (r : Bool) (hF : client_number p0 = some r) : cF TT C.wide (evW TT C.wide n127 b127) n127 Try.f127.results.toList (aQ Try.f127) [.v (.i .i64 p0)] [] = some (.v (.b r), []) := by
  unfold client_number at hF
  refine aG (decide (1 ≤ p0)) ?_ ?_
  focus
    intro h1
    replace hF := aq h1 hF
    have hR := Option.some.inj hF
    clear hF
    subst hR
  rotate_left 1
  intro h1
  replace hF := ar h1 hF
  have hR := Option.some.inj hF
  clear hF
  subst hR
  all_goals (rw [ba]; show cp _ _ _ (aH _ _ _ _ (Code.seq _ _) _) = _; simp (maxSteps := 4000000) only [*, res127, n127k0, n127k1, n127ro, n127mv, n127gv, ↓RP, RB, ↓ah, ↓ac, ↓af, ↓ad, ↓ae, enter, aW, aC, aZ, be, aM, Mx.bw, opnd, Mx.bF, Nat.reduceBEq, bK, Mx.fit, bI, bY, toVs, cellsOf, toV, aO, aB, ax, Mx.put, ofConst, ofCell, Mx.prune, killB, killBs, aK, putDst, au, ao, aD, loadAt, bM, List.map, Nat.reduceAdd, Nat.reduceMul, cm, cn, aF, eqC, cg, aN, reduceIte, reduceCtorEq, az, bn, bq, co, bN, bD, aL, bx, lowC, lowP, forceAll, bound, bW, bg, bv, aU, br, kill, spendLoc, spendOk, setOwn, dropAl, dropAls, bG, bP, bd, cb, lend, lendA, aS, ay, bU, bL, bare, bQ, frz, bZ, bo, argE, argsE, bB, bT, fill, setCells, bR, takeParts, bp, aR, ownAt, Nat.reduceBNe, Nat.reduceSub, Nat.reduceLT, Nat.reduceLeDiff, lowA, bi, bJ, av, aJ, aX, bX, bO, bE, bS, ce, bV, bk, aI, bh, bj, bf, cd, Op.operands, Int.reduceBEq, Int.reduceLT, Int.reduceLE, Int.reduceNeg, Int.reduceBNe, bl, newB, ch, ck, cj, bne, ↓aj, ↓ai, ↓aa, ↓am, bc, aP, bm, bu, aE, bH, Call.operands, ty3, ty4])
/-! ### value.field -/
def n67 : cC where
  keep := fun i => match i with
    | 0 => [0]
    | 1 => [2]
    | _ => []
  ro := fun _ => false
  mv := fun _ => false
  give := fun _ => false
  free := fun _ => []
theorem n67k0 : n67.keep 0 = [0] := rfl
theorem n67k1 : n67.keep 1 = [2] := rfl
theorem n67ro (t : Nat) : n67.ro t = (false) := rfl
theorem n67mv (t : Nat) : n67.mv t = (false) := rfl
theorem n67gv (t : Nat) : n67.give t = (false) := rfl
theorem res67 : Try.f67.results.toList = [.tmp 2] := rfl
noncomputable def b67 : Code := aQ Try.f67
set_option maxRecDepth 100000 in
set_option maxHeartbeats 40000000 in
theorem r_value_field (C : ak)  (p0 : ByteArray) (r : Bool) (hF : value_field p0 = some r) : cF TT C.wide (evW TT C.wide n67 b67) n67 Try.f67.results.toList (aQ Try.f67) [.v (.s p0)] [] = some (.v (.b r), []) := by
  unfold value_field at hF
  refine aG (decide (1 ≤ (p0.size : Int))) ?_ ?_
  focus
    intro h1
    replace hF := aq h1 hF
    have hR := Option.some.inj hF
    clear hF
    subst hR
  rotate_left 1
  intro h1
  replace hF := ar h1 hF
  have hR := Option.some.inj hF
  clear hF
  subst hR
  all_goals (rw [ba]; show cp _ _ _ (aH _ _ _ _ (Code.seq _ _) _) = _; simp (maxSteps := 4000000) only [*, res67, n67k0, n67k1, n67ro, n67mv, n67gv, ↓RP, RB, ↓ah, ↓ac, ↓af, ↓ad, ↓ae, enter, aW, aC, aZ, be, aM, Mx.bw, opnd, Mx.bF, Nat.reduceBEq, bK, Mx.fit, bI, bY, toVs, cellsOf, toV, aO, aB, ax, Mx.put, ofConst, ofCell, Mx.prune, killB, killBs, aK, putDst, au, ao, aD, loadAt, bM, List.map, Nat.reduceAdd, Nat.reduceMul, cm, cn, aF, eqC, cg, aN, reduceIte, reduceCtorEq, az, bn, bq, co, bN, bD, aL, bx, lowC, lowP, forceAll, bound, bW, bg, bv, aU, br, kill, spendLoc, spendOk, setOwn, dropAl, dropAls, bG, bP, bd, cb, lend, lendA, aS, ay, bU, bL, bare, bQ, frz, bZ, bo, argE, argsE, bB, bT, fill, setCells, bR, takeParts, bp, aR, ownAt, Nat.reduceBNe, Nat.reduceSub, Nat.reduceLT, Nat.reduceLeDiff, lowA, bi, bJ, av, aJ, aX, bX, bO, bE, bS, ce, bV, bk, aI, bh, bj, bf, cd, Op.operands, Int.reduceBEq, Int.reduceLT, Int.reduceLE, Int.reduceNeg, Int.reduceBNe, bl, newB, ch, ck, cj, bne, ↓aj, ↓ai, ↓aa, ↓am, bc, aP, bm, bu, aE, bH, Call.operands, ty3, ty4, ty9])
/-! ### value.text -/
def n62 : cC where
  keep := fun i => match i with
    | 0 => [0]
    | 1 => [2]
    | _ => []
  ro := fun _ => false
  mv := fun _ => false
  give := fun _ => false
  free := fun _ => []
theorem n62k0 : n62.keep 0 = [0] := rfl
theorem n62k1 : n62.keep 1 = [2] := rfl
theorem n62ro (t : Nat) : n62.ro t = (false) := rfl
theorem n62mv (t : Nat) : n62.mv t = (false) := rfl
theorem n62gv (t : Nat) : n62.give t = (false) := rfl
theorem res62 : Try.f62.results.toList = [.tmp 2] := rfl
noncomputable def b62 : Code := aQ Try.f62
set_option maxRecDepth 100000 in
set_option maxHeartbeats 40000000 in
theorem r_value_text (C : ak)  (p0 : ByteArray) (r : Bool) (hF : value_text p0 = some r) : cF TT C.wide (evW TT C.wide n62 b62) n62 Try.f62.results.toList (aQ Try.f62) [.v (.s p0)] [] = some (.v (.b r), []) := by
  unfold value_text at hF
  have hR := Option.some.inj hF
  clear hF
  subst hR
  all_goals (rw [ba]; show cp _ _ _ (aH _ _ _ _ (Code.seq _ _) _) = _; simp (maxSteps := 4000000) only [*, res62, n62k0, n62k1, n62ro, n62mv, n62gv, ↓RP, RB, ↓ah, ↓ac, ↓af, ↓ad, ↓ae, enter, aW, aC, aZ, be, aM, Mx.bw, opnd, Mx.bF, Nat.reduceBEq, bK, Mx.fit, bI, bY, toVs, cellsOf, toV, aO, aB, ax, Mx.put, ofConst, ofCell, Mx.prune, killB, killBs, aK, putDst, au, ao, aD, loadAt, bM, List.map, Nat.reduceAdd, Nat.reduceMul, cm, cn, aF, eqC, cg, aN, reduceIte, reduceCtorEq, az, bn, bq, co, bN, bD, aL, bx, lowC, lowP, forceAll, bound, bW, bg, bv, aU, br, kill, spendLoc, spendOk, setOwn, dropAl, dropAls, bG, bP, bd, cb, lend, lendA, aS, ay, bU, bL, bare, bQ, frz, bZ, bo, argE, argsE, bB, bT, fill, setCells, bR, takeParts, bp, aR, ownAt, Nat.reduceBNe, Nat.reduceSub, Nat.reduceLT, Nat.reduceLeDiff, lowA, bi, bJ, av, aJ, aX, bX, bO, bE, bS, ce, bV, bk, aI, bh, bj, bf, cd, Op.operands, Int.reduceBEq, Int.reduceLT, Int.reduceLE, Int.reduceNeg, Int.reduceBNe, bl, newB, ch, ck, cj, bne, ↓aj, ↓ai, ↓aa, ↓am, bc, aP, bm, bu, aE, bH, Call.operands, ty3, ty4, ty9])
/-! ### value.count -/
def n70 : cC where
  keep := fun i => match i with
    | 0 => [0]
    | 1 => [2]
    | _ => []
  ro := fun _ => false
  mv := fun _ => false
  give := fun _ => false
  free := fun _ => []
theorem n70k0 : n70.keep 0 = [0] := rfl
theorem n70k1 : n70.keep 1 = [2] := rfl
theorem n70ro (t : Nat) : n70.ro t = (false) := rfl
theorem n70mv (t : Nat) : n70.mv t = (false) := rfl
theorem n70gv (t : Nat) : n70.give t = (false) := rfl
theorem res70 : Try.f70.results.toList = [.tmp 2] := rfl
noncomputable def b70 : Code := aQ Try.f70
set_option maxRecDepth 100000 in
set_option maxHeartbeats 40000000 in
theorem r_value_count (C : ak)  (p0 : Int) (r : Bool) (hF : value_count p0 = some r) : cF TT C.wide (evW TT C.wide n70 b70) n70 Try.f70.results.toList (aQ Try.f70) [.v (.i .i64 p0)] [] = some (.v (.b r), []) := by
  unfold value_count at hF
  refine aG (decide ((-1099511627776) ≤ p0)) ?_ ?_
  focus
    intro h1
    replace hF := aq h1 hF
    have hR := Option.some.inj hF
    clear hF
    subst hR
  rotate_left 1
  intro h1
  replace hF := ar h1 hF
  have hR := Option.some.inj hF
  clear hF
  subst hR
  all_goals (rw [ba]; show cp _ _ _ (aH _ _ _ _ (Code.seq _ _) _) = _; simp (maxSteps := 4000000) only [*, res70, n70k0, n70k1, n70ro, n70mv, n70gv, ↓RP, RB, ↓ah, ↓ac, ↓af, ↓ad, ↓ae, enter, aW, aC, aZ, be, aM, Mx.bw, opnd, Mx.bF, Nat.reduceBEq, bK, Mx.fit, bI, bY, toVs, cellsOf, toV, aO, aB, ax, Mx.put, ofConst, ofCell, Mx.prune, killB, killBs, aK, putDst, au, ao, aD, loadAt, bM, List.map, Nat.reduceAdd, Nat.reduceMul, cm, cn, aF, eqC, cg, aN, reduceIte, reduceCtorEq, az, bn, bq, co, bN, bD, aL, bx, lowC, lowP, forceAll, bound, bW, bg, bv, aU, br, kill, spendLoc, spendOk, setOwn, dropAl, dropAls, bG, bP, bd, cb, lend, lendA, aS, ay, bU, bL, bare, bQ, frz, bZ, bo, argE, argsE, bB, bT, fill, setCells, bR, takeParts, bp, aR, ownAt, Nat.reduceBNe, Nat.reduceSub, Nat.reduceLT, Nat.reduceLeDiff, lowA, bi, bJ, av, aJ, aX, bX, bO, bE, bS, ce, bV, bk, aI, bh, bj, bf, cd, Op.operands, Int.reduceBEq, Int.reduceLT, Int.reduceLE, Int.reduceNeg, Int.reduceBNe, bl, newB, ch, ck, cj, bne, ↓aj, ↓ai, ↓aa, ↓am, bc, aP, bm, bu, aE, bH, Call.operands, ty3, ty4])
/-! ### value.CheckCommand -/
def n128 : cC where
  keep := fun i => match i with
    | 0 => [1]
    | 1 => [1, 11]
    | 2 => [2]
    | 3 => [1, 3]
    | 4 => [1, 3, 18]
    | 5 => [1, 3, 18, 19]
    | 6 => [1, 3, 18, 19]
    | 7 => [1, 3, 18, 19]
    | 8 => [1, 3, 18, 19]
    | 9 => [1, 3, 18, 19]
    | 10 => [1, 3, 18, 19]
    | 11 => [1, 3, 18, 19]
    | 12 => [1, 3, 18, 19]
    | 13 => [1, 3]
    | 14 => [1, 3, 18, 31]
    | 15 => [1, 3, 18, 31]
    | 16 => [1, 3]
    | 17 => [1, 3, 18, 37]
    | 18 => [1, 3]
    | 19 => [1, 3, 18, 45]
    | 20 => [1, 3, 18, 45]
    | 21 => [1, 3]
    | 22 => [1, 3, 18, 51]
    | 23 => [1, 3]
    | 24 => [1, 3, 59]
    | 25 => [1, 3]
    | 26 => [1, 64]
    | 27 => [2]
    | 28 => [1, 95]
    | 29 => [2]
    | 30 => [99]
    | 31 => [2]
    | 32 => [2]
    | _ => []
  ro := fun t => t == 1
  mv := fun _ => false
  give := fun _ => false
  free := fun i => match i with | 18 => [(0, 2), (1, 2), (0, 3), (1, 3), (2, 4), (3, 4), (2, 5), (3, 5)] | 23 => [(0, 2), (1, 2), (0, 3), (1, 3), (2, 4), (3, 4), (2, 5), (3, 5)] | _ => []
  alive := fun i x => match i, x with
    | 11, true => some []
    | 11, false => some [1]
    | 19, true => some [1, 3, 18, 19]
    | 19, false => some [1, 3, 18]
    | 31, true => some [1, 3, 18, 31]
    | 31, false => some [1, 3, 18]
    | 37, true => some [1, 3]
    | 37, false => some [1, 3, 18]
    | 45, true => some [1, 3, 18, 45]
    | 45, false => some [1, 3, 18]
    | 51, true => some [1, 3]
    | 51, false => some [1, 3, 18]
    | 59, true => some [1, 3]
    | 59, false => some [1, 3]
    | 64, true => some []
    | 64, false => some [1]
    | 95, true => some []
    | 95, false => some [1]
    | 99, true => some []
    | 99, false => some []
    | _, _ => none
theorem n128a11t (e : Env) (S : aA) : aw n128 11 true ⟨e, S⟩ = ⟨prune [] e, S⟩ := rfl
theorem n128a11f (e : Env) (S : aA) : aw n128 11 false ⟨e, S⟩ = ⟨prune [1] e, S⟩ := rfl
theorem n128a19t (e : Env) (S : aA) : aw n128 19 true ⟨e, S⟩ = ⟨prune [1, 3, 18, 19] e, S⟩ := rfl
theorem n128a19f (e : Env) (S : aA) : aw n128 19 false ⟨e, S⟩ = ⟨prune [1, 3, 18] e, S⟩ := rfl
theorem n128a31t (e : Env) (S : aA) : aw n128 31 true ⟨e, S⟩ = ⟨prune [1, 3, 18, 31] e, S⟩ := rfl
theorem n128a31f (e : Env) (S : aA) : aw n128 31 false ⟨e, S⟩ = ⟨prune [1, 3, 18] e, S⟩ := rfl
theorem n128a37t (e : Env) (S : aA) : aw n128 37 true ⟨e, S⟩ = ⟨prune [1, 3] e, S⟩ := rfl
theorem n128a37f (e : Env) (S : aA) : aw n128 37 false ⟨e, S⟩ = ⟨prune [1, 3, 18] e, S⟩ := rfl
theorem n128a45t (e : Env) (S : aA) : aw n128 45 true ⟨e, S⟩ = ⟨prune [1, 3, 18, 45] e, S⟩ := rfl
theorem n128a45f (e : Env) (S : aA) : aw n128 45 false ⟨e, S⟩ = ⟨prune [1, 3, 18] e, S⟩ := rfl
theorem n128a51t (e : Env) (S : aA) : aw n128 51 true ⟨e, S⟩ = ⟨prune [1, 3] e, S⟩ := rfl
theorem n128a51f (e : Env) (S : aA) : aw n128 51 false ⟨e, S⟩ = ⟨prune [1, 3, 18] e, S⟩ := rfl
theorem n128a59t (e : Env) (S : aA) : aw n128 59 true ⟨e, S⟩ = ⟨prune [1, 3] e, S⟩ := rfl
theorem n128a59f (e : Env) (S : aA) : aw n128 59 false ⟨e, S⟩ = ⟨prune [1, 3] e, S⟩ := rfl
theorem n128a64t (e : Env) (S : aA) : aw n128 64 true ⟨e, S⟩ = ⟨prune [] e, S⟩ := rfl
theorem n128a64f (e : Env) (S : aA) : aw n128 64 false ⟨e, S⟩ = ⟨prune [1] e, S⟩ := rfl
theorem n128a95t (e : Env) (S : aA) : aw n128 95 true ⟨e, S⟩ = ⟨prune [] e, S⟩ := rfl
theorem n128a95f (e : Env) (S : aA) : aw n128 95 false ⟨e, S⟩ = ⟨prune [1] e, S⟩ := rfl
theorem n128a99t (e : Env) (S : aA) : aw n128 99 true ⟨e, S⟩ = ⟨prune [] e, S⟩ := rfl
theorem n128a99f (e : Env) (S : aA) : aw n128 99 false ⟨e, S⟩ = ⟨prune [] e, S⟩ := rfl
theorem n128k0 : n128.keep 0 = [1] := rfl
theorem n128k1 : n128.keep 1 = [1, 11] := rfl
theorem n128k2 : n128.keep 2 = [2] := rfl
theorem n128k3 : n128.keep 3 = [1, 3] := rfl
theorem n128k4 : n128.keep 4 = [1, 3, 18] := rfl
theorem n128k5 : n128.keep 5 = [1, 3, 18, 19] := rfl
theorem n128k6 : n128.keep 6 = [1, 3, 18, 19] := rfl
theorem n128k7 : n128.keep 7 = [1, 3, 18, 19] := rfl
theorem n128k8 : n128.keep 8 = [1, 3, 18, 19] := rfl
theorem n128k9 : n128.keep 9 = [1, 3, 18, 19] := rfl
theorem n128k10 : n128.keep 10 = [1, 3, 18, 19] := rfl
theorem n128k11 : n128.keep 11 = [1, 3, 18, 19] := rfl
theorem n128k12 : n128.keep 12 = [1, 3, 18, 19] := rfl
theorem n128k13 : n128.keep 13 = [1, 3] := rfl
theorem n128k14 : n128.keep 14 = [1, 3, 18, 31] := rfl
theorem n128k15 : n128.keep 15 = [1, 3, 18, 31] := rfl
theorem n128k16 : n128.keep 16 = [1, 3] := rfl
theorem n128k17 : n128.keep 17 = [1, 3, 18, 37] := rfl
theorem n128k18 : n128.keep 18 = [1, 3] := rfl
theorem n128k19 : n128.keep 19 = [1, 3, 18, 45] := rfl
theorem n128k20 : n128.keep 20 = [1, 3, 18, 45] := rfl
theorem n128k21 : n128.keep 21 = [1, 3] := rfl
theorem n128k22 : n128.keep 22 = [1, 3, 18, 51] := rfl
theorem n128k23 : n128.keep 23 = [1, 3] := rfl
theorem n128k24 : n128.keep 24 = [1, 3, 59] := rfl
theorem n128k25 : n128.keep 25 = [1, 3] := rfl
theorem n128k26 : n128.keep 26 = [1, 64] := rfl
theorem n128k27 : n128.keep 27 = [2] := rfl
theorem n128k28 : n128.keep 28 = [1, 95] := rfl
theorem n128k29 : n128.keep 29 = [2] := rfl
theorem n128k30 : n128.keep 30 = [99] := rfl
theorem n128k31 : n128.keep 31 = [2] := rfl
theorem n128k32 : n128.keep 32 = [2] := rfl
theorem n128ro (t : Nat) : n128.ro t = (t == 1) := rfl
theorem n128mv (t : Nat) : n128.mv t = (false) := rfl
theorem n128gv (t : Nat) : n128.give t = (false) := rfl
theorem n128f18 : n128.free 18 = [(0, 2), (1, 2), (0, 3), (1, 3), (2, 4), (3, 4), (2, 5), (3, 5)] := rfl
theorem n128f23 : n128.free 23 = [(0, 2), (1, 2), (0, 3), (1, 3), (2, 4), (3, 4), (2, 5), (3, 5)] := rfl
theorem res128 : Try.f128.results.toList = [.tmp 2] := rfl
noncomputable def b128 : Code := aQ Try.f128
set_option maxRecDepth 100000 in
set_option maxHeartbeats 40000000 in
theorem rg_value_CheckCommand_q59 (C : ak)  (p0 : GCommand) (p1 : Bool) (p2 : Int) (p3 : ByteArray) (c : Code) (ho : cr 1 59 b128 = some c) (r : GCommand) (hF : ck_value_CheckCommand_q59 p0 p1 p2 p3 = some r) : aH TT C.wide (evW TT C.wide n128 b128) n128 c ⟨[(1, .rp [.i .i64 p0.fKind, .s p0.fKey, .s p0.fField, .s p0.fText, .i .i64 p0.fN]), (3, .ptr 0 0), (59, .v (.b p1))], [[.v (.i .i64 p2), .v (.s p3), .v (.s ByteArray.empty), .v (.s ByteArray.empty), .v (.i .i64 0)]]⟩ = some (.normal, ⟨[(1, .rp [.i .i64 p0.fKind, .s p0.fKey, .s p0.fField, .s p0.fText, .i .i64 p0.fN]), (3, .ptr 0 0)], [[.v (.i .i64 r.fKind), .v (.s r.fKey), .v (.s r.fField), .v (.s r.fText), .v (.i .i64 r.fN)]]⟩) := by
  have e := Option.some.inj (ho.symm.trans (rfl : cr 1 59 b128 = some _))
  subst e
  clear ho
  unfold ck_value_CheckCommand_q59 at hF
  refine aG p1 ?_ ?_
  focus
    intro h1
    replace hF := aq h1 hF
    have hR := Option.some.inj hF
    clear hF
    subst hR
  rotate_left 1
  intro h1
  replace hF := ar h1 hF
  have hR := Option.some.inj hF
  clear hF
  subst hR
  all_goals (simp (maxSteps := 4000000) only [*, res128, n128a11t, n128a11f, n128a19t, n128a19f, n128a31t, n128a31f, n128a37t, n128a37f, n128a45t, n128a45f, n128a51t, n128a51f, n128a59t, n128a59f, n128a64t, n128a64f, n128a95t, n128a95f, n128a99t, n128a99f, n128k0, n128k1, n128k2, n128k3, n128k4, n128k5, n128k6, n128k7, n128k8, n128k9, n128k10, n128k11, n128k12, n128k13, n128k14, n128k15, n128k16, n128k17, n128k18, n128k19, n128k20, n128k21, n128k22, n128k23, n128k24, n128k25, n128k26, n128k27, n128k28, n128k29, n128k30, n128k31, n128k32, n128f18, n128f23, n128ro, n128mv, n128gv, ↓RP, RB, ↓ah, ↓ac, ↓af, ↓ad, ↓ae, enter, aW, aC, aZ, be, aM, Mx.bw, opnd, Mx.bF, Nat.reduceBEq, bK, Mx.fit, bI, bY, toVs, cellsOf, toV, aO, aB, ax, Mx.put, ofConst, ofCell, Mx.prune, killB, killBs, aK, putDst, au, ao, aD, loadAt, bM, List.map, Nat.reduceAdd, Nat.reduceMul, cm, cn, aF, eqC, cg, aN, reduceIte, reduceCtorEq, az, bn, bq, co, bN, bD, aL, bx, lowC, lowP, forceAll, bound, bW, bg, bv, aU, br, kill, spendLoc, spendOk, setOwn, dropAl, dropAls, bG, bP, bd, cb, lend, lendA, aS, ay, bU, bL, bare, bQ, frz, bZ, bo, argE, argsE, bB, bT, fill, setCells, bR, takeParts, bp, aR, ownAt, Nat.reduceBNe, Nat.reduceSub, Nat.reduceLT, Nat.reduceLeDiff, lowA, bi, bJ, av, aJ, aX, bX, bO, bE, bS, ce, bV, bk, aI, bh, bj, bf, cd, Op.operands, Int.reduceBEq, Int.reduceLT, Int.reduceLE, Int.reduceNeg, Int.reduceBNe, bl, newB, ch, ck, cj, bne, ↓aj, ↓ai, bc, aP, bm, bu, aE, bH, Call.operands, ty3, ty4, ty9, ty25, ty34, ↓aa _ _ _ _ 25])
set_option maxRecDepth 100000 in
set_option maxHeartbeats 40000000 in
theorem rg_value_CheckCommand_q51 (C : ak)  (p0 : GCommand) (p1 : Int) (p2 : Bool) (p3 : ByteArray) (c : Code) (ho : cr 1 51 b128 = some c) (r : GCommand) (hF : ck_value_CheckCommand_q51 p0 p1 p2 p3 = some r) : aH TT C.wide (evW TT C.wide n128 b128) n128 c ⟨[(1, .rp [.i .i64 p0.fKind, .s p0.fKey, .s p0.fField, .s p0.fText, .i .i64 p0.fN]), (3, .ptr 0 0), (18, .v (.i .i64 p1)), (51, .v (.b p2))], [[.v (.i .i64 p1), .v (.s p3), .v (.s ByteArray.empty), .v (.s ByteArray.empty), .v (.i .i64 0)]]⟩ = some (.normal, ⟨[(1, .rp [.i .i64 p0.fKind, .s p0.fKey, .s p0.fField, .s p0.fText, .i .i64 p0.fN]), (3, .ptr 0 0)], [[.v (.i .i64 r.fKind), .v (.s r.fKey), .v (.s r.fField), .v (.s r.fText), .v (.i .i64 r.fN)]]⟩) := by
  have e := Option.some.inj (ho.symm.trans (rfl : cr 1 51 b128 = some _))
  subst e
  clear ho
  unfold ck_value_CheckCommand_q51 at hF
  refine aG p2 ?_ ?_
  focus
    intro h1
    replace hF := aq h1 hF
    have hR := Option.some.inj hF
    clear hF
    subst hR
  rotate_left 1
  intro h1
  replace hF := ar h1 hF
  have g1 : @cR TT C.wide (evW TT C.wide n128 b128) n128 1 59 ⟨[(1, .rp [.i .i64 p0.fKind, .s p0.fKey, .s p0.fField, .s p0.fText, .i .i64 p0.fN]), (3, .ptr 0 0), (59, .v (.b (p1 == 22)))], [[.v (.i .i64 p1), .v (.s p3), .v (.s ByteArray.empty), .v (.s ByteArray.empty), .v (.i .i64 0)]]⟩ ⟨_⟩ = some (.normal, ⟨[(1, .rp [.i .i64 p0.fKind, .s p0.fKey, .s p0.fField, .s p0.fText, .i .i64 p0.fN]), (3, .ptr 0 0)], [[.v (.i .i64 (ck_value_CheckCommand_q59_v p0 (p1 == 22) p1 p3).fKind), .v (.s (ck_value_CheckCommand_q59_v p0 (p1 == 22) p1 p3).fKey), .v (.s (ck_value_CheckCommand_q59_v p0 (p1 == 22) p1 p3).fField), .v (.s (ck_value_CheckCommand_q59_v p0 (p1 == 22) p1 p3).fText), .v (.i .i64 (ck_value_CheckCommand_q59_v p0 (p1 == 22) p1 p3).fN)]]⟩) := rg_value_CheckCommand_q59 C p0 (p1 == 22) p1 p3 _ rfl (ck_value_CheckCommand_q59_v p0 (p1 == 22) p1 p3) (ck_value_CheckCommand_q59_t p0 (p1 == 22) p1 p3)
  have hR := Option.some.inj hF
  clear hF
  subst hR
  all_goals (simp (maxSteps := 4000000) only [*, res128, n128a11t, n128a11f, n128a19t, n128a19f, n128a31t, n128a31f, n128a37t, n128a37f, n128a45t, n128a45f, n128a51t, n128a51f, n128a59t, n128a59f, n128a64t, n128a64f, n128a95t, n128a95f, n128a99t, n128a99f, n128k0, n128k1, n128k2, n128k3, n128k4, n128k5, n128k6, n128k7, n128k8, n128k9, n128k10, n128k11, n128k12, n128k13, n128k14, n128k15, n128k16, n128k17, n128k18, n128k19, n128k20, n128k21, n128k22, n128k23, n128k24, n128k25, n128k26, n128k27, n128k28, n128k29, n128k30, n128k31, n128k32, n128f18, n128f23, n128ro, n128mv, n128gv, ↓RP, RB, ↓ah, ↓ac, ↓af, ↓ad, ↓ae, enter, aW, aC, aZ, be, aM, Mx.bw, opnd, Mx.bF, Nat.reduceBEq, bK, Mx.fit, bI, bY, toVs, cellsOf, toV, aO, aB, ax, Mx.put, ofConst, ofCell, Mx.prune, killB, killBs, aK, putDst, au, ao, aD, loadAt, bM, List.map, Nat.reduceAdd, Nat.reduceMul, cm, cn, aF, eqC, cg, aN, reduceIte, reduceCtorEq, az, bn, bq, co, bN, bD, aL, bx, lowC, lowP, forceAll, bound, bW, bg, bv, aU, br, kill, spendLoc, spendOk, setOwn, dropAl, dropAls, bG, bP, bd, cb, lend, lendA, aS, ay, bU, bL, bare, bQ, frz, bZ, bo, argE, argsE, bB, bT, fill, setCells, bR, takeParts, bp, aR, ownAt, Nat.reduceBNe, Nat.reduceSub, Nat.reduceLT, Nat.reduceLeDiff, lowA, bi, bJ, av, aJ, aX, bX, bO, bE, bS, ce, bV, bk, aI, bh, bj, bf, cd, Op.operands, Int.reduceBEq, Int.reduceLT, Int.reduceLE, Int.reduceNeg, Int.reduceBNe, bl, newB, ch, ck, cj, bne, ↓aj, bc, aP, bm, bu, aE, bH, Call.operands, ty3, ty4, ty9, ty25, ty34, ↓ai _ _ _ _ 51, ↓am _ _ _ _ 23, ↓aa _ _ _ _ 24, ↓cP _ _ _ _ 59, ↓aa _ _ _ _ 25])
set_option maxRecDepth 100000 in
set_option maxHeartbeats 40000000 in
theorem rg_value_CheckCommand_q37 (C : ak)  (p0 : GCommand) (p1 : Int) (p2 : Bool) (p3 : ByteArray) (c : Code) (ho : cr 1 37 b128 = some c) (r : GCommand) (hF : ck_value_CheckCommand_q37 p0 p1 p2 p3 = some r) : aH TT C.wide (evW TT C.wide n128 b128) n128 c ⟨[(1, .rp [.i .i64 p0.fKind, .s p0.fKey, .s p0.fField, .s p0.fText, .i .i64 p0.fN]), (3, .ptr 0 0), (18, .v (.i .i64 p1)), (37, .v (.b p2))], [[.v (.i .i64 p1), .v (.s p3), .v (.s ByteArray.empty), .v (.s ByteArray.empty), .v (.i .i64 0)]]⟩ = some (.normal, ⟨[(1, .rp [.i .i64 p0.fKind, .s p0.fKey, .s p0.fField, .s p0.fText, .i .i64 p0.fN]), (3, .ptr 0 0)], [[.v (.i .i64 r.fKind), .v (.s r.fKey), .v (.s r.fField), .v (.s r.fText), .v (.i .i64 r.fN)]]⟩) := by
  have e := Option.some.inj (ho.symm.trans (rfl : cr 1 37 b128 = some _))
  subst e
  clear ho
  unfold ck_value_CheckCommand_q37 at hF
  refine aG p2 ?_ ?_
  focus
    intro h1
    replace hF := aq h1 hF
    have hR := Option.some.inj hF
    clear hF
    subst hR
  rotate_left 1
  intro h1
  replace hF := ar h1 hF
  refine aG (p1 == 5) ?_ ?_
  focus
    intro h2
    replace hF := aq h2 hF
    have hR := Option.some.inj hF
    clear hF
    subst hR
  rotate_left 1
  intro h2
  replace hF := ar h2 hF
  refine aG (p1 == 6) ?_ ?_
  focus
    intro h3
    replace hF := aq h3 hF
    have hR := Option.some.inj hF
    clear hF
    subst hR
  rotate_left 1
  intro h3
  replace hF := ar h3 hF
  have g1 : @cR TT C.wide (evW TT C.wide n128 b128) n128 1 51 ⟨[(1, .rp [.i .i64 p0.fKind, .s p0.fKey, .s p0.fField, .s p0.fText, .i .i64 p0.fN]), (3, .ptr 0 0), (18, .v (.i .i64 p1)), (51, .v (.b (p1 == 14)))], [[.v (.i .i64 p1), .v (.s p3), .v (.s ByteArray.empty), .v (.s ByteArray.empty), .v (.i .i64 0)]]⟩ ⟨_⟩ = some (.normal, ⟨[(1, .rp [.i .i64 p0.fKind, .s p0.fKey, .s p0.fField, .s p0.fText, .i .i64 p0.fN]), (3, .ptr 0 0)], [[.v (.i .i64 (ck_value_CheckCommand_q51_v p0 p1 (p1 == 14) p3).fKind), .v (.s (ck_value_CheckCommand_q51_v p0 p1 (p1 == 14) p3).fKey), .v (.s (ck_value_CheckCommand_q51_v p0 p1 (p1 == 14) p3).fField), .v (.s (ck_value_CheckCommand_q51_v p0 p1 (p1 == 14) p3).fText), .v (.i .i64 (ck_value_CheckCommand_q51_v p0 p1 (p1 == 14) p3).fN)]]⟩) := rg_value_CheckCommand_q51 C p0 p1 (p1 == 14) p3 _ rfl (ck_value_CheckCommand_q51_v p0 p1 (p1 == 14) p3) (ck_value_CheckCommand_q51_t p0 p1 (p1 == 14) p3)
  have hR := Option.some.inj hF
  clear hF
  subst hR
  all_goals (simp (maxSteps := 4000000) only [*, res128, n128a11t, n128a11f, n128a19t, n128a19f, n128a31t, n128a31f, n128a37t, n128a37f, n128a45t, n128a45f, n128a51t, n128a51f, n128a59t, n128a59f, n128a64t, n128a64f, n128a95t, n128a95f, n128a99t, n128a99f, n128k0, n128k1, n128k2, n128k3, n128k4, n128k5, n128k6, n128k7, n128k8, n128k9, n128k10, n128k11, n128k12, n128k13, n128k14, n128k15, n128k16, n128k17, n128k18, n128k19, n128k20, n128k21, n128k22, n128k23, n128k24, n128k25, n128k26, n128k27, n128k28, n128k29, n128k30, n128k31, n128k32, n128f18, n128f23, n128ro, n128mv, n128gv, ↓RP, RB, ↓ah, ↓ac, ↓af, ↓ad, ↓ae, enter, aW, aC, aZ, be, aM, Mx.bw, opnd, Mx.bF, Nat.reduceBEq, bK, Mx.fit, bI, bY, toVs, cellsOf, toV, aO, aB, ax, Mx.put, ofConst, ofCell, Mx.prune, killB, killBs, aK, putDst, au, ao, aD, loadAt, bM, List.map, Nat.reduceAdd, Nat.reduceMul, cm, cn, aF, eqC, cg, aN, reduceIte, reduceCtorEq, az, bn, bq, co, bN, bD, aL, bx, lowC, lowP, forceAll, bound, bW, bg, bv, aU, br, kill, spendLoc, spendOk, setOwn, dropAl, dropAls, bG, bP, bd, cb, lend, lendA, aS, ay, bU, bL, bare, bQ, frz, bZ, bo, argE, argsE, bB, bT, fill, setCells, bR, takeParts, bp, aR, ownAt, Nat.reduceBNe, Nat.reduceSub, Nat.reduceLT, Nat.reduceLeDiff, lowA, bi, bJ, av, aJ, aX, bX, bO, bE, bS, ce, bV, bk, aI, bh, bj, bf, cd, Op.operands, Int.reduceBEq, Int.reduceLT, Int.reduceLE, Int.reduceNeg, Int.reduceBNe, bl, newB, ch, ck, cj, bne, ↓aj, bc, aP, bm, bu, aE, bH, Call.operands, ty3, ty4, ty9, ty25, ty34, ↓ai _ _ _ _ 37, ↓am _ _ _ _ 18, ↓aa _ _ _ _ 19, ↓ai _ _ _ _ 45, ↓aa _ _ _ _ 20, ↓aa _ _ _ _ 21, ↓aa _ _ _ _ 22, ↓cP _ _ _ _ 51, ↓am _ _ _ _ 23, ↓aa _ _ _ _ 24, ↓cP _ _ _ _ 59, ↓aa _ _ _ _ 25])
set_option maxRecDepth 100000 in
set_option maxHeartbeats 40000000 in
theorem rg_value_CheckCommand_w0 (C : ak)  (p0 : GCommand) (p1 : Int) (p2 : ByteArray) (c : Code) (ho : cr 2 0 b128 = some c) (r : GCommand) (hF : ck_value_CheckCommand_w0 p0 p1 p2 = some r) : aH TT C.wide (evW TT C.wide n128 b128) n128 c ⟨[(1, .rp [.i .i64 p0.fKind, .s p0.fKey, .s p0.fField, .s p0.fText, .i .i64 p0.fN]), (3, .ptr 0 0), (18, .v (.i .i64 p1))], [[.v (.i .i64 p1), .v (.s p2), .v (.s ByteArray.empty), .v (.s ByteArray.empty), .v (.i .i64 0)]]⟩ = some (.normal, ⟨[(1, .rp [.i .i64 p0.fKind, .s p0.fKey, .s p0.fField, .s p0.fText, .i .i64 p0.fN]), (3, .ptr 0 0)], [[.v (.i .i64 r.fKind), .v (.s r.fKey), .v (.s r.fField), .v (.s r.fText), .v (.i .i64 r.fN)]]⟩) := by
  have e := Option.some.inj (ho.symm.trans (rfl : cr 2 0 b128 = some _))
  subst e
  clear ho
  unfold ck_value_CheckCommand_w0 at hF
  refine aG (p1 == 1) ?_ ?_
  focus
    intro h1
    replace hF := aq h1 hF
    have hR := Option.some.inj hF
    clear hF
    subst hR
  rotate_left 1
  intro h1
  replace hF := ar h1 hF
  refine aG (p1 == 7) ?_ ?_
  focus
    intro h2
    replace hF := aq h2 hF
    have hR := Option.some.inj hF
    clear hF
    subst hR
  rotate_left 1
  intro h2
  replace hF := ar h2 hF
  refine aG (p1 == 8) ?_ ?_
  focus
    intro h3
    replace hF := aq h3 hF
    have hR := Option.some.inj hF
    clear hF
    subst hR
  rotate_left 1
  intro h3
  replace hF := ar h3 hF
  unfold ck_value_CheckCommand_w0_c0 at hF
  refine aG (p1 == 11) ?_ ?_
  focus
    intro h4
    replace hF := aq h4 hF
    have hR := Option.some.inj hF
    clear hF
    subst hR
  rotate_left 1
  intro h4
  replace hF := ar h4 hF
  refine aG (p1 == 12) ?_ ?_
  focus
    intro h5
    replace hF := aq h5 hF
    have hR := Option.some.inj hF
    clear hF
    subst hR
  rotate_left 1
  intro h5
  replace hF := ar h5 hF
  refine aG (p1 == 13) ?_ ?_
  focus
    intro h6
    replace hF := aq h6 hF
    have hR := Option.some.inj hF
    clear hF
    subst hR
  rotate_left 1
  intro h6
  replace hF := ar h6 hF
  refine aG (p1 == 15) ?_ ?_
  focus
    intro h7
    replace hF := aq h7 hF
    have hR := Option.some.inj hF
    clear hF
    subst hR
  rotate_left 1
  intro h7
  replace hF := ar h7 hF
  refine aG (p1 == 16) ?_ ?_
  focus
    intro h8
    replace hF := aq h8 hF
    have hR := Option.some.inj hF
    clear hF
    subst hR
  rotate_left 1
  intro h8
  replace hF := ar h8 hF
  refine aG (p1 == 3) ?_ ?_
  focus
    intro h9
    replace hF := aq h9 hF
    have hR := Option.some.inj hF
    clear hF
    subst hR
  rotate_left 1
  intro h9
  replace hF := ar h9 hF
  refine aG (p1 == 20) ?_ ?_
  focus
    intro h10
    replace hF := aq h10 hF
    have hR := Option.some.inj hF
    clear hF
    subst hR
  rotate_left 1
  intro h10
  replace hF := ar h10 hF
  have g1 : @cR TT C.wide (evW TT C.wide n128 b128) n128 1 37 ⟨[(1, .rp [.i .i64 p0.fKind, .s p0.fKey, .s p0.fField, .s p0.fText, .i .i64 p0.fN]), (3, .ptr 0 0), (18, .v (.i .i64 p1)), (37, .v (.b (p1 == 4)))], [[.v (.i .i64 p1), .v (.s p2), .v (.s ByteArray.empty), .v (.s ByteArray.empty), .v (.i .i64 0)]]⟩ ⟨_⟩ = some (.normal, ⟨[(1, .rp [.i .i64 p0.fKind, .s p0.fKey, .s p0.fField, .s p0.fText, .i .i64 p0.fN]), (3, .ptr 0 0)], [[.v (.i .i64 (ck_value_CheckCommand_q37_v p0 p1 (p1 == 4) p2).fKind), .v (.s (ck_value_CheckCommand_q37_v p0 p1 (p1 == 4) p2).fKey), .v (.s (ck_value_CheckCommand_q37_v p0 p1 (p1 == 4) p2).fField), .v (.s (ck_value_CheckCommand_q37_v p0 p1 (p1 == 4) p2).fText), .v (.i .i64 (ck_value_CheckCommand_q37_v p0 p1 (p1 == 4) p2).fN)]]⟩) := rg_value_CheckCommand_q37 C p0 p1 (p1 == 4) p2 _ rfl (ck_value_CheckCommand_q37_v p0 p1 (p1 == 4) p2) (ck_value_CheckCommand_q37_t p0 p1 (p1 == 4) p2)
  have hR := Option.some.inj hF
  clear hF
  subst hR
  all_goals (simp (maxSteps := 4000000) only [*, res128, n128a11t, n128a11f, n128a19t, n128a19f, n128a31t, n128a31f, n128a37t, n128a37f, n128a45t, n128a45f, n128a51t, n128a51f, n128a59t, n128a59f, n128a64t, n128a64f, n128a95t, n128a95f, n128a99t, n128a99f, n128k0, n128k1, n128k2, n128k3, n128k4, n128k5, n128k6, n128k7, n128k8, n128k9, n128k10, n128k11, n128k12, n128k13, n128k14, n128k15, n128k16, n128k17, n128k18, n128k19, n128k20, n128k21, n128k22, n128k23, n128k24, n128k25, n128k26, n128k27, n128k28, n128k29, n128k30, n128k31, n128k32, n128f18, n128f23, n128ro, n128mv, n128gv, ↓RP, RB, ↓ah, ↓ac, ↓af, ↓ad, ↓ae, enter, aW, aC, aZ, be, aM, Mx.bw, opnd, Mx.bF, Nat.reduceBEq, bK, Mx.fit, bI, bY, toVs, cellsOf, toV, aO, aB, ax, Mx.put, ofConst, ofCell, Mx.prune, killB, killBs, aK, putDst, au, ao, aD, loadAt, bM, List.map, Nat.reduceAdd, Nat.reduceMul, cm, cn, aF, eqC, cg, aN, reduceIte, reduceCtorEq, az, bn, bq, co, bN, bD, aL, bx, lowC, lowP, forceAll, bound, bW, bg, bv, aU, br, kill, spendLoc, spendOk, setOwn, dropAl, dropAls, bG, bP, bd, cb, lend, lendA, aS, ay, bU, bL, bare, bQ, frz, bZ, bo, argE, argsE, bB, bT, fill, setCells, bR, takeParts, bp, aR, ownAt, Nat.reduceBNe, Nat.reduceSub, Nat.reduceLT, Nat.reduceLeDiff, lowA, bi, bJ, av, aJ, aX, bX, bO, bE, bS, ce, bV, bk, aI, bh, bj, bf, cd, Op.operands, Int.reduceBEq, Int.reduceLT, Int.reduceLE, Int.reduceNeg, Int.reduceBNe, bl, newB, ch, ck, cj, bne, ↓aj, bc, aP, bm, bu, aE, bH, Call.operands, ty3, ty4, ty9, ty25, ty34, ↓aa _ _ _ _ 5, ↓ai _ _ _ _ 19, ↓aa _ _ _ _ 6, ↓aa _ _ _ _ 7, ↓aa _ _ _ _ 8, ↓aa _ _ _ _ 9, ↓aa _ _ _ _ 10, ↓aa _ _ _ _ 11, ↓aa _ _ _ _ 12, ↓aa _ _ _ _ 13, ↓aa _ _ _ _ 14, ↓ai _ _ _ _ 31, ↓aa _ _ _ _ 15, ↓aa _ _ _ _ 16, ↓aa _ _ _ _ 17, ↓cP _ _ _ _ 37, ↓am _ _ _ _ 18, ↓aa _ _ _ _ 19, ↓ai _ _ _ _ 45, ↓aa _ _ _ _ 20, ↓aa _ _ _ _ 21, ↓aa _ _ _ _ 22, ↓cP _ _ _ _ 51, ↓am _ _ _ _ 23, ↓aa _ _ _ _ 24, ↓cP _ _ _ _ 59, ↓aa _ _ _ _ 25])
set_option maxRecDepth 100000 in
set_option maxHeartbeats 40000000 in
theorem rg_value_CheckCommand_k28 (C : ak) (k_value_field : K_value_field C) (k_value_text : K_value_text C) (p0 : GCommand) (p1 : GCommand) (c : Code) (ho : cr 0 28 b128 = some c) (r : Bool) (hF : ck_value_CheckCommand_k28 p0 p1 = some r) : aH TT C.wide (evW TT C.wide n128 b128) n128 c ⟨[(1, .rp [.i .i64 p0.fKind, .s p0.fKey, .s p0.fField, .s p0.fText, .i .i64 p0.fN])], [[.v (.i .i64 p1.fKind), .v (.s p1.fKey), .v (.s p1.fField), .v (.s p1.fText), .v (.i .i64 p1.fN)]]⟩ = some (.normal, ⟨[(1, .rp [.i .i64 p0.fKind, .s p0.fKey, .s p0.fField, .s p0.fText, .i .i64 p0.fN]), (95, .v (.b r))], [[.v (.i .i64 p1.fKind), .v (.s p1.fKey), .v (.s p1.fField), .v (.s p1.fText), .v (.i .i64 p1.fN)]]⟩) := by
  have e := Option.some.inj (ho.symm.trans (rfl : cr 0 28 b128 = some _))
  subst e
  clear ho
  unfold ck_value_CheckCommand_k28 at hF
  refine aG (p0.fKind == 22) ?_ ?_
  focus
    intro h1
    replace hF := aq h1 hF
    refine aT (decide (4 ≤ p0.fKind)) ?_ ?_
    focus
      intro h2
      replace hF := ar h2 hF
      have g1 : C.wide 62 [.v (.s p0.fText)] [] = some (.v (.b (value_text_v p0.fText)), []) := k_value_text p0.fText _ (value_text_t p0.fText)
      have hR := Option.some.inj hF
      clear hF
      subst hR
    rotate_left 1
    intro h2
    replace hF := aq h2 hF
    refine aT (decide (p0.fKind ≤ 6)) ?_ ?_
    focus
      intro h3
      replace hF := ar h3 hF
      have g1 : C.wide 62 [.v (.s p0.fText)] [] = some (.v (.b (value_text_v p0.fText)), []) := k_value_text p0.fText _ (value_text_t p0.fText)
      have hR := Option.some.inj hF
      clear hF
      subst hR
    rotate_left 1
    intro h3
    replace hF := aq h3 hF
    have g2 : C.wide 67 [.v (.s p0.fField)] [] = some (.v (.b (value_field_v p0.fField)), []) := k_value_field p0.fField _ (value_field_t p0.fField)
    refine aG (value_field_v p0.fField) ?_ ?_
    focus
      intro h4
      replace hF := aq h4 hF
      have g1 : C.wide 62 [.v (.s p0.fText)] [] = some (.v (.b (value_text_v p0.fText)), []) := k_value_text p0.fText _ (value_text_t p0.fText)
      have hR := Option.some.inj hF
      clear hF
      subst hR
    rotate_left 1
    intro h4
    replace hF := ar h4 hF
    have hR := Option.some.inj hF
    clear hF
    subst hR
  rotate_left 4
  intro h1
  replace hF := ar h1 hF
  unfold ck_value_CheckCommand_k28_c0 at hF
  have g3 : C.wide 67 [.v (.s p0.fKey)] [] = some (.v (.b (value_field_v p0.fKey)), []) := k_value_field p0.fKey _ (value_field_t p0.fKey)
  refine aT (value_field_v p0.fKey) ?_ ?_
  focus
    intro h2
    replace hF := ar h2 hF
    have hR := Option.some.inj hF
    clear hF
    subst hR
  rotate_left 1
  intro h2
  replace hF := aq h2 hF
  refine aT (decide (4 ≤ p0.fKind)) ?_ ?_
  focus
    intro h3
    replace hF := ar h3 hF
    have g1 : C.wide 62 [.v (.s p0.fText)] [] = some (.v (.b (value_text_v p0.fText)), []) := k_value_text p0.fText _ (value_text_t p0.fText)
    have hR := Option.some.inj hF
    clear hF
    subst hR
  rotate_left 1
  intro h3
  replace hF := aq h3 hF
  refine aT (decide (p0.fKind ≤ 6)) ?_ ?_
  focus
    intro h4
    replace hF := ar h4 hF
    have g1 : C.wide 62 [.v (.s p0.fText)] [] = some (.v (.b (value_text_v p0.fText)), []) := k_value_text p0.fText _ (value_text_t p0.fText)
    have hR := Option.some.inj hF
    clear hF
    subst hR
  rotate_left 1
  intro h4
  replace hF := aq h4 hF
  have g2 : C.wide 67 [.v (.s p0.fField)] [] = some (.v (.b (value_field_v p0.fField)), []) := k_value_field p0.fField _ (value_field_t p0.fField)
  refine aG (value_field_v p0.fField) ?_ ?_
  focus
    intro h5
    replace hF := aq h5 hF
    have g1 : C.wide 62 [.v (.s p0.fText)] [] = some (.v (.b (value_text_v p0.fText)), []) := k_value_text p0.fText _ (value_text_t p0.fText)
    have hR := Option.some.inj hF
    clear hF
    subst hR
  rotate_left 1
  intro h5
  replace hF := ar h5 hF
  have hR := Option.some.inj hF
  clear hF
  subst hR
  all_goals (simp (maxSteps := 4000000) only [*, res128, n128a11t, n128a11f, n128a19t, n128a19f, n128a31t, n128a31f, n128a37t, n128a37f, n128a45t, n128a45f, n128a51t, n128a51f, n128a59t, n128a59f, n128a64t, n128a64f, n128a95t, n128a95f, n128a99t, n128a99f, n128k0, n128k1, n128k2, n128k3, n128k4, n128k5, n128k6, n128k7, n128k8, n128k9, n128k10, n128k11, n128k12, n128k13, n128k14, n128k15, n128k16, n128k17, n128k18, n128k19, n128k20, n128k21, n128k22, n128k23, n128k24, n128k25, n128k26, n128k27, n128k28, n128k29, n128k30, n128k31, n128k32, n128f18, n128f23, n128ro, n128mv, n128gv, ↓RP, RB, enter, aW, aC, aZ, be, aM, Mx.bw, opnd, Mx.bF, Nat.reduceBEq, bK, Mx.fit, bI, bY, toVs, cellsOf, toV, aO, aB, ax, Mx.put, ofConst, ofCell, Mx.prune, killB, killBs, aK, putDst, au, ao, aD, loadAt, bM, List.map, Nat.reduceAdd, Nat.reduceMul, cm, cn, aF, eqC, cg, aN, reduceIte, reduceCtorEq, az, bn, bq, co, bN, bD, aL, bx, lowC, lowP, forceAll, bound, bW, bg, bv, aU, br, kill, spendLoc, spendOk, setOwn, dropAl, dropAls, bG, bP, bd, cb, lend, lendA, aS, ay, bU, bL, bare, bQ, frz, bZ, bo, argE, argsE, bB, bT, fill, setCells, bR, takeParts, bp, aR, ownAt, Nat.reduceBNe, Nat.reduceSub, Nat.reduceLT, Nat.reduceLeDiff, lowA, bi, bJ, av, aJ, aX, bX, bO, bE, bS, ce, bV, bk, aI, bh, bj, bf, cd, Op.operands, Int.reduceBEq, Int.reduceLT, Int.reduceLE, Int.reduceNeg, Int.reduceBNe, bl, newB, ch, ck, cj, bne, ↓aj, bc, aP, bm, bu, aE, bH, Call.operands, ty3, ty4, ty9, ty25, ty34, ↓aa _ _ _ _ 28])
set_option maxRecDepth 100000 in
set_option maxHeartbeats 40000000 in
theorem r_value_CheckCommand (C : ak) (k_value_field : K_value_field C) (k_value_text : K_value_text C) (k_value_count : K_value_count C) (p0 : GCommand) (r : Int) (hF : value_CheckCommand p0 = some r) : cF TT C.wide (evW TT C.wide n128 b128) n128 Try.f128.results.toList (aQ Try.f128) [.agg [.v (.i .i64 p0.fKind), .v (.s p0.fKey), .v (.s p0.fField), .v (.s p0.fText), .v (.i .i64 p0.fN)]] [] = some (.v (.i .i64 r), []) := by
  unfold value_CheckCommand at hF
  refine aG (decide (p0.fKind < 1)) ?_ ?_
  focus
    intro h1
    replace hF := aq h1 hF
    have hR := Option.some.inj hF
    clear hF
    subst hR
  rotate_left 1
  intro h1
  replace hF := ar h1 hF
  refine aG (decide (22 < p0.fKind)) ?_ ?_
  focus
    intro h2
    replace hF := aq h2 hF
    have hR := Option.some.inj hF
    clear hF
    subst hR
  rotate_left 1
  intro h2
  replace hF := ar h2 hF
  unfold value_CheckCommand_c0 at hF
  have g1 : @cR TT C.wide (evW TT C.wide n128 b128) n128 2 0 ⟨[(1, .rp [.i .i64 p0.fKind, .s p0.fKey, .s p0.fField, .s p0.fText, .i .i64 p0.fN]), (3, .ptr 0 0), (18, .v (.i .i64 p0.fKind))], [[.v (.i .i64 p0.fKind), .v (.s p0.fKey), .v (.s ByteArray.empty), .v (.s ByteArray.empty), .v (.i .i64 0)]]⟩ ⟨_⟩ = some (.normal, ⟨[(1, .rp [.i .i64 p0.fKind, .s p0.fKey, .s p0.fField, .s p0.fText, .i .i64 p0.fN]), (3, .ptr 0 0)], [[.v (.i .i64 (ck_value_CheckCommand_w0_v p0 p0.fKind p0.fKey).fKind), .v (.s (ck_value_CheckCommand_w0_v p0 p0.fKind p0.fKey).fKey), .v (.s (ck_value_CheckCommand_w0_v p0 p0.fKind p0.fKey).fField), .v (.s (ck_value_CheckCommand_w0_v p0 p0.fKind p0.fKey).fText), .v (.i .i64 (ck_value_CheckCommand_w0_v p0 p0.fKind p0.fKey).fN)]]⟩) := rg_value_CheckCommand_w0 C p0 p0.fKind p0.fKey _ rfl (ck_value_CheckCommand_w0_v p0 p0.fKind p0.fKey) (ck_value_CheckCommand_w0_t p0 p0.fKind p0.fKey)
  refine aT (p0.fKind == (ck_value_CheckCommand_w0_v p0 p0.fKind p0.fKey).fKind) ?_ ?_
  focus
    intro h3
    replace hF := ar h3 hF
    have hR := Option.some.inj hF
    clear hF
    subst hR
  rotate_left 1
  intro h3
  replace hF := aq h3 hF
  refine aT (cJ p0.fKey ((ck_value_CheckCommand_w0_v p0 p0.fKind p0.fKey).fKey)) ?_ ?_
  focus
    intro h4
    replace hF := ar h4 hF
    have hR := Option.some.inj hF
    clear hF
    subst hR
  rotate_left 1
  intro h4
  replace hF := aq h4 hF
  refine aT (cJ p0.fField ((ck_value_CheckCommand_w0_v p0 p0.fKind p0.fKey).fField)) ?_ ?_
  focus
    intro h5
    replace hF := ar h5 hF
    have hR := Option.some.inj hF
    clear hF
    subst hR
  rotate_left 1
  intro h5
  replace hF := aq h5 hF
  refine aT (cJ p0.fText ((ck_value_CheckCommand_w0_v p0 p0.fKind p0.fKey).fText)) ?_ ?_
  focus
    intro h6
    replace hF := ar h6 hF
    have hR := Option.some.inj hF
    clear hF
    subst hR
  rotate_left 1
  intro h6
  replace hF := aq h6 hF
  refine aT (p0.fN == (ck_value_CheckCommand_w0_v p0 p0.fKind p0.fKey).fN) ?_ ?_
  focus
    intro h7
    replace hF := ar h7 hF
    have hR := Option.some.inj hF
    clear hF
    subst hR
  rotate_left 1
  intro h7
  replace hF := aq h7 hF
  have g2 : @cR TT C.wide (evW TT C.wide n128 b128) n128 0 28 ⟨[(1, .rp [.i .i64 p0.fKind, .s p0.fKey, .s p0.fField, .s p0.fText, .i .i64 p0.fN])], [[.v (.i .i64 (ck_value_CheckCommand_w0_v p0 p0.fKind p0.fKey).fKind), .v (.s (ck_value_CheckCommand_w0_v p0 p0.fKind p0.fKey).fKey), .v (.s (ck_value_CheckCommand_w0_v p0 p0.fKind p0.fKey).fField), .v (.s (ck_value_CheckCommand_w0_v p0 p0.fKind p0.fKey).fText), .v (.i .i64 (ck_value_CheckCommand_w0_v p0 p0.fKind p0.fKey).fN)]]⟩ ⟨_⟩ = some (.normal, ⟨[(1, .rp [.i .i64 p0.fKind, .s p0.fKey, .s p0.fField, .s p0.fText, .i .i64 p0.fN]), (95, .v (.b (ck_value_CheckCommand_k28_v p0 (ck_value_CheckCommand_w0_v p0 p0.fKind p0.fKey))))], [[.v (.i .i64 (ck_value_CheckCommand_w0_v p0 p0.fKind p0.fKey).fKind), .v (.s (ck_value_CheckCommand_w0_v p0 p0.fKind p0.fKey).fKey), .v (.s (ck_value_CheckCommand_w0_v p0 p0.fKind p0.fKey).fField), .v (.s (ck_value_CheckCommand_w0_v p0 p0.fKind p0.fKey).fText), .v (.i .i64 (ck_value_CheckCommand_w0_v p0 p0.fKind p0.fKey).fN)]]⟩) := rg_value_CheckCommand_k28 C k_value_field k_value_text p0 (ck_value_CheckCommand_w0_v p0 p0.fKind p0.fKey) _ rfl (ck_value_CheckCommand_k28_v p0 (ck_value_CheckCommand_w0_v p0 p0.fKind p0.fKey)) (ck_value_CheckCommand_k28_t p0 (ck_value_CheckCommand_w0_v p0 p0.fKind p0.fKey))
  refine aG (ck_value_CheckCommand_k28_v p0 (ck_value_CheckCommand_w0_v p0 p0.fKind p0.fKey)) ?_ ?_
  focus
    intro h8
    replace hF := aq h8 hF
    have hR := Option.some.inj hF
    clear hF
    subst hR
  rotate_left 1
  intro h8
  replace hF := ar h8 hF
  have g3 : C.wide 70 [.v (.i .i64 p0.fN)] [] = some (.v (.b (value_count_v p0.fN)), []) := k_value_count p0.fN _ (value_count_t p0.fN)
  refine aG (value_count_v p0.fN) ?_ ?_
  focus
    intro h9
    replace hF := aq h9 hF
    have hR := Option.some.inj hF
    clear hF
    subst hR
  rotate_left 1
  intro h9
  replace hF := ar h9 hF
  have hR := Option.some.inj hF
  clear hF
  subst hR
  all_goals (rw [ba]; show cp _ _ _ (aH _ _ _ _ (Code.seq _ _) _) = _; simp (maxSteps := 4000000) only [*, res128, n128a11t, n128a11f, n128a19t, n128a19f, n128a31t, n128a31f, n128a37t, n128a37f, n128a45t, n128a45f, n128a51t, n128a51f, n128a59t, n128a59f, n128a64t, n128a64f, n128a95t, n128a95f, n128a99t, n128a99f, n128k0, n128k1, n128k2, n128k3, n128k4, n128k5, n128k6, n128k7, n128k8, n128k9, n128k10, n128k11, n128k12, n128k13, n128k14, n128k15, n128k16, n128k17, n128k18, n128k19, n128k20, n128k21, n128k22, n128k23, n128k24, n128k25, n128k26, n128k27, n128k28, n128k29, n128k30, n128k31, n128k32, n128f18, n128f23, n128ro, n128mv, n128gv, ↓RP, RB, enter, aW, aC, aZ, be, aM, Mx.bw, opnd, Mx.bF, Nat.reduceBEq, bK, Mx.fit, bI, bY, toVs, cellsOf, toV, aO, aB, ax, Mx.put, ofConst, ofCell, Mx.prune, killB, killBs, aK, putDst, au, ao, aD, loadAt, bM, List.map, Nat.reduceAdd, Nat.reduceMul, cm, cn, aF, eqC, cg, aN, reduceIte, reduceCtorEq, az, bn, bq, co, bN, bD, aL, bx, lowC, lowP, forceAll, bound, bW, bg, bv, aU, br, kill, spendLoc, spendOk, setOwn, dropAl, dropAls, bG, bP, bd, cb, lend, lendA, aS, ay, bU, bL, bare, bQ, frz, bZ, bo, argE, argsE, bB, bT, fill, setCells, bR, takeParts, bp, aR, ownAt, Nat.reduceBNe, Nat.reduceSub, Nat.reduceLT, Nat.reduceLeDiff, lowA, bi, bJ, av, aJ, aX, bX, bO, bE, bS, ce, bV, bk, aI, bh, bj, bf, cd, Op.operands, Int.reduceBEq, Int.reduceLT, Int.reduceLE, Int.reduceNeg, Int.reduceBNe, bl, newB, ch, ck, cj, bne, ↓aj, bc, aP, bm, bu, aE, bH, Call.operands, ty3, ty4, ty9, ty25, ty34, ↓aa _ _ _ _ 0, ↓aa _ _ _ _ 1, ↓ai _ _ _ _ 11, ↓aa _ _ _ _ 2, ↓aa _ _ _ _ 3, ↓aa _ _ _ _ 4, ↓evCode_blockB _ _ _ _ 0, ↓aa _ _ _ _ 5, ↓ai _ _ _ _ 19, ↓aa _ _ _ _ 6, ↓aa _ _ _ _ 7, ↓aa _ _ _ _ 8, ↓aa _ _ _ _ 9, ↓aa _ _ _ _ 10, ↓aa _ _ _ _ 11, ↓aa _ _ _ _ 12, ↓aa _ _ _ _ 13, ↓aa _ _ _ _ 14, ↓ai _ _ _ _ 31, ↓aa _ _ _ _ 15, ↓aa _ _ _ _ 16, ↓aa _ _ _ _ 17, ↓cP _ _ _ _ 37, ↓am _ _ _ _ 18, ↓aa _ _ _ _ 19, ↓ai _ _ _ _ 45, ↓aa _ _ _ _ 20, ↓aa _ _ _ _ 21, ↓aa _ _ _ _ 22, ↓cP _ _ _ _ 51, ↓am _ _ _ _ 23, ↓aa _ _ _ _ 24, ↓cP _ _ _ _ 59, ↓aa _ _ _ _ 25, ↓aa _ _ _ _ 26, ↓ai _ _ _ _ 64, ↓aa _ _ _ _ 27, ↓bC _ _ _ _ 28, ↓ai _ _ _ _ 95, ↓aa _ _ _ _ 29, ↓aa _ _ _ _ 30, ↓ai _ _ _ _ 99, ↓aa _ _ _ _ 31, ↓aa _ _ _ _ 32])
/-! ### client.CheckCall -/
def n102 : cC where
  keep := fun i => match i with
    | 0 => [1]
    | 1 => [1, 5]
    | 2 => [8]
    | 3 => [2]
    | 4 => [2]
    | 5 => [1, 18]
    | 6 => [2]
    | 7 => [2]
    | _ => []
  ro := fun t => t == 1
  mv := fun _ => false
  give := fun _ => false
  free := fun _ => []
  alive := fun i x => match i, x with
    | 5, true => some [1]
    | 5, false => some [1]
    | 8, true => some []
    | 8, false => some []
    | 18, true => some []
    | 18, false => some [1]
    | _, _ => none
theorem n102a5t (e : Env) (S : aA) : aw n102 5 true ⟨e, S⟩ = ⟨prune [1] e, S⟩ := rfl
theorem n102a5f (e : Env) (S : aA) : aw n102 5 false ⟨e, S⟩ = ⟨prune [1] e, S⟩ := rfl
theorem n102a8t (e : Env) (S : aA) : aw n102 8 true ⟨e, S⟩ = ⟨prune [] e, S⟩ := rfl
theorem n102a8f (e : Env) (S : aA) : aw n102 8 false ⟨e, S⟩ = ⟨prune [] e, S⟩ := rfl
theorem n102a18t (e : Env) (S : aA) : aw n102 18 true ⟨e, S⟩ = ⟨prune [] e, S⟩ := rfl
theorem n102a18f (e : Env) (S : aA) : aw n102 18 false ⟨e, S⟩ = ⟨prune [1] e, S⟩ := rfl
theorem n102k0 : n102.keep 0 = [1] := rfl
theorem n102k1 : n102.keep 1 = [1, 5] := rfl
theorem n102k2 : n102.keep 2 = [8] := rfl
theorem n102k3 : n102.keep 3 = [2] := rfl
theorem n102k4 : n102.keep 4 = [2] := rfl
theorem n102k5 : n102.keep 5 = [1, 18] := rfl
theorem n102k6 : n102.keep 6 = [2] := rfl
theorem n102k7 : n102.keep 7 = [2] := rfl
theorem n102ro (t : Nat) : n102.ro t = (t == 1) := rfl
theorem n102mv (t : Nat) : n102.mv t = (false) := rfl
theorem n102gv (t : Nat) : n102.give t = (false) := rfl
theorem res102 : Try.f102.results.toList = [.tmp 2] := rfl
noncomputable def b102 : Code := aQ Try.f102
set_option maxRecDepth 100000 in
set_option maxHeartbeats 40000000 in
theorem r_client_CheckCall (C : ak) (k_client_number : K_client_number C) (k_value_CheckCommand : K_value_CheckCommand C) (p0 : GCall) (r : Int) (hF : client_CheckCall p0 = some r) : cF TT C.wide (evW TT C.wide n102 b102) n102 Try.f102.results.toList (aQ Try.f102) [.agg [.v (.i .i64 p0.fClient), .v (.i .i64 p0.fSeq), .v (.i .i64 p0.fCommand.fKind), .v (.s p0.fCommand.fKey), .v (.s p0.fCommand.fField), .v (.s p0.fCommand.fText), .v (.i .i64 p0.fCommand.fN)]] [] = some (.v (.i .i64 r), []) := by
  unfold client_CheckCall at hF
  refine aT (p0.fClient == 0) ?_ ?_
  focus
    intro h1
    replace hF := ar h1 hF
    have g1 : C.wide 127 [.v (.i .i64 p0.fClient)] [] = some (.v (.b (client_number_v p0.fClient)), []) := k_client_number p0.fClient _ (client_number_t p0.fClient)
    refine aT (client_number_v p0.fClient) ?_ ?_
    focus
      intro h2
      replace hF := ar h2 hF
      have hR := Option.some.inj hF
      clear hF
      subst hR
    rotate_left 1
    intro h2
    replace hF := aq h2 hF
    have g2 : C.wide 127 [.v (.i .i64 p0.fSeq)] [] = some (.v (.b (client_number_v p0.fSeq)), []) := k_client_number p0.fSeq _ (client_number_t p0.fSeq)
    refine aG (client_number_v p0.fSeq) ?_ ?_
    focus
      intro h3
      replace hF := aq h3 hF
      have g3 : C.wide 128 [.agg [.v (.i .i64 p0.fCommand.fKind), .v (.s p0.fCommand.fKey), .v (.s p0.fCommand.fField), .v (.s p0.fCommand.fText), .v (.i .i64 p0.fCommand.fN)]] [] = some (.v (.i .i64 (value_CheckCommand_v p0.fCommand)), []) := k_value_CheckCommand p0.fCommand _ (value_CheckCommand_t p0.fCommand)
      have hR := Option.some.inj hF
      clear hF
      subst hR
    rotate_left 1
    intro h3
    replace hF := ar h3 hF
    have hR := Option.some.inj hF
    clear hF
    subst hR
  rotate_left 3
  intro h1
  replace hF := aq h1 hF
  unfold client_CheckCall_c0 at hF
  refine aT (p0.fSeq == 0) ?_ ?_
  focus
    intro h2
    replace hF := ar h2 hF
    have hR := Option.some.inj hF
    clear hF
    subst hR
  rotate_left 1
  intro h2
  replace hF := aq h2 hF
  refine aT (p0.fCommand.fKind == 0) ?_ ?_
  focus
    intro h3
    replace hF := ar h3 hF
    have hR := Option.some.inj hF
    clear hF
    subst hR
  rotate_left 1
  intro h3
  replace hF := aq h3 hF
  refine aT (cJ p0.fCommand.fKey ByteArray.empty) ?_ ?_
  focus
    intro h4
    replace hF := ar h4 hF
    have hR := Option.some.inj hF
    clear hF
    subst hR
  rotate_left 1
  intro h4
  replace hF := aq h4 hF
  refine aT (cJ p0.fCommand.fField ByteArray.empty) ?_ ?_
  focus
    intro h5
    replace hF := ar h5 hF
    have hR := Option.some.inj hF
    clear hF
    subst hR
  rotate_left 1
  intro h5
  replace hF := aq h5 hF
  refine aT (cJ p0.fCommand.fText ByteArray.empty) ?_ ?_
  focus
    intro h6
    replace hF := ar h6 hF
    have hR := Option.some.inj hF
    clear hF
    subst hR
  rotate_left 1
  intro h6
  replace hF := aq h6 hF
  refine aG (p0.fCommand.fN == 0) ?_ ?_
  focus
    intro h7
    replace hF := aq h7 hF
    have hR := Option.some.inj hF
    clear hF
    subst hR
  rotate_left 1
  intro h7
  replace hF := ar h7 hF
  have hR := Option.some.inj hF
  clear hF
  subst hR
  all_goals (rw [ba]; show cp _ _ _ (aH _ _ _ _ (Code.seq _ _) _) = _; simp (maxSteps := 4000000) only [*, res102, n102a5t, n102a5f, n102a8t, n102a8f, n102a18t, n102a18f, n102k0, n102k1, n102k2, n102k3, n102k4, n102k5, n102k6, n102k7, n102ro, n102mv, n102gv, ↓RP, RB, ↓ah, ↓ac, ↓af, ↓ad, ↓ae, enter, aW, aC, aZ, be, aM, Mx.bw, opnd, Mx.bF, Nat.reduceBEq, bK, Mx.fit, bI, bY, toVs, cellsOf, toV, aO, aB, ax, Mx.put, ofConst, ofCell, Mx.prune, killB, killBs, aK, putDst, au, ao, aD, loadAt, bM, List.map, Nat.reduceAdd, Nat.reduceMul, cm, cn, aF, eqC, cg, aN, reduceIte, reduceCtorEq, az, bn, bq, co, bN, bD, aL, bx, lowC, lowP, forceAll, bound, bW, bg, bv, aU, br, kill, spendLoc, spendOk, setOwn, dropAl, dropAls, bG, bP, bd, cb, lend, lendA, aS, ay, bU, bL, bare, bQ, frz, bZ, bo, argE, argsE, bB, bT, fill, setCells, bR, takeParts, bp, aR, ownAt, Nat.reduceBNe, Nat.reduceSub, Nat.reduceLT, Nat.reduceLeDiff, lowA, bi, bJ, av, aJ, aX, bX, bO, bE, bS, ce, bV, bk, aI, bh, bj, bf, cd, Op.operands, Int.reduceBEq, Int.reduceLT, Int.reduceLE, Int.reduceNeg, Int.reduceBNe, bl, newB, ch, ck, cj, bne, ↓aj, ↓ai, ↓aa, ↓am, bc, aP, bm, bu, aE, bH, Call.operands, ty3, ty4, ty9, ty25, ty34, ty36])
/-! ### wire.CheckItem -/
def n56 : cC where
  keep := fun i => match i with
    | 0 => [1]
    | 1 => [1, 20]
    | 2 => [2]
    | 3 => [1, 22]
    | 4 => [26]
    | 5 => [2]
    | 6 => [2]
    | 7 => [2]
    | _ => []
  ro := fun t => t == 1
  mv := fun _ => false
  give := fun _ => false
  free := fun _ => []
  alive := fun i x => match i, x with
    | 20, true => some []
    | 20, false => some [1]
    | 22, true => some [1]
    | 22, false => some [1]
    | 26, true => some []
    | 26, false => some []
    | _, _ => none
theorem n56a20t (e : Env) (S : aA) : aw n56 20 true ⟨e, S⟩ = ⟨prune [] e, S⟩ := rfl
theorem n56a20f (e : Env) (S : aA) : aw n56 20 false ⟨e, S⟩ = ⟨prune [1] e, S⟩ := rfl
theorem n56a22t (e : Env) (S : aA) : aw n56 22 true ⟨e, S⟩ = ⟨prune [1] e, S⟩ := rfl
theorem n56a22f (e : Env) (S : aA) : aw n56 22 false ⟨e, S⟩ = ⟨prune [1] e, S⟩ := rfl
theorem n56a26t (e : Env) (S : aA) : aw n56 26 true ⟨e, S⟩ = ⟨prune [] e, S⟩ := rfl
theorem n56a26f (e : Env) (S : aA) : aw n56 26 false ⟨e, S⟩ = ⟨prune [] e, S⟩ := rfl
theorem n56k0 : n56.keep 0 = [1] := rfl
theorem n56k1 : n56.keep 1 = [1, 20] := rfl
theorem n56k2 : n56.keep 2 = [2] := rfl
theorem n56k3 : n56.keep 3 = [1, 22] := rfl
theorem n56k4 : n56.keep 4 = [26] := rfl
theorem n56k5 : n56.keep 5 = [2] := rfl
theorem n56k6 : n56.keep 6 = [2] := rfl
theorem n56k7 : n56.keep 7 = [2] := rfl
theorem n56ro (t : Nat) : n56.ro t = (t == 1) := rfl
theorem n56mv (t : Nat) : n56.mv t = (false) := rfl
theorem n56gv (t : Nat) : n56.give t = (false) := rfl
theorem res56 : Try.f56.results.toList = [.tmp 2] := rfl
noncomputable def b56 : Code := aQ Try.f56
set_option maxRecDepth 100000 in
set_option maxHeartbeats 40000000 in
theorem rg_wire_CheckItem_k1 (C : ak)  (p0 : GItem) (c : Code) (ho : cr 0 1 b56 = some c) (r : Bool) (hF : ck_wire_CheckItem_k1 p0 = some r) : aH TT C.wide (evW TT C.wide n56 b56) n56 c ⟨[(1, .rp [.i .i64 p0.fTerm, .i .i64 p0.fTime, .b p0.fNop, .i .i64 p0.fCall.fClient, .i .i64 p0.fCall.fSeq, .i .i64 p0.fCall.fCommand.fKind, .s p0.fCall.fCommand.fKey, .s p0.fCall.fCommand.fField, .s p0.fCall.fCommand.fText, .i .i64 p0.fCall.fCommand.fN])], []⟩ = some (.normal, ⟨[(1, .rp [.i .i64 p0.fTerm, .i .i64 p0.fTime, .b p0.fNop, .i .i64 p0.fCall.fClient, .i .i64 p0.fCall.fSeq, .i .i64 p0.fCall.fCommand.fKind, .s p0.fCall.fCommand.fKey, .s p0.fCall.fCommand.fField, .s p0.fCall.fCommand.fText, .i .i64 p0.fCall.fCommand.fN]), (20, .v (.b r))], []⟩) := by
  have e := Option.some.inj (ho.symm.trans (rfl : cr 0 1 b56 = some _))
  subst e
  clear ho
  unfold ck_wire_CheckItem_k1 at hF
  refine aG (decide (p0.fTerm < 1)) ?_ ?_
  focus
    intro h1
    replace hF := aq h1 hF
    have hR := Option.some.inj hF
    clear hF
    subst hR
  rotate_left 1
  intro h1
  replace hF := ar h1 hF
  refine aG (decide (1048576 < p0.fTerm)) ?_ ?_
  focus
    intro h2
    replace hF := aq h2 hF
    have hR := Option.some.inj hF
    clear hF
    subst hR
  rotate_left 1
  intro h2
  replace hF := ar h2 hF
  refine aG (decide (p0.fTime < 0)) ?_ ?_
  focus
    intro h3
    replace hF := aq h3 hF
    have hR := Option.some.inj hF
    clear hF
    subst hR
  rotate_left 1
  intro h3
  replace hF := ar h3 hF
  have hR := Option.some.inj hF
  clear hF
  subst hR
  all_goals (simp (maxSteps := 4000000) only [*, res56, n56a20t, n56a20f, n56a22t, n56a22f, n56a26t, n56a26f, n56k0, n56k1, n56k2, n56k3, n56k4, n56k5, n56k6, n56k7, n56ro, n56mv, n56gv, ↓RP, RB, ↓ah, ↓ac, ↓af, ↓ad, ↓ae, enter, aW, aC, aZ, be, aM, Mx.bw, opnd, Mx.bF, Nat.reduceBEq, bK, Mx.fit, bI, bY, toVs, cellsOf, toV, aO, aB, ax, Mx.put, ofConst, ofCell, Mx.prune, killB, killBs, aK, putDst, au, ao, aD, loadAt, bM, List.map, Nat.reduceAdd, Nat.reduceMul, cm, cn, aF, eqC, cg, aN, reduceIte, reduceCtorEq, az, bn, bq, co, bN, bD, aL, bx, lowC, lowP, forceAll, bound, bW, bg, bv, aU, br, kill, spendLoc, spendOk, setOwn, dropAl, dropAls, bG, bP, bd, cb, lend, lendA, aS, ay, bU, bL, bare, bQ, frz, bZ, bo, argE, argsE, bB, bT, fill, setCells, bR, takeParts, bp, aR, ownAt, Nat.reduceBNe, Nat.reduceSub, Nat.reduceLT, Nat.reduceLeDiff, lowA, bi, bJ, av, aJ, aX, bX, bO, bE, bS, ce, bV, bk, aI, bh, bj, bf, cd, Op.operands, Int.reduceBEq, Int.reduceLT, Int.reduceLE, Int.reduceNeg, Int.reduceBNe, bl, newB, ch, ck, cj, bne, ↓aj, ↓ai, bc, aP, bm, bu, aE, bH, Call.operands, ty3, ty4, ty9, ty25, ty34, ty36, ty38, ↓aa _ _ _ _ 1])
set_option maxRecDepth 100000 in
set_option maxHeartbeats 40000000 in
theorem r_wire_CheckItem (C : ak) (k_client_CheckCall : K_client_CheckCall C) (p0 : GItem) (r : Int) (hF : wire_CheckItem p0 = some r) : cF TT C.wide (evW TT C.wide n56 b56) n56 Try.f56.results.toList (aQ Try.f56) [.agg [.v (.i .i64 p0.fTerm), .v (.i .i64 p0.fTime), .v (.b p0.fNop), .v (.i .i64 p0.fCall.fClient), .v (.i .i64 p0.fCall.fSeq), .v (.i .i64 p0.fCall.fCommand.fKind), .v (.s p0.fCall.fCommand.fKey), .v (.s p0.fCall.fCommand.fField), .v (.s p0.fCall.fCommand.fText), .v (.i .i64 p0.fCall.fCommand.fN)]] [] = some (.v (.i .i64 r), []) := by
  unfold wire_CheckItem at hF
  have g1 : @cR TT C.wide (evW TT C.wide n56 b56) n56 0 1 ⟨[(1, .rp [.i .i64 p0.fTerm, .i .i64 p0.fTime, .b p0.fNop, .i .i64 p0.fCall.fClient, .i .i64 p0.fCall.fSeq, .i .i64 p0.fCall.fCommand.fKind, .s p0.fCall.fCommand.fKey, .s p0.fCall.fCommand.fField, .s p0.fCall.fCommand.fText, .i .i64 p0.fCall.fCommand.fN])], []⟩ ⟨_⟩ = some (.normal, ⟨[(1, .rp [.i .i64 p0.fTerm, .i .i64 p0.fTime, .b p0.fNop, .i .i64 p0.fCall.fClient, .i .i64 p0.fCall.fSeq, .i .i64 p0.fCall.fCommand.fKind, .s p0.fCall.fCommand.fKey, .s p0.fCall.fCommand.fField, .s p0.fCall.fCommand.fText, .i .i64 p0.fCall.fCommand.fN]), (20, .v (.b (ck_wire_CheckItem_k1_v p0)))], []⟩) := rg_wire_CheckItem_k1 C p0 _ rfl (ck_wire_CheckItem_k1_v p0) (ck_wire_CheckItem_k1_t p0)
  refine aG (ck_wire_CheckItem_k1_v p0) ?_ ?_
  focus
    intro h1
    replace hF := aq h1 hF
    have hR := Option.some.inj hF
    clear hF
    subst hR
  rotate_left 1
  intro h1
  replace hF := ar h1 hF
  refine aT p0.fNop ?_ ?_
  focus
    intro h2
    replace hF := ar h2 hF
    have g2 : C.wide 102 [.agg [.v (.i .i64 p0.fCall.fClient), .v (.i .i64 p0.fCall.fSeq), .v (.i .i64 p0.fCall.fCommand.fKind), .v (.s p0.fCall.fCommand.fKey), .v (.s p0.fCall.fCommand.fField), .v (.s p0.fCall.fCommand.fText), .v (.i .i64 p0.fCall.fCommand.fN)]] [] = some (.v (.i .i64 (client_CheckCall_v p0.fCall)), []) := k_client_CheckCall p0.fCall _ (client_CheckCall_t p0.fCall)
    try simp only [h2] at g1
    have hR := Option.some.inj hF
    clear hF
    subst hR
  rotate_left 1
  intro h2
  replace hF := aq h2 hF
  unfold wire_CheckItem_c0 at hF
  refine aT (p0.fCall.fClient == 0) ?_ ?_
  focus
    intro h3
    replace hF := ar h3 hF
    try simp only [h2] at g1
    have hR := Option.some.inj hF
    clear hF
    subst hR
  rotate_left 1
  intro h3
  replace hF := aq h3 hF
  refine aT (p0.fCall.fSeq == 0) ?_ ?_
  focus
    intro h4
    replace hF := ar h4 hF
    try simp only [h2] at g1
    have hR := Option.some.inj hF
    clear hF
    subst hR
  rotate_left 1
  intro h4
  replace hF := aq h4 hF
  refine aT (p0.fCall.fCommand.fKind == 0) ?_ ?_
  focus
    intro h5
    replace hF := ar h5 hF
    try simp only [h2] at g1
    have hR := Option.some.inj hF
    clear hF
    subst hR
  rotate_left 1
  intro h5
  replace hF := aq h5 hF
  refine aT (cJ p0.fCall.fCommand.fKey ByteArray.empty) ?_ ?_
  focus
    intro h6
    replace hF := ar h6 hF
    try simp only [h2] at g1
    have hR := Option.some.inj hF
    clear hF
    subst hR
  rotate_left 1
  intro h6
  replace hF := aq h6 hF
  refine aT (cJ p0.fCall.fCommand.fField ByteArray.empty) ?_ ?_
  focus
    intro h7
    replace hF := ar h7 hF
    try simp only [h2] at g1
    have hR := Option.some.inj hF
    clear hF
    subst hR
  rotate_left 1
  intro h7
  replace hF := aq h7 hF
  refine aT (cJ p0.fCall.fCommand.fText ByteArray.empty) ?_ ?_
  focus
    intro h8
    replace hF := ar h8 hF
    try simp only [h2] at g1
    have hR := Option.some.inj hF
    clear hF
    subst hR
  rotate_left 1
  intro h8
  replace hF := aq h8 hF
  refine aG (p0.fCall.fCommand.fN == 0) ?_ ?_
  focus
    intro h9
    replace hF := aq h9 hF
    try simp only [h2] at g1
    have hR := Option.some.inj hF
    clear hF
    subst hR
  rotate_left 1
  intro h9
  replace hF := ar h9 hF
  try simp only [h2] at g1
  have hR := Option.some.inj hF
  clear hF
  subst hR
  all_goals (rw [ba]; show cp _ _ _ (aH _ _ _ _ (Code.seq _ _) _) = _; simp (maxSteps := 4000000) only [*, res56, n56a20t, n56a20f, n56a22t, n56a22f, n56a26t, n56a26f, n56k0, n56k1, n56k2, n56k3, n56k4, n56k5, n56k6, n56k7, n56ro, n56mv, n56gv, ↓RP, RB, ↓ah, ↓ac, ↓af, ↓ad, ↓ae, enter, aW, aC, aZ, be, aM, Mx.bw, opnd, Mx.bF, Nat.reduceBEq, bK, Mx.fit, bI, bY, toVs, cellsOf, toV, aO, aB, ax, Mx.put, ofConst, ofCell, Mx.prune, killB, killBs, aK, putDst, au, ao, aD, loadAt, bM, List.map, Nat.reduceAdd, Nat.reduceMul, cm, cn, aF, eqC, cg, aN, reduceIte, reduceCtorEq, az, bn, bq, co, bN, bD, aL, bx, lowC, lowP, forceAll, bound, bW, bg, bv, aU, br, kill, spendLoc, spendOk, setOwn, dropAl, dropAls, bG, bP, bd, cb, lend, lendA, aS, ay, bU, bL, bare, bQ, frz, bZ, bo, argE, argsE, bB, bT, fill, setCells, bR, takeParts, bp, aR, ownAt, Nat.reduceBNe, Nat.reduceSub, Nat.reduceLT, Nat.reduceLeDiff, lowA, bi, bJ, av, aJ, aX, bX, bO, bE, bS, ce, bV, bk, aI, bh, bj, bf, cd, Op.operands, Int.reduceBEq, Int.reduceLT, Int.reduceLE, Int.reduceNeg, Int.reduceBNe, bl, newB, ch, ck, cj, bne, ↓aj, ↓ai, bc, aP, bm, bu, aE, bH, Call.operands, ty3, ty4, ty9, ty25, ty34, ty36, ty38, ↓aa _ _ _ _ 0, ↓bC _ _ _ _ 1, ↓aa _ _ _ _ 2, ↓aa _ _ _ _ 3, ↓aa _ _ _ _ 4, ↓aa _ _ _ _ 5, ↓aa _ _ _ _ 6, ↓aa _ _ _ _ 7])
/-! ### ledger.Check -/
def n49 : cC where
  keep := fun i => match i with
    | 0 => [1]
    | 1 => [1, 43]
    | 2 => [2]
    | 3 => [1, 3, 4]
    | 4 => [3, 4, 47, 48, 49]
    | 5 => [3, 4, 47, 48, 49, 50]
    | 6 => [3, 4, 6, 47, 48, 49]
    | 7 => [6, 47, 48, 49, 67]
    | 8 => [2]
    | 9 => [3, 4, 47, 48, 49]
    | 10 => [3, 4, 47, 48, 49]
    | 11 => [2]
    | _ => []
  ro := fun t => t == 1
  mv := fun _ => false
  give := fun _ => false
  free := fun i => match i with | 9 => [(0, 2), (1, 2), (0, 3), (1, 3), (2, 4), (3, 4)] | _ => []
  alive := fun i x => match i, x with
    | 43, true => some []
    | 43, false => some [1]
    | 50, true => some [3, 4, 47, 48, 49]
    | 50, false => some []
    | 67, true => some []
    | 67, false => some [6, 47, 48, 49]
    | _, _ => none
theorem n49a43t (e : Env) (S : aA) : aw n49 43 true ⟨e, S⟩ = ⟨prune [] e, S⟩ := rfl
theorem n49a43f (e : Env) (S : aA) : aw n49 43 false ⟨e, S⟩ = ⟨prune [1] e, S⟩ := rfl
theorem n49a50t (e : Env) (S : aA) : aw n49 50 true ⟨e, S⟩ = ⟨prune [3, 4, 47, 48, 49] e, S⟩ := rfl
theorem n49a50f (e : Env) (S : aA) : aw n49 50 false ⟨e, S⟩ = ⟨prune [] e, S⟩ := rfl
theorem n49a67t (e : Env) (S : aA) : aw n49 67 true ⟨e, S⟩ = ⟨prune [] e, S⟩ := rfl
theorem n49a67f (e : Env) (S : aA) : aw n49 67 false ⟨e, S⟩ = ⟨prune [6, 47, 48, 49] e, S⟩ := rfl
theorem n49k0 : n49.keep 0 = [1] := rfl
theorem n49k1 : n49.keep 1 = [1, 43] := rfl
theorem n49k2 : n49.keep 2 = [2] := rfl
theorem n49k3 : n49.keep 3 = [1, 3, 4] := rfl
theorem n49k4 : n49.keep 4 = [3, 4, 47, 48, 49] := rfl
theorem n49k5 : n49.keep 5 = [3, 4, 47, 48, 49, 50] := rfl
theorem n49k6 : n49.keep 6 = [3, 4, 6, 47, 48, 49] := rfl
theorem n49k7 : n49.keep 7 = [6, 47, 48, 49, 67] := rfl
theorem n49k8 : n49.keep 8 = [2] := rfl
theorem n49k9 : n49.keep 9 = [3, 4, 47, 48, 49] := rfl
theorem n49k10 : n49.keep 10 = [3, 4, 47, 48, 49] := rfl
theorem n49k11 : n49.keep 11 = [2] := rfl
theorem n49ro (t : Nat) : n49.ro t = (t == 1) := rfl
theorem n49mv (t : Nat) : n49.mv t = (false) := rfl
theorem n49gv (t : Nat) : n49.give t = (false) := rfl
theorem n49f9 : n49.free 9 = [(0, 2), (1, 2), (0, 3), (1, 3), (2, 4), (3, 4)] := rfl
theorem res49 : Try.f49.results.toList = [.tmp 2] := rfl
noncomputable def b49 : Code := aQ Try.f49
noncomputable def c49_0 : Code := (bz 0 (aQ Try.f49)).getD .skip
theorem fl49_0 : bz 0 b49 = some c49_0 := rfl
set_option maxRecDepth 100000 in
set_option maxHeartbeats 40000000 in
theorem rg_ledger_Check_k1 (C : ak)  (p0 : GLog) (c : Code) (ho : cr 0 1 b49 = some c) (r : Bool) (hF : ck_ledger_Check_k1 p0 = some r) : aH TT C.wide (evW TT C.wide n49 b49) n49 c ⟨[(1, .rp [.i .i64 p0.fBase, .i .i64 p0.fBaseTerm, .sl 10 (ab GItem.row p0.fItems)])], []⟩ = some (.normal, ⟨[(1, .rp [.i .i64 p0.fBase, .i .i64 p0.fBaseTerm, .sl 10 (ab GItem.row p0.fItems)]), (43, .v (.b r))], []⟩) := by
  have e := Option.some.inj (ho.symm.trans (rfl : cr 0 1 b49 = some _))
  subst e
  clear ho
  unfold ck_ledger_Check_k1 at hF
  refine aG (decide (p0.fBase < 0)) ?_ ?_
  focus
    intro h1
    replace hF := aq h1 hF
    have hR := Option.some.inj hF
    clear hF
    subst hR
  rotate_left 1
  intro h1
  replace hF := ar h1 hF
  unfold ck_ledger_Check_k1_c0 at hF
  refine aG (decide (p0.fBaseTerm < 0)) ?_ ?_
  focus
    intro h2
    replace hF := aq h2 hF
    have hR := Option.some.inj hF
    clear hF
    subst hR
  rotate_left 1
  intro h2
  replace hF := ar h2 hF
  refine aG (decide (1048576 < p0.fBaseTerm)) ?_ ?_
  focus
    intro h3
    replace hF := aq h3 hF
    have hR := Option.some.inj hF
    clear hF
    subst hR
  rotate_left 1
  intro h3
  replace hF := ar h3 hF
  refine aG (p0.fBase == 0) ?_ ?_
  focus
    intro h4
    replace hF := aq h4 hF
    refine aT (p0.fBaseTerm == 0) ?_ ?_
    focus
      intro h5
      replace hF := ar h5 hF
      have hR := Option.some.inj hF
      clear hF
      subst hR
    rotate_left 1
    intro h5
    replace hF := aq h5 hF
    refine aG (decide (200 < (p0.fItems.length : Int))) ?_ ?_
    focus
      intro h6
      replace hF := aq h6 hF
      have hR := Option.some.inj hF
      clear hF
      subst hR
    rotate_left 1
    intro h6
    replace hF := ar h6 hF
    have hR := Option.some.inj hF
    clear hF
    subst hR
  rotate_left 3
  intro h4
  replace hF := ar h4 hF
  refine aG (p0.fBaseTerm == 0) ?_ ?_
  focus
    intro h5
    replace hF := aq h5 hF
    have hR := Option.some.inj hF
    clear hF
    subst hR
  rotate_left 1
  intro h5
  replace hF := ar h5 hF
  refine aG (decide (200 < (p0.fItems.length : Int))) ?_ ?_
  focus
    intro h6
    replace hF := aq h6 hF
    have hR := Option.some.inj hF
    clear hF
    subst hR
  rotate_left 1
  intro h6
  replace hF := ar h6 hF
  have hR := Option.some.inj hF
  clear hF
  subst hR
  all_goals (simp (maxSteps := 4000000) only [*, res49, n49a43t, n49a43f, n49a50t, n49a50f, n49a67t, n49a67f, n49k0, n49k1, n49k2, n49k3, n49k4, n49k5, n49k6, n49k7, n49k8, n49k9, n49k10, n49k11, n49f9, n49ro, n49mv, n49gv, ↓RP, RB, ↓ah, ↓ac, ↓af, ↓ad, ↓ae, enter, aW, aC, aZ, be, aM, Mx.bw, opnd, Mx.bF, Nat.reduceBEq, bK, Mx.fit, bI, bY, toVs, cellsOf, toV, aO, aB, ax, Mx.put, ofConst, ofCell, Mx.prune, killB, killBs, aK, putDst, au, ao, aD, loadAt, bM, List.map, Nat.reduceAdd, Nat.reduceMul, cm, cn, aF, eqC, cg, aN, reduceIte, reduceCtorEq, az, bn, bq, co, bN, bD, aL, bx, lowC, lowP, forceAll, bound, bW, bg, bv, aU, br, kill, spendLoc, spendOk, setOwn, dropAl, dropAls, bG, bP, bd, cb, lend, lendA, aS, ay, bU, bL, bare, bQ, frz, bZ, bo, argE, argsE, bB, bT, fill, setCells, bR, takeParts, bp, aR, ownAt, Nat.reduceBNe, Nat.reduceSub, Nat.reduceLT, Nat.reduceLeDiff, lowA, bi, bJ, av, aJ, aX, bX, bO, bE, bS, ce, bV, bk, aI, bh, bj, bf, cd, Op.operands, Int.reduceBEq, Int.reduceLT, Int.reduceLE, Int.reduceNeg, Int.reduceBNe, bl, newB, ch, ck, cj, bne, ↓aj, ↓ai, bc, aP, bm, bu, aE, bH, Call.operands, ty3, ty4, ty9, ty22, ty24, ty25, ty34, ty36, ty38, ↓aa _ _ _ _ 1])
set_option maxRecDepth 100000 in
set_option maxHeartbeats 40000000 in
theorem rg_ledger_Check_k7 (C : ak) (k_wire_CheckItem : K_wire_CheckItem C) (p0 : Int) (p1 : List GItem) (p2 : Int) (p3 : GItem) (c : Code) (ho : cr 0 7 b49 = some c) (r : Bool) (hF : ck_ledger_Check_k7 p0 p1 p2 p3 = some r) : aH TT C.wide (evW TT C.wide n49 b49) n49 c ⟨[(3, .v (.i .i64 p0)), (4, .v (.i .i64 0)), (6, .ptr 0 0), (47, .v (.sl 10 (ab GItem.row p1))), (48, .v (.i .i64 p2)), (49, .v (.i .i64 0))], [[.v (.i .i64 p3.fTerm), .v (.i .i64 p3.fTime), .v (.b p3.fNop), .v (.i .i64 p3.fCall.fClient), .v (.i .i64 p3.fCall.fSeq), .v (.i .i64 p3.fCall.fCommand.fKind), .v (.s p3.fCall.fCommand.fKey), .v (.s p3.fCall.fCommand.fField), .v (.s p3.fCall.fCommand.fText), .v (.i .i64 p3.fCall.fCommand.fN)]]⟩ = some (.normal, ⟨[(6, .ptr 0 0), (47, .v (.sl 10 (ab GItem.row p1))), (48, .v (.i .i64 p2)), (49, .v (.i .i64 0)), (67, .v (.b r))], [[.v (.i .i64 p3.fTerm), .v (.i .i64 p3.fTime), .v (.b p3.fNop), .v (.i .i64 p3.fCall.fClient), .v (.i .i64 p3.fCall.fSeq), .v (.i .i64 p3.fCall.fCommand.fKind), .v (.s p3.fCall.fCommand.fKey), .v (.s p3.fCall.fCommand.fField), .v (.s p3.fCall.fCommand.fText), .v (.i .i64 p3.fCall.fCommand.fN)]]⟩) := by
  have e := Option.some.inj (ho.symm.trans (rfl : cr 0 7 b49 = some _))
  subst e
  clear ho
  unfold ck_ledger_Check_k7 at hF
  have g1 : C.wide 56 [.agg [.v (.i .i64 p3.fTerm), .v (.i .i64 p3.fTime), .v (.b p3.fNop), .v (.i .i64 p3.fCall.fClient), .v (.i .i64 p3.fCall.fSeq), .v (.i .i64 p3.fCall.fCommand.fKind), .v (.s p3.fCall.fCommand.fKey), .v (.s p3.fCall.fCommand.fField), .v (.s p3.fCall.fCommand.fText), .v (.i .i64 p3.fCall.fCommand.fN)]] [] = some (.v (.i .i64 (wire_CheckItem_v p3)), []) := k_wire_CheckItem p3 _ (wire_CheckItem_t p3)
  refine aT ((wire_CheckItem_v p3) == 0) ?_ ?_
  focus
    intro h1
    replace hF := ar h1 hF
    have hR := Option.some.inj hF
    clear hF
    subst hR
  rotate_left 1
  intro h1
  replace hF := aq h1 hF
  refine aG (decide (p3.fTerm < p0)) ?_ ?_
  focus
    intro h2
    replace hF := aq h2 hF
    have hR := Option.some.inj hF
    clear hF
    subst hR
  rotate_left 1
  intro h2
  replace hF := ar h2 hF
  have hR := Option.some.inj hF
  clear hF
  subst hR
  all_goals (simp (maxSteps := 4000000) only [*, res49, n49a43t, n49a43f, n49a50t, n49a50f, n49a67t, n49a67f, n49k0, n49k1, n49k2, n49k3, n49k4, n49k5, n49k6, n49k7, n49k8, n49k9, n49k10, n49k11, n49f9, n49ro, n49mv, n49gv, ↓RP, RB, ↓ah, ↓ac, ↓af, ↓ad, ↓ae, enter, aW, aC, aZ, be, aM, Mx.bw, opnd, Mx.bF, Nat.reduceBEq, bK, Mx.fit, bI, bY, toVs, cellsOf, toV, aO, aB, ax, Mx.put, ofConst, ofCell, Mx.prune, killB, killBs, aK, putDst, au, ao, aD, loadAt, bM, List.map, Nat.reduceAdd, Nat.reduceMul, cm, cn, aF, eqC, cg, aN, reduceIte, reduceCtorEq, az, bn, bq, co, bN, bD, aL, bx, lowC, lowP, forceAll, bound, bW, bg, bv, aU, br, kill, spendLoc, spendOk, setOwn, dropAl, dropAls, bG, bP, bd, cb, lend, lendA, aS, ay, bU, bL, bare, bQ, frz, bZ, bo, argE, argsE, bB, bT, fill, setCells, bR, takeParts, bp, aR, ownAt, Nat.reduceBNe, Nat.reduceSub, Nat.reduceLT, Nat.reduceLeDiff, lowA, bi, bJ, av, aJ, aX, bX, bO, bE, bS, ce, bV, bk, aI, bh, bj, bf, cd, Op.operands, Int.reduceBEq, Int.reduceLT, Int.reduceLE, Int.reduceNeg, Int.reduceBNe, bl, newB, ch, ck, cj, bne, ↓aj, ↓ai, bc, aP, bm, bu, aE, bH, Call.operands, ty3, ty4, ty9, ty22, ty24, ty25, ty34, ty36, ty38, ↓aa _ _ _ _ 7])
set_option maxRecDepth 100000 in
set_option maxHeartbeats 40000000 in
theorem rg_ledger_Check_k7v2 (C : ak) (k_wire_CheckItem : K_wire_CheckItem C) (p0 : Int) (p1 : Int) (p2 : List GItem) (p3 : Int) (p4 : Int) (p5 : GItem) (c : Code) (ho : cr 0 7 b49 = some c) (r : Bool) (hF : ck_ledger_Check_k7v2 p0 p1 p2 p3 p4 p5 = some r) : aH TT C.wide (evW TT C.wide n49 b49) n49 c ⟨[(3, .v (.i .i64 p0)), (4, .v (.i .i64 p1)), (6, .ptr 0 0), (47, .v (.sl 10 (ab GItem.row p2))), (48, .v (.i .i64 p3)), (49, .v (.i .i64 p4))], [[.v (.i .i64 p5.fTerm), .v (.i .i64 p5.fTime), .v (.b p5.fNop), .v (.i .i64 p5.fCall.fClient), .v (.i .i64 p5.fCall.fSeq), .v (.i .i64 p5.fCall.fCommand.fKind), .v (.s p5.fCall.fCommand.fKey), .v (.s p5.fCall.fCommand.fField), .v (.s p5.fCall.fCommand.fText), .v (.i .i64 p5.fCall.fCommand.fN)]]⟩ = some (.normal, ⟨[(6, .ptr 0 0), (47, .v (.sl 10 (ab GItem.row p2))), (48, .v (.i .i64 p3)), (49, .v (.i .i64 p4)), (67, .v (.b r))], [[.v (.i .i64 p5.fTerm), .v (.i .i64 p5.fTime), .v (.b p5.fNop), .v (.i .i64 p5.fCall.fClient), .v (.i .i64 p5.fCall.fSeq), .v (.i .i64 p5.fCall.fCommand.fKind), .v (.s p5.fCall.fCommand.fKey), .v (.s p5.fCall.fCommand.fField), .v (.s p5.fCall.fCommand.fText), .v (.i .i64 p5.fCall.fCommand.fN)]]⟩) := by
  have e := Option.some.inj (ho.symm.trans (rfl : cr 0 7 b49 = some _))
  subst e
  clear ho
  unfold ck_ledger_Check_k7v2 at hF
  have g1 : C.wide 56 [.agg [.v (.i .i64 p5.fTerm), .v (.i .i64 p5.fTime), .v (.b p5.fNop), .v (.i .i64 p5.fCall.fClient), .v (.i .i64 p5.fCall.fSeq), .v (.i .i64 p5.fCall.fCommand.fKind), .v (.s p5.fCall.fCommand.fKey), .v (.s p5.fCall.fCommand.fField), .v (.s p5.fCall.fCommand.fText), .v (.i .i64 p5.fCall.fCommand.fN)]] [] = some (.v (.i .i64 (wire_CheckItem_v p5)), []) := k_wire_CheckItem p5 _ (wire_CheckItem_t p5)
  refine aT ((wire_CheckItem_v p5) == 0) ?_ ?_
  focus
    intro h1
    replace hF := ar h1 hF
    have hR := Option.some.inj hF
    clear hF
    subst hR
  rotate_left 1
  intro h1
  replace hF := aq h1 hF
  refine aG (decide (p5.fTerm < p0)) ?_ ?_
  focus
    intro h2
    replace hF := aq h2 hF
    have hR := Option.some.inj hF
    clear hF
    subst hR
  rotate_left 1
  intro h2
  replace hF := ar h2 hF
  have hR := Option.some.inj hF
  clear hF
  subst hR
  all_goals (simp (maxSteps := 4000000) only [*, res49, n49a43t, n49a43f, n49a50t, n49a50f, n49a67t, n49a67f, n49k0, n49k1, n49k2, n49k3, n49k4, n49k5, n49k6, n49k7, n49k8, n49k9, n49k10, n49k11, n49f9, n49ro, n49mv, n49gv, ↓RP, RB, ↓ah, ↓ac, ↓af, ↓ad, ↓ae, enter, aW, aC, aZ, be, aM, Mx.bw, opnd, Mx.bF, Nat.reduceBEq, bK, Mx.fit, bI, bY, toVs, cellsOf, toV, aO, aB, ax, Mx.put, ofConst, ofCell, Mx.prune, killB, killBs, aK, putDst, au, ao, aD, loadAt, bM, List.map, Nat.reduceAdd, Nat.reduceMul, cm, cn, aF, eqC, cg, aN, reduceIte, reduceCtorEq, az, bn, bq, co, bN, bD, aL, bx, lowC, lowP, forceAll, bound, bW, bg, bv, aU, br, kill, spendLoc, spendOk, setOwn, dropAl, dropAls, bG, bP, bd, cb, lend, lendA, aS, ay, bU, bL, bare, bQ, frz, bZ, bo, argE, argsE, bB, bT, fill, setCells, bR, takeParts, bp, aR, ownAt, Nat.reduceBNe, Nat.reduceSub, Nat.reduceLT, Nat.reduceLeDiff, lowA, bi, bJ, av, aJ, aX, bX, bO, bE, bS, ce, bV, bk, aI, bh, bj, bf, cd, Op.operands, Int.reduceBEq, Int.reduceLT, Int.reduceLE, Int.reduceNeg, Int.reduceBNe, bl, newB, ch, ck, cj, bne, ↓aj, ↓ai, bc, aP, bm, bu, aE, bH, Call.operands, ty3, ty4, ty9, ty22, ty24, ty25, ty34, ty36, ty38, ↓aa _ _ _ _ 7])
def hd_ledger_Check_0 (p2 : List GItem) (p3 : Int) (s : Int × Int × Int) : St := ⟨[(3, .v (.i .i64 s.1)), (4, .v (.i .i64 s.2.1)), (47, .v (.sl 10 (ab GItem.row p2))), (48, .v (.i .i64 p3)), (49, .v (.i .i64 s.2.2))], []⟩
def ou_ledger_Check_0 (p2 : List GItem) (p3 : Int) (r : GItem ⊕ Unit) : Option (Ex × St) := match r with
  | .inl r => some (.ret, ⟨[(2, .v (.i .i64 13))], [[.v (.i .i64 r.fTerm), .v (.i .i64 r.fTime), .v (.b r.fNop), .v (.i .i64 r.fCall.fClient), .v (.i .i64 r.fCall.fSeq), .v (.i .i64 r.fCall.fCommand.fKind), .v (.s r.fCall.fCommand.fKey), .v (.s r.fCall.fCommand.fField), .v (.s r.fCall.fCommand.fText), .v (.i .i64 r.fCall.fCommand.fN)]]⟩)
  | .inr r => some (.normal, ⟨[], []⟩)

set_option maxRecDepth 100000 in
set_option maxHeartbeats 40000000 in
theorem sl_ledger_Check_0 (C : ak) (k_wire_CheckItem : K_wire_CheckItem C) (p2 : List GItem) (p3 : Int) (s : Int × Int × Int) (o : (Int × Int × Int) ⊕ (GItem ⊕ Unit)) (hF : st_ledger_Check_0 p2 p3 s = some o) : evW TT C.wide n49 b49 0 (hd_ledger_Check_0 p2 p3 s) = Sum.elim (fun s => evW TT C.wide n49 b49 0 (hd_ledger_Check_0 p2 p3 s)) (fun r => ou_ledger_Check_0 p2 p3 r) o := by
  obtain ⟨p0, p1, p4⟩ := s
  unfold st_ledger_Check_0 at hF
  try dsimp only at hF
  rw [ct TT n49 fl49_0]
  refine aT (decide (p4 < p3)) ?_ ?_
  focus
    intro h1
    replace hF := ar h1 hF
    have hR := Option.some.inj hF
    clear hF
    subst hR
  rotate_left 1
  intro h1
  replace hF := aq h1 hF
  revert hF
  cases h2 : idx p2 p4
  focus
    intro hF
    cases hF
  rename_i x1
  intro hF
  try dsimp only at hF
  have g1 : decide (0 ≤ p4) = true := (cc h2).1
  have g2 : (ab GItem.row p2)[(p4 : Int).toNat]? = some [.i .i64 x1.fTerm, .i .i64 x1.fTime, .b x1.fNop, .i .i64 x1.fCall.fClient, .i .i64 x1.fCall.fSeq, .i .i64 x1.fCall.fCommand.fKind, .s x1.fCall.fCommand.fKey, .s x1.fCall.fCommand.fField, .s x1.fCall.fCommand.fText, .i .i64 x1.fCall.fCommand.fN] := ca _ h2
  have g3 : @cR TT C.wide (evW TT C.wide n49 b49) n49 0 7 ⟨[(3, .v (.i .i64 p0)), (4, .v (.i .i64 p1)), (6, .ptr 0 0), (47, .v (.sl 10 (ab GItem.row p2))), (48, .v (.i .i64 p3)), (49, .v (.i .i64 p4))], [[.v (.i .i64 x1.fTerm), .v (.i .i64 x1.fTime), .v (.b x1.fNop), .v (.i .i64 x1.fCall.fClient), .v (.i .i64 x1.fCall.fSeq), .v (.i .i64 x1.fCall.fCommand.fKind), .v (.s x1.fCall.fCommand.fKey), .v (.s x1.fCall.fCommand.fField), .v (.s x1.fCall.fCommand.fText), .v (.i .i64 x1.fCall.fCommand.fN)]]⟩ ⟨_⟩ = some (.normal, ⟨[(6, .ptr 0 0), (47, .v (.sl 10 (ab GItem.row p2))), (48, .v (.i .i64 p3)), (49, .v (.i .i64 p4)), (67, .v (.b (ck_ledger_Check_k7v2_v p0 p1 p2 p3 p4 x1)))], [[.v (.i .i64 x1.fTerm), .v (.i .i64 x1.fTime), .v (.b x1.fNop), .v (.i .i64 x1.fCall.fClient), .v (.i .i64 x1.fCall.fSeq), .v (.i .i64 x1.fCall.fCommand.fKind), .v (.s x1.fCall.fCommand.fKey), .v (.s x1.fCall.fCommand.fField), .v (.s x1.fCall.fCommand.fText), .v (.i .i64 x1.fCall.fCommand.fN)]]⟩) := rg_ledger_Check_k7v2 C k_wire_CheckItem p0 p1 p2 p3 p4 x1 _ rfl (ck_ledger_Check_k7v2_v p0 p1 p2 p3 p4 x1) (ck_ledger_Check_k7v2_t p0 p1 p2 p3 p4 x1)
  refine aG (ck_ledger_Check_k7v2_v p0 p1 p2 p3 p4 x1) ?_ ?_
  focus
    intro h3
    replace hF := aq h3 hF
    have hR := Option.some.inj hF
    clear hF
    subst hR
  rotate_left 1
  intro h3
  replace hF := ar h3 hF
  have hR := Option.some.inj hF
  clear hF
  subst hR
  all_goals (show cD _ _ _ (aH _ _ _ _ (Code.seq _ _) _) = _; simp (maxSteps := 4000000) only [*, hd_ledger_Check_0, ou_ledger_Check_0, res49, n49a43t, n49a43f, n49a50t, n49a50f, n49a67t, n49a67f, n49k0, n49k1, n49k2, n49k3, n49k4, n49k5, n49k6, n49k7, n49k8, n49k9, n49k10, n49k11, n49f9, n49ro, n49mv, n49gv, ↓RP, RB, ↓ah, ↓ac, ↓af, ↓ad, ↓ae, enter, aW, aC, aZ, be, aM, Mx.bw, opnd, Mx.bF, Nat.reduceBEq, bK, Mx.fit, bI, bY, toVs, cellsOf, toV, aO, aB, ax, Mx.put, ofConst, ofCell, Mx.prune, killB, killBs, aK, putDst, au, ao, aD, loadAt, bM, List.map, Nat.reduceAdd, Nat.reduceMul, cm, cn, aF, eqC, cg, aN, reduceIte, reduceCtorEq, az, bn, bq, co, bN, bD, aL, bx, lowC, lowP, forceAll, bound, bW, bg, bv, aU, br, kill, spendLoc, spendOk, setOwn, dropAl, dropAls, bG, bP, bd, cb, lend, lendA, aS, ay, bU, bL, bare, bQ, frz, bZ, bo, argE, argsE, bB, bT, fill, setCells, bR, takeParts, bp, aR, ownAt, Nat.reduceBNe, Nat.reduceSub, Nat.reduceLT, Nat.reduceLeDiff, lowA, bi, bJ, av, aJ, aX, bX, bO, bE, bS, ce, bV, bk, aI, bh, bj, bf, cd, Op.operands, Int.reduceBEq, Int.reduceLT, Int.reduceLE, Int.reduceNeg, Int.reduceBNe, bl, newB, ch, ck, cj, bne, ↓aj, ↓ai, bc, aP, bm, bu, aE, bH, Call.operands, ty3, ty4, ty9, ty22, ty24, ty25, ty34, ty36, ty38, ↓aa _ _ _ _ 0, ↓bC _ _ _ _ 1, ↓aa _ _ _ _ 2, ↓aa _ _ _ _ 3, ↓aa _ _ _ _ 4, ↓aa _ _ _ _ 5, ↓aa _ _ _ _ 6, ↓bC _ _ _ _ 7, ↓aa _ _ _ _ 8, ↓am _ _ _ _ 9, ↓aa _ _ _ _ 10, ↓aa _ _ _ _ 11])
set_option maxRecDepth 100000 in
set_option maxHeartbeats 40000000 in
theorem r_ledger_Check (C : ak) (k_wire_CheckItem : K_wire_CheckItem C) (p0 : GLog) (r : Int) (hF : ledger_Check p0 = some r) : cF TT C.wide (evW TT C.wide n49 b49) n49 Try.f49.results.toList (aQ Try.f49) [.agg [.v (.i .i64 p0.fBase), .v (.i .i64 p0.fBaseTerm), .v (.sl 10 (ab GItem.row p0.fItems))]] [] = some (.v (.i .i64 r), []) := by
  unfold ledger_Check at hF
  have g1 : @cR TT C.wide (evW TT C.wide n49 b49) n49 0 1 ⟨[(1, .rp [.i .i64 p0.fBase, .i .i64 p0.fBaseTerm, .sl 10 (ab GItem.row p0.fItems)])], []⟩ ⟨_⟩ = some (.normal, ⟨[(1, .rp [.i .i64 p0.fBase, .i .i64 p0.fBaseTerm, .sl 10 (ab GItem.row p0.fItems)]), (43, .v (.b (ck_ledger_Check_k1_v p0)))], []⟩) := rg_ledger_Check_k1 C p0 _ rfl (ck_ledger_Check_k1_v p0) (ck_ledger_Check_k1_t p0)
  refine aG (ck_ledger_Check_k1_v p0) ?_ ?_
  focus
    intro h1
    replace hF := aq h1 hF
    have hR := Option.some.inj hF
    clear hF
    subst hR
  rotate_left 1
  intro h1
  replace hF := ar h1 hF
  revert hF
  cases h2 : ci (st_ledger_Check_0 p0.fItems (p0.fItems.length : Int)) (p0.fBaseTerm, 0, 0)
  focus
    intro hF
    cases hF
  rename_i qh2
  cases qh2
  focus
    rename_i z0h2
    revert z0h2
    intro x1 h2
    intro hF
    try dsimp only at hF
    have g2 : evW TT C.wide n49 b49 0 ⟨[(3, .v (.i .i64 p0.fBaseTerm)), (4, .v (.i .i64 0)), (47, .v (.sl 10 (ab GItem.row p0.fItems))), (48, .v (.i .i64 (p0.fItems.length : Int))), (49, .v (.i .i64 0))], []⟩ = some (.ret, ⟨[(2, .v (.i .i64 13))], [[.v (.i .i64 x1.fTerm), .v (.i .i64 x1.fTime), .v (.b x1.fNop), .v (.i .i64 x1.fCall.fClient), .v (.i .i64 x1.fCall.fSeq), .v (.i .i64 x1.fCall.fCommand.fKind), .v (.s x1.fCall.fCommand.fKey), .v (.s x1.fCall.fCommand.fField), .v (.s x1.fCall.fCommand.fText), .v (.i .i64 x1.fCall.fCommand.fN)]]⟩) := cy (hd_ledger_Check_0 p0.fItems (p0.fItems.length : Int)) (ou_ledger_Check_0 p0.fItems (p0.fItems.length : Int)) (fun s o hs => sl_ledger_Check_0 C k_wire_CheckItem p0.fItems (p0.fItems.length : Int) s o hs) h2
    have hR := Option.some.inj hF
    clear hF
    subst hR
  rotate_left 1
  rename_i y0h2
  intro hF
  try dsimp only at hF
  have g3 : evW TT C.wide n49 b49 0 ⟨[(3, .v (.i .i64 p0.fBaseTerm)), (4, .v (.i .i64 0)), (47, .v (.sl 10 (ab GItem.row p0.fItems))), (48, .v (.i .i64 (p0.fItems.length : Int))), (49, .v (.i .i64 0))], []⟩ = some (.normal, ⟨[], []⟩) := cy (hd_ledger_Check_0 p0.fItems (p0.fItems.length : Int)) (ou_ledger_Check_0 p0.fItems (p0.fItems.length : Int)) (fun s o hs => sl_ledger_Check_0 C k_wire_CheckItem p0.fItems (p0.fItems.length : Int) s o hs) h2
  have hR := Option.some.inj hF
  clear hF
  subst hR
  all_goals (rw [ba]; show cp _ _ _ (aH _ _ _ _ (Code.seq _ _) _) = _; simp (maxSteps := 4000000) only [*, res49, n49a43t, n49a43f, n49a50t, n49a50f, n49a67t, n49a67f, n49k0, n49k1, n49k2, n49k3, n49k4, n49k5, n49k6, n49k7, n49k8, n49k9, n49k10, n49k11, n49f9, n49ro, n49mv, n49gv, ↓RP, RB, ↓ah, ↓ac, ↓af, ↓ad, ↓ae, enter, aW, aC, aZ, be, aM, Mx.bw, opnd, Mx.bF, Nat.reduceBEq, bK, Mx.fit, bI, bY, toVs, cellsOf, toV, aO, aB, ax, Mx.put, ofConst, ofCell, Mx.prune, killB, killBs, aK, putDst, au, ao, aD, loadAt, bM, List.map, Nat.reduceAdd, Nat.reduceMul, cm, cn, aF, eqC, cg, aN, reduceIte, reduceCtorEq, az, bn, bq, co, bN, bD, aL, bx, lowC, lowP, forceAll, bound, bW, bg, bv, aU, br, kill, spendLoc, spendOk, setOwn, dropAl, dropAls, bG, bP, bd, cb, lend, lendA, aS, ay, bU, bL, bare, bQ, frz, bZ, bo, argE, argsE, bB, bT, fill, setCells, bR, takeParts, bp, aR, ownAt, Nat.reduceBNe, Nat.reduceSub, Nat.reduceLT, Nat.reduceLeDiff, lowA, bi, bJ, av, aJ, aX, bX, bO, bE, bS, ce, bV, bk, aI, bh, bj, bf, cd, Op.operands, Int.reduceBEq, Int.reduceLT, Int.reduceLE, Int.reduceNeg, Int.reduceBNe, bl, newB, ch, ck, cj, bne, ↓aj, ↓ai, bc, aP, bm, bu, aE, bH, Call.operands, ty3, ty4, ty9, ty22, ty24, ty25, ty34, ty36, ty38, ↓aa _ _ _ _ 0, ↓bC _ _ _ _ 1, ↓aa _ _ _ _ 2, ↓aa _ _ _ _ 3, ↓aa _ _ _ _ 4, ↓aa _ _ _ _ 5, ↓aa _ _ _ _ 6, ↓bC _ _ _ _ 7, ↓aa _ _ _ _ 8, ↓am _ _ _ _ 9, ↓aa _ _ _ _ 10, ↓aa _ _ _ _ 11])
def n60 : cC where
  keep := fun i => match i with
    | 0 => [0]
    | 1 => [0, 4]
    | 2 => [2, 7]
    | 3 => [2, 7]
    | _ => []
  ro := fun _ => false
  mv := fun _ => false
  give := fun _ => false
  free := fun _ => []
  alive := fun i x => match i, x with
    | 4, true => some []
    | 4, false => some [0]
    | _, _ => none
theorem n60a4t (e : Env) (S : aA) : aw n60 4 true ⟨e, S⟩ = ⟨prune [] e, S⟩ := rfl
theorem n60a4f (e : Env) (S : aA) : aw n60 4 false ⟨e, S⟩ = ⟨prune [0] e, S⟩ := rfl
theorem n60k0 : n60.keep 0 = [0] := rfl
theorem n60k1 : n60.keep 1 = [0, 4] := rfl
theorem n60k2 : n60.keep 2 = [2, 7] := rfl
theorem n60k3 : n60.keep 3 = [2, 7] := rfl
theorem n60ro (t : Nat) : n60.ro t = (false) := rfl
theorem n60mv (t : Nat) : n60.mv t = (false) := rfl
theorem n60gv (t : Nat) : n60.give t = (false) := rfl
theorem res60 : Try.f60.results.toList = [.tmp 2] := rfl
noncomputable def b60 : Code := aQ Try.f60
set_option maxRecDepth 100000 in
theorem q0_slices_Clone_Item_Item_z (C : ak) (l : List (List V)) (h : cH l.length 104 = true) : dp TT C n60 (aQ Try.f60) ⟨enter 0 [.v (.sl 10 l)], []⟩ (Back TT 0 Try.f60.results.toList (.own 10 l) []) := by
  cases l with
  | nil =>
    simp only [List.length_nil] at h
    simp only [h, Try.f60, res60, n60a4t, n60a4f, n60k0, n60k1, n60k2, n60k3, n60ro, n60mv, n60gv, ba, aQ, Option.getD_some, ↓evCode_seq, ↓evCode_region, ↓evCode_condC, ↓evCode_skip, ↓evCode_ret, ↓evCode_exit, ↓evCode_loop, ↓ah, ↓ac, ↓af, ↓ad, ↓ae, ↓cond_true, ↓cond_false, enter, List.toList_toArray, ↓evRegion_f, ↓evRegion_t, Bool.false_and, cond_false, evOps, aW, aC, aZ, cond_true, be, aM, Mx.bw, opnd, Mx.bF, Nat.reduceBEq, bK, Mx.fit, bI, bY, List.isEmpty_cons, List.isEmpty_nil, Bool.false_or, Bool.or_false, Bool.true_or, Bool.or_true, Bool.and_true, Bool.true_and, Bool.and_false, Bool.not_true, Bool.not_false, Bool.not_not, Bool.or_not_self, Bool.not_or_self, Bool.and_self, Bool.or_self, toVs, cellsOf, toV, setReg_m, spend_m, aO, aB, List.all_cons, List.all_nil, ax, Mx.put, ofConst, ofCell, after_some, Mx.prune, List.map_cons, List.map_nil, killB, killBs, andThen_normal, andThen_ret, andThen_exit, andThen_bif, after_bif, branchC_b, unblock_normal, unblock_ret, unblock_exit, unblock_bif, aK, putDst, offReg_m, au, ao, Option.isNone_none, Option.isNone_some, Option.isSome_none, Option.isSome_some, aD, loadAt, bM, List.length_cons, List.length_nil, List.map, List.drop_succ_cons, List.drop_zero, List.take_succ_cons, List.take_zero, List.take_nil, List.drop_nil, List.getElem?_cons_zero, List.getElem?_cons_succ, List.getElem?_nil, Nat.reduceAdd, Nat.reduceMul, Nat.zero_add, Nat.add_zero, cm, cn, aF, eqC, cg, aN, ite_true, if_true, eq_self, reduceIte, reduceCtorEq, finish_ret, finish_normal, finish_bif, az, bn, bq, co, bN, bD, aL, bx, lowC, lowP, List.take_zero, List.length_nil, forceAll, bound, bW, bg, bv, aU, br, kill, spendLoc, spendOk, setOwn, dropAl, dropAls, bG, bP, bd, cb, List.contains_cons, List.contains_nil, List.elem_cons, List.elem_nil, lend, lendA, aS, ay, noSl, bU, noSlC, bL, bare, bQ, List.any_cons, List.any_nil, frz, bZ, frzReg_m, bo, argE, argsE, bB, bT, fill, setCells, bR, takeParts, bp, aR, ownAt, List.set_cons_zero, List.set_cons_succ, List.nil_append, List.cons_append, List.append_nil, Nat.reduceBNe, Nat.reduceSub, Nat.reduceLT, Nat.reduceLeDiff, decide_true, decide_false, List.length_append, List.append_assoc, List.concat_eq_append, List.getElem?_append_right, List.singleton_append, Int.cast_ofNat_Int, again_norm, againN_some, trunc_m, lowA, bi, again_ret, again_exit, again_bif, beq_self_eq_true, bz, List.map_append, List.length_map, Bool.cond_true_left, Bool.cond_false_right, Bool.cond_false_left, Bool.cond_true_right, ge_iff_le, gt_iff_lt, bJ, av, aJ, aX, bX, bO, bE, bS, ce, bV, bk, aI, bh, bj, bf, cd, List.getD_cons_zero, List.getD_cons_succ, Op.operands, Bool.not_eq_true, Option.map_some, Option.map_none, Int.reduceBEq, Int.reduceLT, Int.reduceLE, Int.reduceNeg, Bool.decide_eq_true, Int.reduceBNe, pickOk_n, pickOk_p, pickOk_tn, pickOk_tp, pickOk_f, pickOk_x, pickOk_h, pickOk_g, bl, cond_nest_t, cond_nest_f, cond_same, stepOp_w, ck, cj, gx_t, gx_f, ty3, ty4, ty9, ty22, ty34, ty36, ty38, dp, AllOps, nilOuts, Back, List.forall_mem_cons, List.mem_cons, List.not_mem_nil, forall_eq_or_imp, forall_eq, exists_eq_left', Option.some.injEq, false_or, true_or, or_true, or_false, and_true, true_and, forall_const, implies_true, false_imp_iff, true_imp_iff]
  | cons x l =>
    simp only [List.length_cons] at h
    simp only [h, Try.f60, res60, n60a4t, n60a4f, n60k0, n60k1, n60k2, n60k3, n60ro, n60mv, n60gv, ba, aQ, Option.getD_some, ↓evCode_seq, ↓evCode_region, ↓evCode_condC, ↓evCode_skip, ↓evCode_ret, ↓evCode_exit, ↓evCode_loop, ↓ah, ↓ac, ↓af, ↓ad, ↓ae, ↓cond_true, ↓cond_false, enter, List.toList_toArray, ↓evRegion_f, ↓evRegion_t, Bool.false_and, cond_false, evOps, aW, aC, aZ, cond_true, be, aM, Mx.bw, opnd, Mx.bF, Nat.reduceBEq, bK, Mx.fit, bI, bY, List.isEmpty_cons, List.isEmpty_nil, Bool.false_or, Bool.or_false, Bool.true_or, Bool.or_true, Bool.and_true, Bool.true_and, Bool.and_false, Bool.not_true, Bool.not_false, Bool.not_not, Bool.or_not_self, Bool.not_or_self, Bool.and_self, Bool.or_self, toVs, cellsOf, toV, setReg_m, spend_m, aO, aB, List.all_cons, List.all_nil, ax, Mx.put, ofConst, ofCell, after_some, Mx.prune, List.map_cons, List.map_nil, killB, killBs, andThen_normal, andThen_ret, andThen_exit, andThen_bif, after_bif, branchC_b, unblock_normal, unblock_ret, unblock_exit, unblock_bif, aK, putDst, offReg_m, au, ao, Option.isNone_none, Option.isNone_some, Option.isSome_none, Option.isSome_some, aD, loadAt, bM, List.length_cons, List.length_nil, List.map, List.drop_succ_cons, List.drop_zero, List.take_succ_cons, List.take_zero, List.take_nil, List.drop_nil, List.getElem?_cons_zero, List.getElem?_cons_succ, List.getElem?_nil, Nat.reduceAdd, Nat.reduceMul, Nat.zero_add, Nat.add_zero, cm, cn, aF, eqC, cg, aN, ite_true, if_true, eq_self, reduceIte, reduceCtorEq, finish_ret, finish_normal, finish_bif, az, bn, bq, co, bN, bD, aL, bx, lowC, lowP, List.take_zero, List.length_nil, forceAll, bound, bW, bg, bv, aU, br, kill, spendLoc, spendOk, setOwn, dropAl, dropAls, bG, bP, bd, cb, List.contains_cons, List.contains_nil, List.elem_cons, List.elem_nil, lend, lendA, aS, ay, noSl, bU, noSlC, bL, bare, bQ, List.any_cons, List.any_nil, frz, bZ, frzReg_m, bo, argE, argsE, bB, bT, fill, setCells, bR, takeParts, bp, aR, ownAt, List.set_cons_zero, List.set_cons_succ, List.nil_append, List.cons_append, List.append_nil, Nat.reduceBNe, Nat.reduceSub, Nat.reduceLT, Nat.reduceLeDiff, decide_true, decide_false, List.length_append, List.append_assoc, List.concat_eq_append, List.getElem?_append_right, List.singleton_append, Int.cast_ofNat_Int, again_norm, againN_some, trunc_m, lowA, bi, again_ret, again_exit, again_bif, beq_self_eq_true, bz, List.map_append, List.length_map, Bool.cond_true_left, Bool.cond_false_right, Bool.cond_false_left, Bool.cond_true_right, ge_iff_le, gt_iff_lt, bJ, av, aJ, aX, bX, bO, bE, bS, ce, bV, bk, aI, bh, bj, bf, cd, List.getD_cons_zero, List.getD_cons_succ, Op.operands, Bool.not_eq_true, Option.map_some, Option.map_none, Int.reduceBEq, Int.reduceLT, Int.reduceLE, Int.reduceNeg, Bool.decide_eq_true, Int.reduceBNe, pickOk_n, pickOk_p, pickOk_tn, pickOk_tp, pickOk_f, pickOk_x, pickOk_h, pickOk_g, bl, cond_nest_t, cond_nest_f, cond_same, stepOp_w, ck, cj, gx_t, gx_f, ty3, ty4, ty9, ty22, ty34, ty36, ty38, dp, AllOps, nilOuts, Back, List.forall_mem_cons, List.mem_cons, List.not_mem_nil, forall_eq_or_imp, forall_eq, exists_eq_left', Option.some.injEq, false_or, true_or, or_true, or_false, and_true, true_and, forall_const, implies_true, false_imp_iff, true_imp_iff]
theorem q_slices_Clone_Item_Item_z (C : ak) (l r : List GItem) (h : slices_Clone_Item_Item_z l = some r) : dp TT C n60 (aQ Try.f60) ⟨enter 0 [.v (.sl 10 (ab GItem.row l))], []⟩ (Back TT 0 Try.f60.results.toList (.own 10 (ab GItem.row r)) []) := by
  unfold slices_Clone_Item_Item_z at h
  cases hq : cH l.length 104 with
  | false => rw [hq] at h; cases h
  | true =>
    rw [hq, cond_true] at h
    obtain rfl := Option.some.inj h
    exact q0_slices_Clone_Item_Item_z C _ (by rw [mapR_len]; exact hq)
/-! ### ledger.term -/
def n54 : cC where
  keep := fun i => match i with
    | 0 => [1, 2]
    | 1 => [1, 2, 6]
    | 2 => [4, 5]
    | 3 => [1, 2, 11]
    | 4 => [4, 5]
    | 5 => [1, 2, 18]
    | 6 => [4, 5]
    | 7 => [4, 5]
    | _ => []
  ro := fun t => t == 2
  mv := fun _ => false
  give := fun _ => false
  free := fun _ => []
  alive := fun i x => match i, x with
    | 6, true => some []
    | 6, false => some [1, 2]
    | 11, true => some [2]
    | 11, false => some [1, 2]
    | 18, true => some []
    | 18, false => some [1, 2]
    | _, _ => none
theorem n54a6t (e : Env) (S : aA) : aw n54 6 true ⟨e, S⟩ = ⟨prune [] e, S⟩ := rfl
theorem n54a6f (e : Env) (S : aA) : aw n54 6 false ⟨e, S⟩ = ⟨prune [1, 2] e, S⟩ := rfl
theorem n54a11t (e : Env) (S : aA) : aw n54 11 true ⟨e, S⟩ = ⟨prune [2] e, S⟩ := rfl
theorem n54a11f (e : Env) (S : aA) : aw n54 11 false ⟨e, S⟩ = ⟨prune [1, 2] e, S⟩ := rfl
theorem n54a18t (e : Env) (S : aA) : aw n54 18 true ⟨e, S⟩ = ⟨prune [] e, S⟩ := rfl
theorem n54a18f (e : Env) (S : aA) : aw n54 18 false ⟨e, S⟩ = ⟨prune [1, 2] e, S⟩ := rfl
theorem n54k0 : n54.keep 0 = [1, 2] := rfl
theorem n54k1 : n54.keep 1 = [1, 2, 6] := rfl
theorem n54k2 : n54.keep 2 = [4, 5] := rfl
theorem n54k3 : n54.keep 3 = [1, 2, 11] := rfl
theorem n54k4 : n54.keep 4 = [4, 5] := rfl
theorem n54k5 : n54.keep 5 = [1, 2, 18] := rfl
theorem n54k6 : n54.keep 6 = [4, 5] := rfl
theorem n54k7 : n54.keep 7 = [4, 5] := rfl
theorem n54ro (t : Nat) : n54.ro t = (t == 2) := rfl
theorem n54mv (t : Nat) : n54.mv t = (false) := rfl
theorem n54gv (t : Nat) : n54.give t = (false) := rfl
theorem res54 : Try.f54.results.toList = [.tmp 4, .tmp 5] := rfl
noncomputable def b54 : Code := aQ Try.f54
set_option maxRecDepth 100000 in
set_option maxHeartbeats 40000000 in
theorem r_ledger_term (C : ak)  (p0 : GLog) (p1 : Int) (r : Int × Int) (hF : ledger_term p0 p1 = some r) : cF TT C.wide (evW TT C.wide n54 b54) n54 Try.f54.results.toList (aQ Try.f54) [.agg [.v (.i .i64 p0.fBase), .v (.i .i64 p0.fBaseTerm), .v (.sl 10 (ab GItem.row p0.fItems))], .v (.i .i64 p1)] [] = some (.tup [.v (.i .i64 r.1), .v (.i .i64 r.2)], []) := by
  unfold ledger_term at hF
  refine aG (decide (p1 < p0.fBase)) ?_ ?_
  focus
    intro h1
    replace hF := aq h1 hF
    have hR := Option.some.inj hF
    clear hF
    subst hR
  rotate_left 1
  intro h1
  replace hF := ar h1 hF
  refine aG (p1 == p0.fBase) ?_ ?_
  focus
    intro h2
    replace hF := aq h2 hF
    have hR := Option.some.inj hF
    clear hF
    subst hR
  rotate_left 1
  intro h2
  replace hF := ar h2 hF
  refine aG (decide ((p0.fItems.length : Int) < (IntKind.i64.wrap (p1 - p0.fBase)))) ?_ ?_
  focus
    intro h3
    replace hF := aq h3 hF
    have hR := Option.some.inj hF
    clear hF
    subst hR
  rotate_left 1
  intro h3
  replace hF := ar h3 hF
  revert hF
  cases h4 : idx p0.fItems (IntKind.i64.wrap ((IntKind.i64.wrap (p1 - p0.fBase)) - 1))
  focus
    intro hF
    cases hF
  rename_i x1
  intro hF
  try dsimp only at hF
  have g1 : decide (0 ≤ (IntKind.i64.wrap ((IntKind.i64.wrap (p1 - p0.fBase)) - 1))) = true := (cc h4).1
  have g2 : (ab GItem.row p0.fItems)[((IntKind.i64.wrap ((IntKind.i64.wrap (p1 - p0.fBase)) - 1)) : Int).toNat]? = some [.i .i64 x1.fTerm, .i .i64 x1.fTime, .b x1.fNop, .i .i64 x1.fCall.fClient, .i .i64 x1.fCall.fSeq, .i .i64 x1.fCall.fCommand.fKind, .s x1.fCall.fCommand.fKey, .s x1.fCall.fCommand.fField, .s x1.fCall.fCommand.fText, .i .i64 x1.fCall.fCommand.fN] := ca _ h4
  have hR := Option.some.inj hF
  clear hF
  subst hR
  all_goals (rw [ba]; show cp _ _ _ (aH _ _ _ _ (Code.seq _ _) _) = _; simp (maxSteps := 4000000) only [*, res54, n54a6t, n54a6f, n54a11t, n54a11f, n54a18t, n54a18f, n54k0, n54k1, n54k2, n54k3, n54k4, n54k5, n54k6, n54k7, n54ro, n54mv, n54gv, ↓RP, RB, ↓ah, ↓ac, ↓af, ↓ad, ↓ae, enter, aW, aC, aZ, be, aM, Mx.bw, opnd, Mx.bF, Nat.reduceBEq, bK, Mx.fit, bI, bY, toVs, cellsOf, toV, aO, aB, ax, Mx.put, ofConst, ofCell, Mx.prune, killB, killBs, aK, putDst, au, ao, aD, loadAt, bM, List.map, Nat.reduceAdd, Nat.reduceMul, cm, cn, aF, eqC, cg, aN, reduceIte, reduceCtorEq, az, bn, bq, co, bN, bD, aL, bx, lowC, lowP, forceAll, bound, bW, bg, bv, aU, br, kill, spendLoc, spendOk, setOwn, dropAl, dropAls, bG, bP, bd, cb, lend, lendA, aS, ay, bU, bL, bare, bQ, frz, bZ, bo, argE, argsE, bB, bT, fill, setCells, bR, takeParts, bp, aR, ownAt, Nat.reduceBNe, Nat.reduceSub, Nat.reduceLT, Nat.reduceLeDiff, lowA, bi, bJ, av, aJ, aX, bX, bO, bE, bS, ce, bV, bk, aI, bh, bj, bf, cd, Op.operands, Int.reduceBEq, Int.reduceLT, Int.reduceLE, Int.reduceNeg, Int.reduceBNe, bl, newB, ch, ck, cj, bne, ↓aj, ↓ai, ↓aa, ↓am, bc, aP, bm, bu, aE, bH, Call.operands, ty3, ty4, ty9, ty22, ty24, ty25, ty34, ty36, ty38])
/-! ### ledger.Match -/
def n31 : cC where
  keep := fun i => match i with
    | 0 => [1, 2, 3, 4, 8, 54, 56]
    | 1 => [1, 2, 3, 4, 8, 12, 54, 56]
    | 2 => [1, 2, 3, 4, 8, 12, 22, 54, 56]
    | 3 => [8, 9, 10, 11]
    | 4 => [1, 2, 3, 4, 8, 30, 54, 56]
    | 5 => [8, 9, 10, 11]
    | 6 => [1, 2, 3, 4, 8, 54, 56]
    | 7 => [1, 2, 3, 4, 8, 43, 54, 56]
    | 8 => [1, 3, 4, 8, 13, 54, 56]
    | 9 => [1, 3, 4, 8, 54, 56]
    | 10 => [1, 3, 4, 8, 54, 56, 60]
    | 11 => [8, 9, 10, 11]
    | 12 => [1, 2, 3, 4, 8, 14, 15, 54, 56]
    | 13 => [1, 3, 4, 8, 54, 56, 74]
    | 14 => [8, 9, 10, 11]
    | 15 => [1, 3, 8, 16, 54, 56]
    | 16 => [1, 3, 8, 16, 54, 56, 80, 81, 82]
    | 17 => [1, 3, 8, 16, 54, 56, 80, 81, 82, 83]
    | 18 => [1, 3, 8, 16, 17, 18, 54, 56, 80, 81, 82]
    | 19 => [1, 3, 8, 16, 17, 54, 56, 80, 81, 82, 106]
    | 20 => [1, 8, 17]
    | 21 => [1, 8, 17, 123]
    | 22 => [8, 9, 10, 11]
    | 23 => [8, 9, 10, 11]
    | 24 => [1, 3, 8, 16, 54, 56, 80, 81, 82]
    | 25 => [8, 9, 10, 11]
    | _ => []
  ro := fun t => t == 4
  mv := fun t => t == 125
  give := fun _ => false
  free := fun i => match i with | 6 => [(0, 2), (1, 2), (0, 3), (1, 3), (0, 4), (1, 4), (2, 4), (3, 4), (0, 5), (1, 5), (2, 5), (3, 5), (0, 6), (1, 6), (2, 6), (3, 6)] | 9 => [(0, 1), (0, 3), (1, 3), (2, 3), (0, 4), (1, 4), (2, 4), (3, 4), (0, 5), (1, 5), (2, 5), (3, 6), (4, 6), (5, 6)] | 19 => [(0, 1), (0, 3), (1, 3), (2, 3), (0, 4), (1, 4), (2, 4), (0, 5), (1, 5), (2, 5), (8, 10), (9, 10), (8, 11), (9, 11), (10, 11), (8, 12), (9, 12), (8, 16), (9, 16), (10, 16), (11, 16), (12, 16), (13, 16), (14, 16), (15, 16), (8, 17), (9, 17), (10, 17), (11, 17), (12, 17), (13, 17), (14, 17), (15, 17)] | 20 => [(0, 2), (1, 2), (0, 3), (1, 3), (2, 3), (0, 4), (1, 4), (0, 5), (1, 5), (2, 5), (3, 5), (4, 5), (0, 6), (1, 6), (2, 6), (3, 6), (4, 6), (5, 6), (0, 7), (1, 7), (2, 7), (3, 7), (4, 7), (0, 9), (1, 9), (2, 9), (3, 9), (4, 9), (5, 9), (6, 9), (7, 9), (8, 9), (0, 10), (1, 10), (2, 10), (3, 10), (4, 10), (5, 10), (6, 10), (7, 10), (8, 10), (9, 10), (0, 11), (1, 11), (2, 11), (3, 11), (4, 11), (5, 11), (6, 11), (7, 11), (8, 11)] | _ => []
  alive := fun i x => match i, x with
    | 22, true => some [8, 12]
    | 22, false => some [1, 2, 3, 4, 8, 54, 56]
    | 30, true => some [8]
    | 30, false => some [1, 2, 3, 4, 8, 54, 56]
    | 43, true => some [1, 3, 4, 8, 54, 56]
    | 43, false => some [1, 2, 3, 4, 8, 54, 56]
    | 60, true => some [8]
    | 60, false => some [1, 3, 4, 8, 54, 56]
    | 74, true => some [8]
    | 74, false => some [1, 3, 4, 8, 54, 56]
    | 83, true => some [1, 3, 8, 16, 54, 56, 80, 81, 82]
    | 83, false => some [8]
    | 106, true => some [1, 3, 8, 16, 54, 56, 80, 81, 82]
    | 106, false => some [1, 3, 8, 16, 17, 54, 56]
    | 123, true => some [8]
    | 123, false => some [1, 8, 17]
    | _, _ => none
theorem n31a22t (e : Env) (S : aA) : aw n31 22 true ⟨e, S⟩ = ⟨prune [8, 12] e, S⟩ := rfl
theorem n31a22f (e : Env) (S : aA) : aw n31 22 false ⟨e, S⟩ = ⟨prune [1, 2, 3, 4, 8, 54, 56] e, S⟩ := rfl
theorem n31a30t (e : Env) (S : aA) : aw n31 30 true ⟨e, S⟩ = ⟨prune [8] e, S⟩ := rfl
theorem n31a30f (e : Env) (S : aA) : aw n31 30 false ⟨e, S⟩ = ⟨prune [1, 2, 3, 4, 8, 54, 56] e, S⟩ := rfl
theorem n31a43t (e : Env) (S : aA) : aw n31 43 true ⟨e, S⟩ = ⟨prune [1, 3, 4, 8, 54, 56] e, S⟩ := rfl
theorem n31a43f (e : Env) (S : aA) : aw n31 43 false ⟨e, S⟩ = ⟨prune [1, 2, 3, 4, 8, 54, 56] e, S⟩ := rfl
theorem n31a60t (e : Env) (S : aA) : aw n31 60 true ⟨e, S⟩ = ⟨prune [8] e, S⟩ := rfl
theorem n31a60f (e : Env) (S : aA) : aw n31 60 false ⟨e, S⟩ = ⟨prune [1, 3, 4, 8, 54, 56] e, S⟩ := rfl
theorem n31a74t (e : Env) (S : aA) : aw n31 74 true ⟨e, S⟩ = ⟨prune [8] e, S⟩ := rfl
theorem n31a74f (e : Env) (S : aA) : aw n31 74 false ⟨e, S⟩ = ⟨prune [1, 3, 4, 8, 54, 56] e, S⟩ := rfl
theorem n31a83t (e : Env) (S : aA) : aw n31 83 true ⟨e, S⟩ = ⟨prune [1, 3, 8, 16, 54, 56, 80, 81, 82] e, S⟩ := rfl
theorem n31a83f (e : Env) (S : aA) : aw n31 83 false ⟨e, S⟩ = ⟨prune [8] e, S⟩ := rfl
theorem n31a106t (e : Env) (S : aA) : aw n31 106 true ⟨e, S⟩ = ⟨prune [1, 3, 8, 16, 54, 56, 80, 81, 82] e, S⟩ := rfl
theorem n31a106f (e : Env) (S : aA) : aw n31 106 false ⟨e, S⟩ = ⟨prune [1, 3, 8, 16, 17, 54, 56] e, S⟩ := rfl
theorem n31a123t (e : Env) (S : aA) : aw n31 123 true ⟨e, S⟩ = ⟨prune [8] e, S⟩ := rfl
theorem n31a123f (e : Env) (S : aA) : aw n31 123 false ⟨e, S⟩ = ⟨prune [1, 8, 17] e, S⟩ := rfl
theorem n31k0 : n31.keep 0 = [1, 2, 3, 4, 8, 54, 56] := rfl
theorem n31k1 : n31.keep 1 = [1, 2, 3, 4, 8, 12, 54, 56] := rfl
theorem n31k2 : n31.keep 2 = [1, 2, 3, 4, 8, 12, 22, 54, 56] := rfl
theorem n31k3 : n31.keep 3 = [8, 9, 10, 11] := rfl
theorem n31k4 : n31.keep 4 = [1, 2, 3, 4, 8, 30, 54, 56] := rfl
theorem n31k5 : n31.keep 5 = [8, 9, 10, 11] := rfl
theorem n31k6 : n31.keep 6 = [1, 2, 3, 4, 8, 54, 56] := rfl
theorem n31k7 : n31.keep 7 = [1, 2, 3, 4, 8, 43, 54, 56] := rfl
theorem n31k8 : n31.keep 8 = [1, 3, 4, 8, 13, 54, 56] := rfl
theorem n31k9 : n31.keep 9 = [1, 3, 4, 8, 54, 56] := rfl
theorem n31k10 : n31.keep 10 = [1, 3, 4, 8, 54, 56, 60] := rfl
theorem n31k11 : n31.keep 11 = [8, 9, 10, 11] := rfl
theorem n31k12 : n31.keep 12 = [1, 2, 3, 4, 8, 14, 15, 54, 56] := rfl
theorem n31k13 : n31.keep 13 = [1, 3, 4, 8, 54, 56, 74] := rfl
theorem n31k14 : n31.keep 14 = [8, 9, 10, 11] := rfl
theorem n31k15 : n31.keep 15 = [1, 3, 8, 16, 54, 56] := rfl
theorem n31k16 : n31.keep 16 = [1, 3, 8, 16, 54, 56, 80, 81, 82] := rfl
theorem n31k17 : n31.keep 17 = [1, 3, 8, 16, 54, 56, 80, 81, 82, 83] := rfl
theorem n31k18 : n31.keep 18 = [1, 3, 8, 16, 17, 18, 54, 56, 80, 81, 82] := rfl
theorem n31k19 : n31.keep 19 = [1, 3, 8, 16, 17, 54, 56, 80, 81, 82, 106] := rfl
theorem n31k20 : n31.keep 20 = [1, 8, 17] := rfl
theorem n31k21 : n31.keep 21 = [1, 8, 17, 123] := rfl
theorem n31k22 : n31.keep 22 = [8, 9, 10, 11] := rfl
theorem n31k23 : n31.keep 23 = [8, 9, 10, 11] := rfl
theorem n31k24 : n31.keep 24 = [1, 3, 8, 16, 54, 56, 80, 81, 82] := rfl
theorem n31k25 : n31.keep 25 = [8, 9, 10, 11] := rfl
theorem n31ro (t : Nat) : n31.ro t = (t == 4) := rfl
theorem n31mv (t : Nat) : n31.mv t = (t == 125) := rfl
theorem n31gv (t : Nat) : n31.give t = (false) := rfl
theorem n31f6 : n31.free 6 = [(0, 2), (1, 2), (0, 3), (1, 3), (0, 4), (1, 4), (2, 4), (3, 4), (0, 5), (1, 5), (2, 5), (3, 5), (0, 6), (1, 6), (2, 6), (3, 6)] := rfl
theorem n31f9 : n31.free 9 = [(0, 1), (0, 3), (1, 3), (2, 3), (0, 4), (1, 4), (2, 4), (3, 4), (0, 5), (1, 5), (2, 5), (3, 6), (4, 6), (5, 6)] := rfl
theorem n31f19 : n31.free 19 = [(0, 1), (0, 3), (1, 3), (2, 3), (0, 4), (1, 4), (2, 4), (0, 5), (1, 5), (2, 5), (8, 10), (9, 10), (8, 11), (9, 11), (10, 11), (8, 12), (9, 12), (8, 16), (9, 16), (10, 16), (11, 16), (12, 16), (13, 16), (14, 16), (15, 16), (8, 17), (9, 17), (10, 17), (11, 17), (12, 17), (13, 17), (14, 17), (15, 17)] := rfl
theorem n31f20 : n31.free 20 = [(0, 2), (1, 2), (0, 3), (1, 3), (2, 3), (0, 4), (1, 4), (0, 5), (1, 5), (2, 5), (3, 5), (4, 5), (0, 6), (1, 6), (2, 6), (3, 6), (4, 6), (5, 6), (0, 7), (1, 7), (2, 7), (3, 7), (4, 7), (0, 9), (1, 9), (2, 9), (3, 9), (4, 9), (5, 9), (6, 9), (7, 9), (8, 9), (0, 10), (1, 10), (2, 10), (3, 10), (4, 10), (5, 10), (6, 10), (7, 10), (8, 10), (9, 10), (0, 11), (1, 11), (2, 11), (3, 11), (4, 11), (5, 11), (6, 11), (7, 11), (8, 11)] := rfl
theorem res31 : Try.f31.results.toList = [.cell 8 24, .tmp 9, .tmp 10, .tmp 11] := rfl
noncomputable def b31 : Code := aQ Try.f31
noncomputable def c31_0 : Code := (bz 0 (aQ Try.f31)).getD .skip
theorem fl31_0 : bz 0 b31 = some c31_0 := rfl
def hd_ledger_Match_0 (p0 : Int) (p1 : List GItem) (p2 : Int) (p3 : List GItem) (p4 : Int) (p6 : Int) (p7 : Int) (p8 : List GItem) (s : Int) : St := ⟨[(1, .v (.i .i64 p0)), (3, .v (.sl 10 (ab GItem.row p1))), (8, .ptr 0 0), (16, .v (.i .i64 p2)), (54, .v (.sl 10 (ab GItem.row p3))), (56, .v (.sl 10 (ab GItem.row p1))), (80, .v (.sl 10 (ab GItem.row p1))), (81, .v (.i .i64 p4)), (82, .v (.i .i64 s))], [[.v (.i .i64 p6), .v (.i .i64 p7), .v (.sl 10 (ab GItem.row p8))]]⟩
def ou_ledger_Match_0 (p0 : Int) (p1 : List GItem) (p2 : Int) (p3 : List GItem) (p4 : Int) (p6 : Int) (p7 : Int) (p8 : List GItem) (r : (Bool × Int × Int × GLog × GItem) ⊕ Unit) : Option (Ex × St) := match r with
  | .inl r => some (.ret, ⟨[(8, .ptr 0 0), (9, .v (.b r.1)), (10, .v (.i .i64 r.2.1)), (11, .v (.i .i64 r.2.2.1))], [[.v (.i .i64 r.2.2.2.1.fBase), .v (.i .i64 r.2.2.2.1.fBaseTerm), .own 10 (ab GItem.row r.2.2.2.1.fItems)], [.v (.i .i64 r.2.2.2.2.fTerm), .v (.i .i64 r.2.2.2.2.fTime), .v (.b r.2.2.2.2.fNop), .v (.i .i64 r.2.2.2.2.fCall.fClient), .v (.i .i64 r.2.2.2.2.fCall.fSeq), .v (.i .i64 r.2.2.2.2.fCall.fCommand.fKind), .v (.s r.2.2.2.2.fCall.fCommand.fKey), .v (.s r.2.2.2.2.fCall.fCommand.fField), .v (.s r.2.2.2.2.fCall.fCommand.fText), .v (.i .i64 r.2.2.2.2.fCall.fCommand.fN)]]⟩)
  | .inr r => some (.normal, ⟨[(8, .ptr 0 0)], [[.v (.i .i64 p6), .v (.i .i64 p7), .v (.sl 10 (ab GItem.row p8))]]⟩)

set_option maxRecDepth 100000 in
set_option maxHeartbeats 40000000 in
theorem sl_ledger_Match_0 (C : ak) (k_ledger_Check : K_ledger_Check C) (p0 : Int) (p1 : List GItem) (p2 : Int) (p3 : List GItem) (p4 : Int) (p6 : Int) (p7 : Int) (p8 : List GItem) (p5 : Int) (o : Int ⊕ ((Bool × Int × Int × GLog × GItem) ⊕ Unit)) (hF : st_ledger_Match_0 p0 p1 p2 p3 p4 p6 p7 p8 p5 = some o) : evW TT C.wide n31 b31 0 (hd_ledger_Match_0 p0 p1 p2 p3 p4 p6 p7 p8 p5) = Sum.elim (fun s => evW TT C.wide n31 b31 0 (hd_ledger_Match_0 p0 p1 p2 p3 p4 p6 p7 p8 s)) (fun r => ou_ledger_Match_0 p0 p1 p2 p3 p4 p6 p7 p8 r) o := by
  unfold st_ledger_Match_0 at hF
  try dsimp only at hF
  rw [ct TT n31 fl31_0]
  refine aT (decide (p5 < p4)) ?_ ?_
  focus
    intro h1
    replace hF := ar h1 hF
    have hR := Option.some.inj hF
    clear hF
    subst hR
  rotate_left 1
  intro h1
  replace hF := aq h1 hF
  revert hF
  cases h2 : idx p1 p5
  focus
    intro hF
    cases hF
  rename_i x1
  intro hF
  try dsimp only at hF
  have g1 : decide (0 ≤ p5) = true := (cc h2).1
  have g2 : (ab GItem.row p1)[(p5 : Int).toNat]? = some [.i .i64 x1.fTerm, .i .i64 x1.fTime, .b x1.fNop, .i .i64 x1.fCall.fClient, .i .i64 x1.fCall.fSeq, .i .i64 x1.fCall.fCommand.fKind, .s x1.fCall.fCommand.fKey, .s x1.fCall.fCommand.fField, .s x1.fCall.fCommand.fText, .i .i64 x1.fCall.fCommand.fN] := ca _ h2
  refine aT (decide ((IntKind.i64.wrap (p2 + p5)) < (p8.length : Int))) ?_ ?_
  focus
    intro h3
    replace hF := ar h3 hF
    unfold st_ledger_Match_0_c1 at hF
    have g3 : ((IntKind.i64.wrap (p2 + p5)) == (IntKind.i64.wrap (p2 + p5))) = true := by simp
    refine aT (rngB 0 (IntKind.i64.wrap (p2 + p5)) (p8.length : Int)) ?_ ?_
    focus
      intro h4
      replace hF := ar h4 hF
      cases hF
    intro h4
    replace hF := aq h4 hF
    refine aT (rngB p5 (p1.length : Int) (p1.length : Int)) ?_ ?_
    focus
      intro h5
      replace hF := ar h5 hF
      cases hF
    intro h5
    replace hF := aq h5 hF
    refine aG ((cI p1 p5 (p1.length : Int)).isEmpty) ?_ ?_
    focus
      intro h6
      replace hF := aq h6 hF
      cases hF
    intro h6
    replace hF := ar h6 hF
    refine aT (cH ((cI p8 0 (IntKind.i64.wrap (p2 + p5))).length + (cI p1 p5 (p1.length : Int)).length) 104) ?_ ?_
    focus
      intro h7
      replace hF := ar h7 hF
      cases hF
    intro h7
    replace hF := aq h7 hF
    revert hF
    cases h8 : ledger_Check (GLog.mk p6 p7 ((cI p8 0 (IntKind.i64.wrap (p2 + p5))) ++ (cI p1 p5 (p1.length : Int))))
    focus
      intro hF
      cases hF
    rename_i x2
    intro hF
    try dsimp only at hF
    have g4 : C.wide 49 [.agg [.v (.i .i64 p6), .v (.i .i64 p7), .v (.sl 10 (ab GItem.row ((cI p8 0 (IntKind.i64.wrap (p2 + p5))) ++ (cI p1 p5 (p1.length : Int)))))]] [] = some (.v (.i .i64 x2), []) := k_ledger_Check (GLog.mk p6 p7 ((cI p8 0 (IntKind.i64.wrap (p2 + p5))) ++ (cI p1 p5 (p1.length : Int)))) _ h8
    refine aG (x2 == 0) ?_ ?_
    focus
      intro h9
      replace hF := aq h9 hF
      have hR := Option.some.inj hF
      clear hF
      subst hR
    rotate_left 1
    intro h9
    replace hF := ar h9 hF
    have hR := Option.some.inj hF
    clear hF
    subst hR
  rotate_left 2
  intro h3
  replace hF := aq h3 hF
  revert hF
  cases h4 : idx p8 (IntKind.i64.wrap (p2 + p5))
  focus
    intro hF
    cases hF
  rename_i x2
  intro hF
  try dsimp only at hF
  unfold st_ledger_Match_0_c0 at hF
  have g5 : decide (0 ≤ (IntKind.i64.wrap (p2 + p5))) = true := (cc h4).1
  have g6 : (ab GItem.row p8)[((IntKind.i64.wrap (p2 + p5)) : Int).toNat]? = some [.i .i64 x2.fTerm, .i .i64 x2.fTime, .b x2.fNop, .i .i64 x2.fCall.fClient, .i .i64 x2.fCall.fSeq, .i .i64 x2.fCall.fCommand.fKind, .s x2.fCall.fCommand.fKey, .s x2.fCall.fCommand.fField, .s x2.fCall.fCommand.fText, .i .i64 x2.fCall.fCommand.fN] := ca _ h4
  refine aG (x2.fTerm == x1.fTerm) ?_ ?_
  focus
    intro h5
    replace hF := aq h5 hF
    have hR := Option.some.inj hF
    clear hF
    subst hR
  rotate_left 1
  intro h5
  replace hF := ar h5 hF
  have g3 : ((IntKind.i64.wrap (p2 + p5)) == (IntKind.i64.wrap (p2 + p5))) = true := by simp
  refine aT (rngB 0 (IntKind.i64.wrap (p2 + p5)) (p8.length : Int)) ?_ ?_
  focus
    intro h6
    replace hF := ar h6 hF
    cases hF
  intro h6
  replace hF := aq h6 hF
  refine aT (rngB p5 (p1.length : Int) (p1.length : Int)) ?_ ?_
  focus
    intro h7
    replace hF := ar h7 hF
    cases hF
  intro h7
  replace hF := aq h7 hF
  refine aG ((cI p1 p5 (p1.length : Int)).isEmpty) ?_ ?_
  focus
    intro h8
    replace hF := aq h8 hF
    cases hF
  intro h8
  replace hF := ar h8 hF
  refine aT (cH ((cI p8 0 (IntKind.i64.wrap (p2 + p5))).length + (cI p1 p5 (p1.length : Int)).length) 104) ?_ ?_
  focus
    intro h9
    replace hF := ar h9 hF
    cases hF
  intro h9
  replace hF := aq h9 hF
  revert hF
  cases h10 : ledger_Check (GLog.mk p6 p7 ((cI p8 0 (IntKind.i64.wrap (p2 + p5))) ++ (cI p1 p5 (p1.length : Int))))
  focus
    intro hF
    cases hF
  rename_i x3
  intro hF
  try dsimp only at hF
  have g7 : C.wide 49 [.agg [.v (.i .i64 p6), .v (.i .i64 p7), .v (.sl 10 (ab GItem.row ((cI p8 0 (IntKind.i64.wrap (p2 + p5))) ++ (cI p1 p5 (p1.length : Int)))))]] [] = some (.v (.i .i64 x3), []) := k_ledger_Check (GLog.mk p6 p7 ((cI p8 0 (IntKind.i64.wrap (p2 + p5))) ++ (cI p1 p5 (p1.length : Int)))) _ h10
  refine aG (x3 == 0) ?_ ?_
  focus
    intro h11
    replace hF := aq h11 hF
    have hR := Option.some.inj hF
    clear hF
    subst hR
  rotate_left 1
  intro h11
  replace hF := ar h11 hF
  have hR := Option.some.inj hF
  clear hF
  subst hR
  all_goals (show cD _ _ _ (aH _ _ _ _ (Code.seq _ _) _) = _; simp (maxSteps := 4000000) only [*, hd_ledger_Match_0, ou_ledger_Match_0, res31, n31a22t, n31a22f, n31a30t, n31a30f, n31a43t, n31a43f, n31a60t, n31a60f, n31a74t, n31a74f, n31a83t, n31a83f, n31a106t, n31a106f, n31a123t, n31a123f, n31k0, n31k1, n31k2, n31k3, n31k4, n31k5, n31k6, n31k7, n31k8, n31k9, n31k10, n31k11, n31k12, n31k13, n31k14, n31k15, n31k16, n31k17, n31k18, n31k19, n31k20, n31k21, n31k22, n31k23, n31k24, n31k25, n31f6, n31f9, n31f19, n31f20, n31ro, n31mv, n31gv, ↓RP, RB, ↓ah, ↓ac, ↓af, ↓ad, ↓ae, enter, aW, aC, aZ, be, aM, Mx.bw, opnd, Mx.bF, Nat.reduceBEq, bK, Mx.fit, bI, bY, toVs, cellsOf, toV, aO, aB, ax, Mx.put, ofConst, ofCell, Mx.prune, killB, killBs, aK, putDst, au, ao, aD, loadAt, bM, List.map, Nat.reduceAdd, Nat.reduceMul, cm, cn, aF, eqC, cg, aN, reduceIte, reduceCtorEq, az, bn, bq, co, bN, bD, aL, bx, lowC, lowP, forceAll, bound, bW, bg, bv, aU, br, kill, spendLoc, spendOk, setOwn, dropAl, dropAls, bG, bP, bd, cb, lend, lendA, aS, ay, bU, bL, bare, bQ, frz, bZ, bo, argE, argsE, bB, bT, fill, setCells, bR, takeParts, bp, aR, ownAt, Nat.reduceBNe, Nat.reduceSub, Nat.reduceLT, Nat.reduceLeDiff, lowA, bi, bJ, av, aJ, aX, bX, bO, bE, bS, ce, bV, bk, aI, bh, bj, bf, cd, Op.operands, Int.reduceBEq, Int.reduceLT, Int.reduceLE, Int.reduceNeg, Int.reduceBNe, bl, newB, ch, ck, cj, bne, ↓aj, ↓ai, ↓aa, ↓am, bc, aP, bm, bu, aE, bH, Call.operands, ty3, ty4, ty9, ty22, ty24, ty25, ty34, ty36, ty38, GItem.cons, GItem.one, GItem.rep, GItem.set])
def hd_ledger_Match_0v2 (p0 : Int) (p1 : List GItem) (p2 : Int) (p3 : Int) (p5 : Int) (p6 : Int) (p7 : List GItem) (s : Int) : St := ⟨[(1, .v (.i .i64 p0)), (3, .v (.sl 10 (ab GItem.row p1))), (8, .ptr 0 0), (16, .v (.i .i64 p2)), (54, .bad), (56, .bad), (80, .v (.sl 10 (ab GItem.row p1))), (81, .v (.i .i64 p3)), (82, .v (.i .i64 s))], [[.v (.i .i64 p5), .v (.i .i64 p6), .v (.sl 10 (ab GItem.row p7))]]⟩
def ou_ledger_Match_0v2 (p0 : Int) (p1 : List GItem) (p2 : Int) (p3 : Int) (p5 : Int) (p6 : Int) (p7 : List GItem) (r : (Bool × Int × Int × GLog × GItem) ⊕ Unit) : Option (Ex × St) := match r with
  | .inl r => some (.ret, ⟨[(8, .ptr 0 0), (9, .v (.b r.1)), (10, .v (.i .i64 r.2.1)), (11, .v (.i .i64 r.2.2.1))], [[.v (.i .i64 r.2.2.2.1.fBase), .v (.i .i64 r.2.2.2.1.fBaseTerm), .own 10 (ab GItem.row r.2.2.2.1.fItems)], [.v (.i .i64 r.2.2.2.2.fTerm), .v (.i .i64 r.2.2.2.2.fTime), .v (.b r.2.2.2.2.fNop), .v (.i .i64 r.2.2.2.2.fCall.fClient), .v (.i .i64 r.2.2.2.2.fCall.fSeq), .v (.i .i64 r.2.2.2.2.fCall.fCommand.fKind), .v (.s r.2.2.2.2.fCall.fCommand.fKey), .v (.s r.2.2.2.2.fCall.fCommand.fField), .v (.s r.2.2.2.2.fCall.fCommand.fText), .v (.i .i64 r.2.2.2.2.fCall.fCommand.fN)]]⟩)
  | .inr r => some (.normal, ⟨[(8, .ptr 0 0)], [[.v (.i .i64 p5), .v (.i .i64 p6), .v (.sl 10 (ab GItem.row p7))]]⟩)

set_option maxRecDepth 100000 in
set_option maxHeartbeats 40000000 in
theorem sl_ledger_Match_0v2 (C : ak) (k_ledger_Check : K_ledger_Check C) (p0 : Int) (p1 : List GItem) (p2 : Int) (p3 : Int) (p5 : Int) (p6 : Int) (p7 : List GItem) (p4 : Int) (o : Int ⊕ ((Bool × Int × Int × GLog × GItem) ⊕ Unit)) (hF : st_ledger_Match_0v2 p0 p1 p2 p3 p5 p6 p7 p4 = some o) : evW TT C.wide n31 b31 0 (hd_ledger_Match_0v2 p0 p1 p2 p3 p5 p6 p7 p4) = Sum.elim (fun s => evW TT C.wide n31 b31 0 (hd_ledger_Match_0v2 p0 p1 p2 p3 p5 p6 p7 s)) (fun r => ou_ledger_Match_0v2 p0 p1 p2 p3 p5 p6 p7 r) o := by
  unfold st_ledger_Match_0v2 at hF
  try dsimp only at hF
  rw [ct TT n31 fl31_0]
  refine aT (decide (p4 < p3)) ?_ ?_
  focus
    intro h1
    replace hF := ar h1 hF
    have hR := Option.some.inj hF
    clear hF
    subst hR
  rotate_left 1
  intro h1
  replace hF := aq h1 hF
  revert hF
  cases h2 : idx p1 p4
  focus
    intro hF
    cases hF
  rename_i x1
  intro hF
  try dsimp only at hF
  have g1 : decide (0 ≤ p4) = true := (cc h2).1
  have g2 : (ab GItem.row p1)[(p4 : Int).toNat]? = some [.i .i64 x1.fTerm, .i .i64 x1.fTime, .b x1.fNop, .i .i64 x1.fCall.fClient, .i .i64 x1.fCall.fSeq, .i .i64 x1.fCall.fCommand.fKind, .s x1.fCall.fCommand.fKey, .s x1.fCall.fCommand.fField, .s x1.fCall.fCommand.fText, .i .i64 x1.fCall.fCommand.fN] := ca _ h2
  refine aT (decide ((IntKind.i64.wrap (p2 + p4)) < (p7.length : Int))) ?_ ?_
  focus
    intro h3
    replace hF := ar h3 hF
    unfold st_ledger_Match_0v2_c1 at hF
    have g3 : ((IntKind.i64.wrap (p2 + p4)) == (IntKind.i64.wrap (p2 + p4))) = true := by simp
    refine aT (rngB 0 (IntKind.i64.wrap (p2 + p4)) (p7.length : Int)) ?_ ?_
    focus
      intro h4
      replace hF := ar h4 hF
      cases hF
    intro h4
    replace hF := aq h4 hF
    refine aT (rngB p4 (p1.length : Int) (p1.length : Int)) ?_ ?_
    focus
      intro h5
      replace hF := ar h5 hF
      cases hF
    intro h5
    replace hF := aq h5 hF
    refine aG ((cI p1 p4 (p1.length : Int)).isEmpty) ?_ ?_
    focus
      intro h6
      replace hF := aq h6 hF
      cases hF
    intro h6
    replace hF := ar h6 hF
    refine aT (cH ((cI p7 0 (IntKind.i64.wrap (p2 + p4))).length + (cI p1 p4 (p1.length : Int)).length) 104) ?_ ?_
    focus
      intro h7
      replace hF := ar h7 hF
      cases hF
    intro h7
    replace hF := aq h7 hF
    revert hF
    cases h8 : ledger_Check (GLog.mk p5 p6 ((cI p7 0 (IntKind.i64.wrap (p2 + p4))) ++ (cI p1 p4 (p1.length : Int))))
    focus
      intro hF
      cases hF
    rename_i x2
    intro hF
    try dsimp only at hF
    have g4 : C.wide 49 [.agg [.v (.i .i64 p5), .v (.i .i64 p6), .v (.sl 10 (ab GItem.row ((cI p7 0 (IntKind.i64.wrap (p2 + p4))) ++ (cI p1 p4 (p1.length : Int)))))]] [] = some (.v (.i .i64 x2), []) := k_ledger_Check (GLog.mk p5 p6 ((cI p7 0 (IntKind.i64.wrap (p2 + p4))) ++ (cI p1 p4 (p1.length : Int)))) _ h8
    refine aG (x2 == 0) ?_ ?_
    focus
      intro h9
      replace hF := aq h9 hF
      have hR := Option.some.inj hF
      clear hF
      subst hR
    rotate_left 1
    intro h9
    replace hF := ar h9 hF
    have hR := Option.some.inj hF
    clear hF
    subst hR
  rotate_left 2
  intro h3
  replace hF := aq h3 hF
  revert hF
  cases h4 : idx p7 (IntKind.i64.wrap (p2 + p4))
  focus
    intro hF
    cases hF
  rename_i x2
  intro hF
  try dsimp only at hF
  unfold st_ledger_Match_0v2_c0 at hF
  have g5 : decide (0 ≤ (IntKind.i64.wrap (p2 + p4))) = true := (cc h4).1
  have g6 : (ab GItem.row p7)[((IntKind.i64.wrap (p2 + p4)) : Int).toNat]? = some [.i .i64 x2.fTerm, .i .i64 x2.fTime, .b x2.fNop, .i .i64 x2.fCall.fClient, .i .i64 x2.fCall.fSeq, .i .i64 x2.fCall.fCommand.fKind, .s x2.fCall.fCommand.fKey, .s x2.fCall.fCommand.fField, .s x2.fCall.fCommand.fText, .i .i64 x2.fCall.fCommand.fN] := ca _ h4
  refine aG (x2.fTerm == x1.fTerm) ?_ ?_
  focus
    intro h5
    replace hF := aq h5 hF
    have hR := Option.some.inj hF
    clear hF
    subst hR
  rotate_left 1
  intro h5
  replace hF := ar h5 hF
  have g3 : ((IntKind.i64.wrap (p2 + p4)) == (IntKind.i64.wrap (p2 + p4))) = true := by simp
  refine aT (rngB 0 (IntKind.i64.wrap (p2 + p4)) (p7.length : Int)) ?_ ?_
  focus
    intro h6
    replace hF := ar h6 hF
    cases hF
  intro h6
  replace hF := aq h6 hF
  refine aT (rngB p4 (p1.length : Int) (p1.length : Int)) ?_ ?_
  focus
    intro h7
    replace hF := ar h7 hF
    cases hF
  intro h7
  replace hF := aq h7 hF
  refine aG ((cI p1 p4 (p1.length : Int)).isEmpty) ?_ ?_
  focus
    intro h8
    replace hF := aq h8 hF
    cases hF
  intro h8
  replace hF := ar h8 hF
  refine aT (cH ((cI p7 0 (IntKind.i64.wrap (p2 + p4))).length + (cI p1 p4 (p1.length : Int)).length) 104) ?_ ?_
  focus
    intro h9
    replace hF := ar h9 hF
    cases hF
  intro h9
  replace hF := aq h9 hF
  revert hF
  cases h10 : ledger_Check (GLog.mk p5 p6 ((cI p7 0 (IntKind.i64.wrap (p2 + p4))) ++ (cI p1 p4 (p1.length : Int))))
  focus
    intro hF
    cases hF
  rename_i x3
  intro hF
  try dsimp only at hF
  have g7 : C.wide 49 [.agg [.v (.i .i64 p5), .v (.i .i64 p6), .v (.sl 10 (ab GItem.row ((cI p7 0 (IntKind.i64.wrap (p2 + p4))) ++ (cI p1 p4 (p1.length : Int)))))]] [] = some (.v (.i .i64 x3), []) := k_ledger_Check (GLog.mk p5 p6 ((cI p7 0 (IntKind.i64.wrap (p2 + p4))) ++ (cI p1 p4 (p1.length : Int)))) _ h10
  refine aG (x3 == 0) ?_ ?_
  focus
    intro h11
    replace hF := aq h11 hF
    have hR := Option.some.inj hF
    clear hF
    subst hR
  rotate_left 1
  intro h11
  replace hF := ar h11 hF
  have hR := Option.some.inj hF
  clear hF
  subst hR
  all_goals (show cD _ _ _ (aH _ _ _ _ (Code.seq _ _) _) = _; simp (maxSteps := 4000000) only [*, hd_ledger_Match_0v2, ou_ledger_Match_0v2, res31, n31a22t, n31a22f, n31a30t, n31a30f, n31a43t, n31a43f, n31a60t, n31a60f, n31a74t, n31a74f, n31a83t, n31a83f, n31a106t, n31a106f, n31a123t, n31a123f, n31k0, n31k1, n31k2, n31k3, n31k4, n31k5, n31k6, n31k7, n31k8, n31k9, n31k10, n31k11, n31k12, n31k13, n31k14, n31k15, n31k16, n31k17, n31k18, n31k19, n31k20, n31k21, n31k22, n31k23, n31k24, n31k25, n31f6, n31f9, n31f19, n31f20, n31ro, n31mv, n31gv, ↓RP, RB, ↓ah, ↓ac, ↓af, ↓ad, ↓ae, enter, aW, aC, aZ, be, aM, Mx.bw, opnd, Mx.bF, Nat.reduceBEq, bK, Mx.fit, bI, bY, toVs, cellsOf, toV, aO, aB, ax, Mx.put, ofConst, ofCell, Mx.prune, killB, killBs, aK, putDst, au, ao, aD, loadAt, bM, List.map, Nat.reduceAdd, Nat.reduceMul, cm, cn, aF, eqC, cg, aN, reduceIte, reduceCtorEq, az, bn, bq, co, bN, bD, aL, bx, lowC, lowP, forceAll, bound, bW, bg, bv, aU, br, kill, spendLoc, spendOk, setOwn, dropAl, dropAls, bG, bP, bd, cb, lend, lendA, aS, ay, bU, bL, bare, bQ, frz, bZ, bo, argE, argsE, bB, bT, fill, setCells, bR, takeParts, bp, aR, ownAt, Nat.reduceBNe, Nat.reduceSub, Nat.reduceLT, Nat.reduceLeDiff, lowA, bi, bJ, av, aJ, aX, bX, bO, bE, bS, ce, bV, bk, aI, bh, bj, bf, cd, Op.operands, Int.reduceBEq, Int.reduceLT, Int.reduceLE, Int.reduceNeg, Int.reduceBNe, bl, newB, ch, ck, cj, bne, ↓aj, ↓ai, ↓aa, ↓am, bc, aP, bm, bu, aE, bH, Call.operands, ty3, ty4, ty9, ty22, ty24, ty25, ty34, ty36, ty38, GItem.cons, GItem.one, GItem.rep, GItem.set])
set_option maxRecDepth 100000 in
set_option maxHeartbeats 40000000 in
theorem r_ledger_Match (C : ak) (k_ledger_Check : K_ledger_Check C) (k_slices_Clone_Item_Item_z : K_slices_Clone_Item_Item_z C) (k_ledger_term : K_ledger_term C) (p0 : GLog) (p1 : Int) (p2 : Int) (p3 : List GItem) (r : GLog × Bool × Int × Int) (hF : ledger_Match p0 p1 p2 p3 = some r) : cF TT C.wide (evW TT C.wide n31 b31) n31 Try.f31.results.toList (aQ Try.f31) [.agg [.v (.i .i64 p0.fBase), .v (.i .i64 p0.fBaseTerm), .v (.sl 10 (ab GItem.row p0.fItems))], .v (.i .i64 p1), .v (.i .i64 p2), .v (.sl 10 (ab GItem.row p3))] [] = some (.tup [.agg [.v (.i .i64 r.1.fBase), .v (.i .i64 r.1.fBaseTerm), .v (.sl 10 (ab GItem.row r.1.fItems))], .v (.b r.2.1), .v (.i .i64 r.2.2.1), .v (.i .i64 r.2.2.2)], []) := by
  unfold ledger_Match at hF
  revert hF
  cases h1 : ledger_Check p0
  focus
    intro hF
    cases hF
  rename_i x1
  intro hF
  try dsimp only at hF
  have g1 : C.wide 49 [.agg [.v (.i .i64 p0.fBase), .v (.i .i64 p0.fBaseTerm), .v (.sl 10 (ab GItem.row p0.fItems))]] [] = some (.v (.i .i64 x1), []) := k_ledger_Check p0 _ h1
  refine aT (x1 == 0) ?_ ?_
  focus
    intro h2
    replace hF := ar h2 hF
    have hR := Option.some.inj hF
    clear hF
    subst hR
  rotate_left 1
  intro h2
  replace hF := aq h2 hF
  revert hF
  cases h3 : ledger_Check (GLog.mk p1 p2 p3)
  focus
    intro hF
    cases hF
  rename_i x2
  intro hF
  try dsimp only at hF
  unfold ledger_Match_c1 at hF
  have g2 : C.wide 49 [.agg [.v (.i .i64 p1), .v (.i .i64 p2), .v (.sl 10 (ab GItem.row p3))]] [] = some (.v (.i .i64 x2), []) := k_ledger_Check (GLog.mk p1 p2 p3) _ h3
  refine aT (x2 == 0) ?_ ?_
  focus
    intro h4
    replace hF := ar h4 hF
    have hR := Option.some.inj hF
    clear hF
    subst hR
  rotate_left 1
  intro h4
  replace hF := aq h4 hF
  revert hF
  cases h5 : slices_Clone_Item_Item_z p0.fItems
  focus
    intro hF
    cases hF
  rename_i x3
  intro hF
  try dsimp only at hF
  have g3 : C.wide 60 [.v (.sl 10 (ab GItem.row p0.fItems))] [] = some (.v (.sl 10 (ab GItem.row x3)), []) := k_slices_Clone_Item_Item_z p0.fItems _ h5
  refine aG (decide (p1 < p0.fBase)) ?_ ?_
  focus
    intro h6
    replace hF := aq h6 hF
    refine aT (rngB (if (p3.length : Int) < (IntKind.i64.wrap (p0.fBase - p1)) then (p3.length : Int) else (IntKind.i64.wrap (p0.fBase - p1))) (p3.length : Int) (p3.length : Int)) ?_ ?_
    focus
      intro h7
      replace hF := ar h7 hF
      cases hF
    intro h7
    replace hF := aq h7 hF
    refine aG (decide ((IntKind.i64.wrap (p1 + (if (p3.length : Int) < (IntKind.i64.wrap (p0.fBase - p1)) then (p3.length : Int) else (IntKind.i64.wrap (p0.fBase - p1))))) < p0.fBase)) ?_ ?_
    focus
      intro h8
      replace hF := aq h8 hF
      have hR := Option.some.inj hF
      clear hF
      subst hR
    rotate_left 1
    intro h8
    replace hF := ar h8 hF
    revert hF
    cases h9 : ci (st_ledger_Match_0 (IntKind.i64.wrap (p1 + (if (p3.length : Int) < (IntKind.i64.wrap (p0.fBase - p1)) then (p3.length : Int) else (IntKind.i64.wrap (p0.fBase - p1))))) (cI p3 (if (p3.length : Int) < (IntKind.i64.wrap (p0.fBase - p1)) then (p3.length : Int) else (IntKind.i64.wrap (p0.fBase - p1))) (p3.length : Int)) (IntKind.i64.wrap ((IntKind.i64.wrap (p1 + (if (p3.length : Int) < (IntKind.i64.wrap (p0.fBase - p1)) then (p3.length : Int) else (IntKind.i64.wrap (p0.fBase - p1))))) - p0.fBase)) p3 ((cI p3 (if (p3.length : Int) < (IntKind.i64.wrap (p0.fBase - p1)) then (p3.length : Int) else (IntKind.i64.wrap (p0.fBase - p1))) (p3.length : Int)).length : Int) p0.fBase p0.fBaseTerm x3) 0
    focus
      intro hF
      cases hF
    rename_i qh9
    cases qh9
    focus
      rename_i z0h9
      obtain ⟨x4, x5, x6, x7, x8⟩ := z0h9
      intro hF
      try dsimp only at hF
      have g4 : evW TT C.wide n31 b31 0 ⟨[(1, .v (.i .i64 (IntKind.i64.wrap (p1 + (if (p3.length : Int) < (IntKind.i64.wrap (p0.fBase - p1)) then (p3.length : Int) else (IntKind.i64.wrap (p0.fBase - p1))))))), (3, .v (.sl 10 (ab GItem.row (cI p3 (if (p3.length : Int) < (IntKind.i64.wrap (p0.fBase - p1)) then (p3.length : Int) else (IntKind.i64.wrap (p0.fBase - p1))) (p3.length : Int))))), (8, .ptr 0 0), (16, .v (.i .i64 (IntKind.i64.wrap ((IntKind.i64.wrap (p1 + (if (p3.length : Int) < (IntKind.i64.wrap (p0.fBase - p1)) then (p3.length : Int) else (IntKind.i64.wrap (p0.fBase - p1))))) - p0.fBase)))), (54, .v (.sl 10 (ab GItem.row p3))), (56, .v (.sl 10 (ab GItem.row (cI p3 (if (p3.length : Int) < (IntKind.i64.wrap (p0.fBase - p1)) then (p3.length : Int) else (IntKind.i64.wrap (p0.fBase - p1))) (p3.length : Int))))), (80, .v (.sl 10 (ab GItem.row (cI p3 (if (p3.length : Int) < (IntKind.i64.wrap (p0.fBase - p1)) then (p3.length : Int) else (IntKind.i64.wrap (p0.fBase - p1))) (p3.length : Int))))), (81, .v (.i .i64 ((cI p3 (if (p3.length : Int) < (IntKind.i64.wrap (p0.fBase - p1)) then (p3.length : Int) else (IntKind.i64.wrap (p0.fBase - p1))) (p3.length : Int)).length : Int))), (82, .v (.i .i64 0))], [[.v (.i .i64 p0.fBase), .v (.i .i64 p0.fBaseTerm), .v (.sl 10 (ab GItem.row x3))]]⟩ = some (.ret, ⟨[(8, .ptr 0 0), (9, .v (.b x4)), (10, .v (.i .i64 x5)), (11, .v (.i .i64 x6))], [[.v (.i .i64 x7.fBase), .v (.i .i64 x7.fBaseTerm), .own 10 (ab GItem.row x7.fItems)], [.v (.i .i64 x8.fTerm), .v (.i .i64 x8.fTime), .v (.b x8.fNop), .v (.i .i64 x8.fCall.fClient), .v (.i .i64 x8.fCall.fSeq), .v (.i .i64 x8.fCall.fCommand.fKind), .v (.s x8.fCall.fCommand.fKey), .v (.s x8.fCall.fCommand.fField), .v (.s x8.fCall.fCommand.fText), .v (.i .i64 x8.fCall.fCommand.fN)]]⟩) := cy (hd_ledger_Match_0 (IntKind.i64.wrap (p1 + (if (p3.length : Int) < (IntKind.i64.wrap (p0.fBase - p1)) then (p3.length : Int) else (IntKind.i64.wrap (p0.fBase - p1))))) (cI p3 (if (p3.length : Int) < (IntKind.i64.wrap (p0.fBase - p1)) then (p3.length : Int) else (IntKind.i64.wrap (p0.fBase - p1))) (p3.length : Int)) (IntKind.i64.wrap ((IntKind.i64.wrap (p1 + (if (p3.length : Int) < (IntKind.i64.wrap (p0.fBase - p1)) then (p3.length : Int) else (IntKind.i64.wrap (p0.fBase - p1))))) - p0.fBase)) p3 ((cI p3 (if (p3.length : Int) < (IntKind.i64.wrap (p0.fBase - p1)) then (p3.length : Int) else (IntKind.i64.wrap (p0.fBase - p1))) (p3.length : Int)).length : Int) p0.fBase p0.fBaseTerm x3) (ou_ledger_Match_0 (IntKind.i64.wrap (p1 + (if (p3.length : Int) < (IntKind.i64.wrap (p0.fBase - p1)) then (p3.length : Int) else (IntKind.i64.wrap (p0.fBase - p1))))) (cI p3 (if (p3.length : Int) < (IntKind.i64.wrap (p0.fBase - p1)) then (p3.length : Int) else (IntKind.i64.wrap (p0.fBase - p1))) (p3.length : Int)) (IntKind.i64.wrap ((IntKind.i64.wrap (p1 + (if (p3.length : Int) < (IntKind.i64.wrap (p0.fBase - p1)) then (p3.length : Int) else (IntKind.i64.wrap (p0.fBase - p1))))) - p0.fBase)) p3 ((cI p3 (if (p3.length : Int) < (IntKind.i64.wrap (p0.fBase - p1)) then (p3.length : Int) else (IntKind.i64.wrap (p0.fBase - p1))) (p3.length : Int)).length : Int) p0.fBase p0.fBaseTerm x3) (fun s o hs => sl_ledger_Match_0 C k_ledger_Check (IntKind.i64.wrap (p1 + (if (p3.length : Int) < (IntKind.i64.wrap (p0.fBase - p1)) then (p3.length : Int) else (IntKind.i64.wrap (p0.fBase - p1))))) (cI p3 (if (p3.length : Int) < (IntKind.i64.wrap (p0.fBase - p1)) then (p3.length : Int) else (IntKind.i64.wrap (p0.fBase - p1))) (p3.length : Int)) (IntKind.i64.wrap ((IntKind.i64.wrap (p1 + (if (p3.length : Int) < (IntKind.i64.wrap (p0.fBase - p1)) then (p3.length : Int) else (IntKind.i64.wrap (p0.fBase - p1))))) - p0.fBase)) p3 ((cI p3 (if (p3.length : Int) < (IntKind.i64.wrap (p0.fBase - p1)) then (p3.length : Int) else (IntKind.i64.wrap (p0.fBase - p1))) (p3.length : Int)).length : Int) p0.fBase p0.fBaseTerm x3 s o hs) h9
      have hR := Option.some.inj hF
      clear hF
      subst hR
    rotate_left 1
    rename_i y0h9
    intro hF
    try dsimp only at hF
    have g5 : evW TT C.wide n31 b31 0 ⟨[(1, .v (.i .i64 (IntKind.i64.wrap (p1 + (if (p3.length : Int) < (IntKind.i64.wrap (p0.fBase - p1)) then (p3.length : Int) else (IntKind.i64.wrap (p0.fBase - p1))))))), (3, .v (.sl 10 (ab GItem.row (cI p3 (if (p3.length : Int) < (IntKind.i64.wrap (p0.fBase - p1)) then (p3.length : Int) else (IntKind.i64.wrap (p0.fBase - p1))) (p3.length : Int))))), (8, .ptr 0 0), (16, .v (.i .i64 (IntKind.i64.wrap ((IntKind.i64.wrap (p1 + (if (p3.length : Int) < (IntKind.i64.wrap (p0.fBase - p1)) then (p3.length : Int) else (IntKind.i64.wrap (p0.fBase - p1))))) - p0.fBase)))), (54, .v (.sl 10 (ab GItem.row p3))), (56, .v (.sl 10 (ab GItem.row (cI p3 (if (p3.length : Int) < (IntKind.i64.wrap (p0.fBase - p1)) then (p3.length : Int) else (IntKind.i64.wrap (p0.fBase - p1))) (p3.length : Int))))), (80, .v (.sl 10 (ab GItem.row (cI p3 (if (p3.length : Int) < (IntKind.i64.wrap (p0.fBase - p1)) then (p3.length : Int) else (IntKind.i64.wrap (p0.fBase - p1))) (p3.length : Int))))), (81, .v (.i .i64 ((cI p3 (if (p3.length : Int) < (IntKind.i64.wrap (p0.fBase - p1)) then (p3.length : Int) else (IntKind.i64.wrap (p0.fBase - p1))) (p3.length : Int)).length : Int))), (82, .v (.i .i64 0))], [[.v (.i .i64 p0.fBase), .v (.i .i64 p0.fBaseTerm), .v (.sl 10 (ab GItem.row x3))]]⟩ = some (.normal, ⟨[(8, .ptr 0 0)], [[.v (.i .i64 p0.fBase), .v (.i .i64 p0.fBaseTerm), .v (.sl 10 (ab GItem.row x3))]]⟩) := cy (hd_ledger_Match_0 (IntKind.i64.wrap (p1 + (if (p3.length : Int) < (IntKind.i64.wrap (p0.fBase - p1)) then (p3.length : Int) else (IntKind.i64.wrap (p0.fBase - p1))))) (cI p3 (if (p3.length : Int) < (IntKind.i64.wrap (p0.fBase - p1)) then (p3.length : Int) else (IntKind.i64.wrap (p0.fBase - p1))) (p3.length : Int)) (IntKind.i64.wrap ((IntKind.i64.wrap (p1 + (if (p3.length : Int) < (IntKind.i64.wrap (p0.fBase - p1)) then (p3.length : Int) else (IntKind.i64.wrap (p0.fBase - p1))))) - p0.fBase)) p3 ((cI p3 (if (p3.length : Int) < (IntKind.i64.wrap (p0.fBase - p1)) then (p3.length : Int) else (IntKind.i64.wrap (p0.fBase - p1))) (p3.length : Int)).length : Int) p0.fBase p0.fBaseTerm x3) (ou_ledger_Match_0 (IntKind.i64.wrap (p1 + (if (p3.length : Int) < (IntKind.i64.wrap (p0.fBase - p1)) then (p3.length : Int) else (IntKind.i64.wrap (p0.fBase - p1))))) (cI p3 (if (p3.length : Int) < (IntKind.i64.wrap (p0.fBase - p1)) then (p3.length : Int) else (IntKind.i64.wrap (p0.fBase - p1))) (p3.length : Int)) (IntKind.i64.wrap ((IntKind.i64.wrap (p1 + (if (p3.length : Int) < (IntKind.i64.wrap (p0.fBase - p1)) then (p3.length : Int) else (IntKind.i64.wrap (p0.fBase - p1))))) - p0.fBase)) p3 ((cI p3 (if (p3.length : Int) < (IntKind.i64.wrap (p0.fBase - p1)) then (p3.length : Int) else (IntKind.i64.wrap (p0.fBase - p1))) (p3.length : Int)).length : Int) p0.fBase p0.fBaseTerm x3) (fun s o hs => sl_ledger_Match_0 C k_ledger_Check (IntKind.i64.wrap (p1 + (if (p3.length : Int) < (IntKind.i64.wrap (p0.fBase - p1)) then (p3.length : Int) else (IntKind.i64.wrap (p0.fBase - p1))))) (cI p3 (if (p3.length : Int) < (IntKind.i64.wrap (p0.fBase - p1)) then (p3.length : Int) else (IntKind.i64.wrap (p0.fBase - p1))) (p3.length : Int)) (IntKind.i64.wrap ((IntKind.i64.wrap (p1 + (if (p3.length : Int) < (IntKind.i64.wrap (p0.fBase - p1)) then (p3.length : Int) else (IntKind.i64.wrap (p0.fBase - p1))))) - p0.fBase)) p3 ((cI p3 (if (p3.length : Int) < (IntKind.i64.wrap (p0.fBase - p1)) then (p3.length : Int) else (IntKind.i64.wrap (p0.fBase - p1))) (p3.length : Int)).length : Int) p0.fBase p0.fBaseTerm x3 s o hs) h9
    have hR := Option.some.inj hF
    clear hF
    subst hR
  rotate_left 3
  intro h6
  replace hF := ar h6 hF
  unfold ledger_Match_c0 at hF
  revert hF
  cases h7 : ledger_term p0 p1
  focus
    intro hF
    cases hF
  rename_i qh7
  obtain ⟨x4, x5⟩ := qh7
  intro hF
  try dsimp only at hF
  have g6 : C.wide 54 [.agg [.v (.i .i64 p0.fBase), .v (.i .i64 p0.fBaseTerm), .v (.sl 10 (ab GItem.row p0.fItems))], .v (.i .i64 p1)] [] = some (.tup [.v (.i .i64 x4), .v (.i .i64 x5)], []) := k_ledger_term p0 p1 _ h7
  refine aT (x5 == 0) ?_ ?_
  focus
    intro h8
    replace hF := ar h8 hF
    have hR := Option.some.inj hF
    clear hF
    subst hR
  rotate_left 1
  intro h8
  replace hF := aq h8 hF
  refine aT (x4 == p2) ?_ ?_
  focus
    intro h9
    replace hF := ar h9 hF
    have hR := Option.some.inj hF
    clear hF
    subst hR
  rotate_left 1
  intro h9
  replace hF := aq h9 hF
  revert hF
  cases h10 : ci (st_ledger_Match_0v2 p1 p3 (IntKind.i64.wrap (p1 - p0.fBase)) (p3.length : Int) p0.fBase p0.fBaseTerm x3) 0
  focus
    intro hF
    cases hF
  rename_i qh10
  cases qh10
  focus
    rename_i z0h10
    obtain ⟨x6, x7, x8, x9, x10⟩ := z0h10
    intro hF
    try dsimp only at hF
    have g7 : evW TT C.wide n31 b31 0 ⟨[(1, .v (.i .i64 p1)), (3, .v (.sl 10 (ab GItem.row p3))), (8, .ptr 0 0), (16, .v (.i .i64 (IntKind.i64.wrap (p1 - p0.fBase)))), (54, .bad), (56, .bad), (80, .v (.sl 10 (ab GItem.row p3))), (81, .v (.i .i64 (p3.length : Int))), (82, .v (.i .i64 0))], [[.v (.i .i64 p0.fBase), .v (.i .i64 p0.fBaseTerm), .v (.sl 10 (ab GItem.row x3))]]⟩ = some (.ret, ⟨[(8, .ptr 0 0), (9, .v (.b x6)), (10, .v (.i .i64 x7)), (11, .v (.i .i64 x8))], [[.v (.i .i64 x9.fBase), .v (.i .i64 x9.fBaseTerm), .own 10 (ab GItem.row x9.fItems)], [.v (.i .i64 x10.fTerm), .v (.i .i64 x10.fTime), .v (.b x10.fNop), .v (.i .i64 x10.fCall.fClient), .v (.i .i64 x10.fCall.fSeq), .v (.i .i64 x10.fCall.fCommand.fKind), .v (.s x10.fCall.fCommand.fKey), .v (.s x10.fCall.fCommand.fField), .v (.s x10.fCall.fCommand.fText), .v (.i .i64 x10.fCall.fCommand.fN)]]⟩) := cy (hd_ledger_Match_0v2 p1 p3 (IntKind.i64.wrap (p1 - p0.fBase)) (p3.length : Int) p0.fBase p0.fBaseTerm x3) (ou_ledger_Match_0v2 p1 p3 (IntKind.i64.wrap (p1 - p0.fBase)) (p3.length : Int) p0.fBase p0.fBaseTerm x3) (fun s o hs => sl_ledger_Match_0v2 C k_ledger_Check p1 p3 (IntKind.i64.wrap (p1 - p0.fBase)) (p3.length : Int) p0.fBase p0.fBaseTerm x3 s o hs) h10
    have hR := Option.some.inj hF
    clear hF
    subst hR
  rotate_left 1
  rename_i y0h10
  intro hF
  try dsimp only at hF
  have g8 : evW TT C.wide n31 b31 0 ⟨[(1, .v (.i .i64 p1)), (3, .v (.sl 10 (ab GItem.row p3))), (8, .ptr 0 0), (16, .v (.i .i64 (IntKind.i64.wrap (p1 - p0.fBase)))), (54, .bad), (56, .bad), (80, .v (.sl 10 (ab GItem.row p3))), (81, .v (.i .i64 (p3.length : Int))), (82, .v (.i .i64 0))], [[.v (.i .i64 p0.fBase), .v (.i .i64 p0.fBaseTerm), .v (.sl 10 (ab GItem.row x3))]]⟩ = some (.normal, ⟨[(8, .ptr 0 0)], [[.v (.i .i64 p0.fBase), .v (.i .i64 p0.fBaseTerm), .v (.sl 10 (ab GItem.row x3))]]⟩) := cy (hd_ledger_Match_0v2 p1 p3 (IntKind.i64.wrap (p1 - p0.fBase)) (p3.length : Int) p0.fBase p0.fBaseTerm x3) (ou_ledger_Match_0v2 p1 p3 (IntKind.i64.wrap (p1 - p0.fBase)) (p3.length : Int) p0.fBase p0.fBaseTerm x3) (fun s o hs => sl_ledger_Match_0v2 C k_ledger_Check p1 p3 (IntKind.i64.wrap (p1 - p0.fBase)) (p3.length : Int) p0.fBase p0.fBaseTerm x3 s o hs) h10
  have hR := Option.some.inj hF
  clear hF
  subst hR
  all_goals (rw [ba]; show cp _ _ _ (aH _ _ _ _ (Code.seq _ _) _) = _; simp (maxSteps := 4000000) only [*, res31, n31a22t, n31a22f, n31a30t, n31a30f, n31a43t, n31a43f, n31a60t, n31a60f, n31a74t, n31a74f, n31a83t, n31a83f, n31a106t, n31a106f, n31a123t, n31a123f, n31k0, n31k1, n31k2, n31k3, n31k4, n31k5, n31k6, n31k7, n31k8, n31k9, n31k10, n31k11, n31k12, n31k13, n31k14, n31k15, n31k16, n31k17, n31k18, n31k19, n31k20, n31k21, n31k22, n31k23, n31k24, n31k25, n31f6, n31f9, n31f19, n31f20, n31ro, n31mv, n31gv, ↓RP, RB, ↓ah, ↓ac, ↓af, ↓ad, ↓ae, enter, aW, aC, aZ, be, aM, Mx.bw, opnd, Mx.bF, Nat.reduceBEq, bK, Mx.fit, bI, bY, toVs, cellsOf, toV, aO, aB, ax, Mx.put, ofConst, ofCell, Mx.prune, killB, killBs, aK, putDst, au, ao, aD, loadAt, bM, List.map, Nat.reduceAdd, Nat.reduceMul, cm, cn, aF, eqC, cg, aN, reduceIte, reduceCtorEq, az, bn, bq, co, bN, bD, aL, bx, lowC, lowP, forceAll, bound, bW, bg, bv, aU, br, kill, spendLoc, spendOk, setOwn, dropAl, dropAls, bG, bP, bd, cb, lend, lendA, aS, ay, bU, bL, bare, bQ, frz, bZ, bo, argE, argsE, bB, bT, fill, setCells, bR, takeParts, bp, aR, ownAt, Nat.reduceBNe, Nat.reduceSub, Nat.reduceLT, Nat.reduceLeDiff, lowA, bi, bJ, av, aJ, aX, bX, bO, bE, bS, ce, bV, bk, aI, bh, bj, bf, cd, Op.operands, Int.reduceBEq, Int.reduceLT, Int.reduceLE, Int.reduceNeg, Int.reduceBNe, bl, newB, ch, ck, cj, bne, ↓aj, ↓ai, ↓aa, ↓am, bc, aP, bm, bu, aE, bH, Call.operands, ty3, ty4, ty9, ty22, ty24, ty25, ty34, ty36, ty38])
/-! ### rostrumref.In -/
def n55 : cC where
  keep := fun i => match i with
    | 0 => [0, 1, 2]
    | 1 => [6]
    | _ => []
  ro := fun _ => false
  mv := fun _ => false
  give := fun _ => false
  free := fun _ => []
theorem n55k0 : n55.keep 0 = [0, 1, 2] := rfl
theorem n55k1 : n55.keep 1 = [6] := rfl
theorem n55ro (t : Nat) : n55.ro t = (false) := rfl
theorem n55mv (t : Nat) : n55.mv t = (false) := rfl
theorem n55gv (t : Nat) : n55.give t = (false) := rfl
theorem res55 : Try.f55.results.toList = [.tmp 6] := rfl
noncomputable def b55 : Code := aQ Try.f55
set_option maxRecDepth 100000 in
set_option maxHeartbeats 40000000 in
theorem r_rostrumref_In (C : ak)  (p0 : Int) (p1 : Int) (p2 : Int) (r : Bool) (hF : rostrumref_In p0 p1 p2 = some r) : cF TT C.wide (evW TT C.wide n55 b55) n55 Try.f55.results.toList (aQ Try.f55) [.v (.i .i64 p0), .v (.i .i64 p1), .v (.i .i64 p2)] [] = some (.v (.b r), []) := by
  unfold rostrumref_In at hF
  refine aG (decide (p1 ≤ p0)) ?_ ?_
  focus
    intro h1
    replace hF := aq h1 hF
    have hR := Option.some.inj hF
    clear hF
    subst hR
  rotate_left 1
  intro h1
  replace hF := ar h1 hF
  have hR := Option.some.inj hF
  clear hF
  subst hR
  all_goals (rw [ba]; show cp _ _ _ (aH _ _ _ _ (Code.seq _ _) _) = _; simp (maxSteps := 4000000) only [*, res55, n55k0, n55k1, n55ro, n55mv, n55gv, ↓RP, RB, ↓ah, ↓ac, ↓af, ↓ad, ↓ae, enter, aW, aC, aZ, be, aM, Mx.bw, opnd, Mx.bF, Nat.reduceBEq, bK, Mx.fit, bI, bY, toVs, cellsOf, toV, aO, aB, ax, Mx.put, ofConst, ofCell, Mx.prune, killB, killBs, aK, putDst, au, ao, aD, loadAt, bM, List.map, Nat.reduceAdd, Nat.reduceMul, cm, cn, aF, eqC, cg, aN, reduceIte, reduceCtorEq, az, bn, bq, co, bN, bD, aL, bx, lowC, lowP, forceAll, bound, bW, bg, bv, aU, br, kill, spendLoc, spendOk, setOwn, dropAl, dropAls, bG, bP, bd, cb, lend, lendA, aS, ay, bU, bL, bare, bQ, frz, bZ, bo, argE, argsE, bB, bT, fill, setCells, bR, takeParts, bp, aR, ownAt, Nat.reduceBNe, Nat.reduceSub, Nat.reduceLT, Nat.reduceLeDiff, lowA, bi, bJ, av, aJ, aX, bX, bO, bE, bS, ce, bV, bk, aI, bh, bj, bf, cd, Op.operands, Int.reduceBEq, Int.reduceLT, Int.reduceLE, Int.reduceNeg, Int.reduceBNe, bl, newB, ch, ck, cj, bne, ↓aj, ↓ai, ↓aa, ↓am, bc, aP, bm, bu, aE, bH, Call.operands, ty3, ty4])
/-! ### rostrumref.numberMay -/
def n91 : cC where
  keep := fun i => match i with
    | 0 => [0]
    | 1 => [2]
    | _ => []
  ro := fun _ => false
  mv := fun _ => false
  give := fun _ => false
  free := fun _ => []
theorem n91k0 : n91.keep 0 = [0] := rfl
theorem n91k1 : n91.keep 1 = [2] := rfl
theorem n91ro (t : Nat) : n91.ro t = (false) := rfl
theorem n91mv (t : Nat) : n91.mv t = (false) := rfl
theorem n91gv (t : Nat) : n91.give t = (false) := rfl
theorem res91 : Try.f91.results.toList = [.tmp 2] := rfl
noncomputable def b91 : Code := aQ Try.f91
set_option maxRecDepth 100000 in
set_option maxHeartbeats 40000000 in
theorem r_rostrumref_numberMay (C : ak) (k_rostrumref_In : K_rostrumref_In C) (p0 : Int) (r : Bool) (hF : rostrumref_numberMay p0 = some r) : cF TT C.wide (evW TT C.wide n91 b91) n91 Try.f91.results.toList (aQ Try.f91) [.v (.i .i64 p0)] [] = some (.v (.b r), []) := by
  unfold rostrumref_numberMay at hF
  have g1 : C.wide 55 [.v (.i .i64 p0), .v (.i .i64 1), .v (.i .i64 1048576)] [] = some (.v (.b (rostrumref_In_v p0 1 1048576)), []) := k_rostrumref_In p0 1 1048576 _ (rostrumref_In_t p0 1 1048576)
  have g2 : rostrumref_In_v p0 1 1048576 = (decide (1 ≤ p0) && decide (p0 ≤ 1048576)) := by first | rfl | (simp [rostrumref_In_v]; done) | (simp only [rostrumref_In_v]; decide)
  have hR := Option.some.inj hF
  clear hF
  subst hR
  all_goals (rw [ba]; show cp _ _ _ (aH _ _ _ _ (Code.seq _ _) _) = _; simp (maxSteps := 4000000) only [*, res91, n91k0, n91k1, n91ro, n91mv, n91gv, ↓RP, RB, ↓ah, ↓ac, ↓af, ↓ad, ↓ae, enter, aW, aC, aZ, be, aM, Mx.bw, opnd, Mx.bF, Nat.reduceBEq, bK, Mx.fit, bI, bY, toVs, cellsOf, toV, aO, aB, ax, Mx.put, ofConst, ofCell, Mx.prune, killB, killBs, aK, putDst, au, ao, aD, loadAt, bM, List.map, Nat.reduceAdd, Nat.reduceMul, cm, cn, aF, eqC, cg, aN, reduceIte, reduceCtorEq, az, bn, bq, co, bN, bD, aL, bx, lowC, lowP, forceAll, bound, bW, bg, bv, aU, br, kill, spendLoc, spendOk, setOwn, dropAl, dropAls, bG, bP, bd, cb, lend, lendA, aS, ay, bU, bL, bare, bQ, frz, bZ, bo, argE, argsE, bB, bT, fill, setCells, bR, takeParts, bp, aR, ownAt, Nat.reduceBNe, Nat.reduceSub, Nat.reduceLT, Nat.reduceLeDiff, lowA, bi, bJ, av, aJ, aX, bX, bO, bE, bS, ce, bV, bk, aI, bh, bj, bf, cd, Op.operands, Int.reduceBEq, Int.reduceLT, Int.reduceLE, Int.reduceNeg, Int.reduceBNe, bl, newB, ch, ck, cj, bne, ↓aj, ↓ai, ↓aa, ↓am, bc, aP, bm, bu, aE, bH, Call.operands, ty3, ty4])
/-! ### rostrumref.fieldMay -/
def n81 : cC where
  keep := fun i => match i with
    | 0 => [0]
    | 1 => [2]
    | _ => []
  ro := fun _ => false
  mv := fun _ => false
  give := fun _ => false
  free := fun _ => []
theorem n81k0 : n81.keep 0 = [0] := rfl
theorem n81k1 : n81.keep 1 = [2] := rfl
theorem n81ro (t : Nat) : n81.ro t = (false) := rfl
theorem n81mv (t : Nat) : n81.mv t = (false) := rfl
theorem n81gv (t : Nat) : n81.give t = (false) := rfl
theorem res81 : Try.f81.results.toList = [.tmp 2] := rfl
noncomputable def b81 : Code := aQ Try.f81
set_option maxRecDepth 100000 in
set_option maxHeartbeats 40000000 in
theorem r_rostrumref_fieldMay (C : ak) (k_rostrumref_In : K_rostrumref_In C) (p0 : ByteArray) (r : Bool) (hF : rostrumref_fieldMay p0 = some r) : cF TT C.wide (evW TT C.wide n81 b81) n81 Try.f81.results.toList (aQ Try.f81) [.v (.s p0)] [] = some (.v (.b r), []) := by
  unfold rostrumref_fieldMay at hF
  have g1 : C.wide 55 [.v (.i .i64 (p0.size : Int)), .v (.i .i64 1), .v (.i .i64 12)] [] = some (.v (.b (rostrumref_In_v (p0.size : Int) 1 12)), []) := k_rostrumref_In (p0.size : Int) 1 12 _ (rostrumref_In_t (p0.size : Int) 1 12)
  have g2 : rostrumref_In_v (p0.size : Int) 1 12 = (decide (1 ≤ (p0.size : Int)) && decide ((p0.size : Int) ≤ 12)) := by first | rfl | (simp [rostrumref_In_v]; done) | (simp only [rostrumref_In_v]; decide)
  have hR := Option.some.inj hF
  clear hF
  subst hR
  all_goals (rw [ba]; show cp _ _ _ (aH _ _ _ _ (Code.seq _ _) _) = _; simp (maxSteps := 4000000) only [*, res81, n81k0, n81k1, n81ro, n81mv, n81gv, ↓RP, RB, ↓ah, ↓ac, ↓af, ↓ad, ↓ae, enter, aW, aC, aZ, be, aM, Mx.bw, opnd, Mx.bF, Nat.reduceBEq, bK, Mx.fit, bI, bY, toVs, cellsOf, toV, aO, aB, ax, Mx.put, ofConst, ofCell, Mx.prune, killB, killBs, aK, putDst, au, ao, aD, loadAt, bM, List.map, Nat.reduceAdd, Nat.reduceMul, cm, cn, aF, eqC, cg, aN, reduceIte, reduceCtorEq, az, bn, bq, co, bN, bD, aL, bx, lowC, lowP, forceAll, bound, bW, bg, bv, aU, br, kill, spendLoc, spendOk, setOwn, dropAl, dropAls, bG, bP, bd, cb, lend, lendA, aS, ay, bU, bL, bare, bQ, frz, bZ, bo, argE, argsE, bB, bT, fill, setCells, bR, takeParts, bp, aR, ownAt, Nat.reduceBNe, Nat.reduceSub, Nat.reduceLT, Nat.reduceLeDiff, lowA, bi, bJ, av, aJ, aX, bX, bO, bE, bS, ce, bV, bk, aI, bh, bj, bf, cd, Op.operands, Int.reduceBEq, Int.reduceLT, Int.reduceLE, Int.reduceNeg, Int.reduceBNe, bl, newB, ch, ck, cj, bne, ↓aj, ↓ai, ↓aa, ↓am, bc, aP, bm, bu, aE, bH, Call.operands, ty3, ty4, ty9])
/-! ### rostrumref.textMay -/
def n80 : cC where
  keep := fun i => match i with
    | 0 => [0]
    | 1 => [2]
    | _ => []
  ro := fun _ => false
  mv := fun _ => false
  give := fun _ => false
  free := fun _ => []
theorem n80k0 : n80.keep 0 = [0] := rfl
theorem n80k1 : n80.keep 1 = [2] := rfl
theorem n80ro (t : Nat) : n80.ro t = (false) := rfl
theorem n80mv (t : Nat) : n80.mv t = (false) := rfl
theorem n80gv (t : Nat) : n80.give t = (false) := rfl
theorem res80 : Try.f80.results.toList = [.tmp 2] := rfl
noncomputable def b80 : Code := aQ Try.f80
set_option maxRecDepth 100000 in
set_option maxHeartbeats 40000000 in
theorem r_rostrumref_textMay (C : ak)  (p0 : ByteArray) (r : Bool) (hF : rostrumref_textMay p0 = some r) : cF TT C.wide (evW TT C.wide n80 b80) n80 Try.f80.results.toList (aQ Try.f80) [.v (.s p0)] [] = some (.v (.b r), []) := by
  unfold rostrumref_textMay at hF
  have hR := Option.some.inj hF
  clear hF
  subst hR
  all_goals (rw [ba]; show cp _ _ _ (aH _ _ _ _ (Code.seq _ _) _) = _; simp (maxSteps := 4000000) only [*, res80, n80k0, n80k1, n80ro, n80mv, n80gv, ↓RP, RB, ↓ah, ↓ac, ↓af, ↓ad, ↓ae, enter, aW, aC, aZ, be, aM, Mx.bw, opnd, Mx.bF, Nat.reduceBEq, bK, Mx.fit, bI, bY, toVs, cellsOf, toV, aO, aB, ax, Mx.put, ofConst, ofCell, Mx.prune, killB, killBs, aK, putDst, au, ao, aD, loadAt, bM, List.map, Nat.reduceAdd, Nat.reduceMul, cm, cn, aF, eqC, cg, aN, reduceIte, reduceCtorEq, az, bn, bq, co, bN, bD, aL, bx, lowC, lowP, forceAll, bound, bW, bg, bv, aU, br, kill, spendLoc, spendOk, setOwn, dropAl, dropAls, bG, bP, bd, cb, lend, lendA, aS, ay, bU, bL, bare, bQ, frz, bZ, bo, argE, argsE, bB, bT, fill, setCells, bR, takeParts, bp, aR, ownAt, Nat.reduceBNe, Nat.reduceSub, Nat.reduceLT, Nat.reduceLeDiff, lowA, bi, bJ, av, aJ, aX, bX, bO, bE, bS, ce, bV, bk, aI, bh, bj, bf, cd, Op.operands, Int.reduceBEq, Int.reduceLT, Int.reduceLE, Int.reduceNeg, Int.reduceBNe, bl, newB, ch, ck, cj, bne, ↓aj, ↓ai, ↓aa, ↓am, bc, aP, bm, bu, aE, bH, Call.operands, ty3, ty4, ty9])
/-! ### rostrumref.countMay -/
def n82 : cC where
  keep := fun i => match i with
    | 0 => [0]
    | 1 => [2]
    | _ => []
  ro := fun _ => false
  mv := fun _ => false
  give := fun _ => false
  free := fun _ => []
theorem n82k0 : n82.keep 0 = [0] := rfl
theorem n82k1 : n82.keep 1 = [2] := rfl
theorem n82ro (t : Nat) : n82.ro t = (false) := rfl
theorem n82mv (t : Nat) : n82.mv t = (false) := rfl
theorem n82gv (t : Nat) : n82.give t = (false) := rfl
theorem res82 : Try.f82.results.toList = [.tmp 2] := rfl
noncomputable def b82 : Code := aQ Try.f82
set_option maxRecDepth 100000 in
set_option maxHeartbeats 40000000 in
theorem r_rostrumref_countMay (C : ak) (k_rostrumref_In : K_rostrumref_In C) (p0 : Int) (r : Bool) (hF : rostrumref_countMay p0 = some r) : cF TT C.wide (evW TT C.wide n82 b82) n82 Try.f82.results.toList (aQ Try.f82) [.v (.i .i64 p0)] [] = some (.v (.b r), []) := by
  unfold rostrumref_countMay at hF
  have g1 : C.wide 55 [.v (.i .i64 p0), .v (.i .i64 (-1099511627776)), .v (.i .i64 1099511627776)] [] = some (.v (.b (rostrumref_In_v p0 (-1099511627776) 1099511627776)), []) := k_rostrumref_In p0 (-1099511627776) 1099511627776 _ (rostrumref_In_t p0 (-1099511627776) 1099511627776)
  have g2 : rostrumref_In_v p0 (-1099511627776) 1099511627776 = (decide ((-1099511627776) ≤ p0) && decide (p0 ≤ 1099511627776)) := by first | rfl | (simp [rostrumref_In_v]; done) | (simp only [rostrumref_In_v]; decide)
  have hR := Option.some.inj hF
  clear hF
  subst hR
  all_goals (rw [ba]; show cp _ _ _ (aH _ _ _ _ (Code.seq _ _) _) = _; simp (maxSteps := 4000000) only [*, res82, n82k0, n82k1, n82ro, n82mv, n82gv, ↓RP, RB, ↓ah, ↓ac, ↓af, ↓ad, ↓ae, enter, aW, aC, aZ, be, aM, Mx.bw, opnd, Mx.bF, Nat.reduceBEq, bK, Mx.fit, bI, bY, toVs, cellsOf, toV, aO, aB, ax, Mx.put, ofConst, ofCell, Mx.prune, killB, killBs, aK, putDst, au, ao, aD, loadAt, bM, List.map, Nat.reduceAdd, Nat.reduceMul, cm, cn, aF, eqC, cg, aN, reduceIte, reduceCtorEq, az, bn, bq, co, bN, bD, aL, bx, lowC, lowP, forceAll, bound, bW, bg, bv, aU, br, kill, spendLoc, spendOk, setOwn, dropAl, dropAls, bG, bP, bd, cb, lend, lendA, aS, ay, bU, bL, bare, bQ, frz, bZ, bo, argE, argsE, bB, bT, fill, setCells, bR, takeParts, bp, aR, ownAt, Nat.reduceBNe, Nat.reduceSub, Nat.reduceLT, Nat.reduceLeDiff, lowA, bi, bJ, av, aJ, aX, bX, bO, bE, bS, ce, bV, bk, aI, bh, bj, bf, cd, Op.operands, Int.reduceBEq, Int.reduceLT, Int.reduceLE, Int.reduceNeg, Int.reduceBNe, bl, newB, ch, ck, cj, bne, ↓aj, ↓ai, ↓aa, ↓am, bc, aP, bm, bu, aE, bH, Call.operands, ty3, ty4])
/-! ### rostrumref.CommandFault -/
def n130 : cC where
  keep := fun i => match i with
    | 0 => [1]
    | 1 => [1, 10]
    | 2 => [2]
    | 3 => [1, 3]
    | 4 => [1, 3, 4]
    | 5 => [1, 3, 4, 5]
    | 6 => [1, 3, 4, 5, 6]
    | 7 => [1, 4, 6, 86]
    | 8 => [2]
    | 9 => [1, 108]
    | 10 => [2]
    | 11 => [112]
    | 12 => [2]
    | 13 => [2]
    | _ => []
  ro := fun t => t == 1
  mv := fun _ => false
  give := fun _ => false
  free := fun _ => []
  alive := fun i x => match i, x with
    | 10, true => some []
    | 10, false => some [1]
    | 86, true => some []
    | 86, false => some [1, 4, 6]
    | 108, true => some []
    | 108, false => some [1]
    | 112, true => some []
    | 112, false => some []
    | _, _ => none
theorem n130a10t (e : Env) (S : aA) : aw n130 10 true ⟨e, S⟩ = ⟨prune [] e, S⟩ := rfl
theorem n130a10f (e : Env) (S : aA) : aw n130 10 false ⟨e, S⟩ = ⟨prune [1] e, S⟩ := rfl
theorem n130a86t (e : Env) (S : aA) : aw n130 86 true ⟨e, S⟩ = ⟨prune [] e, S⟩ := rfl
theorem n130a86f (e : Env) (S : aA) : aw n130 86 false ⟨e, S⟩ = ⟨prune [1, 4, 6] e, S⟩ := rfl
theorem n130a108t (e : Env) (S : aA) : aw n130 108 true ⟨e, S⟩ = ⟨prune [] e, S⟩ := rfl
theorem n130a108f (e : Env) (S : aA) : aw n130 108 false ⟨e, S⟩ = ⟨prune [1] e, S⟩ := rfl
theorem n130a112t (e : Env) (S : aA) : aw n130 112 true ⟨e, S⟩ = ⟨prune [] e, S⟩ := rfl
theorem n130a112f (e : Env) (S : aA) : aw n130 112 false ⟨e, S⟩ = ⟨prune [] e, S⟩ := rfl
theorem n130k0 : n130.keep 0 = [1] := rfl
theorem n130k1 : n130.keep 1 = [1, 10] := rfl
theorem n130k2 : n130.keep 2 = [2] := rfl
theorem n130k3 : n130.keep 3 = [1, 3] := rfl
theorem n130k4 : n130.keep 4 = [1, 3, 4] := rfl
theorem n130k5 : n130.keep 5 = [1, 3, 4, 5] := rfl
theorem n130k6 : n130.keep 6 = [1, 3, 4, 5, 6] := rfl
theorem n130k7 : n130.keep 7 = [1, 4, 6, 86] := rfl
theorem n130k8 : n130.keep 8 = [2] := rfl
theorem n130k9 : n130.keep 9 = [1, 108] := rfl
theorem n130k10 : n130.keep 10 = [2] := rfl
theorem n130k11 : n130.keep 11 = [112] := rfl
theorem n130k12 : n130.keep 12 = [2] := rfl
theorem n130k13 : n130.keep 13 = [2] := rfl
theorem n130ro (t : Nat) : n130.ro t = (t == 1) := rfl
theorem n130mv (t : Nat) : n130.mv t = (false) := rfl
theorem n130gv (t : Nat) : n130.give t = (false) := rfl
theorem res130 : Try.f130.results.toList = [.tmp 2] := rfl
noncomputable def b130 : Code := aQ Try.f130
set_option maxRecDepth 100000 in
set_option maxHeartbeats 40000000 in
theorem rg_rostrumref_CommandFault_k3 (C : ak) (k_rostrumref_In : K_rostrumref_In C) (p0 : GCommand) (c : Code) (ho : cr 0 3 b130 = some c) (r : Bool) (hF : ck_rostrumref_CommandFault_k3 p0 = some r) : aH TT C.wide (evW TT C.wide n130 b130) n130 c ⟨[(1, .rp [.i .i64 p0.fKind, .s p0.fKey, .s p0.fField, .s p0.fText, .i .i64 p0.fN])], []⟩ = some (.normal, ⟨[(1, .rp [.i .i64 p0.fKind, .s p0.fKey, .s p0.fField, .s p0.fText, .i .i64 p0.fN]), (3, .v (.b r))], []⟩) := by
  have e := Option.some.inj (ho.symm.trans (rfl : cr 0 3 b130 = some _))
  subst e
  clear ho
  unfold ck_rostrumref_CommandFault_k3 at hF
  refine aG (p0.fKind == 1) ?_ ?_
  focus
    intro h1
    replace hF := aq h1 hF
    have hR := Option.some.inj hF
    clear hF
    subst hR
  rotate_left 1
  intro h1
  replace hF := ar h1 hF
  refine aG (p0.fKind == 4) ?_ ?_
  focus
    intro h2
    replace hF := aq h2 hF
    have hR := Option.some.inj hF
    clear hF
    subst hR
  rotate_left 1
  intro h2
  replace hF := ar h2 hF
  refine aG (p0.fKind == 7) ?_ ?_
  focus
    intro h3
    replace hF := aq h3 hF
    have hR := Option.some.inj hF
    clear hF
    subst hR
  rotate_left 1
  intro h3
  replace hF := ar h3 hF
  refine aG (p0.fKind == 8) ?_ ?_
  focus
    intro h4
    replace hF := aq h4 hF
    have hR := Option.some.inj hF
    clear hF
    subst hR
  rotate_left 1
  intro h4
  replace hF := ar h4 hF
  have g1 : C.wide 55 [.v (.i .i64 p0.fKind), .v (.i .i64 11), .v (.i .i64 16)] [] = some (.v (.b (rostrumref_In_v p0.fKind 11 16)), []) := k_rostrumref_In p0.fKind 11 16 _ (rostrumref_In_t p0.fKind 11 16)
  have g2 : rostrumref_In_v p0.fKind 11 16 = (decide (11 ≤ p0.fKind) && decide (p0.fKind ≤ 16)) := by first | rfl | (simp [rostrumref_In_v]; done) | (simp only [rostrumref_In_v]; decide)
  have hR := Option.some.inj hF
  clear hF
  subst hR
  all_goals (simp (maxSteps := 4000000) only [*, res130, n130a10t, n130a10f, n130a86t, n130a86f, n130a108t, n130a108f, n130a112t, n130a112f, n130k0, n130k1, n130k2, n130k3, n130k4, n130k5, n130k6, n130k7, n130k8, n130k9, n130k10, n130k11, n130k12, n130k13, n130ro, n130mv, n130gv, ↓RP, RB, ↓ah, ↓ac, ↓af, ↓ad, ↓ae, enter, aW, aC, aZ, be, aM, Mx.bw, opnd, Mx.bF, Nat.reduceBEq, bK, Mx.fit, bI, bY, toVs, cellsOf, toV, aO, aB, ax, Mx.put, ofConst, ofCell, Mx.prune, killB, killBs, aK, putDst, au, ao, aD, loadAt, bM, List.map, Nat.reduceAdd, Nat.reduceMul, cm, cn, aF, eqC, cg, aN, reduceIte, reduceCtorEq, az, bn, bq, co, bN, bD, aL, bx, lowC, lowP, forceAll, bound, bW, bg, bv, aU, br, kill, spendLoc, spendOk, setOwn, dropAl, dropAls, bG, bP, bd, cb, lend, lendA, aS, ay, bU, bL, bare, bQ, frz, bZ, bo, argE, argsE, bB, bT, fill, setCells, bR, takeParts, bp, aR, ownAt, Nat.reduceBNe, Nat.reduceSub, Nat.reduceLT, Nat.reduceLeDiff, lowA, bi, bJ, av, aJ, aX, bX, bO, bE, bS, ce, bV, bk, aI, bh, bj, bf, cd, Op.operands, Int.reduceBEq, Int.reduceLT, Int.reduceLE, Int.reduceNeg, Int.reduceBNe, bl, newB, ch, ck, cj, bne, ↓aj, ↓ai, bc, aP, bm, bu, aE, bH, Call.operands, ty3, ty4, ty9, ty25, ty34, ↓aa _ _ _ _ 3])
set_option maxRecDepth 100000 in
set_option maxHeartbeats 40000000 in
theorem rg_rostrumref_CommandFault_k5 (C : ak)  (p0 : GCommand) (p1 : Bool) (p2 : Bool) (c : Code) (ho : cr 0 5 b130 = some c) (r : Bool) (hF : ck_rostrumref_CommandFault_k5 p0 p1 p2 = some r) : aH TT C.wide (evW TT C.wide n130 b130) n130 c ⟨[(1, .rp [.i .i64 p0.fKind, .s p0.fKey, .s p0.fField, .s p0.fText, .i .i64 p0.fN]), (3, .v (.b p1)), (4, .v (.b p2))], []⟩ = some (.normal, ⟨[(1, .rp [.i .i64 p0.fKind, .s p0.fKey, .s p0.fField, .s p0.fText, .i .i64 p0.fN]), (3, .v (.b p1)), (4, .v (.b p2)), (5, .v (.b r))], []⟩) := by
  have e := Option.some.inj (ho.symm.trans (rfl : cr 0 5 b130 = some _))
  subst e
  clear ho
  unfold ck_rostrumref_CommandFault_k5 at hF
  refine aG (p0.fKind == 3) ?_ ?_
  focus
    intro h1
    replace hF := aq h1 hF
    have hR := Option.some.inj hF
    clear hF
    subst hR
  rotate_left 1
  intro h1
  replace hF := ar h1 hF
  refine aG (p0.fKind == 14) ?_ ?_
  focus
    intro h2
    replace hF := aq h2 hF
    have hR := Option.some.inj hF
    clear hF
    subst hR
  rotate_left 1
  intro h2
  replace hF := ar h2 hF
  have hR := Option.some.inj hF
  clear hF
  subst hR
  all_goals (simp (maxSteps := 4000000) only [*, res130, n130a10t, n130a10f, n130a86t, n130a86f, n130a108t, n130a108f, n130a112t, n130a112f, n130k0, n130k1, n130k2, n130k3, n130k4, n130k5, n130k6, n130k7, n130k8, n130k9, n130k10, n130k11, n130k12, n130k13, n130ro, n130mv, n130gv, ↓RP, RB, ↓ah, ↓ac, ↓af, ↓ad, ↓ae, enter, aW, aC, aZ, be, aM, Mx.bw, opnd, Mx.bF, Nat.reduceBEq, bK, Mx.fit, bI, bY, toVs, cellsOf, toV, aO, aB, ax, Mx.put, ofConst, ofCell, Mx.prune, killB, killBs, aK, putDst, au, ao, aD, loadAt, bM, List.map, Nat.reduceAdd, Nat.reduceMul, cm, cn, aF, eqC, cg, aN, reduceIte, reduceCtorEq, az, bn, bq, co, bN, bD, aL, bx, lowC, lowP, forceAll, bound, bW, bg, bv, aU, br, kill, spendLoc, spendOk, setOwn, dropAl, dropAls, bG, bP, bd, cb, lend, lendA, aS, ay, bU, bL, bare, bQ, frz, bZ, bo, argE, argsE, bB, bT, fill, setCells, bR, takeParts, bp, aR, ownAt, Nat.reduceBNe, Nat.reduceSub, Nat.reduceLT, Nat.reduceLeDiff, lowA, bi, bJ, av, aJ, aX, bX, bO, bE, bS, ce, bV, bk, aI, bh, bj, bf, cd, Op.operands, Int.reduceBEq, Int.reduceLT, Int.reduceLE, Int.reduceNeg, Int.reduceBNe, bl, newB, ch, ck, cj, bne, ↓aj, ↓ai, bc, aP, bm, bu, aE, bH, Call.operands, ty3, ty4, ty9, ty25, ty34, ↓aa _ _ _ _ 5])
set_option maxRecDepth 100000 in
set_option maxHeartbeats 40000000 in
theorem rg_rostrumref_CommandFault_k7 (C : ak)  (p0 : GCommand) (p1 : Bool) (p2 : Bool) (p3 : Bool) (p4 : Bool) (c : Code) (ho : cr 0 7 b130 = some c) (r : Bool) (hF : ck_rostrumref_CommandFault_k7 p0 p1 p2 p3 p4 = some r) : aH TT C.wide (evW TT C.wide n130 b130) n130 c ⟨[(1, .rp [.i .i64 p0.fKind, .s p0.fKey, .s p0.fField, .s p0.fText, .i .i64 p0.fN]), (3, .v (.b p1)), (4, .v (.b p2)), (5, .v (.b p3)), (6, .v (.b p4))], []⟩ = some (.normal, ⟨[(1, .rp [.i .i64 p0.fKind, .s p0.fKey, .s p0.fField, .s p0.fText, .i .i64 p0.fN]), (4, .v (.b p2)), (6, .v (.b p4)), (86, .v (.b r))], []⟩) := by
  have e := Option.some.inj (ho.symm.trans (rfl : cr 0 7 b130 = some _))
  subst e
  clear ho
  unfold ck_rostrumref_CommandFault_k7 at hF
  refine aG p1 ?_ ?_
  focus
    intro h1
    replace hF := aq h1 hF
    refine aG p2 ?_ ?_
    focus
      intro h2
      replace hF := aq h2 hF
      refine aG p3 ?_ ?_
      focus
        intro h3
        replace hF := aq h3 hF
        refine aG p4 ?_ ?_
        focus
          intro h4
          replace hF := aq h4 hF
          have hR := Option.some.inj hF
          clear hF
          subst hR
        rotate_left 1
        intro h4
        replace hF := ar h4 hF
        have hR := Option.some.inj hF
        clear hF
        subst hR
      rotate_left 2
      intro h3
      replace hF := ar h3 hF
      refine aT (p0.fN == 0) ?_ ?_
      focus
        intro h4
        replace hF := ar h4 hF
        have hR := Option.some.inj hF
        clear hF
        subst hR
      rotate_left 1
      intro h4
      replace hF := aq h4 hF
      refine aG p4 ?_ ?_
      focus
        intro h5
        replace hF := aq h5 hF
        have hR := Option.some.inj hF
        clear hF
        subst hR
      rotate_left 1
      intro h5
      replace hF := ar h5 hF
      have hR := Option.some.inj hF
      clear hF
      subst hR
    rotate_left 5
    intro h2
    replace hF := ar h2 hF
    unfold ck_rostrumref_CommandFault_k7_c0 at hF
    refine aT (cJ p0.fField ByteArray.empty) ?_ ?_
    focus
      intro h3
      replace hF := ar h3 hF
      have hR := Option.some.inj hF
      clear hF
      subst hR
    rotate_left 1
    intro h3
    replace hF := aq h3 hF
    refine aG p3 ?_ ?_
    focus
      intro h4
      replace hF := aq h4 hF
      refine aG p4 ?_ ?_
      focus
        intro h5
        replace hF := aq h5 hF
        have hR := Option.some.inj hF
        clear hF
        subst hR
      rotate_left 1
      intro h5
      replace hF := ar h5 hF
      have hR := Option.some.inj hF
      clear hF
      subst hR
    rotate_left 2
    intro h4
    replace hF := ar h4 hF
    refine aT (p0.fN == 0) ?_ ?_
    focus
      intro h5
      replace hF := ar h5 hF
      have hR := Option.some.inj hF
      clear hF
      subst hR
    rotate_left 1
    intro h5
    replace hF := aq h5 hF
    refine aG p4 ?_ ?_
    focus
      intro h6
      replace hF := aq h6 hF
      have hR := Option.some.inj hF
      clear hF
      subst hR
    rotate_left 1
    intro h6
    replace hF := ar h6 hF
    have hR := Option.some.inj hF
    clear hF
    subst hR
  rotate_left 11
  intro h1
  replace hF := ar h1 hF
  unfold ck_rostrumref_CommandFault_k7_c2 at hF
  refine aT (cJ p0.fText ByteArray.empty) ?_ ?_
  focus
    intro h2
    replace hF := ar h2 hF
    have hR := Option.some.inj hF
    clear hF
    subst hR
  rotate_left 1
  intro h2
  replace hF := aq h2 hF
  refine aG p2 ?_ ?_
  focus
    intro h3
    replace hF := aq h3 hF
    refine aG p3 ?_ ?_
    focus
      intro h4
      replace hF := aq h4 hF
      refine aG p4 ?_ ?_
      focus
        intro h5
        replace hF := aq h5 hF
        have hR := Option.some.inj hF
        clear hF
        subst hR
      rotate_left 1
      intro h5
      replace hF := ar h5 hF
      have hR := Option.some.inj hF
      clear hF
      subst hR
    rotate_left 2
    intro h4
    replace hF := ar h4 hF
    refine aT (p0.fN == 0) ?_ ?_
    focus
      intro h5
      replace hF := ar h5 hF
      have hR := Option.some.inj hF
      clear hF
      subst hR
    rotate_left 1
    intro h5
    replace hF := aq h5 hF
    refine aG p4 ?_ ?_
    focus
      intro h6
      replace hF := aq h6 hF
      have hR := Option.some.inj hF
      clear hF
      subst hR
    rotate_left 1
    intro h6
    replace hF := ar h6 hF
    have hR := Option.some.inj hF
    clear hF
    subst hR
  rotate_left 5
  intro h3
  replace hF := ar h3 hF
  unfold ck_rostrumref_CommandFault_k7_c1 at hF
  refine aT (cJ p0.fField ByteArray.empty) ?_ ?_
  focus
    intro h4
    replace hF := ar h4 hF
    have hR := Option.some.inj hF
    clear hF
    subst hR
  rotate_left 1
  intro h4
  replace hF := aq h4 hF
  refine aG p3 ?_ ?_
  focus
    intro h5
    replace hF := aq h5 hF
    refine aG p4 ?_ ?_
    focus
      intro h6
      replace hF := aq h6 hF
      have hR := Option.some.inj hF
      clear hF
      subst hR
    rotate_left 1
    intro h6
    replace hF := ar h6 hF
    have hR := Option.some.inj hF
    clear hF
    subst hR
  rotate_left 2
  intro h5
  replace hF := ar h5 hF
  refine aT (p0.fN == 0) ?_ ?_
  focus
    intro h6
    replace hF := ar h6 hF
    have hR := Option.some.inj hF
    clear hF
    subst hR
  rotate_left 1
  intro h6
  replace hF := aq h6 hF
  refine aG p4 ?_ ?_
  focus
    intro h7
    replace hF := aq h7 hF
    have hR := Option.some.inj hF
    clear hF
    subst hR
  rotate_left 1
  intro h7
  replace hF := ar h7 hF
  have hR := Option.some.inj hF
  clear hF
  subst hR
  all_goals (simp (maxSteps := 4000000) only [*, res130, n130a10t, n130a10f, n130a86t, n130a86f, n130a108t, n130a108f, n130a112t, n130a112f, n130k0, n130k1, n130k2, n130k3, n130k4, n130k5, n130k6, n130k7, n130k8, n130k9, n130k10, n130k11, n130k12, n130k13, n130ro, n130mv, n130gv, ↓RP, RB, ↓ah, ↓ac, ↓af, ↓ad, ↓ae, enter, aW, aC, aZ, be, aM, Mx.bw, opnd, Mx.bF, Nat.reduceBEq, bK, Mx.fit, bI, bY, toVs, cellsOf, toV, aO, aB, ax, Mx.put, ofConst, ofCell, Mx.prune, killB, killBs, aK, putDst, au, ao, aD, loadAt, bM, List.map, Nat.reduceAdd, Nat.reduceMul, cm, cn, aF, eqC, cg, aN, reduceIte, reduceCtorEq, az, bn, bq, co, bN, bD, aL, bx, lowC, lowP, forceAll, bound, bW, bg, bv, aU, br, kill, spendLoc, spendOk, setOwn, dropAl, dropAls, bG, bP, bd, cb, lend, lendA, aS, ay, bU, bL, bare, bQ, frz, bZ, bo, argE, argsE, bB, bT, fill, setCells, bR, takeParts, bp, aR, ownAt, Nat.reduceBNe, Nat.reduceSub, Nat.reduceLT, Nat.reduceLeDiff, lowA, bi, bJ, av, aJ, aX, bX, bO, bE, bS, ce, bV, bk, aI, bh, bj, bf, cd, Op.operands, Int.reduceBEq, Int.reduceLT, Int.reduceLE, Int.reduceNeg, Int.reduceBNe, bl, newB, ch, ck, cj, bne, ↓aj, ↓ai, bc, aP, bm, bu, aE, bH, Call.operands, ty3, ty4, ty9, ty25, ty34, ↓aa _ _ _ _ 7])
set_option maxRecDepth 100000 in
set_option maxHeartbeats 40000000 in
theorem rg_rostrumref_CommandFault_k9 (C : ak) (k_rostrumref_fieldMay : K_rostrumref_fieldMay C) (k_rostrumref_textMay : K_rostrumref_textMay C) (p0 : GCommand) (p1 : Bool) (p2 : Bool) (c : Code) (ho : cr 0 9 b130 = some c) (r : Bool) (hF : ck_rostrumref_CommandFault_k9 p0 p1 p2 = some r) : aH TT C.wide (evW TT C.wide n130 b130) n130 c ⟨[(1, .rp [.i .i64 p0.fKind, .s p0.fKey, .s p0.fField, .s p0.fText, .i .i64 p0.fN]), (4, .v (.b p1)), (6, .v (.b p2))], []⟩ = some (.normal, ⟨[(1, .rp [.i .i64 p0.fKind, .s p0.fKey, .s p0.fField, .s p0.fText, .i .i64 p0.fN]), (108, .v (.b r))], []⟩) := by
  have e := Option.some.inj (ho.symm.trans (rfl : cr 0 9 b130 = some _))
  subst e
  clear ho
  unfold ck_rostrumref_CommandFault_k9 at hF
  refine aT p2 ?_ ?_
  focus
    intro h1
    replace hF := ar h1 hF
    refine aT p1 ?_ ?_
    focus
      intro h2
      replace hF := ar h2 hF
      have g1 : C.wide 80 [.v (.s p0.fText)] [] = some (.v (.b (rostrumref_textMay_v p0.fText)), []) := k_rostrumref_textMay p0.fText _ (rostrumref_textMay_t p0.fText)
      have hR := Option.some.inj hF
      clear hF
      subst hR
    rotate_left 1
    intro h2
    replace hF := aq h2 hF
    have g2 : C.wide 81 [.v (.s p0.fField)] [] = some (.v (.b (rostrumref_fieldMay_v p0.fField)), []) := k_rostrumref_fieldMay p0.fField _ (rostrumref_fieldMay_t p0.fField)
    refine aG (rostrumref_fieldMay_v p0.fField) ?_ ?_
    focus
      intro h3
      replace hF := aq h3 hF
      have g1 : C.wide 80 [.v (.s p0.fText)] [] = some (.v (.b (rostrumref_textMay_v p0.fText)), []) := k_rostrumref_textMay p0.fText _ (rostrumref_textMay_t p0.fText)
      have hR := Option.some.inj hF
      clear hF
      subst hR
    rotate_left 1
    intro h3
    replace hF := ar h3 hF
    have hR := Option.some.inj hF
    clear hF
    subst hR
  rotate_left 3
  intro h1
  replace hF := aq h1 hF
  have g3 : C.wide 81 [.v (.s p0.fKey)] [] = some (.v (.b (rostrumref_fieldMay_v p0.fKey)), []) := k_rostrumref_fieldMay p0.fKey _ (rostrumref_fieldMay_t p0.fKey)
  refine aT (rostrumref_fieldMay_v p0.fKey) ?_ ?_
  focus
    intro h2
    replace hF := ar h2 hF
    have hR := Option.some.inj hF
    clear hF
    subst hR
  rotate_left 1
  intro h2
  replace hF := aq h2 hF
  refine aT p1 ?_ ?_
  focus
    intro h3
    replace hF := ar h3 hF
    have g1 : C.wide 80 [.v (.s p0.fText)] [] = some (.v (.b (rostrumref_textMay_v p0.fText)), []) := k_rostrumref_textMay p0.fText _ (rostrumref_textMay_t p0.fText)
    have hR := Option.some.inj hF
    clear hF
    subst hR
  rotate_left 1
  intro h3
  replace hF := aq h3 hF
  have g2 : C.wide 81 [.v (.s p0.fField)] [] = some (.v (.b (rostrumref_fieldMay_v p0.fField)), []) := k_rostrumref_fieldMay p0.fField _ (rostrumref_fieldMay_t p0.fField)
  refine aG (rostrumref_fieldMay_v p0.fField) ?_ ?_
  focus
    intro h4
    replace hF := aq h4 hF
    have g1 : C.wide 80 [.v (.s p0.fText)] [] = some (.v (.b (rostrumref_textMay_v p0.fText)), []) := k_rostrumref_textMay p0.fText _ (rostrumref_textMay_t p0.fText)
    have hR := Option.some.inj hF
    clear hF
    subst hR
  rotate_left 1
  intro h4
  replace hF := ar h4 hF
  have hR := Option.some.inj hF
  clear hF
  subst hR
  all_goals (simp (maxSteps := 4000000) only [*, res130, n130a10t, n130a10f, n130a86t, n130a86f, n130a108t, n130a108f, n130a112t, n130a112f, n130k0, n130k1, n130k2, n130k3, n130k4, n130k5, n130k6, n130k7, n130k8, n130k9, n130k10, n130k11, n130k12, n130k13, n130ro, n130mv, n130gv, ↓RP, RB, ↓ah, ↓ac, ↓af, ↓ad, ↓ae, enter, aW, aC, aZ, be, aM, Mx.bw, opnd, Mx.bF, Nat.reduceBEq, bK, Mx.fit, bI, bY, toVs, cellsOf, toV, aO, aB, ax, Mx.put, ofConst, ofCell, Mx.prune, killB, killBs, aK, putDst, au, ao, aD, loadAt, bM, List.map, Nat.reduceAdd, Nat.reduceMul, cm, cn, aF, eqC, cg, aN, reduceIte, reduceCtorEq, az, bn, bq, co, bN, bD, aL, bx, lowC, lowP, forceAll, bound, bW, bg, bv, aU, br, kill, spendLoc, spendOk, setOwn, dropAl, dropAls, bG, bP, bd, cb, lend, lendA, aS, ay, bU, bL, bare, bQ, frz, bZ, bo, argE, argsE, bB, bT, fill, setCells, bR, takeParts, bp, aR, ownAt, Nat.reduceBNe, Nat.reduceSub, Nat.reduceLT, Nat.reduceLeDiff, lowA, bi, bJ, av, aJ, aX, bX, bO, bE, bS, ce, bV, bk, aI, bh, bj, bf, cd, Op.operands, Int.reduceBEq, Int.reduceLT, Int.reduceLE, Int.reduceNeg, Int.reduceBNe, bl, newB, ch, ck, cj, bne, ↓aj, ↓ai, bc, aP, bm, bu, aE, bH, Call.operands, ty3, ty4, ty9, ty25, ty34, ↓aa _ _ _ _ 9])
set_option maxRecDepth 100000 in
set_option maxHeartbeats 40000000 in
theorem r_rostrumref_CommandFault (C : ak) (k_rostrumref_In : K_rostrumref_In C) (k_rostrumref_fieldMay : K_rostrumref_fieldMay C) (k_rostrumref_textMay : K_rostrumref_textMay C) (k_rostrumref_countMay : K_rostrumref_countMay C) (p0 : GCommand) (r : Int) (hF : rostrumref_CommandFault p0 = some r) : cF TT C.wide (evW TT C.wide n130 b130) n130 Try.f130.results.toList (aQ Try.f130) [.agg [.v (.i .i64 p0.fKind), .v (.s p0.fKey), .v (.s p0.fField), .v (.s p0.fText), .v (.i .i64 p0.fN)]] [] = some (.v (.i .i64 r), []) := by
  unfold rostrumref_CommandFault at hF
  have g1 : C.wide 55 [.v (.i .i64 p0.fKind), .v (.i .i64 1), .v (.i .i64 22)] [] = some (.v (.b (rostrumref_In_v p0.fKind 1 22)), []) := k_rostrumref_In p0.fKind 1 22 _ (rostrumref_In_t p0.fKind 1 22)
  have g2 : rostrumref_In_v p0.fKind 1 22 = (decide (1 ≤ p0.fKind) && decide (p0.fKind ≤ 22)) := by first | rfl | (simp [rostrumref_In_v]; done) | (simp only [rostrumref_In_v]; decide)
  refine aT (decide (1 ≤ p0.fKind)) ?_ ?_
  focus
    intro h1
    replace hF := ar h1 hF
    have hR := Option.some.inj hF
    clear hF
    subst hR
  rotate_left 1
  intro h1
  replace hF := aq h1 hF
  refine aT (decide (p0.fKind ≤ 22)) ?_ ?_
  focus
    intro h2
    replace hF := ar h2 hF
    have hR := Option.some.inj hF
    clear hF
    subst hR
  rotate_left 1
  intro h2
  replace hF := aq h2 hF
  have g3 : @cR TT C.wide (evW TT C.wide n130 b130) n130 0 3 ⟨[(1, .rp [.i .i64 p0.fKind, .s p0.fKey, .s p0.fField, .s p0.fText, .i .i64 p0.fN])], []⟩ ⟨_⟩ = some (.normal, ⟨[(1, .rp [.i .i64 p0.fKind, .s p0.fKey, .s p0.fField, .s p0.fText, .i .i64 p0.fN]), (3, .v (.b (ck_rostrumref_CommandFault_k3_v p0)))], []⟩) := rg_rostrumref_CommandFault_k3 C k_rostrumref_In p0 _ rfl (ck_rostrumref_CommandFault_k3_v p0) (ck_rostrumref_CommandFault_k3_t p0)
  have g4 : C.wide 55 [.v (.i .i64 p0.fKind), .v (.i .i64 4), .v (.i .i64 6)] [] = some (.v (.b (rostrumref_In_v p0.fKind 4 6)), []) := k_rostrumref_In p0.fKind 4 6 _ (rostrumref_In_t p0.fKind 4 6)
  have g5 : rostrumref_In_v p0.fKind 4 6 = (decide (4 ≤ p0.fKind) && decide (p0.fKind ≤ 6)) := by first | rfl | (simp [rostrumref_In_v]; done) | (simp only [rostrumref_In_v]; decide)
  have g6 : @cR TT C.wide (evW TT C.wide n130 b130) n130 0 5 ⟨[(1, .rp [.i .i64 p0.fKind, .s p0.fKey, .s p0.fField, .s p0.fText, .i .i64 p0.fN]), (3, .v (.b (ck_rostrumref_CommandFault_k3_v p0))), (4, .v (.b (decide (4 ≤ p0.fKind) && decide (p0.fKind ≤ 6))))], []⟩ ⟨_⟩ = some (.normal, ⟨[(1, .rp [.i .i64 p0.fKind, .s p0.fKey, .s p0.fField, .s p0.fText, .i .i64 p0.fN]), (3, .v (.b (ck_rostrumref_CommandFault_k3_v p0))), (4, .v (.b (decide (4 ≤ p0.fKind) && decide (p0.fKind ≤ 6)))), (5, .v (.b (ck_rostrumref_CommandFault_k5_v p0 (ck_rostrumref_CommandFault_k3_v p0) (decide (4 ≤ p0.fKind) && decide (p0.fKind ≤ 6)))))], []⟩) := rg_rostrumref_CommandFault_k5 C p0 (ck_rostrumref_CommandFault_k3_v p0) (decide (4 ≤ p0.fKind) && decide (p0.fKind ≤ 6)) _ rfl (ck_rostrumref_CommandFault_k5_v p0 (ck_rostrumref_CommandFault_k3_v p0) (decide (4 ≤ p0.fKind) && decide (p0.fKind ≤ 6))) (ck_rostrumref_CommandFault_k5_t p0 (ck_rostrumref_CommandFault_k3_v p0) (decide (4 ≤ p0.fKind) && decide (p0.fKind ≤ 6)))
  have g7 : @cR TT C.wide (evW TT C.wide n130 b130) n130 0 7 ⟨[(1, .rp [.i .i64 p0.fKind, .s p0.fKey, .s p0.fField, .s p0.fText, .i .i64 p0.fN]), (3, .v (.b (ck_rostrumref_CommandFault_k3_v p0))), (4, .v (.b (decide (4 ≤ p0.fKind) && decide (p0.fKind ≤ 6)))), (5, .v (.b (ck_rostrumref_CommandFault_k5_v p0 (ck_rostrumref_CommandFault_k3_v p0) (decide (4 ≤ p0.fKind) && decide (p0.fKind ≤ 6))))), (6, .v (.b (!(p0.fKind == 22))))], []⟩ ⟨_⟩ = some (.normal, ⟨[(1, .rp [.i .i64 p0.fKind, .s p0.fKey, .s p0.fField, .s p0.fText, .i .i64 p0.fN]), (4, .v (.b (decide (4 ≤ p0.fKind) && decide (p0.fKind ≤ 6)))), (6, .v (.b (!(p0.fKind == 22)))), (86, .v (.b (ck_rostrumref_CommandFault_k7_v p0 (ck_rostrumref_CommandFault_k3_v p0) (decide (4 ≤ p0.fKind) && decide (p0.fKind ≤ 6)) (ck_rostrumref_CommandFault_k5_v p0 (ck_rostrumref_CommandFault_k3_v p0) (decide (4 ≤ p0.fKind) && decide (p0.fKind ≤ 6))) (!(p0.fKind == 22)))))], []⟩) := rg_rostrumref_CommandFault_k7 C p0 (ck_rostrumref_CommandFault_k3_v p0) (decide (4 ≤ p0.fKind) && decide (p0.fKind ≤ 6)) (ck_rostrumref_CommandFault_k5_v p0 (ck_rostrumref_CommandFault_k3_v p0) (decide (4 ≤ p0.fKind) && decide (p0.fKind ≤ 6))) (!(p0.fKind == 22)) _ rfl (ck_rostrumref_CommandFault_k7_v p0 (ck_rostrumref_CommandFault_k3_v p0) (decide (4 ≤ p0.fKind) && decide (p0.fKind ≤ 6)) (ck_rostrumref_CommandFault_k5_v p0 (ck_rostrumref_CommandFault_k3_v p0) (decide (4 ≤ p0.fKind) && decide (p0.fKind ≤ 6))) (!(p0.fKind == 22))) (ck_rostrumref_CommandFault_k7_t p0 (ck_rostrumref_CommandFault_k3_v p0) (decide (4 ≤ p0.fKind) && decide (p0.fKind ≤ 6)) (ck_rostrumref_CommandFault_k5_v p0 (ck_rostrumref_CommandFault_k3_v p0) (decide (4 ≤ p0.fKind) && decide (p0.fKind ≤ 6))) (!(p0.fKind == 22)))
  refine aG (ck_rostrumref_CommandFault_k7_v p0 (ck_rostrumref_CommandFault_k3_v p0) (decide (4 ≤ p0.fKind) && decide (p0.fKind ≤ 6)) (ck_rostrumref_CommandFault_k5_v p0 (ck_rostrumref_CommandFault_k3_v p0) (decide (4 ≤ p0.fKind) && decide (p0.fKind ≤ 6))) (!(p0.fKind == 22))) ?_ ?_
  focus
    intro h3
    replace hF := aq h3 hF
    have hR := Option.some.inj hF
    clear hF
    subst hR
  rotate_left 1
  intro h3
  replace hF := ar h3 hF
  have g8 : @cR TT C.wide (evW TT C.wide n130 b130) n130 0 9 ⟨[(1, .rp [.i .i64 p0.fKind, .s p0.fKey, .s p0.fField, .s p0.fText, .i .i64 p0.fN]), (4, .v (.b (decide (4 ≤ p0.fKind) && decide (p0.fKind ≤ 6)))), (6, .v (.b (!(p0.fKind == 22))))], []⟩ ⟨_⟩ = some (.normal, ⟨[(1, .rp [.i .i64 p0.fKind, .s p0.fKey, .s p0.fField, .s p0.fText, .i .i64 p0.fN]), (108, .v (.b (ck_rostrumref_CommandFault_k9_v p0 (decide (4 ≤ p0.fKind) && decide (p0.fKind ≤ 6)) (!(p0.fKind == 22)))))], []⟩) := rg_rostrumref_CommandFault_k9 C k_rostrumref_fieldMay k_rostrumref_textMay p0 (decide (4 ≤ p0.fKind) && decide (p0.fKind ≤ 6)) (!(p0.fKind == 22)) _ rfl (ck_rostrumref_CommandFault_k9_v p0 (decide (4 ≤ p0.fKind) && decide (p0.fKind ≤ 6)) (!(p0.fKind == 22))) (ck_rostrumref_CommandFault_k9_t p0 (decide (4 ≤ p0.fKind) && decide (p0.fKind ≤ 6)) (!(p0.fKind == 22)))
  refine aG (ck_rostrumref_CommandFault_k9_v p0 (decide (4 ≤ p0.fKind) && decide (p0.fKind ≤ 6)) (!(p0.fKind == 22))) ?_ ?_
  focus
    intro h4
    replace hF := aq h4 hF
    have hR := Option.some.inj hF
    clear hF
    subst hR
  rotate_left 1
  intro h4
  replace hF := ar h4 hF
  have g9 : C.wide 82 [.v (.i .i64 p0.fN)] [] = some (.v (.b (rostrumref_countMay_v p0.fN)), []) := k_rostrumref_countMay p0.fN _ (rostrumref_countMay_t p0.fN)
  refine aG (rostrumref_countMay_v p0.fN) ?_ ?_
  focus
    intro h5
    replace hF := aq h5 hF
    have hR := Option.some.inj hF
    clear hF
    subst hR
  rotate_left 1
  intro h5
  replace hF := ar h5 hF
  have hR := Option.some.inj hF
  clear hF
  subst hR
  all_goals (rw [ba]; show cp _ _ _ (aH _ _ _ _ (Code.seq _ _) _) = _; simp (maxSteps := 4000000) only [*, res130, n130a10t, n130a10f, n130a86t, n130a86f, n130a108t, n130a108f, n130a112t, n130a112f, n130k0, n130k1, n130k2, n130k3, n130k4, n130k5, n130k6, n130k7, n130k8, n130k9, n130k10, n130k11, n130k12, n130k13, n130ro, n130mv, n130gv, ↓RP, RB, ↓ah, ↓ac, ↓af, ↓ad, ↓ae, enter, aW, aC, aZ, be, aM, Mx.bw, opnd, Mx.bF, Nat.reduceBEq, bK, Mx.fit, bI, bY, toVs, cellsOf, toV, aO, aB, ax, Mx.put, ofConst, ofCell, Mx.prune, killB, killBs, aK, putDst, au, ao, aD, loadAt, bM, List.map, Nat.reduceAdd, Nat.reduceMul, cm, cn, aF, eqC, cg, aN, reduceIte, reduceCtorEq, az, bn, bq, co, bN, bD, aL, bx, lowC, lowP, forceAll, bound, bW, bg, bv, aU, br, kill, spendLoc, spendOk, setOwn, dropAl, dropAls, bG, bP, bd, cb, lend, lendA, aS, ay, bU, bL, bare, bQ, frz, bZ, bo, argE, argsE, bB, bT, fill, setCells, bR, takeParts, bp, aR, ownAt, Nat.reduceBNe, Nat.reduceSub, Nat.reduceLT, Nat.reduceLeDiff, lowA, bi, bJ, av, aJ, aX, bX, bO, bE, bS, ce, bV, bk, aI, bh, bj, bf, cd, Op.operands, Int.reduceBEq, Int.reduceLT, Int.reduceLE, Int.reduceNeg, Int.reduceBNe, bl, newB, ch, ck, cj, bne, ↓aj, ↓ai, bc, aP, bm, bu, aE, bH, Call.operands, ty3, ty4, ty9, ty25, ty34, ↓aa _ _ _ _ 0, ↓aa _ _ _ _ 1, ↓aa _ _ _ _ 2, ↓bC _ _ _ _ 3, ↓aa _ _ _ _ 4, ↓bC _ _ _ _ 5, ↓aa _ _ _ _ 6, ↓bC _ _ _ _ 7, ↓aa _ _ _ _ 8, ↓bC _ _ _ _ 9, ↓aa _ _ _ _ 10, ↓aa _ _ _ _ 11, ↓aa _ _ _ _ 12, ↓aa _ _ _ _ 13])
/-! ### rostrumref.CallFault -/
def n104 : cC where
  keep := fun i => match i with
    | 0 => [1]
    | 1 => [1, 5]
    | 2 => [14]
    | 3 => [2]
    | 4 => [2]
    | 5 => [1, 24]
    | 6 => [2]
    | 7 => [2]
    | _ => []
  ro := fun t => t == 1
  mv := fun _ => false
  give := fun _ => false
  free := fun _ => []
  alive := fun i x => match i, x with
    | 5, true => some [1]
    | 5, false => some [1]
    | 14, true => some []
    | 14, false => some []
    | 24, true => some []
    | 24, false => some [1]
    | _, _ => none
theorem n104a5t (e : Env) (S : aA) : aw n104 5 true ⟨e, S⟩ = ⟨prune [1] e, S⟩ := rfl
theorem n104a5f (e : Env) (S : aA) : aw n104 5 false ⟨e, S⟩ = ⟨prune [1] e, S⟩ := rfl
theorem n104a14t (e : Env) (S : aA) : aw n104 14 true ⟨e, S⟩ = ⟨prune [] e, S⟩ := rfl
theorem n104a14f (e : Env) (S : aA) : aw n104 14 false ⟨e, S⟩ = ⟨prune [] e, S⟩ := rfl
theorem n104a24t (e : Env) (S : aA) : aw n104 24 true ⟨e, S⟩ = ⟨prune [] e, S⟩ := rfl
theorem n104a24f (e : Env) (S : aA) : aw n104 24 false ⟨e, S⟩ = ⟨prune [1] e, S⟩ := rfl
theorem n104k0 : n104.keep 0 = [1] := rfl
theorem n104k1 : n104.keep 1 = [1, 5] := rfl
theorem n104k2 : n104.keep 2 = [14] := rfl
theorem n104k3 : n104.keep 3 = [2] := rfl
theorem n104k4 : n104.keep 4 = [2] := rfl
theorem n104k5 : n104.keep 5 = [1, 24] := rfl
theorem n104k6 : n104.keep 6 = [2] := rfl
theorem n104k7 : n104.keep 7 = [2] := rfl
theorem n104ro (t : Nat) : n104.ro t = (t == 1) := rfl
theorem n104mv (t : Nat) : n104.mv t = (false) := rfl
theorem n104gv (t : Nat) : n104.give t = (false) := rfl
theorem res104 : Try.f104.results.toList = [.tmp 2] := rfl
noncomputable def b104 : Code := aQ Try.f104
set_option maxRecDepth 100000 in
set_option maxHeartbeats 40000000 in
theorem r_rostrumref_CallFault (C : ak) (k_rostrumref_numberMay : K_rostrumref_numberMay C) (k_rostrumref_CommandFault : K_rostrumref_CommandFault C) (p0 : GCall) (r : Int) (hF : rostrumref_CallFault p0 = some r) : cF TT C.wide (evW TT C.wide n104 b104) n104 Try.f104.results.toList (aQ Try.f104) [.agg [.v (.i .i64 p0.fClient), .v (.i .i64 p0.fSeq), .v (.i .i64 p0.fCommand.fKind), .v (.s p0.fCommand.fKey), .v (.s p0.fCommand.fField), .v (.s p0.fCommand.fText), .v (.i .i64 p0.fCommand.fN)]] [] = some (.v (.i .i64 r), []) := by
  unfold rostrumref_CallFault at hF
  refine aT (p0.fClient == 0) ?_ ?_
  focus
    intro h1
    replace hF := ar h1 hF
    have g1 : C.wide 91 [.v (.i .i64 p0.fClient)] [] = some (.v (.b (rostrumref_numberMay_v p0.fClient)), []) := k_rostrumref_numberMay p0.fClient _ (rostrumref_numberMay_t p0.fClient)
    refine aT (rostrumref_numberMay_v p0.fClient) ?_ ?_
    focus
      intro h2
      replace hF := ar h2 hF
      have hR := Option.some.inj hF
      clear hF
      subst hR
    rotate_left 1
    intro h2
    replace hF := aq h2 hF
    have g2 : C.wide 91 [.v (.i .i64 p0.fSeq)] [] = some (.v (.b (rostrumref_numberMay_v p0.fSeq)), []) := k_rostrumref_numberMay p0.fSeq _ (rostrumref_numberMay_t p0.fSeq)
    refine aG (rostrumref_numberMay_v p0.fSeq) ?_ ?_
    focus
      intro h3
      replace hF := aq h3 hF
      have g3 : C.wide 130 [.agg [.v (.i .i64 p0.fCommand.fKind), .v (.s p0.fCommand.fKey), .v (.s p0.fCommand.fField), .v (.s p0.fCommand.fText), .v (.i .i64 p0.fCommand.fN)]] [] = some (.v (.i .i64 (rostrumref_CommandFault_v p0.fCommand)), []) := k_rostrumref_CommandFault p0.fCommand _ (rostrumref_CommandFault_t p0.fCommand)
      have hR := Option.some.inj hF
      clear hF
      subst hR
    rotate_left 1
    intro h3
    replace hF := ar h3 hF
    have hR := Option.some.inj hF
    clear hF
    subst hR
  rotate_left 3
  intro h1
  replace hF := aq h1 hF
  unfold rostrumref_CallFault_c0 at hF
  refine aT (p0.fSeq == 0) ?_ ?_
  focus
    intro h2
    replace hF := ar h2 hF
    have hR := Option.some.inj hF
    clear hF
    subst hR
  rotate_left 1
  intro h2
  replace hF := aq h2 hF
  refine aT (p0.fCommand.fKind == 0) ?_ ?_
  focus
    intro h3
    replace hF := ar h3 hF
    have hR := Option.some.inj hF
    clear hF
    subst hR
  rotate_left 1
  intro h3
  replace hF := aq h3 hF
  refine aT (cJ p0.fCommand.fKey ByteArray.empty) ?_ ?_
  focus
    intro h4
    replace hF := ar h4 hF
    have hR := Option.some.inj hF
    clear hF
    subst hR
  rotate_left 1
  intro h4
  replace hF := aq h4 hF
  refine aT (cJ p0.fCommand.fField ByteArray.empty) ?_ ?_
  focus
    intro h5
    replace hF := ar h5 hF
    have hR := Option.some.inj hF
    clear hF
    subst hR
  rotate_left 1
  intro h5
  replace hF := aq h5 hF
  refine aT (cJ p0.fCommand.fText ByteArray.empty) ?_ ?_
  focus
    intro h6
    replace hF := ar h6 hF
    have hR := Option.some.inj hF
    clear hF
    subst hR
  rotate_left 1
  intro h6
  replace hF := aq h6 hF
  refine aG (p0.fCommand.fN == 0) ?_ ?_
  focus
    intro h7
    replace hF := aq h7 hF
    have hR := Option.some.inj hF
    clear hF
    subst hR
  rotate_left 1
  intro h7
  replace hF := ar h7 hF
  have hR := Option.some.inj hF
  clear hF
  subst hR
  all_goals (rw [ba]; show cp _ _ _ (aH _ _ _ _ (Code.seq _ _) _) = _; simp (maxSteps := 4000000) only [*, res104, n104a5t, n104a5f, n104a14t, n104a14f, n104a24t, n104a24f, n104k0, n104k1, n104k2, n104k3, n104k4, n104k5, n104k6, n104k7, n104ro, n104mv, n104gv, ↓RP, RB, ↓ah, ↓ac, ↓af, ↓ad, ↓ae, enter, aW, aC, aZ, be, aM, Mx.bw, opnd, Mx.bF, Nat.reduceBEq, bK, Mx.fit, bI, bY, toVs, cellsOf, toV, aO, aB, ax, Mx.put, ofConst, ofCell, Mx.prune, killB, killBs, aK, putDst, au, ao, aD, loadAt, bM, List.map, Nat.reduceAdd, Nat.reduceMul, cm, cn, aF, eqC, cg, aN, reduceIte, reduceCtorEq, az, bn, bq, co, bN, bD, aL, bx, lowC, lowP, forceAll, bound, bW, bg, bv, aU, br, kill, spendLoc, spendOk, setOwn, dropAl, dropAls, bG, bP, bd, cb, lend, lendA, aS, ay, bU, bL, bare, bQ, frz, bZ, bo, argE, argsE, bB, bT, fill, setCells, bR, takeParts, bp, aR, ownAt, Nat.reduceBNe, Nat.reduceSub, Nat.reduceLT, Nat.reduceLeDiff, lowA, bi, bJ, av, aJ, aX, bX, bO, bE, bS, ce, bV, bk, aI, bh, bj, bf, cd, Op.operands, Int.reduceBEq, Int.reduceLT, Int.reduceLE, Int.reduceNeg, Int.reduceBNe, bl, newB, ch, ck, cj, bne, ↓aj, ↓ai, ↓aa, ↓am, bc, aP, bm, bu, aE, bH, Call.operands, ty3, ty4, ty9, ty25, ty34, ty36])
/-! ### rostrumref.ItemFault -/
def n58 : cC where
  keep := fun i => match i with
    | 0 => [1]
    | 1 => [1, 12]
    | 2 => [2]
    | 3 => [1, 15]
    | 4 => [2]
    | 5 => [22]
    | 6 => [2]
    | 7 => [2]
    | _ => []
  ro := fun t => t == 1
  mv := fun _ => false
  give := fun _ => false
  free := fun _ => []
  alive := fun i x => match i, x with
    | 12, true => some []
    | 12, false => some [1]
    | 15, true => some [1]
    | 15, false => some [1]
    | 22, true => some []
    | 22, false => some []
    | _, _ => none
theorem n58a12t (e : Env) (S : aA) : aw n58 12 true ⟨e, S⟩ = ⟨prune [] e, S⟩ := rfl
theorem n58a12f (e : Env) (S : aA) : aw n58 12 false ⟨e, S⟩ = ⟨prune [1] e, S⟩ := rfl
theorem n58a15t (e : Env) (S : aA) : aw n58 15 true ⟨e, S⟩ = ⟨prune [1] e, S⟩ := rfl
theorem n58a15f (e : Env) (S : aA) : aw n58 15 false ⟨e, S⟩ = ⟨prune [1] e, S⟩ := rfl
theorem n58a22t (e : Env) (S : aA) : aw n58 22 true ⟨e, S⟩ = ⟨prune [] e, S⟩ := rfl
theorem n58a22f (e : Env) (S : aA) : aw n58 22 false ⟨e, S⟩ = ⟨prune [] e, S⟩ := rfl
theorem n58k0 : n58.keep 0 = [1] := rfl
theorem n58k1 : n58.keep 1 = [1, 12] := rfl
theorem n58k2 : n58.keep 2 = [2] := rfl
theorem n58k3 : n58.keep 3 = [1, 15] := rfl
theorem n58k4 : n58.keep 4 = [2] := rfl
theorem n58k5 : n58.keep 5 = [22] := rfl
theorem n58k6 : n58.keep 6 = [2] := rfl
theorem n58k7 : n58.keep 7 = [2] := rfl
theorem n58ro (t : Nat) : n58.ro t = (t == 1) := rfl
theorem n58mv (t : Nat) : n58.mv t = (false) := rfl
theorem n58gv (t : Nat) : n58.give t = (false) := rfl
theorem res58 : Try.f58.results.toList = [.tmp 2] := rfl
noncomputable def b58 : Code := aQ Try.f58
set_option maxRecDepth 100000 in
set_option maxHeartbeats 40000000 in
theorem r_rostrumref_ItemFault (C : ak) (k_rostrumref_numberMay : K_rostrumref_numberMay C) (k_rostrumref_In : K_rostrumref_In C) (k_rostrumref_CallFault : K_rostrumref_CallFault C) (p0 : GItem) (r : Int) (hF : rostrumref_ItemFault p0 = some r) : cF TT C.wide (evW TT C.wide n58 b58) n58 Try.f58.results.toList (aQ Try.f58) [.agg [.v (.i .i64 p0.fTerm), .v (.i .i64 p0.fTime), .v (.b p0.fNop), .v (.i .i64 p0.fCall.fClient), .v (.i .i64 p0.fCall.fSeq), .v (.i .i64 p0.fCall.fCommand.fKind), .v (.s p0.fCall.fCommand.fKey), .v (.s p0.fCall.fCommand.fField), .v (.s p0.fCall.fCommand.fText), .v (.i .i64 p0.fCall.fCommand.fN)]] [] = some (.v (.i .i64 r), []) := by
  unfold rostrumref_ItemFault at hF
  have g1 : C.wide 91 [.v (.i .i64 p0.fTerm)] [] = some (.v (.b (rostrumref_numberMay_v p0.fTerm)), []) := k_rostrumref_numberMay p0.fTerm _ (rostrumref_numberMay_t p0.fTerm)
  refine aT (rostrumref_numberMay_v p0.fTerm) ?_ ?_
  focus
    intro h1
    replace hF := ar h1 hF
    have hR := Option.some.inj hF
    clear hF
    subst hR
  rotate_left 1
  intro h1
  replace hF := aq h1 hF
  have g2 : C.wide 55 [.v (.i .i64 p0.fTime), .v (.i .i64 0), .v (.i .i64 1073741824)] [] = some (.v (.b (rostrumref_In_v p0.fTime 0 1073741824)), []) := k_rostrumref_In p0.fTime 0 1073741824 _ (rostrumref_In_t p0.fTime 0 1073741824)
  have g3 : rostrumref_In_v p0.fTime 0 1073741824 = (decide (0 ≤ p0.fTime) && decide (p0.fTime ≤ 1073741824)) := by first | rfl | (simp [rostrumref_In_v]; done) | (simp only [rostrumref_In_v]; decide)
  refine aT (decide (0 ≤ p0.fTime)) ?_ ?_
  focus
    intro h2
    replace hF := ar h2 hF
    have hR := Option.some.inj hF
    clear hF
    subst hR
  rotate_left 1
  intro h2
  replace hF := aq h2 hF
  refine aT (decide (p0.fTime ≤ 1073741824)) ?_ ?_
  focus
    intro h3
    replace hF := ar h3 hF
    have hR := Option.some.inj hF
    clear hF
    subst hR
  rotate_left 1
  intro h3
  replace hF := aq h3 hF
  refine aT p0.fNop ?_ ?_
  focus
    intro h4
    replace hF := ar h4 hF
    have g4 : C.wide 104 [.agg [.v (.i .i64 p0.fCall.fClient), .v (.i .i64 p0.fCall.fSeq), .v (.i .i64 p0.fCall.fCommand.fKind), .v (.s p0.fCall.fCommand.fKey), .v (.s p0.fCall.fCommand.fField), .v (.s p0.fCall.fCommand.fText), .v (.i .i64 p0.fCall.fCommand.fN)]] [] = some (.v (.i .i64 (rostrumref_CallFault_v p0.fCall)), []) := k_rostrumref_CallFault p0.fCall _ (rostrumref_CallFault_t p0.fCall)
    have hR := Option.some.inj hF
    clear hF
    subst hR
  rotate_left 1
  intro h4
  replace hF := aq h4 hF
  unfold rostrumref_ItemFault_c0 at hF
  refine aT (p0.fCall.fClient == 0) ?_ ?_
  focus
    intro h5
    replace hF := ar h5 hF
    have hR := Option.some.inj hF
    clear hF
    subst hR
  rotate_left 1
  intro h5
  replace hF := aq h5 hF
  refine aT (p0.fCall.fSeq == 0) ?_ ?_
  focus
    intro h6
    replace hF := ar h6 hF
    have hR := Option.some.inj hF
    clear hF
    subst hR
  rotate_left 1
  intro h6
  replace hF := aq h6 hF
  refine aT (p0.fCall.fCommand.fKind == 0) ?_ ?_
  focus
    intro h7
    replace hF := ar h7 hF
    have hR := Option.some.inj hF
    clear hF
    subst hR
  rotate_left 1
  intro h7
  replace hF := aq h7 hF
  refine aT (cJ p0.fCall.fCommand.fKey ByteArray.empty) ?_ ?_
  focus
    intro h8
    replace hF := ar h8 hF
    have hR := Option.some.inj hF
    clear hF
    subst hR
  rotate_left 1
  intro h8
  replace hF := aq h8 hF
  refine aT (cJ p0.fCall.fCommand.fField ByteArray.empty) ?_ ?_
  focus
    intro h9
    replace hF := ar h9 hF
    have hR := Option.some.inj hF
    clear hF
    subst hR
  rotate_left 1
  intro h9
  replace hF := aq h9 hF
  refine aT (cJ p0.fCall.fCommand.fText ByteArray.empty) ?_ ?_
  focus
    intro h10
    replace hF := ar h10 hF
    have hR := Option.some.inj hF
    clear hF
    subst hR
  rotate_left 1
  intro h10
  replace hF := aq h10 hF
  refine aG (p0.fCall.fCommand.fN == 0) ?_ ?_
  focus
    intro h11
    replace hF := aq h11 hF
    have hR := Option.some.inj hF
    clear hF
    subst hR
  rotate_left 1
  intro h11
  replace hF := ar h11 hF
  have hR := Option.some.inj hF
  clear hF
  subst hR
  all_goals (rw [ba]; show cp _ _ _ (aH _ _ _ _ (Code.seq _ _) _) = _; simp (maxSteps := 4000000) only [*, res58, n58a12t, n58a12f, n58a15t, n58a15f, n58a22t, n58a22f, n58k0, n58k1, n58k2, n58k3, n58k4, n58k5, n58k6, n58k7, n58ro, n58mv, n58gv, ↓RP, RB, ↓ah, ↓ac, ↓af, ↓ad, ↓ae, enter, aW, aC, aZ, be, aM, Mx.bw, opnd, Mx.bF, Nat.reduceBEq, bK, Mx.fit, bI, bY, toVs, cellsOf, toV, aO, aB, ax, Mx.put, ofConst, ofCell, Mx.prune, killB, killBs, aK, putDst, au, ao, aD, loadAt, bM, List.map, Nat.reduceAdd, Nat.reduceMul, cm, cn, aF, eqC, cg, aN, reduceIte, reduceCtorEq, az, bn, bq, co, bN, bD, aL, bx, lowC, lowP, forceAll, bound, bW, bg, bv, aU, br, kill, spendLoc, spendOk, setOwn, dropAl, dropAls, bG, bP, bd, cb, lend, lendA, aS, ay, bU, bL, bare, bQ, frz, bZ, bo, argE, argsE, bB, bT, fill, setCells, bR, takeParts, bp, aR, ownAt, Nat.reduceBNe, Nat.reduceSub, Nat.reduceLT, Nat.reduceLeDiff, lowA, bi, bJ, av, aJ, aX, bX, bO, bE, bS, ce, bV, bk, aI, bh, bj, bf, cd, Op.operands, Int.reduceBEq, Int.reduceLT, Int.reduceLE, Int.reduceNeg, Int.reduceBNe, bl, newB, ch, ck, cj, bne, ↓aj, ↓ai, ↓aa, ↓am, bc, aP, bm, bu, aE, bH, Call.operands, ty3, ty4, ty9, ty25, ty34, ty36, ty38])
end Go.Proofs.Ytnjkmbogbfjffaa
