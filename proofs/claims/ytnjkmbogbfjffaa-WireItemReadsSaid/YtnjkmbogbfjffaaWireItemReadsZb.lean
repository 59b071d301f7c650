/- The code of these functions, run by the machine Mx, gives what the plain functions say, if their callees do (part 2). -/
import Derived.Test.YtnjkmbogbfjffaaWTy
import Derived.Test.YtnjkmbogbfjffaaWireItemReadsD
set_option linter.unusedSimpArgs false
set_option linter.unusedVariables false
set_option linter.constructorNameAsVariable false
set_option linter.unnecessarySimpa false
namespace Go.Proofs.Ytnjkmbogbfjffaa
open Go Go.Mx Go.Proofs
/-! ### rostrumref.CommandFault -/
def n130 : cC where
  keep := fun i => match i with
    | 0 => [1]
    | 1 => [1, 10]
    | 2 => [2]
    | 3 => [1, 3]
    | 4 => [1, 3, 4]
    | 5 => [1, 3, 4, 5]
    | 6 => [1, 3, 4, 5, 6]
    | 7 => [1, 4, 6, 86]
    | 8 => [2]
    | 9 => [1, 108]
    | 10 => [2]
    | 11 => [112]
    | 12 => [2]
    | 13 => [2]
    | _ => []
  ro := fun t => t == 1
  mv := fun _ => false
  give := fun _ => false
  free := fun _ => []
  alive := fun i x => match i, x with
    | 10, true => some []
    | 10, false => some [1]
    | 86, true => some []
    | 86, false => some [1, 4, 6]
    | 108, true => some []
    | 108, false => some [1]
    | 112, true => some []
    | 112, false => some []
    | _, _ => none
theorem n130a10t (e : Env) (S : aA) : aw n130 10 true ⟨e, S⟩ = ⟨prune [] e, S⟩ := rfl
theorem n130a10f (e : Env) (S : aA) : aw n130 10 false ⟨e, S⟩ = ⟨prune [1] e, S⟩ := rfl
theorem n130a86t (e : Env) (S : aA) : aw n130 86 true ⟨e, S⟩ = ⟨prune [] e, S⟩ := rfl
theorem n130a86f (e : Env) (S : aA) : aw n130 86 false ⟨e, S⟩ = ⟨prune [1, 4, 6] e, S⟩ := rfl
theorem n130a108t (e : Env) (S : aA) : aw n130 108 true ⟨e, S⟩ = ⟨prune [] e, S⟩ := rfl
theorem n130a108f (e : Env) (S : aA) : aw n130 108 false ⟨e, S⟩ = ⟨prune [1] e, S⟩ := rfl
theorem n130a112t (e : Env) (S : aA) : aw n130 112 true ⟨e, S⟩ = ⟨prune [] e, S⟩ := rfl
theorem n130a112f (e : Env) (S : aA) : aw n130 112 false ⟨e, S⟩ = ⟨prune [] e, S⟩ := rfl
theorem n130k0 : n130.keep 0 = [1] := rfl
theorem n130k1 : n130.keep 1 = [1, 10] := rfl
theorem n130k2 : n130.keep 2 = [2] := rfl
theorem n130k3 : n130.keep 3 = [1, 3] := rfl
theorem n130k4 : n130.keep 4 = [1, 3, 4] := rfl
theorem n130k5 : n130.keep 5 = [1, 3, 4, 5] := rfl
theorem n130k6 : n130.keep 6 = [1, 3, 4, 5, 6] := rfl
theorem n130k7 : n130.keep 7 = [1, 4, 6, 86] := rfl
theorem n130k8 : n130.keep 8 = [2] := rfl
theorem n130k9 : n130.keep 9 = [1, 108] := rfl
theorem n130k10 : n130.keep 10 = [2] := rfl
theorem n130k11 : n130.keep 11 = [112] := rfl
theorem n130k12 : n130.keep 12 = [2] := rfl
theorem n130k13 : n130.keep 13 = [2] := rfl
theorem n130ro (t : Nat) : n130.ro t = (t == 1) := rfl
theorem n130mv (t : Nat) : n130.mv t = (false) := rfl
theorem n130gv (t : Nat) : n130.give t = (false) := rfl
theorem res130 : Try.f130.results.toList = [.tmp 2] := rfl
noncomputable def b130 : Code := aQ Try.f130
set_option maxRecDepth 100000 in
set_option maxHeartbeats 40000000 in
theorem rg_rostrumref_CommandFault_k3 (C : ak) (k_rostrumref_In : K_rostrumref_In C) (p0 : GCommand) (c : Code) (ho : cr 0 3 b130 = some c) (r : Bool) (hF : ck_rostrumref_CommandFault_k3 p0 = some r) : aH TT C.wide (evW TT C.wide n130 b130) n130 c ⟨[(1, .rp [.i .i64 p0.fKind, .s p0.fKey, .s p0.fField, .s p0.fText, .i .i64 p0.fN])], []⟩ = some (.normal, ⟨[(1, .rp [.i .i64 p0.fKind, .s p0.fKey, .s p0.fField, .s p0.fText, .i .i64 p0.fN]), (3, .v (.b r))], []⟩) := by
  have e := Option.some.inj (ho.symm.trans (rfl : cr 0 3 b130 = some _))
  subst e
  clear ho
  unfold ck_rostrumref_CommandFault_k3 at hF
  refine aG (p0.fKind == 1) ?_ ?_
  focus
    intro h1
    replace hF := aq h1 hF
    have hR := Option.some.inj hF
    clear hF
    subst hR
  rotate_left 1
  intro h1
  replace hF := ar h1 hF
  refine aG (p0.fKind == 4) ?_ ?_
  focus
    intro h2
    replace hF := aq h2 hF
    have hR := Option.some.inj hF
    clear hF
    subst hR
  rotate_left 1
  intro h2
  replace hF := ar h2 hF
  refine aG (p0.fKind == 7) ?_ ?_
  focus
    intro h3
    replace hF := aq h3 hF
    have hR := Option.some.inj hF
    clear hF
    subst hR
  rotate_left 1
  intro h3
  replace hF := ar h3 hF
  refine aG (p0.fKind == 8) ?_ ?_
  focus
    intro h4
    replace hF := aq h4 hF
    have hR := Option.some.inj hF
    clear hF
    subst hR
  rotate_left 1
  intro h4
  replace hF := ar h4 hF
  have g1 : C.wide 55 [.v (.i .i64 p0.fKind), .v (.i .i64 11), .v (.i .i64 16)] [] = some (.v (.b (rostrumref_In_v p0.fKind 11 16)), []) := k_rostrumref_In p0.fKind 11 16 _ (rostrumref_In_t p0.fKind 11 16)
  have g2 : rostrumref_In_v p0.fKind 11 16 = (decide (11 ≤ p0.fKind) && decide (p0.fKind ≤ 16)) := by first | rfl | (simp [rostrumref_In_v]; done) | (simp only [rostrumref_In_v]; decide)
  have hR := Option.some.inj hF
  clear hF
  subst hR
  all_goals (simp (maxSteps := 4000000) only [*, res130, n130a10t, n130a10f, n130a86t, n130a86f, n130a108t, n130a108f, n130a112t, n130a112f, n130k0, n130k1, n130k2, n130k3, n130k4, n130k5, n130k6, n130k7, n130k8, n130k9, n130k10, n130k11, n130k12, n130k13, n130ro, n130mv, n130gv, ↓RP, RB, ↓ah, ↓ac, ↓af, ↓ad, ↓ae, enter, aW, aC, aZ, be, aM, Mx.bw, opnd, Mx.bF, Nat.reduceBEq, bK, Mx.fit, bI, bY, toVs, cellsOf, toV, aO, aB, ax, Mx.put, ofConst, ofCell, Mx.prune, killB, killBs, aK, putDst, au, ao, aD, loadAt, bM, List.map, Nat.reduceAdd, Nat.reduceMul, cm, cn, aF, eqC, cg, aN, reduceIte, reduceCtorEq, az, bn, bq, co, bN, bD, aL, bx, lowC, lowP, forceAll, bound, bW, bg, bv, aU, br, kill, spendLoc, spendOk, setOwn, dropAl, dropAls, bG, bP, bd, cb, lend, lendA, aS, ay, bU, bL, bare, bQ, frz, bZ, bo, argE, argsE, bB, bT, fill, setCells, bR, takeParts, bp, aR, ownAt, Nat.reduceBNe, Nat.reduceSub, Nat.reduceLT, Nat.reduceLeDiff, lowA, bi, bJ, av, aJ, aX, bX, bO, bE, bS, ce, bV, bk, aI, bh, bj, bf, cd, Op.operands, Int.reduceBEq, Int.reduceLT, Int.reduceLE, Int.reduceNeg, Int.reduceBNe, bl, newB, ch, ck, cj, bne, ↓aj, ↓ai, bc, aP, bm, bu, aE, bH, Call.operands, ty3, ty4, ty9, ty25, ty34, ↓aa _ _ _ _ 3])
set_option maxRecDepth 100000 in
set_option maxHeartbeats 40000000 in
theorem rg_rostrumref_CommandFault_k5 (C : ak)  (p0 : GCommand) (p1 : Bool) (p2 : Bool) (c : Code) (ho : cr 0 5 b130 = some c) (r : Bool) (hF : ck_rostrumref_CommandFault_k5 p0 p1 p2 = some r) : aH TT C.wide (evW TT C.wide n130 b130) n130 c ⟨[(1, .rp [.i .i64 p0.fKind, .s p0.fKey, .s p0.fField, .s p0.fText, .i .i64 p0.fN]), (3, .v (.b p1)), (4, .v (.b p2))], []⟩ = some (.normal, ⟨[(1, .rp [.i .i64 p0.fKind, .s p0.fKey, .s p0.fField, .s p0.fText, .i .i64 p0.fN]), (3, .v (.b p1)), (4, .v (.b p2)), (5, .v (.b r))], []⟩) := by
  have e := Option.some.inj (ho.symm.trans (rfl : cr 0 5 b130 = some _))
  subst e
  clear ho
  unfold ck_rostrumref_CommandFault_k5 at hF
  refine aG (p0.fKind == 3) ?_ ?_
  focus
    intro h1
    replace hF := aq h1 hF
    have hR := Option.some.inj hF
    clear hF
    subst hR
  rotate_left 1
  intro h1
  replace hF := ar h1 hF
  refine aG (p0.fKind == 14) ?_ ?_
  focus
    intro h2
    replace hF := aq h2 hF
    have hR := Option.some.inj hF
    clear hF
    subst hR
  rotate_left 1
  intro h2
  replace hF := ar h2 hF
  have hR := Option.some.inj hF
  clear hF
  subst hR
  all_goals (simp (maxSteps := 4000000) only [*, res130, n130a10t, n130a10f, n130a86t, n130a86f, n130a108t, n130a108f, n130a112t, n130a112f, n130k0, n130k1, n130k2, n130k3, n130k4, n130k5, n130k6, n130k7, n130k8, n130k9, n130k10, n130k11, n130k12, n130k13, n130ro, n130mv, n130gv, ↓RP, RB, ↓ah, ↓ac, ↓af, ↓ad, ↓ae, enter, aW, aC, aZ, be, aM, Mx.bw, opnd, Mx.bF, Nat.reduceBEq, bK, Mx.fit, bI, bY, toVs, cellsOf, toV, aO, aB, ax, Mx.put, ofConst, ofCell, Mx.prune, killB, killBs, aK, putDst, au, ao, aD, loadAt, bM, List.map, Nat.reduceAdd, Nat.reduceMul, cm, cn, aF, eqC, cg, aN, reduceIte, reduceCtorEq, az, bn, bq, co, bN, bD, aL, bx, lowC, lowP, forceAll, bound, bW, bg, bv, aU, br, kill, spendLoc, spendOk, setOwn, dropAl, dropAls, bG, bP, bd, cb, lend, lendA, aS, ay, bU, bL, bare, bQ, frz, bZ, bo, argE, argsE, bB, bT, fill, setCells, bR, takeParts, bp, aR, ownAt, Nat.reduceBNe, Nat.reduceSub, Nat.reduceLT, Nat.reduceLeDiff, lowA, bi, bJ, av, aJ, aX, bX, bO, bE, bS, ce, bV, bk, aI, bh, bj, bf, cd, Op.operands, Int.reduceBEq, Int.reduceLT, Int.reduceLE, Int.reduceNeg, Int.reduceBNe, bl, newB, ch, ck, cj, bne, ↓aj, ↓ai, bc, aP, bm, bu, aE, bH, Call.operands, ty3, ty4, ty9, ty25, ty34, ↓aa _ _ _ _ 5])
set_option maxRecDepth 100000 in
set_option maxHeartbeats 40000000 in
theorem rg_rostrumref_CommandFault_k7 (C : ak)  (p0 : GCommand) (p1 : Bool) (p2 : Bool) (p3 : Bool) (p4 : Bool) (c : Code) (ho : cr 0 7 b130 = some c) (r : Bool) (hF : ck_rostrumref_CommandFault_k7 p0 p1 p2 p3 p4 = some r) : aH TT C.wide (evW TT C.wide n130 b130) n130 c ⟨[(1, .rp [.i .i64 p0.fKind, .s p0.fKey, .s p0.fField, .s p0.fText, .i .i64 p0.fN]), (3, .v (.b p1)), (4, .v (.b p2)), (5, .v (.b p3)), (6, .v (.b p4))], []⟩ = some (.normal, ⟨[(1, .rp [.i .i64 p0.fKind, .s p0.fKey, .s p0.fField, .s p0.fText, .i .i64 p0.fN]), (4, .v (.b p2)), (6, .v (.b p4)), (86, .v (.b r))], []⟩) := by
  have e := Option.some.inj (ho.symm.trans (rfl : cr 0 7 b130 = some _))
  subst e
  clear ho
  unfold ck_rostrumref_CommandFault_k7 at hF
  refine aG p1 ?_ ?_
  focus
    intro h1
    replace hF := aq h1 hF
    refine aG p2 ?_ ?_
    focus
      intro h2
      replace hF := aq h2 hF
      refine aG p3 ?_ ?_
      focus
        intro h3
        replace hF := aq h3 hF
        refine aG p4 ?_ ?_
        focus
          intro h4
          replace hF := aq h4 hF
          have hR := Option.some.inj hF
          clear hF
          subst hR
        rotate_left 1
        intro h4
        replace hF := ar h4 hF
        have hR := Option.some.inj hF
        clear hF
        subst hR
      rotate_left 2
      intro h3
      replace hF := ar h3 hF
      refine aT (p0.fN == 0) ?_ ?_
      focus
        intro h4
        replace hF := ar h4 hF
        have hR := Option.some.inj hF
        clear hF
        subst hR
      rotate_left 1
      intro h4
      replace hF := aq h4 hF
      refine aG p4 ?_ ?_
      focus
        intro h5
        replace hF := aq h5 hF
        have hR := Option.some.inj hF
        clear hF
        subst hR
      rotate_left 1
      intro h5
      replace hF := ar h5 hF
      have hR := Option.some.inj hF
      clear hF
      subst hR
    rotate_left 5
    intro h2
    replace hF := ar h2 hF
    unfold ck_rostrumref_CommandFault_k7_c0 at hF
    refine aT (cJ p0.fField ByteArray.empty) ?_ ?_
    focus
      intro h3
      replace hF := ar h3 hF
      have hR := Option.some.inj hF
      clear hF
      subst hR
    rotate_left 1
    intro h3
    replace hF := aq h3 hF
    refine aG p3 ?_ ?_
    focus
      intro h4
      replace hF := aq h4 hF
      refine aG p4 ?_ ?_
      focus
        intro h5
        replace hF := aq h5 hF
        have hR := Option.some.inj hF
        clear hF
        subst hR
      rotate_left 1
      intro h5
      replace hF := ar h5 hF
      have hR := Option.some.inj hF
      clear hF
      subst hR
    rotate_left 2
    intro h4
    replace hF := ar h4 hF
    refine aT (p0.fN == 0) ?_ ?_
    focus
      intro h5
      replace hF := ar h5 hF
      have hR := Option.some.inj hF
      clear hF
      subst hR
    rotate_left 1
    intro h5
    replace hF := aq h5 hF
    refine aG p4 ?_ ?_
    focus
      intro h6
      replace hF := aq h6 hF
      have hR := Option.some.inj hF
      clear hF
      subst hR
    rotate_left 1
    intro h6
    replace hF := ar h6 hF
    have hR := Option.some.inj hF
    clear hF
    subst hR
  rotate_left 11
  intro h1
  replace hF := ar h1 hF
  unfold ck_rostrumref_CommandFault_k7_c2 at hF
  refine aT (cJ p0.fText ByteArray.empty) ?_ ?_
  focus
    intro h2
    replace hF := ar h2 hF
    have hR := Option.some.inj hF
    clear hF
    subst hR
  rotate_left 1
  intro h2
  replace hF := aq h2 hF
  refine aG p2 ?_ ?_
  focus
    intro h3
    replace hF := aq h3 hF
    refine aG p3 ?_ ?_
    focus
      intro h4
      replace hF := aq h4 hF
      refine aG p4 ?_ ?_
      focus
        intro h5
        replace hF := aq h5 hF
        have hR := Option.some.inj hF
        clear hF
        subst hR
      rotate_left 1
      intro h5
      replace hF := ar h5 hF
      have hR := Option.some.inj hF
      clear hF
      subst hR
    rotate_left 2
    intro h4
    replace hF := ar h4 hF
    refine aT (p0.fN == 0) ?_ ?_
    focus
      intro h5
      replace hF := ar h5 hF
      have hR := Option.some.inj hF
      clear hF
      subst hR
    rotate_left 1
    intro h5
    replace hF := aq h5 hF
    refine aG p4 ?_ ?_
    focus
      intro h6
      replace hF := aq h6 hF
      have hR := Option.some.inj hF
      clear hF
      subst hR
    rotate_left 1
    intro h6
    replace hF := ar h6 hF
    have hR := Option.some.inj hF
    clear hF
    subst hR
  rotate_left 5
  intro h3
  replace hF := ar h3 hF
  unfold ck_rostrumref_CommandFault_k7_c1 at hF
  refine aT (cJ p0.fField ByteArray.empty) ?_ ?_
  focus
    intro h4
    replace hF := ar h4 hF
    have hR := Option.some.inj hF
    clear hF
    subst hR
  rotate_left 1
  intro h4
  replace hF := aq h4 hF
  refine aG p3 ?_ ?_
  focus
    intro h5
    replace hF := aq h5 hF
    refine aG p4 ?_ ?_
    focus
      intro h6
      replace hF := aq h6 hF
      have hR := Option.some.inj hF
      clear hF
      subst hR
    rotate_left 1
    intro h6
    replace hF := ar h6 hF
    have hR := Option.some.inj hF
    clear hF
    subst hR
  rotate_left 2
  intro h5
  replace hF := ar h5 hF
  refine aT (p0.fN == 0) ?_ ?_
  focus
    intro h6
    replace hF := ar h6 hF
    have hR := Option.some.inj hF
    clear hF
    subst hR
  rotate_left 1
  intro h6
  replace hF := aq h6 hF
  refine aG p4 ?_ ?_
  focus
    intro h7
    replace hF := aq h7 hF
    have hR := Option.some.inj hF
    clear hF
    subst hR
  rotate_left 1
  intro h7
  replace hF := ar h7 hF
  have hR := Option.some.inj hF
  clear hF
  subst hR
  all_goals (simp (maxSteps := 4000000) only [*, res130, n130a10t, n130a10f, n130a86t, n130a86f, n130a108t, n130a108f, n130a112t, n130a112f, n130k0, n130k1, n130k2, n130k3, n130k4, n130k5, n130k6, n130k7, n130k8, n130k9, n130k10, n130k11, n130k12, n130k13, n130ro, n130mv, n130gv, ↓RP, RB, ↓ah, ↓ac, ↓af, ↓ad, ↓ae, enter, aW, aC, aZ, be, aM, Mx.bw, opnd, Mx.bF, Nat.reduceBEq, bK, Mx.fit, bI, bY, toVs, cellsOf, toV, aO, aB, ax, Mx.put, ofConst, ofCell, Mx.prune, killB, killBs, aK, putDst, au, ao, aD, loadAt, bM, List.map, Nat.reduceAdd, Nat.reduceMul, cm, cn, aF, eqC, cg, aN, reduceIte, reduceCtorEq, az, bn, bq, co, bN, bD, aL, bx, lowC, lowP, forceAll, bound, bW, bg, bv, aU, br, kill, spendLoc, spendOk, setOwn, dropAl, dropAls, bG, bP, bd, cb, lend, lendA, aS, ay, bU, bL, bare, bQ, frz, bZ, bo, argE, argsE, bB, bT, fill, setCells, bR, takeParts, bp, aR, ownAt, Nat.reduceBNe, Nat.reduceSub, Nat.reduceLT, Nat.reduceLeDiff, lowA, bi, bJ, av, aJ, aX, bX, bO, bE, bS, ce, bV, bk, aI, bh, bj, bf, cd, Op.operands, Int.reduceBEq, Int.reduceLT, Int.reduceLE, Int.reduceNeg, Int.reduceBNe, bl, newB, ch, ck, cj, bne, ↓aj, ↓ai, bc, aP, bm, bu, aE, bH, Call.operands, ty3, ty4, ty9, ty25, ty34, ↓aa _ _ _ _ 7])
set_option maxRecDepth 100000 in
set_option maxHeartbeats 40000000 in
theorem rg_rostrumref_CommandFault_k9 (C : ak) (k_rostrumref_fieldMay : K_rostrumref_fieldMay C) (k_rostrumref_textMay : K_rostrumref_textMay C) (p0 : GCommand) (p1 : Bool) (p2 : Bool) (c : Code) (ho : cr 0 9 b130 = some c) (r : Bool) (hF : ck_rostrumref_CommandFault_k9 p0 p1 p2 = some r) : aH TT C.wide (evW TT C.wide n130 b130) n130 c ⟨[(1, .rp [.i .i64 p0.fKind, .s p0.fKey, .s p0.fField, .s p0.fText, .i .i64 p0.fN]), (4, .v (.b p1)), (6, .v (.b p2))], []⟩ = some (.normal, ⟨[(1, .rp [.i .i64 p0.fKind, .s p0.fKey, .s p0.fField, .s p0.fText, .i .i64 p0.fN]), (108, .v (.b r))], []⟩) := by
  have e := Option.some.inj (ho.symm.trans (rfl : cr 0 9 b130 = some _))
  subst e
  clear ho
  unfold ck_rostrumref_CommandFault_k9 at hF
  refine aT p2 ?_ ?_
  focus
    intro h1
    replace hF := ar h1 hF
    refine aT p1 ?_ ?_
    focus
      intro h2
      replace hF := ar h2 hF
      have g1 : C.wide 80 [.v (.s p0.fText)] [] = some (.v (.b (rostrumref_textMay_v p0.fText)), []) := k_rostrumref_textMay p0.fText _ (rostrumref_textMay_t p0.fText)
      have hR := Option.some.inj hF
      clear hF
      subst hR
    rotate_left 1
    intro h2
    replace hF := aq h2 hF
    have g2 : C.wide 81 [.v (.s p0.fField)] [] = some (.v (.b (rostrumref_fieldMay_v p0.fField)), []) := k_rostrumref_fieldMay p0.fField _ (rostrumref_fieldMay_t p0.fField)
    refine aG (rostrumref_fieldMay_v p0.fField) ?_ ?_
    focus
      intro h3
      replace hF := aq h3 hF
      have g1 : C.wide 80 [.v (.s p0.fText)] [] = some (.v (.b (rostrumref_textMay_v p0.fText)), []) := k_rostrumref_textMay p0.fText _ (rostrumref_textMay_t p0.fText)
      have hR := Option.some.inj hF
      clear hF
      subst hR
    rotate_left 1
    intro h3
    replace hF := ar h3 hF
    have hR := Option.some.inj hF
    clear hF
    subst hR
  rotate_left 3
  intro h1
  replace hF := aq h1 hF
  have g3 : C.wide 81 [.v (.s p0.fKey)] [] = some (.v (.b (rostrumref_fieldMay_v p0.fKey)), []) := k_rostrumref_fieldMay p0.fKey _ (rostrumref_fieldMay_t p0.fKey)
  refine aT (rostrumref_fieldMay_v p0.fKey) ?_ ?_
  focus
    intro h2
    replace hF := ar h2 hF
    have hR := Option.some.inj hF
    clear hF
    subst hR
  rotate_left 1
  intro h2
  replace hF := aq h2 hF
  refine aT p1 ?_ ?_
  focus
    intro h3
    replace hF := ar h3 hF
    have g1 : C.wide 80 [.v (.s p0.fText)] [] = some (.v (.b (rostrumref_textMay_v p0.fText)), []) := k_rostrumref_textMay p0.fText _ (rostrumref_textMay_t p0.fText)
    have hR := Option.some.inj hF
    clear hF
    subst hR
  rotate_left 1
  intro h3
  replace hF := aq h3 hF
  have g2 : C.wide 81 [.v (.s p0.fField)] [] = some (.v (.b (rostrumref_fieldMay_v p0.fField)), []) := k_rostrumref_fieldMay p0.fField _ (rostrumref_fieldMay_t p0.fField)
  refine aG (rostrumref_fieldMay_v p0.fField) ?_ ?_
  focus
    intro h4
    replace hF := aq h4 hF
    have g1 : C.wide 80 [.v (.s p0.fText)] [] = some (.v (.b (rostrumref_textMay_v p0.fText)), []) := k_rostrumref_textMay p0.fText _ (rostrumref_textMay_t p0.fText)
    have hR := Option.some.inj hF
    clear hF
    subst hR
  rotate_left 1
  intro h4
  replace hF := ar h4 hF
  have hR := Option.some.inj hF
  clear hF
  subst hR
  all_goals (simp (maxSteps := 4000000) only [*, res130, n130a10t, n130a10f, n130a86t, n130a86f, n130a108t, n130a108f, n130a112t, n130a112f, n130k0, n130k1, n130k2, n130k3, n130k4, n130k5, n130k6, n130k7, n130k8, n130k9, n130k10, n130k11, n130k12, n130k13, n130ro, n130mv, n130gv, ↓RP, RB, ↓ah, ↓ac, ↓af, ↓ad, ↓ae, enter, aW, aC, aZ, be, aM, Mx.bw, opnd, Mx.bF, Nat.reduceBEq, bK, Mx.fit, bI, bY, toVs, cellsOf, toV, aO, aB, ax, Mx.put, ofConst, ofCell, Mx.prune, killB, killBs, aK, putDst, au, ao, aD, loadAt, bM, List.map, Nat.reduceAdd, Nat.reduceMul, cm, cn, aF, eqC, cg, aN, reduceIte, reduceCtorEq, az, bn, bq, co, bN, bD, aL, bx, lowC, lowP, forceAll, bound, bW, bg, bv, aU, br, kill, spendLoc, spendOk, setOwn, dropAl, dropAls, bG, bP, bd, cb, lend, lendA, aS, ay, bU, bL, bare, bQ, frz, bZ, bo, argE, argsE, bB, bT, fill, setCells, bR, takeParts, bp, aR, ownAt, Nat.reduceBNe, Nat.reduceSub, Nat.reduceLT, Nat.reduceLeDiff, lowA, bi, bJ, av, aJ, aX, bX, bO, bE, bS, ce, bV, bk, aI, bh, bj, bf, cd, Op.operands, Int.reduceBEq, Int.reduceLT, Int.reduceLE, Int.reduceNeg, Int.reduceBNe, bl, newB, ch, ck, cj, bne, ↓aj, ↓ai, bc, aP, bm, bu, aE, bH, Call.operands, ty3, ty4, ty9, ty25, ty34, ↓aa _ _ _ _ 9])
set_option maxRecDepth 100000 in
set_option maxHeartbeats 40000000 in
theorem r_rostrumref_CommandFault (C : ak) (k_rostrumref_In : K_rostrumref_In C) (k_rostrumref_fieldMay : K_rostrumref_fieldMay C) (k_rostrumref_textMay : K_rostrumref_textMay C) (k_rostrumref_countMay : K_rostrumref_countMay C) (p0 : GCommand) (r : Int) (hF : rostrumref_CommandFault p0 = some r) : cF TT C.wide (evW TT C.wide n130 b130) n130 Try.f130.results.toList (aQ Try.f130) [.agg [.v (.i .i64 p0.fKind), .v (.s p0.fKey), .v (.s p0.fField), .v (.s p0.fText), .v (.i .i64 p0.fN)]] [] = some (.v (.i .i64 r), []) := by
  unfold rostrumref_CommandFault at hF
  have g1 : C.wide 55 [.v (.i .i64 p0.fKind), .v (.i .i64 1), .v (.i .i64 22)] [] = some (.v (.b (rostrumref_In_v p0.fKind 1 22)), []) := k_rostrumref_In p0.fKind 1 22 _ (rostrumref_In_t p0.fKind 1 22)
  have g2 : rostrumref_In_v p0.fKind 1 22 = (decide (1 ≤ p0.fKind) && decide (p0.fKind ≤ 22)) := by first | rfl | (simp [rostrumref_In_v]; done) | (simp only [rostrumref_In_v]; decide)
  refine aT (decide (1 ≤ p0.fKind)) ?_ ?_
  focus
    intro h1
    replace hF := ar h1 hF
    have hR := Option.some.inj hF
    clear hF
    subst hR
  rotate_left 1
  intro h1
  replace hF := aq h1 hF
  refine aT (decide (p0.fKind ≤ 22)) ?_ ?_
  focus
    intro h2
    replace hF := ar h2 hF
    have hR := Option.some.inj hF
    clear hF
    subst hR
  rotate_left 1
  intro h2
  replace hF := aq h2 hF
  have g3 : @cR TT C.wide (evW TT C.wide n130 b130) n130 0 3 ⟨[(1, .rp [.i .i64 p0.fKind, .s p0.fKey, .s p0.fField, .s p0.fText, .i .i64 p0.fN])], []⟩ ⟨_⟩ = some (.normal, ⟨[(1, .rp [.i .i64 p0.fKind, .s p0.fKey, .s p0.fField, .s p0.fText, .i .i64 p0.fN]), (3, .v (.b (ck_rostrumref_CommandFault_k3_v p0)))], []⟩) := rg_rostrumref_CommandFault_k3 C k_rostrumref_In p0 _ rfl (ck_rostrumref_CommandFault_k3_v p0) (ck_rostrumref_CommandFault_k3_t p0)
  have g4 : C.wide 55 [.v (.i .i64 p0.fKind), .v (.i .i64 4), .v (.i .i64 6)] [] = some (.v (.b (rostrumref_In_v p0.fKind 4 6)), []) := k_rostrumref_In p0.fKind 4 6 _ (rostrumref_In_t p0.fKind 4 6)
  have g5 : rostrumref_In_v p0.fKind 4 6 = (decide (4 ≤ p0.fKind) && decide (p0.fKind ≤ 6)) := by first | rfl | (simp [rostrumref_In_v]; done) | (simp only [rostrumref_In_v]; decide)
  have g6 : @cR TT C.wide (evW TT C.wide n130 b130) n130 0 5 ⟨[(1, .rp [.i .i64 p0.fKind, .s p0.fKey, .s p0.fField, .s p0.fText, .i .i64 p0.fN]), (3, .v (.b (ck_rostrumref_CommandFault_k3_v p0))), (4, .v (.b (decide (4 ≤ p0.fKind) && decide (p0.fKind ≤ 6))))], []⟩ ⟨_⟩ = some (.normal, ⟨[(1, .rp [.i .i64 p0.fKind, .s p0.fKey, .s p0.fField, .s p0.fText, .i .i64 p0.fN]), (3, .v (.b (ck_rostrumref_CommandFault_k3_v p0))), (4, .v (.b (decide (4 ≤ p0.fKind) && decide (p0.fKind ≤ 6)))), (5, .v (.b (ck_rostrumref_CommandFault_k5_v p0 (ck_rostrumref_CommandFault_k3_v p0) (decide (4 ≤ p0.fKind) && decide (p0.fKind ≤ 6)))))], []⟩) := rg_rostrumref_CommandFault_k5 C p0 (ck_rostrumref_CommandFault_k3_v p0) (decide (4 ≤ p0.fKind) && decide (p0.fKind ≤ 6)) _ rfl (ck_rostrumref_CommandFault_k5_v p0 (ck_rostrumref_CommandFault_k3_v p0) (decide (4 ≤ p0.fKind) && decide (p0.fKind ≤ 6))) (ck_rostrumref_CommandFault_k5_t p0 (ck_rostrumref_CommandFault_k3_v p0) (decide (4 ≤ p0.fKind) && decide (p0.fKind ≤ 6)))
  have g7 : @cR TT C.wide (evW TT C.wide n130 b130) n130 0 7 ⟨[(1, .rp [.i .i64 p0.fKind, .s p0.fKey, .s p0.fField, .s p0.fText, .i .i64 p0.fN]), (3, .v (.b (ck_rostrumref_CommandFault_k3_v p0))), (4, .v (.b (decide (4 ≤ p0.fKind) && decide (p0.fKind ≤ 6)))), (5, .v (.b (ck_rostrumref_CommandFault_k5_v p0 (ck_rostrumref_CommandFault_k3_v p0) (decide (4 ≤ p0.fKind) && decide (p0.fKind ≤ 6))))), (6, .v (.b (!(p0.fKind == 22))))], []⟩ ⟨_⟩ = some (.normal, ⟨[(1, .rp [.i .i64 p0.fKind, .s p0.fKey, .s p0.fField, .s p0.fText, .i .i64 p0.fN]), (4, .v (.b (decide (4 ≤ p0.fKind) && decide (p0.fKind ≤ 6)))), (6, .v (.b (!(p0.fKind == 22)))), (86, .v (.b (ck_rostrumref_CommandFault_k7_v p0 (ck_rostrumref_CommandFault_k3_v p0) (decide (4 ≤ p0.fKind) && decide (p0.fKind ≤ 6)) (ck_rostrumref_CommandFault_k5_v p0 (ck_rostrumref_CommandFault_k3_v p0) (decide (4 ≤ p0.fKind) && decide (p0.fKind ≤ 6))) (!(p0.fKind == 22)))))], []⟩) := rg_rostrumref_CommandFault_k7 C p0 (ck_rostrumref_CommandFault_k3_v p0) (decide (4 ≤ p0.fKind) && decide (p0.fKind ≤ 6)) (ck_rostrumref_CommandFault_k5_v p0 (ck_rostrumref_CommandFault_k3_v p0) (decide (4 ≤ p0.fKind) && decide (p0.fKind ≤ 6))) (!(p0.fKind == 22)) _ rfl (ck_rostrumref_CommandFault_k7_v p0 (ck_rostrumref_CommandFault_k3_v p0) (decide (4 ≤ p0.fKind) && decide (p0.fKind ≤ 6)) (ck_rostrumref_CommandFault_k5_v p0 (ck_rostrumref_CommandFault_k3_v p0) (decide (4 ≤ p0.fKind) && decide (p0.fKind ≤ 6))) (!(p0.fKind == 22))) (ck_rostrumref_CommandFault_k7_t p0 (ck_rostrumref_CommandFault_k3_v p0) (decide (4 ≤ p0.fKind) && decide (p0.fKind ≤ 6)) (ck_rostrumref_CommandFault_k5_v p0 (ck_rostrumref_CommandFault_k3_v p0) (decide (4 ≤ p0.fKind) && decide (p0.fKind ≤ 6))) (!(p0.fKind == 22)))
  refine aG (ck_rostrumref_CommandFault_k7_v p0 (ck_rostrumref_CommandFault_k3_v p0) (decide (4 ≤ p0.fKind) && decide (p0.fKind ≤ 6)) (ck_rostrumref_CommandFault_k5_v p0 (ck_rostrumref_CommandFault_k3_v p0) (decide (4 ≤ p0.fKind) && decide (p0.fKind ≤ 6))) (!(p0.fKind == 22))) ?_ ?_
  focus
    intro h3
    replace hF := aq h3 hF
    have hR := Option.some.inj hF
    clear hF
    subst hR
  rotate_left 1
  intro h3
  replace hF := ar h3 hF
  have g8 : @cR TT C.wide (evW TT C.wide n130 b130) n130 0 9 ⟨[(1, .rp [.i .i64 p0.fKind, .s p0.fKey, .s p0.fField, .s p0.fText, .i .i64 p0.fN]), (4, .v (.b (decide (4 ≤ p0.fKind) && decide (p0.fKind ≤ 6)))), (6, .v (.b (!(p0.fKind == 22))))], []⟩ ⟨_⟩ = some (.normal, ⟨[(1, .rp [.i .i64 p0.fKind, .s p0.fKey, .s p0.fField, .s p0.fText, .i .i64 p0.fN]), (108, .v (.b (ck_rostrumref_CommandFault_k9_v p0 (decide (4 ≤ p0.fKind) && decide (p0.fKind ≤ 6)) (!(p0.fKind == 22)))))], []⟩) := rg_rostrumref_CommandFault_k9 C k_rostrumref_fieldMay k_rostrumref_textMay p0 (decide (4 ≤ p0.fKind) && decide (p0.fKind ≤ 6)) (!(p0.fKind == 22)) _ rfl (ck_rostrumref_CommandFault_k9_v p0 (decide (4 ≤ p0.fKind) && decide (p0.fKind ≤ 6)) (!(p0.fKind == 22))) (ck_rostrumref_CommandFault_k9_t p0 (decide (4 ≤ p0.fKind) && decide (p0.fKind ≤ 6)) (!(p0.fKind == 22)))
  refine aG (ck_rostrumref_CommandFault_k9_v p0 (decide (4 ≤ p0.fKind) && decide (p0.fKind ≤ 6)) (!(p0.fKind == 22))) ?_ ?_
  focus
    intro h4
    replace hF := aq h4 hF
    have hR := Option.some.inj hF
    clear hF
    subst hR
  rotate_left 1
  intro h4
  replace hF := ar h4 hF
  have g9 : C.wide 82 [.v (.i .i64 p0.fN)] [] = some (.v (.b (rostrumref_countMay_v p0.fN)), []) := k_rostrumref_countMay p0.fN _ (rostrumref_countMay_t p0.fN)
  refine aG (rostrumref_countMay_v p0.fN) ?_ ?_
  focus
    intro h5
    replace hF := aq h5 hF
    have hR := Option.some.inj hF
    clear hF
    subst hR
  rotate_left 1
  intro h5
  replace hF := ar h5 hF
  have hR := Option.some.inj hF
  clear hF
  subst hR
  all_goals (rw [ba]; show cp _ _ _ (aH _ _ _ _ (Code.seq _ _) _) = _; simp (maxSteps := 4000000) only [*, res130, n130a10t, n130a10f, n130a86t, n130a86f, n130a108t, n130a108f, n130a112t, n130a112f, n130k0, n130k1, n130k2, n130k3, n130k4, n130k5, n130k6, n130k7, n130k8, n130k9, n130k10, n130k11, n130k12, n130k13, n130ro, n130mv, n130gv, ↓RP, RB, ↓ah, ↓ac, ↓af, ↓ad, ↓ae, enter, aW, aC, aZ, be, aM, Mx.bw, opnd, Mx.bF, Nat.reduceBEq, bK, Mx.fit, bI, bY, toVs, cellsOf, toV, aO, aB, ax, Mx.put, ofConst, ofCell, Mx.prune, killB, killBs, aK, putDst, au, ao, aD, loadAt, bM, List.map, Nat.reduceAdd, Nat.reduceMul, cm, cn, aF, eqC, cg, aN, reduceIte, reduceCtorEq, az, bn, bq, co, bN, bD, aL, bx, lowC, lowP, forceAll, bound, bW, bg, bv, aU, br, kill, spendLoc, spendOk, setOwn, dropAl, dropAls, bG, bP, bd, cb, lend, lendA, aS, ay, bU, bL, bare, bQ, frz, bZ, bo, argE, argsE, bB, bT, fill, setCells, bR, takeParts, bp, aR, ownAt, Nat.reduceBNe, Nat.reduceSub, Nat.reduceLT, Nat.reduceLeDiff, lowA, bi, bJ, av, aJ, aX, bX, bO, bE, bS, ce, bV, bk, aI, bh, bj, bf, cd, Op.operands, Int.reduceBEq, Int.reduceLT, Int.reduceLE, Int.reduceNeg, Int.reduceBNe, bl, newB, ch, ck, cj, bne, ↓aj, ↓ai, bc, aP, bm, bu, aE, bH, Call.operands, ty3, ty4, ty9, ty25, ty34, ↓aa _ _ _ _ 0, ↓aa _ _ _ _ 1, ↓aa _ _ _ _ 2, ↓bC _ _ _ _ 3, ↓aa _ _ _ _ 4, ↓bC _ _ _ _ 5, ↓aa _ _ _ _ 6, ↓bC _ _ _ _ 7, ↓aa _ _ _ _ 8, ↓bC _ _ _ _ 9, ↓aa _ _ _ _ 10, ↓aa _ _ _ _ 11, ↓aa _ _ _ _ 12, ↓aa _ _ _ _ 13])
/-! ### rostrumref.CallFault -/
def n104 : cC where
  keep := fun i => match i with
    | 0 => [1]
    | 1 => [1, 5]
    | 2 => [14]
    | 3 => [2]
    | 4 => [2]
    | 5 => [1, 24]
    | 6 => [2]
    | 7 => [2]
    | _ => []
  ro := fun t => t == 1
  mv := fun _ => false
  give := fun _ => false
  free := fun _ => []
  alive := fun i x => match i, x with
    | 5, true => some [1]
    | 5, false => some [1]
    | 14, true => some []
    | 14, false => some []
    | 24, true => some []
    | 24, false => some [1]
    | _, _ => none
theorem n104a5t (e : Env) (S : aA) : aw n104 5 true ⟨e, S⟩ = ⟨prune [1] e, S⟩ := rfl
theorem n104a5f (e : Env) (S : aA) : aw n104 5 false ⟨e, S⟩ = ⟨prune [1] e, S⟩ := rfl
theorem n104a14t (e : Env) (S : aA) : aw n104 14 true ⟨e, S⟩ = ⟨prune [] e, S⟩ := rfl
theorem n104a14f (e : Env) (S : aA) : aw n104 14 false ⟨e, S⟩ = ⟨prune [] e, S⟩ := rfl
theorem n104a24t (e : Env) (S : aA) : aw n104 24 true ⟨e, S⟩ = ⟨prune [] e, S⟩ := rfl
theorem n104a24f (e : Env) (S : aA) : aw n104 24 false ⟨e, S⟩ = ⟨prune [1] e, S⟩ := rfl
theorem n104k0 : n104.keep 0 = [1] := rfl
theorem n104k1 : n104.keep 1 = [1, 5] := rfl
theorem n104k2 : n104.keep 2 = [14] := rfl
theorem n104k3 : n104.keep 3 = [2] := rfl
theorem n104k4 : n104.keep 4 = [2] := rfl
theorem n104k5 : n104.keep 5 = [1, 24] := rfl
theorem n104k6 : n104.keep 6 = [2] := rfl
theorem n104k7 : n104.keep 7 = [2] := rfl
theorem n104ro (t : Nat) : n104.ro t = (t == 1) := rfl
theorem n104mv (t : Nat) : n104.mv t = (false) := rfl
theorem n104gv (t : Nat) : n104.give t = (false) := rfl
theorem res104 : Try.f104.results.toList = [.tmp 2] := rfl
noncomputable def b104 : Code := aQ Try.f104
set_option maxRecDepth 100000 in
set_option maxHeartbeats 40000000 in
theorem r_rostrumref_CallFault (C : ak) (k_rostrumref_numberMay : K_rostrumref_numberMay C) (k_rostrumref_CommandFault : K_rostrumref_CommandFault C) (p0 : GCall) (r : Int) (hF : rostrumref_CallFault p0 = some r) : cF TT C.wide (evW TT C.wide n104 b104) n104 Try.f104.results.toList (aQ Try.f104) [.agg [.v (.i .i64 p0.fClient), .v (.i .i64 p0.fSeq), .v (.i .i64 p0.fCommand.fKind), .v (.s p0.fCommand.fKey), .v (.s p0.fCommand.fField), .v (.s p0.fCommand.fText), .v (.i .i64 p0.fCommand.fN)]] [] = some (.v (.i .i64 r), []) := by
  unfold rostrumref_CallFault at hF
  refine aT (p0.fClient == 0) ?_ ?_
  focus
    intro h1
    replace hF := ar h1 hF
    have g1 : C.wide 91 [.v (.i .i64 p0.fClient)] [] = some (.v (.b (rostrumref_numberMay_v p0.fClient)), []) := k_rostrumref_numberMay p0.fClient _ (rostrumref_numberMay_t p0.fClient)
    refine aT (rostrumref_numberMay_v p0.fClient) ?_ ?_
    focus
      intro h2
      replace hF := ar h2 hF
      have hR := Option.some.inj hF
      clear hF
      subst hR
    rotate_left 1
    intro h2
    replace hF := aq h2 hF
    have g2 : C.wide 91 [.v (.i .i64 p0.fSeq)] [] = some (.v (.b (rostrumref_numberMay_v p0.fSeq)), []) := k_rostrumref_numberMay p0.fSeq _ (rostrumref_numberMay_t p0.fSeq)
    refine aG (rostrumref_numberMay_v p0.fSeq) ?_ ?_
    focus
      intro h3
      replace hF := aq h3 hF
      have g3 : C.wide 130 [.agg [.v (.i .i64 p0.fCommand.fKind), .v (.s p0.fCommand.fKey), .v (.s p0.fCommand.fField), .v (.s p0.fCommand.fText), .v (.i .i64 p0.fCommand.fN)]] [] = some (.v (.i .i64 (rostrumref_CommandFault_v p0.fCommand)), []) := k_rostrumref_CommandFault p0.fCommand _ (rostrumref_CommandFault_t p0.fCommand)
      have hR := Option.some.inj hF
      clear hF
      subst hR
    rotate_left 1
    intro h3
    replace hF := ar h3 hF
    have hR := Option.some.inj hF
    clear hF
    subst hR
  rotate_left 3
  intro h1
  replace hF := aq h1 hF
  unfold rostrumref_CallFault_c0 at hF
  refine aT (p0.fSeq == 0) ?_ ?_
  focus
    intro h2
    replace hF := ar h2 hF
    have hR := Option.some.inj hF
    clear hF
    subst hR
  rotate_left 1
  intro h2
  replace hF := aq h2 hF
  refine aT (p0.fCommand.fKind == 0) ?_ ?_
  focus
    intro h3
    replace hF := ar h3 hF
    have hR := Option.some.inj hF
    clear hF
    subst hR
  rotate_left 1
  intro h3
  replace hF := aq h3 hF
  refine aT (cJ p0.fCommand.fKey ByteArray.empty) ?_ ?_
  focus
    intro h4
    replace hF := ar h4 hF
    have hR := Option.some.inj hF
    clear hF
    subst hR
  rotate_left 1
  intro h4
  replace hF := aq h4 hF
  refine aT (cJ p0.fCommand.fField ByteArray.empty) ?_ ?_
  focus
    intro h5
    replace hF := ar h5 hF
    have hR := Option.some.inj hF
    clear hF
    subst hR
  rotate_left 1
  intro h5
  replace hF := aq h5 hF
  refine aT (cJ p0.fCommand.fText ByteArray.empty) ?_ ?_
  focus
    intro h6
    replace hF := ar h6 hF
    have hR := Option.some.inj hF
    clear hF
    subst hR
  rotate_left 1
  intro h6
  replace hF := aq h6 hF
  refine aG (p0.fCommand.fN == 0) ?_ ?_
  focus
    intro h7
    replace hF := aq h7 hF
    have hR := Option.some.inj hF
    clear hF
    subst hR
  rotate_left 1
  intro h7
  replace hF := ar h7 hF
  have hR := Option.some.inj hF
  clear hF
  subst hR
  all_goals (rw [ba]; show cp _ _ _ (aH _ _ _ _ (Code.seq _ _) _) = _; simp (maxSteps := 4000000) only [*, res104, n104a5t, n104a5f, n104a14t, n104a14f, n104a24t, n104a24f, n104k0, n104k1, n104k2, n104k3, n104k4, n104k5, n104k6, n104k7, n104ro, n104mv, n104gv, ↓RP, RB, ↓ah, ↓ac, ↓af, ↓ad, ↓ae, enter, aW, aC, aZ, be, aM, Mx.bw, opnd, Mx.bF, Nat.reduceBEq, bK, Mx.fit, bI, bY, toVs, cellsOf, toV, aO, aB, ax, Mx.put, ofConst, ofCell, Mx.prune, killB, killBs, aK, putDst, au, ao, aD, loadAt, bM, List.map, Nat.reduceAdd, Nat.reduceMul, cm, cn, aF, eqC, cg, aN, reduceIte, reduceCtorEq, az, bn, bq, co, bN, bD, aL, bx, lowC, lowP, forceAll, bound, bW, bg, bv, aU, br, kill, spendLoc, spendOk, setOwn, dropAl, dropAls, bG, bP, bd, cb, lend, lendA, aS, ay, bU, bL, bare, bQ, frz, bZ, bo, argE, argsE, bB, bT, fill, setCells, bR, takeParts, bp, aR, ownAt, Nat.reduceBNe, Nat.reduceSub, Nat.reduceLT, Nat.reduceLeDiff, lowA, bi, bJ, av, aJ, aX, bX, bO, bE, bS, ce, bV, bk, aI, bh, bj, bf, cd, Op.operands, Int.reduceBEq, Int.reduceLT, Int.reduceLE, Int.reduceNeg, Int.reduceBNe, bl, newB, ch, ck, cj, bne, ↓aj, ↓ai, ↓aa, ↓am, bc, aP, bm, bu, aE, bH, Call.operands, ty3, ty4, ty9, ty25, ty34, ty36])
/-! ### rostrumref.ItemFault -/
def n58 : cC where
  keep := fun i => match i with
    | 0 => [1]
    | 1 => [1, 12]
    | 2 => [2]
    | 3 => [1, 15]
    | 4 => [2]
    | 5 => [22]
    | 6 => [2]
    | 7 => [2]
    | _ => []
  ro := fun t => t == 1
  mv := fun _ => false
  give := fun _ => false
  free := fun _ => []
  alive := fun i x => match i, x with
    | 12, true => some []
    | 12, false => some [1]
    | 15, true => some [1]
    | 15, false => some [1]
    | 22, true => some []
    | 22, false => some []
    | _, _ => none
theorem n58a12t (e : Env) (S : aA) : aw n58 12 true ⟨e, S⟩ = ⟨prune [] e, S⟩ := rfl
theorem n58a12f (e : Env) (S : aA) : aw n58 12 false ⟨e, S⟩ = ⟨prune [1] e, S⟩ := rfl
theorem n58a15t (e : Env) (S : aA) : aw n58 15 true ⟨e, S⟩ = ⟨prune [1] e, S⟩ := rfl
theorem n58a15f (e : Env) (S : aA) : aw n58 15 false ⟨e, S⟩ = ⟨prune [1] e, S⟩ := rfl
theorem n58a22t (e : Env) (S : aA) : aw n58 22 true ⟨e, S⟩ = ⟨prune [] e, S⟩ := rfl
theorem n58a22f (e : Env) (S : aA) : aw n58 22 false ⟨e, S⟩ = ⟨prune [] e, S⟩ := rfl
theorem n58k0 : n58.keep 0 = [1] := rfl
theorem n58k1 : n58.keep 1 = [1, 12] := rfl
theorem n58k2 : n58.keep 2 = [2] := rfl
theorem n58k3 : n58.keep 3 = [1, 15] := rfl
theorem n58k4 : n58.keep 4 = [2] := rfl
theorem n58k5 : n58.keep 5 = [22] := rfl
theorem n58k6 : n58.keep 6 = [2] := rfl
theorem n58k7 : n58.keep 7 = [2] := rfl
theorem n58ro (t : Nat) : n58.ro t = (t == 1) := rfl
theorem n58mv (t : Nat) : n58.mv t = (false) := rfl
theorem n58gv (t : Nat) : n58.give t = (false) := rfl
theorem res58 : Try.f58.results.toList = [.tmp 2] := rfl
noncomputable def b58 : Code := aQ Try.f58
set_option maxRecDepth 100000 in
set_option maxHeartbeats 40000000 in
theorem r_rostrumref_ItemFault (C : ak) (k_rostrumref_numberMay : K_rostrumref_numberMay C) (k_rostrumref_In : K_rostrumref_In C) (k_rostrumref_CallFault : K_rostrumref_CallFault C) (p0 : GItem) (r : Int) (hF : rostrumref_ItemFault p0 = some r) : cF TT C.wide (evW TT C.wide n58 b58) n58 Try.f58.results.toList (aQ Try.f58) [.agg [.v (.i .i64 p0.fTerm), .v (.i .i64 p0.fTime), .v (.b p0.fNop), .v (.i .i64 p0.fCall.fClient), .v (.i .i64 p0.fCall.fSeq), .v (.i .i64 p0.fCall.fCommand.fKind), .v (.s p0.fCall.fCommand.fKey), .v (.s p0.fCall.fCommand.fField), .v (.s p0.fCall.fCommand.fText), .v (.i .i64 p0.fCall.fCommand.fN)]] [] = some (.v (.i .i64 r), []) := by
  unfold rostrumref_ItemFault at hF
  have g1 : C.wide 91 [.v (.i .i64 p0.fTerm)] [] = some (.v (.b (rostrumref_numberMay_v p0.fTerm)), []) := k_rostrumref_numberMay p0.fTerm _ (rostrumref_numberMay_t p0.fTerm)
  refine aT (rostrumref_numberMay_v p0.fTerm) ?_ ?_
  focus
    intro h1
    replace hF := ar h1 hF
    have hR := Option.some.inj hF
    clear hF
    subst hR
  rotate_left 1
  intro h1
  replace hF := aq h1 hF
  have g2 : C.wide 55 [.v (.i .i64 p0.fTime), .v (.i .i64 0), .v (.i .i64 1073741824)] [] = some (.v (.b (rostrumref_In_v p0.fTime 0 1073741824)), []) := k_rostrumref_In p0.fTime 0 1073741824 _ (rostrumref_In_t p0.fTime 0 1073741824)
  have g3 : rostrumref_In_v p0.fTime 0 1073741824 = (decide (0 ≤ p0.fTime) && decide (p0.fTime ≤ 1073741824)) := by first | rfl | (simp [rostrumref_In_v]; done) | (simp only [rostrumref_In_v]; decide)
  refine aT (decide (0 ≤ p0.fTime)) ?_ ?_
  focus
    intro h2
    replace hF := ar h2 hF
    have hR := Option.some.inj hF
    clear hF
    subst hR
  rotate_left 1
  intro h2
  replace hF := aq h2 hF
  refine aT (decide (p0.fTime ≤ 1073741824)) ?_ ?_
  focus
    intro h3
    replace hF := ar h3 hF
    have hR := Option.some.inj hF
    clear hF
    subst hR
  rotate_left 1
  intro h3
  replace hF := aq h3 hF
  refine aT p0.fNop ?_ ?_
  focus
    intro h4
    replace hF := ar h4 hF
    have g4 : C.wide 104 [.agg [.v (.i .i64 p0.fCall.fClient), .v (.i .i64 p0.fCall.fSeq), .v (.i .i64 p0.fCall.fCommand.fKind), .v (.s p0.fCall.fCommand.fKey), .v (.s p0.fCall.fCommand.fField), .v (.s p0.fCall.fCommand.fText), .v (.i .i64 p0.fCall.fCommand.fN)]] [] = some (.v (.i .i64 (rostrumref_CallFault_v p0.fCall)), []) := k_rostrumref_CallFault p0.fCall _ (rostrumref_CallFault_t p0.fCall)
    have hR := Option.some.inj hF
    clear hF
    subst hR
  rotate_left 1
  intro h4
  replace hF := aq h4 hF
  unfold rostrumref_ItemFault_c0 at hF
  refine aT (p0.fCall.fClient == 0) ?_ ?_
  focus
    intro h5
    replace hF := ar h5 hF
    have hR := Option.some.inj hF
    clear hF
    subst hR
  rotate_left 1
  intro h5
  replace hF := aq h5 hF
  refine aT (p0.fCall.fSeq == 0) ?_ ?_
  focus
    intro h6
    replace hF := ar h6 hF
    have hR := Option.some.inj hF
    clear hF
    subst hR
  rotate_left 1
  intro h6
  replace hF := aq h6 hF
  refine aT (p0.fCall.fCommand.fKind == 0) ?_ ?_
  focus
    intro h7
    replace hF := ar h7 hF
    have hR := Option.some.inj hF
    clear hF
    subst hR
  rotate_left 1
  intro h7
  replace hF := aq h7 hF
  refine aT (cJ p0.fCall.fCommand.fKey ByteArray.empty) ?_ ?_
  focus
    intro h8
    replace hF := ar h8 hF
    have hR := Option.some.inj hF
    clear hF
    subst hR
  rotate_left 1
  intro h8
  replace hF := aq h8 hF
  refine aT (cJ p0.fCall.fCommand.fField ByteArray.empty) ?_ ?_
  focus
    intro h9
    replace hF := ar h9 hF
    have hR := Option.some.inj hF
    clear hF
    subst hR
  rotate_left 1
  intro h9
  replace hF := aq h9 hF
  refine aT (cJ p0.fCall.fCommand.fText ByteArray.empty) ?_ ?_
  focus
    intro h10
    replace hF := ar h10 hF
    have hR := Option.some.inj hF
    clear hF
    subst hR
  rotate_left 1
  intro h10
  replace hF := aq h10 hF
  refine aG (p0.fCall.fCommand.fN == 0) ?_ ?_
  focus
    intro h11
    replace hF := aq h11 hF
    have hR := Option.some.inj hF
    clear hF
    subst hR
  rotate_left 1
  intro h11
  replace hF := ar h11 hF
  have hR := Option.some.inj hF
  clear hF
  subst hR
  all_goals (rw [ba]; show cp _ _ _ (aH _ _ _ _ (Code.seq _ _) _) = _; simp (maxSteps := 4000000) only [*, res58, n58a12t, n58a12f, n58a15t, n58a15f, n58a22t, n58a22f, n58k0, n58k1, n58k2, n58k3, n58k4, n58k5, n58k6, n58k7, n58ro, n58mv, n58gv, ↓RP, RB, ↓ah, ↓ac, ↓af, ↓ad, ↓ae, enter, aW, aC, aZ, be, aM, Mx.bw, opnd, Mx.bF, Nat.reduceBEq, bK, Mx.fit, bI, bY, toVs, cellsOf, toV, aO, aB, ax, Mx.put, ofConst, ofCell, Mx.prune, killB, killBs, aK, putDst, au, ao, aD, loadAt, bM, List.map, Nat.reduceAdd, Nat.reduceMul, cm, cn, aF, eqC, cg, aN, reduceIte, reduceCtorEq, az, bn, bq, co, bN, bD, aL, bx, lowC, lowP, forceAll, bound, bW, bg, bv, aU, br, kill, spendLoc, spendOk, setOwn, dropAl, dropAls, bG, bP, bd, cb, lend, lendA, aS, ay, bU, bL, bare, bQ, frz, bZ, bo, argE, argsE, bB, bT, fill, setCells, bR, takeParts, bp, aR, ownAt, Nat.reduceBNe, Nat.reduceSub, Nat.reduceLT, Nat.reduceLeDiff, lowA, bi, bJ, av, aJ, aX, bX, bO, bE, bS, ce, bV, bk, aI, bh, bj, bf, cd, Op.operands, Int.reduceBEq, Int.reduceLT, Int.reduceLE, Int.reduceNeg, Int.reduceBNe, bl, newB, ch, ck, cj, bne, ↓aj, ↓ai, ↓aa, ↓am, bc, aP, bm, bu, aE, bH, Call.operands, ty3, ty4, ty9, ty25, ty34, ty36, ty38])
/-! ### rostrumref.ItemOf -/
def n39 : cC where
  keep := fun i => match i with
    | 0 => [0, 2]
    | 1 => [0, 2, 10]
    | 2 => [2, 3]
    | 3 => [2, 4]
    | 4 => [2, 4, 5, 6]
    | 5 => [2, 5, 7]
    | 6 => [2, 5, 7, 24]
    | 7 => [2, 5, 7]
    | 8 => [2, 5, 7, 28]
    | 9 => [2, 3]
    | 10 => [2, 3]
    | _ => []
  ro := fun _ => false
  mv := fun _ => false
  give := fun _ => false
  free := fun _ => []
  alive := fun i x => match i, x with
    | 10, true => some [2]
    | 10, false => some [0, 2]
    | 24, true => some [2, 5]
    | 24, false => some [2, 5, 7]
    | 28, true => some [2, 7]
    | 28, false => some [2, 5]
    | _, _ => none
theorem n39a10t (e : Env) (S : aA) : aw n39 10 true ⟨e, S⟩ = ⟨prune [2] e, S⟩ := rfl
theorem n39a10f (e : Env) (S : aA) : aw n39 10 false ⟨e, S⟩ = ⟨prune [0, 2] e, S⟩ := rfl
theorem n39a24t (e : Env) (S : aA) : aw n39 24 true ⟨e, S⟩ = ⟨prune [2, 5] e, S⟩ := rfl
theorem n39a24f (e : Env) (S : aA) : aw n39 24 false ⟨e, S⟩ = ⟨prune [2, 5, 7] e, S⟩ := rfl
theorem n39a28t (e : Env) (S : aA) : aw n39 28 true ⟨e, S⟩ = ⟨prune [2, 7] e, S⟩ := rfl
theorem n39a28f (e : Env) (S : aA) : aw n39 28 false ⟨e, S⟩ = ⟨prune [2, 5] e, S⟩ := rfl
theorem n39k0 : n39.keep 0 = [0, 2] := rfl
theorem n39k1 : n39.keep 1 = [0, 2, 10] := rfl
theorem n39k2 : n39.keep 2 = [2, 3] := rfl
theorem n39k3 : n39.keep 3 = [2, 4] := rfl
theorem n39k4 : n39.keep 4 = [2, 4, 5, 6] := rfl
theorem n39k5 : n39.keep 5 = [2, 5, 7] := rfl
theorem n39k6 : n39.keep 6 = [2, 5, 7, 24] := rfl
theorem n39k7 : n39.keep 7 = [2, 5, 7] := rfl
theorem n39k8 : n39.keep 8 = [2, 5, 7, 28] := rfl
theorem n39k9 : n39.keep 9 = [2, 3] := rfl
theorem n39k10 : n39.keep 10 = [2, 3] := rfl
theorem n39ro (t : Nat) : n39.ro t = (false) := rfl
theorem n39mv (t : Nat) : n39.mv t = (false) := rfl
theorem n39gv (t : Nat) : n39.give t = (false) := rfl
theorem res39 : Try.f39.results.toList = [.cell 2 38, .tmp 3] := rfl
noncomputable def b39 : Code := aQ Try.f39
set_option maxRecDepth 100000 in
set_option maxHeartbeats 40000000 in
theorem rg_rostrumref_ItemOf_q24 (C : ak) (k_rostrumref_ItemFault : K_rostrumref_ItemFault C) (p0 : Int) (p1 : Bool) (p2 : Gscan) (p3 : GItem) (c : Code) (ho : cr 1 24 b39 = some c) (r : Int) (hF : ck_rostrumref_ItemOf_q24 p0 p1 p2 p3 = some r) : aH TT C.wide (evW TT C.wide n39 b39) n39 c ⟨[(2, .ptr 0 0), (5, .ptr 2 0), (7, .v (.i .i64 p0)), (24, .v (.b p1))], [[.v (.i .i64 0), .v (.i .i64 0), .v (.b false), .v (.i .i64 0), .v (.i .i64 0), .v (.i .i64 0), .v (.s ByteArray.empty), .v (.s ByteArray.empty), .v (.s ByteArray.empty), .v (.i .i64 0)], [.v (.sl 1 (ab bA p2.fb)), .v (.i .i64 p2.fat)], [.v (.i .i64 p3.fTerm), .v (.i .i64 p3.fTime), .v (.b p3.fNop), .v (.i .i64 p3.fCall.fClient), .v (.i .i64 p3.fCall.fSeq), .v (.i .i64 p3.fCall.fCommand.fKind), .v (.s p3.fCall.fCommand.fKey), .v (.s p3.fCall.fCommand.fField), .v (.s p3.fCall.fCommand.fText), .v (.i .i64 p3.fCall.fCommand.fN)]]⟩ = some (.normal, ⟨[(2, .ptr 0 0), (5, .ptr 2 0), (7, .v (.i .i64 r))], [[.v (.i .i64 0), .v (.i .i64 0), .v (.b false), .v (.i .i64 0), .v (.i .i64 0), .v (.i .i64 0), .v (.s ByteArray.empty), .v (.s ByteArray.empty), .v (.s ByteArray.empty), .v (.i .i64 0)], [.v (.sl 1 (ab bA p2.fb)), .v (.i .i64 p2.fat)], [.v (.i .i64 p3.fTerm), .v (.i .i64 p3.fTime), .v (.b p3.fNop), .v (.i .i64 p3.fCall.fClient), .v (.i .i64 p3.fCall.fSeq), .v (.i .i64 p3.fCall.fCommand.fKind), .v (.s p3.fCall.fCommand.fKey), .v (.s p3.fCall.fCommand.fField), .v (.s p3.fCall.fCommand.fText), .v (.i .i64 p3.fCall.fCommand.fN)]]⟩) := by
  have e := Option.some.inj (ho.symm.trans (rfl : cr 1 24 b39 = some _))
  subst e
  clear ho
  unfold ck_rostrumref_ItemOf_q24 at hF
  refine aG p1 ?_ ?_
  focus
    intro h1
    replace hF := aq h1 hF
    have g1 : C.wide 58 [.agg [.v (.i .i64 p3.fTerm), .v (.i .i64 p3.fTime), .v (.b p3.fNop), .v (.i .i64 p3.fCall.fClient), .v (.i .i64 p3.fCall.fSeq), .v (.i .i64 p3.fCall.fCommand.fKind), .v (.s p3.fCall.fCommand.fKey), .v (.s p3.fCall.fCommand.fField), .v (.s p3.fCall.fCommand.fText), .v (.i .i64 p3.fCall.fCommand.fN)]] [] = some (.v (.i .i64 (rostrumref_ItemFault_v p3)), []) := k_rostrumref_ItemFault p3 _ (rostrumref_ItemFault_t p3)
    have hR := Option.some.inj hF
    clear hF
    subst hR
  rotate_left 1
  intro h1
  replace hF := ar h1 hF
  have hR := Option.some.inj hF
  clear hF
  subst hR
  all_goals (simp (maxSteps := 4000000) only [*, res39, n39a10t, n39a10f, n39a24t, n39a24f, n39a28t, n39a28f, n39k0, n39k1, n39k2, n39k3, n39k4, n39k5, n39k6, n39k7, n39k8, n39k9, n39k10, n39ro, n39mv, n39gv, ↓RP, RB, ↓ah, ↓ac, ↓af, ↓ad, ↓ae, enter, aW, aC, aZ, be, aM, Mx.bw, opnd, Mx.bF, Nat.reduceBEq, bK, Mx.fit, bI, bY, toVs, cellsOf, toV, aO, aB, ax, Mx.put, ofConst, ofCell, Mx.prune, killB, killBs, aK, putDst, au, ao, aD, loadAt, bM, List.map, Nat.reduceAdd, Nat.reduceMul, cm, cn, aF, eqC, cg, aN, reduceIte, reduceCtorEq, az, bn, bq, co, bN, bD, aL, bx, lowC, lowP, forceAll, bound, bW, bg, bv, aU, br, kill, spendLoc, spendOk, setOwn, dropAl, dropAls, bG, bP, bd, cb, lend, lendA, aS, ay, bU, bL, bare, bQ, frz, bZ, bo, argE, argsE, bB, bT, fill, setCells, bR, takeParts, bp, aR, ownAt, Nat.reduceBNe, Nat.reduceSub, Nat.reduceLT, Nat.reduceLeDiff, lowA, bi, bJ, av, aJ, aX, bX, bO, bE, bS, ce, bV, bk, aI, bh, bj, bf, cd, Op.operands, Int.reduceBEq, Int.reduceLT, Int.reduceLE, Int.reduceNeg, Int.reduceBNe, bl, newB, ch, ck, cj, bne, ↓aj, ↓ai, bc, aP, bm, bu, aE, bH, Call.operands, ty3, ty4, ty5, ty9, ty25, ty34, ty36, ty38, ty39, ty124, ty126, ↓aa _ _ _ _ 7])
set_option maxRecDepth 100000 in
set_option maxHeartbeats 40000000 in
theorem r_rostrumref_ItemOf (C : ak) (k_rostrumref_scan_itemNext : K_rostrumref_scan_itemNext C) (k_rostrumref_scan_end : K_rostrumref_scan_end C) (k_rostrumref_ItemFault : K_rostrumref_ItemFault C) (p0 : List Int) (r : GItem × Int) (hF : rostrumref_ItemOf p0 = some r) : cF TT C.wide (evW TT C.wide n39 b39) n39 Try.f39.results.toList (aQ Try.f39) [.v (.sl 1 (ab bA p0))] [] = some (.tup [.agg [.v (.i .i64 r.1.fTerm), .v (.i .i64 r.1.fTime), .v (.b r.1.fNop), .v (.i .i64 r.1.fCall.fClient), .v (.i .i64 r.1.fCall.fSeq), .v (.i .i64 r.1.fCall.fCommand.fKind), .v (.s r.1.fCall.fCommand.fKey), .v (.s r.1.fCall.fCommand.fField), .v (.s r.1.fCall.fCommand.fText), .v (.i .i64 r.1.fCall.fCommand.fN)], .v (.i .i64 r.2)], []) := by
  unfold rostrumref_ItemOf at hF
  refine aG (decide (20000 < (p0.length : Int))) ?_ ?_
  focus
    intro h1
    replace hF := aq h1 hF
    have hR := Option.some.inj hF
    clear hF
    subst hR
  rotate_left 1
  intro h1
  replace hF := ar h1 hF
  revert hF
  cases h2 : rostrumref_scan_itemNext (Gscan.mk p0 0)
  focus
    intro hF
    cases hF
  rename_i qh2
  obtain ⟨x1, x2, x3⟩ := qh2
  intro hF
  try dsimp only at hF
  have g1 : C.wide 87 [.ptr 1 0] [[.v (.i .i64 0), .v (.i .i64 0), .v (.b false), .v (.i .i64 0), .v (.i .i64 0), .v (.i .i64 0), .v (.s ByteArray.empty), .v (.s ByteArray.empty), .v (.s ByteArray.empty), .v (.i .i64 0)], [.v (.sl 1 (ab bA p0)), .v (.i .i64 0)]] = some (.tup [.agg [.v (.i .i64 x1.fTerm), .v (.i .i64 x1.fTime), .v (.b x1.fNop), .v (.i .i64 x1.fCall.fClient), .v (.i .i64 x1.fCall.fSeq), .v (.i .i64 x1.fCall.fCommand.fKind), .v (.s x1.fCall.fCommand.fKey), .v (.s x1.fCall.fCommand.fField), .v (.s x1.fCall.fCommand.fText), .v (.i .i64 x1.fCall.fCommand.fN)], .v (.b x2)], [[.v (.i .i64 0), .v (.i .i64 0), .v (.b false), .v (.i .i64 0), .v (.i .i64 0), .v (.i .i64 0), .v (.s ByteArray.empty), .v (.s ByteArray.empty), .v (.s ByteArray.empty), .v (.i .i64 0)], [.v (.sl 1 (ab bA x3.fb)), .v (.i .i64 x3.fat)]]) := cB [1] rfl rfl rfl rfl (k_rostrumref_scan_itemNext (Gscan.mk p0 0) _ h2) rfl rfl
  revert hF
  cases h3 : rostrumref_scan_end x2 x3
  focus
    intro hF
    cases hF
  rename_i qh3
  obtain ⟨x4, x5⟩ := qh3
  intro hF
  try dsimp only at hF
  have g2 : C.wide 88 [.ptr 1 0, .v (.b x2)] [[.v (.i .i64 0), .v (.i .i64 0), .v (.b false), .v (.i .i64 0), .v (.i .i64 0), .v (.i .i64 0), .v (.s ByteArray.empty), .v (.s ByteArray.empty), .v (.s ByteArray.empty), .v (.i .i64 0)], [.v (.sl 1 (ab bA x3.fb)), .v (.i .i64 x3.fat)], [.v (.i .i64 x1.fTerm), .v (.i .i64 x1.fTime), .v (.b x1.fNop), .v (.i .i64 x1.fCall.fClient), .v (.i .i64 x1.fCall.fSeq), .v (.i .i64 x1.fCall.fCommand.fKind), .v (.s x1.fCall.fCommand.fKey), .v (.s x1.fCall.fCommand.fField), .v (.s x1.fCall.fCommand.fText), .v (.i .i64 x1.fCall.fCommand.fN)]] = some (.v (.i .i64 x4), [[.v (.i .i64 0), .v (.i .i64 0), .v (.b false), .v (.i .i64 0), .v (.i .i64 0), .v (.i .i64 0), .v (.s ByteArray.empty), .v (.s ByteArray.empty), .v (.s ByteArray.empty), .v (.i .i64 0)], [.v (.sl 1 (ab bA x5.fb)), .v (.i .i64 x5.fat)], [.v (.i .i64 x1.fTerm), .v (.i .i64 x1.fTime), .v (.b x1.fNop), .v (.i .i64 x1.fCall.fClient), .v (.i .i64 x1.fCall.fSeq), .v (.i .i64 x1.fCall.fCommand.fKind), .v (.s x1.fCall.fCommand.fKey), .v (.s x1.fCall.fCommand.fField), .v (.s x1.fCall.fCommand.fText), .v (.i .i64 x1.fCall.fCommand.fN)]]) := cB [1] rfl rfl rfl rfl (k_rostrumref_scan_end x2 x3 _ h3) rfl rfl
  have g3 : @cR TT C.wide (evW TT C.wide n39 b39) n39 1 24 ⟨[(2, .ptr 0 0), (5, .ptr 2 0), (7, .v (.i .i64 x4)), (24, .v (.b (x4 == 0)))], [[.v (.i .i64 0), .v (.i .i64 0), .v (.b false), .v (.i .i64 0), .v (.i .i64 0), .v (.i .i64 0), .v (.s ByteArray.empty), .v (.s ByteArray.empty), .v (.s ByteArray.empty), .v (.i .i64 0)], [.v (.sl 1 (ab bA x5.fb)), .v (.i .i64 x5.fat)], [.v (.i .i64 x1.fTerm), .v (.i .i64 x1.fTime), .v (.b x1.fNop), .v (.i .i64 x1.fCall.fClient), .v (.i .i64 x1.fCall.fSeq), .v (.i .i64 x1.fCall.fCommand.fKind), .v (.s x1.fCall.fCommand.fKey), .v (.s x1.fCall.fCommand.fField), .v (.s x1.fCall.fCommand.fText), .v (.i .i64 x1.fCall.fCommand.fN)]]⟩ ⟨_⟩ = some (.normal, ⟨[(2, .ptr 0 0), (5, .ptr 2 0), (7, .v (.i .i64 (ck_rostrumref_ItemOf_q24_v x4 (x4 == 0) x5 x1)))], [[.v (.i .i64 0), .v (.i .i64 0), .v (.b false), .v (.i .i64 0), .v (.i .i64 0), .v (.i .i64 0), .v (.s ByteArray.empty), .v (.s ByteArray.empty), .v (.s ByteArray.empty), .v (.i .i64 0)], [.v (.sl 1 (ab bA x5.fb)), .v (.i .i64 x5.fat)], [.v (.i .i64 x1.fTerm), .v (.i .i64 x1.fTime), .v (.b x1.fNop), .v (.i .i64 x1.fCall.fClient), .v (.i .i64 x1.fCall.fSeq), .v (.i .i64 x1.fCall.fCommand.fKind), .v (.s x1.fCall.fCommand.fKey), .v (.s x1.fCall.fCommand.fField), .v (.s x1.fCall.fCommand.fText), .v (.i .i64 x1.fCall.fCommand.fN)]]⟩) := rg_rostrumref_ItemOf_q24 C k_rostrumref_ItemFault x4 (x4 == 0) x5 x1 _ rfl (ck_rostrumref_ItemOf_q24_v x4 (x4 == 0) x5 x1) (ck_rostrumref_ItemOf_q24_t x4 (x4 == 0) x5 x1)
  refine aG ((ck_rostrumref_ItemOf_q24_v x4 (x4 == 0) x5 x1) == 0) ?_ ?_
  focus
    intro h4
    replace hF := aq h4 hF
    have hR := Option.some.inj hF
    clear hF
    subst hR
  rotate_left 1
  intro h4
  replace hF := ar h4 hF
  have hR := Option.some.inj hF
  clear hF
  subst hR
  all_goals (rw [ba]; show cp _ _ _ (aH _ _ _ _ (Code.seq _ _) _) = _; simp (maxSteps := 4000000) only [*, res39, n39a10t, n39a10f, n39a24t, n39a24f, n39a28t, n39a28f, n39k0, n39k1, n39k2, n39k3, n39k4, n39k5, n39k6, n39k7, n39k8, n39k9, n39k10, n39ro, n39mv, n39gv, ↓RP, RB, ↓ah, ↓ac, ↓af, ↓ad, ↓ae, enter, aW, aC, aZ, be, aM, Mx.bw, opnd, Mx.bF, Nat.reduceBEq, bK, Mx.fit, bI, bY, toVs, cellsOf, toV, aO, aB, ax, Mx.put, ofConst, ofCell, Mx.prune, killB, killBs, aK, putDst, au, ao, aD, loadAt, bM, List.map, Nat.reduceAdd, Nat.reduceMul, cm, cn, aF, eqC, cg, aN, reduceIte, reduceCtorEq, az, bn, bq, co, bN, bD, aL, bx, lowC, lowP, forceAll, bound, bW, bg, bv, aU, br, kill, spendLoc, spendOk, setOwn, dropAl, dropAls, bG, bP, bd, cb, lend, lendA, aS, ay, bU, bL, bare, bQ, frz, bZ, bo, argE, argsE, bB, bT, fill, setCells, bR, takeParts, bp, aR, ownAt, Nat.reduceBNe, Nat.reduceSub, Nat.reduceLT, Nat.reduceLeDiff, lowA, bi, bJ, av, aJ, aX, bX, bO, bE, bS, ce, bV, bk, aI, bh, bj, bf, cd, Op.operands, Int.reduceBEq, Int.reduceLT, Int.reduceLE, Int.reduceNeg, Int.reduceBNe, bl, newB, ch, ck, cj, bne, ↓aj, bc, aP, bm, bu, aE, bH, Call.operands, ty3, ty4, ty5, ty9, ty25, ty34, ty36, ty38, ty39, ty124, ty126, ↓aa _ _ _ _ 0, ↓aa _ _ _ _ 1, ↓ai _ _ _ _ 10, ↓aa _ _ _ _ 2, ↓aa _ _ _ _ 3, ↓aa _ _ _ _ 4, ↓aa _ _ _ _ 5, ↓aa _ _ _ _ 6, ↓cP _ _ _ _ 24, ↓aa _ _ _ _ 7, ↓aa _ _ _ _ 8, ↓ai _ _ _ _ 28, ↓aa _ _ _ _ 9, ↓aa _ _ _ _ 10])
/-! ### rostrumlaw.WireItemReads -/
def n11 : cC where
  keep := fun i => match i with
    | 0 => [0]
    | 1 => [0, 3, 4]
    | 2 => [3, 4, 5, 6]
    | 3 => [2]
    | _ => []
  ro := fun _ => false
  mv := fun _ => false
  give := fun _ => false
  free := fun _ => []
theorem n11k0 : n11.keep 0 = [0] := rfl
theorem n11k1 : n11.keep 1 = [0, 3, 4] := rfl
theorem n11k2 : n11.keep 2 = [3, 4, 5, 6] := rfl
theorem n11k3 : n11.keep 3 = [2] := rfl
theorem n11ro (t : Nat) : n11.ro t = (false) := rfl
theorem n11mv (t : Nat) : n11.mv t = (false) := rfl
theorem n11gv (t : Nat) : n11.give t = (false) := rfl
theorem res11 : Try.f11.results.toList = [.tmp 2] := rfl
noncomputable def b11 : Code := aQ Try.f11
set_option maxRecDepth 100000 in
set_option maxHeartbeats 40000000 in
theorem r_rostrumlaw_WireItemReads (C : ak) (k_rostrumlaw_octets_z : K_rostrumlaw_octets_z C) (k_wire_DecodeItem : K_wire_DecodeItem C) (k_rostrumref_ItemOf : K_rostrumref_ItemOf C) (p0 : List Int) (r : Bool) (hF : rostrumlaw_WireItemReads p0 = some r) : cF TT C.wide (evW TT C.wide n11 b11) n11 Try.f11.results.toList (aQ Try.f11) [.v (.sl 1 (ab bA p0))] [] = some (.v (.b r), []) := by
  unfold rostrumlaw_WireItemReads at hF
  revert hF
  cases h1 : rostrumlaw_octets_z p0
  focus
    intro hF
    cases hF
  rename_i x1
  intro hF
  try dsimp only at hF
  have g1 : C.wide 38 [.v (.sl 1 (ab bA p0))] [] = some (.v (.sl 1 (ab bA x1)), []) := k_rostrumlaw_octets_z p0 _ h1
  revert hF
  cases h2 : wire_DecodeItem x1
  focus
    intro hF
    cases hF
  rename_i qh2
  obtain ⟨x2, x3⟩ := qh2
  intro hF
  try dsimp only at hF
  have g2 : C.wide 37 [.v (.sl 1 (ab bA x1))] [] = some (.tup [.agg [.v (.i .i64 x2.fTerm), .v (.i .i64 x2.fTime), .v (.b x2.fNop), .v (.i .i64 x2.fCall.fClient), .v (.i .i64 x2.fCall.fSeq), .v (.i .i64 x2.fCall.fCommand.fKind), .v (.s x2.fCall.fCommand.fKey), .v (.s x2.fCall.fCommand.fField), .v (.s x2.fCall.fCommand.fText), .v (.i .i64 x2.fCall.fCommand.fN)], .v (.i .i64 x3)], []) := k_wire_DecodeItem x1 _ h2
  revert hF
  cases h3 : rostrumref_ItemOf p0
  focus
    intro hF
    cases hF
  rename_i qh3
  obtain ⟨x4, x5⟩ := qh3
  intro hF
  try dsimp only at hF
  have g3 : C.wide 39 [.v (.sl 1 (ab bA p0))] [] = some (.tup [.agg [.v (.i .i64 x4.fTerm), .v (.i .i64 x4.fTime), .v (.b x4.fNop), .v (.i .i64 x4.fCall.fClient), .v (.i .i64 x4.fCall.fSeq), .v (.i .i64 x4.fCall.fCommand.fKind), .v (.s x4.fCall.fCommand.fKey), .v (.s x4.fCall.fCommand.fField), .v (.s x4.fCall.fCommand.fText), .v (.i .i64 x4.fCall.fCommand.fN)], .v (.i .i64 x5)], []) := k_rostrumref_ItemOf p0 _ h3
  refine aG (x3 == x5) ?_ ?_
  focus
    intro h4
    replace hF := aq h4 hF
    have hR := Option.some.inj hF
    clear hF
    subst hR
  rotate_left 1
  intro h4
  replace hF := ar h4 hF
  have hR := Option.some.inj hF
  clear hF
  subst hR
  all_goals (rw [ba]; show cp _ _ _ (aH _ _ _ _ (Code.seq _ _) _) = _; simp (maxSteps := 4000000) only [*, res11, n11k0, n11k1, n11k2, n11k3, n11ro, n11mv, n11gv, ↓RP, RB, ↓ah, ↓ac, ↓af, ↓ad, ↓ae, enter, aW, aC, aZ, be, aM, Mx.bw, opnd, Mx.bF, Nat.reduceBEq, bK, Mx.fit, bI, bY, toVs, cellsOf, toV, aO, aB, ax, Mx.put, ofConst, ofCell, Mx.prune, killB, killBs, aK, putDst, au, ao, aD, loadAt, bM, List.map, Nat.reduceAdd, Nat.reduceMul, cm, cn, aF, eqC, cg, aN, reduceIte, reduceCtorEq, az, bn, bq, co, bN, bD, aL, bx, lowC, lowP, forceAll, bound, bW, bg, bv, aU, br, kill, spendLoc, spendOk, setOwn, dropAl, dropAls, bG, bP, bd, cb, lend, lendA, aS, ay, bU, bL, bare, bQ, frz, bZ, bo, argE, argsE, bB, bT, fill, setCells, bR, takeParts, bp, aR, ownAt, Nat.reduceBNe, Nat.reduceSub, Nat.reduceLT, Nat.reduceLeDiff, lowA, bi, bJ, av, aJ, aX, bX, bO, bE, bS, ce, bV, bk, aI, bh, bj, bf, cd, Op.operands, Int.reduceBEq, Int.reduceLT, Int.reduceLE, Int.reduceNeg, Int.reduceBNe, bl, newB, ch, ck, cj, bne, ↓aj, ↓ai, ↓aa, ↓am, bc, aP, bm, bu, aE, bH, Call.operands, ty3, ty4, ty5, ty9, ty25, ty34, ty36, ty38, ty39])
end Go.Proofs.Ytnjkmbogbfjffaa
