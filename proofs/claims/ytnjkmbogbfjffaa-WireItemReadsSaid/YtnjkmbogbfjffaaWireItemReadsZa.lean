/- The code of these functions, run by the machine Mx, gives what the plain functions say, if their callees do (part 1). -/
import Derived.Test.YtnjkmbogbfjffaaWTy
import Derived.Test.YtnjkmbogbfjffaaWireItemReadsD
set_option linter.unusedSimpArgs false
set_option linter.unusedVariables false
set_option linter.constructorNameAsVariable false
set_option linter.unnecessarySimpa false
namespace Go.Proofs.Ytnjkmbogbfjffaa
open Go Go.Mx Go.Proofs
/-! ### rostrumlaw.octets -/
def n38 : cC where
  keep := fun i => match i with
    | 0 => [0]
    | 1 => [2, 4]
    | _ => []
  ro := fun _ => false
  mv := fun _ => false
  give := fun _ => false
  free := fun _ => []
theorem n38k0 : n38.keep 0 = [0] := rfl
theorem n38k1 : n38.keep 1 = [2, 4] := rfl
theorem n38ro (t : Nat) : n38.ro t = (false) := rfl
theorem n38mv (t : Nat) : n38.mv t = (false) := rfl
theorem n38gv (t : Nat) : n38.give t = (false) := rfl
theorem res38 : Try.f38.results.toList = [.tmp 2] := rfl
noncomputable def b38 : Code := aQ Try.f38
set_option maxRecDepth 100000 in
set_option maxHeartbeats 40000000 in
theorem r_rostrumlaw_octets_z (C : ak)  (p0 : List Int) (r : (List Int)) (hF : rostrumlaw_octets_z p0 = some r) : ∃ d S, cF TT C.wide (evW TT C.wide n38 b38) n38 Try.f38.results.toList (aQ Try.f38) [.v (.sl 1 (ab bA p0))] [] = some (d, S) ∧ bx d = true ∧ (frz d, S) = (.v (.sl 1 (ab bA r)), []) := by
  unfold rostrumlaw_octets_z at hF
  refine aG (cH p0.length 1) ?_ ?_
  focus
    intro h1
    replace hF := aq h1 hF
    have hR := Option.some.inj hF
    clear hF
    subst hR
    refine ⟨.own 1 (ab bA p0), [], ?_, rfl, by first | rfl | (simp only [*]; done) | (simp only [*]; rfl)⟩
  rotate_left 1
  intro h1
  replace hF := ar h1 hF
  cases hF
  all_goals (rw [ba]; show cp _ _ _ (aH _ _ _ _ (Code.seq _ _) _) = _; simp (maxSteps := 4000000) only [*, res38, n38k0, n38k1, n38ro, n38mv, n38gv, ↓RP, RB, ↓ah, ↓ac, ↓af, ↓ad, ↓ae, enter, aW, aC, aZ, be, aM, Mx.bw, opnd, Mx.bF, Nat.reduceBEq, bK, Mx.fit, bI, bY, toVs, cellsOf, toV, aO, aB, ax, Mx.put, ofConst, ofCell, Mx.prune, killB, killBs, aK, putDst, au, ao, aD, loadAt, bM, List.map, Nat.reduceAdd, Nat.reduceMul, cm, cn, aF, eqC, cg, aN, reduceIte, reduceCtorEq, az, bn, bq, co, bN, bD, aL, bx, lowC, lowP, forceAll, bound, bW, bg, bv, aU, br, kill, spendLoc, spendOk, setOwn, dropAl, dropAls, bG, bP, bd, cb, lend, lendA, aS, ay, bU, bL, bare, bQ, frz, bZ, bo, argE, argsE, bB, bT, fill, setCells, bR, takeParts, bp, aR, ownAt, Nat.reduceBNe, Nat.reduceSub, Nat.reduceLT, Nat.reduceLeDiff, lowA, bi, bJ, av, aJ, aX, bX, bO, bE, bS, ce, bV, bk, aI, bh, bj, bf, cd, Op.operands, Int.reduceBEq, Int.reduceLT, Int.reduceLE, Int.reduceNeg, Int.reduceBNe, bl, newB, ch, ck, cj, bne, ↓aj, ↓ai, ↓aa, ↓am, bc, aP, bm, bu, aE, bH, Call.operands, ty5, ty39])
/-! ### (*wire.reader).take -/
def n133 : cC where
  keep := fun i => match i with
    | 0 => [0, 1]
    | 1 => [0, 1, 18]
    | 2 => []
    | 3 => [4, 5, 25, 27, 37]
    | 4 => [0, 1, 5, 25, 27]
    | 5 => [5, 25, 27]
    | 6 => [4, 5, 25, 27, 37]
    | _ => []
  ro := fun _ => false
  mv := fun _ => false
  give := fun _ => false
  free := fun _ => []
  alive := fun i x => match i, x with
    | 18, true => some [0]
    | 18, false => some [0, 1]
    | _, _ => none
theorem n133a18t (e : Env) (S : aA) : aw n133 18 true ⟨e, S⟩ = ⟨prune [0] e, S⟩ := rfl
theorem n133a18f (e : Env) (S : aA) : aw n133 18 false ⟨e, S⟩ = ⟨prune [0, 1] e, S⟩ := rfl
theorem n133k0 : n133.keep 0 = [0, 1] := rfl
theorem n133k1 : n133.keep 1 = [0, 1, 18] := rfl
theorem n133k2 : n133.keep 2 = [] := rfl
theorem n133k3 : n133.keep 3 = [4, 5, 25, 27, 37] := rfl
theorem n133k4 : n133.keep 4 = [0, 1, 5, 25, 27] := rfl
theorem n133k5 : n133.keep 5 = [5, 25, 27] := rfl
theorem n133k6 : n133.keep 6 = [4, 5, 25, 27, 37] := rfl
theorem n133ro (t : Nat) : n133.ro t = (false) := rfl
theorem n133mv (t : Nat) : n133.mv t = (false) := rfl
theorem n133gv (t : Nat) : n133.give t = (false) := rfl
theorem res133 : Try.f133.results.toList = [.tmp 4] := rfl
noncomputable def b133 : Code := aQ Try.f133
set_option maxRecDepth 100000 in
set_option maxHeartbeats 40000000 in
theorem r_wire_reader_take (C : ak)  (p0 : Int) (p1 : Greader) (r : (List Int) × Greader) (hF : wire_reader_take p0 p1 = some r) : ∃ d S, cF TT C.wide (evW TT C.wide n133 b133) n133 Try.f133.results.toList (aQ Try.f133) [.ptr 0 0, .v (.i .i64 p0)] [[.v (.sl 1 (ab bA p1.frest)), .v (.b p1.fshort)]] = some (d, S) ∧ bx d = true ∧ (frz d, S) = (.v (.sl 1 (ab bA r.1)), [[.v (.sl 1 (ab bA r.2.frest)), .v (.b r.2.fshort)]]) := by
  unfold wire_reader_take at hF
  refine aG p1.fshort ?_ ?_
  focus
    intro h1
    replace hF := aq h1 hF
    have hR := Option.some.inj hF
    clear hF
    subst hR
    refine ⟨.own 1 [], [[.v (.sl 1 (ab bA p1.frest)), .v (.b true)]], ?_, rfl, by first | rfl | (simp only [*]; done) | (simp only [*]; rfl)⟩
  rotate_left 1
  intro h1
  replace hF := ar h1 hF
  refine aG (decide ((p1.frest.length : Int) < p0)) ?_ ?_
  focus
    intro h2
    replace hF := aq h2 hF
    have hR := Option.some.inj hF
    clear hF
    subst hR
    refine ⟨.own 1 [], [[.v (.sl 1 (ab bA p1.frest)), .v (.b true)]], ?_, rfl, by first | rfl | (simp only [*]; done) | (simp only [*]; rfl)⟩
  rotate_left 1
  intro h2
  replace hF := ar h2 hF
  refine aT (rngB 0 p0 (p1.frest.length : Int)) ?_ ?_
  focus
    intro h3
    replace hF := ar h3 hF
    cases hF
  intro h3
  replace hF := aq h3 hF
  refine aG (rngB p0 (p1.frest.length : Int) (p1.frest.length : Int)) ?_ ?_
  focus
    intro h4
    replace hF := aq h4 hF
    have hR := Option.some.inj hF
    clear hF
    subst hR
    refine ⟨.v (.sl 1 (ab bA (cI p1.frest 0 p0))), [[.v (.sl 1 (ab bA (cI p1.frest p0 (p1.frest.length : Int)))), .v (.b false)]], ?_, rfl, by first | rfl | (simp only [*]; done) | (simp only [*]; rfl)⟩
  rotate_left 1
  intro h4
  replace hF := ar h4 hF
  cases hF
  all_goals (rw [ba]; show cp _ _ _ (aH _ _ _ _ (Code.seq _ _) _) = _; simp (maxSteps := 4000000) only [*, res133, n133a18t, n133a18f, n133k0, n133k1, n133k2, n133k3, n133k4, n133k5, n133k6, n133ro, n133mv, n133gv, ↓RP, RB, ↓ah, ↓ac, ↓af, ↓ad, ↓ae, enter, aW, aC, aZ, be, aM, Mx.bw, opnd, Mx.bF, Nat.reduceBEq, bK, Mx.fit, bI, bY, toVs, cellsOf, toV, aO, aB, ax, Mx.put, ofConst, ofCell, Mx.prune, killB, killBs, aK, putDst, au, ao, aD, loadAt, bM, List.map, Nat.reduceAdd, Nat.reduceMul, cm, cn, aF, eqC, cg, aN, reduceIte, reduceCtorEq, az, bn, bq, co, bN, bD, aL, bx, lowC, lowP, forceAll, bound, bW, bg, bv, aU, br, kill, spendLoc, spendOk, setOwn, dropAl, dropAls, bG, bP, bd, cb, lend, lendA, aS, ay, bU, bL, bare, bQ, frz, bZ, bo, argE, argsE, bB, bT, fill, setCells, bR, takeParts, bp, aR, ownAt, Nat.reduceBNe, Nat.reduceSub, Nat.reduceLT, Nat.reduceLeDiff, lowA, bi, bJ, av, aJ, aX, bX, bO, bE, bS, ce, bV, bk, aI, bh, bj, bf, cd, Op.operands, Int.reduceBEq, Int.reduceLT, Int.reduceLE, Int.reduceNeg, Int.reduceBNe, bl, newB, ch, ck, cj, bne, ↓aj, ↓ai, ↓aa, ↓am, bc, aP, bm, bu, aE, bH, Call.operands, ty3, ty4, ty5, ty39, ty118, ty120])
/-! ### (*wire.reader).number -/
def n115 : cC where
  keep := fun i => match i with
    | 0 => [0]
    | 1 => [0, 3]
    | 2 => [3, 7, 8, 9]
    | 3 => [3, 7, 8, 9, 10]
    | 4 => [3, 5, 7, 8, 9]
    | 5 => [3, 7, 8, 9]
    | 6 => [3, 7, 8, 9]
    | 7 => [2]
    | _ => []
  ro := fun _ => false
  mv := fun _ => false
  give := fun _ => false
  free := fun _ => []
  alive := fun i x => match i, x with
    | 10, true => some [3, 7, 8, 9]
    | 10, false => some [3]
    | _, _ => none
theorem n115a10t (e : Env) (S : aA) : aw n115 10 true ⟨e, S⟩ = ⟨prune [3, 7, 8, 9] e, S⟩ := rfl
theorem n115a10f (e : Env) (S : aA) : aw n115 10 false ⟨e, S⟩ = ⟨prune [3] e, S⟩ := rfl
theorem n115k0 : n115.keep 0 = [0] := rfl
theorem n115k1 : n115.keep 1 = [0, 3] := rfl
theorem n115k2 : n115.keep 2 = [3, 7, 8, 9] := rfl
theorem n115k3 : n115.keep 3 = [3, 7, 8, 9, 10] := rfl
theorem n115k4 : n115.keep 4 = [3, 5, 7, 8, 9] := rfl
theorem n115k5 : n115.keep 5 = [3, 7, 8, 9] := rfl
theorem n115k6 : n115.keep 6 = [3, 7, 8, 9] := rfl
theorem n115k7 : n115.keep 7 = [2] := rfl
theorem n115ro (t : Nat) : n115.ro t = (false) := rfl
theorem n115mv (t : Nat) : n115.mv t = (false) := rfl
theorem n115gv (t : Nat) : n115.give t = (false) := rfl
theorem res115 : Try.f115.results.toList = [.tmp 2] := rfl
noncomputable def b115 : Code := aQ Try.f115
noncomputable def c115_0 : Code := (bz 0 (aQ Try.f115)).getD .skip
theorem fl115_0 : bz 0 b115 = some c115_0 := rfl
def hd_wire_reader_number_0 (p1 : List Int) (p2 : Int) (p4 : Greader) (s : Int × Int) : St := ⟨[(3, .v (.i .u64 s.1)), (7, .v (.sl 1 (ab bA p1))), (8, .v (.i .i64 p2)), (9, .v (.i .i64 s.2))], [[.v (.sl 1 (ab bA p4.frest)), .v (.b p4.fshort)]]⟩
def ou_wire_reader_number_0 (p1 : List Int) (p2 : Int) (p4 : Greader) (r : Int) : Option (Ex × St) := some (.normal, ⟨[(3, .v (.i .u64 r))], [[.v (.sl 1 (ab bA p4.frest)), .v (.b p4.fshort)]]⟩)
set_option maxRecDepth 100000 in
set_option maxHeartbeats 40000000 in
theorem sl_wire_reader_number_0 (C : ak)  (p1 : List Int) (p2 : Int) (p4 : Greader) (s : Int × Int) (o : (Int × Int) ⊕ Int) (hF : st_wire_reader_number_0 p1 p2 p4 s = some o) : evW TT C.wide n115 b115 0 (hd_wire_reader_number_0 p1 p2 p4 s) = Sum.elim (fun s => evW TT C.wide n115 b115 0 (hd_wire_reader_number_0 p1 p2 p4 s)) (fun r => ou_wire_reader_number_0 p1 p2 p4 r) o := by
  obtain ⟨p0, p3⟩ := s
  unfold st_wire_reader_number_0 at hF
  try dsimp only at hF
  rw [ct TT n115 fl115_0]
  refine aT (decide (p3 < p2)) ?_ ?_
  focus
    intro h1
    replace hF := ar h1 hF
    have hR := Option.some.inj hF
    clear hF
    subst hR
  rotate_left 1
  intro h1
  replace hF := aq h1 hF
  revert hF
  cases h2 : idx p1 p3
  focus
    intro hF
    cases hF
  rename_i x1
  intro hF
  try dsimp only at hF
  have g1 : decide (0 ≤ p3) = true := (cc h2).1
  have g2 : (ab bA p1)[(p3 : Int).toNat]? = some [.i .u8 x1] := ca _ h2
  have hR := Option.some.inj hF
  clear hF
  subst hR
  all_goals (show cD _ _ _ (aH _ _ _ _ (Code.seq _ _) _) = _; simp (maxSteps := 4000000) only [*, hd_wire_reader_number_0, ou_wire_reader_number_0, res115, n115a10t, n115a10f, n115k0, n115k1, n115k2, n115k3, n115k4, n115k5, n115k6, n115k7, n115ro, n115mv, n115gv, ↓RP, RB, ↓ah, ↓ac, ↓af, ↓ad, ↓ae, enter, aW, aC, aZ, be, aM, Mx.bw, opnd, Mx.bF, Nat.reduceBEq, bK, Mx.fit, bI, bY, toVs, cellsOf, toV, aO, aB, ax, Mx.put, ofConst, ofCell, Mx.prune, killB, killBs, aK, putDst, au, ao, aD, loadAt, bM, List.map, Nat.reduceAdd, Nat.reduceMul, cm, cn, aF, eqC, cg, aN, reduceIte, reduceCtorEq, az, bn, bq, co, bN, bD, aL, bx, lowC, lowP, forceAll, bound, bW, bg, bv, aU, br, kill, spendLoc, spendOk, setOwn, dropAl, dropAls, bG, bP, bd, cb, lend, lendA, aS, ay, bU, bL, bare, bQ, frz, bZ, bo, argE, argsE, bB, bT, fill, setCells, bR, takeParts, bp, aR, ownAt, Nat.reduceBNe, Nat.reduceSub, Nat.reduceLT, Nat.reduceLeDiff, lowA, bi, bJ, av, aJ, aX, bX, bO, bE, bS, ce, bV, bk, aI, bh, bj, bf, cd, Op.operands, Int.reduceBEq, Int.reduceLT, Int.reduceLE, Int.reduceNeg, Int.reduceBNe, bl, newB, ch, ck, cj, bne, ↓aj, ↓ai, ↓aa, ↓am, bc, aP, bm, bu, aE, bH, Call.operands, ty3, ty5, ty39, ty118, ty154])
set_option maxRecDepth 100000 in
set_option maxHeartbeats 40000000 in
theorem r_wire_reader_number (C : ak) (k_wire_reader_take : K_wire_reader_take C) (p0 : Greader) (r : Int × Greader) (hF : wire_reader_number p0 = some r) : cF TT C.wide (evW TT C.wide n115 b115) n115 Try.f115.results.toList (aQ Try.f115) [.ptr 0 0] [[.v (.sl 1 (ab bA p0.frest)), .v (.b p0.fshort)]] = some (.v (.i .i64 r.1), [[.v (.sl 1 (ab bA r.2.frest)), .v (.b r.2.fshort)]]) := by
  unfold wire_reader_number at hF
  revert hF
  cases h1 : wire_reader_take 8 p0
  focus
    intro hF
    cases hF
  rename_i qh1
  obtain ⟨x1, x2⟩ := qh1
  intro hF
  try dsimp only at hF
  have g1 : C.wide 133 [.ptr 0 0, .v (.i .i64 8)] [[.v (.sl 1 (ab bA p0.frest)), .v (.b p0.fshort)]] = some (.v (.sl 1 (ab bA x1)), [[.v (.sl 1 (ab bA x2.frest)), .v (.b x2.fshort)]]) := cB [0] rfl rfl rfl rfl (k_wire_reader_take 8 p0 _ h1) rfl rfl
  revert hF
  cases h2 : ci (st_wire_reader_number_0 x1 (x1.length : Int) x2) (0, 0)
  focus
    intro hF
    cases hF
  rename_i qh2
  revert qh2
  intro x3 h2
  intro hF
  try dsimp only at hF
  have g2 : evW TT C.wide n115 b115 0 ⟨[(3, .v (.i .u64 0)), (7, .v (.sl 1 (ab bA x1))), (8, .v (.i .i64 (x1.length : Int))), (9, .v (.i .i64 0))], [[.v (.sl 1 (ab bA x2.frest)), .v (.b x2.fshort)]]⟩ = some (.normal, ⟨[(3, .v (.i .u64 x3))], [[.v (.sl 1 (ab bA x2.frest)), .v (.b x2.fshort)]]⟩) := cy (hd_wire_reader_number_0 x1 (x1.length : Int) x2) (ou_wire_reader_number_0 x1 (x1.length : Int) x2) (fun s o hs => sl_wire_reader_number_0 C x1 (x1.length : Int) x2 s o hs) h2
  have hR := Option.some.inj hF
  clear hF
  subst hR
  all_goals (rw [ba]; show cp _ _ _ (aH _ _ _ _ (Code.seq _ _) _) = _; simp (maxSteps := 4000000) only [*, res115, n115a10t, n115a10f, n115k0, n115k1, n115k2, n115k3, n115k4, n115k5, n115k6, n115k7, n115ro, n115mv, n115gv, ↓RP, RB, ↓ah, ↓ac, ↓af, ↓ad, ↓ae, enter, aW, aC, aZ, be, aM, Mx.bw, opnd, Mx.bF, Nat.reduceBEq, bK, Mx.fit, bI, bY, toVs, cellsOf, toV, aO, aB, ax, Mx.put, ofConst, ofCell, Mx.prune, killB, killBs, aK, putDst, au, ao, aD, loadAt, bM, List.map, Nat.reduceAdd, Nat.reduceMul, cm, cn, aF, eqC, cg, aN, reduceIte, reduceCtorEq, az, bn, bq, co, bN, bD, aL, bx, lowC, lowP, forceAll, bound, bW, bg, bv, aU, br, kill, spendLoc, spendOk, setOwn, dropAl, dropAls, bG, bP, bd, cb, lend, lendA, aS, ay, bU, bL, bare, bQ, frz, bZ, bo, argE, argsE, bB, bT, fill, setCells, bR, takeParts, bp, aR, ownAt, Nat.reduceBNe, Nat.reduceSub, Nat.reduceLT, Nat.reduceLeDiff, lowA, bi, bJ, av, aJ, aX, bX, bO, bE, bS, ce, bV, bk, aI, bh, bj, bf, cd, Op.operands, Int.reduceBEq, Int.reduceLT, Int.reduceLE, Int.reduceNeg, Int.reduceBNe, bl, newB, ch, ck, cj, bne, ↓aj, ↓ai, ↓aa, ↓am, bc, aP, bm, bu, aE, bH, Call.operands, ty3, ty5, ty39, ty118, ty154])
/-! ### (*wire.reader).small -/
def n116 : cC where
  keep := fun i => match i with
    | 0 => [0]
    | 1 => [6, 7, 8]
    | 2 => [6, 8, 9]
    | 3 => [4]
    | 4 => [2]
    | 5 => [6, 7, 8]
    | 6 => [2]
    | _ => []
  ro := fun _ => false
  mv := fun _ => false
  give := fun _ => false
  free := fun _ => []
  alive := fun i x => match i, x with
    | 9, true => some [6, 8]
    | 9, false => some []
    | _, _ => none
theorem n116a9t (e : Env) (S : aA) : aw n116 9 true ⟨e, S⟩ = ⟨prune [6, 8] e, S⟩ := rfl
theorem n116a9f (e : Env) (S : aA) : aw n116 9 false ⟨e, S⟩ = ⟨prune [] e, S⟩ := rfl
theorem n116k0 : n116.keep 0 = [0] := rfl
theorem n116k1 : n116.keep 1 = [6, 7, 8] := rfl
theorem n116k2 : n116.keep 2 = [6, 8, 9] := rfl
theorem n116k3 : n116.keep 3 = [4] := rfl
theorem n116k4 : n116.keep 4 = [2] := rfl
theorem n116k5 : n116.keep 5 = [6, 7, 8] := rfl
theorem n116k6 : n116.keep 6 = [2] := rfl
theorem n116ro (t : Nat) : n116.ro t = (false) := rfl
theorem n116mv (t : Nat) : n116.mv t = (false) := rfl
theorem n116gv (t : Nat) : n116.give t = (false) := rfl
theorem res116 : Try.f116.results.toList = [.tmp 2] := rfl
noncomputable def b116 : Code := aQ Try.f116
noncomputable def c116_0 : Code := (bz 0 (aQ Try.f116)).getD .skip
theorem fl116_0 : bz 0 b116 = some c116_0 := rfl
def hd_wire_reader_small_0 (p0 : List Int) (p1 : Int) (p2 : Greader) (s : Unit) : St := ⟨[(6, .v (.sl 1 (ab bA p0))), (7, .v (.i .i64 p1)), (8, .v (.i .i64 0))], [[.v (.sl 1 (ab bA p2.frest)), .v (.b p2.fshort)]]⟩
def ou_wire_reader_small_0 (p0 : List Int) (p1 : Int) (p2 : Greader) (r : Int ⊕ Unit) : Option (Ex × St) := match r with
  | .inl r => some (.ret, ⟨[(2, .v (.i .i64 r))], [[.v (.sl 1 (ab bA p2.frest)), .v (.b p2.fshort)]]⟩)
  | .inr r => some (.normal, ⟨[], [[.v (.sl 1 (ab bA p2.frest)), .v (.b p2.fshort)]]⟩)

set_option maxRecDepth 100000 in
set_option maxHeartbeats 40000000 in
theorem sl_wire_reader_small_0 (C : ak)  (p0 : List Int) (p1 : Int) (p2 : Greader) (s : Unit) (o : Unit ⊕ (Int ⊕ Unit)) (hF : st_wire_reader_small_0 p0 p1 p2 s = some o) : evW TT C.wide n116 b116 0 (hd_wire_reader_small_0 p0 p1 p2 s) = Sum.elim (fun s => evW TT C.wide n116 b116 0 (hd_wire_reader_small_0 p0 p1 p2 s)) (fun r => ou_wire_reader_small_0 p0 p1 p2 r) o := by
  unfold st_wire_reader_small_0 at hF
  try dsimp only at hF
  rw [ct TT n116 fl116_0]
  refine aT (decide (0 < p1)) ?_ ?_
  focus
    intro h1
    replace hF := ar h1 hF
    have hR := Option.some.inj hF
    clear hF
    subst hR
  rotate_left 1
  intro h1
  replace hF := aq h1 hF
  revert hF
  cases h2 : idx p0 0
  focus
    intro hF
    cases hF
  rename_i x1
  intro hF
  try dsimp only at hF
  have g1 : decide (0 ≤ 0) = true := (cc h2).1
  have g2 : (ab bA p0)[(0 : Int).toNat]? = some [.i .u8 x1] := ca _ h2
  have hR := Option.some.inj hF
  clear hF
  subst hR
  all_goals (show cD _ _ _ (aH _ _ _ _ (Code.seq _ _) _) = _; simp (maxSteps := 4000000) only [*, hd_wire_reader_small_0, ou_wire_reader_small_0, res116, n116a9t, n116a9f, n116k0, n116k1, n116k2, n116k3, n116k4, n116k5, n116k6, n116ro, n116mv, n116gv, ↓RP, RB, ↓ah, ↓ac, ↓af, ↓ad, ↓ae, enter, aW, aC, aZ, be, aM, Mx.bw, opnd, Mx.bF, Nat.reduceBEq, bK, Mx.fit, bI, bY, toVs, cellsOf, toV, aO, aB, ax, Mx.put, ofConst, ofCell, Mx.prune, killB, killBs, aK, putDst, au, ao, aD, loadAt, bM, List.map, Nat.reduceAdd, Nat.reduceMul, cm, cn, aF, eqC, cg, aN, reduceIte, reduceCtorEq, az, bn, bq, co, bN, bD, aL, bx, lowC, lowP, forceAll, bound, bW, bg, bv, aU, br, kill, spendLoc, spendOk, setOwn, dropAl, dropAls, bG, bP, bd, cb, lend, lendA, aS, ay, bU, bL, bare, bQ, frz, bZ, bo, argE, argsE, bB, bT, fill, setCells, bR, takeParts, bp, aR, ownAt, Nat.reduceBNe, Nat.reduceSub, Nat.reduceLT, Nat.reduceLeDiff, lowA, bi, bJ, av, aJ, aX, bX, bO, bE, bS, ce, bV, bk, aI, bh, bj, bf, cd, Op.operands, Int.reduceBEq, Int.reduceLT, Int.reduceLE, Int.reduceNeg, Int.reduceBNe, bl, newB, ch, ck, cj, bne, ↓aj, ↓ai, ↓aa, ↓am, bc, aP, bm, bu, aE, bH, Call.operands, ty3, ty5, ty39, ty118])
set_option maxRecDepth 100000 in
set_option maxHeartbeats 40000000 in
theorem r_wire_reader_small (C : ak) (k_wire_reader_take : K_wire_reader_take C) (p0 : Greader) (r : Int × Greader) (hF : wire_reader_small p0 = some r) : cF TT C.wide (evW TT C.wide n116 b116) n116 Try.f116.results.toList (aQ Try.f116) [.ptr 0 0] [[.v (.sl 1 (ab bA p0.frest)), .v (.b p0.fshort)]] = some (.v (.i .i64 r.1), [[.v (.sl 1 (ab bA r.2.frest)), .v (.b r.2.fshort)]]) := by
  unfold wire_reader_small at hF
  revert hF
  cases h1 : wire_reader_take 1 p0
  focus
    intro hF
    cases hF
  rename_i qh1
  obtain ⟨x1, x2⟩ := qh1
  intro hF
  try dsimp only at hF
  have g1 : C.wide 133 [.ptr 0 0, .v (.i .i64 1)] [[.v (.sl 1 (ab bA p0.frest)), .v (.b p0.fshort)]] = some (.v (.sl 1 (ab bA x1)), [[.v (.sl 1 (ab bA x2.frest)), .v (.b x2.fshort)]]) := cB [0] rfl rfl rfl rfl (k_wire_reader_take 1 p0 _ h1) rfl rfl
  revert hF
  cases h2 : ci (st_wire_reader_small_0 x1 (x1.length : Int) x2) ()
  focus
    intro hF
    cases hF
  rename_i qh2
  cases qh2
  focus
    rename_i z0h2
    revert z0h2
    intro x3 h2
    intro hF
    try dsimp only at hF
    have g2 : evW TT C.wide n116 b116 0 ⟨[(6, .v (.sl 1 (ab bA x1))), (7, .v (.i .i64 (x1.length : Int))), (8, .v (.i .i64 0))], [[.v (.sl 1 (ab bA x2.frest)), .v (.b x2.fshort)]]⟩ = some (.ret, ⟨[(2, .v (.i .i64 x3))], [[.v (.sl 1 (ab bA x2.frest)), .v (.b x2.fshort)]]⟩) := cy (hd_wire_reader_small_0 x1 (x1.length : Int) x2) (ou_wire_reader_small_0 x1 (x1.length : Int) x2) (fun s o hs => sl_wire_reader_small_0 C x1 (x1.length : Int) x2 s o hs) h2
    have hR := Option.some.inj hF
    clear hF
    subst hR
  rotate_left 1
  rename_i y0h2
  intro hF
  try dsimp only at hF
  have g3 : evW TT C.wide n116 b116 0 ⟨[(6, .v (.sl 1 (ab bA x1))), (7, .v (.i .i64 (x1.length : Int))), (8, .v (.i .i64 0))], [[.v (.sl 1 (ab bA x2.frest)), .v (.b x2.fshort)]]⟩ = some (.normal, ⟨[], [[.v (.sl 1 (ab bA x2.frest)), .v (.b x2.fshort)]]⟩) := cy (hd_wire_reader_small_0 x1 (x1.length : Int) x2) (ou_wire_reader_small_0 x1 (x1.length : Int) x2) (fun s o hs => sl_wire_reader_small_0 C x1 (x1.length : Int) x2 s o hs) h2
  have hR := Option.some.inj hF
  clear hF
  subst hR
  all_goals (rw [ba]; show cp _ _ _ (aH _ _ _ _ (Code.seq _ _) _) = _; simp (maxSteps := 4000000) only [*, res116, n116a9t, n116a9f, n116k0, n116k1, n116k2, n116k3, n116k4, n116k5, n116k6, n116ro, n116mv, n116gv, ↓RP, RB, ↓ah, ↓ac, ↓af, ↓ad, ↓ae, enter, aW, aC, aZ, be, aM, Mx.bw, opnd, Mx.bF, Nat.reduceBEq, bK, Mx.fit, bI, bY, toVs, cellsOf, toV, aO, aB, ax, Mx.put, ofConst, ofCell, Mx.prune, killB, killBs, aK, putDst, au, ao, aD, loadAt, bM, List.map, Nat.reduceAdd, Nat.reduceMul, cm, cn, aF, eqC, cg, aN, reduceIte, reduceCtorEq, az, bn, bq, co, bN, bD, aL, bx, lowC, lowP, forceAll, bound, bW, bg, bv, aU, br, kill, spendLoc, spendOk, setOwn, dropAl, dropAls, bG, bP, bd, cb, lend, lendA, aS, ay, bU, bL, bare, bQ, frz, bZ, bo, argE, argsE, bB, bT, fill, setCells, bR, takeParts, bp, aR, ownAt, Nat.reduceBNe, Nat.reduceSub, Nat.reduceLT, Nat.reduceLeDiff, lowA, bi, bJ, av, aJ, aX, bX, bO, bE, bS, ce, bV, bk, aI, bh, bj, bf, cd, Op.operands, Int.reduceBEq, Int.reduceLT, Int.reduceLE, Int.reduceNeg, Int.reduceBNe, bl, newB, ch, ck, cj, bne, ↓aj, ↓ai, ↓aa, ↓am, bc, aP, bm, bu, aE, bH, Call.operands, ty3, ty5, ty39, ty118])
/-! ### (*wire.reader).text -/
def n135 : cC where
  keep := fun i => match i with
    | 0 => [0]
    | 1 => [2]
    | _ => []
  ro := fun _ => false
  mv := fun _ => false
  give := fun _ => false
  free := fun _ => []
theorem n135k0 : n135.keep 0 = [0] := rfl
theorem n135k1 : n135.keep 1 = [2] := rfl
theorem n135ro (t : Nat) : n135.ro t = (false) := rfl
theorem n135mv (t : Nat) : n135.mv t = (false) := rfl
theorem n135gv (t : Nat) : n135.give t = (false) := rfl
theorem res135 : Try.f135.results.toList = [.tmp 2] := rfl
noncomputable def b135 : Code := aQ Try.f135
set_option maxRecDepth 100000 in
set_option maxHeartbeats 40000000 in
theorem r_wire_reader_text (C : ak) (k_wire_reader_small : K_wire_reader_small C) (k_wire_reader_take : K_wire_reader_take C) (p0 : Greader) (r : ByteArray × Greader) (hF : wire_reader_text p0 = some r) : cF TT C.wide (evW TT C.wide n135 b135) n135 Try.f135.results.toList (aQ Try.f135) [.ptr 0 0] [[.v (.sl 1 (ab bA p0.frest)), .v (.b p0.fshort)]] = some (.v (.s r.1), [[.v (.sl 1 (ab bA r.2.frest)), .v (.b r.2.fshort)]]) := by
  unfold wire_reader_text at hF
  revert hF
  cases h1 : wire_reader_small p0
  focus
    intro hF
    cases hF
  rename_i qh1
  obtain ⟨x1, x2⟩ := qh1
  intro hF
  try dsimp only at hF
  have g1 : C.wide 116 [.ptr 0 0] [[.v (.sl 1 (ab bA p0.frest)), .v (.b p0.fshort)]] = some (.v (.i .i64 x1), [[.v (.sl 1 (ab bA x2.frest)), .v (.b x2.fshort)]]) := cB [0] rfl rfl rfl rfl (k_wire_reader_small p0 _ h1) rfl rfl
  revert hF
  cases h2 : wire_reader_take x1 x2
  focus
    intro hF
    cases hF
  rename_i qh2
  obtain ⟨x3, x4⟩ := qh2
  intro hF
  try dsimp only at hF
  have g2 : C.wide 133 [.ptr 0 0, .v (.i .i64 x1)] [[.v (.sl 1 (ab bA x2.frest)), .v (.b x2.fshort)]] = some (.v (.sl 1 (ab bA x3)), [[.v (.sl 1 (ab bA x4.frest)), .v (.b x4.fshort)]]) := cB [0] rfl rfl rfl rfl (k_wire_reader_take x1 x2 _ h2) rfl rfl
  refine aG (allB x3) ?_ ?_
  focus
    intro h3
    replace hF := aq h3 hF
    have hR := Option.some.inj hF
    clear hF
    subst hR
  rotate_left 1
  intro h3
  replace hF := ar h3 hF
  cases hF
  all_goals (rw [ba]; show cp _ _ _ (aH _ _ _ _ (Code.seq _ _) _) = _; simp (maxSteps := 4000000) only [*, res135, n135k0, n135k1, n135ro, n135mv, n135gv, ↓RP, RB, ↓ah, ↓ac, ↓af, ↓ad, ↓ae, enter, aW, aC, aZ, be, aM, Mx.bw, opnd, Mx.bF, Nat.reduceBEq, bK, Mx.fit, bI, bY, toVs, cellsOf, toV, aO, aB, ax, Mx.put, ofConst, ofCell, Mx.prune, killB, killBs, aK, putDst, au, ao, aD, loadAt, bM, List.map, Nat.reduceAdd, Nat.reduceMul, cm, cn, aF, eqC, cg, aN, reduceIte, reduceCtorEq, az, bn, bq, co, bN, bD, aL, bx, lowC, lowP, forceAll, bound, bW, bg, bv, aU, br, kill, spendLoc, spendOk, setOwn, dropAl, dropAls, bG, bP, bd, cb, lend, lendA, aS, ay, bU, bL, bare, bQ, frz, bZ, bo, argE, argsE, bB, bT, fill, setCells, bR, takeParts, bp, aR, ownAt, Nat.reduceBNe, Nat.reduceSub, Nat.reduceLT, Nat.reduceLeDiff, lowA, bi, bJ, av, aJ, aX, bX, bO, bE, bS, ce, bV, bk, aI, bh, bj, bf, cd, Op.operands, Int.reduceBEq, Int.reduceLT, Int.reduceLE, Int.reduceNeg, Int.reduceBNe, bl, newB, ch, ck, cj, bne, ↓aj, ↓ai, ↓aa, ↓am, bc, aP, bm, bu, aE, bH, Call.operands, ty3, ty5, ty9, ty39, ty118])
/-! ### (*wire.reader).command -/
def n134 : cC where
  keep := fun i => match i with
    | 0 => [0, 2]
    | 1 => [0, 2, 3]
    | 2 => [0, 2, 3]
    | 3 => [2, 3]
    | 4 => [2]
    | _ => []
  ro := fun _ => false
  mv := fun _ => false
  give := fun _ => false
  free := fun _ => []
theorem n134k0 : n134.keep 0 = [0, 2] := rfl
theorem n134k1 : n134.keep 1 = [0, 2, 3] := rfl
theorem n134k2 : n134.keep 2 = [0, 2, 3] := rfl
theorem n134k3 : n134.keep 3 = [2, 3] := rfl
theorem n134k4 : n134.keep 4 = [2] := rfl
theorem n134ro (t : Nat) : n134.ro t = (false) := rfl
theorem n134mv (t : Nat) : n134.mv t = (false) := rfl
theorem n134gv (t : Nat) : n134.give t = (false) := rfl
theorem res134 : Try.f134.results.toList = [.cell 2 34] := rfl
noncomputable def b134 : Code := aQ Try.f134
set_option maxRecDepth 100000 in
set_option maxHeartbeats 40000000 in
theorem r_wire_reader_command (C : ak) (k_wire_reader_small : K_wire_reader_small C) (k_wire_reader_text : K_wire_reader_text C) (k_wire_reader_number : K_wire_reader_number C) (p0 : Greader) (r : GCommand × Greader) (hF : wire_reader_command p0 = some r) : cF TT C.wide (evW TT C.wide n134 b134) n134 Try.f134.results.toList (aQ Try.f134) [.ptr 0 0] [[.v (.sl 1 (ab bA p0.frest)), .v (.b p0.fshort)]] = some (.agg [.v (.i .i64 r.1.fKind), .v (.s r.1.fKey), .v (.s r.1.fField), .v (.s r.1.fText), .v (.i .i64 r.1.fN)], [[.v (.sl 1 (ab bA r.2.frest)), .v (.b r.2.fshort)]]) := by
  unfold wire_reader_command at hF
  revert hF
  cases h1 : wire_reader_small p0
  focus
    intro hF
    cases hF
  rename_i qh1
  obtain ⟨x1, x2⟩ := qh1
  intro hF
  try dsimp only at hF
  have g1 : C.wide 116 [.ptr 0 0] [[.v (.sl 1 (ab bA p0.frest)), .v (.b p0.fshort)], [.v (.i .i64 0), .v (.s ByteArray.empty), .v (.s ByteArray.empty), .v (.s ByteArray.empty), .v (.i .i64 0)]] = some (.v (.i .i64 x1), [[.v (.sl 1 (ab bA x2.frest)), .v (.b x2.fshort)], [.v (.i .i64 0), .v (.s ByteArray.empty), .v (.s ByteArray.empty), .v (.s ByteArray.empty), .v (.i .i64 0)]]) := cB [0] rfl rfl rfl rfl (k_wire_reader_small p0 _ h1) rfl rfl
  revert hF
  cases h2 : wire_reader_text x2
  focus
    intro hF
    cases hF
  rename_i qh2
  obtain ⟨x3, x4⟩ := qh2
  intro hF
  try dsimp only at hF
  have g2 : C.wide 135 [.ptr 0 0] [[.v (.sl 1 (ab bA x2.frest)), .v (.b x2.fshort)], [.v (.i .i64 0), .v (.s ByteArray.empty), .v (.s ByteArray.empty), .v (.s ByteArray.empty), .v (.i .i64 0)], [.v (.i .i64 x1), .v (.s ByteArray.empty), .v (.s ByteArray.empty), .v (.s ByteArray.empty), .v (.i .i64 0)]] = some (.v (.s x3), [[.v (.sl 1 (ab bA x4.frest)), .v (.b x4.fshort)], [.v (.i .i64 0), .v (.s ByteArray.empty), .v (.s ByteArray.empty), .v (.s ByteArray.empty), .v (.i .i64 0)], [.v (.i .i64 x1), .v (.s ByteArray.empty), .v (.s ByteArray.empty), .v (.s ByteArray.empty), .v (.i .i64 0)]]) := cB [0] rfl rfl rfl rfl (k_wire_reader_text x2 _ h2) rfl rfl
  revert hF
  cases h3 : wire_reader_text x4
  focus
    intro hF
    cases hF
  rename_i qh3
  obtain ⟨x5, x6⟩ := qh3
  intro hF
  try dsimp only at hF
  have g3 : C.wide 135 [.ptr 0 0] [[.v (.sl 1 (ab bA x4.frest)), .v (.b x4.fshort)], [.v (.i .i64 0), .v (.s ByteArray.empty), .v (.s ByteArray.empty), .v (.s ByteArray.empty), .v (.i .i64 0)], [.v (.i .i64 x1), .v (.s ByteArray.empty), .v (.s ByteArray.empty), .v (.s ByteArray.empty), .v (.i .i64 0)]] = some (.v (.s x5), [[.v (.sl 1 (ab bA x6.frest)), .v (.b x6.fshort)], [.v (.i .i64 0), .v (.s ByteArray.empty), .v (.s ByteArray.empty), .v (.s ByteArray.empty), .v (.i .i64 0)], [.v (.i .i64 x1), .v (.s ByteArray.empty), .v (.s ByteArray.empty), .v (.s ByteArray.empty), .v (.i .i64 0)]]) := cB [0] rfl rfl rfl rfl (k_wire_reader_text x4 _ h3) rfl rfl
  revert hF
  cases h4 : wire_reader_text x6
  focus
    intro hF
    cases hF
  rename_i qh4
  obtain ⟨x7, x8⟩ := qh4
  intro hF
  try dsimp only at hF
  have g4 : C.wide 135 [.ptr 0 0] [[.v (.sl 1 (ab bA x6.frest)), .v (.b x6.fshort)], [.v (.i .i64 0), .v (.s ByteArray.empty), .v (.s ByteArray.empty), .v (.s ByteArray.empty), .v (.i .i64 0)], [.v (.i .i64 x1), .v (.s ByteArray.empty), .v (.s ByteArray.empty), .v (.s ByteArray.empty), .v (.i .i64 0)]] = some (.v (.s x7), [[.v (.sl 1 (ab bA x8.frest)), .v (.b x8.fshort)], [.v (.i .i64 0), .v (.s ByteArray.empty), .v (.s ByteArray.empty), .v (.s ByteArray.empty), .v (.i .i64 0)], [.v (.i .i64 x1), .v (.s ByteArray.empty), .v (.s ByteArray.empty), .v (.s ByteArray.empty), .v (.i .i64 0)]]) := cB [0] rfl rfl rfl rfl (k_wire_reader_text x6 _ h4) rfl rfl
  revert hF
  cases h5 : wire_reader_number x8
  focus
    intro hF
    cases hF
  rename_i qh5
  obtain ⟨x9, x10⟩ := qh5
  intro hF
  try dsimp only at hF
  have g5 : C.wide 115 [.ptr 0 0] [[.v (.sl 1 (ab bA x8.frest)), .v (.b x8.fshort)], [.v (.i .i64 0), .v (.s ByteArray.empty), .v (.s ByteArray.empty), .v (.s ByteArray.empty), .v (.i .i64 0)], [.v (.i .i64 x1), .v (.s x3), .v (.s x5), .v (.s x7), .v (.i .i64 0)]] = some (.v (.i .i64 x9), [[.v (.sl 1 (ab bA x10.frest)), .v (.b x10.fshort)], [.v (.i .i64 0), .v (.s ByteArray.empty), .v (.s ByteArray.empty), .v (.s ByteArray.empty), .v (.i .i64 0)], [.v (.i .i64 x1), .v (.s x3), .v (.s x5), .v (.s x7), .v (.i .i64 0)]]) := cB [0] rfl rfl rfl rfl (k_wire_reader_number x8 _ h5) rfl rfl
  have hR := Option.some.inj hF
  clear hF
  subst hR
  all_goals (rw [ba]; show cp _ _ _ (aH _ _ _ _ (Code.seq _ _) _) = _; simp (maxSteps := 4000000) only [*, res134, n134k0, n134k1, n134k2, n134k3, n134k4, n134ro, n134mv, n134gv, ↓RP, RB, ↓ah, ↓ac, ↓af, ↓ad, ↓ae, enter, aW, aC, aZ, be, aM, Mx.bw, opnd, Mx.bF, Nat.reduceBEq, bK, Mx.fit, bI, bY, toVs, cellsOf, toV, aO, aB, ax, Mx.put, ofConst, ofCell, Mx.prune, killB, killBs, aK, putDst, au, ao, aD, loadAt, bM, List.map, Nat.reduceAdd, Nat.reduceMul, cm, cn, aF, eqC, cg, aN, reduceIte, reduceCtorEq, az, bn, bq, co, bN, bD, aL, bx, lowC, lowP, forceAll, bound, bW, bg, bv, aU, br, kill, spendLoc, spendOk, setOwn, dropAl, dropAls, bG, bP, bd, cb, lend, lendA, aS, ay, bU, bL, bare, bQ, frz, bZ, bo, argE, argsE, bB, bT, fill, setCells, bR, takeParts, bp, aR, ownAt, Nat.reduceBNe, Nat.reduceSub, Nat.reduceLT, Nat.reduceLeDiff, lowA, bi, bJ, av, aJ, aX, bX, bO, bE, bS, ce, bV, bk, aI, bh, bj, bf, cd, Op.operands, Int.reduceBEq, Int.reduceLT, Int.reduceLE, Int.reduceNeg, Int.reduceBNe, bl, newB, ch, ck, cj, bne, ↓aj, ↓ai, ↓aa, ↓am, bc, aP, bm, bu, aE, bH, Call.operands, ty3, ty9, ty34, ty118])
/-! ### (*wire.reader).call -/
def n117 : cC where
  keep := fun i => match i with
    | 0 => [0, 2]
    | 1 => [0, 2, 3]
    | 2 => [0, 2, 3, 9]
    | 3 => [0, 2, 3]
    | 4 => [2, 3]
    | 5 => [2]
    | _ => []
  ro := fun _ => false
  mv := fun _ => false
  give := fun _ => false
  free := fun _ => []
  alive := fun i x => match i, x with
    | 9, true => some [0, 2, 3]
    | 9, false => some [2, 3]
    | _, _ => none
theorem n117a9t (e : Env) (S : aA) : aw n117 9 true ⟨e, S⟩ = ⟨prune [0, 2, 3] e, S⟩ := rfl
theorem n117a9f (e : Env) (S : aA) : aw n117 9 false ⟨e, S⟩ = ⟨prune [2, 3] e, S⟩ := rfl
theorem n117k0 : n117.keep 0 = [0, 2] := rfl
theorem n117k1 : n117.keep 1 = [0, 2, 3] := rfl
theorem n117k2 : n117.keep 2 = [0, 2, 3, 9] := rfl
theorem n117k3 : n117.keep 3 = [0, 2, 3] := rfl
theorem n117k4 : n117.keep 4 = [2, 3] := rfl
theorem n117k5 : n117.keep 5 = [2] := rfl
theorem n117ro (t : Nat) : n117.ro t = (false) := rfl
theorem n117mv (t : Nat) : n117.mv t = (false) := rfl
theorem n117gv (t : Nat) : n117.give t = (false) := rfl
theorem res117 : Try.f117.results.toList = [.cell 2 36] := rfl
noncomputable def b117 : Code := aQ Try.f117
set_option maxRecDepth 100000 in
set_option maxHeartbeats 40000000 in
theorem rg_wire_reader_call_q9 (C : ak) (k_wire_reader_number : K_wire_reader_number C) (k_wire_reader_command : K_wire_reader_command C) (p0 : Bool) (p1 : Greader) (p2 : Int) (c : Code) (ho : cr 1 9 b117 = some c) (r : Greader × GCall) (hF : ck_wire_reader_call_q9 p0 p1 p2 = some r) : aH TT C.wide (evW TT C.wide n117 b117) n117 c ⟨[(0, .ptr 0 0), (2, .ptr 1 0), (3, .ptr 2 0), (9, .v (.b p0))], [[.v (.sl 1 (ab bA p1.frest)), .v (.b p1.fshort)], [.v (.i .i64 0), .v (.i .i64 0), .v (.i .i64 0), .v (.s ByteArray.empty), .v (.s ByteArray.empty), .v (.s ByteArray.empty), .v (.i .i64 0)], [.v (.i .i64 p2), .v (.i .i64 0), .v (.i .i64 0), .v (.s ByteArray.empty), .v (.s ByteArray.empty), .v (.s ByteArray.empty), .v (.i .i64 0)]]⟩ = some (.normal, ⟨[(2, .ptr 1 0), (3, .ptr 2 0)], [[.v (.sl 1 (ab bA r.1.frest)), .v (.b r.1.fshort)], [.v (.i .i64 0), .v (.i .i64 0), .v (.i .i64 0), .v (.s ByteArray.empty), .v (.s ByteArray.empty), .v (.s ByteArray.empty), .v (.i .i64 0)], [.v (.i .i64 r.2.fClient), .v (.i .i64 r.2.fSeq), .v (.i .i64 r.2.fCommand.fKind), .v (.s r.2.fCommand.fKey), .v (.s r.2.fCommand.fField), .v (.s r.2.fCommand.fText), .v (.i .i64 r.2.fCommand.fN)]]⟩) := by
  have e := Option.some.inj (ho.symm.trans (rfl : cr 1 9 b117 = some _))
  subst e
  clear ho
  unfold ck_wire_reader_call_q9 at hF
  refine aT p0 ?_ ?_
  focus
    intro h1
    replace hF := ar h1 hF
    have hR := Option.some.inj hF
    clear hF
    subst hR
  rotate_left 1
  intro h1
  replace hF := aq h1 hF
  revert hF
  cases h2 : wire_reader_number p1
  focus
    intro hF
    cases hF
  rename_i qh2
  obtain ⟨x1, x2⟩ := qh2
  intro hF
  try dsimp only at hF
  have g1 : C.wide 115 [.ptr 0 0] [[.v (.sl 1 (ab bA p1.frest)), .v (.b p1.fshort)], [.v (.i .i64 0), .v (.i .i64 0), .v (.i .i64 0), .v (.s ByteArray.empty), .v (.s ByteArray.empty), .v (.s ByteArray.empty), .v (.i .i64 0)], [.v (.i .i64 p2), .v (.i .i64 0), .v (.i .i64 0), .v (.s ByteArray.empty), .v (.s ByteArray.empty), .v (.s ByteArray.empty), .v (.i .i64 0)]] = some (.v (.i .i64 x1), [[.v (.sl 1 (ab bA x2.frest)), .v (.b x2.fshort)], [.v (.i .i64 0), .v (.i .i64 0), .v (.i .i64 0), .v (.s ByteArray.empty), .v (.s ByteArray.empty), .v (.s ByteArray.empty), .v (.i .i64 0)], [.v (.i .i64 p2), .v (.i .i64 0), .v (.i .i64 0), .v (.s ByteArray.empty), .v (.s ByteArray.empty), .v (.s ByteArray.empty), .v (.i .i64 0)]]) := cB [0] rfl rfl rfl rfl (k_wire_reader_number p1 _ h2) rfl rfl
  revert hF
  cases h3 : wire_reader_command x2
  focus
    intro hF
    cases hF
  rename_i qh3
  obtain ⟨x3, x4⟩ := qh3
  intro hF
  try dsimp only at hF
  have g2 : C.wide 134 [.ptr 0 0] [[.v (.sl 1 (ab bA x2.frest)), .v (.b x2.fshort)], [.v (.i .i64 0), .v (.i .i64 0), .v (.i .i64 0), .v (.s ByteArray.empty), .v (.s ByteArray.empty), .v (.s ByteArray.empty), .v (.i .i64 0)], [.v (.i .i64 p2), .v (.i .i64 x1), .v (.i .i64 0), .v (.s ByteArray.empty), .v (.s ByteArray.empty), .v (.s ByteArray.empty), .v (.i .i64 0)]] = some (.agg [.v (.i .i64 x3.fKind), .v (.s x3.fKey), .v (.s x3.fField), .v (.s x3.fText), .v (.i .i64 x3.fN)], [[.v (.sl 1 (ab bA x4.frest)), .v (.b x4.fshort)], [.v (.i .i64 0), .v (.i .i64 0), .v (.i .i64 0), .v (.s ByteArray.empty), .v (.s ByteArray.empty), .v (.s ByteArray.empty), .v (.i .i64 0)], [.v (.i .i64 p2), .v (.i .i64 x1), .v (.i .i64 0), .v (.s ByteArray.empty), .v (.s ByteArray.empty), .v (.s ByteArray.empty), .v (.i .i64 0)]]) := cB [0] rfl rfl rfl rfl (k_wire_reader_command x2 _ h3) rfl rfl
  have hR := Option.some.inj hF
  clear hF
  subst hR
  all_goals (simp (maxSteps := 4000000) only [*, res117, n117a9t, n117a9f, n117k0, n117k1, n117k2, n117k3, n117k4, n117k5, n117ro, n117mv, n117gv, ↓RP, RB, ↓ah, ↓ac, ↓af, ↓ad, ↓ae, enter, aW, aC, aZ, be, aM, Mx.bw, opnd, Mx.bF, Nat.reduceBEq, bK, Mx.fit, bI, bY, toVs, cellsOf, toV, aO, aB, ax, Mx.put, ofConst, ofCell, Mx.prune, killB, killBs, aK, putDst, au, ao, aD, loadAt, bM, List.map, Nat.reduceAdd, Nat.reduceMul, cm, cn, aF, eqC, cg, aN, reduceIte, reduceCtorEq, az, bn, bq, co, bN, bD, aL, bx, lowC, lowP, forceAll, bound, bW, bg, bv, aU, br, kill, spendLoc, spendOk, setOwn, dropAl, dropAls, bG, bP, bd, cb, lend, lendA, aS, ay, bU, bL, bare, bQ, frz, bZ, bo, argE, argsE, bB, bT, fill, setCells, bR, takeParts, bp, aR, ownAt, Nat.reduceBNe, Nat.reduceSub, Nat.reduceLT, Nat.reduceLeDiff, lowA, bi, bJ, av, aJ, aX, bX, bO, bE, bS, ce, bV, bk, aI, bh, bj, bf, cd, Op.operands, Int.reduceBEq, Int.reduceLT, Int.reduceLE, Int.reduceNeg, Int.reduceBNe, bl, newB, ch, ck, cj, bne, ↓aj, ↓ai, bc, aP, bm, bu, aE, bH, Call.operands, ty3, ty4, ty9, ty34, ty36, ty118, ↓aa _ _ _ _ 3, ↓aa _ _ _ _ 4])
set_option maxRecDepth 100000 in
set_option maxHeartbeats 40000000 in
theorem r_wire_reader_call (C : ak) (k_wire_reader_number : K_wire_reader_number C) (k_wire_reader_command : K_wire_reader_command C) (p0 : Greader) (r : GCall × Greader) (hF : wire_reader_call p0 = some r) : cF TT C.wide (evW TT C.wide n117 b117) n117 Try.f117.results.toList (aQ Try.f117) [.ptr 0 0] [[.v (.sl 1 (ab bA p0.frest)), .v (.b p0.fshort)]] = some (.agg [.v (.i .i64 r.1.fClient), .v (.i .i64 r.1.fSeq), .v (.i .i64 r.1.fCommand.fKind), .v (.s r.1.fCommand.fKey), .v (.s r.1.fCommand.fField), .v (.s r.1.fCommand.fText), .v (.i .i64 r.1.fCommand.fN)], [[.v (.sl 1 (ab bA r.2.frest)), .v (.b r.2.fshort)]]) := by
  unfold wire_reader_call at hF
  revert hF
  cases h1 : wire_reader_number p0
  focus
    intro hF
    cases hF
  rename_i qh1
  obtain ⟨x1, x2⟩ := qh1
  intro hF
  try dsimp only at hF
  have g1 : C.wide 115 [.ptr 0 0] [[.v (.sl 1 (ab bA p0.frest)), .v (.b p0.fshort)], [.v (.i .i64 0), .v (.i .i64 0), .v (.i .i64 0), .v (.s ByteArray.empty), .v (.s ByteArray.empty), .v (.s ByteArray.empty), .v (.i .i64 0)]] = some (.v (.i .i64 x1), [[.v (.sl 1 (ab bA x2.frest)), .v (.b x2.fshort)], [.v (.i .i64 0), .v (.i .i64 0), .v (.i .i64 0), .v (.s ByteArray.empty), .v (.s ByteArray.empty), .v (.s ByteArray.empty), .v (.i .i64 0)]]) := cB [0] rfl rfl rfl rfl (k_wire_reader_number p0 _ h1) rfl rfl
  revert hF
  cases h2 : ck_wire_reader_call_q9 (!(x1 == 0)) x2 x1
  focus
    intro hF
    cases hF
  rename_i qh2
  obtain ⟨x3, x4⟩ := qh2
  intro hF
  try dsimp only at hF
  have g2 : @cR TT C.wide (evW TT C.wide n117 b117) n117 1 9 ⟨[(0, .ptr 0 0), (2, .ptr 1 0), (3, .ptr 2 0), (9, .v (.b (!(x1 == 0))))], [[.v (.sl 1 (ab bA x2.frest)), .v (.b x2.fshort)], [.v (.i .i64 0), .v (.i .i64 0), .v (.i .i64 0), .v (.s ByteArray.empty), .v (.s ByteArray.empty), .v (.s ByteArray.empty), .v (.i .i64 0)], [.v (.i .i64 x1), .v (.i .i64 0), .v (.i .i64 0), .v (.s ByteArray.empty), .v (.s ByteArray.empty), .v (.s ByteArray.empty), .v (.i .i64 0)]]⟩ ⟨_⟩ = some (.normal, ⟨[(2, .ptr 1 0), (3, .ptr 2 0)], [[.v (.sl 1 (ab bA x3.frest)), .v (.b x3.fshort)], [.v (.i .i64 0), .v (.i .i64 0), .v (.i .i64 0), .v (.s ByteArray.empty), .v (.s ByteArray.empty), .v (.s ByteArray.empty), .v (.i .i64 0)], [.v (.i .i64 x4.fClient), .v (.i .i64 x4.fSeq), .v (.i .i64 x4.fCommand.fKind), .v (.s x4.fCommand.fKey), .v (.s x4.fCommand.fField), .v (.s x4.fCommand.fText), .v (.i .i64 x4.fCommand.fN)]]⟩) := rg_wire_reader_call_q9 C k_wire_reader_number k_wire_reader_command (!(x1 == 0)) x2 x1 _ rfl _ h2
  have hR := Option.some.inj hF
  clear hF
  subst hR
  all_goals (rw [ba]; show cp _ _ _ (aH _ _ _ _ (Code.seq _ _) _) = _; simp (maxSteps := 4000000) only [*, res117, n117a9t, n117a9f, n117k0, n117k1, n117k2, n117k3, n117k4, n117k5, n117ro, n117mv, n117gv, ↓RP, RB, ↓ah, ↓ac, ↓af, ↓ad, ↓ae, enter, aW, aC, aZ, be, aM, Mx.bw, opnd, Mx.bF, Nat.reduceBEq, bK, Mx.fit, bI, bY, toVs, cellsOf, toV, aO, aB, ax, Mx.put, ofConst, ofCell, Mx.prune, killB, killBs, aK, putDst, au, ao, aD, loadAt, bM, List.map, Nat.reduceAdd, Nat.reduceMul, cm, cn, aF, eqC, cg, aN, reduceIte, reduceCtorEq, az, bn, bq, co, bN, bD, aL, bx, lowC, lowP, forceAll, bound, bW, bg, bv, aU, br, kill, spendLoc, spendOk, setOwn, dropAl, dropAls, bG, bP, bd, cb, lend, lendA, aS, ay, bU, bL, bare, bQ, frz, bZ, bo, argE, argsE, bB, bT, fill, setCells, bR, takeParts, bp, aR, ownAt, Nat.reduceBNe, Nat.reduceSub, Nat.reduceLT, Nat.reduceLeDiff, lowA, bi, bJ, av, aJ, aX, bX, bO, bE, bS, ce, bV, bk, aI, bh, bj, bf, cd, Op.operands, Int.reduceBEq, Int.reduceLT, Int.reduceLE, Int.reduceNeg, Int.reduceBNe, bl, newB, ch, ck, cj, bne, ↓aj, bc, aP, bm, bu, aE, bH, Call.operands, ty3, ty4, ty9, ty34, ty36, ty118, ↓aa _ _ _ _ 0, ↓aa _ _ _ _ 1, ↓aa _ _ _ _ 2, ↓cP _ _ _ _ 9, ↓aa _ _ _ _ 3, ↓aa _ _ _ _ 4, ↓aa _ _ _ _ 5])
/-! ### (*wire.reader).item -/
def n85 : cC where
  keep := fun i => match i with
    | 0 => [0, 2]
    | 1 => [0, 2, 4]
    | 2 => [0, 2, 4, 11]
    | 3 => [2, 3]
    | 4 => [0, 2, 4, 11, 13]
    | 5 => [2, 4]
    | 6 => [2, 4, 18]
    | 7 => [2, 4]
    | 8 => [2, 3]
    | _ => []
  ro := fun _ => false
  mv := fun _ => false
  give := fun _ => false
  free := fun _ => []
  alive := fun i x => match i, x with
    | 13, true => some [0, 2, 4]
    | 13, false => some [2, 4, 11]
    | 18, true => some [2, 4]
    | 18, false => some [2, 4]
    | _, _ => none
theorem n85a13t (e : Env) (S : aA) : aw n85 13 true ⟨e, S⟩ = ⟨prune [0, 2, 4] e, S⟩ := rfl
theorem n85a13f (e : Env) (S : aA) : aw n85 13 false ⟨e, S⟩ = ⟨prune [2, 4, 11] e, S⟩ := rfl
theorem n85a18t (e : Env) (S : aA) : aw n85 18 true ⟨e, S⟩ = ⟨prune [2, 4] e, S⟩ := rfl
theorem n85a18f (e : Env) (S : aA) : aw n85 18 false ⟨e, S⟩ = ⟨prune [2, 4] e, S⟩ := rfl
theorem n85k0 : n85.keep 0 = [0, 2] := rfl
theorem n85k1 : n85.keep 1 = [0, 2, 4] := rfl
theorem n85k2 : n85.keep 2 = [0, 2, 4, 11] := rfl
theorem n85k3 : n85.keep 3 = [2, 3] := rfl
theorem n85k4 : n85.keep 4 = [0, 2, 4, 11, 13] := rfl
theorem n85k5 : n85.keep 5 = [2, 4] := rfl
theorem n85k6 : n85.keep 6 = [2, 4, 18] := rfl
theorem n85k7 : n85.keep 7 = [2, 4] := rfl
theorem n85k8 : n85.keep 8 = [2, 3] := rfl
theorem n85ro (t : Nat) : n85.ro t = (false) := rfl
theorem n85mv (t : Nat) : n85.mv t = (false) := rfl
theorem n85gv (t : Nat) : n85.give t = (false) := rfl
theorem res85 : Try.f85.results.toList = [.cell 2 38, .tmp 3] := rfl
noncomputable def b85 : Code := aQ Try.f85
set_option maxRecDepth 100000 in
set_option maxHeartbeats 40000000 in
theorem r_wire_reader_item (C : ak) (k_wire_reader_number : K_wire_reader_number C) (k_wire_reader_small : K_wire_reader_small C) (k_wire_reader_call : K_wire_reader_call C) (p0 : Greader) (r : GItem × Bool × Greader) (hF : wire_reader_item p0 = some r) : cF TT C.wide (evW TT C.wide n85 b85) n85 Try.f85.results.toList (aQ Try.f85) [.ptr 0 0] [[.v (.sl 1 (ab bA p0.frest)), .v (.b p0.fshort)]] = some (.tup [.agg [.v (.i .i64 r.1.fTerm), .v (.i .i64 r.1.fTime), .v (.b r.1.fNop), .v (.i .i64 r.1.fCall.fClient), .v (.i .i64 r.1.fCall.fSeq), .v (.i .i64 r.1.fCall.fCommand.fKind), .v (.s r.1.fCall.fCommand.fKey), .v (.s r.1.fCall.fCommand.fField), .v (.s r.1.fCall.fCommand.fText), .v (.i .i64 r.1.fCall.fCommand.fN)], .v (.b r.2.1)], [[.v (.sl 1 (ab bA r.2.2.frest)), .v (.b r.2.2.fshort)]]) := by
  unfold wire_reader_item at hF
  revert hF
  cases h1 : wire_reader_number p0
  focus
    intro hF
    cases hF
  rename_i qh1
  obtain ⟨x1, x2⟩ := qh1
  intro hF
  try dsimp only at hF
  have g1 : C.wide 115 [.ptr 0 0] [[.v (.sl 1 (ab bA p0.frest)), .v (.b p0.fshort)], [.v (.i .i64 0), .v (.i .i64 0), .v (.b false), .v (.i .i64 0), .v (.i .i64 0), .v (.i .i64 0), .v (.s ByteArray.empty), .v (.s ByteArray.empty), .v (.s ByteArray.empty), .v (.i .i64 0)]] = some (.v (.i .i64 x1), [[.v (.sl 1 (ab bA x2.frest)), .v (.b x2.fshort)], [.v (.i .i64 0), .v (.i .i64 0), .v (.b false), .v (.i .i64 0), .v (.i .i64 0), .v (.i .i64 0), .v (.s ByteArray.empty), .v (.s ByteArray.empty), .v (.s ByteArray.empty), .v (.i .i64 0)]]) := cB [0] rfl rfl rfl rfl (k_wire_reader_number p0 _ h1) rfl rfl
  revert hF
  cases h2 : wire_reader_number x2
  focus
    intro hF
    cases hF
  rename_i qh2
  obtain ⟨x3, x4⟩ := qh2
  intro hF
  try dsimp only at hF
  have g2 : C.wide 115 [.ptr 0 0] [[.v (.sl 1 (ab bA x2.frest)), .v (.b x2.fshort)], [.v (.i .i64 0), .v (.i .i64 0), .v (.b false), .v (.i .i64 0), .v (.i .i64 0), .v (.i .i64 0), .v (.s ByteArray.empty), .v (.s ByteArray.empty), .v (.s ByteArray.empty), .v (.i .i64 0)]] = some (.v (.i .i64 x3), [[.v (.sl 1 (ab bA x4.frest)), .v (.b x4.fshort)], [.v (.i .i64 0), .v (.i .i64 0), .v (.b false), .v (.i .i64 0), .v (.i .i64 0), .v (.i .i64 0), .v (.s ByteArray.empty), .v (.s ByteArray.empty), .v (.s ByteArray.empty), .v (.i .i64 0)]]) := cB [0] rfl rfl rfl rfl (k_wire_reader_number x2 _ h2) rfl rfl
  revert hF
  cases h3 : wire_reader_small x4
  focus
    intro hF
    cases hF
  rename_i qh3
  obtain ⟨x5, x6⟩ := qh3
  intro hF
  try dsimp only at hF
  have g3 : C.wide 116 [.ptr 0 0] [[.v (.sl 1 (ab bA x4.frest)), .v (.b x4.fshort)], [.v (.i .i64 0), .v (.i .i64 0), .v (.b false), .v (.i .i64 0), .v (.i .i64 0), .v (.i .i64 0), .v (.s ByteArray.empty), .v (.s ByteArray.empty), .v (.s ByteArray.empty), .v (.i .i64 0)], [.v (.i .i64 x1), .v (.i .i64 x3), .v (.b false), .v (.i .i64 0), .v (.i .i64 0), .v (.i .i64 0), .v (.s ByteArray.empty), .v (.s ByteArray.empty), .v (.s ByteArray.empty), .v (.i .i64 0)]] = some (.v (.i .i64 x5), [[.v (.sl 1 (ab bA x6.frest)), .v (.b x6.fshort)], [.v (.i .i64 0), .v (.i .i64 0), .v (.b false), .v (.i .i64 0), .v (.i .i64 0), .v (.i .i64 0), .v (.s ByteArray.empty), .v (.s ByteArray.empty), .v (.s ByteArray.empty), .v (.i .i64 0)], [.v (.i .i64 x1), .v (.i .i64 x3), .v (.b false), .v (.i .i64 0), .v (.i .i64 0), .v (.i .i64 0), .v (.s ByteArray.empty), .v (.s ByteArray.empty), .v (.s ByteArray.empty), .v (.i .i64 0)]]) := cB [0] rfl rfl rfl rfl (k_wire_reader_small x4 _ h3) rfl rfl
  refine aG (x5 == 0) ?_ ?_
  focus
    intro h4
    replace hF := aq h4 hF
    revert hF
    cases h5 : wire_reader_call x6
    focus
      intro hF
      cases hF
    rename_i qh5
    obtain ⟨x7, x8⟩ := qh5
    intro hF
    try dsimp only at hF
    have g4 : C.wide 117 [.ptr 0 0] [[.v (.sl 1 (ab bA x6.frest)), .v (.b x6.fshort)], [.v (.i .i64 0), .v (.i .i64 0), .v (.b false), .v (.i .i64 0), .v (.i .i64 0), .v (.i .i64 0), .v (.s ByteArray.empty), .v (.s ByteArray.empty), .v (.s ByteArray.empty), .v (.i .i64 0)], [.v (.i .i64 x1), .v (.i .i64 x3), .v (.b false), .v (.i .i64 0), .v (.i .i64 0), .v (.i .i64 0), .v (.s ByteArray.empty), .v (.s ByteArray.empty), .v (.s ByteArray.empty), .v (.i .i64 0)]] = some (.agg [.v (.i .i64 x7.fClient), .v (.i .i64 x7.fSeq), .v (.i .i64 x7.fCommand.fKind), .v (.s x7.fCommand.fKey), .v (.s x7.fCommand.fField), .v (.s x7.fCommand.fText), .v (.i .i64 x7.fCommand.fN)], [[.v (.sl 1 (ab bA x8.frest)), .v (.b x8.fshort)], [.v (.i .i64 0), .v (.i .i64 0), .v (.b false), .v (.i .i64 0), .v (.i .i64 0), .v (.i .i64 0), .v (.s ByteArray.empty), .v (.s ByteArray.empty), .v (.s ByteArray.empty), .v (.i .i64 0)], [.v (.i .i64 x1), .v (.i .i64 x3), .v (.b false), .v (.i .i64 0), .v (.i .i64 0), .v (.i .i64 0), .v (.s ByteArray.empty), .v (.s ByteArray.empty), .v (.s ByteArray.empty), .v (.i .i64 0)]]) := cB [0] rfl rfl rfl rfl (k_wire_reader_call x6 _ h5) rfl rfl
    have hR := Option.some.inj hF
    clear hF
    subst hR
  rotate_left 1
  intro h4
  replace hF := ar h4 hF
  refine aG (x5 == 1) ?_ ?_
  focus
    intro h5
    replace hF := aq h5 hF
    have hR := Option.some.inj hF
    clear hF
    subst hR
  rotate_left 1
  intro h5
  replace hF := ar h5 hF
  have hR := Option.some.inj hF
  clear hF
  subst hR
  all_goals (rw [ba]; show cp _ _ _ (aH _ _ _ _ (Code.seq _ _) _) = _; simp (maxSteps := 4000000) only [*, res85, n85a13t, n85a13f, n85a18t, n85a18f, n85k0, n85k1, n85k2, n85k3, n85k4, n85k5, n85k6, n85k7, n85k8, n85ro, n85mv, n85gv, ↓RP, RB, ↓ah, ↓ac, ↓af, ↓ad, ↓ae, enter, aW, aC, aZ, be, aM, Mx.bw, opnd, Mx.bF, Nat.reduceBEq, bK, Mx.fit, bI, bY, toVs, cellsOf, toV, aO, aB, ax, Mx.put, ofConst, ofCell, Mx.prune, killB, killBs, aK, putDst, au, ao, aD, loadAt, bM, List.map, Nat.reduceAdd, Nat.reduceMul, cm, cn, aF, eqC, cg, aN, reduceIte, reduceCtorEq, az, bn, bq, co, bN, bD, aL, bx, lowC, lowP, forceAll, bound, bW, bg, bv, aU, br, kill, spendLoc, spendOk, setOwn, dropAl, dropAls, bG, bP, bd, cb, lend, lendA, aS, ay, bU, bL, bare, bQ, frz, bZ, bo, argE, argsE, bB, bT, fill, setCells, bR, takeParts, bp, aR, ownAt, Nat.reduceBNe, Nat.reduceSub, Nat.reduceLT, Nat.reduceLeDiff, lowA, bi, bJ, av, aJ, aX, bX, bO, bE, bS, ce, bV, bk, aI, bh, bj, bf, cd, Op.operands, Int.reduceBEq, Int.reduceLT, Int.reduceLE, Int.reduceNeg, Int.reduceBNe, bl, newB, ch, ck, cj, bne, ↓aj, ↓ai, ↓aa, ↓am, bc, aP, bm, bu, aE, bH, Call.operands, ty3, ty4, ty9, ty34, ty36, ty38, ty118])
/-! ### (*wire.reader).end -/
def n86 : cC where
  keep := fun i => match i with
    | 0 => [0, 1]
    | 1 => [0, 1, 5]
    | 2 => [4]
    | 3 => [10]
    | 4 => [4]
    | 5 => [4]
    | _ => []
  ro := fun _ => false
  mv := fun _ => false
  give := fun _ => false
  free := fun _ => []
  alive := fun i x => match i, x with
    | 5, true => some []
    | 5, false => some [0, 1]
    | 10, true => some []
    | 10, false => some []
    | _, _ => none
theorem n86a5t (e : Env) (S : aA) : aw n86 5 true ⟨e, S⟩ = ⟨prune [] e, S⟩ := rfl
theorem n86a5f (e : Env) (S : aA) : aw n86 5 false ⟨e, S⟩ = ⟨prune [0, 1] e, S⟩ := rfl
theorem n86a10t (e : Env) (S : aA) : aw n86 10 true ⟨e, S⟩ = ⟨prune [] e, S⟩ := rfl
theorem n86a10f (e : Env) (S : aA) : aw n86 10 false ⟨e, S⟩ = ⟨prune [] e, S⟩ := rfl
theorem n86k0 : n86.keep 0 = [0, 1] := rfl
theorem n86k1 : n86.keep 1 = [0, 1, 5] := rfl
theorem n86k2 : n86.keep 2 = [4] := rfl
theorem n86k3 : n86.keep 3 = [10] := rfl
theorem n86k4 : n86.keep 4 = [4] := rfl
theorem n86k5 : n86.keep 5 = [4] := rfl
theorem n86ro (t : Nat) : n86.ro t = (false) := rfl
theorem n86mv (t : Nat) : n86.mv t = (false) := rfl
theorem n86gv (t : Nat) : n86.give t = (false) := rfl
theorem res86 : Try.f86.results.toList = [.tmp 4] := rfl
noncomputable def b86 : Code := aQ Try.f86
set_option maxRecDepth 100000 in
set_option maxHeartbeats 40000000 in
theorem r_wire_reader_end (C : ak)  (p0 : Bool) (p1 : Greader) (r : Int × Greader) (hF : wire_reader_end p0 p1 = some r) : cF TT C.wide (evW TT C.wide n86 b86) n86 Try.f86.results.toList (aQ Try.f86) [.ptr 0 0, .v (.b p0)] [[.v (.sl 1 (ab bA p1.frest)), .v (.b p1.fshort)]] = some (.v (.i .i64 r.1), [[.v (.sl 1 (ab bA r.2.frest)), .v (.b r.2.fshort)]]) := by
  unfold wire_reader_end at hF
  refine aG p1.fshort ?_ ?_
  focus
    intro h1
    replace hF := aq h1 hF
    have hR := Option.some.inj hF
    clear hF
    subst hR
  rotate_left 1
  intro h1
  replace hF := ar h1 hF
  refine aT p0 ?_ ?_
  focus
    intro h2
    replace hF := ar h2 hF
    have hR := Option.some.inj hF
    clear hF
    subst hR
  rotate_left 1
  intro h2
  replace hF := aq h2 hF
  refine aG (decide (0 < (p1.frest.length : Int))) ?_ ?_
  focus
    intro h3
    replace hF := aq h3 hF
    have hR := Option.some.inj hF
    clear hF
    subst hR
  rotate_left 1
  intro h3
  replace hF := ar h3 hF
  have hR := Option.some.inj hF
  clear hF
  subst hR
  all_goals (rw [ba]; show cp _ _ _ (aH _ _ _ _ (Code.seq _ _) _) = _; simp (maxSteps := 4000000) only [*, res86, n86a5t, n86a5f, n86a10t, n86a10f, n86k0, n86k1, n86k2, n86k3, n86k4, n86k5, n86ro, n86mv, n86gv, ↓RP, RB, ↓ah, ↓ac, ↓af, ↓ad, ↓ae, enter, aW, aC, aZ, be, aM, Mx.bw, opnd, Mx.bF, Nat.reduceBEq, bK, Mx.fit, bI, bY, toVs, cellsOf, toV, aO, aB, ax, Mx.put, ofConst, ofCell, Mx.prune, killB, killBs, aK, putDst, au, ao, aD, loadAt, bM, List.map, Nat.reduceAdd, Nat.reduceMul, cm, cn, aF, eqC, cg, aN, reduceIte, reduceCtorEq, az, bn, bq, co, bN, bD, aL, bx, lowC, lowP, forceAll, bound, bW, bg, bv, aU, br, kill, spendLoc, spendOk, setOwn, dropAl, dropAls, bG, bP, bd, cb, lend, lendA, aS, ay, bU, bL, bare, bQ, frz, bZ, bo, argE, argsE, bB, bT, fill, setCells, bR, takeParts, bp, aR, ownAt, Nat.reduceBNe, Nat.reduceSub, Nat.reduceLT, Nat.reduceLeDiff, lowA, bi, bJ, av, aJ, aX, bX, bO, bE, bS, ce, bV, bk, aI, bh, bj, bf, cd, Op.operands, Int.reduceBEq, Int.reduceLT, Int.reduceLE, Int.reduceNeg, Int.reduceBNe, bl, newB, ch, ck, cj, bne, ↓aj, ↓ai, ↓aa, ↓am, bc, aP, bm, bu, aE, bH, Call.operands, ty3, ty4, ty5, ty25, ty39, ty118, ty120])
/-! ### client.number -/
def n127 : cC where
  keep := fun i => match i with
    | 0 => [0]
    | 1 => [2]
    | _ => []
  ro := fun _ => false
  mv := fun _ => false
  give := fun _ => false
  free := fun _ => []
theorem n127k0 : n127.keep 0 = [0] := rfl
theorem n127k1 : n127.keep 1 = [2] := rfl
theorem n127ro (t : Nat) : n127.ro t = (false) := rfl
theorem n127mv (t : Nat) : n127.mv t = (false) := rfl
theorem n127gv (t : Nat) : n127.give t = (false) := rfl
theorem res127 : Try.f127.results.toList = [.tmp 2] := rfl
noncomputable def b127 : Code := aQ Try.f127
set_option maxRecDepth 100000 in
set_option maxHeartbeats 40000000 in
theorem r_client_number (C : ak)  (p0 : Int) (r : Bool) (hF : client_number p0 = some r) : cF TT C.wide (evW TT C.wide n127 b127) n127 Try.f127.results.toList (aQ Try.f127) [.v (.i .i64 p0)] [] = some (.v (.b r), []) := by
  unfold client_number at hF
  refine aG (decide (1 ≤ p0)) ?_ ?_
  focus
    intro h1
    replace hF := aq h1 hF
    have hR := Option.some.inj hF
    clear hF
    subst hR
  rotate_left 1
  intro h1
  replace hF := ar h1 hF
  have hR := Option.some.inj hF
  clear hF
  subst hR
  all_goals (rw [ba]; show cp _ _ _ (aH _ _ _ _ (Code.seq _ _) _) = _; simp (maxSteps := 4000000) only [*, res127, n127k0, n127k1, n127ro, n127mv, n127gv, ↓RP, RB, ↓ah, ↓ac, ↓af, ↓ad, ↓ae, enter, aW, aC, aZ, be, aM, Mx.bw, opnd, Mx.bF, Nat.reduceBEq, bK, Mx.fit, bI, bY, toVs, cellsOf, toV, aO, aB, ax, Mx.put, ofConst, ofCell, Mx.prune, killB, killBs, aK, putDst, au, ao, aD, loadAt, bM, List.map, Nat.reduceAdd, Nat.reduceMul, cm, cn, aF, eqC, cg, aN, reduceIte, reduceCtorEq, az, bn, bq, co, bN, bD, aL, bx, lowC, lowP, forceAll, bound, bW, bg, bv, aU, br, kill, spendLoc, spendOk, setOwn, dropAl, dropAls, bG, bP, bd, cb, lend, lendA, aS, ay, bU, bL, bare, bQ, frz, bZ, bo, argE, argsE, bB, bT, fill, setCells, bR, takeParts, bp, aR, ownAt, Nat.reduceBNe, Nat.reduceSub, Nat.reduceLT, Nat.reduceLeDiff, lowA, bi, bJ, av, aJ, aX, bX, bO, bE, bS, ce, bV, bk, aI, bh, bj, bf, cd, Op.operands, Int.reduceBEq, Int.reduceLT, Int.reduceLE, Int.reduceNeg, Int.reduceBNe, bl, newB, ch, ck, cj, bne, ↓aj, ↓ai, ↓aa, ↓am, bc, aP, bm, bu, aE, bH, Call.operands, ty3, ty4])
/-! ### value.field -/
def n67 : cC where
  keep := fun i => match i with
    | 0 => [0]
    | 1 => [2]
    | _ => []
  ro := fun _ => false
  mv := fun _ => false
  give := fun _ => false
  free := fun _ => []
theorem n67k0 : n67.keep 0 = [0] := rfl
theorem n67k1 : n67.keep 1 = [2] := rfl
theorem n67ro (t : Nat) : n67.ro t = (false) := rfl
theorem n67mv (t : Nat) : n67.mv t = (false) := rfl
theorem n67gv (t : Nat) : n67.give t = (false) := rfl
theorem res67 : Try.f67.results.toList = [.tmp 2] := rfl
noncomputable def b67 : Code := aQ Try.f67
set_option maxRecDepth 100000 in
set_option maxHeartbeats 40000000 in
theorem r_value_field (C : ak)  (p0 : ByteArray) (r : Bool) (hF : value_field p0 = some r) : cF TT C.wide (evW TT C.wide n67 b67) n67 Try.f67.results.toList (aQ Try.f67) [.v (.s p0)] [] = some (.v (.b r), []) := by
  unfold value_field at hF
  refine aG (decide (1 ≤ (p0.size : Int))) ?_ ?_
  focus
    intro h1
    replace hF := aq h1 hF
    have hR := Option.some.inj hF
    clear hF
    subst hR
  rotate_left 1
  intro h1
  replace hF := ar h1 hF
  have hR := Option.some.inj hF
  clear hF
  subst hR
  all_goals (rw [ba]; show cp _ _ _ (aH _ _ _ _ (Code.seq _ _) _) = _; simp (maxSteps := 4000000) only [*, res67, n67k0, n67k1, n67ro, n67mv, n67gv, ↓RP, RB, ↓ah, ↓ac, ↓af, ↓ad, ↓ae, enter, aW, aC, aZ, be, aM, Mx.bw, opnd, Mx.bF, Nat.reduceBEq, bK, Mx.fit, bI, bY, toVs, cellsOf, toV, aO, aB, ax, Mx.put, ofConst, ofCell, Mx.prune, killB, killBs, aK, putDst, au, ao, aD, loadAt, bM, List.map, Nat.reduceAdd, Nat.reduceMul, cm, cn, aF, eqC, cg, aN, reduceIte, reduceCtorEq, az, bn, bq, co, bN, bD, aL, bx, lowC, lowP, forceAll, bound, bW, bg, bv, aU, br, kill, spendLoc, spendOk, setOwn, dropAl, dropAls, bG, bP, bd, cb, lend, lendA, aS, ay, bU, bL, bare, bQ, frz, bZ, bo, argE, argsE, bB, bT, fill, setCells, bR, takeParts, bp, aR, ownAt, Nat.reduceBNe, Nat.reduceSub, Nat.reduceLT, Nat.reduceLeDiff, lowA, bi, bJ, av, aJ, aX, bX, bO, bE, bS, ce, bV, bk, aI, bh, bj, bf, cd, Op.operands, Int.reduceBEq, Int.reduceLT, Int.reduceLE, Int.reduceNeg, Int.reduceBNe, bl, newB, ch, ck, cj, bne, ↓aj, ↓ai, ↓aa, ↓am, bc, aP, bm, bu, aE, bH, Call.operands, ty3, ty4, ty9])
/-! ### value.text -/
def n62 : cC where
  keep := fun i => match i with
    | 0 => [0]
    | 1 => [2]
    | _ => []
  ro := fun _ => false
  mv := fun _ => false
  give := fun _ => false
  free := fun _ => []
theorem n62k0 : n62.keep 0 = [0] := rfl
theorem n62k1 : n62.keep 1 = [2] := rfl
theorem n62ro (t : Nat) : n62.ro t = (false) := rfl
theorem n62mv (t : Nat) : n62.mv t = (false) := rfl
theorem n62gv (t : Nat) : n62.give t = (false) := rfl
theorem res62 : Try.f62.results.toList = [.tmp 2] := rfl
noncomputable def b62 : Code := aQ Try.f62
set_option maxRecDepth 100000 in
set_option maxHeartbeats 40000000 in
theorem r_value_text (C : ak)  (p0 : ByteArray) (r : Bool) (hF : value_text p0 = some r) : cF TT C.wide (evW TT C.wide n62 b62) n62 Try.f62.results.toList (aQ Try.f62) [.v (.s p0)] [] = some (.v (.b r), []) := by
  unfold value_text at hF
  have hR := Option.some.inj hF
  clear hF
  subst hR
  all_goals (rw [ba]; show cp _ _ _ (aH _ _ _ _ (Code.seq _ _) _) = _; simp (maxSteps := 4000000) only [*, res62, n62k0, n62k1, n62ro, n62mv, n62gv, ↓RP, RB, ↓ah, ↓ac, ↓af, ↓ad, ↓ae, enter, aW, aC, aZ, be, aM, Mx.bw, opnd, Mx.bF, Nat.reduceBEq, bK, Mx.fit, bI, bY, toVs, cellsOf, toV, aO, aB, ax, Mx.put, ofConst, ofCell, Mx.prune, killB, killBs, aK, putDst, au, ao, aD, loadAt, bM, List.map, Nat.reduceAdd, Nat.reduceMul, cm, cn, aF, eqC, cg, aN, reduceIte, reduceCtorEq, az, bn, bq, co, bN, bD, aL, bx, lowC, lowP, forceAll, bound, bW, bg, bv, aU, br, kill, spendLoc, spendOk, setOwn, dropAl, dropAls, bG, bP, bd, cb, lend, lendA, aS, ay, bU, bL, bare, bQ, frz, bZ, bo, argE, argsE, bB, bT, fill, setCells, bR, takeParts, bp, aR, ownAt, Nat.reduceBNe, Nat.reduceSub, Nat.reduceLT, Nat.reduceLeDiff, lowA, bi, bJ, av, aJ, aX, bX, bO, bE, bS, ce, bV, bk, aI, bh, bj, bf, cd, Op.operands, Int.reduceBEq, Int.reduceLT, Int.reduceLE, Int.reduceNeg, Int.reduceBNe, bl, newB, ch, ck, cj, bne, ↓aj, ↓ai, ↓aa, ↓am, bc, aP, bm, bu, aE, bH, Call.operands, ty3, ty4, ty9])
/-! ### value.count -/
def n70 : cC where
  keep := fun i => match i with
    | 0 => [0]
    | 1 => [2]
    | _ => []
  ro := fun _ => false
  mv := fun _ => false
  give := fun _ => false
  free := fun _ => []
theorem n70k0 : n70.keep 0 = [0] := rfl
theorem n70k1 : n70.keep 1 = [2] := rfl
theorem n70ro (t : Nat) : n70.ro t = (false) := rfl
theorem n70mv (t : Nat) : n70.mv t = (false) := rfl
theorem n70gv (t : Nat) : n70.give t = (false) := rfl
theorem res70 : Try.f70.results.toList = [.tmp 2] := rfl
noncomputable def b70 : Code := aQ Try.f70
set_option maxRecDepth 100000 in
set_option maxHeartbeats 40000000 in
theorem r_value_count (C : ak)  (p0 : Int) (r : Bool) (hF : value_count p0 = some r) : cF TT C.wide (evW TT C.wide n70 b70) n70 Try.f70.results.toList (aQ Try.f70) [.v (.i .i64 p0)] [] = some (.v (.b r), []) := by
  unfold value_count at hF
  refine aG (decide ((-1099511627776) ≤ p0)) ?_ ?_
  focus
    intro h1
    replace hF := aq h1 hF
    have hR := Option.some.inj hF
    clear hF
    subst hR
  rotate_left 1
  intro h1
  replace hF := ar h1 hF
  have hR := Option.some.inj hF
  clear hF
  subst hR
  all_goals (rw [ba]; show cp _ _ _ (aH _ _ _ _ (Code.seq _ _) _) = _; simp (maxSteps := 4000000) only [*, res70, n70k0, n70k1, n70ro, n70mv, n70gv, ↓RP, RB, ↓ah, ↓ac, ↓af, ↓ad, ↓ae, enter, aW, aC, aZ, be, aM, Mx.bw, opnd, Mx.bF, Nat.reduceBEq, bK, Mx.fit, bI, bY, toVs, cellsOf, toV, aO, aB, ax, Mx.put, ofConst, ofCell, Mx.prune, killB, killBs, aK, putDst, au, ao, aD, loadAt, bM, List.map, Nat.reduceAdd, Nat.reduceMul, cm, cn, aF, eqC, cg, aN, reduceIte, reduceCtorEq, az, bn, bq, co, bN, bD, aL, bx, lowC, lowP, forceAll, bound, bW, bg, bv, aU, br, kill, spendLoc, spendOk, setOwn, dropAl, dropAls, bG, bP, bd, cb, lend, lendA, aS, ay, bU, bL, bare, bQ, frz, bZ, bo, argE, argsE, bB, bT, fill, setCells, bR, takeParts, bp, aR, ownAt, Nat.reduceBNe, Nat.reduceSub, Nat.reduceLT, Nat.reduceLeDiff, lowA, bi, bJ, av, aJ, aX, bX, bO, bE, bS, ce, bV, bk, aI, bh, bj, bf, cd, Op.operands, Int.reduceBEq, Int.reduceLT, Int.reduceLE, Int.reduceNeg, Int.reduceBNe, bl, newB, ch, ck, cj, bne, ↓aj, ↓ai, ↓aa, ↓am, bc, aP, bm, bu, aE, bH, Call.operands, ty3, ty4])
/-! ### value.CheckCommand -/
def n128 : cC where
  keep := fun i => match i with
    | 0 => [1]
    | 1 => [1, 11]
    | 2 => [2]
    | 3 => [1, 3]
    | 4 => [1, 3, 18]
    | 5 => [1, 3, 18, 19]
    | 6 => [1, 3, 18, 19]
    | 7 => [1, 3, 18, 19]
    | 8 => [1, 3, 18, 19]
    | 9 => [1, 3, 18, 19]
    | 10 => [1, 3, 18, 19]
    | 11 => [1, 3, 18, 19]
    | 12 => [1, 3, 18, 19]
    | 13 => [1, 3]
    | 14 => [1, 3, 18, 31]
    | 15 => [1, 3, 18, 31]
    | 16 => [1, 3]
    | 17 => [1, 3, 18, 37]
    | 18 => [1, 3]
    | 19 => [1, 3, 18, 45]
    | 20 => [1, 3, 18, 45]
    | 21 => [1, 3]
    | 22 => [1, 3, 18, 51]
    | 23 => [1, 3]
    | 24 => [1, 3, 59]
    | 25 => [1, 3]
    | 26 => [1, 64]
    | 27 => [2]
    | 28 => [1, 95]
    | 29 => [2]
    | 30 => [99]
    | 31 => [2]
    | 32 => [2]
    | _ => []
  ro := fun t => t == 1
  mv := fun _ => false
  give := fun _ => false
  free := fun i => match i with | 18 => [(0, 2), (1, 2), (0, 3), (1, 3), (2, 4), (3, 4), (2, 5), (3, 5)] | 23 => [(0, 2), (1, 2), (0, 3), (1, 3), (2, 4), (3, 4), (2, 5), (3, 5)] | _ => []
  alive := fun i x => match i, x with
    | 11, true => some []
    | 11, false => some [1]
    | 19, true => some [1, 3, 18, 19]
    | 19, false => some [1, 3, 18]
    | 31, true => some [1, 3, 18, 31]
    | 31, false => some [1, 3, 18]
    | 37, true => some [1, 3]
    | 37, false => some [1, 3, 18]
    | 45, true => some [1, 3, 18, 45]
    | 45, false => some [1, 3, 18]
    | 51, true => some [1, 3]
    | 51, false => some [1, 3, 18]
    | 59, true => some [1, 3]
    | 59, false => some [1, 3]
    | 64, true => some []
    | 64, false => some [1]
    | 95, true => some []
    | 95, false => some [1]
    | 99, true => some []
    | 99, false => some []
    | _, _ => none
theorem n128a11t (e : Env) (S : aA) : aw n128 11 true ⟨e, S⟩ = ⟨prune [] e, S⟩ := rfl
theorem n128a11f (e : Env) (S : aA) : aw n128 11 false ⟨e, S⟩ = ⟨prune [1] e, S⟩ := rfl
theorem n128a19t (e : Env) (S : aA) : aw n128 19 true ⟨e, S⟩ = ⟨prune [1, 3, 18, 19] e, S⟩ := rfl
theorem n128a19f (e : Env) (S : aA) : aw n128 19 false ⟨e, S⟩ = ⟨prune [1, 3, 18] e, S⟩ := rfl
theorem n128a31t (e : Env) (S : aA) : aw n128 31 true ⟨e, S⟩ = ⟨prune [1, 3, 18, 31] e, S⟩ := rfl
theorem n128a31f (e : Env) (S : aA) : aw n128 31 false ⟨e, S⟩ = ⟨prune [1, 3, 18] e, S⟩ := rfl
theorem n128a37t (e : Env) (S : aA) : aw n128 37 true ⟨e, S⟩ = ⟨prune [1, 3] e, S⟩ := rfl
theorem n128a37f (e : Env) (S : aA) : aw n128 37 false ⟨e, S⟩ = ⟨prune [1, 3, 18] e, S⟩ := rfl
theorem n128a45t (e : Env) (S : aA) : aw n128 45 true ⟨e, S⟩ = ⟨prune [1, 3, 18, 45] e, S⟩ := rfl
theorem n128a45f (e : Env) (S : aA) : aw n128 45 false ⟨e, S⟩ = ⟨prune [1, 3, 18] e, S⟩ := rfl
theorem n128a51t (e : Env) (S : aA) : aw n128 51 true ⟨e, S⟩ = ⟨prune [1, 3] e, S⟩ := rfl
theorem n128a51f (e : Env) (S : aA) : aw n128 51 false ⟨e, S⟩ = ⟨prune [1, 3, 18] e, S⟩ := rfl
theorem n128a59t (e : Env) (S : aA) : aw n128 59 true ⟨e, S⟩ = ⟨prune [1, 3] e, S⟩ := rfl
theorem n128a59f (e : Env) (S : aA) : aw n128 59 false ⟨e, S⟩ = ⟨prune [1, 3] e, S⟩ := rfl
theorem n128a64t (e : Env) (S : aA) : aw n128 64 true ⟨e, S⟩ = ⟨prune [] e, S⟩ := rfl
theorem n128a64f (e : Env) (S : aA) : aw n128 64 false ⟨e, S⟩ = ⟨prune [1] e, S⟩ := rfl
theorem n128a95t (e : Env) (S : aA) : aw n128 95 true ⟨e, S⟩ = ⟨prune [] e, S⟩ := rfl
theorem n128a95f (e : Env) (S : aA) : aw n128 95 false ⟨e, S⟩ = ⟨prune [1] e, S⟩ := rfl
theorem n128a99t (e : Env) (S : aA) : aw n128 99 true ⟨e, S⟩ = ⟨prune [] e, S⟩ := rfl
theorem n128a99f (e : Env) (S : aA) : aw n128 99 false ⟨e, S⟩ = ⟨prune [] e, S⟩ := rfl
theorem n128k0 : n128.keep 0 = [1] := rfl
theorem n128k1 : n128.keep 1 = [1, 11] := rfl
theorem n128k2 : n128.keep 2 = [2] := rfl
theorem n128k3 : n128.keep 3 = [1, 3] := rfl
theorem n128k4 : n128.keep 4 = [1, 3, 18] := rfl
theorem n128k5 : n128.keep 5 = [1, 3, 18, 19] := rfl
theorem n128k6 : n128.keep 6 = [1, 3, 18, 19] := rfl
theorem n128k7 : n128.keep 7 = [1, 3, 18, 19] := rfl
theorem n128k8 : n128.keep 8 = [1, 3, 18, 19] := rfl
theorem n128k9 : n128.keep 9 = [1, 3, 18, 19] := rfl
theorem n128k10 : n128.keep 10 = [1, 3, 18, 19] := rfl
theorem n128k11 : n128.keep 11 = [1, 3, 18, 19] := rfl
theorem n128k12 : n128.keep 12 = [1, 3, 18, 19] := rfl
theorem n128k13 : n128.keep 13 = [1, 3] := rfl
theorem n128k14 : n128.keep 14 = [1, 3, 18, 31] := rfl
theorem n128k15 : n128.keep 15 = [1, 3, 18, 31] := rfl
theorem n128k16 : n128.keep 16 = [1, 3] := rfl
theorem n128k17 : n128.keep 17 = [1, 3, 18, 37] := rfl
theorem n128k18 : n128.keep 18 = [1, 3] := rfl
theorem n128k19 : n128.keep 19 = [1, 3, 18, 45] := rfl
theorem n128k20 : n128.keep 20 = [1, 3, 18, 45] := rfl
theorem n128k21 : n128.keep 21 = [1, 3] := rfl
theorem n128k22 : n128.keep 22 = [1, 3, 18, 51] := rfl
theorem n128k23 : n128.keep 23 = [1, 3] := rfl
theorem n128k24 : n128.keep 24 = [1, 3, 59] := rfl
theorem n128k25 : n128.keep 25 = [1, 3] := rfl
theorem n128k26 : n128.keep 26 = [1, 64] := rfl
theorem n128k27 : n128.keep 27 = [2] := rfl
theorem n128k28 : n128.keep 28 = [1, 95] := rfl
theorem n128k29 : n128.keep 29 = [2] := rfl
theorem n128k30 : n128.keep 30 = [99] := rfl
theorem n128k31 : n128.keep 31 = [2] := rfl
theorem n128k32 : n128.keep 32 = [2] := rfl
theorem n128ro (t : Nat) : n128.ro t = (t == 1) := rfl
theorem n128mv (t : Nat) : n128.mv t = (false) := rfl
theorem n128gv (t : Nat) : n128.give t = (false) := rfl
theorem n128f18 : n128.free 18 = [(0, 2), (1, 2), (0, 3), (1, 3), (2, 4), (3, 4), (2, 5), (3, 5)] := rfl
theorem n128f23 : n128.free 23 = [(0, 2), (1, 2), (0, 3), (1, 3), (2, 4), (3, 4), (2, 5), (3, 5)] := rfl
theorem res128 : Try.f128.results.toList = [.tmp 2] := rfl
noncomputable def b128 : Code := aQ Try.f128
set_option maxRecDepth 100000 in
set_option maxHeartbeats 40000000 in
theorem rg_value_CheckCommand_q59 (C : ak)  (p0 : GCommand) (p1 : Bool) (p2 : Int) (p3 : ByteArray) (c : Code) (ho : cr 1 59 b128 = some c) (r : GCommand) (hF : ck_value_CheckCommand_q59 p0 p1 p2 p3 = some r) : aH TT C.wide (evW TT C.wide n128 b128) n128 c ⟨[(1, .rp [.i .i64 p0.fKind, .s p0.fKey, .s p0.fField, .s p0.fText, .i .i64 p0.fN]), (3, .ptr 0 0), (59, .v (.b p1))], [[.v (.i .i64 p2), .v (.s p3), .v (.s ByteArray.empty), .v (.s ByteArray.empty), .v (.i .i64 0)]]⟩ = some (.normal, ⟨[(1, .rp [.i .i64 p0.fKind, .s p0.fKey, .s p0.fField, .s p0.fText, .i .i64 p0.fN]), (3, .ptr 0 0)], [[.v (.i .i64 r.fKind), .v (.s r.fKey), .v (.s r.fField), .v (.s r.fText), .v (.i .i64 r.fN)]]⟩) := by
  have e := Option.some.inj (ho.symm.trans (rfl : cr 1 59 b128 = some _))
  subst e
  clear ho
  unfold ck_value_CheckCommand_q59 at hF
  refine aG p1 ?_ ?_
  focus
    intro h1
    replace hF := aq h1 hF
    have hR := Option.some.inj hF
    clear hF
    subst hR
  rotate_left 1
  intro h1
  replace hF := ar h1 hF
  have hR := Option.some.inj hF
  clear hF
  subst hR
  all_goals (simp (maxSteps := 4000000) only [*, res128, n128a11t, n128a11f, n128a19t, n128a19f, n128a31t, n128a31f, n128a37t, n128a37f, n128a45t, n128a45f, n128a51t, n128a51f, n128a59t, n128a59f, n128a64t, n128a64f, n128a95t, n128a95f, n128a99t, n128a99f, n128k0, n128k1, n128k2, n128k3, n128k4, n128k5, n128k6, n128k7, n128k8, n128k9, n128k10, n128k11, n128k12, n128k13, n128k14, n128k15, n128k16, n128k17, n128k18, n128k19, n128k20, n128k21, n128k22, n128k23, n128k24, n128k25, n128k26, n128k27, n128k28, n128k29, n128k30, n128k31, n128k32, n128f18, n128f23, n128ro, n128mv, n128gv, ↓RP, RB, ↓ah, ↓ac, ↓af, ↓ad, ↓ae, enter, aW, aC, aZ, be, aM, Mx.bw, opnd, Mx.bF, Nat.reduceBEq, bK, Mx.fit, bI, bY, toVs, cellsOf, toV, aO, aB, ax, Mx.put, ofConst, ofCell, Mx.prune, killB, killBs, aK, putDst, au, ao, aD, loadAt, bM, List.map, Nat.reduceAdd, Nat.reduceMul, cm, cn, aF, eqC, cg, aN, reduceIte, reduceCtorEq, az, bn, bq, co, bN, bD, aL, bx, lowC, lowP, forceAll, bound, bW, bg, bv, aU, br, kill, spendLoc, spendOk, setOwn, dropAl, dropAls, bG, bP, bd, cb, lend, lendA, aS, ay, bU, bL, bare, bQ, frz, bZ, bo, argE, argsE, bB, bT, fill, setCells, bR, takeParts, bp, aR, ownAt, Nat.reduceBNe, Nat.reduceSub, Nat.reduceLT, Nat.reduceLeDiff, lowA, bi, bJ, av, aJ, aX, bX, bO, bE, bS, ce, bV, bk, aI, bh, bj, bf, cd, Op.operands, Int.reduceBEq, Int.reduceLT, Int.reduceLE, Int.reduceNeg, Int.reduceBNe, bl, newB, ch, ck, cj, bne, ↓aj, ↓ai, bc, aP, bm, bu, aE, bH, Call.operands, ty3, ty4, ty9, ty25, ty34, ↓aa _ _ _ _ 25])
set_option maxRecDepth 100000 in
set_option maxHeartbeats 40000000 in
theorem rg_value_CheckCommand_q51 (C : ak)  (p0 : GCommand) (p1 : Int) (p2 : Bool) (p3 : ByteArray) (c : Code) (ho : cr 1 51 b128 = some c) (r : GCommand) (hF : ck_value_CheckCommand_q51 p0 p1 p2 p3 = some r) : aH TT C.wide (evW TT C.wide n128 b128) n128 c ⟨[(1, .rp [.i .i64 p0.fKind, .s p0.fKey, .s p0.fField, .s p0.fText, .i .i64 p0.fN]), (3, .ptr 0 0), (18, .v (.i .i64 p1)), (51, .v (.b p2))], [[.v (.i .i64 p1), .v (.s p3), .v (.s ByteArray.empty), .v (.s ByteArray.empty), .v (.i .i64 0)]]⟩ = some (.normal, ⟨[(1, .rp [.i .i64 p0.fKind, .s p0.fKey, .s p0.fField, .s p0.fText, .i .i64 p0.fN]), (3, .ptr 0 0)], [[.v (.i .i64 r.fKind), .v (.s r.fKey), .v (.s r.fField), .v (.s r.fText), .v (.i .i64 r.fN)]]⟩) := by
  have e := Option.some.inj (ho.symm.trans (rfl : cr 1 51 b128 = some _))
  subst e
  clear ho
  unfold ck_value_CheckCommand_q51 at hF
  refine aG p2 ?_ ?_
  focus
    intro h1
    replace hF := aq h1 hF
    have hR := Option.some.inj hF
    clear hF
    subst hR
  rotate_left 1
  intro h1
  replace hF := ar h1 hF
  have g1 : @cR TT C.wide (evW TT C.wide n128 b128) n128 1 59 ⟨[(1, .rp [.i .i64 p0.fKind, .s p0.fKey, .s p0.fField, .s p0.fText, .i .i64 p0.fN]), (3, .ptr 0 0), (59, .v (.b (p1 == 22)))], [[.v (.i .i64 p1), .v (.s p3), .v (.s ByteArray.empty), .v (.s ByteArray.empty), .v (.i .i64 0)]]⟩ ⟨_⟩ = some (.normal, ⟨[(1, .rp [.i .i64 p0.fKind, .s p0.fKey, .s p0.fField, .s p0.fText, .i .i64 p0.fN]), (3, .ptr 0 0)], [[.v (.i .i64 (ck_value_CheckCommand_q59_v p0 (p1 == 22) p1 p3).fKind), .v (.s (ck_value_CheckCommand_q59_v p0 (p1 == 22) p1 p3).fKey), .v (.s (ck_value_CheckCommand_q59_v p0 (p1 == 22) p1 p3).fField), .v (.s (ck_value_CheckCommand_q59_v p0 (p1 == 22) p1 p3).fText), .v (.i .i64 (ck_value_CheckCommand_q59_v p0 (p1 == 22) p1 p3).fN)]]⟩) := rg_value_CheckCommand_q59 C p0 (p1 == 22) p1 p3 _ rfl (ck_value_CheckCommand_q59_v p0 (p1 == 22) p1 p3) (ck_value_CheckCommand_q59_t p0 (p1 == 22) p1 p3)
  have hR := Option.some.inj hF
  clear hF
  subst hR
  all_goals (simp (maxSteps := 4000000) only [*, res128, n128a11t, n128a11f, n128a19t, n128a19f, n128a31t, n128a31f, n128a37t, n128a37f, n128a45t, n128a45f, n128a51t, n128a51f, n128a59t, n128a59f, n128a64t, n128a64f, n128a95t, n128a95f, n128a99t, n128a99f, n128k0, n128k1, n128k2, n128k3, n128k4, n128k5, n128k6, n128k7, n128k8, n128k9, n128k10, n128k11, n128k12, n128k13, n128k14, n128k15, n128k16, n128k17, n128k18, n128k19, n128k20, n128k21, n128k22, n128k23, n128k24, n128k25, n128k26, n128k27, n128k28, n128k29, n128k30, n128k31, n128k32, n128f18, n128f23, n128ro, n128mv, n128gv, ↓RP, RB, ↓ah, ↓ac, ↓af, ↓ad, ↓ae, enter, aW, aC, aZ, be, aM, Mx.bw, opnd, Mx.bF, Nat.reduceBEq, bK, Mx.fit, bI, bY, toVs, cellsOf, toV, aO, aB, ax, Mx.put, ofConst, ofCell, Mx.prune, killB, killBs, aK, putDst, au, ao, aD, loadAt, bM, List.map, Nat.reduceAdd, Nat.reduceMul, cm, cn, aF, eqC, cg, aN, reduceIte, reduceCtorEq, az, bn, bq, co, bN, bD, aL, bx, lowC, lowP, forceAll, bound, bW, bg, bv, aU, br, kill, spendLoc, spendOk, setOwn, dropAl, dropAls, bG, bP, bd, cb, lend, lendA, aS, ay, bU, bL, bare, bQ, frz, bZ, bo, argE, argsE, bB, bT, fill, setCells, bR, takeParts, bp, aR, ownAt, Nat.reduceBNe, Nat.reduceSub, Nat.reduceLT, Nat.reduceLeDiff, lowA, bi, bJ, av, aJ, aX, bX, bO, bE, bS, ce, bV, bk, aI, bh, bj, bf, cd, Op.operands, Int.reduceBEq, Int.reduceLT, Int.reduceLE, Int.reduceNeg, Int.reduceBNe, bl, newB, ch, ck, cj, bne, ↓aj, bc, aP, bm, bu, aE, bH, Call.operands, ty3, ty4, ty9, ty25, ty34, ↓ai _ _ _ _ 51, ↓am _ _ _ _ 23, ↓aa _ _ _ _ 24, ↓cP _ _ _ _ 59, ↓aa _ _ _ _ 25])
set_option maxRecDepth 100000 in
set_option maxHeartbeats 40000000 in
theorem rg_value_CheckCommand_q37 (C : ak)  (p0 : GCommand) (p1 : Int) (p2 : Bool) (p3 : ByteArray) (c : Code) (ho : cr 1 37 b128 = some c) (r : GCommand) (hF : ck_value_CheckCommand_q37 p0 p1 p2 p3 = some r) : aH TT C.wide (evW TT C.wide n128 b128) n128 c ⟨[(1, .rp [.i .i64 p0.fKind, .s p0.fKey, .s p0.fField, .s p0.fText, .i .i64 p0.fN]), (3, .ptr 0 0), (18, .v (.i .i64 p1)), (37, .v (.b p2))], [[.v (.i .i64 p1), .v (.s p3), .v (.s ByteArray.empty), .v (.s ByteArray.empty), .v (.i .i64 0)]]⟩ = some (.normal, ⟨[(1, .rp [.i .i64 p0.fKind, .s p0.fKey, .s p0.fField, .s p0.fText, .i .i64 p0.fN]), (3, .ptr 0 0)], [[.v (.i .i64 r.fKind), .v (.s r.fKey), .v (.s r.fField), .v (.s r.fText), .v (.i .i64 r.fN)]]⟩) := by
  have e := Option.some.inj (ho.symm.trans (rfl : cr 1 37 b128 = some _))
  subst e
  clear ho
  unfold ck_value_CheckCommand_q37 at hF
  refine aG p2 ?_ ?_
  focus
    intro h1
    replace hF := aq h1 hF
    have hR := Option.some.inj hF
    clear hF
    subst hR
  rotate_left 1
  intro h1
  replace hF := ar h1 hF
  refine aG (p1 == 5) ?_ ?_
  focus
    intro h2
    replace hF := aq h2 hF
    have hR := Option.some.inj hF
    clear hF
    subst hR
  rotate_left 1
  intro h2
  replace hF := ar h2 hF
  refine aG (p1 == 6) ?_ ?_
  focus
    intro h3
    replace hF := aq h3 hF
    have hR := Option.some.inj hF
    clear hF
    subst hR
  rotate_left 1
  intro h3
  replace hF := ar h3 hF
  have g1 : @cR TT C.wide (evW TT C.wide n128 b128) n128 1 51 ⟨[(1, .rp [.i .i64 p0.fKind, .s p0.fKey, .s p0.fField, .s p0.fText, .i .i64 p0.fN]), (3, .ptr 0 0), (18, .v (.i .i64 p1)), (51, .v (.b (p1 == 14)))], [[.v (.i .i64 p1), .v (.s p3), .v (.s ByteArray.empty), .v (.s ByteArray.empty), .v (.i .i64 0)]]⟩ ⟨_⟩ = some (.normal, ⟨[(1, .rp [.i .i64 p0.fKind, .s p0.fKey, .s p0.fField, .s p0.fText, .i .i64 p0.fN]), (3, .ptr 0 0)], [[.v (.i .i64 (ck_value_CheckCommand_q51_v p0 p1 (p1 == 14) p3).fKind), .v (.s (ck_value_CheckCommand_q51_v p0 p1 (p1 == 14) p3).fKey), .v (.s (ck_value_CheckCommand_q51_v p0 p1 (p1 == 14) p3).fField), .v (.s (ck_value_CheckCommand_q51_v p0 p1 (p1 == 14) p3).fText), .v (.i .i64 (ck_value_CheckCommand_q51_v p0 p1 (p1 == 14) p3).fN)]]⟩) := rg_value_CheckCommand_q51 C p0 p1 (p1 == 14) p3 _ rfl (ck_value_CheckCommand_q51_v p0 p1 (p1 == 14) p3) (ck_value_CheckCommand_q51_t p0 p1 (p1 == 14) p3)
  have hR := Option.some.inj hF
  clear hF
  subst hR
  all_goals (simp (maxSteps := 4000000) only [*, res128, n128a11t, n128a11f, n128a19t, n128a19f, n128a31t, n128a31f, n128a37t, n128a37f, n128a45t, n128a45f, n128a51t, n128a51f, n128a59t, n128a59f, n128a64t, n128a64f, n128a95t, n128a95f, n128a99t, n128a99f, n128k0, n128k1, n128k2, n128k3, n128k4, n128k5, n128k6, n128k7, n128k8, n128k9, n128k10, n128k11, n128k12, n128k13, n128k14, n128k15, n128k16, n128k17, n128k18, n128k19, n128k20, n128k21, n128k22, n128k23, n128k24, n128k25, n128k26, n128k27, n128k28, n128k29, n128k30, n128k31, n128k32, n128f18, n128f23, n128ro, n128mv, n128gv, ↓RP, RB, ↓ah, ↓ac, ↓af, ↓ad, ↓ae, enter, aW, aC, aZ, be, aM, Mx.bw, opnd, Mx.bF, Nat.reduceBEq, bK, Mx.fit, bI, bY, toVs, cellsOf, toV, aO, aB, ax, Mx.put, ofConst, ofCell, Mx.prune, killB, killBs, aK, putDst, au, ao, aD, loadAt, bM, List.map, Nat.reduceAdd, Nat.reduceMul, cm, cn, aF, eqC, cg, aN, reduceIte, reduceCtorEq, az, bn, bq, co, bN, bD, aL, bx, lowC, lowP, forceAll, bound, bW, bg, bv, aU, br, kill, spendLoc, spendOk, setOwn, dropAl, dropAls, bG, bP, bd, cb, lend, lendA, aS, ay, bU, bL, bare, bQ, frz, bZ, bo, argE, argsE, bB, bT, fill, setCells, bR, takeParts, bp, aR, ownAt, Nat.reduceBNe, Nat.reduceSub, Nat.reduceLT, Nat.reduceLeDiff, lowA, bi, bJ, av, aJ, aX, bX, bO, bE, bS, ce, bV, bk, aI, bh, bj, bf, cd, Op.operands, Int.reduceBEq, Int.reduceLT, Int.reduceLE, Int.reduceNeg, Int.reduceBNe, bl, newB, ch, ck, cj, bne, ↓aj, bc, aP, bm, bu, aE, bH, Call.operands, ty3, ty4, ty9, ty25, ty34, ↓ai _ _ _ _ 37, ↓am _ _ _ _ 18, ↓aa _ _ _ _ 19, ↓ai _ _ _ _ 45, ↓aa _ _ _ _ 20, ↓aa _ _ _ _ 21, ↓aa _ _ _ _ 22, ↓cP _ _ _ _ 51, ↓am _ _ _ _ 23, ↓aa _ _ _ _ 24, ↓cP _ _ _ _ 59, ↓aa _ _ _ _ 25])
set_option maxRecDepth 100000 in
set_option maxHeartbeats 40000000 in
theorem rg_value_CheckCommand_w0 (C : ak)  (p0 : GCommand) (p1 : Int) (p2 : ByteArray) (c : Code) (ho : cr 2 0 b128 = some c) (r : GCommand) (hF : ck_value_CheckCommand_w0 p0 p1 p2 = some r) : aH TT C.wide (evW TT C.wide n128 b128) n128 c ⟨[(1, .rp [.i .i64 p0.fKind, .s p0.fKey, .s p0.fField, .s p0.fText, .i .i64 p0.fN]), (3, .ptr 0 0), (18, .v (.i .i64 p1))], [[.v (.i .i64 p1), .v (.s p2), .v (.s ByteArray.empty), .v (.s ByteArray.empty), .v (.i .i64 0)]]⟩ = some (.normal, ⟨[(1, .rp [.i .i64 p0.fKind, .s p0.fKey, .s p0.fField, .s p0.fText, .i .i64 p0.fN]), (3, .ptr 0 0)], [[.v (.i .i64 r.fKind), .v (.s r.fKey), .v (.s r.fField), .v (.s r.fText), .v (.i .i64 r.fN)]]⟩) := by
  have e := Option.some.inj (ho.symm.trans (rfl : cr 2 0 b128 = some _))
  subst e
  clear ho
  unfold ck_value_CheckCommand_w0 at hF
  refine aG (p1 == 1) ?_ ?_
  focus
    intro h1
    replace hF := aq h1 hF
    have hR := Option.some.inj hF
    clear hF
    subst hR
  rotate_left 1
  intro h1
  replace hF := ar h1 hF
  refine aG (p1 == 7) ?_ ?_
  focus
    intro h2
    replace hF := aq h2 hF
    have hR := Option.some.inj hF
    clear hF
    subst hR
  rotate_left 1
  intro h2
  replace hF := ar h2 hF
  refine aG (p1 == 8) ?_ ?_
  focus
    intro h3
    replace hF := aq h3 hF
    have hR := Option.some.inj hF
    clear hF
    subst hR
  rotate_left 1
  intro h3
  replace hF := ar h3 hF
  unfold ck_value_CheckCommand_w0_c0 at hF
  refine aG (p1 == 11) ?_ ?_
  focus
    intro h4
    replace hF := aq h4 hF
    have hR := Option.some.inj hF
    clear hF
    subst hR
  rotate_left 1
  intro h4
  replace hF := ar h4 hF
  refine aG (p1 == 12) ?_ ?_
  focus
    intro h5
    replace hF := aq h5 hF
    have hR := Option.some.inj hF
    clear hF
    subst hR
  rotate_left 1
  intro h5
  replace hF := ar h5 hF
  refine aG (p1 == 13) ?_ ?_
  focus
    intro h6
    replace hF := aq h6 hF
    have hR := Option.some.inj hF
    clear hF
    subst hR
  rotate_left 1
  intro h6
  replace hF := ar h6 hF
  refine aG (p1 == 15) ?_ ?_
  focus
    intro h7
    replace hF := aq h7 hF
    have hR := Option.some.inj hF
    clear hF
    subst hR
  rotate_left 1
  intro h7
  replace hF := ar h7 hF
  refine aG (p1 == 16) ?_ ?_
  focus
    intro h8
    replace hF := aq h8 hF
    have hR := Option.some.inj hF
    clear hF
    subst hR
  rotate_left 1
  intro h8
  replace hF := ar h8 hF
  refine aG (p1 == 3) ?_ ?_
  focus
    intro h9
    replace hF := aq h9 hF
    have hR := Option.some.inj hF
    clear hF
    subst hR
  rotate_left 1
  intro h9
  replace hF := ar h9 hF
  refine aG (p1 == 20) ?_ ?_
  focus
    intro h10
    replace hF := aq h10 hF
    have hR := Option.some.inj hF
    clear hF
    subst hR
  rotate_left 1
  intro h10
  replace hF := ar h10 hF
  have g1 : @cR TT C.wide (evW TT C.wide n128 b128) n128 1 37 ⟨[(1, .rp [.i .i64 p0.fKind, .s p0.fKey, .s p0.fField, .s p0.fText, .i .i64 p0.fN]), (3, .ptr 0 0), (18, .v (.i .i64 p1)), (37, .v (.b (p1 == 4)))], [[.v (.i .i64 p1), .v (.s p2), .v (.s ByteArray.empty), .v (.s ByteArray.empty), .v (.i .i64 0)]]⟩ ⟨_⟩ = some (.normal, ⟨[(1, .rp [.i .i64 p0.fKind, .s p0.fKey, .s p0.fField, .s p0.fText, .i .i64 p0.fN]), (3, .ptr 0 0)], [[.v (.i .i64 (ck_value_CheckCommand_q37_v p0 p1 (p1 == 4) p2).fKind), .v (.s (ck_value_CheckCommand_q37_v p0 p1 (p1 == 4) p2).fKey), .v (.s (ck_value_CheckCommand_q37_v p0 p1 (p1 == 4) p2).fField), .v (.s (ck_value_CheckCommand_q37_v p0 p1 (p1 == 4) p2).fText), .v (.i .i64 (ck_value_CheckCommand_q37_v p0 p1 (p1 == 4) p2).fN)]]⟩) := rg_value_CheckCommand_q37 C p0 p1 (p1 == 4) p2 _ rfl (ck_value_CheckCommand_q37_v p0 p1 (p1 == 4) p2) (ck_value_CheckCommand_q37_t p0 p1 (p1 == 4) p2)
  have hR := Option.some.inj hF
  clear hF
  subst hR
  all_goals (simp (maxSteps := 4000000) only [*, res128, n128a11t, n128a11f, n128a19t, n128a19f, n128a31t, n128a31f, n128a37t, n128a37f, n128a45t, n128a45f, n128a51t, n128a51f, n128a59t, n128a59f, n128a64t, n128a64f, n128a95t, n128a95f, n128a99t, n128a99f, n128k0, n128k1, n128k2, n128k3, n128k4, n128k5, n128k6, n128k7, n128k8, n128k9, n128k10, n128k11, n128k12, n128k13, n128k14, n128k15, n128k16, n128k17, n128k18, n128k19, n128k20, n128k21, n128k22, n128k23, n128k24, n128k25, n128k26, n128k27, n128k28, n128k29, n128k30, n128k31, n128k32, n128f18, n128f23, n128ro, n128mv, n128gv, ↓RP, RB, ↓ah, ↓ac, ↓af, ↓ad, ↓ae, enter, aW, aC, aZ, be, aM, Mx.bw, opnd, Mx.bF, Nat.reduceBEq, bK, Mx.fit, bI, bY, toVs, cellsOf, toV, aO, aB, ax, Mx.put, ofConst, ofCell, Mx.prune, killB, killBs, aK, putDst, au, ao, aD, loadAt, bM, List.map, Nat.reduceAdd, Nat.reduceMul, cm, cn, aF, eqC, cg, aN, reduceIte, reduceCtorEq, az, bn, bq, co, bN, bD, aL, bx, lowC, lowP, forceAll, bound, bW, bg, bv, aU, br, kill, spendLoc, spendOk, setOwn, dropAl, dropAls, bG, bP, bd, cb, lend, lendA, aS, ay, bU, bL, bare, bQ, frz, bZ, bo, argE, argsE, bB, bT, fill, setCells, bR, takeParts, bp, aR, ownAt, Nat.reduceBNe, Nat.reduceSub, Nat.reduceLT, Nat.reduceLeDiff, lowA, bi, bJ, av, aJ, aX, bX, bO, bE, bS, ce, bV, bk, aI, bh, bj, bf, cd, Op.operands, Int.reduceBEq, Int.reduceLT, Int.reduceLE, Int.reduceNeg, Int.reduceBNe, bl, newB, ch, ck, cj, bne, ↓aj, bc, aP, bm, bu, aE, bH, Call.operands, ty3, ty4, ty9, ty25, ty34, ↓aa _ _ _ _ 5, ↓ai _ _ _ _ 19, ↓aa _ _ _ _ 6, ↓aa _ _ _ _ 7, ↓aa _ _ _ _ 8, ↓aa _ _ _ _ 9, ↓aa _ _ _ _ 10, ↓aa _ _ _ _ 11, ↓aa _ _ _ _ 12, ↓aa _ _ _ _ 13, ↓aa _ _ _ _ 14, ↓ai _ _ _ _ 31, ↓aa _ _ _ _ 15, ↓aa _ _ _ _ 16, ↓aa _ _ _ _ 17, ↓cP _ _ _ _ 37, ↓am _ _ _ _ 18, ↓aa _ _ _ _ 19, ↓ai _ _ _ _ 45, ↓aa _ _ _ _ 20, ↓aa _ _ _ _ 21, ↓aa _ _ _ _ 22, ↓cP _ _ _ _ 51, ↓am _ _ _ _ 23, ↓aa _ _ _ _ 24, ↓cP _ _ _ _ 59, ↓aa _ _ _ _ 25])
set_option maxRecDepth 100000 in
set_option maxHeartbeats 40000000 in
theorem rg_value_CheckCommand_k28 (C : ak) (k_value_field : K_value_field C) (k_value_text : K_value_text C) (p0 : GCommand) (p1 : GCommand) (c : Code) (ho : cr 0 28 b128 = some c) (r : Bool) (hF : ck_value_CheckCommand_k28 p0 p1 = some r) : aH TT C.wide (evW TT C.wide n128 b128) n128 c ⟨[(1, .rp [.i .i64 p0.fKind, .s p0.fKey, .s p0.fField, .s p0.fText, .i .i64 p0.fN])], [[.v (.i .i64 p1.fKind), .v (.s p1.fKey), .v (.s p1.fField), .v (.s p1.fText), .v (.i .i64 p1.fN)]]⟩ = some (.normal, ⟨[(1, .rp [.i .i64 p0.fKind, .s p0.fKey, .s p0.fField, .s p0.fText, .i .i64 p0.fN]), (95, .v (.b r))], [[.v (.i .i64 p1.fKind), .v (.s p1.fKey), .v (.s p1.fField), .v (.s p1.fText), .v (.i .i64 p1.fN)]]⟩) := by
  have e := Option.some.inj (ho.symm.trans (rfl : cr 0 28 b128 = some _))
  subst e
  clear ho
  unfold ck_value_CheckCommand_k28 at hF
  refine aG (p0.fKind == 22) ?_ ?_
  focus
    intro h1
    replace hF := aq h1 hF
    refine aT (decide (4 ≤ p0.fKind)) ?_ ?_
    focus
      intro h2
      replace hF := ar h2 hF
      have g1 : C.wide 62 [.v (.s p0.fText)] [] = some (.v (.b (value_text_v p0.fText)), []) := k_value_text p0.fText _ (value_text_t p0.fText)
      have hR := Option.some.inj hF
      clear hF
      subst hR
    rotate_left 1
    intro h2
    replace hF := aq h2 hF
    refine aT (decide (p0.fKind ≤ 6)) ?_ ?_
    focus
      intro h3
      replace hF := ar h3 hF
      have g1 : C.wide 62 [.v (.s p0.fText)] [] = some (.v (.b (value_text_v p0.fText)), []) := k_value_text p0.fText _ (value_text_t p0.fText)
      have hR := Option.some.inj hF
      clear hF
      subst hR
    rotate_left 1
    intro h3
    replace hF := aq h3 hF
    have g2 : C.wide 67 [.v (.s p0.fField)] [] = some (.v (.b (value_field_v p0.fField)), []) := k_value_field p0.fField _ (value_field_t p0.fField)
    refine aG (value_field_v p0.fField) ?_ ?_
    focus
      intro h4
      replace hF := aq h4 hF
      have g1 : C.wide 62 [.v (.s p0.fText)] [] = some (.v (.b (value_text_v p0.fText)), []) := k_value_text p0.fText _ (value_text_t p0.fText)
      have hR := Option.some.inj hF
      clear hF
      subst hR
    rotate_left 1
    intro h4
    replace hF := ar h4 hF
    have hR := Option.some.inj hF
    clear hF
    subst hR
  rotate_left 4
  intro h1
  replace hF := ar h1 hF
  unfold ck_value_CheckCommand_k28_c0 at hF
  have g3 : C.wide 67 [.v (.s p0.fKey)] [] = some (.v (.b (value_field_v p0.fKey)), []) := k_value_field p0.fKey _ (value_field_t p0.fKey)
  refine aT (value_field_v p0.fKey) ?_ ?_
  focus
    intro h2
    replace hF := ar h2 hF
    have hR := Option.some.inj hF
    clear hF
    subst hR
  rotate_left 1
  intro h2
  replace hF := aq h2 hF
  refine aT (decide (4 ≤ p0.fKind)) ?_ ?_
  focus
    intro h3
    replace hF := ar h3 hF
    have g1 : C.wide 62 [.v (.s p0.fText)] [] = some (.v (.b (value_text_v p0.fText)), []) := k_value_text p0.fText _ (value_text_t p0.fText)
    have hR := Option.some.inj hF
    clear hF
    subst hR
  rotate_left 1
  intro h3
  replace hF := aq h3 hF
  refine aT (decide (p0.fKind ≤ 6)) ?_ ?_
  focus
    intro h4
    replace hF := ar h4 hF
    have g1 : C.wide 62 [.v (.s p0.fText)] [] = some (.v (.b (value_text_v p0.fText)), []) := k_value_text p0.fText _ (value_text_t p0.fText)
    have hR := Option.some.inj hF
    clear hF
    subst hR
  rotate_left 1
  intro h4
  replace hF := aq h4 hF
  have g2 : C.wide 67 [.v (.s p0.fField)] [] = some (.v (.b (value_field_v p0.fField)), []) := k_value_field p0.fField _ (value_field_t p0.fField)
  refine aG (value_field_v p0.fField) ?_ ?_
  focus
    intro h5
    replace hF := aq h5 hF
    have g1 : C.wide 62 [.v (.s p0.fText)] [] = some (.v (.b (value_text_v p0.fText)), []) := k_value_text p0.fText _ (value_text_t p0.fText)
    have hR := Option.some.inj hF
    clear hF
    subst hR
  rotate_left 1
  intro h5
  replace hF := ar h5 hF
  have hR := Option.some.inj hF
  clear hF
  subst hR
  all_goals (simp (maxSteps := 4000000) only [*, res128, n128a11t, n128a11f, n128a19t, n128a19f, n128a31t, n128a31f, n128a37t, n128a37f, n128a45t, n128a45f, n128a51t, n128a51f, n128a59t, n128a59f, n128a64t, n128a64f, n128a95t, n128a95f, n128a99t, n128a99f, n128k0, n128k1, n128k2, n128k3, n128k4, n128k5, n128k6, n128k7, n128k8, n128k9, n128k10, n128k11, n128k12, n128k13, n128k14, n128k15, n128k16, n128k17, n128k18, n128k19, n128k20, n128k21, n128k22, n128k23, n128k24, n128k25, n128k26, n128k27, n128k28, n128k29, n128k30, n128k31, n128k32, n128f18, n128f23, n128ro, n128mv, n128gv, ↓RP, RB, enter, aW, aC, aZ, be, aM, Mx.bw, opnd, Mx.bF, Nat.reduceBEq, bK, Mx.fit, bI, bY, toVs, cellsOf, toV, aO, aB, ax, Mx.put, ofConst, ofCell, Mx.prune, killB, killBs, aK, putDst, au, ao, aD, loadAt, bM, List.map, Nat.reduceAdd, Nat.reduceMul, cm, cn, aF, eqC, cg, aN, reduceIte, reduceCtorEq, az, bn, bq, co, bN, bD, aL, bx, lowC, lowP, forceAll, bound, bW, bg, bv, aU, br, kill, spendLoc, spendOk, setOwn, dropAl, dropAls, bG, bP, bd, cb, lend, lendA, aS, ay, bU, bL, bare, bQ, frz, bZ, bo, argE, argsE, bB, bT, fill, setCells, bR, takeParts, bp, aR, ownAt, Nat.reduceBNe, Nat.reduceSub, Nat.reduceLT, Nat.reduceLeDiff, lowA, bi, bJ, av, aJ, aX, bX, bO, bE, bS, ce, bV, bk, aI, bh, bj, bf, cd, Op.operands, Int.reduceBEq, Int.reduceLT, Int.reduceLE, Int.reduceNeg, Int.reduceBNe, bl, newB, ch, ck, cj, bne, ↓aj, bc, aP, bm, bu, aE, bH, Call.operands, ty3, ty4, ty9, ty25, ty34, ↓aa _ _ _ _ 28])
set_option maxRecDepth 100000 in
set_option maxHeartbeats 40000000 in
theorem r_value_CheckCommand (C : ak) (k_value_field : K_value_field C) (k_value_text : K_value_text C) (k_value_count : K_value_count C) (p0 : GCommand) (r : Int) (hF : value_CheckCommand p0 = some r) : cF TT C.wide (evW TT C.wide n128 b128) n128 Try.f128.results.toList (aQ Try.f128) [.agg [.v (.i .i64 p0.fKind), .v (.s p0.fKey), .v (.s p0.fField), .v (.s p0.fText), .v (.i .i64 p0.fN)]] [] = some (.v (.i .i64 r), []) := by
  unfold value_CheckCommand at hF
  refine aG (decide (p0.fKind < 1)) ?_ ?_
  focus
    intro h1
    replace hF := aq h1 hF
    have hR := Option.some.inj hF
    clear hF
    subst hR
  rotate_left 1
  intro h1
  replace hF := ar h1 hF
  refine aG (decide (22 < p0.fKind)) ?_ ?_
  focus
    intro h2
    replace hF := aq h2 hF
    have hR := Option.some.inj hF
    clear hF
    subst hR
  rotate_left 1
  intro h2
  replace hF := ar h2 hF
  unfold value_CheckCommand_c0 at hF
  have g1 : @cR TT C.wide (evW TT C.wide n128 b128) n128 2 0 ⟨[(1, .rp [.i .i64 p0.fKind, .s p0.fKey, .s p0.fField, .s p0.fText, .i .i64 p0.fN]), (3, .ptr 0 0), (18, .v (.i .i64 p0.fKind))], [[.v (.i .i64 p0.fKind), .v (.s p0.fKey), .v (.s ByteArray.empty), .v (.s ByteArray.empty), .v (.i .i64 0)]]⟩ ⟨_⟩ = some (.normal, ⟨[(1, .rp [.i .i64 p0.fKind, .s p0.fKey, .s p0.fField, .s p0.fText, .i .i64 p0.fN]), (3, .ptr 0 0)], [[.v (.i .i64 (ck_value_CheckCommand_w0_v p0 p0.fKind p0.fKey).fKind), .v (.s (ck_value_CheckCommand_w0_v p0 p0.fKind p0.fKey).fKey), .v (.s (ck_value_CheckCommand_w0_v p0 p0.fKind p0.fKey).fField), .v (.s (ck_value_CheckCommand_w0_v p0 p0.fKind p0.fKey).fText), .v (.i .i64 (ck_value_CheckCommand_w0_v p0 p0.fKind p0.fKey).fN)]]⟩) := rg_value_CheckCommand_w0 C p0 p0.fKind p0.fKey _ rfl (ck_value_CheckCommand_w0_v p0 p0.fKind p0.fKey) (ck_value_CheckCommand_w0_t p0 p0.fKind p0.fKey)
  refine aT (p0.fKind == (ck_value_CheckCommand_w0_v p0 p0.fKind p0.fKey).fKind) ?_ ?_
  focus
    intro h3
    replace hF := ar h3 hF
    have hR := Option.some.inj hF
    clear hF
    subst hR
  rotate_left 1
  intro h3
  replace hF := aq h3 hF
  refine aT (cJ p0.fKey ((ck_value_CheckCommand_w0_v p0 p0.fKind p0.fKey).fKey)) ?_ ?_
  focus
    intro h4
    replace hF := ar h4 hF
    have hR := Option.some.inj hF
    clear hF
    subst hR
  rotate_left 1
  intro h4
  replace hF := aq h4 hF
  refine aT (cJ p0.fField ((ck_value_CheckCommand_w0_v p0 p0.fKind p0.fKey).fField)) ?_ ?_
  focus
    intro h5
    replace hF := ar h5 hF
    have hR := Option.some.inj hF
    clear hF
    subst hR
  rotate_left 1
  intro h5
  replace hF := aq h5 hF
  refine aT (cJ p0.fText ((ck_value_CheckCommand_w0_v p0 p0.fKind p0.fKey).fText)) ?_ ?_
  focus
    intro h6
    replace hF := ar h6 hF
    have hR := Option.some.inj hF
    clear hF
    subst hR
  rotate_left 1
  intro h6
  replace hF := aq h6 hF
  refine aT (p0.fN == (ck_value_CheckCommand_w0_v p0 p0.fKind p0.fKey).fN) ?_ ?_
  focus
    intro h7
    replace hF := ar h7 hF
    have hR := Option.some.inj hF
    clear hF
    subst hR
  rotate_left 1
  intro h7
  replace hF := aq h7 hF
  have g2 : @cR TT C.wide (evW TT C.wide n128 b128) n128 0 28 ⟨[(1, .rp [.i .i64 p0.fKind, .s p0.fKey, .s p0.fField, .s p0.fText, .i .i64 p0.fN])], [[.v (.i .i64 (ck_value_CheckCommand_w0_v p0 p0.fKind p0.fKey).fKind), .v (.s (ck_value_CheckCommand_w0_v p0 p0.fKind p0.fKey).fKey), .v (.s (ck_value_CheckCommand_w0_v p0 p0.fKind p0.fKey).fField), .v (.s (ck_value_CheckCommand_w0_v p0 p0.fKind p0.fKey).fText), .v (.i .i64 (ck_value_CheckCommand_w0_v p0 p0.fKind p0.fKey).fN)]]⟩ ⟨_⟩ = some (.normal, ⟨[(1, .rp [.i .i64 p0.fKind, .s p0.fKey, .s p0.fField, .s p0.fText, .i .i64 p0.fN]), (95, .v (.b (ck_value_CheckCommand_k28_v p0 (ck_value_CheckCommand_w0_v p0 p0.fKind p0.fKey))))], [[.v (.i .i64 (ck_value_CheckCommand_w0_v p0 p0.fKind p0.fKey).fKind), .v (.s (ck_value_CheckCommand_w0_v p0 p0.fKind p0.fKey).fKey), .v (.s (ck_value_CheckCommand_w0_v p0 p0.fKind p0.fKey).fField), .v (.s (ck_value_CheckCommand_w0_v p0 p0.fKind p0.fKey).fText), .v (.i .i64 (ck_value_CheckCommand_w0_v p0 p0.fKind p0.fKey).fN)]]⟩) := rg_value_CheckCommand_k28 C k_value_field k_value_text p0 (ck_value_CheckCommand_w0_v p0 p0.fKind p0.fKey) _ rfl (ck_value_CheckCommand_k28_v p0 (ck_value_CheckCommand_w0_v p0 p0.fKind p0.fKey)) (ck_value_CheckCommand_k28_t p0 (ck_value_CheckCommand_w0_v p0 p0.fKind p0.fKey))
  refine aG (ck_value_CheckCommand_k28_v p0 (ck_value_CheckCommand_w0_v p0 p0.fKind p0.fKey)) ?_ ?_
  focus
    intro h8
    replace hF := aq h8 hF
    have hR := Option.some.inj hF
    clear hF
    subst hR
  rotate_left 1
  intro h8
  replace hF := ar h8 hF
  have g3 : C.wide 70 [.v (.i .i64 p0.fN)] [] = some (.v (.b (value_count_v p0.fN)), []) := k_value_count p0.fN _ (value_count_t p0.fN)
  refine aG (value_count_v p0.fN) ?_ ?_
  focus
    intro h9
    replace hF := aq h9 hF
    have hR := Option.some.inj hF
    clear hF
    subst hR
  rotate_left 1
  intro h9
  replace hF := ar h9 hF
  have hR := Option.some.inj hF
  clear hF
  subst hR
  all_goals (rw [ba]; show cp _ _ _ (aH _ _ _ _ (Code.seq _ _) _) = _; simp (maxSteps := 4000000) only [*, res128, n128a11t, n128a11f, n128a19t, n128a19f, n128a31t, n128a31f, n128a37t, n128a37f, n128a45t, n128a45f, n128a51t, n128a51f, n128a59t, n128a59f, n128a64t, n128a64f, n128a95t, n128a95f, n128a99t, n128a99f, n128k0, n128k1, n128k2, n128k3, n128k4, n128k5, n128k6, n128k7, n128k8, n128k9, n128k10, n128k11, n128k12, n128k13, n128k14, n128k15, n128k16, n128k17, n128k18, n128k19, n128k20, n128k21, n128k22, n128k23, n128k24, n128k25, n128k26, n128k27, n128k28, n128k29, n128k30, n128k31, n128k32, n128f18, n128f23, n128ro, n128mv, n128gv, ↓RP, RB, enter, aW, aC, aZ, be, aM, Mx.bw, opnd, Mx.bF, Nat.reduceBEq, bK, Mx.fit, bI, bY, toVs, cellsOf, toV, aO, aB, ax, Mx.put, ofConst, ofCell, Mx.prune, killB, killBs, aK, putDst, au, ao, aD, loadAt, bM, List.map, Nat.reduceAdd, Nat.reduceMul, cm, cn, aF, eqC, cg, aN, reduceIte, reduceCtorEq, az, bn, bq, co, bN, bD, aL, bx, lowC, lowP, forceAll, bound, bW, bg, bv, aU, br, kill, spendLoc, spendOk, setOwn, dropAl, dropAls, bG, bP, bd, cb, lend, lendA, aS, ay, bU, bL, bare, bQ, frz, bZ, bo, argE, argsE, bB, bT, fill, setCells, bR, takeParts, bp, aR, ownAt, Nat.reduceBNe, Nat.reduceSub, Nat.reduceLT, Nat.reduceLeDiff, lowA, bi, bJ, av, aJ, aX, bX, bO, bE, bS, ce, bV, bk, aI, bh, bj, bf, cd, Op.operands, Int.reduceBEq, Int.reduceLT, Int.reduceLE, Int.reduceNeg, Int.reduceBNe, bl, newB, ch, ck, cj, bne, ↓aj, bc, aP, bm, bu, aE, bH, Call.operands, ty3, ty4, ty9, ty25, ty34, ↓aa _ _ _ _ 0, ↓aa _ _ _ _ 1, ↓ai _ _ _ _ 11, ↓aa _ _ _ _ 2, ↓aa _ _ _ _ 3, ↓aa _ _ _ _ 4, ↓evCode_blockB _ _ _ _ 0, ↓aa _ _ _ _ 5, ↓ai _ _ _ _ 19, ↓aa _ _ _ _ 6, ↓aa _ _ _ _ 7, ↓aa _ _ _ _ 8, ↓aa _ _ _ _ 9, ↓aa _ _ _ _ 10, ↓aa _ _ _ _ 11, ↓aa _ _ _ _ 12, ↓aa _ _ _ _ 13, ↓aa _ _ _ _ 14, ↓ai _ _ _ _ 31, ↓aa _ _ _ _ 15, ↓aa _ _ _ _ 16, ↓aa _ _ _ _ 17, ↓cP _ _ _ _ 37, ↓am _ _ _ _ 18, ↓aa _ _ _ _ 19, ↓ai _ _ _ _ 45, ↓aa _ _ _ _ 20, ↓aa _ _ _ _ 21, ↓aa _ _ _ _ 22, ↓cP _ _ _ _ 51, ↓am _ _ _ _ 23, ↓aa _ _ _ _ 24, ↓cP _ _ _ _ 59, ↓aa _ _ _ _ 25, ↓aa _ _ _ _ 26, ↓ai _ _ _ _ 64, ↓aa _ _ _ _ 27, ↓bC _ _ _ _ 28, ↓ai _ _ _ _ 95, ↓aa _ _ _ _ 29, ↓aa _ _ _ _ 30, ↓ai _ _ _ _ 99, ↓aa _ _ _ _ 31, ↓aa _ _ _ _ 32])
/-! ### client.CheckCall -/
def n102 : cC where
  keep := fun i => match i with
    | 0 => [1]
    | 1 => [1, 5]
    | 2 => [8]
    | 3 => [2]
    | 4 => [2]
    | 5 => [1, 18]
    | 6 => [2]
    | 7 => [2]
    | _ => []
  ro := fun t => t == 1
  mv := fun _ => false
  give := fun _ => false
  free := fun _ => []
  alive := fun i x => match i, x with
    | 5, true => some [1]
    | 5, false => some [1]
    | 8, true => some []
    | 8, false => some []
    | 18, true => some []
    | 18, false => some [1]
    | _, _ => none
theorem n102a5t (e : Env) (S : aA) : aw n102 5 true ⟨e, S⟩ = ⟨prune [1] e, S⟩ := rfl
theorem n102a5f (e : Env) (S : aA) : aw n102 5 false ⟨e, S⟩ = ⟨prune [1] e, S⟩ := rfl
theorem n102a8t (e : Env) (S : aA) : aw n102 8 true ⟨e, S⟩ = ⟨prune [] e, S⟩ := rfl
theorem n102a8f (e : Env) (S : aA) : aw n102 8 false ⟨e, S⟩ = ⟨prune [] e, S⟩ := rfl
theorem n102a18t (e : Env) (S : aA) : aw n102 18 true ⟨e, S⟩ = ⟨prune [] e, S⟩ := rfl
theorem n102a18f (e : Env) (S : aA) : aw n102 18 false ⟨e, S⟩ = ⟨prune [1] e, S⟩ := rfl
theorem n102k0 : n102.keep 0 = [1] := rfl
theorem n102k1 : n102.keep 1 = [1, 5] := rfl
theorem n102k2 : n102.keep 2 = [8] := rfl
theorem n102k3 : n102.keep 3 = [2] := rfl
theorem n102k4 : n102.keep 4 = [2] := rfl
theorem n102k5 : n102.keep 5 = [1, 18] := rfl
theorem n102k6 : n102.keep 6 = [2] := rfl
theorem n102k7 : n102.keep 7 = [2] := rfl
theorem n102ro (t : Nat) : n102.ro t = (t == 1) := rfl
theorem n102mv (t : Nat) : n102.mv t = (false) := rfl
theorem n102gv (t : Nat) : n102.give t = (false) := rfl
theorem res102 : Try.f102.results.toList = [.tmp 2] := rfl
noncomputable def b102 : Code := aQ Try.f102
set_option maxRecDepth 100000 in
set_option maxHeartbeats 40000000 in
theorem r_client_CheckCall (C : ak) (k_client_number : K_client_number C) (k_value_CheckCommand : K_value_CheckCommand C) (p0 : GCall) (r : Int) (hF : client_CheckCall p0 = some r) : cF TT C.wide (evW TT C.wide n102 b102) n102 Try.f102.results.toList (aQ Try.f102) [.agg [.v (.i .i64 p0.fClient), .v (.i .i64 p0.fSeq), .v (.i .i64 p0.fCommand.fKind), .v (.s p0.fCommand.fKey), .v (.s p0.fCommand.fField), .v (.s p0.fCommand.fText), .v (.i .i64 p0.fCommand.fN)]] [] = some (.v (.i .i64 r), []) := by
  unfold client_CheckCall at hF
  refine aT (p0.fClient == 0) ?_ ?_
  focus
    intro h1
    replace hF := ar h1 hF
    have g1 : C.wide 127 [.v (.i .i64 p0.fClient)] [] = some (.v (.b (client_number_v p0.fClient)), []) := k_client_number p0.fClient _ (client_number_t p0.fClient)
    refine aT (client_number_v p0.fClient) ?_ ?_
    focus
      intro h2
      replace hF := ar h2 hF
      have hR := Option.some.inj hF
      clear hF
      subst hR
    rotate_left 1
    intro h2
    replace hF := aq h2 hF
    have g2 : C.wide 127 [.v (.i .i64 p0.fSeq)] [] = some (.v (.b (client_number_v p0.fSeq)), []) := k_client_number p0.fSeq _ (client_number_t p0.fSeq)
    refine aG (client_number_v p0.fSeq) ?_ ?_
    focus
      intro h3
      replace hF := aq h3 hF
      have g3 : C.wide 128 [.agg [.v (.i .i64 p0.fCommand.fKind), .v (.s p0.fCommand.fKey), .v (.s p0.fCommand.fField), .v (.s p0.fCommand.fText), .v (.i .i64 p0.fCommand.fN)]] [] = some (.v (.i .i64 (value_CheckCommand_v p0.fCommand)), []) := k_value_CheckCommand p0.fCommand _ (value_CheckCommand_t p0.fCommand)
      have hR := Option.some.inj hF
      clear hF
      subst hR
    rotate_left 1
    intro h3
    replace hF := ar h3 hF
    have hR := Option.some.inj hF
    clear hF
    subst hR
  rotate_left 3
  intro h1
  replace hF := aq h1 hF
  unfold client_CheckCall_c0 at hF
  refine aT (p0.fSeq == 0) ?_ ?_
  focus
    intro h2
    replace hF := ar h2 hF
    have hR := Option.some.inj hF
    clear hF
    subst hR
  rotate_left 1
  intro h2
  replace hF := aq h2 hF
  refine aT (p0.fCommand.fKind == 0) ?_ ?_
  focus
    intro h3
    replace hF := ar h3 hF
    have hR := Option.some.inj hF
    clear hF
    subst hR
  rotate_left 1
  intro h3
  replace hF := aq h3 hF
  refine aT (cJ p0.fCommand.fKey ByteArray.empty) ?_ ?_
  focus
    intro h4
    replace hF := ar h4 hF
    have hR := Option.some.inj hF
    clear hF
    subst hR
  rotate_left 1
  intro h4
  replace hF := aq h4 hF
  refine aT (cJ p0.fCommand.fField ByteArray.empty) ?_ ?_
  focus
    intro h5
    replace hF := ar h5 hF
    have hR := Option.some.inj hF
    clear hF
    subst hR
  rotate_left 1
  intro h5
  replace hF := aq h5 hF
  refine aT (cJ p0.fCommand.fText ByteArray.empty) ?_ ?_
  focus
    intro h6
    replace hF := ar h6 hF
    have hR := Option.some.inj hF
    clear hF
    subst hR
  rotate_left 1
  intro h6
  replace hF := aq h6 hF
  refine aG (p0.fCommand.fN == 0) ?_ ?_
  focus
    intro h7
    replace hF := aq h7 hF
    have hR := Option.some.inj hF
    clear hF
    subst hR
  rotate_left 1
  intro h7
  replace hF := ar h7 hF
  have hR := Option.some.inj hF
  clear hF
  subst hR
  all_goals (rw [ba]; show cp _ _ _ (aH _ _ _ _ (Code.seq _ _) _) = _; simp (maxSteps := 4000000) only [*, res102, n102a5t, n102a5f, n102a8t, n102a8f, n102a18t, n102a18f, n102k0, n102k1, n102k2, n102k3, n102k4, n102k5, n102k6, n102k7, n102ro, n102mv, n102gv, ↓RP, RB, ↓ah, ↓ac, ↓af, ↓ad, ↓ae, enter, aW, aC, aZ, be, aM, Mx.bw, opnd, Mx.bF, Nat.reduceBEq, bK, Mx.fit, bI, bY, toVs, cellsOf, toV, aO, aB, ax, Mx.put, ofConst, ofCell, Mx.prune, killB, killBs, aK, putDst, au, ao, aD, loadAt, bM, List.map, Nat.reduceAdd, Nat.reduceMul, cm, cn, aF, eqC, cg, aN, reduceIte, reduceCtorEq, az, bn, bq, co, bN, bD, aL, bx, lowC, lowP, forceAll, bound, bW, bg, bv, aU, br, kill, spendLoc, spendOk, setOwn, dropAl, dropAls, bG, bP, bd, cb, lend, lendA, aS, ay, bU, bL, bare, bQ, frz, bZ, bo, argE, argsE, bB, bT, fill, setCells, bR, takeParts, bp, aR, ownAt, Nat.reduceBNe, Nat.reduceSub, Nat.reduceLT, Nat.reduceLeDiff, lowA, bi, bJ, av, aJ, aX, bX, bO, bE, bS, ce, bV, bk, aI, bh, bj, bf, cd, Op.operands, Int.reduceBEq, Int.reduceLT, Int.reduceLE, Int.reduceNeg, Int.reduceBNe, bl, newB, ch, ck, cj, bne, ↓aj, ↓ai, ↓aa, ↓am, bc, aP, bm, bu, aE, bH, Call.operands, ty3, ty4, ty9, ty25, ty34, ty36])
/-! ### wire.CheckItem -/
def n56 : cC where
  keep := fun i => match i with
    | 0 => [1]
    | 1 => [1, 20]
    | 2 => [2]
    | 3 => [1, 22]
    | 4 => [26]
    | 5 => [2]
    | 6 => [2]
    | 7 => [2]
    | _ => []
  ro := fun t => t == 1
  mv := fun _ => false
  give := fun _ => false
  free := fun _ => []
  alive := fun i x => match i, x with
    | 20, true => some []
    | 20, false => some [1]
    | 22, true => some [1]
    | 22, false => some [1]
    | 26, true => some []
    | 26, false => some []
    | _, _ => none
theorem n56a20t (e : Env) (S : aA) : aw n56 20 true ⟨e, S⟩ = ⟨prune [] e, S⟩ := rfl
theorem n56a20f (e : Env) (S : aA) : aw n56 20 false ⟨e, S⟩ = ⟨prune [1] e, S⟩ := rfl
theorem n56a22t (e : Env) (S : aA) : aw n56 22 true ⟨e, S⟩ = ⟨prune [1] e, S⟩ := rfl
theorem n56a22f (e : Env) (S : aA) : aw n56 22 false ⟨e, S⟩ = ⟨prune [1] e, S⟩ := rfl
theorem n56a26t (e : Env) (S : aA) : aw n56 26 true ⟨e, S⟩ = ⟨prune [] e, S⟩ := rfl
theorem n56a26f (e : Env) (S : aA) : aw n56 26 false ⟨e, S⟩ = ⟨prune [] e, S⟩ := rfl
theorem n56k0 : n56.keep 0 = [1] := rfl
theorem n56k1 : n56.keep 1 = [1, 20] := rfl
theorem n56k2 : n56.keep 2 = [2] := rfl
theorem n56k3 : n56.keep 3 = [1, 22] := rfl
theorem n56k4 : n56.keep 4 = [26] := rfl
theorem n56k5 : n56.keep 5 = [2] := rfl
theorem n56k6 : n56.keep 6 = [2] := rfl
theorem n56k7 : n56.keep 7 = [2] := rfl
theorem n56ro (t : Nat) : n56.ro t = (t == 1) := rfl
theorem n56mv (t : Nat) : n56.mv t = (false) := rfl
theorem n56gv (t : Nat) : n56.give t = (false) := rfl
theorem res56 : Try.f56.results.toList = [.tmp 2] := rfl
noncomputable def b56 : Code := aQ Try.f56
set_option maxRecDepth 100000 in
set_option maxHeartbeats 40000000 in
theorem rg_wire_CheckItem_k1 (C : ak)  (p0 : GItem) (c : Code) (ho : cr 0 1 b56 = some c) (r : Bool) (hF : ck_wire_CheckItem_k1 p0 = some r) : aH TT C.wide (evW TT C.wide n56 b56) n56 c ⟨[(1, .rp [.i .i64 p0.fTerm, .i .i64 p0.fTime, .b p0.fNop, .i .i64 p0.fCall.fClient, .i .i64 p0.fCall.fSeq, .i .i64 p0.fCall.fCommand.fKind, .s p0.fCall.fCommand.fKey, .s p0.fCall.fCommand.fField, .s p0.fCall.fCommand.fText, .i .i64 p0.fCall.fCommand.fN])], []⟩ = some (.normal, ⟨[(1, .rp [.i .i64 p0.fTerm, .i .i64 p0.fTime, .b p0.fNop, .i .i64 p0.fCall.fClient, .i .i64 p0.fCall.fSeq, .i .i64 p0.fCall.fCommand.fKind, .s p0.fCall.fCommand.fKey, .s p0.fCall.fCommand.fField, .s p0.fCall.fCommand.fText, .i .i64 p0.fCall.fCommand.fN]), (20, .v (.b r))], []⟩) := by
  have e := Option.some.inj (ho.symm.trans (rfl : cr 0 1 b56 = some _))
  subst e
  clear ho
  unfold ck_wire_CheckItem_k1 at hF
  refine aG (decide (p0.fTerm < 1)) ?_ ?_
  focus
    intro h1
    replace hF := aq h1 hF
    have hR := Option.some.inj hF
    clear hF
    subst hR
  rotate_left 1
  intro h1
  replace hF := ar h1 hF
  refine aG (decide (1048576 < p0.fTerm)) ?_ ?_
  focus
    intro h2
    replace hF := aq h2 hF
    have hR := Option.some.inj hF
    clear hF
    subst hR
  rotate_left 1
  intro h2
  replace hF := ar h2 hF
  refine aG (decide (p0.fTime < 0)) ?_ ?_
  focus
    intro h3
    replace hF := aq h3 hF
    have hR := Option.some.inj hF
    clear hF
    subst hR
  rotate_left 1
  intro h3
  replace hF := ar h3 hF
  have hR := Option.some.inj hF
  clear hF
  subst hR
  all_goals (simp (maxSteps := 4000000) only [*, res56, n56a20t, n56a20f, n56a22t, n56a22f, n56a26t, n56a26f, n56k0, n56k1, n56k2, n56k3, n56k4, n56k5, n56k6, n56k7, n56ro, n56mv, n56gv, ↓RP, RB, ↓ah, ↓ac, ↓af, ↓ad, ↓ae, enter, aW, aC, aZ, be, aM, Mx.bw, opnd, Mx.bF, Nat.reduceBEq, bK, Mx.fit, bI, bY, toVs, cellsOf, toV, aO, aB, ax, Mx.put, ofConst, ofCell, Mx.prune, killB, killBs, aK, putDst, au, ao, aD, loadAt, bM, List.map, Nat.reduceAdd, Nat.reduceMul, cm, cn, aF, eqC, cg, aN, reduceIte, reduceCtorEq, az, bn, bq, co, bN, bD, aL, bx, lowC, lowP, forceAll, bound, bW, bg, bv, aU, br, kill, spendLoc, spendOk, setOwn, dropAl, dropAls, bG, bP, bd, cb, lend, lendA, aS, ay, bU, bL, bare, bQ, frz, bZ, bo, argE, argsE, bB, bT, fill, setCells, bR, takeParts, bp, aR, ownAt, Nat.reduceBNe, Nat.reduceSub, Nat.reduceLT, Nat.reduceLeDiff, lowA, bi, bJ, av, aJ, aX, bX, bO, bE, bS, ce, bV, bk, aI, bh, bj, bf, cd, Op.operands, Int.reduceBEq, Int.reduceLT, Int.reduceLE, Int.reduceNeg, Int.reduceBNe, bl, newB, ch, ck, cj, bne, ↓aj, ↓ai, bc, aP, bm, bu, aE, bH, Call.operands, ty3, ty4, ty9, ty25, ty34, ty36, ty38, ↓aa _ _ _ _ 1])
set_option maxRecDepth 100000 in
set_option maxHeartbeats 40000000 in
theorem r_wire_CheckItem (C : ak) (k_client_CheckCall : K_client_CheckCall C) (p0 : GItem) (r : Int) (hF : wire_CheckItem p0 = some r) : cF TT C.wide (evW TT C.wide n56 b56) n56 Try.f56.results.toList (aQ Try.f56) [.agg [.v (.i .i64 p0.fTerm), .v (.i .i64 p0.fTime), .v (.b p0.fNop), .v (.i .i64 p0.fCall.fClient), .v (.i .i64 p0.fCall.fSeq), .v (.i .i64 p0.fCall.fCommand.fKind), .v (.s p0.fCall.fCommand.fKey), .v (.s p0.fCall.fCommand.fField), .v (.s p0.fCall.fCommand.fText), .v (.i .i64 p0.fCall.fCommand.fN)]] [] = some (.v (.i .i64 r), []) := by
  unfold wire_CheckItem at hF
  have g1 : @cR TT C.wide (evW TT C.wide n56 b56) n56 0 1 ⟨[(1, .rp [.i .i64 p0.fTerm, .i .i64 p0.fTime, .b p0.fNop, .i .i64 p0.fCall.fClient, .i .i64 p0.fCall.fSeq, .i .i64 p0.fCall.fCommand.fKind, .s p0.fCall.fCommand.fKey, .s p0.fCall.fCommand.fField, .s p0.fCall.fCommand.fText, .i .i64 p0.fCall.fCommand.fN])], []⟩ ⟨_⟩ = some (.normal, ⟨[(1, .rp [.i .i64 p0.fTerm, .i .i64 p0.fTime, .b p0.fNop, .i .i64 p0.fCall.fClient, .i .i64 p0.fCall.fSeq, .i .i64 p0.fCall.fCommand.fKind, .s p0.fCall.fCommand.fKey, .s p0.fCall.fCommand.fField, .s p0.fCall.fCommand.fText, .i .i64 p0.fCall.fCommand.fN]), (20, .v (.b (ck_wire_CheckItem_k1_v p0)))], []⟩) := rg_wire_CheckItem_k1 C p0 _ rfl (ck_wire_CheckItem_k1_v p0) (ck_wire_CheckItem_k1_t p0)
  refine aG (ck_wire_CheckItem_k1_v p0) ?_ ?_
  focus
    intro h1
    replace hF := aq h1 hF
    have hR := Option.some.inj hF
    clear hF
    subst hR
  rotate_left 1
  intro h1
  replace hF := ar h1 hF
  refine aT p0.fNop ?_ ?_
  focus
    intro h2
    replace hF := ar h2 hF
    have g2 : C.wide 102 [.agg [.v (.i .i64 p0.fCall.fClient), .v (.i .i64 p0.fCall.fSeq), .v (.i .i64 p0.fCall.fCommand.fKind), .v (.s p0.fCall.fCommand.fKey), .v (.s p0.fCall.fCommand.fField), .v (.s p0.fCall.fCommand.fText), .v (.i .i64 p0.fCall.fCommand.fN)]] [] = some (.v (.i .i64 (client_CheckCall_v p0.fCall)), []) := k_client_CheckCall p0.fCall _ (client_CheckCall_t p0.fCall)
    try simp only [h2] at g1
    have hR := Option.some.inj hF
    clear hF
    subst hR
  rotate_left 1
  intro h2
  replace hF := aq h2 hF
  unfold wire_CheckItem_c0 at hF
  refine aT (p0.fCall.fClient == 0) ?_ ?_
  focus
    intro h3
    replace hF := ar h3 hF
    try simp only [h2] at g1
    have hR := Option.some.inj hF
    clear hF
    subst hR
  rotate_left 1
  intro h3
  replace hF := aq h3 hF
  refine aT (p0.fCall.fSeq == 0) ?_ ?_
  focus
    intro h4
    replace hF := ar h4 hF
    try simp only [h2] at g1
    have hR := Option.some.inj hF
    clear hF
    subst hR
  rotate_left 1
  intro h4
  replace hF := aq h4 hF
  refine aT (p0.fCall.fCommand.fKind == 0) ?_ ?_
  focus
    intro h5
    replace hF := ar h5 hF
    try simp only [h2] at g1
    have hR := Option.some.inj hF
    clear hF
    subst hR
  rotate_left 1
  intro h5
  replace hF := aq h5 hF
  refine aT (cJ p0.fCall.fCommand.fKey ByteArray.empty) ?_ ?_
  focus
    intro h6
    replace hF := ar h6 hF
    try simp only [h2] at g1
    have hR := Option.some.inj hF
    clear hF
    subst hR
  rotate_left 1
  intro h6
  replace hF := aq h6 hF
  refine aT (cJ p0.fCall.fCommand.fField ByteArray.empty) ?_ ?_
  focus
    intro h7
    replace hF := ar h7 hF
    try simp only [h2] at g1
    have hR := Option.some.inj hF
    clear hF
    subst hR
  rotate_left 1
  intro h7
  replace hF := aq h7 hF
  refine aT (cJ p0.fCall.fCommand.fText ByteArray.empty) ?_ ?_
  focus
    intro h8
    replace hF := ar h8 hF
    try simp only [h2] at g1
    have hR := Option.some.inj hF
    clear hF
    subst hR
  rotate_left 1
  intro h8
  replace hF := aq h8 hF
  refine aG (p0.fCall.fCommand.fN == 0) ?_ ?_
  focus
    intro h9
    replace hF := aq h9 hF
    try simp only [h2] at g1
    have hR := Option.some.inj hF
    clear hF
    subst hR
  rotate_left 1
  intro h9
  replace hF := ar h9 hF
  try simp only [h2] at g1
  have hR := Option.some.inj hF
  clear hF
  subst hR
  all_goals (rw [ba]; show cp _ _ _ (aH _ _ _ _ (Code.seq _ _) _) = _; simp (maxSteps := 4000000) only [*, res56, n56a20t, n56a20f, n56a22t, n56a22f, n56a26t, n56a26f, n56k0, n56k1, n56k2, n56k3, n56k4, n56k5, n56k6, n56k7, n56ro, n56mv, n56gv, ↓RP, RB, ↓ah, ↓ac, ↓af, ↓ad, ↓ae, enter, aW, aC, aZ, be, aM, Mx.bw, opnd, Mx.bF, Nat.reduceBEq, bK, Mx.fit, bI, bY, toVs, cellsOf, toV, aO, aB, ax, Mx.put, ofConst, ofCell, Mx.prune, killB, killBs, aK, putDst, au, ao, aD, loadAt, bM, List.map, Nat.reduceAdd, Nat.reduceMul, cm, cn, aF, eqC, cg, aN, reduceIte, reduceCtorEq, az, bn, bq, co, bN, bD, aL, bx, lowC, lowP, forceAll, bound, bW, bg, bv, aU, br, kill, spendLoc, spendOk, setOwn, dropAl, dropAls, bG, bP, bd, cb, lend, lendA, aS, ay, bU, bL, bare, bQ, frz, bZ, bo, argE, argsE, bB, bT, fill, setCells, bR, takeParts, bp, aR, ownAt, Nat.reduceBNe, Nat.reduceSub, Nat.reduceLT, Nat.reduceLeDiff, lowA, bi, bJ, av, aJ, aX, bX, bO, bE, bS, ce, bV, bk, aI, bh, bj, bf, cd, Op.operands, Int.reduceBEq, Int.reduceLT, Int.reduceLE, Int.reduceNeg, Int.reduceBNe, bl, newB, ch, ck, cj, bne, ↓aj, ↓ai, bc, aP, bm, bu, aE, bH, Call.operands, ty3, ty4, ty9, ty25, ty34, ty36, ty38, ↓aa _ _ _ _ 0, ↓bC _ _ _ _ 1, ↓aa _ _ _ _ 2, ↓aa _ _ _ _ 3, ↓aa _ _ _ _ 4, ↓aa _ _ _ _ 5, ↓aa _ _ _ _ 6, ↓aa _ _ _ _ 7])
/-! ### wire.DecodeItem -/
def n37 : cC where
  keep := fun i => match i with
    | 0 => [0, 2]
    | 1 => [0, 2, 11]
    | 2 => [2, 3]
    | 3 => [2, 4]
    | 4 => [2, 4, 5, 6]
    | 5 => [2, 5, 7]
    | 6 => [2, 5, 7, 25]
    | 7 => [2, 3]
    | 8 => [2, 5, 8]
    | 9 => [2, 5, 8, 31]
    | 10 => [2, 3]
    | 11 => [2, 3]
    | _ => []
  ro := fun _ => false
  mv := fun _ => false
  give := fun _ => false
  free := fun _ => []
  alive := fun i x => match i, x with
    | 11, true => some [2]
    | 11, false => some [0, 2]
    | 25, true => some [2, 7]
    | 25, false => some [2, 5]
    | 31, true => some [2, 8]
    | 31, false => some [2, 5]
    | _, _ => none
theorem n37a11t (e : Env) (S : aA) : aw n37 11 true ⟨e, S⟩ = ⟨prune [2] e, S⟩ := rfl
theorem n37a11f (e : Env) (S : aA) : aw n37 11 false ⟨e, S⟩ = ⟨prune [0, 2] e, S⟩ := rfl
theorem n37a25t (e : Env) (S : aA) : aw n37 25 true ⟨e, S⟩ = ⟨prune [2, 7] e, S⟩ := rfl
theorem n37a25f (e : Env) (S : aA) : aw n37 25 false ⟨e, S⟩ = ⟨prune [2, 5] e, S⟩ := rfl
theorem n37a31t (e : Env) (S : aA) : aw n37 31 true ⟨e, S⟩ = ⟨prune [2, 8] e, S⟩ := rfl
theorem n37a31f (e : Env) (S : aA) : aw n37 31 false ⟨e, S⟩ = ⟨prune [2, 5] e, S⟩ := rfl
theorem n37k0 : n37.keep 0 = [0, 2] := rfl
theorem n37k1 : n37.keep 1 = [0, 2, 11] := rfl
theorem n37k2 : n37.keep 2 = [2, 3] := rfl
theorem n37k3 : n37.keep 3 = [2, 4] := rfl
theorem n37k4 : n37.keep 4 = [2, 4, 5, 6] := rfl
theorem n37k5 : n37.keep 5 = [2, 5, 7] := rfl
theorem n37k6 : n37.keep 6 = [2, 5, 7, 25] := rfl
theorem n37k7 : n37.keep 7 = [2, 3] := rfl
theorem n37k8 : n37.keep 8 = [2, 5, 8] := rfl
theorem n37k9 : n37.keep 9 = [2, 5, 8, 31] := rfl
theorem n37k10 : n37.keep 10 = [2, 3] := rfl
theorem n37k11 : n37.keep 11 = [2, 3] := rfl
theorem n37ro (t : Nat) : n37.ro t = (false) := rfl
theorem n37mv (t : Nat) : n37.mv t = (false) := rfl
theorem n37gv (t : Nat) : n37.give t = (false) := rfl
theorem res37 : Try.f37.results.toList = [.cell 2 38, .tmp 3] := rfl
noncomputable def b37 : Code := aQ Try.f37
set_option maxRecDepth 100000 in
set_option maxHeartbeats 40000000 in
theorem r_wire_DecodeItem (C : ak) (k_wire_reader_item : K_wire_reader_item C) (k_wire_reader_end : K_wire_reader_end C) (k_wire_CheckItem : K_wire_CheckItem C) (p0 : List Int) (r : GItem × Int) (hF : wire_DecodeItem p0 = some r) : cF TT C.wide (evW TT C.wide n37 b37) n37 Try.f37.results.toList (aQ Try.f37) [.v (.sl 1 (ab bA p0))] [] = some (.tup [.agg [.v (.i .i64 r.1.fTerm), .v (.i .i64 r.1.fTime), .v (.b r.1.fNop), .v (.i .i64 r.1.fCall.fClient), .v (.i .i64 r.1.fCall.fSeq), .v (.i .i64 r.1.fCall.fCommand.fKind), .v (.s r.1.fCall.fCommand.fKey), .v (.s r.1.fCall.fCommand.fField), .v (.s r.1.fCall.fCommand.fText), .v (.i .i64 r.1.fCall.fCommand.fN)], .v (.i .i64 r.2)], []) := by
  unfold wire_DecodeItem at hF
  refine aG (decide (20000 < (p0.length : Int))) ?_ ?_
  focus
    intro h1
    replace hF := aq h1 hF
    have hR := Option.some.inj hF
    clear hF
    subst hR
  rotate_left 1
  intro h1
  replace hF := ar h1 hF
  revert hF
  cases h2 : wire_reader_item (Greader.mk p0 false)
  focus
    intro hF
    cases hF
  rename_i qh2
  obtain ⟨x1, x2, x3⟩ := qh2
  intro hF
  try dsimp only at hF
  have g1 : C.wide 85 [.ptr 1 0] [[.v (.i .i64 0), .v (.i .i64 0), .v (.b false), .v (.i .i64 0), .v (.i .i64 0), .v (.i .i64 0), .v (.s ByteArray.empty), .v (.s ByteArray.empty), .v (.s ByteArray.empty), .v (.i .i64 0)], [.v (.sl 1 (ab bA p0)), .v (.b false)]] = some (.tup [.agg [.v (.i .i64 x1.fTerm), .v (.i .i64 x1.fTime), .v (.b x1.fNop), .v (.i .i64 x1.fCall.fClient), .v (.i .i64 x1.fCall.fSeq), .v (.i .i64 x1.fCall.fCommand.fKind), .v (.s x1.fCall.fCommand.fKey), .v (.s x1.fCall.fCommand.fField), .v (.s x1.fCall.fCommand.fText), .v (.i .i64 x1.fCall.fCommand.fN)], .v (.b x2)], [[.v (.i .i64 0), .v (.i .i64 0), .v (.b false), .v (.i .i64 0), .v (.i .i64 0), .v (.i .i64 0), .v (.s ByteArray.empty), .v (.s ByteArray.empty), .v (.s ByteArray.empty), .v (.i .i64 0)], [.v (.sl 1 (ab bA x3.frest)), .v (.b x3.fshort)]]) := cB [1] rfl rfl rfl rfl (k_wire_reader_item (Greader.mk p0 false) _ h2) rfl rfl
  revert hF
  cases h3 : wire_reader_end x2 x3
  focus
    intro hF
    cases hF
  rename_i qh3
  obtain ⟨x4, x5⟩ := qh3
  intro hF
  try dsimp only at hF
  have g2 : C.wide 86 [.ptr 1 0, .v (.b x2)] [[.v (.i .i64 0), .v (.i .i64 0), .v (.b false), .v (.i .i64 0), .v (.i .i64 0), .v (.i .i64 0), .v (.s ByteArray.empty), .v (.s ByteArray.empty), .v (.s ByteArray.empty), .v (.i .i64 0)], [.v (.sl 1 (ab bA x3.frest)), .v (.b x3.fshort)], [.v (.i .i64 x1.fTerm), .v (.i .i64 x1.fTime), .v (.b x1.fNop), .v (.i .i64 x1.fCall.fClient), .v (.i .i64 x1.fCall.fSeq), .v (.i .i64 x1.fCall.fCommand.fKind), .v (.s x1.fCall.fCommand.fKey), .v (.s x1.fCall.fCommand.fField), .v (.s x1.fCall.fCommand.fText), .v (.i .i64 x1.fCall.fCommand.fN)]] = some (.v (.i .i64 x4), [[.v (.i .i64 0), .v (.i .i64 0), .v (.b false), .v (.i .i64 0), .v (.i .i64 0), .v (.i .i64 0), .v (.s ByteArray.empty), .v (.s ByteArray.empty), .v (.s ByteArray.empty), .v (.i .i64 0)], [.v (.sl 1 (ab bA x5.frest)), .v (.b x5.fshort)], [.v (.i .i64 x1.fTerm), .v (.i .i64 x1.fTime), .v (.b x1.fNop), .v (.i .i64 x1.fCall.fClient), .v (.i .i64 x1.fCall.fSeq), .v (.i .i64 x1.fCall.fCommand.fKind), .v (.s x1.fCall.fCommand.fKey), .v (.s x1.fCall.fCommand.fField), .v (.s x1.fCall.fCommand.fText), .v (.i .i64 x1.fCall.fCommand.fN)]]) := cB [1] rfl rfl rfl rfl (k_wire_reader_end x2 x3 _ h3) rfl rfl
  refine aT (x4 == 0) ?_ ?_
  focus
    intro h4
    replace hF := ar h4 hF
    have hR := Option.some.inj hF
    clear hF
    subst hR
  rotate_left 1
  intro h4
  replace hF := aq h4 hF
  have g3 : C.wide 56 [.agg [.v (.i .i64 x1.fTerm), .v (.i .i64 x1.fTime), .v (.b x1.fNop), .v (.i .i64 x1.fCall.fClient), .v (.i .i64 x1.fCall.fSeq), .v (.i .i64 x1.fCall.fCommand.fKind), .v (.s x1.fCall.fCommand.fKey), .v (.s x1.fCall.fCommand.fField), .v (.s x1.fCall.fCommand.fText), .v (.i .i64 x1.fCall.fCommand.fN)]] [] = some (.v (.i .i64 (wire_CheckItem_v x1)), []) := k_wire_CheckItem x1 _ (wire_CheckItem_t x1)
  refine aG ((wire_CheckItem_v x1) == 0) ?_ ?_
  focus
    intro h5
    replace hF := aq h5 hF
    have hR := Option.some.inj hF
    clear hF
    subst hR
  rotate_left 1
  intro h5
  replace hF := ar h5 hF
  have hR := Option.some.inj hF
  clear hF
  subst hR
  all_goals (rw [ba]; show cp _ _ _ (aH _ _ _ _ (Code.seq _ _) _) = _; simp (maxSteps := 4000000) only [*, res37, n37a11t, n37a11f, n37a25t, n37a25f, n37a31t, n37a31f, n37k0, n37k1, n37k2, n37k3, n37k4, n37k5, n37k6, n37k7, n37k8, n37k9, n37k10, n37k11, n37ro, n37mv, n37gv, ↓RP, RB, ↓ah, ↓ac, ↓af, ↓ad, ↓ae, enter, aW, aC, aZ, be, aM, Mx.bw, opnd, Mx.bF, Nat.reduceBEq, bK, Mx.fit, bI, bY, toVs, cellsOf, toV, aO, aB, ax, Mx.put, ofConst, ofCell, Mx.prune, killB, killBs, aK, putDst, au, ao, aD, loadAt, bM, List.map, Nat.reduceAdd, Nat.reduceMul, cm, cn, aF, eqC, cg, aN, reduceIte, reduceCtorEq, az, bn, bq, co, bN, bD, aL, bx, lowC, lowP, forceAll, bound, bW, bg, bv, aU, br, kill, spendLoc, spendOk, setOwn, dropAl, dropAls, bG, bP, bd, cb, lend, lendA, aS, ay, bU, bL, bare, bQ, frz, bZ, bo, argE, argsE, bB, bT, fill, setCells, bR, takeParts, bp, aR, ownAt, Nat.reduceBNe, Nat.reduceSub, Nat.reduceLT, Nat.reduceLeDiff, lowA, bi, bJ, av, aJ, aX, bX, bO, bE, bS, ce, bV, bk, aI, bh, bj, bf, cd, Op.operands, Int.reduceBEq, Int.reduceLT, Int.reduceLE, Int.reduceNeg, Int.reduceBNe, bl, newB, ch, ck, cj, bne, ↓aj, ↓ai, ↓aa, ↓am, bc, aP, bm, bu, aE, bH, Call.operands, ty3, ty4, ty5, ty9, ty25, ty34, ty36, ty38, ty39, ty118, ty120])
/-! ### (*rostrumref.scan).next -/
def n119 : cC where
  keep := fun i => match i with
    | 0 => [0]
    | 1 => [0]
    | 2 => [0, 19]
    | 3 => [2]
    | 4 => [2]
    | _ => []
  ro := fun _ => false
  mv := fun _ => false
  give := fun _ => false
  free := fun i => match i with | 2 => [(0, 4), (1, 4), (2, 4), (3, 4), (0, 5), (1, 5), (2, 5), (3, 5), (0, 6), (1, 6), (2, 6), (3, 6), (0, 7), (1, 7), (2, 7), (3, 7), (0, 8), (1, 8), (2, 8), (3, 8)] | 4 => [(0, 4), (1, 4), (2, 4), (3, 4), (0, 5), (1, 5), (2, 5), (3, 5), (0, 6), (1, 6), (2, 6), (3, 6), (0, 7), (1, 7), (2, 7), (3, 7), (0, 8), (1, 8), (2, 8), (3, 8)] | _ => []
  alive := fun i x => match i, x with
    | 19, true => some []
    | 19, false => some [0]
    | _, _ => none
theorem n119a19t (e : Env) (S : aA) : aw n119 19 true ⟨e, S⟩ = ⟨prune [] e, S⟩ := rfl
theorem n119a19f (e : Env) (S : aA) : aw n119 19 false ⟨e, S⟩ = ⟨prune [0] e, S⟩ := rfl
theorem n119k0 : n119.keep 0 = [0] := rfl
theorem n119k1 : n119.keep 1 = [0] := rfl
theorem n119k2 : n119.keep 2 = [0, 19] := rfl
theorem n119k3 : n119.keep 3 = [2] := rfl
theorem n119k4 : n119.keep 4 = [2] := rfl
theorem n119ro (t : Nat) : n119.ro t = (false) := rfl
theorem n119mv (t : Nat) : n119.mv t = (false) := rfl
theorem n119gv (t : Nat) : n119.give t = (false) := rfl
theorem n119f2 : n119.free 2 = [(0, 4), (1, 4), (2, 4), (3, 4), (0, 5), (1, 5), (2, 5), (3, 5), (0, 6), (1, 6), (2, 6), (3, 6), (0, 7), (1, 7), (2, 7), (3, 7), (0, 8), (1, 8), (2, 8), (3, 8)] := rfl
theorem n119f4 : n119.free 4 = [(0, 4), (1, 4), (2, 4), (3, 4), (0, 5), (1, 5), (2, 5), (3, 5), (0, 6), (1, 6), (2, 6), (3, 6), (0, 7), (1, 7), (2, 7), (3, 7), (0, 8), (1, 8), (2, 8), (3, 8)] := rfl
theorem res119 : Try.f119.results.toList = [.tmp 2] := rfl
noncomputable def b119 : Code := aQ Try.f119
set_option maxRecDepth 100000 in
set_option maxHeartbeats 40000000 in
theorem r_rostrumref_scan_next (C : ak)  (p0 : Gscan) (r : Int × Gscan) (hF : rostrumref_scan_next p0 = some r) : cF TT C.wide (evW TT C.wide n119 b119) n119 Try.f119.results.toList (aQ Try.f119) [.ptr 0 0] [[.v (.sl 1 (ab bA p0.fb)), .v (.i .i64 p0.fat)]] = some (.v (.i .i64 r.1), [[.v (.sl 1 (ab bA r.2.fb)), .v (.i .i64 r.2.fat)]]) := by
  unfold rostrumref_scan_next at hF
  refine aG (decide ((p0.fb.length : Int) < (IntKind.i64.wrap (p0.fat + 1)))) ?_ ?_
  focus
    intro h1
    replace hF := aq h1 hF
    have hR := Option.some.inj hF
    clear hF
    subst hR
  rotate_left 1
  intro h1
  replace hF := ar h1 hF
  revert hF
  cases h2 : idx p0.fb (IntKind.i64.wrap ((IntKind.i64.wrap (p0.fat + 1)) - 1))
  focus
    intro hF
    cases hF
  rename_i x1
  intro hF
  try dsimp only at hF
  have g1 : decide (0 ≤ (IntKind.i64.wrap ((IntKind.i64.wrap (p0.fat + 1)) - 1))) = true := (cc h2).1
  have g2 : (ab bA p0.fb)[((IntKind.i64.wrap ((IntKind.i64.wrap (p0.fat + 1)) - 1)) : Int).toNat]? = some [.i .u8 x1] := ca _ h2
  have hR := Option.some.inj hF
  clear hF
  subst hR
  all_goals (rw [ba]; show cp _ _ _ (aH _ _ _ _ (Code.seq _ _) _) = _; simp (maxSteps := 4000000) only [*, res119, n119a19t, n119a19f, n119k0, n119k1, n119k2, n119k3, n119k4, n119f2, n119f4, n119ro, n119mv, n119gv, ↓RP, RB, ↓ah, ↓ac, ↓af, ↓ad, ↓ae, enter, aW, aC, aZ, be, aM, Mx.bw, opnd, Mx.bF, Nat.reduceBEq, bK, Mx.fit, bI, bY, toVs, cellsOf, toV, aO, aB, ax, Mx.put, ofConst, ofCell, Mx.prune, killB, killBs, aK, putDst, au, ao, aD, loadAt, bM, List.map, Nat.reduceAdd, Nat.reduceMul, cm, cn, aF, eqC, cg, aN, reduceIte, reduceCtorEq, az, bn, bq, co, bN, bD, aL, bx, lowC, lowP, forceAll, bound, bW, bg, bv, aU, br, kill, spendLoc, spendOk, setOwn, dropAl, dropAls, bG, bP, bd, cb, lend, lendA, aS, ay, bU, bL, bare, bQ, frz, bZ, bo, argE, argsE, bB, bT, fill, setCells, bR, takeParts, bp, aR, ownAt, Nat.reduceBNe, Nat.reduceSub, Nat.reduceLT, Nat.reduceLeDiff, lowA, bi, bJ, av, aJ, aX, bX, bO, bE, bS, ce, bV, bk, aI, bh, bj, bf, cd, Op.operands, Int.reduceBEq, Int.reduceLT, Int.reduceLE, Int.reduceNeg, Int.reduceBNe, bl, newB, ch, ck, cj, bne, ↓aj, ↓ai, ↓aa, ↓am, bc, aP, bm, bu, aE, bH, Call.operands, ty3, ty4, ty5, ty39, ty124, ty126])
/-! ### (*rostrumref.scan).long -/
def n118 : cC where
  keep := fun i => match i with
    | 0 => [0]
    | 1 => [0, 3]
    | 2 => [0, 3, 4]
    | 3 => [0, 3, 4, 6]
    | 4 => [0, 3, 4]
    | 5 => [0, 3, 4]
    | 6 => [2]
    | _ => []
  ro := fun _ => false
  mv := fun _ => false
  give := fun _ => false
  free := fun _ => []
  alive := fun i x => match i, x with
    | 6, true => some [0, 3, 4]
    | 6, false => some [3]
    | _, _ => none
theorem n118a6t (e : Env) (S : aA) : aw n118 6 true ⟨e, S⟩ = ⟨prune [0, 3, 4] e, S⟩ := rfl
theorem n118a6f (e : Env) (S : aA) : aw n118 6 false ⟨e, S⟩ = ⟨prune [3] e, S⟩ := rfl
theorem n118k0 : n118.keep 0 = [0] := rfl
theorem n118k1 : n118.keep 1 = [0, 3] := rfl
theorem n118k2 : n118.keep 2 = [0, 3, 4] := rfl
theorem n118k3 : n118.keep 3 = [0, 3, 4, 6] := rfl
theorem n118k4 : n118.keep 4 = [0, 3, 4] := rfl
theorem n118k5 : n118.keep 5 = [0, 3, 4] := rfl
theorem n118k6 : n118.keep 6 = [2] := rfl
theorem n118ro (t : Nat) : n118.ro t = (false) := rfl
theorem n118mv (t : Nat) : n118.mv t = (false) := rfl
theorem n118gv (t : Nat) : n118.give t = (false) := rfl
theorem res118 : Try.f118.results.toList = [.tmp 2] := rfl
noncomputable def b118 : Code := aQ Try.f118
noncomputable def c118_0 : Code := (bz 0 (aQ Try.f118)).getD .skip
theorem fl118_0 : bz 0 b118 = some c118_0 := rfl
def hd_rostrumref_scan_long_0  (s : Int × Int × Gscan) : St := ⟨[(0, .ptr 0 0), (3, .v (.i .i64 s.1)), (4, .v (.i .i64 s.2.1))], [[.v (.sl 1 (ab bA s.2.2.fb)), .v (.i .i64 s.2.2.fat)]]⟩
def ou_rostrumref_scan_long_0  (r : Int × Gscan) : Option (Ex × St) := some (.normal, ⟨[(3, .v (.i .i64 r.1))], [[.v (.sl 1 (ab bA r.2.fb)), .v (.i .i64 r.2.fat)]]⟩)
set_option maxRecDepth 100000 in
set_option maxHeartbeats 40000000 in
theorem sl_rostrumref_scan_long_0 (C : ak) (k_rostrumref_scan_next : K_rostrumref_scan_next C)  (s : Int × Int × Gscan) (o : (Int × Int × Gscan) ⊕ (Int × Gscan)) (hF : st_rostrumref_scan_long_0  s = some o) : evW TT C.wide n118 b118 0 (hd_rostrumref_scan_long_0  s) = Sum.elim (fun s => evW TT C.wide n118 b118 0 (hd_rostrumref_scan_long_0  s)) (fun r => ou_rostrumref_scan_long_0  r) o := by
  obtain ⟨p0, p1, p2⟩ := s
  unfold st_rostrumref_scan_long_0 at hF
  try dsimp only at hF
  rw [ct TT n118 fl118_0]
  refine aT (decide (p1 < 8)) ?_ ?_
  focus
    intro h1
    replace hF := ar h1 hF
    have hR := Option.some.inj hF
    clear hF
    subst hR
  rotate_left 1
  intro h1
  replace hF := aq h1 hF
  revert hF
  cases h2 : rostrumref_scan_next p2
  focus
    intro hF
    cases hF
  rename_i qh2
  obtain ⟨x1, x2⟩ := qh2
  intro hF
  try dsimp only at hF
  have g1 : C.wide 119 [.ptr 0 0] [[.v (.sl 1 (ab bA p2.fb)), .v (.i .i64 p2.fat)]] = some (.v (.i .i64 x1), [[.v (.sl 1 (ab bA x2.fb)), .v (.i .i64 x2.fat)]]) := cB [0] rfl rfl rfl rfl (k_rostrumref_scan_next p2 _ h2) rfl rfl
  have hR := Option.some.inj hF
  clear hF
  subst hR
  all_goals (show cD _ _ _ (aH _ _ _ _ (Code.seq _ _) _) = _; simp (maxSteps := 4000000) only [*, hd_rostrumref_scan_long_0, ou_rostrumref_scan_long_0, res118, n118a6t, n118a6f, n118k0, n118k1, n118k2, n118k3, n118k4, n118k5, n118k6, n118ro, n118mv, n118gv, ↓RP, RB, ↓ah, ↓ac, ↓af, ↓ad, ↓ae, enter, aW, aC, aZ, be, aM, Mx.bw, opnd, Mx.bF, Nat.reduceBEq, bK, Mx.fit, bI, bY, toVs, cellsOf, toV, aO, aB, ax, Mx.put, ofConst, ofCell, Mx.prune, killB, killBs, aK, putDst, au, ao, aD, loadAt, bM, List.map, Nat.reduceAdd, Nat.reduceMul, cm, cn, aF, eqC, cg, aN, reduceIte, reduceCtorEq, az, bn, bq, co, bN, bD, aL, bx, lowC, lowP, forceAll, bound, bW, bg, bv, aU, br, kill, spendLoc, spendOk, setOwn, dropAl, dropAls, bG, bP, bd, cb, lend, lendA, aS, ay, bU, bL, bare, bQ, frz, bZ, bo, argE, argsE, bB, bT, fill, setCells, bR, takeParts, bp, aR, ownAt, Nat.reduceBNe, Nat.reduceSub, Nat.reduceLT, Nat.reduceLeDiff, lowA, bi, bJ, av, aJ, aX, bX, bO, bE, bS, ce, bV, bk, aI, bh, bj, bf, cd, Op.operands, Int.reduceBEq, Int.reduceLT, Int.reduceLE, Int.reduceNeg, Int.reduceBNe, bl, newB, ch, ck, cj, bne, ↓aj, ↓ai, ↓aa, ↓am, bc, aP, bm, bu, aE, bH, Call.operands, ty3, ty4, ty124])
set_option maxRecDepth 100000 in
set_option maxHeartbeats 40000000 in
theorem r_rostrumref_scan_long (C : ak) (k_rostrumref_scan_next : K_rostrumref_scan_next C) (p0 : Gscan) (r : Int × Gscan) (hF : rostrumref_scan_long p0 = some r) : cF TT C.wide (evW TT C.wide n118 b118) n118 Try.f118.results.toList (aQ Try.f118) [.ptr 0 0] [[.v (.sl 1 (ab bA p0.fb)), .v (.i .i64 p0.fat)]] = some (.v (.i .i64 r.1), [[.v (.sl 1 (ab bA r.2.fb)), .v (.i .i64 r.2.fat)]]) := by
  unfold rostrumref_scan_long at hF
  revert hF
  cases h1 : ci (st_rostrumref_scan_long_0) (0, 0, p0)
  focus
    intro hF
    cases hF
  rename_i qh1
  obtain ⟨x1, x2⟩ := qh1
  intro hF
  try dsimp only at hF
  have g1 : evW TT C.wide n118 b118 0 ⟨[(0, .ptr 0 0), (3, .v (.i .i64 0)), (4, .v (.i .i64 0))], [[.v (.sl 1 (ab bA p0.fb)), .v (.i .i64 p0.fat)]]⟩ = some (.normal, ⟨[(3, .v (.i .i64 x1))], [[.v (.sl 1 (ab bA x2.fb)), .v (.i .i64 x2.fat)]]⟩) := cy (hd_rostrumref_scan_long_0) (ou_rostrumref_scan_long_0) (fun s o hs => sl_rostrumref_scan_long_0 C k_rostrumref_scan_next s o hs) h1
  have hR := Option.some.inj hF
  clear hF
  subst hR
  all_goals (rw [ba]; show cp _ _ _ (aH _ _ _ _ (Code.seq _ _) _) = _; simp (maxSteps := 4000000) only [*, res118, n118a6t, n118a6f, n118k0, n118k1, n118k2, n118k3, n118k4, n118k5, n118k6, n118ro, n118mv, n118gv, ↓RP, RB, ↓ah, ↓ac, ↓af, ↓ad, ↓ae, enter, aW, aC, aZ, be, aM, Mx.bw, opnd, Mx.bF, Nat.reduceBEq, bK, Mx.fit, bI, bY, toVs, cellsOf, toV, aO, aB, ax, Mx.put, ofConst, ofCell, Mx.prune, killB, killBs, aK, putDst, au, ao, aD, loadAt, bM, List.map, Nat.reduceAdd, Nat.reduceMul, cm, cn, aF, eqC, cg, aN, reduceIte, reduceCtorEq, az, bn, bq, co, bN, bD, aL, bx, lowC, lowP, forceAll, bound, bW, bg, bv, aU, br, kill, spendLoc, spendOk, setOwn, dropAl, dropAls, bG, bP, bd, cb, lend, lendA, aS, ay, bU, bL, bare, bQ, frz, bZ, bo, argE, argsE, bB, bT, fill, setCells, bR, takeParts, bp, aR, ownAt, Nat.reduceBNe, Nat.reduceSub, Nat.reduceLT, Nat.reduceLeDiff, lowA, bi, bJ, av, aJ, aX, bX, bO, bE, bS, ce, bV, bk, aI, bh, bj, bf, cd, Op.operands, Int.reduceBEq, Int.reduceLT, Int.reduceLE, Int.reduceNeg, Int.reduceBNe, bl, newB, ch, ck, cj, bne, ↓aj, ↓ai, ↓aa, ↓am, bc, aP, bm, bu, aE, bH, Call.operands, ty3, ty4, ty124])
/-! ### (*rostrumref.scan).over -/
def n121 : cC where
  keep := fun i => match i with
    | 0 => [0]
    | 1 => [2]
    | _ => []
  ro := fun _ => false
  mv := fun _ => false
  give := fun _ => false
  free := fun i => match i with | 1 => [(0, 4), (1, 4), (2, 4), (3, 4), (0, 5), (1, 5), (2, 5), (3, 5), (0, 6), (1, 6), (2, 6), (3, 6), (0, 7), (1, 7), (2, 7), (3, 7), (0, 8), (1, 8), (2, 8), (3, 8)] | _ => []
theorem n121k0 : n121.keep 0 = [0] := rfl
theorem n121k1 : n121.keep 1 = [2] := rfl
theorem n121ro (t : Nat) : n121.ro t = (false) := rfl
theorem n121mv (t : Nat) : n121.mv t = (false) := rfl
theorem n121gv (t : Nat) : n121.give t = (false) := rfl
theorem n121f1 : n121.free 1 = [(0, 4), (1, 4), (2, 4), (3, 4), (0, 5), (1, 5), (2, 5), (3, 5), (0, 6), (1, 6), (2, 6), (3, 6), (0, 7), (1, 7), (2, 7), (3, 7), (0, 8), (1, 8), (2, 8), (3, 8)] := rfl
theorem res121 : Try.f121.results.toList = [.tmp 2] := rfl
noncomputable def b121 : Code := aQ Try.f121
set_option maxRecDepth 100000 in
set_option maxHeartbeats 40000000 in
theorem r_rostrumref_scan_over (C : ak)  (p0 : Gscan) (r : Bool × Gscan) (hF : rostrumref_scan_over p0 = some r) : cF TT C.wide (evW TT C.wide n121 b121) n121 Try.f121.results.toList (aQ Try.f121) [.ptr 0 0] [[.v (.sl 1 (ab bA p0.fb)), .v (.i .i64 p0.fat)]] = some (.v (.b r.1), [[.v (.sl 1 (ab bA r.2.fb)), .v (.i .i64 r.2.fat)]]) := by
  unfold rostrumref_scan_over at hF
  have hR := Option.some.inj hF
  clear hF
  subst hR
  all_goals (rw [ba]; show cp _ _ _ (aH _ _ _ _ (Code.seq _ _) _) = _; simp (maxSteps := 4000000) only [*, res121, n121k0, n121k1, n121f1, n121ro, n121mv, n121gv, ↓RP, RB, ↓ah, ↓ac, ↓af, ↓ad, ↓ae, enter, aW, aC, aZ, be, aM, Mx.bw, opnd, Mx.bF, Nat.reduceBEq, bK, Mx.fit, bI, bY, toVs, cellsOf, toV, aO, aB, ax, Mx.put, ofConst, ofCell, Mx.prune, killB, killBs, aK, putDst, au, ao, aD, loadAt, bM, List.map, Nat.reduceAdd, Nat.reduceMul, cm, cn, aF, eqC, cg, aN, reduceIte, reduceCtorEq, az, bn, bq, co, bN, bD, aL, bx, lowC, lowP, forceAll, bound, bW, bg, bv, aU, br, kill, spendLoc, spendOk, setOwn, dropAl, dropAls, bG, bP, bd, cb, lend, lendA, aS, ay, bU, bL, bare, bQ, frz, bZ, bo, argE, argsE, bB, bT, fill, setCells, bR, takeParts, bp, aR, ownAt, Nat.reduceBNe, Nat.reduceSub, Nat.reduceLT, Nat.reduceLeDiff, lowA, bi, bJ, av, aJ, aX, bX, bO, bE, bS, ce, bV, bk, aI, bh, bj, bf, cd, Op.operands, Int.reduceBEq, Int.reduceLT, Int.reduceLE, Int.reduceNeg, Int.reduceBNe, bl, newB, ch, ck, cj, bne, ↓aj, ↓ai, ↓aa, ↓am, bc, aP, bm, bu, aE, bH, Call.operands, ty3, ty4, ty5, ty39, ty124, ty126])
/-! ### (*rostrumref.scan).str -/
def n120 : cC where
  keep := fun i => match i with
    | 0 => [0]
    | 1 => [0, 3]
    | 2 => [0, 3, 4, 25]
    | 3 => [0, 3, 4, 5, 25]
    | 4 => [0, 3, 4, 5, 16, 25]
    | 5 => [0, 3, 4, 5, 25]
    | 6 => [0, 3, 4, 5, 6, 25]
    | 7 => [0, 3, 4, 5, 25]
    | 8 => [2]
    | _ => []
  ro := fun _ => false
  mv := fun _ => false
  give := fun _ => false
  free := fun _ => []
  alive := fun i x => match i, x with
    | 16, true => some [0, 3, 4, 5, 25]
    | 16, false => some [4, 25]
    | _, _ => none
theorem n120a16t (e : Env) (S : aA) : aw n120 16 true ⟨e, S⟩ = ⟨prune [0, 3, 4, 5, 25] e, S⟩ := rfl
theorem n120a16f (e : Env) (S : aA) : aw n120 16 false ⟨e, S⟩ = ⟨prune [4, 25] e, S⟩ := rfl
theorem n120k0 : n120.keep 0 = [0] := rfl
theorem n120k1 : n120.keep 1 = [0, 3] := rfl
theorem n120k2 : n120.keep 2 = [0, 3, 4, 25] := rfl
theorem n120k3 : n120.keep 3 = [0, 3, 4, 5, 25] := rfl
theorem n120k4 : n120.keep 4 = [0, 3, 4, 5, 16, 25] := rfl
theorem n120k5 : n120.keep 5 = [0, 3, 4, 5, 25] := rfl
theorem n120k6 : n120.keep 6 = [0, 3, 4, 5, 6, 25] := rfl
theorem n120k7 : n120.keep 7 = [0, 3, 4, 5, 25] := rfl
theorem n120k8 : n120.keep 8 = [2] := rfl
theorem n120ro (t : Nat) : n120.ro t = (false) := rfl
theorem n120mv (t : Nat) : n120.mv t = (false) := rfl
theorem n120gv (t : Nat) : n120.give t = (false) := rfl
theorem res120 : Try.f120.results.toList = [.tmp 2] := rfl
noncomputable def b120 : Code := aQ Try.f120
noncomputable def c120_0 : Code := (bz 0 (aQ Try.f120)).getD .skip
theorem fl120_0 : bz 0 b120 = some c120_0 := rfl
def hd_rostrumref_scan_str_0 (p0 : Int) (s : (List Int) × Int × Gscan) : St := ⟨[(0, .ptr 0 0), (3, .v (.i .i64 p0)), (4, .own 1 (ab bA s.1)), (5, .v (.i .i64 s.2.1)), (25, .bad)], [[.v (.sl 1 (ab bA s.2.2.fb)), .v (.i .i64 s.2.2.fat)]]⟩
def ou_rostrumref_scan_str_0 (p0 : Int) (r : (List Int) × Gscan) : Option (Ex × St) := some (.normal, ⟨[(4, .own 1 (ab bA r.1)), (25, .bad)], [[.v (.sl 1 (ab bA r.2.fb)), .v (.i .i64 r.2.fat)]]⟩)
set_option maxRecDepth 100000 in
set_option maxHeartbeats 40000000 in
theorem sl_rostrumref_scan_str_0 (C : ak) (k_rostrumref_scan_over : K_rostrumref_scan_over C) (k_rostrumref_scan_next : K_rostrumref_scan_next C) (p0 : Int) (s : (List Int) × Int × Gscan) (o : ((List Int) × Int × Gscan) ⊕ ((List Int) × Gscan)) (hF : st_rostrumref_scan_str_0 p0 s = some o) : evW TT C.wide n120 b120 0 (hd_rostrumref_scan_str_0 p0 s) = Sum.elim (fun s => evW TT C.wide n120 b120 0 (hd_rostrumref_scan_str_0 p0 s)) (fun r => ou_rostrumref_scan_str_0 p0 r) o := by
  obtain ⟨p1, p2, p3⟩ := s
  unfold st_rostrumref_scan_str_0 at hF
  try dsimp only at hF
  rw [ct TT n120 fl120_0]
  refine aT (decide (p2 < p0)) ?_ ?_
  focus
    intro h1
    replace hF := ar h1 hF
    have hR := Option.some.inj hF
    clear hF
    subst hR
  rotate_left 1
  intro h1
  replace hF := aq h1 hF
  revert hF
  cases h2 : rostrumref_scan_over p3
  focus
    intro hF
    cases hF
  rename_i qh2
  obtain ⟨x1, x2⟩ := qh2
  intro hF
  try dsimp only at hF
  have g1 : C.wide 121 [.ptr 0 0] [[.v (.sl 1 (ab bA p3.fb)), .v (.i .i64 p3.fat)]] = some (.v (.b x1), [[.v (.sl 1 (ab bA x2.fb)), .v (.i .i64 x2.fat)]]) := cB [0] rfl rfl rfl rfl (k_rostrumref_scan_over p3 _ h2) rfl rfl
  refine aG x1 ?_ ?_
  focus
    intro h3
    replace hF := aq h3 hF
    have hR := Option.some.inj hF
    clear hF
    subst hR
  rotate_left 1
  intro h3
  replace hF := ar h3 hF
  revert hF
  cases h4 : rostrumref_scan_next x2
  focus
    intro hF
    cases hF
  rename_i qh4
  obtain ⟨x3, x4⟩ := qh4
  intro hF
  try dsimp only at hF
  have g2 : C.wide 119 [.ptr 0 0] [[.v (.sl 1 (ab bA x2.fb)), .v (.i .i64 x2.fat)]] = some (.v (.i .i64 x3), [[.v (.sl 1 (ab bA x4.fb)), .v (.i .i64 x4.fat)]]) := cB [0] rfl rfl rfl rfl (k_rostrumref_scan_next x2 _ h4) rfl rfl
  refine aG (cH (p1.length + 1) 1) ?_ ?_
  focus
    intro h5
    replace hF := aq h5 hF
    have hR := Option.some.inj hF
    clear hF
    subst hR
  rotate_left 1
  intro h5
  replace hF := ar h5 hF
  cases hF
  all_goals (show cD _ _ _ (aH _ _ _ _ (Code.seq _ _) _) = _; simp (maxSteps := 4000000) only [*, hd_rostrumref_scan_str_0, ou_rostrumref_scan_str_0, res120, n120a16t, n120a16f, n120k0, n120k1, n120k2, n120k3, n120k4, n120k5, n120k6, n120k7, n120k8, n120ro, n120mv, n120gv, ↓RP, RB, ↓ah, ↓ac, ↓af, ↓ad, ↓ae, enter, aW, aC, aZ, be, aM, Mx.bw, opnd, Mx.bF, Nat.reduceBEq, bK, Mx.fit, bI, bY, toVs, cellsOf, toV, aO, aB, ax, Mx.put, ofConst, ofCell, Mx.prune, killB, killBs, aK, putDst, au, ao, aD, loadAt, bM, List.map, Nat.reduceAdd, Nat.reduceMul, cm, cn, aF, eqC, cg, aN, reduceIte, reduceCtorEq, az, bn, bq, co, bN, bD, aL, bx, lowC, lowP, forceAll, bound, bW, bg, bv, aU, br, kill, spendLoc, spendOk, setOwn, dropAl, dropAls, bG, bP, bd, cb, lend, lendA, aS, ay, bU, bL, bare, bQ, frz, bZ, bo, argE, argsE, bB, bT, fill, setCells, bR, takeParts, bp, aR, ownAt, Nat.reduceBNe, Nat.reduceSub, Nat.reduceLT, Nat.reduceLeDiff, lowA, bi, bJ, av, aJ, aX, bX, bO, bE, bS, ce, bV, bk, aI, bh, bj, bf, cd, Op.operands, Int.reduceBEq, Int.reduceLT, Int.reduceLE, Int.reduceNeg, Int.reduceBNe, bl, newB, ch, ck, cj, bne, ↓aj, ↓ai, ↓aa, ↓am, bc, aP, bm, bu, aE, bH, Call.operands, ty3, ty4, ty5, ty9, ty39, ty124])
set_option maxRecDepth 100000 in
set_option maxHeartbeats 40000000 in
theorem r_rostrumref_scan_str (C : ak) (k_rostrumref_scan_next : K_rostrumref_scan_next C) (k_rostrumref_scan_over : K_rostrumref_scan_over C) (p0 : Gscan) (r : ByteArray × Gscan) (hF : rostrumref_scan_str p0 = some r) : cF TT C.wide (evW TT C.wide n120 b120) n120 Try.f120.results.toList (aQ Try.f120) [.ptr 0 0] [[.v (.sl 1 (ab bA p0.fb)), .v (.i .i64 p0.fat)]] = some (.v (.s r.1), [[.v (.sl 1 (ab bA r.2.fb)), .v (.i .i64 r.2.fat)]]) := by
  unfold rostrumref_scan_str at hF
  revert hF
  cases h1 : rostrumref_scan_next p0
  focus
    intro hF
    cases hF
  rename_i qh1
  obtain ⟨x1, x2⟩ := qh1
  intro hF
  try dsimp only at hF
  have g1 : C.wide 119 [.ptr 0 0] [[.v (.sl 1 (ab bA p0.fb)), .v (.i .i64 p0.fat)]] = some (.v (.i .i64 x1), [[.v (.sl 1 (ab bA x2.fb)), .v (.i .i64 x2.fat)]]) := cB [0] rfl rfl rfl rfl (k_rostrumref_scan_next p0 _ h1) rfl rfl
  revert hF
  cases h2 : ci (st_rostrumref_scan_str_0 x1) ([], 0, x2)
  focus
    intro hF
    cases hF
  rename_i qh2
  obtain ⟨x3, x4⟩ := qh2
  intro hF
  try dsimp only at hF
  have g2 : evW TT C.wide n120 b120 0 ⟨[(0, .ptr 0 0), (3, .v (.i .i64 x1)), (4, .own 1 []), (5, .v (.i .i64 0)), (25, .bad)], [[.v (.sl 1 (ab bA x2.fb)), .v (.i .i64 x2.fat)]]⟩ = some (.normal, ⟨[(4, .own 1 (ab bA x3)), (25, .bad)], [[.v (.sl 1 (ab bA x4.fb)), .v (.i .i64 x4.fat)]]⟩) := cy (hd_rostrumref_scan_str_0 x1) (ou_rostrumref_scan_str_0 x1) (fun s o hs => sl_rostrumref_scan_str_0 C k_rostrumref_scan_over k_rostrumref_scan_next x1 s o hs) h2
  refine aG (allB x3) ?_ ?_
  focus
    intro h3
    replace hF := aq h3 hF
    have hR := Option.some.inj hF
    clear hF
    subst hR
  rotate_left 1
  intro h3
  replace hF := ar h3 hF
  cases hF
  all_goals (rw [ba]; show cp _ _ _ (aH _ _ _ _ (Code.seq _ _) _) = _; simp (maxSteps := 4000000) only [*, res120, n120a16t, n120a16f, n120k0, n120k1, n120k2, n120k3, n120k4, n120k5, n120k6, n120k7, n120k8, n120ro, n120mv, n120gv, ↓RP, RB, ↓ah, ↓ac, ↓af, ↓ad, ↓ae, enter, aW, aC, aZ, be, aM, Mx.bw, opnd, Mx.bF, Nat.reduceBEq, bK, Mx.fit, bI, bY, toVs, cellsOf, toV, aO, aB, ax, Mx.put, ofConst, ofCell, Mx.prune, killB, killBs, aK, putDst, au, ao, aD, loadAt, bM, List.map, Nat.reduceAdd, Nat.reduceMul, cm, cn, aF, eqC, cg, aN, reduceIte, reduceCtorEq, az, bn, bq, co, bN, bD, aL, bx, lowC, lowP, forceAll, bound, bW, bg, bv, aU, br, kill, spendLoc, spendOk, setOwn, dropAl, dropAls, bG, bP, bd, cb, lend, lendA, aS, ay, bU, bL, bare, bQ, frz, bZ, bo, argE, argsE, bB, bT, fill, setCells, bR, takeParts, bp, aR, ownAt, Nat.reduceBNe, Nat.reduceSub, Nat.reduceLT, Nat.reduceLeDiff, lowA, bi, bJ, av, aJ, aX, bX, bO, bE, bS, ce, bV, bk, aI, bh, bj, bf, cd, Op.operands, Int.reduceBEq, Int.reduceLT, Int.reduceLE, Int.reduceNeg, Int.reduceBNe, bl, newB, ch, ck, cj, bne, ↓aj, ↓ai, ↓aa, ↓am, bc, aP, bm, bu, aE, bH, Call.operands, ty3, ty4, ty5, ty9, ty39, ty124])
/-! ### (*rostrumref.scan).itemNext -/
def n87 : cC where
  keep := fun i => match i with
    | 0 => [0, 2]
    | 1 => [0, 2, 4]
    | 2 => [0, 2, 4]
    | 3 => [0, 2, 4]
    | 4 => [0, 2, 4, 5]
    | 5 => [0, 2, 4, 5, 16]
    | 6 => [0, 2, 4, 5]
    | 7 => [0, 2, 4, 5, 19]
    | 8 => [2, 3]
    | 9 => [0, 2, 4]
    | 10 => [0, 2, 4, 30]
    | 11 => [2, 3]
    | 12 => [0, 2, 4]
    | 13 => [0, 2, 4]
    | 14 => [0, 2, 4]
    | 15 => [0, 2, 4]
    | 16 => [0, 2, 4]
    | 17 => [2, 4]
    | 18 => [2, 3]
    | _ => []
  ro := fun _ => false
  mv := fun _ => false
  give := fun _ => false
  free := fun _ => []
  alive := fun i x => match i, x with
    | 16, true => some [0, 2, 4, 5]
    | 16, false => some [0, 2, 4, 5]
    | 19, true => some [2, 4, 5]
    | 19, false => some [0, 2, 4]
    | 30, true => some [2, 4]
    | 30, false => some [0, 2, 4]
    | _, _ => none
theorem n87a16t (e : Env) (S : aA) : aw n87 16 true ⟨e, S⟩ = ⟨prune [0, 2, 4, 5] e, S⟩ := rfl
theorem n87a16f (e : Env) (S : aA) : aw n87 16 false ⟨e, S⟩ = ⟨prune [0, 2, 4, 5] e, S⟩ := rfl
theorem n87a19t (e : Env) (S : aA) : aw n87 19 true ⟨e, S⟩ = ⟨prune [2, 4, 5] e, S⟩ := rfl
theorem n87a19f (e : Env) (S : aA) : aw n87 19 false ⟨e, S⟩ = ⟨prune [0, 2, 4] e, S⟩ := rfl
theorem n87a30t (e : Env) (S : aA) : aw n87 30 true ⟨e, S⟩ = ⟨prune [2, 4] e, S⟩ := rfl
theorem n87a30f (e : Env) (S : aA) : aw n87 30 false ⟨e, S⟩ = ⟨prune [0, 2, 4] e, S⟩ := rfl
theorem n87k0 : n87.keep 0 = [0, 2] := rfl
theorem n87k1 : n87.keep 1 = [0, 2, 4] := rfl
theorem n87k2 : n87.keep 2 = [0, 2, 4] := rfl
theorem n87k3 : n87.keep 3 = [0, 2, 4] := rfl
theorem n87k4 : n87.keep 4 = [0, 2, 4, 5] := rfl
theorem n87k5 : n87.keep 5 = [0, 2, 4, 5, 16] := rfl
theorem n87k6 : n87.keep 6 = [0, 2, 4, 5] := rfl
theorem n87k7 : n87.keep 7 = [0, 2, 4, 5, 19] := rfl
theorem n87k8 : n87.keep 8 = [2, 3] := rfl
theorem n87k9 : n87.keep 9 = [0, 2, 4] := rfl
theorem n87k10 : n87.keep 10 = [0, 2, 4, 30] := rfl
theorem n87k11 : n87.keep 11 = [2, 3] := rfl
theorem n87k12 : n87.keep 12 = [0, 2, 4] := rfl
theorem n87k13 : n87.keep 13 = [0, 2, 4] := rfl
theorem n87k14 : n87.keep 14 = [0, 2, 4] := rfl
theorem n87k15 : n87.keep 15 = [0, 2, 4] := rfl
theorem n87k16 : n87.keep 16 = [0, 2, 4] := rfl
theorem n87k17 : n87.keep 17 = [2, 4] := rfl
theorem n87k18 : n87.keep 18 = [2, 3] := rfl
theorem n87ro (t : Nat) : n87.ro t = (false) := rfl
theorem n87mv (t : Nat) : n87.mv t = (false) := rfl
theorem n87gv (t : Nat) : n87.give t = (false) := rfl
theorem res87 : Try.f87.results.toList = [.cell 2 38, .tmp 3] := rfl
noncomputable def b87 : Code := aQ Try.f87
set_option maxRecDepth 100000 in
set_option maxHeartbeats 40000000 in
theorem rg_rostrumref_scan_itemNext_q16 (C : ak)  (p0 : Int) (p1 : Bool) (p2 : Gscan) (p3 : Int) (p4 : Int) (c : Code) (ho : cr 1 16 b87 = some c) (r : GItem) (hF : ck_rostrumref_scan_itemNext_q16 p0 p1 p2 p3 p4 = some r) : aH TT C.wide (evW TT C.wide n87 b87) n87 c ⟨[(0, .ptr 0 0), (2, .ptr 1 0), (4, .ptr 2 0), (5, .v (.i .i64 p0)), (16, .v (.b p1))], [[.v (.sl 1 (ab bA p2.fb)), .v (.i .i64 p2.fat)], [.v (.i .i64 0), .v (.i .i64 0), .v (.b false), .v (.i .i64 0), .v (.i .i64 0), .v (.i .i64 0), .v (.s ByteArray.empty), .v (.s ByteArray.empty), .v (.s ByteArray.empty), .v (.i .i64 0)], [.v (.i .i64 p3), .v (.i .i64 p4), .v (.b false), .v (.i .i64 0), .v (.i .i64 0), .v (.i .i64 0), .v (.s ByteArray.empty), .v (.s ByteArray.empty), .v (.s ByteArray.empty), .v (.i .i64 0)]]⟩ = some (.normal, ⟨[(0, .ptr 0 0), (2, .ptr 1 0), (4, .ptr 2 0), (5, .v (.i .i64 p0))], [[.v (.sl 1 (ab bA p2.fb)), .v (.i .i64 p2.fat)], [.v (.i .i64 0), .v (.i .i64 0), .v (.b false), .v (.i .i64 0), .v (.i .i64 0), .v (.i .i64 0), .v (.s ByteArray.empty), .v (.s ByteArray.empty), .v (.s ByteArray.empty), .v (.i .i64 0)], [.v (.i .i64 r.fTerm), .v (.i .i64 r.fTime), .v (.b r.fNop), .v (.i .i64 r.fCall.fClient), .v (.i .i64 r.fCall.fSeq), .v (.i .i64 r.fCall.fCommand.fKind), .v (.s r.fCall.fCommand.fKey), .v (.s r.fCall.fCommand.fField), .v (.s r.fCall.fCommand.fText), .v (.i .i64 r.fCall.fCommand.fN)]]⟩) := by
  have e := Option.some.inj (ho.symm.trans (rfl : cr 1 16 b87 = some _))
  subst e
  clear ho
  unfold ck_rostrumref_scan_itemNext_q16 at hF
  refine aG p1 ?_ ?_
  focus
    intro h1
    replace hF := aq h1 hF
    have hR := Option.some.inj hF
    clear hF
    subst hR
  rotate_left 1
  intro h1
  replace hF := ar h1 hF
  have hR := Option.some.inj hF
  clear hF
  subst hR
  all_goals (simp (maxSteps := 4000000) only [*, res87, n87a16t, n87a16f, n87a19t, n87a19f, n87a30t, n87a30f, n87k0, n87k1, n87k2, n87k3, n87k4, n87k5, n87k6, n87k7, n87k8, n87k9, n87k10, n87k11, n87k12, n87k13, n87k14, n87k15, n87k16, n87k17, n87k18, n87ro, n87mv, n87gv, ↓RP, RB, ↓ah, ↓ac, ↓af, ↓ad, ↓ae, enter, aW, aC, aZ, be, aM, Mx.bw, opnd, Mx.bF, Nat.reduceBEq, bK, Mx.fit, bI, bY, toVs, cellsOf, toV, aO, aB, ax, Mx.put, ofConst, ofCell, Mx.prune, killB, killBs, aK, putDst, au, ao, aD, loadAt, bM, List.map, Nat.reduceAdd, Nat.reduceMul, cm, cn, aF, eqC, cg, aN, reduceIte, reduceCtorEq, az, bn, bq, co, bN, bD, aL, bx, lowC, lowP, forceAll, bound, bW, bg, bv, aU, br, kill, spendLoc, spendOk, setOwn, dropAl, dropAls, bG, bP, bd, cb, lend, lendA, aS, ay, bU, bL, bare, bQ, frz, bZ, bo, argE, argsE, bB, bT, fill, setCells, bR, takeParts, bp, aR, ownAt, Nat.reduceBNe, Nat.reduceSub, Nat.reduceLT, Nat.reduceLeDiff, lowA, bi, bJ, av, aJ, aX, bX, bO, bE, bS, ce, bV, bk, aI, bh, bj, bf, cd, Op.operands, Int.reduceBEq, Int.reduceLT, Int.reduceLE, Int.reduceNeg, Int.reduceBNe, bl, newB, ch, ck, cj, bne, ↓aj, ↓ai, bc, aP, bm, bu, aE, bH, Call.operands, ty3, ty4, ty9, ty34, ty36, ty38, ty124, ↓aa _ _ _ _ 6])
set_option maxRecDepth 100000 in
set_option maxHeartbeats 40000000 in
theorem r_rostrumref_scan_itemNext (C : ak) (k_rostrumref_scan_long : K_rostrumref_scan_long C) (k_rostrumref_scan_next : K_rostrumref_scan_next C) (k_rostrumref_scan_str : K_rostrumref_scan_str C) (p0 : Gscan) (r : GItem × Bool × Gscan) (hF : rostrumref_scan_itemNext p0 = some r) : cF TT C.wide (evW TT C.wide n87 b87) n87 Try.f87.results.toList (aQ Try.f87) [.ptr 0 0] [[.v (.sl 1 (ab bA p0.fb)), .v (.i .i64 p0.fat)]] = some (.tup [.agg [.v (.i .i64 r.1.fTerm), .v (.i .i64 r.1.fTime), .v (.b r.1.fNop), .v (.i .i64 r.1.fCall.fClient), .v (.i .i64 r.1.fCall.fSeq), .v (.i .i64 r.1.fCall.fCommand.fKind), .v (.s r.1.fCall.fCommand.fKey), .v (.s r.1.fCall.fCommand.fField), .v (.s r.1.fCall.fCommand.fText), .v (.i .i64 r.1.fCall.fCommand.fN)], .v (.b r.2.1)], [[.v (.sl 1 (ab bA r.2.2.fb)), .v (.i .i64 r.2.2.fat)]]) := by
  unfold rostrumref_scan_itemNext at hF
  revert hF
  cases h1 : rostrumref_scan_long p0
  focus
    intro hF
    cases hF
  rename_i qh1
  obtain ⟨x1, x2⟩ := qh1
  intro hF
  try dsimp only at hF
  have g1 : C.wide 118 [.ptr 0 0] [[.v (.sl 1 (ab bA p0.fb)), .v (.i .i64 p0.fat)], [.v (.i .i64 0), .v (.i .i64 0), .v (.b false), .v (.i .i64 0), .v (.i .i64 0), .v (.i .i64 0), .v (.s ByteArray.empty), .v (.s ByteArray.empty), .v (.s ByteArray.empty), .v (.i .i64 0)], [.v (.i .i64 0), .v (.i .i64 0), .v (.b false), .v (.i .i64 0), .v (.i .i64 0), .v (.i .i64 0), .v (.s ByteArray.empty), .v (.s ByteArray.empty), .v (.s ByteArray.empty), .v (.i .i64 0)]] = some (.v (.i .i64 x1), [[.v (.sl 1 (ab bA x2.fb)), .v (.i .i64 x2.fat)], [.v (.i .i64 0), .v (.i .i64 0), .v (.b false), .v (.i .i64 0), .v (.i .i64 0), .v (.i .i64 0), .v (.s ByteArray.empty), .v (.s ByteArray.empty), .v (.s ByteArray.empty), .v (.i .i64 0)], [.v (.i .i64 0), .v (.i .i64 0), .v (.b false), .v (.i .i64 0), .v (.i .i64 0), .v (.i .i64 0), .v (.s ByteArray.empty), .v (.s ByteArray.empty), .v (.s ByteArray.empty), .v (.i .i64 0)]]) := cB [0] rfl rfl rfl rfl (k_rostrumref_scan_long p0 _ h1) rfl rfl
  revert hF
  cases h2 : rostrumref_scan_long x2
  focus
    intro hF
    cases hF
  rename_i qh2
  obtain ⟨x3, x4⟩ := qh2
  intro hF
  try dsimp only at hF
  have g2 : C.wide 118 [.ptr 0 0] [[.v (.sl 1 (ab bA x2.fb)), .v (.i .i64 x2.fat)], [.v (.i .i64 0), .v (.i .i64 0), .v (.b false), .v (.i .i64 0), .v (.i .i64 0), .v (.i .i64 0), .v (.s ByteArray.empty), .v (.s ByteArray.empty), .v (.s ByteArray.empty), .v (.i .i64 0)], [.v (.i .i64 x1), .v (.i .i64 0), .v (.b false), .v (.i .i64 0), .v (.i .i64 0), .v (.i .i64 0), .v (.s ByteArray.empty), .v (.s ByteArray.empty), .v (.s ByteArray.empty), .v (.i .i64 0)]] = some (.v (.i .i64 x3), [[.v (.sl 1 (ab bA x4.fb)), .v (.i .i64 x4.fat)], [.v (.i .i64 0), .v (.i .i64 0), .v (.b false), .v (.i .i64 0), .v (.i .i64 0), .v (.i .i64 0), .v (.s ByteArray.empty), .v (.s ByteArray.empty), .v (.s ByteArray.empty), .v (.i .i64 0)], [.v (.i .i64 x1), .v (.i .i64 0), .v (.b false), .v (.i .i64 0), .v (.i .i64 0), .v (.i .i64 0), .v (.s ByteArray.empty), .v (.s ByteArray.empty), .v (.s ByteArray.empty), .v (.i .i64 0)]]) := cB [0] rfl rfl rfl rfl (k_rostrumref_scan_long x2 _ h2) rfl rfl
  revert hF
  cases h3 : rostrumref_scan_next x4
  focus
    intro hF
    cases hF
  rename_i qh3
  obtain ⟨x5, x6⟩ := qh3
  intro hF
  try dsimp only at hF
  have g3 : C.wide 119 [.ptr 0 0] [[.v (.sl 1 (ab bA x4.fb)), .v (.i .i64 x4.fat)], [.v (.i .i64 0), .v (.i .i64 0), .v (.b false), .v (.i .i64 0), .v (.i .i64 0), .v (.i .i64 0), .v (.s ByteArray.empty), .v (.s ByteArray.empty), .v (.s ByteArray.empty), .v (.i .i64 0)], [.v (.i .i64 x1), .v (.i .i64 x3), .v (.b false), .v (.i .i64 0), .v (.i .i64 0), .v (.i .i64 0), .v (.s ByteArray.empty), .v (.s ByteArray.empty), .v (.s ByteArray.empty), .v (.i .i64 0)]] = some (.v (.i .i64 x5), [[.v (.sl 1 (ab bA x6.fb)), .v (.i .i64 x6.fat)], [.v (.i .i64 0), .v (.i .i64 0), .v (.b false), .v (.i .i64 0), .v (.i .i64 0), .v (.i .i64 0), .v (.s ByteArray.empty), .v (.s ByteArray.empty), .v (.s ByteArray.empty), .v (.i .i64 0)], [.v (.i .i64 x1), .v (.i .i64 x3), .v (.b false), .v (.i .i64 0), .v (.i .i64 0), .v (.i .i64 0), .v (.s ByteArray.empty), .v (.s ByteArray.empty), .v (.s ByteArray.empty), .v (.i .i64 0)]]) := cB [0] rfl rfl rfl rfl (k_rostrumref_scan_next x4 _ h3) rfl rfl
  have g4 : @cR TT C.wide (evW TT C.wide n87 b87) n87 1 16 ⟨[(0, .ptr 0 0), (2, .ptr 1 0), (4, .ptr 2 0), (5, .v (.i .i64 x5)), (16, .v (.b (x5 == 1)))], [[.v (.sl 1 (ab bA x6.fb)), .v (.i .i64 x6.fat)], [.v (.i .i64 0), .v (.i .i64 0), .v (.b false), .v (.i .i64 0), .v (.i .i64 0), .v (.i .i64 0), .v (.s ByteArray.empty), .v (.s ByteArray.empty), .v (.s ByteArray.empty), .v (.i .i64 0)], [.v (.i .i64 x1), .v (.i .i64 x3), .v (.b false), .v (.i .i64 0), .v (.i .i64 0), .v (.i .i64 0), .v (.s ByteArray.empty), .v (.s ByteArray.empty), .v (.s ByteArray.empty), .v (.i .i64 0)]]⟩ ⟨_⟩ = some (.normal, ⟨[(0, .ptr 0 0), (2, .ptr 1 0), (4, .ptr 2 0), (5, .v (.i .i64 x5))], [[.v (.sl 1 (ab bA x6.fb)), .v (.i .i64 x6.fat)], [.v (.i .i64 0), .v (.i .i64 0), .v (.b false), .v (.i .i64 0), .v (.i .i64 0), .v (.i .i64 0), .v (.s ByteArray.empty), .v (.s ByteArray.empty), .v (.s ByteArray.empty), .v (.i .i64 0)], [.v (.i .i64 (ck_rostrumref_scan_itemNext_q16_v x5 (x5 == 1) x6 x1 x3).fTerm), .v (.i .i64 (ck_rostrumref_scan_itemNext_q16_v x5 (x5 == 1) x6 x1 x3).fTime), .v (.b (ck_rostrumref_scan_itemNext_q16_v x5 (x5 == 1) x6 x1 x3).fNop), .v (.i .i64 (ck_rostrumref_scan_itemNext_q16_v x5 (x5 == 1) x6 x1 x3).fCall.fClient), .v (.i .i64 (ck_rostrumref_scan_itemNext_q16_v x5 (x5 == 1) x6 x1 x3).fCall.fSeq), .v (.i .i64 (ck_rostrumref_scan_itemNext_q16_v x5 (x5 == 1) x6 x1 x3).fCall.fCommand.fKind), .v (.s (ck_rostrumref_scan_itemNext_q16_v x5 (x5 == 1) x6 x1 x3).fCall.fCommand.fKey), .v (.s (ck_rostrumref_scan_itemNext_q16_v x5 (x5 == 1) x6 x1 x3).fCall.fCommand.fField), .v (.s (ck_rostrumref_scan_itemNext_q16_v x5 (x5 == 1) x6 x1 x3).fCall.fCommand.fText), .v (.i .i64 (ck_rostrumref_scan_itemNext_q16_v x5 (x5 == 1) x6 x1 x3).fCall.fCommand.fN)]]⟩) := rg_rostrumref_scan_itemNext_q16 C x5 (x5 == 1) x6 x1 x3 _ rfl (ck_rostrumref_scan_itemNext_q16_v x5 (x5 == 1) x6 x1 x3) (ck_rostrumref_scan_itemNext_q16_t x5 (x5 == 1) x6 x1 x3)
  refine aT (x5 == 0) ?_ ?_
  focus
    intro h4
    replace hF := ar h4 hF
    have hR := Option.some.inj hF
    clear hF
    subst hR
  rotate_left 1
  intro h4
  replace hF := aq h4 hF
  revert hF
  cases h5 : rostrumref_scan_long x6
  focus
    intro hF
    cases hF
  rename_i qh5
  obtain ⟨x7, x8⟩ := qh5
  intro hF
  try dsimp only at hF
  unfold rostrumref_scan_itemNext_c0 at hF
  have g5 : C.wide 118 [.ptr 0 0] [[.v (.sl 1 (ab bA x6.fb)), .v (.i .i64 x6.fat)], [.v (.i .i64 0), .v (.i .i64 0), .v (.b false), .v (.i .i64 0), .v (.i .i64 0), .v (.i .i64 0), .v (.s ByteArray.empty), .v (.s ByteArray.empty), .v (.s ByteArray.empty), .v (.i .i64 0)], [.v (.i .i64 (ck_rostrumref_scan_itemNext_q16_v x5 (x5 == 1) x6 x1 x3).fTerm), .v (.i .i64 (ck_rostrumref_scan_itemNext_q16_v x5 (x5 == 1) x6 x1 x3).fTime), .v (.b (ck_rostrumref_scan_itemNext_q16_v x5 (x5 == 1) x6 x1 x3).fNop), .v (.i .i64 (ck_rostrumref_scan_itemNext_q16_v x5 (x5 == 1) x6 x1 x3).fCall.fClient), .v (.i .i64 (ck_rostrumref_scan_itemNext_q16_v x5 (x5 == 1) x6 x1 x3).fCall.fSeq), .v (.i .i64 (ck_rostrumref_scan_itemNext_q16_v x5 (x5 == 1) x6 x1 x3).fCall.fCommand.fKind), .v (.s (ck_rostrumref_scan_itemNext_q16_v x5 (x5 == 1) x6 x1 x3).fCall.fCommand.fKey), .v (.s (ck_rostrumref_scan_itemNext_q16_v x5 (x5 == 1) x6 x1 x3).fCall.fCommand.fField), .v (.s (ck_rostrumref_scan_itemNext_q16_v x5 (x5 == 1) x6 x1 x3).fCall.fCommand.fText), .v (.i .i64 (ck_rostrumref_scan_itemNext_q16_v x5 (x5 == 1) x6 x1 x3).fCall.fCommand.fN)]] = some (.v (.i .i64 x7), [[.v (.sl 1 (ab bA x8.fb)), .v (.i .i64 x8.fat)], [.v (.i .i64 0), .v (.i .i64 0), .v (.b false), .v (.i .i64 0), .v (.i .i64 0), .v (.i .i64 0), .v (.s ByteArray.empty), .v (.s ByteArray.empty), .v (.s ByteArray.empty), .v (.i .i64 0)], [.v (.i .i64 (ck_rostrumref_scan_itemNext_q16_v x5 (x5 == 1) x6 x1 x3).fTerm), .v (.i .i64 (ck_rostrumref_scan_itemNext_q16_v x5 (x5 == 1) x6 x1 x3).fTime), .v (.b (ck_rostrumref_scan_itemNext_q16_v x5 (x5 == 1) x6 x1 x3).fNop), .v (.i .i64 (ck_rostrumref_scan_itemNext_q16_v x5 (x5 == 1) x6 x1 x3).fCall.fClient), .v (.i .i64 (ck_rostrumref_scan_itemNext_q16_v x5 (x5 == 1) x6 x1 x3).fCall.fSeq), .v (.i .i64 (ck_rostrumref_scan_itemNext_q16_v x5 (x5 == 1) x6 x1 x3).fCall.fCommand.fKind), .v (.s (ck_rostrumref_scan_itemNext_q16_v x5 (x5 == 1) x6 x1 x3).fCall.fCommand.fKey), .v (.s (ck_rostrumref_scan_itemNext_q16_v x5 (x5 == 1) x6 x1 x3).fCall.fCommand.fField), .v (.s (ck_rostrumref_scan_itemNext_q16_v x5 (x5 == 1) x6 x1 x3).fCall.fCommand.fText), .v (.i .i64 (ck_rostrumref_scan_itemNext_q16_v x5 (x5 == 1) x6 x1 x3).fCall.fCommand.fN)]]) := cB [0] rfl rfl rfl rfl (k_rostrumref_scan_long x6 _ h5) rfl rfl
  refine aG (x7 == 0) ?_ ?_
  focus
    intro h6
    replace hF := aq h6 hF
    have hR := Option.some.inj hF
    clear hF
    subst hR
  rotate_left 1
  intro h6
  replace hF := ar h6 hF
  revert hF
  cases h7 : rostrumref_scan_long x8
  focus
    intro hF
    cases hF
  rename_i qh7
  obtain ⟨x9, x10⟩ := qh7
  intro hF
  try dsimp only at hF
  have g6 : C.wide 118 [.ptr 0 0] [[.v (.sl 1 (ab bA x8.fb)), .v (.i .i64 x8.fat)], [.v (.i .i64 0), .v (.i .i64 0), .v (.b false), .v (.i .i64 0), .v (.i .i64 0), .v (.i .i64 0), .v (.s ByteArray.empty), .v (.s ByteArray.empty), .v (.s ByteArray.empty), .v (.i .i64 0)], [.v (.i .i64 (ck_rostrumref_scan_itemNext_q16_v x5 (x5 == 1) x6 x1 x3).fTerm), .v (.i .i64 (ck_rostrumref_scan_itemNext_q16_v x5 (x5 == 1) x6 x1 x3).fTime), .v (.b (ck_rostrumref_scan_itemNext_q16_v x5 (x5 == 1) x6 x1 x3).fNop), .v (.i .i64 x7), .v (.i .i64 (ck_rostrumref_scan_itemNext_q16_v x5 (x5 == 1) x6 x1 x3).fCall.fSeq), .v (.i .i64 (ck_rostrumref_scan_itemNext_q16_v x5 (x5 == 1) x6 x1 x3).fCall.fCommand.fKind), .v (.s (ck_rostrumref_scan_itemNext_q16_v x5 (x5 == 1) x6 x1 x3).fCall.fCommand.fKey), .v (.s (ck_rostrumref_scan_itemNext_q16_v x5 (x5 == 1) x6 x1 x3).fCall.fCommand.fField), .v (.s (ck_rostrumref_scan_itemNext_q16_v x5 (x5 == 1) x6 x1 x3).fCall.fCommand.fText), .v (.i .i64 (ck_rostrumref_scan_itemNext_q16_v x5 (x5 == 1) x6 x1 x3).fCall.fCommand.fN)]] = some (.v (.i .i64 x9), [[.v (.sl 1 (ab bA x10.fb)), .v (.i .i64 x10.fat)], [.v (.i .i64 0), .v (.i .i64 0), .v (.b false), .v (.i .i64 0), .v (.i .i64 0), .v (.i .i64 0), .v (.s ByteArray.empty), .v (.s ByteArray.empty), .v (.s ByteArray.empty), .v (.i .i64 0)], [.v (.i .i64 (ck_rostrumref_scan_itemNext_q16_v x5 (x5 == 1) x6 x1 x3).fTerm), .v (.i .i64 (ck_rostrumref_scan_itemNext_q16_v x5 (x5 == 1) x6 x1 x3).fTime), .v (.b (ck_rostrumref_scan_itemNext_q16_v x5 (x5 == 1) x6 x1 x3).fNop), .v (.i .i64 x7), .v (.i .i64 (ck_rostrumref_scan_itemNext_q16_v x5 (x5 == 1) x6 x1 x3).fCall.fSeq), .v (.i .i64 (ck_rostrumref_scan_itemNext_q16_v x5 (x5 == 1) x6 x1 x3).fCall.fCommand.fKind), .v (.s (ck_rostrumref_scan_itemNext_q16_v x5 (x5 == 1) x6 x1 x3).fCall.fCommand.fKey), .v (.s (ck_rostrumref_scan_itemNext_q16_v x5 (x5 == 1) x6 x1 x3).fCall.fCommand.fField), .v (.s (ck_rostrumref_scan_itemNext_q16_v x5 (x5 == 1) x6 x1 x3).fCall.fCommand.fText), .v (.i .i64 (ck_rostrumref_scan_itemNext_q16_v x5 (x5 == 1) x6 x1 x3).fCall.fCommand.fN)]]) := cB [0] rfl rfl rfl rfl (k_rostrumref_scan_long x8 _ h7) rfl rfl
  revert hF
  cases h8 : rostrumref_scan_next x10
  focus
    intro hF
    cases hF
  rename_i qh8
  obtain ⟨x11, x12⟩ := qh8
  intro hF
  try dsimp only at hF
  have g7 : C.wide 119 [.ptr 0 0] [[.v (.sl 1 (ab bA x10.fb)), .v (.i .i64 x10.fat)], [.v (.i .i64 0), .v (.i .i64 0), .v (.b false), .v (.i .i64 0), .v (.i .i64 0), .v (.i .i64 0), .v (.s ByteArray.empty), .v (.s ByteArray.empty), .v (.s ByteArray.empty), .v (.i .i64 0)], [.v (.i .i64 (ck_rostrumref_scan_itemNext_q16_v x5 (x5 == 1) x6 x1 x3).fTerm), .v (.i .i64 (ck_rostrumref_scan_itemNext_q16_v x5 (x5 == 1) x6 x1 x3).fTime), .v (.b (ck_rostrumref_scan_itemNext_q16_v x5 (x5 == 1) x6 x1 x3).fNop), .v (.i .i64 x7), .v (.i .i64 x9), .v (.i .i64 (ck_rostrumref_scan_itemNext_q16_v x5 (x5 == 1) x6 x1 x3).fCall.fCommand.fKind), .v (.s (ck_rostrumref_scan_itemNext_q16_v x5 (x5 == 1) x6 x1 x3).fCall.fCommand.fKey), .v (.s (ck_rostrumref_scan_itemNext_q16_v x5 (x5 == 1) x6 x1 x3).fCall.fCommand.fField), .v (.s (ck_rostrumref_scan_itemNext_q16_v x5 (x5 == 1) x6 x1 x3).fCall.fCommand.fText), .v (.i .i64 (ck_rostrumref_scan_itemNext_q16_v x5 (x5 == 1) x6 x1 x3).fCall.fCommand.fN)]] = some (.v (.i .i64 x11), [[.v (.sl 1 (ab bA x12.fb)), .v (.i .i64 x12.fat)], [.v (.i .i64 0), .v (.i .i64 0), .v (.b false), .v (.i .i64 0), .v (.i .i64 0), .v (.i .i64 0), .v (.s ByteArray.empty), .v (.s ByteArray.empty), .v (.s ByteArray.empty), .v (.i .i64 0)], [.v (.i .i64 (ck_rostrumref_scan_itemNext_q16_v x5 (x5 == 1) x6 x1 x3).fTerm), .v (.i .i64 (ck_rostrumref_scan_itemNext_q16_v x5 (x5 == 1) x6 x1 x3).fTime), .v (.b (ck_rostrumref_scan_itemNext_q16_v x5 (x5 == 1) x6 x1 x3).fNop), .v (.i .i64 x7), .v (.i .i64 x9), .v (.i .i64 (ck_rostrumref_scan_itemNext_q16_v x5 (x5 == 1) x6 x1 x3).fCall.fCommand.fKind), .v (.s (ck_rostrumref_scan_itemNext_q16_v x5 (x5 == 1) x6 x1 x3).fCall.fCommand.fKey), .v (.s (ck_rostrumref_scan_itemNext_q16_v x5 (x5 == 1) x6 x1 x3).fCall.fCommand.fField), .v (.s (ck_rostrumref_scan_itemNext_q16_v x5 (x5 == 1) x6 x1 x3).fCall.fCommand.fText), .v (.i .i64 (ck_rostrumref_scan_itemNext_q16_v x5 (x5 == 1) x6 x1 x3).fCall.fCommand.fN)]]) := cB [0] rfl rfl rfl rfl (k_rostrumref_scan_next x10 _ h8) rfl rfl
  revert hF
  cases h9 : rostrumref_scan_str x12
  focus
    intro hF
    cases hF
  rename_i qh9
  obtain ⟨x13, x14⟩ := qh9
  intro hF
  try dsimp only at hF
  have g8 : C.wide 120 [.ptr 0 0] [[.v (.sl 1 (ab bA x12.fb)), .v (.i .i64 x12.fat)], [.v (.i .i64 0), .v (.i .i64 0), .v (.b false), .v (.i .i64 0), .v (.i .i64 0), .v (.i .i64 0), .v (.s ByteArray.empty), .v (.s ByteArray.empty), .v (.s ByteArray.empty), .v (.i .i64 0)], [.v (.i .i64 (ck_rostrumref_scan_itemNext_q16_v x5 (x5 == 1) x6 x1 x3).fTerm), .v (.i .i64 (ck_rostrumref_scan_itemNext_q16_v x5 (x5 == 1) x6 x1 x3).fTime), .v (.b (ck_rostrumref_scan_itemNext_q16_v x5 (x5 == 1) x6 x1 x3).fNop), .v (.i .i64 x7), .v (.i .i64 x9), .v (.i .i64 x11), .v (.s (ck_rostrumref_scan_itemNext_q16_v x5 (x5 == 1) x6 x1 x3).fCall.fCommand.fKey), .v (.s (ck_rostrumref_scan_itemNext_q16_v x5 (x5 == 1) x6 x1 x3).fCall.fCommand.fField), .v (.s (ck_rostrumref_scan_itemNext_q16_v x5 (x5 == 1) x6 x1 x3).fCall.fCommand.fText), .v (.i .i64 (ck_rostrumref_scan_itemNext_q16_v x5 (x5 == 1) x6 x1 x3).fCall.fCommand.fN)]] = some (.v (.s x13), [[.v (.sl 1 (ab bA x14.fb)), .v (.i .i64 x14.fat)], [.v (.i .i64 0), .v (.i .i64 0), .v (.b false), .v (.i .i64 0), .v (.i .i64 0), .v (.i .i64 0), .v (.s ByteArray.empty), .v (.s ByteArray.empty), .v (.s ByteArray.empty), .v (.i .i64 0)], [.v (.i .i64 (ck_rostrumref_scan_itemNext_q16_v x5 (x5 == 1) x6 x1 x3).fTerm), .v (.i .i64 (ck_rostrumref_scan_itemNext_q16_v x5 (x5 == 1) x6 x1 x3).fTime), .v (.b (ck_rostrumref_scan_itemNext_q16_v x5 (x5 == 1) x6 x1 x3).fNop), .v (.i .i64 x7), .v (.i .i64 x9), .v (.i .i64 x11), .v (.s (ck_rostrumref_scan_itemNext_q16_v x5 (x5 == 1) x6 x1 x3).fCall.fCommand.fKey), .v (.s (ck_rostrumref_scan_itemNext_q16_v x5 (x5 == 1) x6 x1 x3).fCall.fCommand.fField), .v (.s (ck_rostrumref_scan_itemNext_q16_v x5 (x5 == 1) x6 x1 x3).fCall.fCommand.fText), .v (.i .i64 (ck_rostrumref_scan_itemNext_q16_v x5 (x5 == 1) x6 x1 x3).fCall.fCommand.fN)]]) := cB [0] rfl rfl rfl rfl (k_rostrumref_scan_str x12 _ h9) rfl rfl
  revert hF
  cases h10 : rostrumref_scan_str x14
  focus
    intro hF
    cases hF
  rename_i qh10
  obtain ⟨x15, x16⟩ := qh10
  intro hF
  try dsimp only at hF
  have g9 : C.wide 120 [.ptr 0 0] [[.v (.sl 1 (ab bA x14.fb)), .v (.i .i64 x14.fat)], [.v (.i .i64 0), .v (.i .i64 0), .v (.b false), .v (.i .i64 0), .v (.i .i64 0), .v (.i .i64 0), .v (.s ByteArray.empty), .v (.s ByteArray.empty), .v (.s ByteArray.empty), .v (.i .i64 0)], [.v (.i .i64 (ck_rostrumref_scan_itemNext_q16_v x5 (x5 == 1) x6 x1 x3).fTerm), .v (.i .i64 (ck_rostrumref_scan_itemNext_q16_v x5 (x5 == 1) x6 x1 x3).fTime), .v (.b (ck_rostrumref_scan_itemNext_q16_v x5 (x5 == 1) x6 x1 x3).fNop), .v (.i .i64 x7), .v (.i .i64 x9), .v (.i .i64 x11), .v (.s x13), .v (.s (ck_rostrumref_scan_itemNext_q16_v x5 (x5 == 1) x6 x1 x3).fCall.fCommand.fField), .v (.s (ck_rostrumref_scan_itemNext_q16_v x5 (x5 == 1) x6 x1 x3).fCall.fCommand.fText), .v (.i .i64 (ck_rostrumref_scan_itemNext_q16_v x5 (x5 == 1) x6 x1 x3).fCall.fCommand.fN)]] = some (.v (.s x15), [[.v (.sl 1 (ab bA x16.fb)), .v (.i .i64 x16.fat)], [.v (.i .i64 0), .v (.i .i64 0), .v (.b false), .v (.i .i64 0), .v (.i .i64 0), .v (.i .i64 0), .v (.s ByteArray.empty), .v (.s ByteArray.empty), .v (.s ByteArray.empty), .v (.i .i64 0)], [.v (.i .i64 (ck_rostrumref_scan_itemNext_q16_v x5 (x5 == 1) x6 x1 x3).fTerm), .v (.i .i64 (ck_rostrumref_scan_itemNext_q16_v x5 (x5 == 1) x6 x1 x3).fTime), .v (.b (ck_rostrumref_scan_itemNext_q16_v x5 (x5 == 1) x6 x1 x3).fNop), .v (.i .i64 x7), .v (.i .i64 x9), .v (.i .i64 x11), .v (.s x13), .v (.s (ck_rostrumref_scan_itemNext_q16_v x5 (x5 == 1) x6 x1 x3).fCall.fCommand.fField), .v (.s (ck_rostrumref_scan_itemNext_q16_v x5 (x5 == 1) x6 x1 x3).fCall.fCommand.fText), .v (.i .i64 (ck_rostrumref_scan_itemNext_q16_v x5 (x5 == 1) x6 x1 x3).fCall.fCommand.fN)]]) := cB [0] rfl rfl rfl rfl (k_rostrumref_scan_str x14 _ h10) rfl rfl
  revert hF
  cases h11 : rostrumref_scan_str x16
  focus
    intro hF
    cases hF
  rename_i qh11
  obtain ⟨x17, x18⟩ := qh11
  intro hF
  try dsimp only at hF
  have g10 : C.wide 120 [.ptr 0 0] [[.v (.sl 1 (ab bA x16.fb)), .v (.i .i64 x16.fat)], [.v (.i .i64 0), .v (.i .i64 0), .v (.b false), .v (.i .i64 0), .v (.i .i64 0), .v (.i .i64 0), .v (.s ByteArray.empty), .v (.s ByteArray.empty), .v (.s ByteArray.empty), .v (.i .i64 0)], [.v (.i .i64 (ck_rostrumref_scan_itemNext_q16_v x5 (x5 == 1) x6 x1 x3).fTerm), .v (.i .i64 (ck_rostrumref_scan_itemNext_q16_v x5 (x5 == 1) x6 x1 x3).fTime), .v (.b (ck_rostrumref_scan_itemNext_q16_v x5 (x5 == 1) x6 x1 x3).fNop), .v (.i .i64 x7), .v (.i .i64 x9), .v (.i .i64 x11), .v (.s x13), .v (.s x15), .v (.s (ck_rostrumref_scan_itemNext_q16_v x5 (x5 == 1) x6 x1 x3).fCall.fCommand.fText), .v (.i .i64 (ck_rostrumref_scan_itemNext_q16_v x5 (x5 == 1) x6 x1 x3).fCall.fCommand.fN)]] = some (.v (.s x17), [[.v (.sl 1 (ab bA x18.fb)), .v (.i .i64 x18.fat)], [.v (.i .i64 0), .v (.i .i64 0), .v (.b false), .v (.i .i64 0), .v (.i .i64 0), .v (.i .i64 0), .v (.s ByteArray.empty), .v (.s ByteArray.empty), .v (.s ByteArray.empty), .v (.i .i64 0)], [.v (.i .i64 (ck_rostrumref_scan_itemNext_q16_v x5 (x5 == 1) x6 x1 x3).fTerm), .v (.i .i64 (ck_rostrumref_scan_itemNext_q16_v x5 (x5 == 1) x6 x1 x3).fTime), .v (.b (ck_rostrumref_scan_itemNext_q16_v x5 (x5 == 1) x6 x1 x3).fNop), .v (.i .i64 x7), .v (.i .i64 x9), .v (.i .i64 x11), .v (.s x13), .v (.s x15), .v (.s (ck_rostrumref_scan_itemNext_q16_v x5 (x5 == 1) x6 x1 x3).fCall.fCommand.fText), .v (.i .i64 (ck_rostrumref_scan_itemNext_q16_v x5 (x5 == 1) x6 x1 x3).fCall.fCommand.fN)]]) := cB [0] rfl rfl rfl rfl (k_rostrumref_scan_str x16 _ h11) rfl rfl
  revert hF
  cases h12 : rostrumref_scan_long x18
  focus
    intro hF
    cases hF
  rename_i qh12
  obtain ⟨x19, x20⟩ := qh12
  intro hF
  try dsimp only at hF
  have g11 : C.wide 118 [.ptr 0 0] [[.v (.sl 1 (ab bA x18.fb)), .v (.i .i64 x18.fat)], [.v (.i .i64 0), .v (.i .i64 0), .v (.b false), .v (.i .i64 0), .v (.i .i64 0), .v (.i .i64 0), .v (.s ByteArray.empty), .v (.s ByteArray.empty), .v (.s ByteArray.empty), .v (.i .i64 0)], [.v (.i .i64 (ck_rostrumref_scan_itemNext_q16_v x5 (x5 == 1) x6 x1 x3).fTerm), .v (.i .i64 (ck_rostrumref_scan_itemNext_q16_v x5 (x5 == 1) x6 x1 x3).fTime), .v (.b (ck_rostrumref_scan_itemNext_q16_v x5 (x5 == 1) x6 x1 x3).fNop), .v (.i .i64 x7), .v (.i .i64 x9), .v (.i .i64 x11), .v (.s x13), .v (.s x15), .v (.s x17), .v (.i .i64 (ck_rostrumref_scan_itemNext_q16_v x5 (x5 == 1) x6 x1 x3).fCall.fCommand.fN)]] = some (.v (.i .i64 x19), [[.v (.sl 1 (ab bA x20.fb)), .v (.i .i64 x20.fat)], [.v (.i .i64 0), .v (.i .i64 0), .v (.b false), .v (.i .i64 0), .v (.i .i64 0), .v (.i .i64 0), .v (.s ByteArray.empty), .v (.s ByteArray.empty), .v (.s ByteArray.empty), .v (.i .i64 0)], [.v (.i .i64 (ck_rostrumref_scan_itemNext_q16_v x5 (x5 == 1) x6 x1 x3).fTerm), .v (.i .i64 (ck_rostrumref_scan_itemNext_q16_v x5 (x5 == 1) x6 x1 x3).fTime), .v (.b (ck_rostrumref_scan_itemNext_q16_v x5 (x5 == 1) x6 x1 x3).fNop), .v (.i .i64 x7), .v (.i .i64 x9), .v (.i .i64 x11), .v (.s x13), .v (.s x15), .v (.s x17), .v (.i .i64 (ck_rostrumref_scan_itemNext_q16_v x5 (x5 == 1) x6 x1 x3).fCall.fCommand.fN)]]) := cB [0] rfl rfl rfl rfl (k_rostrumref_scan_long x18 _ h12) rfl rfl
  have hR := Option.some.inj hF
  clear hF
  subst hR
  all_goals (rw [ba]; show cp _ _ _ (aH _ _ _ _ (Code.seq _ _) _) = _; simp (maxSteps := 4000000) only [*, res87, n87a16t, n87a16f, n87a19t, n87a19f, n87a30t, n87a30f, n87k0, n87k1, n87k2, n87k3, n87k4, n87k5, n87k6, n87k7, n87k8, n87k9, n87k10, n87k11, n87k12, n87k13, n87k14, n87k15, n87k16, n87k17, n87k18, n87ro, n87mv, n87gv, ↓RP, RB, ↓ah, ↓ac, ↓af, ↓ad, ↓ae, enter, aW, aC, aZ, be, aM, Mx.bw, opnd, Mx.bF, Nat.reduceBEq, bK, Mx.fit, bI, bY, toVs, cellsOf, toV, aO, aB, ax, Mx.put, ofConst, ofCell, Mx.prune, killB, killBs, aK, putDst, au, ao, aD, loadAt, bM, List.map, Nat.reduceAdd, Nat.reduceMul, cm, cn, aF, eqC, cg, aN, reduceIte, reduceCtorEq, az, bn, bq, co, bN, bD, aL, bx, lowC, lowP, forceAll, bound, bW, bg, bv, aU, br, kill, spendLoc, spendOk, setOwn, dropAl, dropAls, bG, bP, bd, cb, lend, lendA, aS, ay, bU, bL, bare, bQ, frz, bZ, bo, argE, argsE, bB, bT, fill, setCells, bR, takeParts, bp, aR, ownAt, Nat.reduceBNe, Nat.reduceSub, Nat.reduceLT, Nat.reduceLeDiff, lowA, bi, bJ, av, aJ, aX, bX, bO, bE, bS, ce, bV, bk, aI, bh, bj, bf, cd, Op.operands, Int.reduceBEq, Int.reduceLT, Int.reduceLE, Int.reduceNeg, Int.reduceBNe, bl, newB, ch, ck, cj, bne, ↓aj, bc, aP, bm, bu, aE, bH, Call.operands, ty3, ty4, ty9, ty34, ty36, ty38, ty124, ↓aa _ _ _ _ 0, ↓aa _ _ _ _ 1, ↓aa _ _ _ _ 2, ↓aa _ _ _ _ 3, ↓aa _ _ _ _ 4, ↓aa _ _ _ _ 5, ↓cP _ _ _ _ 16, ↓aa _ _ _ _ 6, ↓aa _ _ _ _ 7, ↓ai _ _ _ _ 19, ↓aa _ _ _ _ 8, ↓aa _ _ _ _ 9, ↓aa _ _ _ _ 10, ↓ai _ _ _ _ 30, ↓aa _ _ _ _ 11, ↓aa _ _ _ _ 12, ↓aa _ _ _ _ 13, ↓aa _ _ _ _ 14, ↓aa _ _ _ _ 15, ↓aa _ _ _ _ 16, ↓aa _ _ _ _ 17, ↓aa _ _ _ _ 18])
/-! ### (*rostrumref.scan).end -/
def n88 : cC where
  keep := fun i => match i with
    | 0 => [0, 1]
    | 1 => [0, 1, 6]
    | 2 => [4]
    | 3 => [20]
    | 4 => [4]
    | 5 => [4]
    | _ => []
  ro := fun _ => false
  mv := fun _ => false
  give := fun _ => false
  free := fun i => match i with | 3 => [(3, 7), (4, 7), (5, 7), (6, 7), (3, 8), (4, 8), (5, 8), (6, 8), (3, 9), (4, 9), (5, 9), (6, 9), (3, 10), (4, 10), (5, 10), (6, 10), (3, 11), (4, 11), (5, 11), (6, 11)] | _ => []
  alive := fun i x => match i, x with
    | 6, true => some []
    | 6, false => some [0, 1]
    | 20, true => some []
    | 20, false => some []
    | _, _ => none
theorem n88a6t (e : Env) (S : aA) : aw n88 6 true ⟨e, S⟩ = ⟨prune [] e, S⟩ := rfl
theorem n88a6f (e : Env) (S : aA) : aw n88 6 false ⟨e, S⟩ = ⟨prune [0, 1] e, S⟩ := rfl
theorem n88a20t (e : Env) (S : aA) : aw n88 20 true ⟨e, S⟩ = ⟨prune [] e, S⟩ := rfl
theorem n88a20f (e : Env) (S : aA) : aw n88 20 false ⟨e, S⟩ = ⟨prune [] e, S⟩ := rfl
theorem n88k0 : n88.keep 0 = [0, 1] := rfl
theorem n88k1 : n88.keep 1 = [0, 1, 6] := rfl
theorem n88k2 : n88.keep 2 = [4] := rfl
theorem n88k3 : n88.keep 3 = [20] := rfl
theorem n88k4 : n88.keep 4 = [4] := rfl
theorem n88k5 : n88.keep 5 = [4] := rfl
theorem n88ro (t : Nat) : n88.ro t = (false) := rfl
theorem n88mv (t : Nat) : n88.mv t = (false) := rfl
theorem n88gv (t : Nat) : n88.give t = (false) := rfl
theorem n88f3 : n88.free 3 = [(3, 7), (4, 7), (5, 7), (6, 7), (3, 8), (4, 8), (5, 8), (6, 8), (3, 9), (4, 9), (5, 9), (6, 9), (3, 10), (4, 10), (5, 10), (6, 10), (3, 11), (4, 11), (5, 11), (6, 11)] := rfl
theorem res88 : Try.f88.results.toList = [.tmp 4] := rfl
noncomputable def b88 : Code := aQ Try.f88
set_option maxRecDepth 100000 in
set_option maxHeartbeats 40000000 in
theorem r_rostrumref_scan_end (C : ak) (k_rostrumref_scan_over : K_rostrumref_scan_over C) (p0 : Bool) (p1 : Gscan) (r : Int × Gscan) (hF : rostrumref_scan_end p0 p1 = some r) : cF TT C.wide (evW TT C.wide n88 b88) n88 Try.f88.results.toList (aQ Try.f88) [.ptr 0 0, .v (.b p0)] [[.v (.sl 1 (ab bA p1.fb)), .v (.i .i64 p1.fat)]] = some (.v (.i .i64 r.1), [[.v (.sl 1 (ab bA r.2.fb)), .v (.i .i64 r.2.fat)]]) := by
  unfold rostrumref_scan_end at hF
  revert hF
  cases h1 : rostrumref_scan_over p1
  focus
    intro hF
    cases hF
  rename_i qh1
  obtain ⟨x1, x2⟩ := qh1
  intro hF
  try dsimp only at hF
  have g1 : C.wide 121 [.ptr 0 0] [[.v (.sl 1 (ab bA p1.fb)), .v (.i .i64 p1.fat)]] = some (.v (.b x1), [[.v (.sl 1 (ab bA x2.fb)), .v (.i .i64 x2.fat)]]) := cB [0] rfl rfl rfl rfl (k_rostrumref_scan_over p1 _ h1) rfl rfl
  refine aG x1 ?_ ?_
  focus
    intro h2
    replace hF := aq h2 hF
    have hR := Option.some.inj hF
    clear hF
    subst hR
  rotate_left 1
  intro h2
  replace hF := ar h2 hF
  refine aT p0 ?_ ?_
  focus
    intro h3
    replace hF := ar h3 hF
    have hR := Option.some.inj hF
    clear hF
    subst hR
  rotate_left 1
  intro h3
  replace hF := aq h3 hF
  refine aG (decide (x2.fat < (x2.fb.length : Int))) ?_ ?_
  focus
    intro h4
    replace hF := aq h4 hF
    have hR := Option.some.inj hF
    clear hF
    subst hR
  rotate_left 1
  intro h4
  replace hF := ar h4 hF
  have hR := Option.some.inj hF
  clear hF
  subst hR
  all_goals (rw [ba]; show cp _ _ _ (aH _ _ _ _ (Code.seq _ _) _) = _; simp (maxSteps := 4000000) only [*, res88, n88a6t, n88a6f, n88a20t, n88a20f, n88k0, n88k1, n88k2, n88k3, n88k4, n88k5, n88f3, n88ro, n88mv, n88gv, ↓RP, RB, ↓ah, ↓ac, ↓af, ↓ad, ↓ae, enter, aW, aC, aZ, be, aM, Mx.bw, opnd, Mx.bF, Nat.reduceBEq, bK, Mx.fit, bI, bY, toVs, cellsOf, toV, aO, aB, ax, Mx.put, ofConst, ofCell, Mx.prune, killB, killBs, aK, putDst, au, ao, aD, loadAt, bM, List.map, Nat.reduceAdd, Nat.reduceMul, cm, cn, aF, eqC, cg, aN, reduceIte, reduceCtorEq, az, bn, bq, co, bN, bD, aL, bx, lowC, lowP, forceAll, bound, bW, bg, bv, aU, br, kill, spendLoc, spendOk, setOwn, dropAl, dropAls, bG, bP, bd, cb, lend, lendA, aS, ay, bU, bL, bare, bQ, frz, bZ, bo, argE, argsE, bB, bT, fill, setCells, bR, takeParts, bp, aR, ownAt, Nat.reduceBNe, Nat.reduceSub, Nat.reduceLT, Nat.reduceLeDiff, lowA, bi, bJ, av, aJ, aX, bX, bO, bE, bS, ce, bV, bk, aI, bh, bj, bf, cd, Op.operands, Int.reduceBEq, Int.reduceLT, Int.reduceLE, Int.reduceNeg, Int.reduceBNe, bl, newB, ch, ck, cj, bne, ↓aj, ↓ai, ↓aa, ↓am, bc, aP, bm, bu, aE, bH, Call.operands, ty3, ty4, ty5, ty25, ty39, ty124, ty126])
/-! ### rostrumref.In -/
def n55 : cC where
  keep := fun i => match i with
    | 0 => [0, 1, 2]
    | 1 => [6]
    | _ => []
  ro := fun _ => false
  mv := fun _ => false
  give := fun _ => false
  free := fun _ => []
theorem n55k0 : n55.keep 0 = [0, 1, 2] := rfl
theorem n55k1 : n55.keep 1 = [6] := rfl
theorem n55ro (t : Nat) : n55.ro t = (false) := rfl
theorem n55mv (t : Nat) : n55.mv t = (false) := rfl
theorem n55gv (t : Nat) : n55.give t = (false) := rfl
theorem res55 : Try.f55.results.toList = [.tmp 6] := rfl
noncomputable def b55 : Code := aQ Try.f55
set_option maxRecDepth 100000 in
set_option maxHeartbeats 40000000 in
theorem r_rostrumref_In (C : ak)  (p0 : Int) (p1 : Int) (p2 : Int) (r : Bool) (hF : rostrumref_In p0 p1 p2 = some r) : cF TT C.wide (evW TT C.wide n55 b55) n55 Try.f55.results.toList (aQ Try.f55) [.v (.i .i64 p0), .v (.i .i64 p1), .v (.i .i64 p2)] [] = some (.v (.b r), []) := by
  unfold rostrumref_In at hF
  refine aG (decide (p1 ≤ p0)) ?_ ?_
  focus
    intro h1
    replace hF := aq h1 hF
    have hR := Option.some.inj hF
    clear hF
    subst hR
  rotate_left 1
  intro h1
  replace hF := ar h1 hF
  have hR := Option.some.inj hF
  clear hF
  subst hR
  all_goals (rw [ba]; show cp _ _ _ (aH _ _ _ _ (Code.seq _ _) _) = _; simp (maxSteps := 4000000) only [*, res55, n55k0, n55k1, n55ro, n55mv, n55gv, ↓RP, RB, ↓ah, ↓ac, ↓af, ↓ad, ↓ae, enter, aW, aC, aZ, be, aM, Mx.bw, opnd, Mx.bF, Nat.reduceBEq, bK, Mx.fit, bI, bY, toVs, cellsOf, toV, aO, aB, ax, Mx.put, ofConst, ofCell, Mx.prune, killB, killBs, aK, putDst, au, ao, aD, loadAt, bM, List.map, Nat.reduceAdd, Nat.reduceMul, cm, cn, aF, eqC, cg, aN, reduceIte, reduceCtorEq, az, bn, bq, co, bN, bD, aL, bx, lowC, lowP, forceAll, bound, bW, bg, bv, aU, br, kill, spendLoc, spendOk, setOwn, dropAl, dropAls, bG, bP, bd, cb, lend, lendA, aS, ay, bU, bL, bare, bQ, frz, bZ, bo, argE, argsE, bB, bT, fill, setCells, bR, takeParts, bp, aR, ownAt, Nat.reduceBNe, Nat.reduceSub, Nat.reduceLT, Nat.reduceLeDiff, lowA, bi, bJ, av, aJ, aX, bX, bO, bE, bS, ce, bV, bk, aI, bh, bj, bf, cd, Op.operands, Int.reduceBEq, Int.reduceLT, Int.reduceLE, Int.reduceNeg, Int.reduceBNe, bl, newB, ch, ck, cj, bne, ↓aj, ↓ai, ↓aa, ↓am, bc, aP, bm, bu, aE, bH, Call.operands, ty3, ty4])
/-! ### rostrumref.numberMay -/
def n91 : cC where
  keep := fun i => match i with
    | 0 => [0]
    | 1 => [2]
    | _ => []
  ro := fun _ => false
  mv := fun _ => false
  give := fun _ => false
  free := fun _ => []
theorem n91k0 : n91.keep 0 = [0] := rfl
theorem n91k1 : n91.keep 1 = [2] := rfl
theorem n91ro (t : Nat) : n91.ro t = (false) := rfl
theorem n91mv (t : Nat) : n91.mv t = (false) := rfl
theorem n91gv (t : Nat) : n91.give t = (false) := rfl
theorem res91 : Try.f91.results.toList = [.tmp 2] := rfl
noncomputable def b91 : Code := aQ Try.f91
set_option maxRecDepth 100000 in
set_option maxHeartbeats 40000000 in
theorem r_rostrumref_numberMay (C : ak) (k_rostrumref_In : K_rostrumref_In C) (p0 : Int) (r : Bool) (hF : rostrumref_numberMay p0 = some r) : cF TT C.wide (evW TT C.wide n91 b91) n91 Try.f91.results.toList (aQ Try.f91) [.v (.i .i64 p0)] [] = some (.v (.b r), []) := by
  unfold rostrumref_numberMay at hF
  have g1 : C.wide 55 [.v (.i .i64 p0), .v (.i .i64 1), .v (.i .i64 1048576)] [] = some (.v (.b (rostrumref_In_v p0 1 1048576)), []) := k_rostrumref_In p0 1 1048576 _ (rostrumref_In_t p0 1 1048576)
  have g2 : rostrumref_In_v p0 1 1048576 = (decide (1 ≤ p0) && decide (p0 ≤ 1048576)) := by first | rfl | (simp [rostrumref_In_v]; done) | (simp only [rostrumref_In_v]; decide)
  have hR := Option.some.inj hF
  clear hF
  subst hR
  all_goals (rw [ba]; show cp _ _ _ (aH _ _ _ _ (Code.seq _ _) _) = _; simp (maxSteps := 4000000) only [*, res91, n91k0, n91k1, n91ro, n91mv, n91gv, ↓RP, RB, ↓ah, ↓ac, ↓af, ↓ad, ↓ae, enter, aW, aC, aZ, be, aM, Mx.bw, opnd, Mx.bF, Nat.reduceBEq, bK, Mx.fit, bI, bY, toVs, cellsOf, toV, aO, aB, ax, Mx.put, ofConst, ofCell, Mx.prune, killB, killBs, aK, putDst, au, ao, aD, loadAt, bM, List.map, Nat.reduceAdd, Nat.reduceMul, cm, cn, aF, eqC, cg, aN, reduceIte, reduceCtorEq, az, bn, bq, co, bN, bD, aL, bx, lowC, lowP, forceAll, bound, bW, bg, bv, aU, br, kill, spendLoc, spendOk, setOwn, dropAl, dropAls, bG, bP, bd, cb, lend, lendA, aS, ay, bU, bL, bare, bQ, frz, bZ, bo, argE, argsE, bB, bT, fill, setCells, bR, takeParts, bp, aR, ownAt, Nat.reduceBNe, Nat.reduceSub, Nat.reduceLT, Nat.reduceLeDiff, lowA, bi, bJ, av, aJ, aX, bX, bO, bE, bS, ce, bV, bk, aI, bh, bj, bf, cd, Op.operands, Int.reduceBEq, Int.reduceLT, Int.reduceLE, Int.reduceNeg, Int.reduceBNe, bl, newB, ch, ck, cj, bne, ↓aj, ↓ai, ↓aa, ↓am, bc, aP, bm, bu, aE, bH, Call.operands, ty3, ty4])
/-! ### rostrumref.fieldMay -/
def n81 : cC where
  keep := fun i => match i with
    | 0 => [0]
    | 1 => [2]
    | _ => []
  ro := fun _ => false
  mv := fun _ => false
  give := fun _ => false
  free := fun _ => []
theorem n81k0 : n81.keep 0 = [0] := rfl
theorem n81k1 : n81.keep 1 = [2] := rfl
theorem n81ro (t : Nat) : n81.ro t = (false) := rfl
theorem n81mv (t : Nat) : n81.mv t = (false) := rfl
theorem n81gv (t : Nat) : n81.give t = (false) := rfl
theorem res81 : Try.f81.results.toList = [.tmp 2] := rfl
noncomputable def b81 : Code := aQ Try.f81
set_option maxRecDepth 100000 in
set_option maxHeartbeats 40000000 in
theorem r_rostrumref_fieldMay (C : ak) (k_rostrumref_In : K_rostrumref_In C) (p0 : ByteArray) (r : Bool) (hF : rostrumref_fieldMay p0 = some r) : cF TT C.wide (evW TT C.wide n81 b81) n81 Try.f81.results.toList (aQ Try.f81) [.v (.s p0)] [] = some (.v (.b r), []) := by
  unfold rostrumref_fieldMay at hF
  have g1 : C.wide 55 [.v (.i .i64 (p0.size : Int)), .v (.i .i64 1), .v (.i .i64 12)] [] = some (.v (.b (rostrumref_In_v (p0.size : Int) 1 12)), []) := k_rostrumref_In (p0.size : Int) 1 12 _ (rostrumref_In_t (p0.size : Int) 1 12)
  have g2 : rostrumref_In_v (p0.size : Int) 1 12 = (decide (1 ≤ (p0.size : Int)) && decide ((p0.size : Int) ≤ 12)) := by first | rfl | (simp [rostrumref_In_v]; done) | (simp only [rostrumref_In_v]; decide)
  have hR := Option.some.inj hF
  clear hF
  subst hR
  all_goals (rw [ba]; show cp _ _ _ (aH _ _ _ _ (Code.seq _ _) _) = _; simp (maxSteps := 4000000) only [*, res81, n81k0, n81k1, n81ro, n81mv, n81gv, ↓RP, RB, ↓ah, ↓ac, ↓af, ↓ad, ↓ae, enter, aW, aC, aZ, be, aM, Mx.bw, opnd, Mx.bF, Nat.reduceBEq, bK, Mx.fit, bI, bY, toVs, cellsOf, toV, aO, aB, ax, Mx.put, ofConst, ofCell, Mx.prune, killB, killBs, aK, putDst, au, ao, aD, loadAt, bM, List.map, Nat.reduceAdd, Nat.reduceMul, cm, cn, aF, eqC, cg, aN, reduceIte, reduceCtorEq, az, bn, bq, co, bN, bD, aL, bx, lowC, lowP, forceAll, bound, bW, bg, bv, aU, br, kill, spendLoc, spendOk, setOwn, dropAl, dropAls, bG, bP, bd, cb, lend, lendA, aS, ay, bU, bL, bare, bQ, frz, bZ, bo, argE, argsE, bB, bT, fill, setCells, bR, takeParts, bp, aR, ownAt, Nat.reduceBNe, Nat.reduceSub, Nat.reduceLT, Nat.reduceLeDiff, lowA, bi, bJ, av, aJ, aX, bX, bO, bE, bS, ce, bV, bk, aI, bh, bj, bf, cd, Op.operands, Int.reduceBEq, Int.reduceLT, Int.reduceLE, Int.reduceNeg, Int.reduceBNe, bl, newB, ch, ck, cj, bne, ↓aj, ↓ai, ↓aa, ↓am, bc, aP, bm, bu, aE, bH, Call.operands, ty3, ty4, ty9])
/-! ### rostrumref.textMay -/
def n80 : cC where
  keep := fun i => match i with
    | 0 => [0]
    | 1 => [2]
    | _ => []
  ro := fun _ => false
  mv := fun _ => false
  give := fun _ => false
  free := fun _ => []
theorem n80k0 : n80.keep 0 = [0] := rfl
theorem n80k1 : n80.keep 1 = [2] := rfl
theorem n80ro (t : Nat) : n80.ro t = (false) := rfl
theorem n80mv (t : Nat) : n80.mv t = (false) := rfl
theorem n80gv (t : Nat) : n80.give t = (false) := rfl
theorem res80 : Try.f80.results.toList = [.tmp 2] := rfl
noncomputable def b80 : Code := aQ Try.f80
set_option maxRecDepth 100000 in
set_option maxHeartbeats 40000000 in
theorem r_rostrumref_textMay (C : ak)  (p0 : ByteArray) (r : Bool) (hF : rostrumref_textMay p0 = some r) : cF TT C.wide (evW TT C.wide n80 b80) n80 Try.f80.results.toList (aQ Try.f80) [.v (.s p0)] [] = some (.v (.b r), []) := by
  unfold rostrumref_textMay at hF
  have hR := Option.some.inj hF
  clear hF
  subst hR
  all_goals (rw [ba]; show cp _ _ _ (aH _ _ _ _ (Code.seq _ _) _) = _; simp (maxSteps := 4000000) only [*, res80, n80k0, n80k1, n80ro, n80mv, n80gv, ↓RP, RB, ↓ah, ↓ac, ↓af, ↓ad, ↓ae, enter, aW, aC, aZ, be, aM, Mx.bw, opnd, Mx.bF, Nat.reduceBEq, bK, Mx.fit, bI, bY, toVs, cellsOf, toV, aO, aB, ax, Mx.put, ofConst, ofCell, Mx.prune, killB, killBs, aK, putDst, au, ao, aD, loadAt, bM, List.map, Nat.reduceAdd, Nat.reduceMul, cm, cn, aF, eqC, cg, aN, reduceIte, reduceCtorEq, az, bn, bq, co, bN, bD, aL, bx, lowC, lowP, forceAll, bound, bW, bg, bv, aU, br, kill, spendLoc, spendOk, setOwn, dropAl, dropAls, bG, bP, bd, cb, lend, lendA, aS, ay, bU, bL, bare, bQ, frz, bZ, bo, argE, argsE, bB, bT, fill, setCells, bR, takeParts, bp, aR, ownAt, Nat.reduceBNe, Nat.reduceSub, Nat.reduceLT, Nat.reduceLeDiff, lowA, bi, bJ, av, aJ, aX, bX, bO, bE, bS, ce, bV, bk, aI, bh, bj, bf, cd, Op.operands, Int.reduceBEq, Int.reduceLT, Int.reduceLE, Int.reduceNeg, Int.reduceBNe, bl, newB, ch, ck, cj, bne, ↓aj, ↓ai, ↓aa, ↓am, bc, aP, bm, bu, aE, bH, Call.operands, ty3, ty4, ty9])
/-! ### rostrumref.countMay -/
def n82 : cC where
  keep := fun i => match i with
    | 0 => [0]
    | 1 => [2]
    | _ => []
  ro := fun _ => false
  mv := fun _ => false
  give := fun _ => false
  free := fun _ => []
theorem n82k0 : n82.keep 0 = [0] := rfl
theorem n82k1 : n82.keep 1 = [2] := rfl
theorem n82ro (t : Nat) : n82.ro t = (false) := rfl
theorem n82mv (t : Nat) : n82.mv t = (false) := rfl
theorem n82gv (t : Nat) : n82.give t = (false) := rfl
theorem res82 : Try.f82.results.toList = [.tmp 2] := rfl
noncomputable def b82 : Code := aQ Try.f82
set_option maxRecDepth 100000 in
set_option maxHeartbeats 40000000 in
theorem r_rostrumref_countMay (C : ak) (k_rostrumref_In : K_rostrumref_In C) (p0 : Int) (r : Bool) (hF : rostrumref_countMay p0 = some r) : cF TT C.wide (evW TT C.wide n82 b82) n82 Try.f82.results.toList (aQ Try.f82) [.v (.i .i64 p0)] [] = some (.v (.b r), []) := by
  unfold rostrumref_countMay at hF
  have g1 : C.wide 55 [.v (.i .i64 p0), .v (.i .i64 (-1099511627776)), .v (.i .i64 1099511627776)] [] = some (.v (.b (rostrumref_In_v p0 (-1099511627776) 1099511627776)), []) := k_rostrumref_In p0 (-1099511627776) 1099511627776 _ (rostrumref_In_t p0 (-1099511627776) 1099511627776)
  have g2 : rostrumref_In_v p0 (-1099511627776) 1099511627776 = (decide ((-1099511627776) ≤ p0) && decide (p0 ≤ 1099511627776)) := by first | rfl | (simp [rostrumref_In_v]; done) | (simp only [rostrumref_In_v]; decide)
  have hR := Option.some.inj hF
  clear hF
  subst hR
  all_goals (rw [ba]; show cp _ _ _ (aH _ _ _ _ (Code.seq _ _) _) = _; simp (maxSteps := 4000000) only [*, res82, n82k0, n82k1, n82ro, n82mv, n82gv, ↓RP, RB, ↓ah, ↓ac, ↓af, ↓ad, ↓ae, enter, aW, aC, aZ, be, aM, Mx.bw, opnd, Mx.bF, Nat.reduceBEq, bK, Mx.fit, bI, bY, toVs, cellsOf, toV, aO, aB, ax, Mx.put, ofConst, ofCell, Mx.prune, killB, killBs, aK, putDst, au, ao, aD, loadAt, bM, List.map, Nat.reduceAdd, Nat.reduceMul, cm, cn, aF, eqC, cg, aN, reduceIte, reduceCtorEq, az, bn, bq, co, bN, bD, aL, bx, lowC, lowP, forceAll, bound, bW, bg, bv, aU, br, kill, spendLoc, spendOk, setOwn, dropAl, dropAls, bG, bP, bd, cb, lend, lendA, aS, ay, bU, bL, bare, bQ, frz, bZ, bo, argE, argsE, bB, bT, fill, setCells, bR, takeParts, bp, aR, ownAt, Nat.reduceBNe, Nat.reduceSub, Nat.reduceLT, Nat.reduceLeDiff, lowA, bi, bJ, av, aJ, aX, bX, bO, bE, bS, ce, bV, bk, aI, bh, bj, bf, cd, Op.operands, Int.reduceBEq, Int.reduceLT, Int.reduceLE, Int.reduceNeg, Int.reduceBNe, bl, newB, ch, ck, cj, bne, ↓aj, ↓ai, ↓aa, ↓am, bc, aP, bm, bu, aE, bH, Call.operands, ty3, ty4])
end Go.Proofs.Ytnjkmbogbfjffaa
