/- The code of these functions, run by the machine Mx, gives what the plain functions say, if their callees do (part 2). -/
import Derived.Test.YtnjkmbogbfjffaaWTy
import Derived.Test.YtnjkmbogbfjffaaStoreChecksD
set_option linter.unusedSimpArgs false
set_option linter.unusedVariables false
set_option linter.constructorNameAsVariable false
set_option linter.unnecessarySimpa false
set_option maxRecDepth 100000
set_option maxHeartbeats 40000000
namespace Go.Proofs.Ytnjkmbogbfjffaa
open Go Go.Mx Go.Proofs
set_option linter.unusedSimpArgs true
def n34 : cC where
  keep := fun i => match i with
    | 0 => [1]
    | 1 => [1, 18]
    | 2 => [2]
    | 3 => [1, 20, 21, 22]
    | 4 => [1, 20, 21, 22, 23]
    | 5 => [1, 3, 4, 20, 21, 22]
    | 6 => [1, 4, 20, 21, 22, 58]
    | 7 => [2]
    | 8 => [1, 20, 21, 22, 73]
    | 9 => [2]
    | 10 => [1, 20, 21, 22]
    | 11 => [2]
    | _ => []
  ro := fun t => t == 1
  mv := fun _ => false
  give := fun _ => false
  free := fun i => match i with | 6 => [(20, 22), (21, 22), (20, 23), (21, 23), (20, 27), (21, 27), (22, 27), (23, 27), (24, 27), (25, 27), (26, 27), (20, 28), (21, 28), (22, 28), (23, 28), (24, 28), (25, 28), (26, 28)] | _ => []
  alive := fun i x => match i, x with
    | 18, true => some []
    | 18, false => some [1]
    | 23, true => some [1, 20, 21, 22]
    | 23, false => some []
    | 58, true => some []
    | 58, false => some [1, 4, 20, 21, 22]
    | 73, true => some []
    | 73, false => some [1, 20, 21, 22]
    | _, _ => none
theorem n34a18t (e : Env) (S : aA) : aw n34 18 true ⟨e, S⟩ = ⟨prune [] e, S⟩ := rfl
theorem n34a18f (e : Env) (S : aA) : aw n34 18 false ⟨e, S⟩ = ⟨prune [1] e, S⟩ := rfl
theorem n34a23t (e : Env) (S : aA) : aw n34 23 true ⟨e, S⟩ = ⟨prune [1, 20, 21, 22] e, S⟩ := rfl
theorem n34a23f (e : Env) (S : aA) : aw n34 23 false ⟨e, S⟩ = ⟨prune [] e, S⟩ := rfl
theorem n34a58t (e : Env) (S : aA) : aw n34 58 true ⟨e, S⟩ = ⟨prune [] e, S⟩ := rfl
theorem n34a58f (e : Env) (S : aA) : aw n34 58 false ⟨e, S⟩ = ⟨prune [1, 4, 20, 21, 22] e, S⟩ := rfl
theorem n34a73t (e : Env) (S : aA) : aw n34 73 true ⟨e, S⟩ = ⟨prune [] e, S⟩ := rfl
theorem n34a73f (e : Env) (S : aA) : aw n34 73 false ⟨e, S⟩ = ⟨prune [1, 20, 21, 22] e, S⟩ := rfl
theorem n34k0 : n34.keep 0 = [1] := rfl
theorem n34k1 : n34.keep 1 = [1, 18] := rfl
theorem n34k2 : n34.keep 2 = [2] := rfl
theorem n34k3 : n34.keep 3 = [1, 20, 21, 22] := rfl
theorem n34k4 : n34.keep 4 = [1, 20, 21, 22, 23] := rfl
theorem n34k5 : n34.keep 5 = [1, 3, 4, 20, 21, 22] := rfl
theorem n34k6 : n34.keep 6 = [1, 4, 20, 21, 22, 58] := rfl
theorem n34k7 : n34.keep 7 = [2] := rfl
theorem n34k8 : n34.keep 8 = [1, 20, 21, 22, 73] := rfl
theorem n34k9 : n34.keep 9 = [2] := rfl
theorem n34k10 : n34.keep 10 = [1, 20, 21, 22] := rfl
theorem n34k11 : n34.keep 11 = [2] := rfl
theorem n34ro (t : Nat) : n34.ro t = (t == 1) := rfl
theorem n34mv (t : Nat) : n34.mv t = (false) := rfl
theorem n34gv (t : Nat) : n34.give t = (false) := rfl
theorem n34f6 : n34.free 6 = [(20, 22), (21, 22), (20, 23), (21, 23), (20, 27), (21, 27), (22, 27), (23, 27), (24, 27), (25, 27), (26, 27), (20, 28), (21, 28), (22, 28), (23, 28), (24, 28), (25, 28), (26, 28)] := rfl
theorem res34 : Try.f34.results.toList = [.tmp 2] := rfl
noncomputable def b34 : Code := aQ Try.f34
noncomputable def c34_0 : Code := (bz 0 (aQ Try.f34)).getD .skip
theorem fl34_0 : bz 0 b34 = some c34_0 := rfl
theorem rg_store_Check_k1 (C : ak)  (p0 : GStore) (c : Code) (ho : cr 0 1 b34 = some c) (r : Bool) (hF : ck_store_Check_k1 p0 = some r) : aH TT C.wide (evW TT C.wide n34 b34) n34 c ⟨[(1, .rp [.i .i64 p0.fNow, .sl 8 (ab GEntry.row p0.fEntries)])], []⟩ = some (.normal, ⟨[(1, .rp [.i .i64 p0.fNow, .sl 8 (ab GEntry.row p0.fEntries)]), (18, .v (.b r))], []⟩) := by
  have e := Option.some.inj (ho.symm.trans (rfl : cr 0 1 b34 = some _))
  subst e
  clear ho
  unfold ck_store_Check_k1 at hF
  refine aG (decide (p0.fNow < 0)) ?_ ?_
  focus
    intro h1
    replace hF := aq h1 hF
    cases hF
  rotate_left 1
  intro h1
  replace hF := ar h1 hF
  refine aG (decide (1073741824 < p0.fNow)) ?_ ?_
  focus
    intro h2
    replace hF := aq h2 hF
    cases hF
  rotate_left 1
  intro h2
  replace hF := ar h2 hF
  cases hF
  all_goals (simp (maxSteps := 4000000) only [*, n34k1, n34mv, ↓RP, RB, aW, aC, aZ, Mx.bw, opnd, Mx.bF, Nat.reduceBEq, bK, aO, aB, ax, Mx.put, ofConst, ofCell, Mx.prune, killB, aK, putDst, au, aD, loadAt, bM, List.map, cm, cn, cg, ck, cj, bc, ty3, ty61, ty63, ↓aa _ _ _ _ 1])
theorem rg_store_Check_k6v2 (C : ak) (k_value_Check : K_value_Check C) (p0 : GStore) (p1 : Int) (p2 : List GEntry) (p3 : Int) (p4 : GEntry) (c : Code) (ho : cr 0 6 b34 = some c) (r : Bool) (hF : ck_store_Check_k6v2 p0 p1 p2 p3 p4 = some r) : aH TT C.wide (evW TT C.wide n34 b34) n34 c ⟨[(1, .rp [.i .i64 p0.fNow, .sl 8 (ab GEntry.row p0.fEntries)]), (3, .v (.i .i64 p1)), (4, .ptr 0 0), (20, .v (.sl 8 (ab GEntry.row p2))), (21, .v (.i .i64 p3)), (22, .v (.i .i64 p1))], [[.v (.s p4.fKey), .v (.i .i64 p4.fValue.fKind), .v (.s p4.fValue.fText), .v (.i .i64 p4.fValue.fCount), .v (.sl 2 (ab GPair.row p4.fValue.fPairs)), .v (.sl 1 (ab aY p4.fValue.fItems)), .v (.sl 2 (ab GScore.row p4.fValue.fScores)), .v (.i .i64 p4.fUntil)]]⟩ = some (.normal, ⟨[(1, .rp [.i .i64 p0.fNow, .sl 8 (ab GEntry.row p0.fEntries)]), (4, .ptr 0 0), (20, .v (.sl 8 (ab GEntry.row p2))), (21, .v (.i .i64 p3)), (22, .v (.i .i64 p1)), (58, .v (.b r))], [[.v (.s p4.fKey), .v (.i .i64 p4.fValue.fKind), .v (.s p4.fValue.fText), .v (.i .i64 p4.fValue.fCount), .v (.sl 2 (ab GPair.row p4.fValue.fPairs)), .v (.sl 1 (ab aY p4.fValue.fItems)), .v (.sl 2 (ab GScore.row p4.fValue.fScores)), .v (.i .i64 p4.fUntil)]]⟩) := by
  have e := Option.some.inj (ho.symm.trans (rfl : cr 0 6 b34 = some _))
  subst e
  clear ho
  unfold ck_store_Check_k6v2 at hF
  refine aG (decide ((p4.fKey.size : Int) < 1)) ?_ ?_
  focus
    intro h1
    replace hF := aq h1 hF
    cases hF
  rotate_left 1
  intro h1
  replace hF := ar h1 hF
  refine aG (decide (12 < (p4.fKey.size : Int))) ?_ ?_
  focus
    intro h2
    replace hF := aq h2 hF
    cases hF
  rotate_left 1
  intro h2
  replace hF := ar h2 hF
  revert hF
  cases h3 : value_Check p4.fValue
  focus
    intro hF
    cases hF
  rename_i x1
  intro hF
  try dsimp only at hF
  have g1 : C.wide 28 [.agg [.v (.i .i64 p4.fValue.fKind), .v (.s p4.fValue.fText), .v (.i .i64 p4.fValue.fCount), .v (.sl 2 (ab GPair.row p4.fValue.fPairs)), .v (.sl 1 (ab aY p4.fValue.fItems)), .v (.sl 2 (ab GScore.row p4.fValue.fScores))]] [] = some (.v (.i .i64 x1), []) := k_value_Check p4.fValue _ h3
  refine aT (x1 == 0) ?_ ?_
  focus
    intro h4
    replace hF := ar h4 hF
    cases hF
  rotate_left 1
  intro h4
  replace hF := aq h4 hF
  refine aT (decide (0 < p1)) ?_ ?_
  focus
    intro h5
    replace hF := ar h5 hF
    cases hF
  rotate_left 1
  intro h5
  replace hF := aq h5 hF
  revert hF
  cases h6 : idx p0.fEntries (IntKind.i64.wrap (p1 - 1))
  focus
    intro hF
    cases hF
  rename_i x2
  intro hF
  try dsimp only at hF
  have g2 : decide (0 ≤ (IntKind.i64.wrap (p1 - 1))) = true := (cc h6).1
  have g3 : (ab GEntry.row p0.fEntries)[((IntKind.i64.wrap (p1 - 1)) : Int).toNat]? = some [.s x2.fKey, .i .i64 x2.fValue.fKind, .s x2.fValue.fText, .i .i64 x2.fValue.fCount, .sl 2 (ab GPair.row x2.fValue.fPairs), .sl 1 (ab aY x2.fValue.fItems), .sl 2 (ab GScore.row x2.fValue.fScores), .i .i64 x2.fUntil] := ca _ h6
  cases hF
  all_goals (simp (maxSteps := 4000000) only [*, n34k6, n34f6, n34mv, ↓RP, RB, aW, aC, aZ, Mx.bw, opnd, Mx.bF, Nat.reduceBEq, bK, aO, aB, ax, Mx.put, ofConst, ofCell, Mx.prune, killB, aK, putDst, au, aD, loadAt, bM, List.map, Nat.reduceAdd, cm, cn, cg, forceAll, bg, lend, lendA, aS, ay, bL, bare, bQ, bB, Nat.reduceSub, aJ, aX, bX, bE, ce, bV, bk, aI, bh, Op.operands, newB, ch, ck, cj, bne, bc, aP, bm, Call.operands, ty9, ty53, ty61, ty63, ty117, ↓am _ _ _ _ 6])
theorem rg_store_Check_k8v2 (C : ak)  (p0 : GStore) (p1 : List GEntry) (p2 : Int) (p3 : Int) (p4 : GEntry) (c : Code) (ho : cr 0 8 b34 = some c) (r : Bool) (hF : ck_store_Check_k8v2 p0 p1 p2 p3 p4 = some r) : aH TT C.wide (evW TT C.wide n34 b34) n34 c ⟨[(1, .rp [.i .i64 p0.fNow, .sl 8 (ab GEntry.row p0.fEntries)]), (4, .ptr 0 0), (20, .v (.sl 8 (ab GEntry.row p1))), (21, .v (.i .i64 p2)), (22, .v (.i .i64 p3))], [[.v (.s p4.fKey), .v (.i .i64 p4.fValue.fKind), .v (.s p4.fValue.fText), .v (.i .i64 p4.fValue.fCount), .v (.sl 2 (ab GPair.row p4.fValue.fPairs)), .v (.sl 1 (ab aY p4.fValue.fItems)), .v (.sl 2 (ab GScore.row p4.fValue.fScores)), .v (.i .i64 p4.fUntil)]]⟩ = some (.normal, ⟨[(1, .rp [.i .i64 p0.fNow, .sl 8 (ab GEntry.row p0.fEntries)]), (20, .v (.sl 8 (ab GEntry.row p1))), (21, .v (.i .i64 p2)), (22, .v (.i .i64 p3)), (73, .v (.b r))], [[.v (.s p4.fKey), .v (.i .i64 p4.fValue.fKind), .v (.s p4.fValue.fText), .v (.i .i64 p4.fValue.fCount), .v (.sl 2 (ab GPair.row p4.fValue.fPairs)), .v (.sl 1 (ab aY p4.fValue.fItems)), .v (.sl 2 (ab GScore.row p4.fValue.fScores)), .v (.i .i64 p4.fUntil)]]⟩) := by
  have e := Option.some.inj (ho.symm.trans (rfl : cr 0 8 b34 = some _))
  subst e
  clear ho
  unfold ck_store_Check_k8v2 at hF
  refine aG (p4.fUntil == 0) ?_ ?_
  focus
    intro h1
    replace hF := aq h1 hF
    cases hF
  rotate_left 1
  intro h1
  replace hF := ar h1 hF
  refine aG (decide (p4.fUntil ≤ p0.fNow)) ?_ ?_
  focus
    intro h2
    replace hF := aq h2 hF
    cases hF
  rotate_left 1
  intro h2
  replace hF := ar h2 hF
  cases hF
  all_goals (simp (maxSteps := 4000000) only [*, n34k8, n34mv, ↓RP, RB, aW, aC, aZ, Mx.bw, opnd, Mx.bF, Nat.reduceBEq, bK, aO, aB, ax, Mx.put, ofConst, ofCell, Mx.prune, killB, aK, putDst, au, aD, loadAt, bM, List.map, cm, cn, ck, cj, bne, bc, ty3, ty63, ty117, ↓aa _ _ _ _ 8])
def hd_store_Check_0 (p0 : GStore) (p1 : List GEntry) (p2 : Int) (s : Int) : St := ⟨[(1, .rp [.i .i64 p0.fNow, .sl 8 (ab GEntry.row p0.fEntries)]), (20, .v (.sl 8 (ab GEntry.row p1))), (21, .v (.i .i64 p2)), (22, .v (.i .i64 s))], []⟩
def ou_store_Check_0 (p0 : GStore) (p1 : List GEntry) (p2 : Int) (r : GEntry ⊕ Unit) : Option (Ex × St) := match r with
  | .inl r => some (.ret, ⟨[(2, .v (.i .i64 13))], [[.v (.s r.fKey), .v (.i .i64 r.fValue.fKind), .v (.s r.fValue.fText), .v (.i .i64 r.fValue.fCount), .v (.sl 2 (ab GPair.row r.fValue.fPairs)), .v (.sl 1 (ab aY r.fValue.fItems)), .v (.sl 2 (ab GScore.row r.fValue.fScores)), .v (.i .i64 r.fUntil)]]⟩)
  | .inr r => some (.normal, ⟨[], []⟩)

theorem sl_store_Check_0 (C : ak) (k_value_Check : K_value_Check C) (p0 : GStore) (p1 : List GEntry) (p2 : Int) (p3 : Int) (o : Int ⊕ (GEntry ⊕ Unit)) (hF : st_store_Check_0 p0 p1 p2 p3 = some o) : evW TT C.wide n34 b34 0 (hd_store_Check_0 p0 p1 p2 p3) = Sum.elim (fun s => evW TT C.wide n34 b34 0 (hd_store_Check_0 p0 p1 p2 s)) (fun r => ou_store_Check_0 p0 p1 p2 r) o := by
  unfold st_store_Check_0 at hF
  try dsimp only at hF
  rw [ct TT n34 fl34_0]
  refine aT (decide (p3 < p2)) ?_ ?_
  focus
    intro h1
    replace hF := ar h1 hF
    cases hF
  rotate_left 1
  intro h1
  replace hF := aq h1 hF
  revert hF
  cases h2 : idx p1 p3
  focus
    intro hF
    cases hF
  rename_i x1
  intro hF
  try dsimp only at hF
  have g1 : decide (0 ≤ p3) = true := (cc h2).1
  have g2 : (ab GEntry.row p1)[(p3 : Int).toNat]? = some [.s x1.fKey, .i .i64 x1.fValue.fKind, .s x1.fValue.fText, .i .i64 x1.fValue.fCount, .sl 2 (ab GPair.row x1.fValue.fPairs), .sl 1 (ab aY x1.fValue.fItems), .sl 2 (ab GScore.row x1.fValue.fScores), .i .i64 x1.fUntil] := ca _ h2
  revert hF
  cases h3 : ck_store_Check_k6v2 p0 p3 p1 p2 x1
  focus
    intro hF
    cases hF
  rename_i x2
  intro hF
  try dsimp only at hF
  have g3 : @cR TT C.wide (evW TT C.wide n34 b34) n34 0 6 ⟨[(1, .rp [.i .i64 p0.fNow, .sl 8 (ab GEntry.row p0.fEntries)]), (3, .v (.i .i64 p3)), (4, .ptr 0 0), (20, .v (.sl 8 (ab GEntry.row p1))), (21, .v (.i .i64 p2)), (22, .v (.i .i64 p3))], [[.v (.s x1.fKey), .v (.i .i64 x1.fValue.fKind), .v (.s x1.fValue.fText), .v (.i .i64 x1.fValue.fCount), .v (.sl 2 (ab GPair.row x1.fValue.fPairs)), .v (.sl 1 (ab aY x1.fValue.fItems)), .v (.sl 2 (ab GScore.row x1.fValue.fScores)), .v (.i .i64 x1.fUntil)]]⟩ ⟨_⟩ = some (.normal, ⟨[(1, .rp [.i .i64 p0.fNow, .sl 8 (ab GEntry.row p0.fEntries)]), (4, .ptr 0 0), (20, .v (.sl 8 (ab GEntry.row p1))), (21, .v (.i .i64 p2)), (22, .v (.i .i64 p3)), (58, .v (.b x2))], [[.v (.s x1.fKey), .v (.i .i64 x1.fValue.fKind), .v (.s x1.fValue.fText), .v (.i .i64 x1.fValue.fCount), .v (.sl 2 (ab GPair.row x1.fValue.fPairs)), .v (.sl 1 (ab aY x1.fValue.fItems)), .v (.sl 2 (ab GScore.row x1.fValue.fScores)), .v (.i .i64 x1.fUntil)]]⟩) := rg_store_Check_k6v2 C k_value_Check p0 p3 p1 p2 x1 _ rfl _ h3
  refine aG x2 ?_ ?_
  focus
    intro h4
    replace hF := aq h4 hF
    cases hF
  rotate_left 1
  intro h4
  replace hF := ar h4 hF
  have g4 : @cR TT C.wide (evW TT C.wide n34 b34) n34 0 8 ⟨[(1, .rp [.i .i64 p0.fNow, .sl 8 (ab GEntry.row p0.fEntries)]), (4, .ptr 0 0), (20, .v (.sl 8 (ab GEntry.row p1))), (21, .v (.i .i64 p2)), (22, .v (.i .i64 p3))], [[.v (.s x1.fKey), .v (.i .i64 x1.fValue.fKind), .v (.s x1.fValue.fText), .v (.i .i64 x1.fValue.fCount), .v (.sl 2 (ab GPair.row x1.fValue.fPairs)), .v (.sl 1 (ab aY x1.fValue.fItems)), .v (.sl 2 (ab GScore.row x1.fValue.fScores)), .v (.i .i64 x1.fUntil)]]⟩ ⟨_⟩ = some (.normal, ⟨[(1, .rp [.i .i64 p0.fNow, .sl 8 (ab GEntry.row p0.fEntries)]), (20, .v (.sl 8 (ab GEntry.row p1))), (21, .v (.i .i64 p2)), (22, .v (.i .i64 p3)), (73, .v (.b (ck_store_Check_k8v2_v p0 p1 p2 p3 x1)))], [[.v (.s x1.fKey), .v (.i .i64 x1.fValue.fKind), .v (.s x1.fValue.fText), .v (.i .i64 x1.fValue.fCount), .v (.sl 2 (ab GPair.row x1.fValue.fPairs)), .v (.sl 1 (ab aY x1.fValue.fItems)), .v (.sl 2 (ab GScore.row x1.fValue.fScores)), .v (.i .i64 x1.fUntil)]]⟩) := rg_store_Check_k8v2 C p0 p1 p2 p3 x1 _ rfl (ck_store_Check_k8v2_v p0 p1 p2 p3 x1) (ck_store_Check_k8v2_t p0 p1 p2 p3 x1)
  refine aG (ck_store_Check_k8v2_v p0 p1 p2 p3 x1) ?_ ?_
  focus
    intro h5
    replace hF := aq h5 hF
    cases hF
  rotate_left 1
  intro h5
  replace hF := ar h5 hF
  cases hF
  all_goals (show cD _ _ _ (aH _ _ _ _ (Code.seq _ _) _) = _; simp (maxSteps := 4000000) only [*, hd_store_Check_0, ou_store_Check_0, n34a23t, n34a23f, n34a58t, n34a58f, n34a73t, n34a73f, n34k4, n34k5, n34k7, n34k9, n34k10, n34mv, ↓RP, RB, ↓ah, aZ, be, aM, Mx.bw, opnd, Mx.bF, Nat.reduceBEq, bK, Mx.fit, bI, bY, cellsOf, aO, aB, ax, Mx.put, ofConst, ofCell, Mx.prune, killB, killBs, aK, putDst, au, loadAt, bM, List.map, Nat.reduceAdd, cm, cn, bD, aL, lowC, bg, kill, bB, setCells, Nat.reduceLeDiff, lowA, bi, ck, cj, bne, ↓aj, ↓ai, ty3, ty25, ty61, ty117, ↓aa _ _ _ _ 4, ↓aa _ _ _ _ 5, ↓bC _ _ _ _ 6, ↓aa _ _ _ _ 7, ↓bC _ _ _ _ 8, ↓aa _ _ _ _ 9, ↓aa _ _ _ _ 10])
theorem r_store_Check (C : ak) (k_value_Check : K_value_Check C) (p0 : GStore) (r : Int) (hF : store_Check p0 = some r) : cF TT C.wide (evW TT C.wide n34 b34) n34 Try.f34.results.toList (aQ Try.f34) [.agg [.v (.i .i64 p0.fNow), .v (.sl 8 (ab GEntry.row p0.fEntries))]] [] = some (.v (.i .i64 r), []) := by
  unfold store_Check at hF
  have g1 : @cR TT C.wide (evW TT C.wide n34 b34) n34 0 1 ⟨[(1, .rp [.i .i64 p0.fNow, .sl 8 (ab GEntry.row p0.fEntries)])], []⟩ ⟨_⟩ = some (.normal, ⟨[(1, .rp [.i .i64 p0.fNow, .sl 8 (ab GEntry.row p0.fEntries)]), (18, .v (.b (ck_store_Check_k1_v p0)))], []⟩) := rg_store_Check_k1 C p0 _ rfl (ck_store_Check_k1_v p0) (ck_store_Check_k1_t p0)
  refine aG (ck_store_Check_k1_v p0) ?_ ?_
  focus
    intro h1
    replace hF := aq h1 hF
    have hR := Option.some.inj hF
    clear hF
    subst hR
  rotate_left 1
  intro h1
  replace hF := ar h1 hF
  revert hF
  cases h2 : ci (st_store_Check_0 p0 p0.fEntries (p0.fEntries.length : Int)) 0
  focus
    intro hF
    cases hF
  rename_i qh2
  cases qh2
  focus
    rename_i z0h2
    revert z0h2
    intro x1 h2
    intro hF
    try dsimp only at hF
    have g2 : evW TT C.wide n34 b34 0 ⟨[(1, .rp [.i .i64 p0.fNow, .sl 8 (ab GEntry.row p0.fEntries)]), (20, .v (.sl 8 (ab GEntry.row p0.fEntries))), (21, .v (.i .i64 (p0.fEntries.length : Int))), (22, .v (.i .i64 0))], []⟩ = some (.ret, ⟨[(2, .v (.i .i64 13))], [[.v (.s x1.fKey), .v (.i .i64 x1.fValue.fKind), .v (.s x1.fValue.fText), .v (.i .i64 x1.fValue.fCount), .v (.sl 2 (ab GPair.row x1.fValue.fPairs)), .v (.sl 1 (ab aY x1.fValue.fItems)), .v (.sl 2 (ab GScore.row x1.fValue.fScores)), .v (.i .i64 x1.fUntil)]]⟩) := cy (hd_store_Check_0 p0 p0.fEntries (p0.fEntries.length : Int)) (ou_store_Check_0 p0 p0.fEntries (p0.fEntries.length : Int)) (fun s o hs => sl_store_Check_0 C k_value_Check p0 p0.fEntries (p0.fEntries.length : Int) s o hs) h2
    have hR := Option.some.inj hF
    clear hF
    subst hR
  rotate_left 1
  rename_i y0h2
  intro hF
  try dsimp only at hF
  have g3 : evW TT C.wide n34 b34 0 ⟨[(1, .rp [.i .i64 p0.fNow, .sl 8 (ab GEntry.row p0.fEntries)]), (20, .v (.sl 8 (ab GEntry.row p0.fEntries))), (21, .v (.i .i64 (p0.fEntries.length : Int))), (22, .v (.i .i64 0))], []⟩ = some (.normal, ⟨[], []⟩) := cy (hd_store_Check_0 p0 p0.fEntries (p0.fEntries.length : Int)) (ou_store_Check_0 p0 p0.fEntries (p0.fEntries.length : Int)) (fun s o hs => sl_store_Check_0 C k_value_Check p0 p0.fEntries (p0.fEntries.length : Int) s o hs) h2
  have hR := Option.some.inj hF
  clear hF
  subst hR
  all_goals (rw [ba]; show cp _ _ _ (aH _ _ _ _ (Code.seq _ _) _) = _; simp (maxSteps := 4000000) only [*, res34, n34a18t, n34a18f, n34k0, n34k2, n34k3, n34k11, n34ro, n34mv, ↓RP, RB, enter, aZ, be, aM, Mx.bw, opnd, Mx.bF, Nat.reduceBEq, bK, Mx.fit, bI, bY, toVs, cellsOf, toV, aO, aB, ax, Mx.put, ofConst, ofCell, Mx.prune, killB, aK, putDst, au, aD, loadAt, bM, List.map, cg, az, bn, bq, co, bN, bD, aL, lowC, ↓aj, ↓ai, ty25, ty61, ty63, ↓aa _ _ _ _ 0, ↓bC _ _ _ _ 1, ↓aa _ _ _ _ 2, ↓aa _ _ _ _ 3, ↓aa _ _ _ _ 11])
set_option linter.unusedSimpArgs true
def n55 : cC where
  keep := fun i => match i with
    | 0 => [0, 1, 2]
    | 1 => [6]
    | _ => []
  ro := fun _ => false
  mv := fun _ => false
  give := fun _ => false
  free := fun _ => []
theorem n55k0 : n55.keep 0 = [0, 1, 2] := rfl
theorem n55k1 : n55.keep 1 = [6] := rfl
theorem n55ro (t : Nat) : n55.ro t = (false) := rfl
theorem n55mv (t : Nat) : n55.mv t = (false) := rfl
theorem n55gv (t : Nat) : n55.give t = (false) := rfl
theorem res55 : Try.f55.results.toList = [.tmp 6] := rfl
noncomputable def b55 : Code := aQ Try.f55
theorem r_rostrumref_In (C : ak)  (p0 : Int) (p1 : Int) (p2 : Int) (r : Bool) (hF : rostrumref_In p0 p1 p2 = some r) : cF TT C.wide (evW TT C.wide n55 b55) n55 Try.f55.results.toList (aQ Try.f55) [.v (.i .i64 p0), .v (.i .i64 p1), .v (.i .i64 p2)] [] = some (.v (.b r), []) := by
  unfold rostrumref_In at hF
  refine aG (decide (p1 ≤ p0)) ?_ ?_
  focus
    intro h1
    replace hF := aq h1 hF
    have hR := Option.some.inj hF
    clear hF
    subst hR
  rotate_left 1
  intro h1
  replace hF := ar h1 hF
  have hR := Option.some.inj hF
  clear hF
  subst hR
  all_goals (rw [ba]; show cp _ _ _ (aH _ _ _ _ (Code.seq _ _) _) = _; simp (maxSteps := 4000000) only [*, res55, n55k0, n55k1, ↓RP, RB, enter, aW, aC, aZ, be, aM, Mx.bw, opnd, Mx.bF, Nat.reduceBEq, bK, Mx.fit, bY, aO, aB, Mx.put, ofConst, ofCell, Mx.prune, killB, aK, putDst, au, List.map, Nat.reduceAdd, cm, cn, az, bn, bq, co, bN, bD, aL, lowC, ck, cj, ↓aj, ↓aa, bc, ty4])
set_option linter.unusedSimpArgs true
def n81 : cC where
  keep := fun i => match i with
    | 0 => [0]
    | 1 => [2]
    | _ => []
  ro := fun _ => false
  mv := fun _ => false
  give := fun _ => false
  free := fun _ => []
theorem n81k0 : n81.keep 0 = [0] := rfl
theorem n81k1 : n81.keep 1 = [2] := rfl
theorem n81ro (t : Nat) : n81.ro t = (false) := rfl
theorem n81mv (t : Nat) : n81.mv t = (false) := rfl
theorem n81gv (t : Nat) : n81.give t = (false) := rfl
theorem res81 : Try.f81.results.toList = [.tmp 2] := rfl
noncomputable def b81 : Code := aQ Try.f81
theorem r_rostrumref_fieldMay (C : ak) (k_rostrumref_In : K_rostrumref_In C) (p0 : ByteArray) (r : Bool) (hF : rostrumref_fieldMay p0 = some r) : cF TT C.wide (evW TT C.wide n81 b81) n81 Try.f81.results.toList (aQ Try.f81) [.v (.s p0)] [] = some (.v (.b r), []) := by
  unfold rostrumref_fieldMay at hF
  have g1 : C.wide 55 [.v (.i .i64 (p0.size : Int)), .v (.i .i64 1), .v (.i .i64 12)] [] = some (.v (.b (rostrumref_In_v (p0.size : Int) 1 12)), []) := k_rostrumref_In (p0.size : Int) 1 12 _ (rostrumref_In_t (p0.size : Int) 1 12)
  have g2 : rostrumref_In_v (p0.size : Int) 1 12 = (decide (1 ≤ (p0.size : Int)) && decide ((p0.size : Int) ≤ 12)) := by first | rfl | (simp [rostrumref_In_v]; done) | (simp only [rostrumref_In_v]; decide)
  have hR := Option.some.inj hF
  clear hF
  subst hR
  all_goals (rw [ba]; show cp _ _ _ (aH _ _ _ _ (Code.seq _ _) _) = _; simp (maxSteps := 4000000) only [*, res81, n81k0, n81k1, ↓RP, RB, enter, aZ, be, aM, Mx.bw, opnd, Mx.bF, Nat.reduceBEq, bK, Mx.fit, bY, aO, aB, Mx.put, ofConst, ofCell, Mx.prune, killB, aK, putDst, au, List.map, cg, az, bn, bq, co, bN, bD, aL, lowC, forceAll, lend, lendA, aS, ay, bL, bare, bQ, newB, ch, ↓aj, ↓aa, ty4, ty9])
set_option linter.unusedSimpArgs true
def n79 : cC where
  keep := fun i => match i with
    | 0 => [1]
    | 1 => [2]
    | _ => []
  ro := fun t => t == 1
  mv := fun _ => false
  give := fun _ => false
  free := fun _ => []
theorem n79k0 : n79.keep 0 = [1] := rfl
theorem n79k1 : n79.keep 1 = [2] := rfl
theorem n79ro (t : Nat) : n79.ro t = (t == 1) := rfl
theorem n79mv (t : Nat) : n79.mv t = (false) := rfl
theorem n79gv (t : Nat) : n79.give t = (false) := rfl
theorem res79 : Try.f79.results.toList = [.tmp 2] := rfl
noncomputable def b79 : Code := aQ Try.f79
theorem r_rostrumref_sizeOf (C : ak)  (p0 : GValue) (r : Int) (hF : rostrumref_sizeOf p0 = some r) : cF TT C.wide (evW TT C.wide n79 b79) n79 Try.f79.results.toList (aQ Try.f79) [.agg [.v (.i .i64 p0.fKind), .v (.s p0.fText), .v (.i .i64 p0.fCount), .v (.sl 2 (ab GPair.row p0.fPairs)), .v (.sl 1 (ab aY p0.fItems)), .v (.sl 2 (ab GScore.row p0.fScores))]] [] = some (.v (.i .i64 r), []) := by
  unfold rostrumref_sizeOf at hF
  have hR := Option.some.inj hF
  clear hF
  subst hR
  all_goals (rw [ba]; show cp _ _ _ (aH _ _ _ _ (Code.seq _ _) _) = _; simp (maxSteps := 4000000) only [*, res79, n79k0, n79k1, n79ro, n79mv, ↓RP, RB, enter, aZ, be, aM, Mx.bw, opnd, Mx.bF, Nat.reduceBEq, bK, Mx.fit, bI, bY, toVs, cellsOf, toV, aO, aB, ax, Mx.put, ofConst, ofCell, Mx.prune, killB, aK, putDst, au, aD, loadAt, bM, List.map, cm, cn, cg, az, bn, bq, co, bN, bD, aL, lowC, ck, cj, ↓aj, ↓aa, ty3, ty49, ty50, ty51, ty53])
set_option linter.unusedSimpArgs true
def n80 : cC where
  keep := fun i => match i with
    | 0 => [0]
    | 1 => [2]
    | _ => []
  ro := fun _ => false
  mv := fun _ => false
  give := fun _ => false
  free := fun _ => []
theorem n80k0 : n80.keep 0 = [0] := rfl
theorem n80k1 : n80.keep 1 = [2] := rfl
theorem n80ro (t : Nat) : n80.ro t = (false) := rfl
theorem n80mv (t : Nat) : n80.mv t = (false) := rfl
theorem n80gv (t : Nat) : n80.give t = (false) := rfl
theorem res80 : Try.f80.results.toList = [.tmp 2] := rfl
noncomputable def b80 : Code := aQ Try.f80
theorem r_rostrumref_textMay (C : ak)  (p0 : ByteArray) (r : Bool) (hF : rostrumref_textMay p0 = some r) : cF TT C.wide (evW TT C.wide n80 b80) n80 Try.f80.results.toList (aQ Try.f80) [.v (.s p0)] [] = some (.v (.b r), []) := by
  unfold rostrumref_textMay at hF
  have hR := Option.some.inj hF
  clear hF
  subst hR
  all_goals (rw [ba]; show cp _ _ _ (aH _ _ _ _ (Code.seq _ _) _) = _; simp (maxSteps := 4000000) only [*, res80, n80k0, n80k1, ↓RP, RB, enter, aZ, be, aM, Mx.bw, opnd, Mx.bF, Nat.reduceBEq, bK, Mx.fit, bY, aO, aB, Mx.put, ofConst, ofCell, Mx.prune, killB, aK, putDst, au, List.map, cm, cn, cg, az, bn, bq, co, bN, bD, aL, lowC, ck, cj, ↓aj, ↓aa, ty4, ty9])
set_option linter.unusedSimpArgs true
def n82 : cC where
  keep := fun i => match i with
    | 0 => [0]
    | 1 => [2]
    | _ => []
  ro := fun _ => false
  mv := fun _ => false
  give := fun _ => false
  free := fun _ => []
theorem n82k0 : n82.keep 0 = [0] := rfl
theorem n82k1 : n82.keep 1 = [2] := rfl
theorem n82ro (t : Nat) : n82.ro t = (false) := rfl
theorem n82mv (t : Nat) : n82.mv t = (false) := rfl
theorem n82gv (t : Nat) : n82.give t = (false) := rfl
theorem res82 : Try.f82.results.toList = [.tmp 2] := rfl
noncomputable def b82 : Code := aQ Try.f82
theorem r_rostrumref_countMay (C : ak) (k_rostrumref_In : K_rostrumref_In C) (p0 : Int) (r : Bool) (hF : rostrumref_countMay p0 = some r) : cF TT C.wide (evW TT C.wide n82 b82) n82 Try.f82.results.toList (aQ Try.f82) [.v (.i .i64 p0)] [] = some (.v (.b r), []) := by
  unfold rostrumref_countMay at hF
  have g1 : C.wide 55 [.v (.i .i64 p0), .v (.i .i64 (-1099511627776)), .v (.i .i64 1099511627776)] [] = some (.v (.b (rostrumref_In_v p0 (-1099511627776) 1099511627776)), []) := k_rostrumref_In p0 (-1099511627776) 1099511627776 _ (rostrumref_In_t p0 (-1099511627776) 1099511627776)
  have g2 : rostrumref_In_v p0 (-1099511627776) 1099511627776 = (decide ((-1099511627776) ≤ p0) && decide (p0 ≤ 1099511627776)) := by first | rfl | (simp [rostrumref_In_v]; done) | (simp only [rostrumref_In_v]; decide)
  have hR := Option.some.inj hF
  clear hF
  subst hR
  all_goals (rw [ba]; show cp _ _ _ (aH _ _ _ _ (Code.seq _ _) _) = _; simp (maxSteps := 4000000) only [*, res82, n82k0, n82k1, ↓RP, RB, enter, aZ, be, aM, Mx.bw, opnd, Mx.bF, Nat.reduceBEq, bK, Mx.fit, bY, aO, aB, Mx.put, ofConst, ofCell, Mx.prune, killB, aK, putDst, au, List.map, az, bn, bq, co, bN, bD, aL, lowC, forceAll, lend, lendA, aS, ay, bL, bare, bQ, Int.reduceNeg, newB, ch, ↓aj, ↓aa, ty4])
set_option linter.unusedSimpArgs true
def n83 : cC where
  keep := fun i => match i with
    | 0 => [2, 3]
    | 1 => [2, 3, 9]
    | 2 => [4]
    | 3 => [4]
    | _ => []
  ro := fun t => t == 2 || t == 3
  mv := fun _ => false
  give := fun _ => false
  free := fun _ => []
  alive := fun i x => match i, x with
    | 9, true => some [2, 3]
    | 9, false => some [2, 3]
    | _, _ => none
theorem n83a9t (e : Env) (S : aA) : aw n83 9 true ⟨e, S⟩ = ⟨prune [2, 3] e, S⟩ := rfl
theorem n83a9f (e : Env) (S : aA) : aw n83 9 false ⟨e, S⟩ = ⟨prune [2, 3] e, S⟩ := rfl
theorem n83k0 : n83.keep 0 = [2, 3] := rfl
theorem n83k1 : n83.keep 1 = [2, 3, 9] := rfl
theorem n83k2 : n83.keep 2 = [4] := rfl
theorem n83k3 : n83.keep 3 = [4] := rfl
theorem n83ro (t : Nat) : n83.ro t = (t == 2 || t == 3) := rfl
theorem n83mv (t : Nat) : n83.mv t = (false) := rfl
theorem n83gv (t : Nat) : n83.give t = (false) := rfl
theorem res83 : Try.f83.results.toList = [.tmp 4] := rfl
noncomputable def b83 : Code := aQ Try.f83
theorem r_rostrumref_scoreAhead (C : ak)  (p0 : GScore) (p1 : GScore) (r : Bool) (hF : rostrumref_scoreAhead p0 p1 = some r) : cF TT C.wide (evW TT C.wide n83 b83) n83 Try.f83.results.toList (aQ Try.f83) [.agg [.v (.s p0.fMember), .v (.i .i64 p0.fN)], .agg [.v (.s p1.fMember), .v (.i .i64 p1.fN)]] [] = some (.v (.b r), []) := by
  unfold rostrumref_scoreAhead at hF
  refine aG (p0.fN == p1.fN) ?_ ?_
  focus
    intro h1
    replace hF := aq h1 hF
    have hR := Option.some.inj hF
    clear hF
    subst hR
  rotate_left 1
  intro h1
  replace hF := ar h1 hF
  have hR := Option.some.inj hF
  clear hF
  subst hR
  all_goals (rw [ba]; show cp _ _ _ (aH _ _ _ _ (Code.seq _ _) _) = _; simp (maxSteps := 4000000) only [*, res83, n83a9t, n83a9f, n83k0, n83k1, n83k2, n83k3, n83ro, n83mv, ↓RP, RB, enter, aZ, be, aM, Mx.bw, opnd, Mx.bF, Nat.reduceBEq, bK, Mx.fit, bI, bY, toVs, cellsOf, toV, aO, aB, ax, Mx.put, ofConst, ofCell, Mx.prune, killB, aK, putDst, au, aD, loadAt, bM, List.map, cm, cn, az, bn, bq, co, bN, bD, aL, lowC, ck, cj, bne, ↓aj, ↓ai, ↓aa, ty3, ty4, ty9, ty105])
set_option linter.unusedSimpArgs true
def n84 : cC where
  keep := fun i => match i with
    | 0 => [0, 1]
    | 1 => [0, 1, 5]
    | 2 => [0, 1, 5, 9]
    | 3 => [0, 1, 5]
    | 4 => [0, 1, 5, 18]
    | 5 => [4]
    | 6 => [4]
    | _ => []
  ro := fun _ => false
  mv := fun _ => false
  give := fun _ => false
  free := fun _ => []
  alive := fun i x => match i, x with
    | 9, true => some [0, 1, 5]
    | 9, false => some []
    | 18, true => some [5]
    | 18, false => some [0, 1, 5]
    | _, _ => none
theorem n84a9t (e : Env) (S : aA) : aw n84 9 true ⟨e, S⟩ = ⟨prune [0, 1, 5] e, S⟩ := rfl
theorem n84a9f (e : Env) (S : aA) : aw n84 9 false ⟨e, S⟩ = ⟨prune [] e, S⟩ := rfl
theorem n84a18t (e : Env) (S : aA) : aw n84 18 true ⟨e, S⟩ = ⟨prune [5] e, S⟩ := rfl
theorem n84a18f (e : Env) (S : aA) : aw n84 18 false ⟨e, S⟩ = ⟨prune [0, 1, 5] e, S⟩ := rfl
theorem n84k0 : n84.keep 0 = [0, 1] := rfl
theorem n84k1 : n84.keep 1 = [0, 1, 5] := rfl
theorem n84k2 : n84.keep 2 = [0, 1, 5, 9] := rfl
theorem n84k3 : n84.keep 3 = [0, 1, 5] := rfl
theorem n84k4 : n84.keep 4 = [0, 1, 5, 18] := rfl
theorem n84k5 : n84.keep 5 = [4] := rfl
theorem n84k6 : n84.keep 6 = [4] := rfl
theorem n84ro (t : Nat) : n84.ro t = (false) := rfl
theorem n84mv (t : Nat) : n84.mv t = (false) := rfl
theorem n84gv (t : Nat) : n84.give t = (false) := rfl
theorem res84 : Try.f84.results.toList = [.tmp 4] := rfl
noncomputable def b84 : Code := aQ Try.f84
noncomputable def c84_0 : Code := (bz 0 (aQ Try.f84)).getD .skip
theorem fl84_0 : bz 0 b84 = some c84_0 := rfl
def hd_rostrumref_memberAt_0 (p0 : List GScore) (p1 : ByteArray) (s : Int) : St := ⟨[(0, .v (.sl 2 (ab GScore.row p0))), (1, .v (.s p1)), (5, .v (.i .i64 s))], []⟩
def ou_rostrumref_memberAt_0 (p0 : List GScore) (p1 : ByteArray) (r : Int ⊕ Unit) : Option (Ex × St) := match r with
  | .inl r => some (.ret, ⟨[(4, .v (.i .i64 r))], []⟩)
  | .inr r => some (.normal, ⟨[], []⟩)

theorem sl_rostrumref_memberAt_0 (C : ak)  (p0 : List GScore) (p1 : ByteArray) (p2 : Int) (o : Int ⊕ (Int ⊕ Unit)) (hF : st_rostrumref_memberAt_0 p0 p1 p2 = some o) : evW TT C.wide n84 b84 0 (hd_rostrumref_memberAt_0 p0 p1 p2) = Sum.elim (fun s => evW TT C.wide n84 b84 0 (hd_rostrumref_memberAt_0 p0 p1 s)) (fun r => ou_rostrumref_memberAt_0 p0 p1 r) o := by
  unfold st_rostrumref_memberAt_0 at hF
  try dsimp only at hF
  rw [ct TT n84 fl84_0]
  refine aT (decide (p2 < (p0.length : Int))) ?_ ?_
  focus
    intro h1
    replace hF := ar h1 hF
    cases hF
  rotate_left 1
  intro h1
  replace hF := aq h1 hF
  revert hF
  cases h2 : idx p0 p2
  focus
    intro hF
    cases hF
  rename_i x1
  intro hF
  try dsimp only at hF
  have g1 : decide (0 ≤ p2) = true := (cc h2).1
  have g2 : (ab GScore.row p0)[(p2 : Int).toNat]? = some [.s x1.fMember, .i .i64 x1.fN] := ca _ h2
  refine aG (cJ x1.fMember p1) ?_ ?_
  focus
    intro h3
    replace hF := aq h3 hF
    cases hF
  rotate_left 1
  intro h3
  replace hF := ar h3 hF
  cases hF
  all_goals (show cD _ _ _ (aH _ _ _ _ (Code.seq _ _) _) = _; simp (maxSteps := 4000000) only [*, hd_rostrumref_memberAt_0, ou_rostrumref_memberAt_0, n84a9t, n84a9f, n84a18t, n84a18f, n84k2, n84k3, n84k4, n84k5, n84mv, ↓RP, RB, ↓ah, aZ, be, aM, Mx.bw, opnd, Mx.bF, Nat.reduceBEq, bK, Mx.fit, bY, aO, aB, ax, Mx.put, ofConst, ofCell, Mx.prune, killB, aK, putDst, au, aD, loadAt, bM, List.map, cm, cn, cg, bg, ck, cj, ↓aj, ↓ai, ↓aa, ty3, ty9, ty51, ty105])
theorem r_rostrumref_memberAt (C : ak)  (p0 : List GScore) (p1 : ByteArray) (r : Int) (hF : rostrumref_memberAt p0 p1 = some r) : cF TT C.wide (evW TT C.wide n84 b84) n84 Try.f84.results.toList (aQ Try.f84) [.v (.sl 2 (ab GScore.row p0)), .v (.s p1)] [] = some (.v (.i .i64 r), []) := by
  unfold rostrumref_memberAt at hF
  revert hF
  cases h1 : ci (st_rostrumref_memberAt_0 p0 p1) 0
  focus
    intro hF
    cases hF
  rename_i qh1
  cases qh1
  focus
    rename_i z0h1
    revert z0h1
    intro x1 h1
    intro hF
    try dsimp only at hF
    have g1 : evW TT C.wide n84 b84 0 ⟨[(0, .v (.sl 2 (ab GScore.row p0))), (1, .v (.s p1)), (5, .v (.i .i64 0))], []⟩ = some (.ret, ⟨[(4, .v (.i .i64 x1))], []⟩) := cy (hd_rostrumref_memberAt_0 p0 p1) (ou_rostrumref_memberAt_0 p0 p1) (fun s o hs => sl_rostrumref_memberAt_0 C p0 p1 s o hs) h1
    have hR := Option.some.inj hF
    clear hF
    subst hR
  rotate_left 1
  rename_i y0h1
  intro hF
  try dsimp only at hF
  have g2 : evW TT C.wide n84 b84 0 ⟨[(0, .v (.sl 2 (ab GScore.row p0))), (1, .v (.s p1)), (5, .v (.i .i64 0))], []⟩ = some (.normal, ⟨[], []⟩) := cy (hd_rostrumref_memberAt_0 p0 p1) (ou_rostrumref_memberAt_0 p0 p1) (fun s o hs => sl_rostrumref_memberAt_0 C p0 p1 s o hs) h1
  have hR := Option.some.inj hF
  clear hF
  subst hR
  all_goals (rw [ba]; show cp _ _ _ (aH _ _ _ _ (Code.seq _ _) _) = _; simp (maxSteps := 4000000) only [*, res84, n84k0, n84k1, n84k6, ↓RP, RB, enter, aZ, be, aM, Mx.bw, opnd, Mx.bF, Nat.reduceBEq, bK, Mx.fit, bY, aO, aB, Mx.put, ofConst, ofCell, Mx.prune, killB, List.map, az, bn, bq, co, bN, bD, aL, lowC, Int.reduceNeg, ↓aj, ↓aa, ty3])
set_option linter.unusedSimpArgs true
def n30 : cC where
  keep := fun i => match i with
    | 0 => [1]
    | 1 => [1, 14]
    | 2 => [2]
    | 3 => [1, 3]
    | 4 => [1, 72]
    | 5 => [2]
    | 6 => [1, 87]
    | 7 => [2]
    | 8 => [1, 4]
    | 9 => [1, 4, 92]
    | 10 => [1, 4]
    | 11 => [1, 4, 101]
    | 12 => [2]
    | 13 => [1, 5]
    | 14 => [1, 5, 106]
    | 15 => [1, 5]
    | 16 => [1, 5, 126]
    | 17 => [2]
    | 18 => [1, 6]
    | 19 => [1, 6, 131]
    | 20 => [1, 6]
    | 21 => [1, 6, 141]
    | 22 => [2]
    | 23 => [1, 145]
    | 24 => [2]
    | 25 => [1, 7]
    | 26 => [1, 7, 150]
    | 27 => [1, 7]
    | 28 => [1, 7, 160]
    | 29 => [2]
    | 30 => [1, 8]
    | 31 => [1, 8, 165]
    | 32 => [1, 8]
    | 33 => [1, 8, 181]
    | 34 => [2]
    | 35 => [1, 9]
    | 36 => [1, 9, 191]
    | 37 => [1, 9]
    | 38 => [1, 9, 205]
    | 39 => [2]
    | 40 => [1, 10]
    | 41 => [1, 10, 210]
    | 42 => [1, 10]
    | 43 => [1, 10, 239]
    | 44 => [2]
    | 45 => [2]
    | _ => []
  ro := fun t => t == 1
  mv := fun _ => false
  give := fun _ => false
  free := fun i => match i with | 33 => [(0, 2), (1, 2), (0, 3), (1, 3), (0, 7), (1, 7), (2, 7), (3, 7), (4, 7), (5, 7), (6, 7), (0, 8), (1, 8), (2, 8), (3, 8), (4, 8), (5, 8), (6, 8), (0, 9), (1, 9), (2, 9), (3, 9), (4, 9), (5, 9), (6, 9), (7, 9), (8, 9), (0, 10), (1, 10), (2, 10), (3, 10), (4, 10), (5, 10), (6, 10), (0, 11), (1, 11), (2, 11), (3, 11), (4, 11), (5, 11), (6, 11), (0, 12), (1, 12), (2, 12), (3, 12), (4, 12), (5, 12), (6, 12)] | 38 => [(0, 2), (1, 2), (0, 3), (1, 3), (0, 6), (1, 6), (2, 6), (3, 6), (4, 6), (5, 6), (0, 7), (1, 7), (2, 7), (3, 7), (4, 7), (5, 7), (0, 8), (1, 8), (2, 8), (3, 8), (4, 8), (5, 8), (6, 8), (7, 8), (0, 9), (1, 9), (2, 9), (3, 9), (4, 9), (5, 9), (0, 10), (1, 10), (2, 10), (3, 10), (4, 10), (5, 10)] | 43 => [(0, 2), (1, 2), (0, 3), (1, 3), (0, 6), (1, 6), (2, 6), (3, 6), (4, 6), (5, 6), (0, 7), (1, 7), (2, 7), (3, 7), (4, 7), (5, 7), (0, 8), (1, 8), (2, 8), (3, 8), (4, 8), (5, 8), (6, 8), (7, 8), (0, 9), (1, 9), (2, 9), (3, 9), (4, 9), (5, 9), (0, 10), (1, 10), (2, 10), (3, 10), (4, 10), (5, 10), (14, 16), (15, 16), (14, 18), (15, 18), (16, 18), (17, 18), (14, 19), (15, 19), (16, 19), (17, 19), (14, 20), (15, 20), (16, 20), (17, 20), (18, 20), (19, 20), (14, 21), (15, 21), (16, 21), (17, 21), (14, 22), (15, 22), (16, 22), (17, 22), (14, 23), (15, 23), (16, 23), (17, 23)] | _ => []
  alive := fun i x => match i, x with
    | 14, true => some []
    | 14, false => some [1]
    | 72, true => some []
    | 72, false => some [1]
    | 87, true => some []
    | 87, false => some [1]
    | 92, true => some [1, 4]
    | 92, false => some [1]
    | 101, true => some []
    | 101, false => some [1, 4]
    | 106, true => some [1, 5]
    | 106, false => some [1]
    | 126, true => some []
    | 126, false => some [1, 5]
    | 131, true => some [1, 6]
    | 131, false => some [1]
    | 141, true => some []
    | 141, false => some [1, 6]
    | 145, true => some []
    | 145, false => some [1]
    | 150, true => some [1, 7]
    | 150, false => some [1]
    | 160, true => some []
    | 160, false => some [1, 7]
    | 165, true => some [1, 8]
    | 165, false => some [1]
    | 181, true => some []
    | 181, false => some [1, 8]
    | 191, true => some [1, 9]
    | 191, false => some [1]
    | 205, true => some []
    | 205, false => some [1, 9]
    | 210, true => some [1, 10]
    | 210, false => some []
    | 239, true => some []
    | 239, false => some [1, 10]
    | _, _ => none
theorem n30a14t (e : Env) (S : aA) : aw n30 14 true ⟨e, S⟩ = ⟨prune [] e, S⟩ := rfl
theorem n30a14f (e : Env) (S : aA) : aw n30 14 false ⟨e, S⟩ = ⟨prune [1] e, S⟩ := rfl
theorem n30a72t (e : Env) (S : aA) : aw n30 72 true ⟨e, S⟩ = ⟨prune [] e, S⟩ := rfl
theorem n30a72f (e : Env) (S : aA) : aw n30 72 false ⟨e, S⟩ = ⟨prune [1] e, S⟩ := rfl
theorem n30a87t (e : Env) (S : aA) : aw n30 87 true ⟨e, S⟩ = ⟨prune [] e, S⟩ := rfl
theorem n30a87f (e : Env) (S : aA) : aw n30 87 false ⟨e, S⟩ = ⟨prune [1] e, S⟩ := rfl
theorem n30a92t (e : Env) (S : aA) : aw n30 92 true ⟨e, S⟩ = ⟨prune [1, 4] e, S⟩ := rfl
theorem n30a92f (e : Env) (S : aA) : aw n30 92 false ⟨e, S⟩ = ⟨prune [1] e, S⟩ := rfl
theorem n30a101t (e : Env) (S : aA) : aw n30 101 true ⟨e, S⟩ = ⟨prune [] e, S⟩ := rfl
theorem n30a101f (e : Env) (S : aA) : aw n30 101 false ⟨e, S⟩ = ⟨prune [1, 4] e, S⟩ := rfl
theorem n30a106t (e : Env) (S : aA) : aw n30 106 true ⟨e, S⟩ = ⟨prune [1, 5] e, S⟩ := rfl
theorem n30a106f (e : Env) (S : aA) : aw n30 106 false ⟨e, S⟩ = ⟨prune [1] e, S⟩ := rfl
theorem n30a126t (e : Env) (S : aA) : aw n30 126 true ⟨e, S⟩ = ⟨prune [] e, S⟩ := rfl
theorem n30a126f (e : Env) (S : aA) : aw n30 126 false ⟨e, S⟩ = ⟨prune [1, 5] e, S⟩ := rfl
theorem n30a131t (e : Env) (S : aA) : aw n30 131 true ⟨e, S⟩ = ⟨prune [1, 6] e, S⟩ := rfl
theorem n30a131f (e : Env) (S : aA) : aw n30 131 false ⟨e, S⟩ = ⟨prune [1] e, S⟩ := rfl
theorem n30a141t (e : Env) (S : aA) : aw n30 141 true ⟨e, S⟩ = ⟨prune [] e, S⟩ := rfl
theorem n30a141f (e : Env) (S : aA) : aw n30 141 false ⟨e, S⟩ = ⟨prune [1, 6] e, S⟩ := rfl
theorem n30a145t (e : Env) (S : aA) : aw n30 145 true ⟨e, S⟩ = ⟨prune [] e, S⟩ := rfl
theorem n30a145f (e : Env) (S : aA) : aw n30 145 false ⟨e, S⟩ = ⟨prune [1] e, S⟩ := rfl
theorem n30a150t (e : Env) (S : aA) : aw n30 150 true ⟨e, S⟩ = ⟨prune [1, 7] e, S⟩ := rfl
theorem n30a150f (e : Env) (S : aA) : aw n30 150 false ⟨e, S⟩ = ⟨prune [1] e, S⟩ := rfl
theorem n30a160t (e : Env) (S : aA) : aw n30 160 true ⟨e, S⟩ = ⟨prune [] e, S⟩ := rfl
theorem n30a160f (e : Env) (S : aA) : aw n30 160 false ⟨e, S⟩ = ⟨prune [1, 7] e, S⟩ := rfl
theorem n30a165t (e : Env) (S : aA) : aw n30 165 true ⟨e, S⟩ = ⟨prune [1, 8] e, S⟩ := rfl
theorem n30a165f (e : Env) (S : aA) : aw n30 165 false ⟨e, S⟩ = ⟨prune [1] e, S⟩ := rfl
theorem n30a181t (e : Env) (S : aA) : aw n30 181 true ⟨e, S⟩ = ⟨prune [] e, S⟩ := rfl
theorem n30a181f (e : Env) (S : aA) : aw n30 181 false ⟨e, S⟩ = ⟨prune [1, 8] e, S⟩ := rfl
theorem n30a191t (e : Env) (S : aA) : aw n30 191 true ⟨e, S⟩ = ⟨prune [1, 9] e, S⟩ := rfl
theorem n30a191f (e : Env) (S : aA) : aw n30 191 false ⟨e, S⟩ = ⟨prune [1] e, S⟩ := rfl
theorem n30a205t (e : Env) (S : aA) : aw n30 205 true ⟨e, S⟩ = ⟨prune [] e, S⟩ := rfl
theorem n30a205f (e : Env) (S : aA) : aw n30 205 false ⟨e, S⟩ = ⟨prune [1, 9] e, S⟩ := rfl
theorem n30a210t (e : Env) (S : aA) : aw n30 210 true ⟨e, S⟩ = ⟨prune [1, 10] e, S⟩ := rfl
theorem n30a210f (e : Env) (S : aA) : aw n30 210 false ⟨e, S⟩ = ⟨prune [] e, S⟩ := rfl
theorem n30a239t (e : Env) (S : aA) : aw n30 239 true ⟨e, S⟩ = ⟨prune [] e, S⟩ := rfl
theorem n30a239f (e : Env) (S : aA) : aw n30 239 false ⟨e, S⟩ = ⟨prune [1, 10] e, S⟩ := rfl
theorem n30k0 : n30.keep 0 = [1] := rfl
theorem n30k1 : n30.keep 1 = [1, 14] := rfl
theorem n30k2 : n30.keep 2 = [2] := rfl
theorem n30k3 : n30.keep 3 = [1, 3] := rfl
theorem n30k4 : n30.keep 4 = [1, 72] := rfl
theorem n30k5 : n30.keep 5 = [2] := rfl
theorem n30k6 : n30.keep 6 = [1, 87] := rfl
theorem n30k7 : n30.keep 7 = [2] := rfl
theorem n30k8 : n30.keep 8 = [1, 4] := rfl
theorem n30k9 : n30.keep 9 = [1, 4, 92] := rfl
theorem n30k10 : n30.keep 10 = [1, 4] := rfl
theorem n30k11 : n30.keep 11 = [1, 4, 101] := rfl
theorem n30k12 : n30.keep 12 = [2] := rfl
theorem n30k13 : n30.keep 13 = [1, 5] := rfl
theorem n30k14 : n30.keep 14 = [1, 5, 106] := rfl
theorem n30k15 : n30.keep 15 = [1, 5] := rfl
theorem n30k16 : n30.keep 16 = [1, 5, 126] := rfl
theorem n30k17 : n30.keep 17 = [2] := rfl
theorem n30k18 : n30.keep 18 = [1, 6] := rfl
theorem n30k19 : n30.keep 19 = [1, 6, 131] := rfl
theorem n30k20 : n30.keep 20 = [1, 6] := rfl
theorem n30k21 : n30.keep 21 = [1, 6, 141] := rfl
theorem n30k22 : n30.keep 22 = [2] := rfl
theorem n30k23 : n30.keep 23 = [1, 145] := rfl
theorem n30k24 : n30.keep 24 = [2] := rfl
theorem n30k25 : n30.keep 25 = [1, 7] := rfl
theorem n30k26 : n30.keep 26 = [1, 7, 150] := rfl
theorem n30k27 : n30.keep 27 = [1, 7] := rfl
theorem n30k28 : n30.keep 28 = [1, 7, 160] := rfl
theorem n30k29 : n30.keep 29 = [2] := rfl
theorem n30k30 : n30.keep 30 = [1, 8] := rfl
theorem n30k31 : n30.keep 31 = [1, 8, 165] := rfl
theorem n30k32 : n30.keep 32 = [1, 8] := rfl
theorem n30k33 : n30.keep 33 = [1, 8, 181] := rfl
theorem n30k34 : n30.keep 34 = [2] := rfl
theorem n30k35 : n30.keep 35 = [1, 9] := rfl
theorem n30k36 : n30.keep 36 = [1, 9, 191] := rfl
theorem n30k37 : n30.keep 37 = [1, 9] := rfl
theorem n30k38 : n30.keep 38 = [1, 9, 205] := rfl
theorem n30k39 : n30.keep 39 = [2] := rfl
theorem n30k40 : n30.keep 40 = [1, 10] := rfl
theorem n30k41 : n30.keep 41 = [1, 10, 210] := rfl
theorem n30k42 : n30.keep 42 = [1, 10] := rfl
theorem n30k43 : n30.keep 43 = [1, 10, 239] := rfl
theorem n30k44 : n30.keep 44 = [2] := rfl
theorem n30k45 : n30.keep 45 = [2] := rfl
theorem n30ro (t : Nat) : n30.ro t = (t == 1) := rfl
theorem n30mv (t : Nat) : n30.mv t = (false) := rfl
theorem n30gv (t : Nat) : n30.give t = (false) := rfl
theorem n30f33 : n30.free 33 = [(0, 2), (1, 2), (0, 3), (1, 3), (0, 7), (1, 7), (2, 7), (3, 7), (4, 7), (5, 7), (6, 7), (0, 8), (1, 8), (2, 8), (3, 8), (4, 8), (5, 8), (6, 8), (0, 9), (1, 9), (2, 9), (3, 9), (4, 9), (5, 9), (6, 9), (7, 9), (8, 9), (0, 10), (1, 10), (2, 10), (3, 10), (4, 10), (5, 10), (6, 10), (0, 11), (1, 11), (2, 11), (3, 11), (4, 11), (5, 11), (6, 11), (0, 12), (1, 12), (2, 12), (3, 12), (4, 12), (5, 12), (6, 12)] := rfl
theorem n30f38 : n30.free 38 = [(0, 2), (1, 2), (0, 3), (1, 3), (0, 6), (1, 6), (2, 6), (3, 6), (4, 6), (5, 6), (0, 7), (1, 7), (2, 7), (3, 7), (4, 7), (5, 7), (0, 8), (1, 8), (2, 8), (3, 8), (4, 8), (5, 8), (6, 8), (7, 8), (0, 9), (1, 9), (2, 9), (3, 9), (4, 9), (5, 9), (0, 10), (1, 10), (2, 10), (3, 10), (4, 10), (5, 10)] := rfl
theorem n30f43 : n30.free 43 = [(0, 2), (1, 2), (0, 3), (1, 3), (0, 6), (1, 6), (2, 6), (3, 6), (4, 6), (5, 6), (0, 7), (1, 7), (2, 7), (3, 7), (4, 7), (5, 7), (0, 8), (1, 8), (2, 8), (3, 8), (4, 8), (5, 8), (6, 8), (7, 8), (0, 9), (1, 9), (2, 9), (3, 9), (4, 9), (5, 9), (0, 10), (1, 10), (2, 10), (3, 10), (4, 10), (5, 10), (14, 16), (15, 16), (14, 18), (15, 18), (16, 18), (17, 18), (14, 19), (15, 19), (16, 19), (17, 19), (14, 20), (15, 20), (16, 20), (17, 20), (18, 20), (19, 20), (14, 21), (15, 21), (16, 21), (17, 21), (14, 22), (15, 22), (16, 22), (17, 22), (14, 23), (15, 23), (16, 23), (17, 23)] := rfl
theorem res30 : Try.f30.results.toList = [.tmp 2] := rfl
noncomputable def b30 : Code := aQ Try.f30
noncomputable def c30_0 : Code := (bz 0 (aQ Try.f30)).getD .skip
theorem fl30_0 : bz 0 b30 = some c30_0 := rfl
noncomputable def c30_2 : Code := (bz 2 (aQ Try.f30)).getD .skip
theorem fl30_2 : bz 2 b30 = some c30_2 := rfl
noncomputable def c30_4 : Code := (bz 4 (aQ Try.f30)).getD .skip
theorem fl30_4 : bz 4 b30 = some c30_4 := rfl
noncomputable def c30_6 : Code := (bz 6 (aQ Try.f30)).getD .skip
theorem fl30_6 : bz 6 b30 = some c30_6 := rfl
noncomputable def c30_8 : Code := (bz 8 (aQ Try.f30)).getD .skip
theorem fl30_8 : bz 8 b30 = some c30_8 := rfl
noncomputable def c30_10 : Code := (bz 10 (aQ Try.f30)).getD .skip
theorem fl30_10 : bz 10 b30 = some c30_10 := rfl
noncomputable def c30_12 : Code := (bz 12 (aQ Try.f30)).getD .skip
theorem fl30_12 : bz 12 b30 = some c30_12 := rfl
theorem rg_rostrumref_ValueFault_k4 (C : ak)  (p0 : GValue) (c : Code) (ho : cr 0 4 b30 = some c) (r : Bool) (hF : ck_rostrumref_ValueFault_k4 p0 = some r) : aH TT C.wide (evW TT C.wide n30 b30) n30 c ⟨[(1, .rp [.i .i64 p0.fKind, .s p0.fText, .i .i64 p0.fCount, .sl 2 (ab GPair.row p0.fPairs), .sl 1 (ab aY p0.fItems), .sl 2 (ab GScore.row p0.fScores)]), (3, .v (.b true))], []⟩ = some (.normal, ⟨[(1, .rp [.i .i64 p0.fKind, .s p0.fText, .i .i64 p0.fCount, .sl 2 (ab GPair.row p0.fPairs), .sl 1 (ab aY p0.fItems), .sl 2 (ab GScore.row p0.fScores)]), (72, .v (.b r))], []⟩) := by
  have e := Option.some.inj (ho.symm.trans (rfl : cr 0 4 b30 = some _))
  subst e
  clear ho
  unfold ck_rostrumref_ValueFault_k4 at hF
  refine aG (p0.fKind == 1) ?_ ?_
  focus
    intro h1
    replace hF := aq h1 hF
    refine aG (p0.fKind == 2) ?_ ?_
    focus
      intro h2
      replace hF := aq h2 hF
      refine aG (p0.fKind == 3) ?_ ?_
      focus
        intro h3
        replace hF := aq h3 hF
        refine aG (p0.fKind == 6) ?_ ?_
        focus
          intro h4
          replace hF := aq h4 hF
          cases hF
        rotate_left 1
        intro h4
        replace hF := ar h4 hF
        cases hF
      rotate_left 2
      intro h3
      replace hF := ar h3 hF
      refine aG (decide (0 < (p0.fPairs.length : Int))) ?_ ?_
      focus
        intro h4
        replace hF := aq h4 hF
        cases hF
      rotate_left 1
      intro h4
      replace hF := ar h4 hF
      refine aG (p0.fKind == 6) ?_ ?_
      focus
        intro h5
        replace hF := aq h5 hF
        cases hF
      rotate_left 1
      intro h5
      replace hF := ar h5 hF
      cases hF
    rotate_left 5
    intro h2
    replace hF := ar h2 hF
    unfold ck_rostrumref_ValueFault_k4_c0 at hF
    refine aT (p0.fCount == 0) ?_ ?_
    focus
      intro h3
      replace hF := ar h3 hF
      cases hF
    rotate_left 1
    intro h3
    replace hF := aq h3 hF
    refine aG (p0.fKind == 3) ?_ ?_
    focus
      intro h4
      replace hF := aq h4 hF
      refine aG (p0.fKind == 6) ?_ ?_
      focus
        intro h5
        replace hF := aq h5 hF
        cases hF
      rotate_left 1
      intro h5
      replace hF := ar h5 hF
      cases hF
    rotate_left 2
    intro h4
    replace hF := ar h4 hF
    refine aG (decide (0 < (p0.fPairs.length : Int))) ?_ ?_
    focus
      intro h5
      replace hF := aq h5 hF
      cases hF
    rotate_left 1
    intro h5
    replace hF := ar h5 hF
    refine aG (p0.fKind == 6) ?_ ?_
    focus
      intro h6
      replace hF := aq h6 hF
      cases hF
    rotate_left 1
    intro h6
    replace hF := ar h6 hF
    cases hF
  rotate_left 11
  intro h1
  replace hF := ar h1 hF
  unfold ck_rostrumref_ValueFault_k4_c2 at hF
  refine aT (cJ p0.fText ByteArray.empty) ?_ ?_
  focus
    intro h2
    replace hF := ar h2 hF
    cases hF
  rotate_left 1
  intro h2
  replace hF := aq h2 hF
  refine aG (p0.fKind == 2) ?_ ?_
  focus
    intro h3
    replace hF := aq h3 hF
    refine aG (p0.fKind == 3) ?_ ?_
    focus
      intro h4
      replace hF := aq h4 hF
      refine aG (p0.fKind == 6) ?_ ?_
      focus
        intro h5
        replace hF := aq h5 hF
        cases hF
      rotate_left 1
      intro h5
      replace hF := ar h5 hF
      cases hF
    rotate_left 2
    intro h4
    replace hF := ar h4 hF
    refine aG (decide (0 < (p0.fPairs.length : Int))) ?_ ?_
    focus
      intro h5
      replace hF := aq h5 hF
      cases hF
    rotate_left 1
    intro h5
    replace hF := ar h5 hF
    refine aG (p0.fKind == 6) ?_ ?_
    focus
      intro h6
      replace hF := aq h6 hF
      cases hF
    rotate_left 1
    intro h6
    replace hF := ar h6 hF
    cases hF
  rotate_left 5
  intro h3
  replace hF := ar h3 hF
  unfold ck_rostrumref_ValueFault_k4_c1 at hF
  refine aT (p0.fCount == 0) ?_ ?_
  focus
    intro h4
    replace hF := ar h4 hF
    cases hF
  rotate_left 1
  intro h4
  replace hF := aq h4 hF
  refine aG (p0.fKind == 3) ?_ ?_
  focus
    intro h5
    replace hF := aq h5 hF
    refine aG (p0.fKind == 6) ?_ ?_
    focus
      intro h6
      replace hF := aq h6 hF
      cases hF
    rotate_left 1
    intro h6
    replace hF := ar h6 hF
    cases hF
  rotate_left 2
  intro h5
  replace hF := ar h5 hF
  refine aG (decide (0 < (p0.fPairs.length : Int))) ?_ ?_
  focus
    intro h6
    replace hF := aq h6 hF
    cases hF
  rotate_left 1
  intro h6
  replace hF := ar h6 hF
  refine aG (p0.fKind == 6) ?_ ?_
  focus
    intro h7
    replace hF := aq h7 hF
    cases hF
  rotate_left 1
  intro h7
  replace hF := ar h7 hF
  cases hF
  all_goals (simp (maxSteps := 4000000) only [*, n30k4, n30mv, ↓RP, RB, aW, aC, aZ, Mx.bw, opnd, Mx.bF, Nat.reduceBEq, bK, aO, aB, ax, Mx.put, ofConst, ofCell, Mx.prune, killB, aK, putDst, au, aD, loadAt, bM, List.map, cm, cn, cg, ck, cj, bne, bc, ty3, ty9, ty49, ty51, ty53, ↓aa _ _ _ _ 4])
theorem rg_rostrumref_ValueFault_k6 (C : ak) (k_rostrumref_sizeOf : K_rostrumref_sizeOf C) (k_rostrumref_In : K_rostrumref_In C) (k_rostrumref_textMay : K_rostrumref_textMay C) (p0 : GValue) (c : Code) (ho : cr 0 6 b30 = some c) (r : Bool) (hF : ck_rostrumref_ValueFault_k6 p0 = some r) : aH TT C.wide (evW TT C.wide n30 b30) n30 c ⟨[(1, .rp [.i .i64 p0.fKind, .s p0.fText, .i .i64 p0.fCount, .sl 2 (ab GPair.row p0.fPairs), .sl 1 (ab aY p0.fItems), .sl 2 (ab GScore.row p0.fScores)])], []⟩ = some (.normal, ⟨[(1, .rp [.i .i64 p0.fKind, .s p0.fText, .i .i64 p0.fCount, .sl 2 (ab GPair.row p0.fPairs), .sl 1 (ab aY p0.fItems), .sl 2 (ab GScore.row p0.fScores)]), (87, .v (.b r))], []⟩) := by
  have e := Option.some.inj (ho.symm.trans (rfl : cr 0 6 b30 = some _))
  subst e
  clear ho
  unfold ck_rostrumref_ValueFault_k6 at hF
  refine aT (decide (3 ≤ p0.fKind)) ?_ ?_
  focus
    intro h1
    replace hF := ar h1 hF
    have g1 : C.wide 80 [.v (.s p0.fText)] [] = some (.v (.b (rostrumref_textMay_v p0.fText)), []) := k_rostrumref_textMay p0.fText _ (rostrumref_textMay_t p0.fText)
    cases hF
  rotate_left 1
  intro h1
  replace hF := aq h1 hF
  have g2 : C.wide 79 [.agg [.v (.i .i64 p0.fKind), .v (.s p0.fText), .v (.i .i64 p0.fCount), .v (.sl 2 (ab GPair.row p0.fPairs)), .v (.sl 1 (ab aY p0.fItems)), .v (.sl 2 (ab GScore.row p0.fScores))]] [] = some (.v (.i .i64 (rostrumref_sizeOf_v p0)), []) := k_rostrumref_sizeOf p0 _ (rostrumref_sizeOf_t p0)
  have g3 : C.wide 55 [.v (.i .i64 (rostrumref_sizeOf_v p0)), .v (.i .i64 1), .v (.i .i64 20)] [] = some (.v (.b (rostrumref_In_v (rostrumref_sizeOf_v p0) 1 20)), []) := k_rostrumref_In (rostrumref_sizeOf_v p0) 1 20 _ (rostrumref_In_t (rostrumref_sizeOf_v p0) 1 20)
  have g4 : rostrumref_In_v (rostrumref_sizeOf_v p0) 1 20 = (decide (1 ≤ (rostrumref_sizeOf_v p0)) && decide ((rostrumref_sizeOf_v p0) ≤ 20)) := by first | rfl | (simp [rostrumref_In_v]; done) | (simp only [rostrumref_In_v]; decide)
  refine aT (decide (1 ≤ (rostrumref_sizeOf_v p0))) ?_ ?_
  focus
    intro h2
    replace hF := ar h2 hF
    cases hF
  rotate_left 1
  intro h2
  replace hF := aq h2 hF
  refine aG (decide ((rostrumref_sizeOf_v p0) ≤ 20)) ?_ ?_
  focus
    intro h3
    replace hF := aq h3 hF
    have g1 : C.wide 80 [.v (.s p0.fText)] [] = some (.v (.b (rostrumref_textMay_v p0.fText)), []) := k_rostrumref_textMay p0.fText _ (rostrumref_textMay_t p0.fText)
    cases hF
  rotate_left 1
  intro h3
  replace hF := ar h3 hF
  cases hF
  all_goals (simp (maxSteps := 4000000) only [*, n30k6, n30mv, ↓RP, RB, aW, aC, aZ, Mx.bw, opnd, Mx.bF, Nat.reduceBEq, bK, aO, aB, ax, Mx.put, ofConst, ofCell, Mx.prune, killB, aK, putDst, au, aD, loadAt, bM, List.map, Nat.reduceAdd, cm, cn, forceAll, lend, lendA, aS, ay, bL, bare, bQ, newB, ch, ck, cj, bc, ty3, ty9, ty53, ↓aa _ _ _ _ 6])
def hd_rostrumref_ValueFault_0 (p0 : GValue) (s : Int) : St := ⟨[(1, .rp [.i .i64 p0.fKind, .s p0.fText, .i .i64 p0.fCount, .sl 2 (ab GPair.row p0.fPairs), .sl 1 (ab aY p0.fItems), .sl 2 (ab GScore.row p0.fScores)]), (4, .v (.i .i64 s))], []⟩
def ou_rostrumref_ValueFault_0 (p0 : GValue) (r : Unit ⊕ Unit) : Option (Ex × St) := match r with
  | .inl r => some (.ret, ⟨[(2, .v (.i .i64 1))], []⟩)
  | .inr r => some (.normal, ⟨[(1, .rp [.i .i64 p0.fKind, .s p0.fText, .i .i64 p0.fCount, .sl 2 (ab GPair.row p0.fPairs), .sl 1 (ab aY p0.fItems), .sl 2 (ab GScore.row p0.fScores)])], []⟩)

theorem sl_rostrumref_ValueFault_0 (C : ak) (k_rostrumref_textMay : K_rostrumref_textMay C) (p0 : GValue) (p1 : Int) (o : Int ⊕ (Unit ⊕ Unit)) (hF : st_rostrumref_ValueFault_0 p0 p1 = some o) : evW TT C.wide n30 b30 0 (hd_rostrumref_ValueFault_0 p0 p1) = Sum.elim (fun s => evW TT C.wide n30 b30 0 (hd_rostrumref_ValueFault_0 p0 s)) (fun r => ou_rostrumref_ValueFault_0 p0 r) o := by
  unfold st_rostrumref_ValueFault_0 at hF
  try dsimp only at hF
  rw [ct TT n30 fl30_0]
  refine aT (decide (p1 < (p0.fItems.length : Int))) ?_ ?_
  focus
    intro h1
    replace hF := ar h1 hF
    cases hF
  rotate_left 1
  intro h1
  replace hF := aq h1 hF
  revert hF
  cases h2 : idx p0.fItems p1
  focus
    intro hF
    cases hF
  rename_i x1
  intro hF
  try dsimp only at hF
  have g1 : decide (0 ≤ p1) = true := (cc h2).1
  have g2 : (ab aY p0.fItems)[(p1 : Int).toNat]? = some [.s x1] := ca _ h2
  have g3 : C.wide 80 [.v (.s x1)] [] = some (.v (.b (rostrumref_textMay_v x1)), []) := k_rostrumref_textMay x1 _ (rostrumref_textMay_t x1)
  refine aG (rostrumref_textMay_v x1) ?_ ?_
  focus
    intro h3
    replace hF := aq h3 hF
    cases hF
  rotate_left 1
  intro h3
  replace hF := ar h3 hF
  cases hF
  all_goals (show cD _ _ _ (aH _ _ _ _ (Code.seq _ _) _) = _; simp (maxSteps := 4000000) only [*, hd_rostrumref_ValueFault_0, ou_rostrumref_ValueFault_0, n30a92t, n30a92f, n30a101t, n30a101f, n30k9, n30k10, n30k11, n30k12, n30mv, ↓RP, RB, ↓ah, aZ, be, aM, Mx.bw, opnd, Mx.bF, Nat.reduceBEq, bK, Mx.fit, bY, aO, aB, ax, Mx.put, ofConst, ofCell, Mx.prune, killB, aK, putDst, au, aD, loadAt, bM, List.map, cm, cn, cg, forceAll, bg, lend, lendA, aS, ay, bL, bare, bQ, newB, ch, ck, cj, ↓aj, ↓ai, ty3, ty9, ty25, ty50, ty53, ↓aa _ _ _ _ 9, ↓aa _ _ _ _ 11, ↓aa _ _ _ _ 12, ↓aa _ _ _ _ 10])
def hd_rostrumref_ValueFault_2 (p0 : GValue) (s : Int) : St := ⟨[(1, .rp [.i .i64 p0.fKind, .s p0.fText, .i .i64 p0.fCount, .sl 2 (ab GPair.row p0.fPairs), .sl 1 (ab aY p0.fItems), .sl 2 (ab GScore.row p0.fScores)]), (5, .v (.i .i64 s))], []⟩
def ou_rostrumref_ValueFault_2 (p0 : GValue) (r : Unit ⊕ Unit) : Option (Ex × St) := match r with
  | .inl r => some (.ret, ⟨[(2, .v (.i .i64 1))], []⟩)
  | .inr r => some (.normal, ⟨[(1, .rp [.i .i64 p0.fKind, .s p0.fText, .i .i64 p0.fCount, .sl 2 (ab GPair.row p0.fPairs), .sl 1 (ab aY p0.fItems), .sl 2 (ab GScore.row p0.fScores)])], []⟩)

theorem sl_rostrumref_ValueFault_2 (C : ak) (k_rostrumref_fieldMay : K_rostrumref_fieldMay C) (k_rostrumref_textMay : K_rostrumref_textMay C) (p0 : GValue) (p1 : Int) (o : Int ⊕ (Unit ⊕ Unit)) (hF : st_rostrumref_ValueFault_2 p0 p1 = some o) : evW TT C.wide n30 b30 2 (hd_rostrumref_ValueFault_2 p0 p1) = Sum.elim (fun s => evW TT C.wide n30 b30 2 (hd_rostrumref_ValueFault_2 p0 s)) (fun r => ou_rostrumref_ValueFault_2 p0 r) o := by
  unfold st_rostrumref_ValueFault_2 at hF
  try dsimp only at hF
  rw [ct TT n30 fl30_2]
  refine aT (decide (p1 < (p0.fPairs.length : Int))) ?_ ?_
  focus
    intro h1
    replace hF := ar h1 hF
    cases hF
  rotate_left 1
  intro h1
  replace hF := aq h1 hF
  revert hF
  cases h2 : idx p0.fPairs p1
  focus
    intro hF
    cases hF
  rename_i x1
  intro hF
  try dsimp only at hF
  have g1 : decide (0 ≤ p1) = true := (cc h2).1
  have g2 : (ab GPair.row p0.fPairs)[(p1 : Int).toNat]? = some [.s x1.fField, .s x1.fText] := ca _ h2
  have g3 : C.wide 81 [.v (.s x1.fField)] [] = some (.v (.b (rostrumref_fieldMay_v x1.fField)), []) := k_rostrumref_fieldMay x1.fField _ (rostrumref_fieldMay_t x1.fField)
  refine aT (rostrumref_fieldMay_v x1.fField) ?_ ?_
  focus
    intro h3
    replace hF := ar h3 hF
    cases hF
  rotate_left 1
  intro h3
  replace hF := aq h3 hF
  have g4 : C.wide 80 [.v (.s x1.fText)] [] = some (.v (.b (rostrumref_textMay_v x1.fText)), []) := k_rostrumref_textMay x1.fText _ (rostrumref_textMay_t x1.fText)
  refine aG (rostrumref_textMay_v x1.fText) ?_ ?_
  focus
    intro h4
    replace hF := aq h4 hF
    cases hF
  rotate_left 1
  intro h4
  replace hF := ar h4 hF
  cases hF
  all_goals (show cD _ _ _ (aH _ _ _ _ (Code.seq _ _) _) = _; simp (maxSteps := 4000000) only [*, hd_rostrumref_ValueFault_2, ou_rostrumref_ValueFault_2, n30a106t, n30a106f, n30a126t, n30a126f, n30k14, n30k15, n30k16, n30k17, n30mv, ↓RP, RB, ↓ah, aW, aC, aZ, be, aM, Mx.bw, opnd, Mx.bF, Nat.reduceBEq, bK, Mx.fit, bY, aO, aB, ax, Mx.put, ofConst, ofCell, Mx.prune, killB, aK, putDst, au, aD, loadAt, bM, List.map, cm, cn, cg, forceAll, bg, lend, lendA, aS, ay, bL, bare, bQ, newB, ch, ck, cj, ↓aj, ↓ai, bc, ty3, ty9, ty25, ty49, ty53, ty101, ↓aa _ _ _ _ 14, ↓aa _ _ _ _ 16, ↓aa _ _ _ _ 17, ↓aa _ _ _ _ 15])
def hd_rostrumref_ValueFault_4 (p0 : GValue) (s : Int) : St := ⟨[(1, .rp [.i .i64 p0.fKind, .s p0.fText, .i .i64 p0.fCount, .sl 2 (ab GPair.row p0.fPairs), .sl 1 (ab aY p0.fItems), .sl 2 (ab GScore.row p0.fScores)]), (6, .v (.i .i64 s))], []⟩
def ou_rostrumref_ValueFault_4 (p0 : GValue) (r : Unit ⊕ Unit) : Option (Ex × St) := match r with
  | .inl r => some (.ret, ⟨[(2, .v (.i .i64 1))], []⟩)
  | .inr r => some (.normal, ⟨[(1, .rp [.i .i64 p0.fKind, .s p0.fText, .i .i64 p0.fCount, .sl 2 (ab GPair.row p0.fPairs), .sl 1 (ab aY p0.fItems), .sl 2 (ab GScore.row p0.fScores)])], []⟩)

theorem sl_rostrumref_ValueFault_4 (C : ak) (k_rostrumref_textMay : K_rostrumref_textMay C) (p0 : GValue) (p1 : Int) (o : Int ⊕ (Unit ⊕ Unit)) (hF : st_rostrumref_ValueFault_4 p0 p1 = some o) : evW TT C.wide n30 b30 4 (hd_rostrumref_ValueFault_4 p0 p1) = Sum.elim (fun s => evW TT C.wide n30 b30 4 (hd_rostrumref_ValueFault_4 p0 s)) (fun r => ou_rostrumref_ValueFault_4 p0 r) o := by
  unfold st_rostrumref_ValueFault_4 at hF
  try dsimp only at hF
  rw [ct TT n30 fl30_4]
  refine aT (decide (p1 < (p0.fScores.length : Int))) ?_ ?_
  focus
    intro h1
    replace hF := ar h1 hF
    cases hF
  rotate_left 1
  intro h1
  replace hF := aq h1 hF
  revert hF
  cases h2 : idx p0.fScores p1
  focus
    intro hF
    cases hF
  rename_i x1
  intro hF
  try dsimp only at hF
  have g1 : decide (0 ≤ p1) = true := (cc h2).1
  have g2 : (ab GScore.row p0.fScores)[(p1 : Int).toNat]? = some [.s x1.fMember, .i .i64 x1.fN] := ca _ h2
  have g3 : C.wide 80 [.v (.s x1.fMember)] [] = some (.v (.b (rostrumref_textMay_v x1.fMember)), []) := k_rostrumref_textMay x1.fMember _ (rostrumref_textMay_t x1.fMember)
  refine aG (rostrumref_textMay_v x1.fMember) ?_ ?_
  focus
    intro h3
    replace hF := aq h3 hF
    cases hF
  rotate_left 1
  intro h3
  replace hF := ar h3 hF
  cases hF
  all_goals (show cD _ _ _ (aH _ _ _ _ (Code.seq _ _) _) = _; simp (maxSteps := 4000000) only [*, hd_rostrumref_ValueFault_4, ou_rostrumref_ValueFault_4, n30a131t, n30a131f, n30a141t, n30a141f, n30k19, n30k20, n30k21, n30k22, n30mv, ↓RP, RB, ↓ah, aZ, be, aM, Mx.bw, opnd, Mx.bF, Nat.reduceBEq, bK, Mx.fit, bY, aO, aB, ax, Mx.put, ofConst, ofCell, Mx.prune, killB, aK, putDst, au, aD, loadAt, bM, List.map, cm, cn, cg, forceAll, bg, lend, lendA, aS, ay, bL, bare, bQ, newB, ch, ck, cj, ↓aj, ↓ai, ty3, ty9, ty25, ty51, ty53, ty105, ↓aa _ _ _ _ 19, ↓aa _ _ _ _ 21, ↓aa _ _ _ _ 22, ↓aa _ _ _ _ 20])
def hd_rostrumref_ValueFault_6 (p0 : GValue) (s : Int) : St := ⟨[(1, .rp [.i .i64 p0.fKind, .s p0.fText, .i .i64 p0.fCount, .sl 2 (ab GPair.row p0.fPairs), .sl 1 (ab aY p0.fItems), .sl 2 (ab GScore.row p0.fScores)]), (7, .v (.i .i64 s))], []⟩
def ou_rostrumref_ValueFault_6 (p0 : GValue) (r : Unit ⊕ Unit) : Option (Ex × St) := match r with
  | .inl r => some (.ret, ⟨[(2, .v (.i .i64 2))], []⟩)
  | .inr r => some (.normal, ⟨[(1, .rp [.i .i64 p0.fKind, .s p0.fText, .i .i64 p0.fCount, .sl 2 (ab GPair.row p0.fPairs), .sl 1 (ab aY p0.fItems), .sl 2 (ab GScore.row p0.fScores)])], []⟩)

theorem sl_rostrumref_ValueFault_6 (C : ak) (k_rostrumref_countMay : K_rostrumref_countMay C) (p0 : GValue) (p1 : Int) (o : Int ⊕ (Unit ⊕ Unit)) (hF : st_rostrumref_ValueFault_6 p0 p1 = some o) : evW TT C.wide n30 b30 6 (hd_rostrumref_ValueFault_6 p0 p1) = Sum.elim (fun s => evW TT C.wide n30 b30 6 (hd_rostrumref_ValueFault_6 p0 s)) (fun r => ou_rostrumref_ValueFault_6 p0 r) o := by
  unfold st_rostrumref_ValueFault_6 at hF
  try dsimp only at hF
  rw [ct TT n30 fl30_6]
  refine aT (decide (p1 < (p0.fScores.length : Int))) ?_ ?_
  focus
    intro h1
    replace hF := ar h1 hF
    cases hF
  rotate_left 1
  intro h1
  replace hF := aq h1 hF
  revert hF
  cases h2 : idx p0.fScores p1
  focus
    intro hF
    cases hF
  rename_i x1
  intro hF
  try dsimp only at hF
  have g1 : decide (0 ≤ p1) = true := (cc h2).1
  have g2 : (ab GScore.row p0.fScores)[(p1 : Int).toNat]? = some [.s x1.fMember, .i .i64 x1.fN] := ca _ h2
  have g3 : C.wide 82 [.v (.i .i64 x1.fN)] [] = some (.v (.b (rostrumref_countMay_v x1.fN)), []) := k_rostrumref_countMay x1.fN _ (rostrumref_countMay_t x1.fN)
  refine aG (rostrumref_countMay_v x1.fN) ?_ ?_
  focus
    intro h3
    replace hF := aq h3 hF
    cases hF
  rotate_left 1
  intro h3
  replace hF := ar h3 hF
  cases hF
  all_goals (show cD _ _ _ (aH _ _ _ _ (Code.seq _ _) _) = _; simp (maxSteps := 4000000) only [*, hd_rostrumref_ValueFault_6, ou_rostrumref_ValueFault_6, n30a150t, n30a150f, n30a160t, n30a160f, n30k26, n30k27, n30k28, n30k29, n30mv, ↓RP, RB, ↓ah, aZ, be, aM, Mx.bw, opnd, Mx.bF, Nat.reduceBEq, bK, Mx.fit, bY, aO, aB, ax, Mx.put, ofConst, ofCell, Mx.prune, killB, aK, putDst, au, aD, loadAt, bM, List.map, cm, cn, cg, forceAll, bg, lend, lendA, aS, ay, bL, bare, bQ, newB, ch, ck, cj, ↓aj, ↓ai, ty3, ty25, ty51, ty53, ty105, ↓aa _ _ _ _ 26, ↓aa _ _ _ _ 28, ↓aa _ _ _ _ 29, ↓aa _ _ _ _ 27])
def hd_rostrumref_ValueFault_8 (p0 : GValue) (s : Int) : St := ⟨[(1, .rp [.i .i64 p0.fKind, .s p0.fText, .i .i64 p0.fCount, .sl 2 (ab GPair.row p0.fPairs), .sl 1 (ab aY p0.fItems), .sl 2 (ab GScore.row p0.fScores)]), (8, .v (.i .i64 s))], []⟩
def ou_rostrumref_ValueFault_8 (p0 : GValue) (r : Unit ⊕ Unit) : Option (Ex × St) := match r with
  | .inl r => some (.ret, ⟨[(2, .v (.i .i64 10))], []⟩)
  | .inr r => some (.normal, ⟨[(1, .rp [.i .i64 p0.fKind, .s p0.fText, .i .i64 p0.fCount, .sl 2 (ab GPair.row p0.fPairs), .sl 1 (ab aY p0.fItems), .sl 2 (ab GScore.row p0.fScores)])], []⟩)

theorem sl_rostrumref_ValueFault_8 (C : ak)  (p0 : GValue) (p1 : Int) (o : Int ⊕ (Unit ⊕ Unit)) (hF : st_rostrumref_ValueFault_8 p0 p1 = some o) : evW TT C.wide n30 b30 8 (hd_rostrumref_ValueFault_8 p0 p1) = Sum.elim (fun s => evW TT C.wide n30 b30 8 (hd_rostrumref_ValueFault_8 p0 s)) (fun r => ou_rostrumref_ValueFault_8 p0 r) o := by
  unfold st_rostrumref_ValueFault_8 at hF
  try dsimp only at hF
  rw [ct TT n30 fl30_8]
  refine aT (decide (p1 < (p0.fPairs.length : Int))) ?_ ?_
  focus
    intro h1
    replace hF := ar h1 hF
    cases hF
  rotate_left 1
  intro h1
  replace hF := aq h1 hF
  revert hF
  cases h2 : idx p0.fPairs (IntKind.i64.wrap (p1 - 1))
  focus
    intro hF
    cases hF
  rename_i x1
  intro hF
  try dsimp only at hF
  have g1 : decide (0 ≤ (IntKind.i64.wrap (p1 - 1))) = true := (cc h2).1
  have g2 : (ab GPair.row p0.fPairs)[((IntKind.i64.wrap (p1 - 1)) : Int).toNat]? = some [.s x1.fField, .s x1.fText] := ca _ h2
  revert hF
  cases h3 : idx p0.fPairs p1
  focus
    intro hF
    cases hF
  rename_i x2
  intro hF
  try dsimp only at hF
  have g3 : decide (0 ≤ p1) = true := (cc h3).1
  have g4 : (ab GPair.row p0.fPairs)[(p1 : Int).toNat]? = some [.s x2.fField, .s x2.fText] := ca _ h3
  refine aG (sltB x1.fField x2.fField) ?_ ?_
  focus
    intro h4
    replace hF := aq h4 hF
    cases hF
  rotate_left 1
  intro h4
  replace hF := ar h4 hF
  cases hF
  all_goals (show cD _ _ _ (aH _ _ _ _ (Code.seq _ _) _) = _; simp (maxSteps := 4000000) only [*, hd_rostrumref_ValueFault_8, ou_rostrumref_ValueFault_8, n30a165t, n30a165f, n30a181t, n30a181f, n30k31, n30k32, n30k33, n30k34, n30f33, n30mv, ↓RP, RB, ↓ah, aZ, be, aM, Mx.bw, opnd, Mx.bF, Nat.reduceBEq, bK, Mx.fit, bY, aO, aB, ax, Mx.put, ofConst, ofCell, Mx.prune, killB, aK, putDst, au, aD, loadAt, bM, List.map, cm, cn, cg, bg, bB, aJ, aX, bX, bE, ce, bV, bk, aI, bh, Op.operands, ck, cj, ↓aj, ↓ai, bm, ty3, ty9, ty25, ty49, ty53, ty101, ↓aa _ _ _ _ 31, ↓am _ _ _ _ 33, ↓aa _ _ _ _ 34, ↓aa _ _ _ _ 32])
def hd_rostrumref_ValueFault_10 (p0 : GValue) (s : Int) : St := ⟨[(1, .rp [.i .i64 p0.fKind, .s p0.fText, .i .i64 p0.fCount, .sl 2 (ab GPair.row p0.fPairs), .sl 1 (ab aY p0.fItems), .sl 2 (ab GScore.row p0.fScores)]), (9, .v (.i .i64 s))], []⟩
def ou_rostrumref_ValueFault_10 (p0 : GValue) (r : Unit ⊕ Unit) : Option (Ex × St) := match r with
  | .inl r => some (.ret, ⟨[(2, .v (.i .i64 10))], []⟩)
  | .inr r => some (.normal, ⟨[(1, .rp [.i .i64 p0.fKind, .s p0.fText, .i .i64 p0.fCount, .sl 2 (ab GPair.row p0.fPairs), .sl 1 (ab aY p0.fItems), .sl 2 (ab GScore.row p0.fScores)])], []⟩)

theorem sl_rostrumref_ValueFault_10 (C : ak)  (p0 : GValue) (p1 : Int) (o : Int ⊕ (Unit ⊕ Unit)) (hF : st_rostrumref_ValueFault_10 p0 p1 = some o) : evW TT C.wide n30 b30 10 (hd_rostrumref_ValueFault_10 p0 p1) = Sum.elim (fun s => evW TT C.wide n30 b30 10 (hd_rostrumref_ValueFault_10 p0 s)) (fun r => ou_rostrumref_ValueFault_10 p0 r) o := by
  unfold st_rostrumref_ValueFault_10 at hF
  try dsimp only at hF
  rw [ct TT n30 fl30_10]
  refine aT (decide (p1 < (p0.fItems.length : Int))) ?_ ?_
  focus
    intro h1
    replace hF := ar h1 hF
    cases hF
  rotate_left 1
  intro h1
  replace hF := aq h1 hF
  refine aT (p0.fKind == 5) ?_ ?_
  focus
    intro h2
    replace hF := ar h2 hF
    cases hF
  rotate_left 1
  intro h2
  replace hF := aq h2 hF
  revert hF
  cases h3 : idx p0.fItems (IntKind.i64.wrap (p1 - 1))
  focus
    intro hF
    cases hF
  rename_i x1
  intro hF
  try dsimp only at hF
  have g1 : decide (0 ≤ (IntKind.i64.wrap (p1 - 1))) = true := (cc h3).1
  have g2 : (ab aY p0.fItems)[((IntKind.i64.wrap (p1 - 1)) : Int).toNat]? = some [.s x1] := ca _ h3
  revert hF
  cases h4 : idx p0.fItems p1
  focus
    intro hF
    cases hF
  rename_i x2
  intro hF
  try dsimp only at hF
  have g3 : decide (0 ≤ p1) = true := (cc h4).1
  have g4 : (ab aY p0.fItems)[(p1 : Int).toNat]? = some [.s x2] := ca _ h4
  refine aG (sltB x1 x2) ?_ ?_
  focus
    intro h5
    replace hF := aq h5 hF
    cases hF
  rotate_left 1
  intro h5
  replace hF := ar h5 hF
  cases hF
  all_goals (show cD _ _ _ (aH _ _ _ _ (Code.seq _ _) _) = _; simp (maxSteps := 4000000) only [*, hd_rostrumref_ValueFault_10, ou_rostrumref_ValueFault_10, n30a191t, n30a191f, n30a205t, n30a205f, n30k36, n30k37, n30k38, n30k39, n30f38, n30mv, ↓RP, RB, ↓ah, aW, aC, aZ, be, aM, Mx.bw, opnd, Mx.bF, Nat.reduceBEq, bK, Mx.fit, bY, aO, aB, ax, Mx.put, ofConst, ofCell, Mx.prune, killB, aK, putDst, au, aD, loadAt, bM, List.map, cm, cn, cg, bg, bB, aJ, aX, bX, bE, ce, bV, bk, aI, bh, Op.operands, ck, cj, ↓aj, ↓ai, bc, bm, ty3, ty9, ty25, ty50, ty53, ↓aa _ _ _ _ 36, ↓am _ _ _ _ 38, ↓aa _ _ _ _ 39, ↓aa _ _ _ _ 37])
def hd_rostrumref_ValueFault_12 (p0 : GValue) (s : Int) : St := ⟨[(1, .rp [.i .i64 p0.fKind, .s p0.fText, .i .i64 p0.fCount, .sl 2 (ab GPair.row p0.fPairs), .sl 1 (ab aY p0.fItems), .sl 2 (ab GScore.row p0.fScores)]), (10, .v (.i .i64 s))], []⟩
def ou_rostrumref_ValueFault_12 (p0 : GValue) (r : Unit ⊕ Unit) : Option (Ex × St) := match r with
  | .inl r => some (.ret, ⟨[(2, .v (.i .i64 10))], []⟩)
  | .inr r => some (.normal, ⟨[], []⟩)

theorem sl_rostrumref_ValueFault_12 (C : ak) (k_rostrumref_scoreAhead : K_rostrumref_scoreAhead C) (k_rostrumref_memberAt : K_rostrumref_memberAt C) (p0 : GValue) (p1 : Int) (o : Int ⊕ (Unit ⊕ Unit)) (hF : st_rostrumref_ValueFault_12 p0 p1 = some o) : evW TT C.wide n30 b30 12 (hd_rostrumref_ValueFault_12 p0 p1) = Sum.elim (fun s => evW TT C.wide n30 b30 12 (hd_rostrumref_ValueFault_12 p0 s)) (fun r => ou_rostrumref_ValueFault_12 p0 r) o := by
  unfold st_rostrumref_ValueFault_12 at hF
  try dsimp only at hF
  rw [ct TT n30 fl30_12]
  refine aT (decide (p1 < (p0.fScores.length : Int))) ?_ ?_
  focus
    intro h1
    replace hF := ar h1 hF
    cases hF
  rotate_left 1
  intro h1
  replace hF := aq h1 hF
  revert hF
  cases h2 : idx p0.fScores (IntKind.i64.wrap (p1 - 1))
  focus
    intro hF
    cases hF
  rename_i x1
  intro hF
  try dsimp only at hF
  have g1 : decide (0 ≤ (IntKind.i64.wrap (p1 - 1))) = true := (cc h2).1
  have g2 : (ab GScore.row p0.fScores)[((IntKind.i64.wrap (p1 - 1)) : Int).toNat]? = some [.s x1.fMember, .i .i64 x1.fN] := ca _ h2
  revert hF
  cases h3 : idx p0.fScores p1
  focus
    intro hF
    cases hF
  rename_i x2
  intro hF
  try dsimp only at hF
  have g3 : decide (0 ≤ p1) = true := (cc h3).1
  have g4 : (ab GScore.row p0.fScores)[(p1 : Int).toNat]? = some [.s x2.fMember, .i .i64 x2.fN] := ca _ h3
  have g5 : C.wide 83 [.agg [.v (.s x1.fMember), .v (.i .i64 x1.fN)], .agg [.v (.s x2.fMember), .v (.i .i64 x2.fN)]] [] = some (.v (.b (rostrumref_scoreAhead_v x1 x2)), []) := k_rostrumref_scoreAhead x1 x2 _ (rostrumref_scoreAhead_t x1 x2)
  refine aT (rostrumref_scoreAhead_v x1 x2) ?_ ?_
  focus
    intro h4
    replace hF := ar h4 hF
    cases hF
  rotate_left 1
  intro h4
  replace hF := aq h4 hF
  refine aT (rngB 0 p1 (p0.fScores.length : Int)) ?_ ?_
  focus
    intro h5
    replace hF := ar h5 hF
    cases hF
  intro h5
  replace hF := aq h5 hF
  revert hF
  cases h6 : rostrumref_memberAt (cI p0.fScores 0 p1) x2.fMember
  focus
    intro hF
    cases hF
  rename_i x3
  intro hF
  try dsimp only at hF
  have g6 : C.wide 84 [.v (.sl 2 (ab GScore.row (cI p0.fScores 0 p1))), .v (.s x2.fMember)] [] = some (.v (.i .i64 x3), []) := k_rostrumref_memberAt (cI p0.fScores 0 p1) x2.fMember _ h6
  refine aG (decide (0 ≤ x3)) ?_ ?_
  focus
    intro h7
    replace hF := aq h7 hF
    cases hF
  rotate_left 1
  intro h7
  replace hF := ar h7 hF
  cases hF
  all_goals (show cD _ _ _ (aH _ _ _ _ (Code.seq _ _) _) = _; simp (maxSteps := 4000000) only [*, hd_rostrumref_ValueFault_12, ou_rostrumref_ValueFault_12, n30a210t, n30a210f, n30a239t, n30a239f, n30k41, n30k42, n30k43, n30k44, n30f43, n30mv, ↓RP, RB, ↓ah, aW, aC, aZ, be, aM, Mx.bw, opnd, Mx.bF, Nat.reduceBEq, bK, Mx.fit, bY, aO, aB, ax, Mx.put, ofConst, ofCell, Mx.prune, killB, aK, putDst, au, aD, loadAt, bM, List.map, Nat.reduceAdd, cm, cn, cg, forceAll, bound, bW, bg, br, lend, lendA, aS, ay, bL, bare, bQ, bB, aJ, aX, bX, bE, ce, bV, bk, aI, bh, Op.operands, newB, ch, ck, cj, ↓aj, ↓ai, bc, bm, Call.operands, ty3, ty9, ty25, ty51, ty53, ty105, ↓aa _ _ _ _ 41, ↓am _ _ _ _ 43, ↓aa _ _ _ _ 44, ↓aa _ _ _ _ 42])
theorem rg_rostrumref_ValueFault_k4v2 (C : ak)  (p0 : GValue) (p1 : Bool) (c : Code) (ho : cr 0 4 b30 = some c) (r : Bool) (hF : ck_rostrumref_ValueFault_k4v2 p0 p1 = some r) : aH TT C.wide (evW TT C.wide n30 b30) n30 c ⟨[(1, .rp [.i .i64 p0.fKind, .s p0.fText, .i .i64 p0.fCount, .sl 2 (ab GPair.row p0.fPairs), .sl 1 (ab aY p0.fItems), .sl 2 (ab GScore.row p0.fScores)]), (3, .v (.b p1))], []⟩ = some (.normal, ⟨[(1, .rp [.i .i64 p0.fKind, .s p0.fText, .i .i64 p0.fCount, .sl 2 (ab GPair.row p0.fPairs), .sl 1 (ab aY p0.fItems), .sl 2 (ab GScore.row p0.fScores)]), (72, .v (.b r))], []⟩) := by
  have e := Option.some.inj (ho.symm.trans (rfl : cr 0 4 b30 = some _))
  subst e
  clear ho
  unfold ck_rostrumref_ValueFault_k4v2 at hF
  refine aG (p0.fKind == 1) ?_ ?_
  focus
    intro h1
    replace hF := aq h1 hF
    refine aG (p0.fKind == 2) ?_ ?_
    focus
      intro h2
      replace hF := aq h2 hF
      refine aG (p0.fKind == 3) ?_ ?_
      focus
        intro h3
        replace hF := aq h3 hF
        refine aG p1 ?_ ?_
        focus
          intro h4
          replace hF := aq h4 hF
          refine aG (p0.fKind == 6) ?_ ?_
          focus
            intro h5
            replace hF := aq h5 hF
            cases hF
          rotate_left 1
          intro h5
          replace hF := ar h5 hF
          cases hF
        rotate_left 2
        intro h4
        replace hF := ar h4 hF
        refine aG (decide (0 < (p0.fItems.length : Int))) ?_ ?_
        focus
          intro h5
          replace hF := aq h5 hF
          cases hF
        rotate_left 1
        intro h5
        replace hF := ar h5 hF
        refine aG (p0.fKind == 6) ?_ ?_
        focus
          intro h6
          replace hF := aq h6 hF
          cases hF
        rotate_left 1
        intro h6
        replace hF := ar h6 hF
        cases hF
      rotate_left 5
      intro h3
      replace hF := ar h3 hF
      unfold ck_rostrumref_ValueFault_k4v2_c0 at hF
      refine aG (decide (0 < (p0.fPairs.length : Int))) ?_ ?_
      focus
        intro h4
        replace hF := aq h4 hF
        cases hF
      rotate_left 1
      intro h4
      replace hF := ar h4 hF
      refine aG p1 ?_ ?_
      focus
        intro h5
        replace hF := aq h5 hF
        refine aG (p0.fKind == 6) ?_ ?_
        focus
          intro h6
          replace hF := aq h6 hF
          cases hF
        rotate_left 1
        intro h6
        replace hF := ar h6 hF
        cases hF
      rotate_left 2
      intro h5
      replace hF := ar h5 hF
      refine aG (decide (0 < (p0.fItems.length : Int))) ?_ ?_
      focus
        intro h6
        replace hF := aq h6 hF
        cases hF
      rotate_left 1
      intro h6
      replace hF := ar h6 hF
      refine aG (p0.fKind == 6) ?_ ?_
      focus
        intro h7
        replace hF := aq h7 hF
        cases hF
      rotate_left 1
      intro h7
      replace hF := ar h7 hF
      cases hF
    rotate_left 11
    intro h2
    replace hF := ar h2 hF
    unfold ck_rostrumref_ValueFault_k4v2_c2 at hF
    refine aT (p0.fCount == 0) ?_ ?_
    focus
      intro h3
      replace hF := ar h3 hF
      cases hF
    rotate_left 1
    intro h3
    replace hF := aq h3 hF
    refine aG (p0.fKind == 3) ?_ ?_
    focus
      intro h4
      replace hF := aq h4 hF
      refine aG p1 ?_ ?_
      focus
        intro h5
        replace hF := aq h5 hF
        refine aG (p0.fKind == 6) ?_ ?_
        focus
          intro h6
          replace hF := aq h6 hF
          cases hF
        rotate_left 1
        intro h6
        replace hF := ar h6 hF
        cases hF
      rotate_left 2
      intro h5
      replace hF := ar h5 hF
      refine aG (decide (0 < (p0.fItems.length : Int))) ?_ ?_
      focus
        intro h6
        replace hF := aq h6 hF
        cases hF
      rotate_left 1
      intro h6
      replace hF := ar h6 hF
      refine aG (p0.fKind == 6) ?_ ?_
      focus
        intro h7
        replace hF := aq h7 hF
        cases hF
      rotate_left 1
      intro h7
      replace hF := ar h7 hF
      cases hF
    rotate_left 5
    intro h4
    replace hF := ar h4 hF
    unfold ck_rostrumref_ValueFault_k4v2_c1 at hF
    refine aG (decide (0 < (p0.fPairs.length : Int))) ?_ ?_
    focus
      intro h5
      replace hF := aq h5 hF
      cases hF
    rotate_left 1
    intro h5
    replace hF := ar h5 hF
    refine aG p1 ?_ ?_
    focus
      intro h6
      replace hF := aq h6 hF
      refine aG (p0.fKind == 6) ?_ ?_
      focus
        intro h7
        replace hF := aq h7 hF
        cases hF
      rotate_left 1
      intro h7
      replace hF := ar h7 hF
      cases hF
    rotate_left 2
    intro h6
    replace hF := ar h6 hF
    refine aG (decide (0 < (p0.fItems.length : Int))) ?_ ?_
    focus
      intro h7
      replace hF := aq h7 hF
      cases hF
    rotate_left 1
    intro h7
    replace hF := ar h7 hF
    refine aG (p0.fKind == 6) ?_ ?_
    focus
      intro h8
      replace hF := aq h8 hF
      cases hF
    rotate_left 1
    intro h8
    replace hF := ar h8 hF
    cases hF
  rotate_left 23
  intro h1
  replace hF := ar h1 hF
  unfold ck_rostrumref_ValueFault_k4v2_c6 at hF
  refine aT (cJ p0.fText ByteArray.empty) ?_ ?_
  focus
    intro h2
    replace hF := ar h2 hF
    cases hF
  rotate_left 1
  intro h2
  replace hF := aq h2 hF
  refine aG (p0.fKind == 2) ?_ ?_
  focus
    intro h3
    replace hF := aq h3 hF
    refine aG (p0.fKind == 3) ?_ ?_
    focus
      intro h4
      replace hF := aq h4 hF
      refine aG p1 ?_ ?_
      focus
        intro h5
        replace hF := aq h5 hF
        refine aG (p0.fKind == 6) ?_ ?_
        focus
          intro h6
          replace hF := aq h6 hF
          cases hF
        rotate_left 1
        intro h6
        replace hF := ar h6 hF
        cases hF
      rotate_left 2
      intro h5
      replace hF := ar h5 hF
      refine aG (decide (0 < (p0.fItems.length : Int))) ?_ ?_
      focus
        intro h6
        replace hF := aq h6 hF
        cases hF
      rotate_left 1
      intro h6
      replace hF := ar h6 hF
      refine aG (p0.fKind == 6) ?_ ?_
      focus
        intro h7
        replace hF := aq h7 hF
        cases hF
      rotate_left 1
      intro h7
      replace hF := ar h7 hF
      cases hF
    rotate_left 5
    intro h4
    replace hF := ar h4 hF
    unfold ck_rostrumref_ValueFault_k4v2_c3 at hF
    refine aG (decide (0 < (p0.fPairs.length : Int))) ?_ ?_
    focus
      intro h5
      replace hF := aq h5 hF
      cases hF
    rotate_left 1
    intro h5
    replace hF := ar h5 hF
    refine aG p1 ?_ ?_
    focus
      intro h6
      replace hF := aq h6 hF
      refine aG (p0.fKind == 6) ?_ ?_
      focus
        intro h7
        replace hF := aq h7 hF
        cases hF
      rotate_left 1
      intro h7
      replace hF := ar h7 hF
      cases hF
    rotate_left 2
    intro h6
    replace hF := ar h6 hF
    refine aG (decide (0 < (p0.fItems.length : Int))) ?_ ?_
    focus
      intro h7
      replace hF := aq h7 hF
      cases hF
    rotate_left 1
    intro h7
    replace hF := ar h7 hF
    refine aG (p0.fKind == 6) ?_ ?_
    focus
      intro h8
      replace hF := aq h8 hF
      cases hF
    rotate_left 1
    intro h8
    replace hF := ar h8 hF
    cases hF
  rotate_left 11
  intro h3
  replace hF := ar h3 hF
  unfold ck_rostrumref_ValueFault_k4v2_c5 at hF
  refine aT (p0.fCount == 0) ?_ ?_
  focus
    intro h4
    replace hF := ar h4 hF
    cases hF
  rotate_left 1
  intro h4
  replace hF := aq h4 hF
  refine aG (p0.fKind == 3) ?_ ?_
  focus
    intro h5
    replace hF := aq h5 hF
    refine aG p1 ?_ ?_
    focus
      intro h6
      replace hF := aq h6 hF
      refine aG (p0.fKind == 6) ?_ ?_
      focus
        intro h7
        replace hF := aq h7 hF
        cases hF
      rotate_left 1
      intro h7
      replace hF := ar h7 hF
      cases hF
    rotate_left 2
    intro h6
    replace hF := ar h6 hF
    refine aG (decide (0 < (p0.fItems.length : Int))) ?_ ?_
    focus
      intro h7
      replace hF := aq h7 hF
      cases hF
    rotate_left 1
    intro h7
    replace hF := ar h7 hF
    refine aG (p0.fKind == 6) ?_ ?_
    focus
      intro h8
      replace hF := aq h8 hF
      cases hF
    rotate_left 1
    intro h8
    replace hF := ar h8 hF
    cases hF
  rotate_left 5
  intro h5
  replace hF := ar h5 hF
  unfold ck_rostrumref_ValueFault_k4v2_c4 at hF
  refine aG (decide (0 < (p0.fPairs.length : Int))) ?_ ?_
  focus
    intro h6
    replace hF := aq h6 hF
    cases hF
  rotate_left 1
  intro h6
  replace hF := ar h6 hF
  refine aG p1 ?_ ?_
  focus
    intro h7
    replace hF := aq h7 hF
    refine aG (p0.fKind == 6) ?_ ?_
    focus
      intro h8
      replace hF := aq h8 hF
      cases hF
    rotate_left 1
    intro h8
    replace hF := ar h8 hF
    cases hF
  rotate_left 2
  intro h7
  replace hF := ar h7 hF
  refine aG (decide (0 < (p0.fItems.length : Int))) ?_ ?_
  focus
    intro h8
    replace hF := aq h8 hF
    cases hF
  rotate_left 1
  intro h8
  replace hF := ar h8 hF
  refine aG (p0.fKind == 6) ?_ ?_
  focus
    intro h9
    replace hF := aq h9 hF
    cases hF
  rotate_left 1
  intro h9
  replace hF := ar h9 hF
  cases hF
  all_goals (simp (maxSteps := 4000000) only [*, n30k4, n30mv, ↓RP, RB, aW, aC, aZ, Mx.bw, opnd, Mx.bF, Nat.reduceBEq, bK, aO, aB, ax, Mx.put, ofConst, ofCell, Mx.prune, killB, aK, putDst, au, aD, loadAt, bM, List.map, cm, cn, cg, ck, cj, bne, bc, ty3, ty9, ty49, ty50, ty51, ty53, ↓aa _ _ _ _ 4])
theorem r_rostrumref_ValueFault (C : ak) (k_rostrumref_In : K_rostrumref_In C) (k_rostrumref_sizeOf : K_rostrumref_sizeOf C) (k_rostrumref_textMay : K_rostrumref_textMay C) (k_rostrumref_countMay : K_rostrumref_countMay C) (k_rostrumref_fieldMay : K_rostrumref_fieldMay C) (k_rostrumref_scoreAhead : K_rostrumref_scoreAhead C) (k_rostrumref_memberAt : K_rostrumref_memberAt C) (p0 : GValue) (r : Int) (hF : rostrumref_ValueFault p0 = some r) : cF TT C.wide (evW TT C.wide n30 b30) n30 Try.f30.results.toList (aQ Try.f30) [.agg [.v (.i .i64 p0.fKind), .v (.s p0.fText), .v (.i .i64 p0.fCount), .v (.sl 2 (ab GPair.row p0.fPairs)), .v (.sl 1 (ab aY p0.fItems)), .v (.sl 2 (ab GScore.row p0.fScores))]] [] = some (.v (.i .i64 r), []) := by
  unfold rostrumref_ValueFault at hF
  have g1 : C.wide 55 [.v (.i .i64 p0.fKind), .v (.i .i64 1), .v (.i .i64 6)] [] = some (.v (.b (rostrumref_In_v p0.fKind 1 6)), []) := k_rostrumref_In p0.fKind 1 6 _ (rostrumref_In_t p0.fKind 1 6)
  have g2 : rostrumref_In_v p0.fKind 1 6 = (decide (1 ≤ p0.fKind) && decide (p0.fKind ≤ 6)) := by first | rfl | (simp [rostrumref_In_v]; done) | (simp only [rostrumref_In_v]; decide)
  refine aT (decide (1 ≤ p0.fKind)) ?_ ?_
  focus
    intro h1
    replace hF := ar h1 hF
    have hR := Option.some.inj hF
    clear hF
    subst hR
  rotate_left 1
  intro h1
  replace hF := aq h1 hF
  refine aT (decide (p0.fKind ≤ 6)) ?_ ?_
  focus
    intro h2
    replace hF := ar h2 hF
    have hR := Option.some.inj hF
    clear hF
    subst hR
  rotate_left 1
  intro h2
  replace hF := aq h2 hF
  refine aG (p0.fKind == 4) ?_ ?_
  focus
    intro h3
    replace hF := aq h3 hF
    unfold rostrumref_ValueFault_c12 at hF
    have g3 : @cR TT C.wide (evW TT C.wide n30 b30) n30 0 4 ⟨[(1, .rp [.i .i64 p0.fKind, .s p0.fText, .i .i64 p0.fCount, .sl 2 (ab GPair.row p0.fPairs), .sl 1 (ab aY p0.fItems), .sl 2 (ab GScore.row p0.fScores)]), (3, .v (.b true))], []⟩ ⟨_⟩ = some (.normal, ⟨[(1, .rp [.i .i64 p0.fKind, .s p0.fText, .i .i64 p0.fCount, .sl 2 (ab GPair.row p0.fPairs), .sl 1 (ab aY p0.fItems), .sl 2 (ab GScore.row p0.fScores)]), (72, .v (.b (ck_rostrumref_ValueFault_k4_v p0)))], []⟩) := rg_rostrumref_ValueFault_k4 C p0 _ rfl (ck_rostrumref_ValueFault_k4_v p0) (ck_rostrumref_ValueFault_k4_t p0)
    refine aG (ck_rostrumref_ValueFault_k4_v p0) ?_ ?_
    focus
      intro h4
      replace hF := aq h4 hF
      have hR := Option.some.inj hF
      clear hF
      subst hR
    rotate_left 1
    intro h4
    replace hF := ar h4 hF
    have g4 : @cR TT C.wide (evW TT C.wide n30 b30) n30 0 6 ⟨[(1, .rp [.i .i64 p0.fKind, .s p0.fText, .i .i64 p0.fCount, .sl 2 (ab GPair.row p0.fPairs), .sl 1 (ab aY p0.fItems), .sl 2 (ab GScore.row p0.fScores)])], []⟩ ⟨_⟩ = some (.normal, ⟨[(1, .rp [.i .i64 p0.fKind, .s p0.fText, .i .i64 p0.fCount, .sl 2 (ab GPair.row p0.fPairs), .sl 1 (ab aY p0.fItems), .sl 2 (ab GScore.row p0.fScores)]), (87, .v (.b (ck_rostrumref_ValueFault_k6_v p0)))], []⟩) := rg_rostrumref_ValueFault_k6 C k_rostrumref_sizeOf k_rostrumref_In k_rostrumref_textMay p0 _ rfl (ck_rostrumref_ValueFault_k6_v p0) (ck_rostrumref_ValueFault_k6_t p0)
    refine aG (ck_rostrumref_ValueFault_k6_v p0) ?_ ?_
    focus
      intro h5
      replace hF := aq h5 hF
      have hR := Option.some.inj hF
      clear hF
      subst hR
    rotate_left 1
    intro h5
    replace hF := ar h5 hF
    revert hF
    cases h6 : ci (st_rostrumref_ValueFault_0 p0) 0
    focus
      intro hF
      cases hF
    rename_i qh6
    cases qh6
    focus
      rename_i z0h6
      intro hF
      try dsimp only at hF
      have g5 : evW TT C.wide n30 b30 0 ⟨[(1, .rp [.i .i64 p0.fKind, .s p0.fText, .i .i64 p0.fCount, .sl 2 (ab GPair.row p0.fPairs), .sl 1 (ab aY p0.fItems), .sl 2 (ab GScore.row p0.fScores)]), (4, .v (.i .i64 0))], []⟩ = some (.ret, ⟨[(2, .v (.i .i64 1))], []⟩) := cy (hd_rostrumref_ValueFault_0 p0) (ou_rostrumref_ValueFault_0 p0) (fun s o hs => sl_rostrumref_ValueFault_0 C k_rostrumref_textMay p0 s o hs) h6
      have hR := Option.some.inj hF
      clear hF
      subst hR
    rotate_left 1
    rename_i y0h6
    intro hF
    try dsimp only at hF
    unfold rostrumref_ValueFault_c5 at hF
    have g6 : evW TT C.wide n30 b30 0 ⟨[(1, .rp [.i .i64 p0.fKind, .s p0.fText, .i .i64 p0.fCount, .sl 2 (ab GPair.row p0.fPairs), .sl 1 (ab aY p0.fItems), .sl 2 (ab GScore.row p0.fScores)]), (4, .v (.i .i64 0))], []⟩ = some (.normal, ⟨[(1, .rp [.i .i64 p0.fKind, .s p0.fText, .i .i64 p0.fCount, .sl 2 (ab GPair.row p0.fPairs), .sl 1 (ab aY p0.fItems), .sl 2 (ab GScore.row p0.fScores)])], []⟩) := cy (hd_rostrumref_ValueFault_0 p0) (ou_rostrumref_ValueFault_0 p0) (fun s o hs => sl_rostrumref_ValueFault_0 C k_rostrumref_textMay p0 s o hs) h6
    revert hF
    cases h7 : ci (st_rostrumref_ValueFault_2 p0) 0
    focus
      intro hF
      cases hF
    rename_i qh7
    cases qh7
    focus
      rename_i z0h7
      intro hF
      try dsimp only at hF
      have g7 : evW TT C.wide n30 b30 2 ⟨[(1, .rp [.i .i64 p0.fKind, .s p0.fText, .i .i64 p0.fCount, .sl 2 (ab GPair.row p0.fPairs), .sl 1 (ab aY p0.fItems), .sl 2 (ab GScore.row p0.fScores)]), (5, .v (.i .i64 0))], []⟩ = some (.ret, ⟨[(2, .v (.i .i64 1))], []⟩) := cy (hd_rostrumref_ValueFault_2 p0) (ou_rostrumref_ValueFault_2 p0) (fun s o hs => sl_rostrumref_ValueFault_2 C k_rostrumref_fieldMay k_rostrumref_textMay p0 s o hs) h7
      have hR := Option.some.inj hF
      clear hF
      subst hR
    rotate_left 1
    rename_i y0h7
    intro hF
    try dsimp only at hF
    unfold rostrumref_ValueFault_c4 at hF
    have g8 : evW TT C.wide n30 b30 2 ⟨[(1, .rp [.i .i64 p0.fKind, .s p0.fText, .i .i64 p0.fCount, .sl 2 (ab GPair.row p0.fPairs), .sl 1 (ab aY p0.fItems), .sl 2 (ab GScore.row p0.fScores)]), (5, .v (.i .i64 0))], []⟩ = some (.normal, ⟨[(1, .rp [.i .i64 p0.fKind, .s p0.fText, .i .i64 p0.fCount, .sl 2 (ab GPair.row p0.fPairs), .sl 1 (ab aY p0.fItems), .sl 2 (ab GScore.row p0.fScores)])], []⟩) := cy (hd_rostrumref_ValueFault_2 p0) (ou_rostrumref_ValueFault_2 p0) (fun s o hs => sl_rostrumref_ValueFault_2 C k_rostrumref_fieldMay k_rostrumref_textMay p0 s o hs) h7
    revert hF
    cases h8 : ci (st_rostrumref_ValueFault_4 p0) 0
    focus
      intro hF
      cases hF
    rename_i qh8
    cases qh8
    focus
      rename_i z0h8
      intro hF
      try dsimp only at hF
      have g9 : evW TT C.wide n30 b30 4 ⟨[(1, .rp [.i .i64 p0.fKind, .s p0.fText, .i .i64 p0.fCount, .sl 2 (ab GPair.row p0.fPairs), .sl 1 (ab aY p0.fItems), .sl 2 (ab GScore.row p0.fScores)]), (6, .v (.i .i64 0))], []⟩ = some (.ret, ⟨[(2, .v (.i .i64 1))], []⟩) := cy (hd_rostrumref_ValueFault_4 p0) (ou_rostrumref_ValueFault_4 p0) (fun s o hs => sl_rostrumref_ValueFault_4 C k_rostrumref_textMay p0 s o hs) h8
      have hR := Option.some.inj hF
      clear hF
      subst hR
    rotate_left 1
    rename_i y0h8
    intro hF
    try dsimp only at hF
    unfold rostrumref_ValueFault_c3 at hF
    have g10 : evW TT C.wide n30 b30 4 ⟨[(1, .rp [.i .i64 p0.fKind, .s p0.fText, .i .i64 p0.fCount, .sl 2 (ab GPair.row p0.fPairs), .sl 1 (ab aY p0.fItems), .sl 2 (ab GScore.row p0.fScores)]), (6, .v (.i .i64 0))], []⟩ = some (.normal, ⟨[(1, .rp [.i .i64 p0.fKind, .s p0.fText, .i .i64 p0.fCount, .sl 2 (ab GPair.row p0.fPairs), .sl 1 (ab aY p0.fItems), .sl 2 (ab GScore.row p0.fScores)])], []⟩) := cy (hd_rostrumref_ValueFault_4 p0) (ou_rostrumref_ValueFault_4 p0) (fun s o hs => sl_rostrumref_ValueFault_4 C k_rostrumref_textMay p0 s o hs) h8
    have g11 : C.wide 82 [.v (.i .i64 p0.fCount)] [] = some (.v (.b (rostrumref_countMay_v p0.fCount)), []) := k_rostrumref_countMay p0.fCount _ (rostrumref_countMay_t p0.fCount)
    refine aT (rostrumref_countMay_v p0.fCount) ?_ ?_
    focus
      intro h9
      replace hF := ar h9 hF
      have hR := Option.some.inj hF
      clear hF
      subst hR
    rotate_left 1
    intro h9
    replace hF := aq h9 hF
    revert hF
    cases h10 : ci (st_rostrumref_ValueFault_6 p0) 0
    focus
      intro hF
      cases hF
    rename_i qh10
    cases qh10
    focus
      rename_i z0h10
      intro hF
      try dsimp only at hF
      have g12 : evW TT C.wide n30 b30 6 ⟨[(1, .rp [.i .i64 p0.fKind, .s p0.fText, .i .i64 p0.fCount, .sl 2 (ab GPair.row p0.fPairs), .sl 1 (ab aY p0.fItems), .sl 2 (ab GScore.row p0.fScores)]), (7, .v (.i .i64 0))], []⟩ = some (.ret, ⟨[(2, .v (.i .i64 2))], []⟩) := cy (hd_rostrumref_ValueFault_6 p0) (ou_rostrumref_ValueFault_6 p0) (fun s o hs => sl_rostrumref_ValueFault_6 C k_rostrumref_countMay p0 s o hs) h10
      have hR := Option.some.inj hF
      clear hF
      subst hR
    rotate_left 1
    rename_i y0h10
    intro hF
    try dsimp only at hF
    unfold rostrumref_ValueFault_c2 at hF
    have g13 : evW TT C.wide n30 b30 6 ⟨[(1, .rp [.i .i64 p0.fKind, .s p0.fText, .i .i64 p0.fCount, .sl 2 (ab GPair.row p0.fPairs), .sl 1 (ab aY p0.fItems), .sl 2 (ab GScore.row p0.fScores)]), (7, .v (.i .i64 0))], []⟩ = some (.normal, ⟨[(1, .rp [.i .i64 p0.fKind, .s p0.fText, .i .i64 p0.fCount, .sl 2 (ab GPair.row p0.fPairs), .sl 1 (ab aY p0.fItems), .sl 2 (ab GScore.row p0.fScores)])], []⟩) := cy (hd_rostrumref_ValueFault_6 p0) (ou_rostrumref_ValueFault_6 p0) (fun s o hs => sl_rostrumref_ValueFault_6 C k_rostrumref_countMay p0 s o hs) h10
    revert hF
    cases h11 : ci (st_rostrumref_ValueFault_8 p0) 1
    focus
      intro hF
      cases hF
    rename_i qh11
    cases qh11
    focus
      rename_i z0h11
      intro hF
      try dsimp only at hF
      have g14 : evW TT C.wide n30 b30 8 ⟨[(1, .rp [.i .i64 p0.fKind, .s p0.fText, .i .i64 p0.fCount, .sl 2 (ab GPair.row p0.fPairs), .sl 1 (ab aY p0.fItems), .sl 2 (ab GScore.row p0.fScores)]), (8, .v (.i .i64 1))], []⟩ = some (.ret, ⟨[(2, .v (.i .i64 10))], []⟩) := cy (hd_rostrumref_ValueFault_8 p0) (ou_rostrumref_ValueFault_8 p0) (fun s o hs => sl_rostrumref_ValueFault_8 C p0 s o hs) h11
      have hR := Option.some.inj hF
      clear hF
      subst hR
    rotate_left 1
    rename_i y0h11
    intro hF
    try dsimp only at hF
    unfold rostrumref_ValueFault_c1 at hF
    have g15 : evW TT C.wide n30 b30 8 ⟨[(1, .rp [.i .i64 p0.fKind, .s p0.fText, .i .i64 p0.fCount, .sl 2 (ab GPair.row p0.fPairs), .sl 1 (ab aY p0.fItems), .sl 2 (ab GScore.row p0.fScores)]), (8, .v (.i .i64 1))], []⟩ = some (.normal, ⟨[(1, .rp [.i .i64 p0.fKind, .s p0.fText, .i .i64 p0.fCount, .sl 2 (ab GPair.row p0.fPairs), .sl 1 (ab aY p0.fItems), .sl 2 (ab GScore.row p0.fScores)])], []⟩) := cy (hd_rostrumref_ValueFault_8 p0) (ou_rostrumref_ValueFault_8 p0) (fun s o hs => sl_rostrumref_ValueFault_8 C p0 s o hs) h11
    revert hF
    cases h12 : ci (st_rostrumref_ValueFault_10 p0) 1
    focus
      intro hF
      cases hF
    rename_i qh12
    cases qh12
    focus
      rename_i z0h12
      intro hF
      try dsimp only at hF
      have g16 : evW TT C.wide n30 b30 10 ⟨[(1, .rp [.i .i64 p0.fKind, .s p0.fText, .i .i64 p0.fCount, .sl 2 (ab GPair.row p0.fPairs), .sl 1 (ab aY p0.fItems), .sl 2 (ab GScore.row p0.fScores)]), (9, .v (.i .i64 1))], []⟩ = some (.ret, ⟨[(2, .v (.i .i64 10))], []⟩) := cy (hd_rostrumref_ValueFault_10 p0) (ou_rostrumref_ValueFault_10 p0) (fun s o hs => sl_rostrumref_ValueFault_10 C p0 s o hs) h12
      have hR := Option.some.inj hF
      clear hF
      subst hR
    rotate_left 1
    rename_i y0h12
    intro hF
    try dsimp only at hF
    unfold rostrumref_ValueFault_c0 at hF
    have g17 : evW TT C.wide n30 b30 10 ⟨[(1, .rp [.i .i64 p0.fKind, .s p0.fText, .i .i64 p0.fCount, .sl 2 (ab GPair.row p0.fPairs), .sl 1 (ab aY p0.fItems), .sl 2 (ab GScore.row p0.fScores)]), (9, .v (.i .i64 1))], []⟩ = some (.normal, ⟨[(1, .rp [.i .i64 p0.fKind, .s p0.fText, .i .i64 p0.fCount, .sl 2 (ab GPair.row p0.fPairs), .sl 1 (ab aY p0.fItems), .sl 2 (ab GScore.row p0.fScores)])], []⟩) := cy (hd_rostrumref_ValueFault_10 p0) (ou_rostrumref_ValueFault_10 p0) (fun s o hs => sl_rostrumref_ValueFault_10 C p0 s o hs) h12
    revert hF
    cases h13 : ci (st_rostrumref_ValueFault_12 p0) 1
    focus
      intro hF
      cases hF
    rename_i qh13
    cases qh13
    focus
      rename_i z0h13
      intro hF
      try dsimp only at hF
      have g18 : evW TT C.wide n30 b30 12 ⟨[(1, .rp [.i .i64 p0.fKind, .s p0.fText, .i .i64 p0.fCount, .sl 2 (ab GPair.row p0.fPairs), .sl 1 (ab aY p0.fItems), .sl 2 (ab GScore.row p0.fScores)]), (10, .v (.i .i64 1))], []⟩ = some (.ret, ⟨[(2, .v (.i .i64 10))], []⟩) := cy (hd_rostrumref_ValueFault_12 p0) (ou_rostrumref_ValueFault_12 p0) (fun s o hs => sl_rostrumref_ValueFault_12 C k_rostrumref_scoreAhead k_rostrumref_memberAt p0 s o hs) h13
      have hR := Option.some.inj hF
      clear hF
      subst hR
    rotate_left 1
    rename_i y0h13
    intro hF
    try dsimp only at hF
    have g19 : evW TT C.wide n30 b30 12 ⟨[(1, .rp [.i .i64 p0.fKind, .s p0.fText, .i .i64 p0.fCount, .sl 2 (ab GPair.row p0.fPairs), .sl 1 (ab aY p0.fItems), .sl 2 (ab GScore.row p0.fScores)]), (10, .v (.i .i64 1))], []⟩ = some (.normal, ⟨[], []⟩) := cy (hd_rostrumref_ValueFault_12 p0) (ou_rostrumref_ValueFault_12 p0) (fun s o hs => sl_rostrumref_ValueFault_12 C k_rostrumref_scoreAhead k_rostrumref_memberAt p0 s o hs) h13
    have hR := Option.some.inj hF
    clear hF
    subst hR
  rotate_left 11
  intro h3
  replace hF := ar h3 hF
  have g20 : @cR TT C.wide (evW TT C.wide n30 b30) n30 0 4 ⟨[(1, .rp [.i .i64 p0.fKind, .s p0.fText, .i .i64 p0.fCount, .sl 2 (ab GPair.row p0.fPairs), .sl 1 (ab aY p0.fItems), .sl 2 (ab GScore.row p0.fScores)]), (3, .v (.b (p0.fKind == 5)))], []⟩ ⟨_⟩ = some (.normal, ⟨[(1, .rp [.i .i64 p0.fKind, .s p0.fText, .i .i64 p0.fCount, .sl 2 (ab GPair.row p0.fPairs), .sl 1 (ab aY p0.fItems), .sl 2 (ab GScore.row p0.fScores)]), (72, .v (.b (ck_rostrumref_ValueFault_k4v2_v p0 (p0.fKind == 5))))], []⟩) := rg_rostrumref_ValueFault_k4v2 C p0 (p0.fKind == 5) _ rfl (ck_rostrumref_ValueFault_k4v2_v p0 (p0.fKind == 5)) (ck_rostrumref_ValueFault_k4v2_t p0 (p0.fKind == 5))
  refine aG (ck_rostrumref_ValueFault_k4v2_v p0 (p0.fKind == 5)) ?_ ?_
  focus
    intro h4
    replace hF := aq h4 hF
    have hR := Option.some.inj hF
    clear hF
    subst hR
  rotate_left 1
  intro h4
  replace hF := ar h4 hF
  have g4 : @cR TT C.wide (evW TT C.wide n30 b30) n30 0 6 ⟨[(1, .rp [.i .i64 p0.fKind, .s p0.fText, .i .i64 p0.fCount, .sl 2 (ab GPair.row p0.fPairs), .sl 1 (ab aY p0.fItems), .sl 2 (ab GScore.row p0.fScores)])], []⟩ ⟨_⟩ = some (.normal, ⟨[(1, .rp [.i .i64 p0.fKind, .s p0.fText, .i .i64 p0.fCount, .sl 2 (ab GPair.row p0.fPairs), .sl 1 (ab aY p0.fItems), .sl 2 (ab GScore.row p0.fScores)]), (87, .v (.b (ck_rostrumref_ValueFault_k6_v p0)))], []⟩) := rg_rostrumref_ValueFault_k6 C k_rostrumref_sizeOf k_rostrumref_In k_rostrumref_textMay p0 _ rfl (ck_rostrumref_ValueFault_k6_v p0) (ck_rostrumref_ValueFault_k6_t p0)
  refine aG (ck_rostrumref_ValueFault_k6_v p0) ?_ ?_
  focus
    intro h5
    replace hF := aq h5 hF
    have hR := Option.some.inj hF
    clear hF
    subst hR
  rotate_left 1
  intro h5
  replace hF := ar h5 hF
  revert hF
  cases h6 : ci (st_rostrumref_ValueFault_0 p0) 0
  focus
    intro hF
    cases hF
  rename_i qh6
  cases qh6
  focus
    rename_i z0h6
    intro hF
    try dsimp only at hF
    have g5 : evW TT C.wide n30 b30 0 ⟨[(1, .rp [.i .i64 p0.fKind, .s p0.fText, .i .i64 p0.fCount, .sl 2 (ab GPair.row p0.fPairs), .sl 1 (ab aY p0.fItems), .sl 2 (ab GScore.row p0.fScores)]), (4, .v (.i .i64 0))], []⟩ = some (.ret, ⟨[(2, .v (.i .i64 1))], []⟩) := cy (hd_rostrumref_ValueFault_0 p0) (ou_rostrumref_ValueFault_0 p0) (fun s o hs => sl_rostrumref_ValueFault_0 C k_rostrumref_textMay p0 s o hs) h6
    have hR := Option.some.inj hF
    clear hF
    subst hR
  rotate_left 1
  rename_i y0h6
  intro hF
  try dsimp only at hF
  unfold rostrumref_ValueFault_c11 at hF
  have g6 : evW TT C.wide n30 b30 0 ⟨[(1, .rp [.i .i64 p0.fKind, .s p0.fText, .i .i64 p0.fCount, .sl 2 (ab GPair.row p0.fPairs), .sl 1 (ab aY p0.fItems), .sl 2 (ab GScore.row p0.fScores)]), (4, .v (.i .i64 0))], []⟩ = some (.normal, ⟨[(1, .rp [.i .i64 p0.fKind, .s p0.fText, .i .i64 p0.fCount, .sl 2 (ab GPair.row p0.fPairs), .sl 1 (ab aY p0.fItems), .sl 2 (ab GScore.row p0.fScores)])], []⟩) := cy (hd_rostrumref_ValueFault_0 p0) (ou_rostrumref_ValueFault_0 p0) (fun s o hs => sl_rostrumref_ValueFault_0 C k_rostrumref_textMay p0 s o hs) h6
  revert hF
  cases h7 : ci (st_rostrumref_ValueFault_2 p0) 0
  focus
    intro hF
    cases hF
  rename_i qh7
  cases qh7
  focus
    rename_i z0h7
    intro hF
    try dsimp only at hF
    have g7 : evW TT C.wide n30 b30 2 ⟨[(1, .rp [.i .i64 p0.fKind, .s p0.fText, .i .i64 p0.fCount, .sl 2 (ab GPair.row p0.fPairs), .sl 1 (ab aY p0.fItems), .sl 2 (ab GScore.row p0.fScores)]), (5, .v (.i .i64 0))], []⟩ = some (.ret, ⟨[(2, .v (.i .i64 1))], []⟩) := cy (hd_rostrumref_ValueFault_2 p0) (ou_rostrumref_ValueFault_2 p0) (fun s o hs => sl_rostrumref_ValueFault_2 C k_rostrumref_fieldMay k_rostrumref_textMay p0 s o hs) h7
    have hR := Option.some.inj hF
    clear hF
    subst hR
  rotate_left 1
  rename_i y0h7
  intro hF
  try dsimp only at hF
  unfold rostrumref_ValueFault_c10 at hF
  have g8 : evW TT C.wide n30 b30 2 ⟨[(1, .rp [.i .i64 p0.fKind, .s p0.fText, .i .i64 p0.fCount, .sl 2 (ab GPair.row p0.fPairs), .sl 1 (ab aY p0.fItems), .sl 2 (ab GScore.row p0.fScores)]), (5, .v (.i .i64 0))], []⟩ = some (.normal, ⟨[(1, .rp [.i .i64 p0.fKind, .s p0.fText, .i .i64 p0.fCount, .sl 2 (ab GPair.row p0.fPairs), .sl 1 (ab aY p0.fItems), .sl 2 (ab GScore.row p0.fScores)])], []⟩) := cy (hd_rostrumref_ValueFault_2 p0) (ou_rostrumref_ValueFault_2 p0) (fun s o hs => sl_rostrumref_ValueFault_2 C k_rostrumref_fieldMay k_rostrumref_textMay p0 s o hs) h7
  revert hF
  cases h8 : ci (st_rostrumref_ValueFault_4 p0) 0
  focus
    intro hF
    cases hF
  rename_i qh8
  cases qh8
  focus
    rename_i z0h8
    intro hF
    try dsimp only at hF
    have g9 : evW TT C.wide n30 b30 4 ⟨[(1, .rp [.i .i64 p0.fKind, .s p0.fText, .i .i64 p0.fCount, .sl 2 (ab GPair.row p0.fPairs), .sl 1 (ab aY p0.fItems), .sl 2 (ab GScore.row p0.fScores)]), (6, .v (.i .i64 0))], []⟩ = some (.ret, ⟨[(2, .v (.i .i64 1))], []⟩) := cy (hd_rostrumref_ValueFault_4 p0) (ou_rostrumref_ValueFault_4 p0) (fun s o hs => sl_rostrumref_ValueFault_4 C k_rostrumref_textMay p0 s o hs) h8
    have hR := Option.some.inj hF
    clear hF
    subst hR
  rotate_left 1
  rename_i y0h8
  intro hF
  try dsimp only at hF
  unfold rostrumref_ValueFault_c9 at hF
  have g10 : evW TT C.wide n30 b30 4 ⟨[(1, .rp [.i .i64 p0.fKind, .s p0.fText, .i .i64 p0.fCount, .sl 2 (ab GPair.row p0.fPairs), .sl 1 (ab aY p0.fItems), .sl 2 (ab GScore.row p0.fScores)]), (6, .v (.i .i64 0))], []⟩ = some (.normal, ⟨[(1, .rp [.i .i64 p0.fKind, .s p0.fText, .i .i64 p0.fCount, .sl 2 (ab GPair.row p0.fPairs), .sl 1 (ab aY p0.fItems), .sl 2 (ab GScore.row p0.fScores)])], []⟩) := cy (hd_rostrumref_ValueFault_4 p0) (ou_rostrumref_ValueFault_4 p0) (fun s o hs => sl_rostrumref_ValueFault_4 C k_rostrumref_textMay p0 s o hs) h8
  have g11 : C.wide 82 [.v (.i .i64 p0.fCount)] [] = some (.v (.b (rostrumref_countMay_v p0.fCount)), []) := k_rostrumref_countMay p0.fCount _ (rostrumref_countMay_t p0.fCount)
  refine aT (rostrumref_countMay_v p0.fCount) ?_ ?_
  focus
    intro h9
    replace hF := ar h9 hF
    have hR := Option.some.inj hF
    clear hF
    subst hR
  rotate_left 1
  intro h9
  replace hF := aq h9 hF
  revert hF
  cases h10 : ci (st_rostrumref_ValueFault_6 p0) 0
  focus
    intro hF
    cases hF
  rename_i qh10
  cases qh10
  focus
    rename_i z0h10
    intro hF
    try dsimp only at hF
    have g12 : evW TT C.wide n30 b30 6 ⟨[(1, .rp [.i .i64 p0.fKind, .s p0.fText, .i .i64 p0.fCount, .sl 2 (ab GPair.row p0.fPairs), .sl 1 (ab aY p0.fItems), .sl 2 (ab GScore.row p0.fScores)]), (7, .v (.i .i64 0))], []⟩ = some (.ret, ⟨[(2, .v (.i .i64 2))], []⟩) := cy (hd_rostrumref_ValueFault_6 p0) (ou_rostrumref_ValueFault_6 p0) (fun s o hs => sl_rostrumref_ValueFault_6 C k_rostrumref_countMay p0 s o hs) h10
    have hR := Option.some.inj hF
    clear hF
    subst hR
  rotate_left 1
  rename_i y0h10
  intro hF
  try dsimp only at hF
  unfold rostrumref_ValueFault_c8 at hF
  have g13 : evW TT C.wide n30 b30 6 ⟨[(1, .rp [.i .i64 p0.fKind, .s p0.fText, .i .i64 p0.fCount, .sl 2 (ab GPair.row p0.fPairs), .sl 1 (ab aY p0.fItems), .sl 2 (ab GScore.row p0.fScores)]), (7, .v (.i .i64 0))], []⟩ = some (.normal, ⟨[(1, .rp [.i .i64 p0.fKind, .s p0.fText, .i .i64 p0.fCount, .sl 2 (ab GPair.row p0.fPairs), .sl 1 (ab aY p0.fItems), .sl 2 (ab GScore.row p0.fScores)])], []⟩) := cy (hd_rostrumref_ValueFault_6 p0) (ou_rostrumref_ValueFault_6 p0) (fun s o hs => sl_rostrumref_ValueFault_6 C k_rostrumref_countMay p0 s o hs) h10
  revert hF
  cases h11 : ci (st_rostrumref_ValueFault_8 p0) 1
  focus
    intro hF
    cases hF
  rename_i qh11
  cases qh11
  focus
    rename_i z0h11
    intro hF
    try dsimp only at hF
    have g14 : evW TT C.wide n30 b30 8 ⟨[(1, .rp [.i .i64 p0.fKind, .s p0.fText, .i .i64 p0.fCount, .sl 2 (ab GPair.row p0.fPairs), .sl 1 (ab aY p0.fItems), .sl 2 (ab GScore.row p0.fScores)]), (8, .v (.i .i64 1))], []⟩ = some (.ret, ⟨[(2, .v (.i .i64 10))], []⟩) := cy (hd_rostrumref_ValueFault_8 p0) (ou_rostrumref_ValueFault_8 p0) (fun s o hs => sl_rostrumref_ValueFault_8 C p0 s o hs) h11
    have hR := Option.some.inj hF
    clear hF
    subst hR
  rotate_left 1
  rename_i y0h11
  intro hF
  try dsimp only at hF
  unfold rostrumref_ValueFault_c7 at hF
  have g15 : evW TT C.wide n30 b30 8 ⟨[(1, .rp [.i .i64 p0.fKind, .s p0.fText, .i .i64 p0.fCount, .sl 2 (ab GPair.row p0.fPairs), .sl 1 (ab aY p0.fItems), .sl 2 (ab GScore.row p0.fScores)]), (8, .v (.i .i64 1))], []⟩ = some (.normal, ⟨[(1, .rp [.i .i64 p0.fKind, .s p0.fText, .i .i64 p0.fCount, .sl 2 (ab GPair.row p0.fPairs), .sl 1 (ab aY p0.fItems), .sl 2 (ab GScore.row p0.fScores)])], []⟩) := cy (hd_rostrumref_ValueFault_8 p0) (ou_rostrumref_ValueFault_8 p0) (fun s o hs => sl_rostrumref_ValueFault_8 C p0 s o hs) h11
  revert hF
  cases h12 : ci (st_rostrumref_ValueFault_10 p0) 1
  focus
    intro hF
    cases hF
  rename_i qh12
  cases qh12
  focus
    rename_i z0h12
    intro hF
    try dsimp only at hF
    have g16 : evW TT C.wide n30 b30 10 ⟨[(1, .rp [.i .i64 p0.fKind, .s p0.fText, .i .i64 p0.fCount, .sl 2 (ab GPair.row p0.fPairs), .sl 1 (ab aY p0.fItems), .sl 2 (ab GScore.row p0.fScores)]), (9, .v (.i .i64 1))], []⟩ = some (.ret, ⟨[(2, .v (.i .i64 10))], []⟩) := cy (hd_rostrumref_ValueFault_10 p0) (ou_rostrumref_ValueFault_10 p0) (fun s o hs => sl_rostrumref_ValueFault_10 C p0 s o hs) h12
    have hR := Option.some.inj hF
    clear hF
    subst hR
  rotate_left 1
  rename_i y0h12
  intro hF
  try dsimp only at hF
  unfold rostrumref_ValueFault_c6 at hF
  have g17 : evW TT C.wide n30 b30 10 ⟨[(1, .rp [.i .i64 p0.fKind, .s p0.fText, .i .i64 p0.fCount, .sl 2 (ab GPair.row p0.fPairs), .sl 1 (ab aY p0.fItems), .sl 2 (ab GScore.row p0.fScores)]), (9, .v (.i .i64 1))], []⟩ = some (.normal, ⟨[(1, .rp [.i .i64 p0.fKind, .s p0.fText, .i .i64 p0.fCount, .sl 2 (ab GPair.row p0.fPairs), .sl 1 (ab aY p0.fItems), .sl 2 (ab GScore.row p0.fScores)])], []⟩) := cy (hd_rostrumref_ValueFault_10 p0) (ou_rostrumref_ValueFault_10 p0) (fun s o hs => sl_rostrumref_ValueFault_10 C p0 s o hs) h12
  revert hF
  cases h13 : ci (st_rostrumref_ValueFault_12 p0) 1
  focus
    intro hF
    cases hF
  rename_i qh13
  cases qh13
  focus
    rename_i z0h13
    intro hF
    try dsimp only at hF
    have g18 : evW TT C.wide n30 b30 12 ⟨[(1, .rp [.i .i64 p0.fKind, .s p0.fText, .i .i64 p0.fCount, .sl 2 (ab GPair.row p0.fPairs), .sl 1 (ab aY p0.fItems), .sl 2 (ab GScore.row p0.fScores)]), (10, .v (.i .i64 1))], []⟩ = some (.ret, ⟨[(2, .v (.i .i64 10))], []⟩) := cy (hd_rostrumref_ValueFault_12 p0) (ou_rostrumref_ValueFault_12 p0) (fun s o hs => sl_rostrumref_ValueFault_12 C k_rostrumref_scoreAhead k_rostrumref_memberAt p0 s o hs) h13
    have hR := Option.some.inj hF
    clear hF
    subst hR
  rotate_left 1
  rename_i y0h13
  intro hF
  try dsimp only at hF
  have g19 : evW TT C.wide n30 b30 12 ⟨[(1, .rp [.i .i64 p0.fKind, .s p0.fText, .i .i64 p0.fCount, .sl 2 (ab GPair.row p0.fPairs), .sl 1 (ab aY p0.fItems), .sl 2 (ab GScore.row p0.fScores)]), (10, .v (.i .i64 1))], []⟩ = some (.normal, ⟨[], []⟩) := cy (hd_rostrumref_ValueFault_12 p0) (ou_rostrumref_ValueFault_12 p0) (fun s o hs => sl_rostrumref_ValueFault_12 C k_rostrumref_scoreAhead k_rostrumref_memberAt p0 s o hs) h13
  have hR := Option.some.inj hF
  clear hF
  subst hR
  all_goals (rw [ba]; show cp _ _ _ (aH _ _ _ _ (Code.seq _ _) _) = _; simp (maxSteps := 4000000) only [*, res30, n30a14t, n30a14f, n30a72t, n30a72f, n30a87t, n30a87f, n30a145t, n30a145f, n30k0, n30k1, n30k2, n30k3, n30k5, n30k7, n30k8, n30k13, n30k18, n30k23, n30k24, n30k25, n30k30, n30k35, n30k40, n30k45, n30ro, n30mv, ↓RP, RB, enter, aW, aC, aZ, be, aM, Mx.bw, opnd, Mx.bF, Nat.reduceBEq, bK, Mx.fit, bI, bY, toVs, cellsOf, toV, aO, aB, ax, Mx.put, ofConst, ofCell, Mx.prune, killB, aK, putDst, au, aD, loadAt, bM, List.map, cm, cn, az, bn, bq, co, bN, bD, aL, lowC, forceAll, lend, lendA, aS, ay, bL, bare, bQ, newB, ch, ck, cj, ↓aj, ↓ai, bc, ty3, ty4, ty25, ty53, ↓aa _ _ _ _ 0, ↓aa _ _ _ _ 1, ↓aa _ _ _ _ 2, ↓aa _ _ _ _ 3, ↓bC _ _ _ _ 4, ↓aa _ _ _ _ 5, ↓bC _ _ _ _ 6, ↓aa _ _ _ _ 7, ↓aa _ _ _ _ 8, ↓aa _ _ _ _ 13, ↓aa _ _ _ _ 18, ↓aa _ _ _ _ 23, ↓aa _ _ _ _ 24, ↓aa _ _ _ _ 25, ↓aa _ _ _ _ 30, ↓aa _ _ _ _ 35, ↓aa _ _ _ _ 40, ↓aa _ _ _ _ 45])
set_option linter.unusedSimpArgs true
def n36 : cC where
  keep := fun i => match i with
    | 0 => [1]
    | 1 => [1, 14]
    | 2 => [2]
    | 3 => [1, 3]
    | 4 => [1, 3, 19]
    | 5 => [1, 3]
    | 6 => [1, 3, 4]
    | 7 => [1, 3, 4, 52]
    | 8 => [2]
    | 9 => [1, 3, 68]
    | 10 => [2]
    | 11 => [2]
    | _ => []
  ro := fun t => t == 1
  mv := fun _ => false
  give := fun _ => false
  free := fun i => match i with | 7 => [(14, 16), (15, 16), (14, 17), (15, 17), (14, 21), (15, 21), (16, 21), (17, 21), (18, 21), (19, 21), (20, 21), (14, 22), (15, 22), (16, 22), (17, 22), (18, 22), (19, 22), (20, 22)] | _ => []
  alive := fun i x => match i, x with
    | 14, true => some []
    | 14, false => some [1]
    | 19, true => some [1, 3]
    | 19, false => some []
    | 52, true => some []
    | 52, false => some [1, 3, 4]
    | 68, true => some []
    | 68, false => some [1, 3]
    | _, _ => none
theorem n36a14t (e : Env) (S : aA) : aw n36 14 true ⟨e, S⟩ = ⟨prune [] e, S⟩ := rfl
theorem n36a14f (e : Env) (S : aA) : aw n36 14 false ⟨e, S⟩ = ⟨prune [1] e, S⟩ := rfl
theorem n36a19t (e : Env) (S : aA) : aw n36 19 true ⟨e, S⟩ = ⟨prune [1, 3] e, S⟩ := rfl
theorem n36a19f (e : Env) (S : aA) : aw n36 19 false ⟨e, S⟩ = ⟨prune [] e, S⟩ := rfl
theorem n36a52t (e : Env) (S : aA) : aw n36 52 true ⟨e, S⟩ = ⟨prune [] e, S⟩ := rfl
theorem n36a52f (e : Env) (S : aA) : aw n36 52 false ⟨e, S⟩ = ⟨prune [1, 3, 4] e, S⟩ := rfl
theorem n36a68t (e : Env) (S : aA) : aw n36 68 true ⟨e, S⟩ = ⟨prune [] e, S⟩ := rfl
theorem n36a68f (e : Env) (S : aA) : aw n36 68 false ⟨e, S⟩ = ⟨prune [1, 3] e, S⟩ := rfl
theorem n36k0 : n36.keep 0 = [1] := rfl
theorem n36k1 : n36.keep 1 = [1, 14] := rfl
theorem n36k2 : n36.keep 2 = [2] := rfl
theorem n36k3 : n36.keep 3 = [1, 3] := rfl
theorem n36k4 : n36.keep 4 = [1, 3, 19] := rfl
theorem n36k5 : n36.keep 5 = [1, 3] := rfl
theorem n36k6 : n36.keep 6 = [1, 3, 4] := rfl
theorem n36k7 : n36.keep 7 = [1, 3, 4, 52] := rfl
theorem n36k8 : n36.keep 8 = [2] := rfl
theorem n36k9 : n36.keep 9 = [1, 3, 68] := rfl
theorem n36k10 : n36.keep 10 = [2] := rfl
theorem n36k11 : n36.keep 11 = [2] := rfl
theorem n36ro (t : Nat) : n36.ro t = (t == 1) := rfl
theorem n36mv (t : Nat) : n36.mv t = (false) := rfl
theorem n36gv (t : Nat) : n36.give t = (false) := rfl
theorem n36f7 : n36.free 7 = [(14, 16), (15, 16), (14, 17), (15, 17), (14, 21), (15, 21), (16, 21), (17, 21), (18, 21), (19, 21), (20, 21), (14, 22), (15, 22), (16, 22), (17, 22), (18, 22), (19, 22), (20, 22)] := rfl
theorem res36 : Try.f36.results.toList = [.tmp 2] := rfl
noncomputable def b36 : Code := aQ Try.f36
noncomputable def c36_0 : Code := (bz 0 (aQ Try.f36)).getD .skip
theorem fl36_0 : bz 0 b36 = some c36_0 := rfl
theorem rg_rostrumref_StoreFault_k1 (C : ak) (k_rostrumref_In : K_rostrumref_In C) (p0 : GStore) (c : Code) (ho : cr 0 1 b36 = some c) (r : Bool) (hF : ck_rostrumref_StoreFault_k1 p0 = some r) : aH TT C.wide (evW TT C.wide n36 b36) n36 c ⟨[(1, .rp [.i .i64 p0.fNow, .sl 8 (ab GEntry.row p0.fEntries)])], []⟩ = some (.normal, ⟨[(1, .rp [.i .i64 p0.fNow, .sl 8 (ab GEntry.row p0.fEntries)]), (14, .v (.b r))], []⟩) := by
  have e := Option.some.inj (ho.symm.trans (rfl : cr 0 1 b36 = some _))
  subst e
  clear ho
  unfold ck_rostrumref_StoreFault_k1 at hF
  have g1 : C.wide 55 [.v (.i .i64 p0.fNow), .v (.i .i64 0), .v (.i .i64 1073741824)] [] = some (.v (.b (rostrumref_In_v p0.fNow 0 1073741824)), []) := k_rostrumref_In p0.fNow 0 1073741824 _ (rostrumref_In_t p0.fNow 0 1073741824)
  have g2 : rostrumref_In_v p0.fNow 0 1073741824 = (decide (0 ≤ p0.fNow) && decide (p0.fNow ≤ 1073741824)) := by first | rfl | (simp [rostrumref_In_v]; done) | (simp only [rostrumref_In_v]; decide)
  refine aT (decide (0 ≤ p0.fNow)) ?_ ?_
  focus
    intro h1
    replace hF := ar h1 hF
    cases hF
  rotate_left 1
  intro h1
  replace hF := aq h1 hF
  refine aG (decide (p0.fNow ≤ 1073741824)) ?_ ?_
  focus
    intro h2
    replace hF := aq h2 hF
    cases hF
  rotate_left 1
  intro h2
  replace hF := ar h2 hF
  cases hF
  all_goals (simp (maxSteps := 4000000) only [*, n36k1, n36mv, ↓RP, RB, aW, aC, aZ, Mx.bw, opnd, Mx.bF, Nat.reduceBEq, bK, aO, aB, ax, Mx.put, ofConst, ofCell, Mx.prune, killB, aK, putDst, au, aD, loadAt, bM, List.map, cm, cn, cg, forceAll, lend, lendA, aS, ay, bL, bare, bQ, newB, ch, ck, cj, bc, ty3, ty61, ty63, ↓aa _ _ _ _ 1])
theorem rg_rostrumref_StoreFault_k7v2 (C : ak) (k_rostrumref_fieldMay : K_rostrumref_fieldMay C) (k_rostrumref_ValueFault : K_rostrumref_ValueFault C) (p0 : GStore) (p1 : Int) (p2 : GEntry) (c : Code) (ho : cr 0 7 b36 = some c) (r : Bool) (hF : ck_rostrumref_StoreFault_k7v2 p0 p1 p2 = some r) : aH TT C.wide (evW TT C.wide n36 b36) n36 c ⟨[(1, .rp [.i .i64 p0.fNow, .sl 8 (ab GEntry.row p0.fEntries)]), (3, .v (.i .i64 p1)), (4, .ptr 0 0)], [[.v (.s p2.fKey), .v (.i .i64 p2.fValue.fKind), .v (.s p2.fValue.fText), .v (.i .i64 p2.fValue.fCount), .v (.sl 2 (ab GPair.row p2.fValue.fPairs)), .v (.sl 1 (ab aY p2.fValue.fItems)), .v (.sl 2 (ab GScore.row p2.fValue.fScores)), .v (.i .i64 p2.fUntil)]]⟩ = some (.normal, ⟨[(1, .rp [.i .i64 p0.fNow, .sl 8 (ab GEntry.row p0.fEntries)]), (3, .v (.i .i64 p1)), (4, .ptr 0 0), (52, .v (.b r))], [[.v (.s p2.fKey), .v (.i .i64 p2.fValue.fKind), .v (.s p2.fValue.fText), .v (.i .i64 p2.fValue.fCount), .v (.sl 2 (ab GPair.row p2.fValue.fPairs)), .v (.sl 1 (ab aY p2.fValue.fItems)), .v (.sl 2 (ab GScore.row p2.fValue.fScores)), .v (.i .i64 p2.fUntil)]]⟩) := by
  have e := Option.some.inj (ho.symm.trans (rfl : cr 0 7 b36 = some _))
  subst e
  clear ho
  unfold ck_rostrumref_StoreFault_k7v2 at hF
  have g1 : C.wide 81 [.v (.s p2.fKey)] [] = some (.v (.b (rostrumref_fieldMay_v p2.fKey)), []) := k_rostrumref_fieldMay p2.fKey _ (rostrumref_fieldMay_t p2.fKey)
  refine aT (rostrumref_fieldMay_v p2.fKey) ?_ ?_
  focus
    intro h1
    replace hF := ar h1 hF
    cases hF
  rotate_left 1
  intro h1
  replace hF := aq h1 hF
  revert hF
  cases h2 : rostrumref_ValueFault p2.fValue
  focus
    intro hF
    cases hF
  rename_i x1
  intro hF
  try dsimp only at hF
  have g2 : C.wide 30 [.agg [.v (.i .i64 p2.fValue.fKind), .v (.s p2.fValue.fText), .v (.i .i64 p2.fValue.fCount), .v (.sl 2 (ab GPair.row p2.fValue.fPairs)), .v (.sl 1 (ab aY p2.fValue.fItems)), .v (.sl 2 (ab GScore.row p2.fValue.fScores))]] [] = some (.v (.i .i64 x1), []) := k_rostrumref_ValueFault p2.fValue _ h2
  refine aT (x1 == 0) ?_ ?_
  focus
    intro h3
    replace hF := ar h3 hF
    cases hF
  rotate_left 1
  intro h3
  replace hF := aq h3 hF
  refine aT (decide (0 < p1)) ?_ ?_
  focus
    intro h4
    replace hF := ar h4 hF
    cases hF
  rotate_left 1
  intro h4
  replace hF := aq h4 hF
  revert hF
  cases h5 : idx p0.fEntries (IntKind.i64.wrap (p1 - 1))
  focus
    intro hF
    cases hF
  rename_i x2
  intro hF
  try dsimp only at hF
  have g3 : decide (0 ≤ (IntKind.i64.wrap (p1 - 1))) = true := (cc h5).1
  have g4 : (ab GEntry.row p0.fEntries)[((IntKind.i64.wrap (p1 - 1)) : Int).toNat]? = some [.s x2.fKey, .i .i64 x2.fValue.fKind, .s x2.fValue.fText, .i .i64 x2.fValue.fCount, .sl 2 (ab GPair.row x2.fValue.fPairs), .sl 1 (ab aY x2.fValue.fItems), .sl 2 (ab GScore.row x2.fValue.fScores), .i .i64 x2.fUntil] := ca _ h5
  cases hF
  all_goals (simp (maxSteps := 4000000) only [*, n36k7, n36f7, n36mv, ↓RP, RB, aW, aC, aZ, Mx.bw, opnd, Mx.bF, Nat.reduceBEq, bK, aO, aB, ax, Mx.put, ofConst, ofCell, Mx.prune, killB, aK, putDst, au, aD, loadAt, bM, List.map, Nat.reduceAdd, cm, cn, forceAll, bg, lend, lendA, aS, ay, bL, bare, bQ, bB, Nat.reduceSub, aJ, aX, bX, bE, ce, bV, bk, aI, bh, Op.operands, newB, ch, ck, cj, bne, bc, aP, bm, Call.operands, ty9, ty53, ty61, ty63, ty117, ↓am _ _ _ _ 7])
theorem rg_rostrumref_StoreFault_k9v2 (C : ak) (k_rostrumref_In : K_rostrumref_In C) (p0 : GStore) (p1 : Int) (p2 : GEntry) (c : Code) (ho : cr 0 9 b36 = some c) (r : Bool) (hF : ck_rostrumref_StoreFault_k9v2 p0 p1 p2 = some r) : aH TT C.wide (evW TT C.wide n36 b36) n36 c ⟨[(1, .rp [.i .i64 p0.fNow, .sl 8 (ab GEntry.row p0.fEntries)]), (3, .v (.i .i64 p1)), (4, .ptr 0 0)], [[.v (.s p2.fKey), .v (.i .i64 p2.fValue.fKind), .v (.s p2.fValue.fText), .v (.i .i64 p2.fValue.fCount), .v (.sl 2 (ab GPair.row p2.fValue.fPairs)), .v (.sl 1 (ab aY p2.fValue.fItems)), .v (.sl 2 (ab GScore.row p2.fValue.fScores)), .v (.i .i64 p2.fUntil)]]⟩ = some (.normal, ⟨[(1, .rp [.i .i64 p0.fNow, .sl 8 (ab GEntry.row p0.fEntries)]), (3, .v (.i .i64 p1)), (68, .v (.b r))], [[.v (.s p2.fKey), .v (.i .i64 p2.fValue.fKind), .v (.s p2.fValue.fText), .v (.i .i64 p2.fValue.fCount), .v (.sl 2 (ab GPair.row p2.fValue.fPairs)), .v (.sl 1 (ab aY p2.fValue.fItems)), .v (.sl 2 (ab GScore.row p2.fValue.fScores)), .v (.i .i64 p2.fUntil)]]⟩) := by
  have e := Option.some.inj (ho.symm.trans (rfl : cr 0 9 b36 = some _))
  subst e
  clear ho
  unfold ck_rostrumref_StoreFault_k9v2 at hF
  refine aG (p2.fUntil == 0) ?_ ?_
  focus
    intro h1
    replace hF := aq h1 hF
    cases hF
  rotate_left 1
  intro h1
  replace hF := ar h1 hF
  have g1 : C.wide 55 [.v (.i .i64 p2.fUntil), .v (.i .i64 0), .v (.i .i64 1073741824)] [] = some (.v (.b (rostrumref_In_v p2.fUntil 0 1073741824)), []) := k_rostrumref_In p2.fUntil 0 1073741824 _ (rostrumref_In_t p2.fUntil 0 1073741824)
  have g2 : rostrumref_In_v p2.fUntil 0 1073741824 = (decide (0 ≤ p2.fUntil) && decide (p2.fUntil ≤ 1073741824)) := by first | rfl | (simp [rostrumref_In_v]; done) | (simp only [rostrumref_In_v]; decide)
  refine aT (decide (0 ≤ p2.fUntil)) ?_ ?_
  focus
    intro h2
    replace hF := ar h2 hF
    cases hF
  rotate_left 1
  intro h2
  replace hF := aq h2 hF
  refine aG (decide (p2.fUntil ≤ 1073741824)) ?_ ?_
  focus
    intro h3
    replace hF := aq h3 hF
    cases hF
  rotate_left 1
  intro h3
  replace hF := ar h3 hF
  cases hF
  all_goals (simp (maxSteps := 4000000) only [*, n36k9, n36mv, ↓RP, RB, aW, aC, aZ, Mx.bw, opnd, Mx.bF, Nat.reduceBEq, bK, aO, aB, ax, Mx.put, ofConst, ofCell, Mx.prune, killB, aK, putDst, au, aD, loadAt, bM, List.map, cm, cn, forceAll, lend, lendA, aS, ay, bL, bare, bQ, newB, ch, ck, cj, bne, bc, ty3, ty63, ty117, ↓aa _ _ _ _ 9])
def hd_rostrumref_StoreFault_0 (p0 : GStore) (s : Int) : St := ⟨[(1, .rp [.i .i64 p0.fNow, .sl 8 (ab GEntry.row p0.fEntries)]), (3, .v (.i .i64 s))], []⟩
def ou_rostrumref_StoreFault_0 (p0 : GStore) (r : GEntry ⊕ Unit) : Option (Ex × St) := match r with
  | .inl r => some (.ret, ⟨[(2, .v (.i .i64 13))], [[.v (.s r.fKey), .v (.i .i64 r.fValue.fKind), .v (.s r.fValue.fText), .v (.i .i64 r.fValue.fCount), .v (.sl 2 (ab GPair.row r.fValue.fPairs)), .v (.sl 1 (ab aY r.fValue.fItems)), .v (.sl 2 (ab GScore.row r.fValue.fScores)), .v (.i .i64 r.fUntil)]]⟩)
  | .inr r => some (.normal, ⟨[], []⟩)

theorem sl_rostrumref_StoreFault_0 (C : ak) (k_rostrumref_fieldMay : K_rostrumref_fieldMay C) (k_rostrumref_ValueFault : K_rostrumref_ValueFault C) (k_rostrumref_In : K_rostrumref_In C) (p0 : GStore) (p1 : Int) (o : Int ⊕ (GEntry ⊕ Unit)) (hF : st_rostrumref_StoreFault_0 p0 p1 = some o) : evW TT C.wide n36 b36 0 (hd_rostrumref_StoreFault_0 p0 p1) = Sum.elim (fun s => evW TT C.wide n36 b36 0 (hd_rostrumref_StoreFault_0 p0 s)) (fun r => ou_rostrumref_StoreFault_0 p0 r) o := by
  unfold st_rostrumref_StoreFault_0 at hF
  try dsimp only at hF
  rw [ct TT n36 fl36_0]
  refine aT (decide (p1 < (p0.fEntries.length : Int))) ?_ ?_
  focus
    intro h1
    replace hF := ar h1 hF
    cases hF
  rotate_left 1
  intro h1
  replace hF := aq h1 hF
  revert hF
  cases h2 : idx p0.fEntries p1
  focus
    intro hF
    cases hF
  rename_i x1
  intro hF
  try dsimp only at hF
  have g1 : decide (0 ≤ p1) = true := (cc h2).1
  have g2 : (ab GEntry.row p0.fEntries)[(p1 : Int).toNat]? = some [.s x1.fKey, .i .i64 x1.fValue.fKind, .s x1.fValue.fText, .i .i64 x1.fValue.fCount, .sl 2 (ab GPair.row x1.fValue.fPairs), .sl 1 (ab aY x1.fValue.fItems), .sl 2 (ab GScore.row x1.fValue.fScores), .i .i64 x1.fUntil] := ca _ h2
  revert hF
  cases h3 : ck_rostrumref_StoreFault_k7v2 p0 p1 x1
  focus
    intro hF
    cases hF
  rename_i x2
  intro hF
  try dsimp only at hF
  have g3 : @cR TT C.wide (evW TT C.wide n36 b36) n36 0 7 ⟨[(1, .rp [.i .i64 p0.fNow, .sl 8 (ab GEntry.row p0.fEntries)]), (3, .v (.i .i64 p1)), (4, .ptr 0 0)], [[.v (.s x1.fKey), .v (.i .i64 x1.fValue.fKind), .v (.s x1.fValue.fText), .v (.i .i64 x1.fValue.fCount), .v (.sl 2 (ab GPair.row x1.fValue.fPairs)), .v (.sl 1 (ab aY x1.fValue.fItems)), .v (.sl 2 (ab GScore.row x1.fValue.fScores)), .v (.i .i64 x1.fUntil)]]⟩ ⟨_⟩ = some (.normal, ⟨[(1, .rp [.i .i64 p0.fNow, .sl 8 (ab GEntry.row p0.fEntries)]), (3, .v (.i .i64 p1)), (4, .ptr 0 0), (52, .v (.b x2))], [[.v (.s x1.fKey), .v (.i .i64 x1.fValue.fKind), .v (.s x1.fValue.fText), .v (.i .i64 x1.fValue.fCount), .v (.sl 2 (ab GPair.row x1.fValue.fPairs)), .v (.sl 1 (ab aY x1.fValue.fItems)), .v (.sl 2 (ab GScore.row x1.fValue.fScores)), .v (.i .i64 x1.fUntil)]]⟩) := rg_rostrumref_StoreFault_k7v2 C k_rostrumref_fieldMay k_rostrumref_ValueFault p0 p1 x1 _ rfl _ h3
  refine aG x2 ?_ ?_
  focus
    intro h4
    replace hF := aq h4 hF
    cases hF
  rotate_left 1
  intro h4
  replace hF := ar h4 hF
  have g4 : @cR TT C.wide (evW TT C.wide n36 b36) n36 0 9 ⟨[(1, .rp [.i .i64 p0.fNow, .sl 8 (ab GEntry.row p0.fEntries)]), (3, .v (.i .i64 p1)), (4, .ptr 0 0)], [[.v (.s x1.fKey), .v (.i .i64 x1.fValue.fKind), .v (.s x1.fValue.fText), .v (.i .i64 x1.fValue.fCount), .v (.sl 2 (ab GPair.row x1.fValue.fPairs)), .v (.sl 1 (ab aY x1.fValue.fItems)), .v (.sl 2 (ab GScore.row x1.fValue.fScores)), .v (.i .i64 x1.fUntil)]]⟩ ⟨_⟩ = some (.normal, ⟨[(1, .rp [.i .i64 p0.fNow, .sl 8 (ab GEntry.row p0.fEntries)]), (3, .v (.i .i64 p1)), (68, .v (.b (ck_rostrumref_StoreFault_k9v2_v p0 p1 x1)))], [[.v (.s x1.fKey), .v (.i .i64 x1.fValue.fKind), .v (.s x1.fValue.fText), .v (.i .i64 x1.fValue.fCount), .v (.sl 2 (ab GPair.row x1.fValue.fPairs)), .v (.sl 1 (ab aY x1.fValue.fItems)), .v (.sl 2 (ab GScore.row x1.fValue.fScores)), .v (.i .i64 x1.fUntil)]]⟩) := rg_rostrumref_StoreFault_k9v2 C k_rostrumref_In p0 p1 x1 _ rfl (ck_rostrumref_StoreFault_k9v2_v p0 p1 x1) (ck_rostrumref_StoreFault_k9v2_t p0 p1 x1)
  refine aG (ck_rostrumref_StoreFault_k9v2_v p0 p1 x1) ?_ ?_
  focus
    intro h5
    replace hF := aq h5 hF
    cases hF
  rotate_left 1
  intro h5
  replace hF := ar h5 hF
  cases hF
  all_goals (show cD _ _ _ (aH _ _ _ _ (Code.seq _ _) _) = _; simp (maxSteps := 4000000) only [*, hd_rostrumref_StoreFault_0, ou_rostrumref_StoreFault_0, n36a19t, n36a19f, n36a52t, n36a52f, n36a68t, n36a68f, n36k4, n36k5, n36k6, n36k8, n36k10, n36mv, ↓RP, RB, ↓ah, aZ, be, aM, Mx.bw, opnd, Mx.bF, Nat.reduceBEq, bK, Mx.fit, bI, bY, cellsOf, aO, aB, ax, Mx.put, ofConst, ofCell, Mx.prune, killB, killBs, aK, putDst, au, aD, loadAt, bM, List.map, Nat.reduceAdd, cm, cn, cg, bD, aL, lowC, bg, kill, bB, setCells, Nat.reduceLeDiff, lowA, bi, ck, cj, bne, ↓aj, ↓ai, ty3, ty25, ty61, ty63, ty117, ↓aa _ _ _ _ 4, ↓aa _ _ _ _ 6, ↓bC _ _ _ _ 7, ↓aa _ _ _ _ 8, ↓bC _ _ _ _ 9, ↓aa _ _ _ _ 10, ↓aa _ _ _ _ 5])
theorem r_rostrumref_StoreFault (C : ak) (k_rostrumref_In : K_rostrumref_In C) (k_rostrumref_fieldMay : K_rostrumref_fieldMay C) (k_rostrumref_ValueFault : K_rostrumref_ValueFault C) (p0 : GStore) (r : Int) (hF : rostrumref_StoreFault p0 = some r) : cF TT C.wide (evW TT C.wide n36 b36) n36 Try.f36.results.toList (aQ Try.f36) [.agg [.v (.i .i64 p0.fNow), .v (.sl 8 (ab GEntry.row p0.fEntries))]] [] = some (.v (.i .i64 r), []) := by
  unfold rostrumref_StoreFault at hF
  have g1 : @cR TT C.wide (evW TT C.wide n36 b36) n36 0 1 ⟨[(1, .rp [.i .i64 p0.fNow, .sl 8 (ab GEntry.row p0.fEntries)])], []⟩ ⟨_⟩ = some (.normal, ⟨[(1, .rp [.i .i64 p0.fNow, .sl 8 (ab GEntry.row p0.fEntries)]), (14, .v (.b (ck_rostrumref_StoreFault_k1_v p0)))], []⟩) := rg_rostrumref_StoreFault_k1 C k_rostrumref_In p0 _ rfl (ck_rostrumref_StoreFault_k1_v p0) (ck_rostrumref_StoreFault_k1_t p0)
  refine aG (ck_rostrumref_StoreFault_k1_v p0) ?_ ?_
  focus
    intro h1
    replace hF := aq h1 hF
    have hR := Option.some.inj hF
    clear hF
    subst hR
  rotate_left 1
  intro h1
  replace hF := ar h1 hF
  revert hF
  cases h2 : ci (st_rostrumref_StoreFault_0 p0) 0
  focus
    intro hF
    cases hF
  rename_i qh2
  cases qh2
  focus
    rename_i z0h2
    revert z0h2
    intro x1 h2
    intro hF
    try dsimp only at hF
    have g2 : evW TT C.wide n36 b36 0 ⟨[(1, .rp [.i .i64 p0.fNow, .sl 8 (ab GEntry.row p0.fEntries)]), (3, .v (.i .i64 0))], []⟩ = some (.ret, ⟨[(2, .v (.i .i64 13))], [[.v (.s x1.fKey), .v (.i .i64 x1.fValue.fKind), .v (.s x1.fValue.fText), .v (.i .i64 x1.fValue.fCount), .v (.sl 2 (ab GPair.row x1.fValue.fPairs)), .v (.sl 1 (ab aY x1.fValue.fItems)), .v (.sl 2 (ab GScore.row x1.fValue.fScores)), .v (.i .i64 x1.fUntil)]]⟩) := cy (hd_rostrumref_StoreFault_0 p0) (ou_rostrumref_StoreFault_0 p0) (fun s o hs => sl_rostrumref_StoreFault_0 C k_rostrumref_fieldMay k_rostrumref_ValueFault k_rostrumref_In p0 s o hs) h2
    have hR := Option.some.inj hF
    clear hF
    subst hR
  rotate_left 1
  rename_i y0h2
  intro hF
  try dsimp only at hF
  have g3 : evW TT C.wide n36 b36 0 ⟨[(1, .rp [.i .i64 p0.fNow, .sl 8 (ab GEntry.row p0.fEntries)]), (3, .v (.i .i64 0))], []⟩ = some (.normal, ⟨[], []⟩) := cy (hd_rostrumref_StoreFault_0 p0) (ou_rostrumref_StoreFault_0 p0) (fun s o hs => sl_rostrumref_StoreFault_0 C k_rostrumref_fieldMay k_rostrumref_ValueFault k_rostrumref_In p0 s o hs) h2
  have hR := Option.some.inj hF
  clear hF
  subst hR
  all_goals (rw [ba]; show cp _ _ _ (aH _ _ _ _ (Code.seq _ _) _) = _; simp (maxSteps := 4000000) only [*, res36, n36a14t, n36a14f, n36k0, n36k2, n36k3, n36k11, n36ro, ↓RP, RB, enter, aZ, be, aM, Mx.bw, opnd, Mx.bF, Nat.reduceBEq, bK, Mx.fit, bI, bY, toVs, cellsOf, toV, aO, aB, ax, Mx.put, ofConst, ofCell, Mx.prune, killB, List.map, az, bn, bq, co, bN, bD, aL, lowC, ↓aj, ↓ai, ty3, ty25, ty63, ↓aa _ _ _ _ 0, ↓bC _ _ _ _ 1, ↓aa _ _ _ _ 2, ↓aa _ _ _ _ 3, ↓aa _ _ _ _ 11])
set_option linter.unusedSimpArgs true
def n10 : cC where
  keep := fun i => match i with
    | 0 => [1]
    | 1 => [1, 3]
    | 2 => [3, 4]
    | 3 => [2]
    | _ => []
  ro := fun t => t == 1
  mv := fun _ => false
  give := fun _ => false
  free := fun _ => []
theorem n10k0 : n10.keep 0 = [1] := rfl
theorem n10k1 : n10.keep 1 = [1, 3] := rfl
theorem n10k2 : n10.keep 2 = [3, 4] := rfl
theorem n10k3 : n10.keep 3 = [2] := rfl
theorem n10ro (t : Nat) : n10.ro t = (t == 1) := rfl
theorem n10mv (t : Nat) : n10.mv t = (false) := rfl
theorem n10gv (t : Nat) : n10.give t = (false) := rfl
theorem res10 : Try.f10.results.toList = [.tmp 2] := rfl
noncomputable def b10 : Code := aQ Try.f10
theorem r_rostrumlaw_StoreChecks (C : ak) (k_rostrumref_StoreCopy_z : K_rostrumref_StoreCopy_z C) (k_store_Check : K_store_Check C) (k_rostrumref_StoreFault : K_rostrumref_StoreFault C) (p0 : GStore) (r : Bool) (hF : rostrumlaw_StoreChecks p0 = some r) : cF TT C.wide (evW TT C.wide n10 b10) n10 Try.f10.results.toList (aQ Try.f10) [.agg [.v (.i .i64 p0.fNow), .v (.sl 8 (ab GEntry.row p0.fEntries))]] [] = some (.v (.b r), []) := by
  unfold rostrumlaw_StoreChecks at hF
  revert hF
  cases h1 : rostrumref_StoreCopy_z p0
  focus
    intro hF
    cases hF
  rename_i x1
  intro hF
  try dsimp only at hF
  have g1 : C.wide 35 [.agg [.v (.i .i64 p0.fNow), .v (.sl 8 (ab GEntry.row p0.fEntries))]] [] = some (.agg [.v (.i .i64 x1.fNow), .v (.sl 8 (ab GEntry.row x1.fEntries))], []) := k_rostrumref_StoreCopy_z p0 _ h1
  revert hF
  cases h2 : store_Check x1
  focus
    intro hF
    cases hF
  rename_i x2
  intro hF
  try dsimp only at hF
  have g2 : C.wide 34 [.agg [.v (.i .i64 x1.fNow), .v (.sl 8 (ab GEntry.row x1.fEntries))]] [] = some (.v (.i .i64 x2), []) := k_store_Check x1 _ h2
  revert hF
  cases h3 : rostrumref_StoreFault p0
  focus
    intro hF
    cases hF
  rename_i x3
  intro hF
  try dsimp only at hF
  have g3 : C.wide 36 [.agg [.v (.i .i64 p0.fNow), .v (.sl 8 (ab GEntry.row p0.fEntries))]] [] = some (.v (.i .i64 x3), []) := k_rostrumref_StoreFault p0 _ h3
  have hR := Option.some.inj hF
  clear hF
  subst hR
  all_goals (rw [ba]; show cp _ _ _ (aH _ _ _ _ (Code.seq _ _) _) = _; simp (maxSteps := 4000000) only [*, res10, n10k0, n10k1, n10k2, n10k3, n10ro, n10mv, ↓RP, RB, enter, aZ, be, aM, Mx.bw, opnd, Mx.bF, Nat.reduceBEq, bK, Mx.fit, bI, bY, toVs, cellsOf, toV, aO, aB, ax, Mx.put, ofConst, ofCell, Mx.prune, killB, aK, putDst, au, loadAt, bM, List.map, Nat.reduceAdd, cm, cn, az, bn, bq, co, bN, bD, aL, lowC, forceAll, lend, lendA, aS, ay, bL, bare, bQ, newB, ch, ck, cj, ↓aj, ↓aa, ty4, ty25, ty63])
end Go.Proofs.Ytnjkmbogbfjffaa
