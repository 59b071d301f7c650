/- The code of these functions, run by the machine Mx, gives what the plain functions say, if their callees do (part 1). -/
import Derived.Test.YtnjkmbogbfjffaaWTy
import Derived.Test.YtnjkmbogbfjffaaClientChecksD
set_option linter.unusedSimpArgs false
set_option linter.unusedVariables false
set_option linter.constructorNameAsVariable false
set_option linter.unnecessarySimpa false
set_option maxRecDepth 100000
set_option maxHeartbeats 40000000
namespace Go.Proofs.Ytnjkmbogbfjffaa
open Go Go.Mx Go.Proofs
def n29 : cC where
  keep := fun i => match i with
    | 0 => [1, 2]
    | 1 => [1, 2, 3]
    | 2 => [1, 2, 3, 4]
    | 3 => [1, 2, 3, 4, 18]
    | 4 => [1, 2, 3, 4]
    | 5 => [1, 2, 3, 4]
    | 6 => [1, 2, 3, 5]
    | 7 => [1, 2, 3, 5, 35]
    | 8 => [1, 2, 3, 5]
    | 9 => [1, 2, 3, 5]
    | 10 => [1, 2, 3, 6]
    | 11 => [1, 2, 3, 6, 52]
    | 12 => [1, 2, 3, 6]
    | 13 => [1, 2, 3, 6]
    | 14 => [2]
    | _ => []
  ro := fun t => t == 1
  mv := fun t => t == 65
  give := fun _ => false
  free := fun i => match i with | 5 => [(0, 2), (1, 2), (0, 3), (1, 3), (0, 4), (1, 4), (2, 4), (3, 4), (0, 5), (1, 5), (0, 6), (1, 6), (0, 7), (1, 7)] | 9 => [(0, 2), (1, 2), (0, 3), (1, 3), (0, 4), (1, 4), (2, 4), (3, 4), (0, 5), (1, 5), (0, 6), (1, 6), (0, 7), (1, 7)] | 13 => [(0, 2), (1, 2), (0, 3), (1, 3), (0, 4), (1, 4), (2, 4), (3, 4), (0, 5), (1, 5), (0, 6), (1, 6), (0, 7), (1, 7)] | _ => []
  alive := fun i x => match i, x with
    | 18, true => some [1, 2, 3, 4]
    | 18, false => some [1, 2, 3]
    | 35, true => some [1, 2, 3, 5]
    | 35, false => some [1, 2, 3]
    | 52, true => some [1, 2, 3, 6]
    | 52, false => some [2, 3]
    | _, _ => none
theorem n29a18t (e : Env) (S : aA) : aw n29 18 true ⟨e, S⟩ = ⟨prune [1, 2, 3, 4] e, S⟩ := rfl
theorem n29a18f (e : Env) (S : aA) : aw n29 18 false ⟨e, S⟩ = ⟨prune [1, 2, 3] e, S⟩ := rfl
theorem n29a35t (e : Env) (S : aA) : aw n29 35 true ⟨e, S⟩ = ⟨prune [1, 2, 3, 5] e, S⟩ := rfl
theorem n29a35f (e : Env) (S : aA) : aw n29 35 false ⟨e, S⟩ = ⟨prune [1, 2, 3] e, S⟩ := rfl
theorem n29a52t (e : Env) (S : aA) : aw n29 52 true ⟨e, S⟩ = ⟨prune [1, 2, 3, 6] e, S⟩ := rfl
theorem n29a52f (e : Env) (S : aA) : aw n29 52 false ⟨e, S⟩ = ⟨prune [2, 3] e, S⟩ := rfl
theorem n29k0 : n29.keep 0 = [1, 2] := rfl
theorem n29k1 : n29.keep 1 = [1, 2, 3] := rfl
theorem n29k2 : n29.keep 2 = [1, 2, 3, 4] := rfl
theorem n29k3 : n29.keep 3 = [1, 2, 3, 4, 18] := rfl
theorem n29k4 : n29.keep 4 = [1, 2, 3, 4] := rfl
theorem n29k5 : n29.keep 5 = [1, 2, 3, 4] := rfl
theorem n29k6 : n29.keep 6 = [1, 2, 3, 5] := rfl
theorem n29k7 : n29.keep 7 = [1, 2, 3, 5, 35] := rfl
theorem n29k8 : n29.keep 8 = [1, 2, 3, 5] := rfl
theorem n29k9 : n29.keep 9 = [1, 2, 3, 5] := rfl
theorem n29k10 : n29.keep 10 = [1, 2, 3, 6] := rfl
theorem n29k11 : n29.keep 11 = [1, 2, 3, 6, 52] := rfl
theorem n29k12 : n29.keep 12 = [1, 2, 3, 6] := rfl
theorem n29k13 : n29.keep 13 = [1, 2, 3, 6] := rfl
theorem n29k14 : n29.keep 14 = [2] := rfl
theorem n29ro (t : Nat) : n29.ro t = (t == 1) := rfl
theorem n29mv (t : Nat) : n29.mv t = (t == 65) := rfl
theorem n29f5 : n29.free 5 = [(0, 2), (1, 2), (0, 3), (1, 3), (0, 4), (1, 4), (2, 4), (3, 4), (0, 5), (1, 5), (0, 6), (1, 6), (0, 7), (1, 7)] := rfl
theorem n29f9 : n29.free 9 = [(0, 2), (1, 2), (0, 3), (1, 3), (0, 4), (1, 4), (2, 4), (3, 4), (0, 5), (1, 5), (0, 6), (1, 6), (0, 7), (1, 7)] := rfl
theorem n29f13 : n29.free 13 = [(0, 2), (1, 2), (0, 3), (1, 3), (0, 4), (1, 4), (2, 4), (3, 4), (0, 5), (1, 5), (0, 6), (1, 6), (0, 7), (1, 7)] := rfl
theorem res29 : Try.f29.results.toList = [.cell 2 53] := rfl
noncomputable def b29 : Code := aQ Try.f29
noncomputable def c29_0 : Code := (bz 0 (aQ Try.f29)).getD .skip
theorem fl29_0 : bz 0 b29 = some c29_0 := rfl
noncomputable def c29_2 : Code := (bz 2 (aQ Try.f29)).getD .skip
theorem fl29_2 : bz 2 b29 = some c29_2 := rfl
noncomputable def c29_4 : Code := (bz 4 (aQ Try.f29)).getD .skip
theorem fl29_4 : bz 4 b29 = some c29_4 := rfl
def hd_rostrumref_ValueCopy_0 (p0 : GValue) (s : Int × GValue) : St := ⟨[(1, .rp [.i .i64 p0.fKind, .s p0.fText, .i .i64 p0.fCount, .sl 2 (ab GPair.row p0.fPairs), .sl 1 (ab aY p0.fItems), .sl 2 (ab GScore.row p0.fScores)]), (2, .ptr 0 0), (3, .ptr 1 0), (4, .v (.i .i64 s.1))], [[.v (.i .i64 0), .v (.s ByteArray.empty), .v (.i .i64 0), .own 2 [], .own 1 [], .own 2 []], [.v (.i .i64 s.2.fKind), .v (.s s.2.fText), .v (.i .i64 s.2.fCount), .own 2 (ab GPair.row s.2.fPairs), .own 1 (ab aY s.2.fItems), .own 2 (ab GScore.row s.2.fScores)]]⟩
def ou_rostrumref_ValueCopy_0 (p0 : GValue) (r : GValue) : Option (Ex × St) := some (.normal, ⟨[(1, .rp [.i .i64 p0.fKind, .s p0.fText, .i .i64 p0.fCount, .sl 2 (ab GPair.row p0.fPairs), .sl 1 (ab aY p0.fItems), .sl 2 (ab GScore.row p0.fScores)]), (2, .ptr 0 0), (3, .ptr 1 0)], [[.v (.i .i64 0), .v (.s ByteArray.empty), .v (.i .i64 0), .own 2 [], .own 1 [], .own 2 []], [.v (.i .i64 r.fKind), .v (.s r.fText), .v (.i .i64 r.fCount), .own 2 (ab GPair.row r.fPairs), .own 1 (ab aY r.fItems), .own 2 (ab GScore.row r.fScores)]]⟩)
theorem sl_rostrumref_ValueCopy_0 (C : ak)  (p0 : GValue) (s : Int × GValue) (o : (Int × GValue) ⊕ GValue) (hF : st_rostrumref_ValueCopy_0 p0 s = some o) : evW TT C.wide n29 b29 0 (hd_rostrumref_ValueCopy_0 p0 s) = Sum.elim (fun s => evW TT C.wide n29 b29 0 (hd_rostrumref_ValueCopy_0 p0 s)) (fun r => ou_rostrumref_ValueCopy_0 p0 r) o := by
  obtain ⟨p1, p2⟩ := s
  unfold st_rostrumref_ValueCopy_0 at hF
  try dsimp only at hF
  rw [ct TT n29 fl29_0]
  refine aT (decide (p1 < (p0.fPairs.length : Int))) ?_ ?_
  focus
    intro h1
    replace hF := ar h1 hF
    cases hF
  rotate_left 1
  intro h1
  replace hF := aq h1 hF
  revert hF
  cases h2 : idx p0.fPairs p1
  focus
    intro hF
    cases hF
  rename_i x1
  intro hF
  try dsimp only at hF
  have g1 : decide (0 ≤ p1) = true := (cc h2).1
  have g2 : (ab GPair.row p0.fPairs)[(p1 : Int).toNat]? = some [.s x1.fField, .s x1.fText] := ca _ h2
  refine aG (cH (p2.fPairs.length + 1) 32) ?_ ?_
  focus
    intro h3
    replace hF := aq h3 hF
    cases hF
  rotate_left 1
  intro h3
  replace hF := ar h3 hF
  cases hF
  all_goals (show cD _ _ _ (aH _ _ _ _ (Code.seq _ _) _) = _; simp (maxSteps := 4000000) only [*, hd_rostrumref_ValueCopy_0, ou_rostrumref_ValueCopy_0, n29a18t, n29a18f, n29k3, n29k4, n29k5, n29f5, n29mv, ↓RP, RB, ↓ac, aZ, be, aM, Mx.bw, opnd, Mx.bF, Nat.reduceBEq, bK, Mx.fit, bY, toVs, cellsOf, toV, aO, aB, ax, Mx.put, ofConst, ofCell, Mx.prune, killB, killBs, aK, putDst, au, aD, loadAt, bM, List.map, Nat.reduceAdd, Nat.reduceMul, cm, cn, cg, aN, bD, aL, bx, lowC, bg, kill, spendLoc, spendOk, bB, setCells, takeParts, bp, aR, Nat.reduceSub, Nat.reduceLeDiff, bJ, fineK, av, aJ, aX, bX, bE, ce, bV, bk, aI, bh, bj, bf, Op.operands, ck, cj, bne, ↓aj, ↓ai, ↓aa, ↓am, bm, aE, bH, ty3, ty49, ty53, ty101, GPair.one])
def hd_rostrumref_ValueCopy_2 (p0 : GValue) (s : Int × GValue) : St := ⟨[(1, .rp [.i .i64 p0.fKind, .s p0.fText, .i .i64 p0.fCount, .sl 2 (ab GPair.row p0.fPairs), .sl 1 (ab aY p0.fItems), .sl 2 (ab GScore.row p0.fScores)]), (2, .ptr 0 0), (3, .ptr 1 0), (5, .v (.i .i64 s.1))], [[.v (.i .i64 0), .v (.s ByteArray.empty), .v (.i .i64 0), .own 2 [], .own 1 [], .own 2 []], [.v (.i .i64 s.2.fKind), .v (.s s.2.fText), .v (.i .i64 s.2.fCount), .own 2 (ab GPair.row s.2.fPairs), .own 1 (ab aY s.2.fItems), .own 2 (ab GScore.row s.2.fScores)]]⟩
def ou_rostrumref_ValueCopy_2 (p0 : GValue) (r : GValue) : Option (Ex × St) := some (.normal, ⟨[(1, .rp [.i .i64 p0.fKind, .s p0.fText, .i .i64 p0.fCount, .sl 2 (ab GPair.row p0.fPairs), .sl 1 (ab aY p0.fItems), .sl 2 (ab GScore.row p0.fScores)]), (2, .ptr 0 0), (3, .ptr 1 0)], [[.v (.i .i64 0), .v (.s ByteArray.empty), .v (.i .i64 0), .own 2 [], .own 1 [], .own 2 []], [.v (.i .i64 r.fKind), .v (.s r.fText), .v (.i .i64 r.fCount), .own 2 (ab GPair.row r.fPairs), .own 1 (ab aY r.fItems), .own 2 (ab GScore.row r.fScores)]]⟩)
theorem sl_rostrumref_ValueCopy_2 (C : ak)  (p0 : GValue) (s : Int × GValue) (o : (Int × GValue) ⊕ GValue) (hF : st_rostrumref_ValueCopy_2 p0 s = some o) : evW TT C.wide n29 b29 2 (hd_rostrumref_ValueCopy_2 p0 s) = Sum.elim (fun s => evW TT C.wide n29 b29 2 (hd_rostrumref_ValueCopy_2 p0 s)) (fun r => ou_rostrumref_ValueCopy_2 p0 r) o := by
  obtain ⟨p1, p2⟩ := s
  unfold st_rostrumref_ValueCopy_2 at hF
  try dsimp only at hF
  rw [ct TT n29 fl29_2]
  refine aT (decide (p1 < (p0.fItems.length : Int))) ?_ ?_
  focus
    intro h1
    replace hF := ar h1 hF
    cases hF
  rotate_left 1
  intro h1
  replace hF := aq h1 hF
  revert hF
  cases h2 : idx p0.fItems p1
  focus
    intro hF
    cases hF
  rename_i x1
  intro hF
  try dsimp only at hF
  have g1 : decide (0 ≤ p1) = true := (cc h2).1
  have g2 : (ab aY p0.fItems)[(p1 : Int).toNat]? = some [.s x1] := ca _ h2
  refine aG (cH (p2.fItems.length + 1) 16) ?_ ?_
  focus
    intro h3
    replace hF := aq h3 hF
    cases hF
  rotate_left 1
  intro h3
  replace hF := ar h3 hF
  cases hF
  all_goals (show cD _ _ _ (aH _ _ _ _ (Code.seq _ _) _) = _; simp (maxSteps := 4000000) only [*, hd_rostrumref_ValueCopy_2, ou_rostrumref_ValueCopy_2, n29a35t, n29a35f, n29k7, n29k8, n29k9, n29f9, n29mv, ↓RP, RB, ↓ac, aZ, be, aM, Mx.bw, opnd, Mx.bF, Nat.reduceBEq, bK, Mx.fit, bY, toVs, cellsOf, toV, aO, aB, ax, Mx.put, ofConst, ofCell, Mx.prune, killB, aK, putDst, au, aD, loadAt, bM, List.map, Nat.reduceAdd, Nat.reduceMul, cm, cn, cg, aN, bD, aL, bx, lowC, bg, kill, spendLoc, spendOk, bB, setCells, takeParts, bp, aR, Nat.reduceSub, Nat.reduceLeDiff, bJ, fineK, av, aJ, aX, bX, bE, ce, bV, bk, aI, bh, bj, bf, Op.operands, ck, cj, bne, ↓aj, ↓ai, ↓aa, ↓am, bm, aE, bH, ty3, ty9, ty50, ty53])
def hd_rostrumref_ValueCopy_4 (p0 : GValue) (s : Int × GValue) : St := ⟨[(1, .rp [.i .i64 p0.fKind, .s p0.fText, .i .i64 p0.fCount, .sl 2 (ab GPair.row p0.fPairs), .sl 1 (ab aY p0.fItems), .sl 2 (ab GScore.row p0.fScores)]), (2, .ptr 0 0), (3, .ptr 1 0), (6, .v (.i .i64 s.1))], [[.v (.i .i64 0), .v (.s ByteArray.empty), .v (.i .i64 0), .own 2 [], .own 1 [], .own 2 []], [.v (.i .i64 s.2.fKind), .v (.s s.2.fText), .v (.i .i64 s.2.fCount), .own 2 (ab GPair.row s.2.fPairs), .own 1 (ab aY s.2.fItems), .own 2 (ab GScore.row s.2.fScores)]]⟩
def ou_rostrumref_ValueCopy_4 (p0 : GValue) (r : GValue) : Option (Ex × St) := some (.normal, ⟨[(2, .ptr 0 0), (3, .ptr 1 0)], [[.v (.i .i64 0), .v (.s ByteArray.empty), .v (.i .i64 0), .own 2 [], .own 1 [], .own 2 []], [.v (.i .i64 r.fKind), .v (.s r.fText), .v (.i .i64 r.fCount), .own 2 (ab GPair.row r.fPairs), .own 1 (ab aY r.fItems), .own 2 (ab GScore.row r.fScores)]]⟩)
theorem sl_rostrumref_ValueCopy_4 (C : ak)  (p0 : GValue) (s : Int × GValue) (o : (Int × GValue) ⊕ GValue) (hF : st_rostrumref_ValueCopy_4 p0 s = some o) : evW TT C.wide n29 b29 4 (hd_rostrumref_ValueCopy_4 p0 s) = Sum.elim (fun s => evW TT C.wide n29 b29 4 (hd_rostrumref_ValueCopy_4 p0 s)) (fun r => ou_rostrumref_ValueCopy_4 p0 r) o := by
  obtain ⟨p1, p2⟩ := s
  unfold st_rostrumref_ValueCopy_4 at hF
  try dsimp only at hF
  rw [ct TT n29 fl29_4]
  refine aT (decide (p1 < (p0.fScores.length : Int))) ?_ ?_
  focus
    intro h1
    replace hF := ar h1 hF
    cases hF
  rotate_left 1
  intro h1
  replace hF := aq h1 hF
  revert hF
  cases h2 : idx p0.fScores p1
  focus
    intro hF
    cases hF
  rename_i x1
  intro hF
  try dsimp only at hF
  have g1 : decide (0 ≤ p1) = true := (cc h2).1
  have g2 : (ab GScore.row p0.fScores)[(p1 : Int).toNat]? = some [.s x1.fMember, .i .i64 x1.fN] := ca _ h2
  refine aG (cH (p2.fScores.length + 1) 24) ?_ ?_
  focus
    intro h3
    replace hF := aq h3 hF
    cases hF
  rotate_left 1
  intro h3
  replace hF := ar h3 hF
  cases hF
  all_goals (show cD _ _ _ (aH _ _ _ _ (Code.seq _ _) _) = _; simp (maxSteps := 4000000) only [*, hd_rostrumref_ValueCopy_4, ou_rostrumref_ValueCopy_4, n29a52t, n29a52f, n29k11, n29k12, n29k13, n29f13, n29mv, ↓RP, RB, ↓ac, aZ, be, aM, Mx.bw, opnd, Mx.bF, Nat.reduceBEq, bK, Mx.fit, bY, toVs, cellsOf, toV, aO, aB, ax, Mx.put, ofConst, ofCell, Mx.prune, killB, killBs, aK, putDst, au, aD, loadAt, bM, List.map, Nat.reduceAdd, Nat.reduceMul, cm, cn, cg, aN, bD, aL, bx, lowC, bg, kill, spendLoc, spendOk, bB, setCells, takeParts, bp, aR, Nat.reduceSub, Nat.reduceLeDiff, bJ, fineK, av, aJ, aX, bX, bE, ce, bV, bk, aI, bh, bj, bf, Op.operands, ck, cj, bne, ↓aj, ↓ai, ↓aa, ↓am, bm, aE, bH, ty3, ty51, ty53, ty105, GScore.one])
theorem r_rostrumref_ValueCopy (C : ak)  (p0 : GValue) (r : GValue) (hF : rostrumref_ValueCopy p0 = some r) : cF TT C.wide (evW TT C.wide n29 b29) n29 Try.f29.results.toList (aQ Try.f29) [.agg [.v (.i .i64 p0.fKind), .v (.s p0.fText), .v (.i .i64 p0.fCount), .v (.sl 2 (ab GPair.row p0.fPairs)), .v (.sl 1 (ab aY p0.fItems)), .v (.sl 2 (ab GScore.row p0.fScores))]] [] = some (.agg [.v (.i .i64 r.fKind), .v (.s r.fText), .v (.i .i64 r.fCount), .own 2 (ab GPair.row r.fPairs), .own 1 (ab aY r.fItems), .own 2 (ab GScore.row r.fScores)], []) := by
  unfold rostrumref_ValueCopy at hF
  revert hF
  cases h1 : ci (st_rostrumref_ValueCopy_0 p0) (0, (GValue.mk p0.fKind p0.fText p0.fCount [] [] []))
  focus
    intro hF
    cases hF
  rename_i qh1
  revert qh1
  intro x1 h1
  intro hF
  try dsimp only at hF
  unfold rostrumref_ValueCopy_c0 at hF
  have g1 : evW TT C.wide n29 b29 0 ⟨[(1, .rp [.i .i64 p0.fKind, .s p0.fText, .i .i64 p0.fCount, .sl 2 (ab GPair.row p0.fPairs), .sl 1 (ab aY p0.fItems), .sl 2 (ab GScore.row p0.fScores)]), (2, .ptr 0 0), (3, .ptr 1 0), (4, .v (.i .i64 0))], [[.v (.i .i64 0), .v (.s ByteArray.empty), .v (.i .i64 0), .own 2 [], .own 1 [], .own 2 []], [.v (.i .i64 p0.fKind), .v (.s p0.fText), .v (.i .i64 p0.fCount), .own 2 [], .own 1 [], .own 2 []]]⟩ = some (.normal, ⟨[(1, .rp [.i .i64 p0.fKind, .s p0.fText, .i .i64 p0.fCount, .sl 2 (ab GPair.row p0.fPairs), .sl 1 (ab aY p0.fItems), .sl 2 (ab GScore.row p0.fScores)]), (2, .ptr 0 0), (3, .ptr 1 0)], [[.v (.i .i64 0), .v (.s ByteArray.empty), .v (.i .i64 0), .own 2 [], .own 1 [], .own 2 []], [.v (.i .i64 x1.fKind), .v (.s x1.fText), .v (.i .i64 x1.fCount), .own 2 (ab GPair.row x1.fPairs), .own 1 (ab aY x1.fItems), .own 2 (ab GScore.row x1.fScores)]]⟩) := cy (hd_rostrumref_ValueCopy_0 p0) (ou_rostrumref_ValueCopy_0 p0) (fun s o hs => sl_rostrumref_ValueCopy_0 C p0 s o hs) h1
  revert hF
  cases h2 : ci (st_rostrumref_ValueCopy_2 p0) (0, x1)
  focus
    intro hF
    cases hF
  rename_i qh2
  revert qh2
  intro x2 h2
  intro hF
  try dsimp only at hF
  have g2 : evW TT C.wide n29 b29 2 ⟨[(1, .rp [.i .i64 p0.fKind, .s p0.fText, .i .i64 p0.fCount, .sl 2 (ab GPair.row p0.fPairs), .sl 1 (ab aY p0.fItems), .sl 2 (ab GScore.row p0.fScores)]), (2, .ptr 0 0), (3, .ptr 1 0), (5, .v (.i .i64 0))], [[.v (.i .i64 0), .v (.s ByteArray.empty), .v (.i .i64 0), .own 2 [], .own 1 [], .own 2 []], [.v (.i .i64 x1.fKind), .v (.s x1.fText), .v (.i .i64 x1.fCount), .own 2 (ab GPair.row x1.fPairs), .own 1 (ab aY x1.fItems), .own 2 (ab GScore.row x1.fScores)]]⟩ = some (.normal, ⟨[(1, .rp [.i .i64 p0.fKind, .s p0.fText, .i .i64 p0.fCount, .sl 2 (ab GPair.row p0.fPairs), .sl 1 (ab aY p0.fItems), .sl 2 (ab GScore.row p0.fScores)]), (2, .ptr 0 0), (3, .ptr 1 0)], [[.v (.i .i64 0), .v (.s ByteArray.empty), .v (.i .i64 0), .own 2 [], .own 1 [], .own 2 []], [.v (.i .i64 x2.fKind), .v (.s x2.fText), .v (.i .i64 x2.fCount), .own 2 (ab GPair.row x2.fPairs), .own 1 (ab aY x2.fItems), .own 2 (ab GScore.row x2.fScores)]]⟩) := cy (hd_rostrumref_ValueCopy_2 p0) (ou_rostrumref_ValueCopy_2 p0) (fun s o hs => sl_rostrumref_ValueCopy_2 C p0 s o hs) h2
  revert hF
  cases h3 : ci (st_rostrumref_ValueCopy_4 p0) (0, x2)
  focus
    intro hF
    cases hF
  rename_i qh3
  revert qh3
  intro x3 h3
  intro hF
  try dsimp only at hF
  have g3 : evW TT C.wide n29 b29 4 ⟨[(1, .rp [.i .i64 p0.fKind, .s p0.fText, .i .i64 p0.fCount, .sl 2 (ab GPair.row p0.fPairs), .sl 1 (ab aY p0.fItems), .sl 2 (ab GScore.row p0.fScores)]), (2, .ptr 0 0), (3, .ptr 1 0), (6, .v (.i .i64 0))], [[.v (.i .i64 0), .v (.s ByteArray.empty), .v (.i .i64 0), .own 2 [], .own 1 [], .own 2 []], [.v (.i .i64 x2.fKind), .v (.s x2.fText), .v (.i .i64 x2.fCount), .own 2 (ab GPair.row x2.fPairs), .own 1 (ab aY x2.fItems), .own 2 (ab GScore.row x2.fScores)]]⟩ = some (.normal, ⟨[(2, .ptr 0 0), (3, .ptr 1 0)], [[.v (.i .i64 0), .v (.s ByteArray.empty), .v (.i .i64 0), .own 2 [], .own 1 [], .own 2 []], [.v (.i .i64 x3.fKind), .v (.s x3.fText), .v (.i .i64 x3.fCount), .own 2 (ab GPair.row x3.fPairs), .own 1 (ab aY x3.fItems), .own 2 (ab GScore.row x3.fScores)]]⟩) := cy (hd_rostrumref_ValueCopy_4 p0) (ou_rostrumref_ValueCopy_4 p0) (fun s o hs => sl_rostrumref_ValueCopy_4 C p0 s o hs) h3
  have hR := Option.some.inj hF
  clear hF
  subst hR
  all_goals (rw [ba]; show cp _ _ _ (aH _ _ _ _ (Code.seq _ _) _) = _; simp (maxSteps := 4000000) only [*, res29, n29k0, n29k1, n29k2, n29k6, n29k10, n29k14, n29ro, n29mv, ↓RP, RB, enter, aZ, be, aM, Mx.bw, opnd, Mx.bF, Nat.reduceBEq, bK, Mx.fit, bI, bY, toVs, cellsOf, toV, aO, aB, ax, Mx.put, ofConst, ofCell, Mx.prune, killB, killBs, aK, putDst, au, aD, loadAt, bM, List.map, Nat.reduceAdd, az, bn, bq, co, bN, bD, aL, bx, lowC, kill, bB, bT, fill, setCells, takeParts, Nat.reduceLeDiff, bne, ↓aj, ↓aa, ty3, ty9, ty49, ty50, ty51, ty53])
def n35 : cC where
  keep := fun i => match i with
    | 0 => [1, 2]
    | 1 => [1, 2, 3]
    | 2 => [1, 2, 3, 4]
    | 3 => [1, 2, 3, 4, 13]
    | 4 => [1, 2, 3, 4]
    | 5 => [1, 2, 3, 4, 5]
    | 6 => [1, 2, 3, 4]
    | 7 => [2]
    | _ => []
  ro := fun t => t == 1
  mv := fun t => t == 34
  give := fun _ => false
  free := fun i => match i with | 6 => [(0, 2), (1, 2), (0, 3), (1, 3), (0, 4), (1, 4), (2, 4), (3, 4), (0, 5), (1, 5), (2, 5), (3, 5), (0, 6), (1, 6), (2, 6), (3, 6), (0, 7), (1, 7), (2, 7), (3, 7), (4, 7), (5, 7), (6, 7), (0, 8), (1, 8), (2, 8), (3, 8), (4, 8), (5, 8), (6, 8), (0, 9), (1, 9), (0, 10), (1, 10)] | _ => []
  alive := fun i x => match i, x with
    | 13, true => some [1, 2, 3, 4]
    | 13, false => some [2, 3]
    | _, _ => none
theorem n35a13t (e : Env) (S : aA) : aw n35 13 true ⟨e, S⟩ = ⟨prune [1, 2, 3, 4] e, S⟩ := rfl
theorem n35a13f (e : Env) (S : aA) : aw n35 13 false ⟨e, S⟩ = ⟨prune [2, 3] e, S⟩ := rfl
theorem n35k0 : n35.keep 0 = [1, 2] := rfl
theorem n35k1 : n35.keep 1 = [1, 2, 3] := rfl
theorem n35k2 : n35.keep 2 = [1, 2, 3, 4] := rfl
theorem n35k3 : n35.keep 3 = [1, 2, 3, 4, 13] := rfl
theorem n35k4 : n35.keep 4 = [1, 2, 3, 4] := rfl
theorem n35k5 : n35.keep 5 = [1, 2, 3, 4, 5] := rfl
theorem n35k6 : n35.keep 6 = [1, 2, 3, 4] := rfl
theorem n35k7 : n35.keep 7 = [2] := rfl
theorem n35ro (t : Nat) : n35.ro t = (t == 1) := rfl
theorem n35mv (t : Nat) : n35.mv t = (t == 34) := rfl
theorem n35f6 : n35.free 6 = [(0, 2), (1, 2), (0, 3), (1, 3), (0, 4), (1, 4), (2, 4), (3, 4), (0, 5), (1, 5), (2, 5), (3, 5), (0, 6), (1, 6), (2, 6), (3, 6), (0, 7), (1, 7), (2, 7), (3, 7), (4, 7), (5, 7), (6, 7), (0, 8), (1, 8), (2, 8), (3, 8), (4, 8), (5, 8), (6, 8), (0, 9), (1, 9), (0, 10), (1, 10)] := rfl
theorem res35 : Try.f35.results.toList = [.cell 2 63] := rfl
noncomputable def b35 : Code := aQ Try.f35
noncomputable def c35_0 : Code := (bz 0 (aQ Try.f35)).getD .skip
theorem fl35_0 : bz 0 b35 = some c35_0 := rfl
def hd_rostrumref_StoreCopy_0 (p0 : GStore) (s : Int × GStore) : St := ⟨[(1, .rp [.i .i64 p0.fNow, .sl 8 (ab GEntry.row p0.fEntries)]), (2, .ptr 0 0), (3, .ptr 1 0), (4, .v (.i .i64 s.1))], [[.v (.i .i64 0), .own 8 []], [.v (.i .i64 s.2.fNow), .own 8 (ab GEntry.row s.2.fEntries)]]⟩
def ou_rostrumref_StoreCopy_0 (p0 : GStore) (r : GStore) : Option (Ex × St) := some (.normal, ⟨[(2, .ptr 0 0), (3, .ptr 1 0)], [[.v (.i .i64 0), .own 8 []], [.v (.i .i64 r.fNow), .own 8 (ab GEntry.row r.fEntries)]]⟩)
theorem sl_rostrumref_StoreCopy_0 (C : ak) (k_rostrumref_ValueCopy : K_rostrumref_ValueCopy C) (p0 : GStore) (s : Int × GStore) (o : (Int × GStore) ⊕ GStore) (hF : st_rostrumref_StoreCopy_0 p0 s = some o) : evW TT C.wide n35 b35 0 (hd_rostrumref_StoreCopy_0 p0 s) = Sum.elim (fun s => evW TT C.wide n35 b35 0 (hd_rostrumref_StoreCopy_0 p0 s)) (fun r => ou_rostrumref_StoreCopy_0 p0 r) o := by
  obtain ⟨p1, p2⟩ := s
  unfold st_rostrumref_StoreCopy_0 at hF
  try dsimp only at hF
  rw [ct TT n35 fl35_0]
  refine aT (decide (p1 < (p0.fEntries.length : Int))) ?_ ?_
  focus
    intro h1
    replace hF := ar h1 hF
    cases hF
  rotate_left 1
  intro h1
  replace hF := aq h1 hF
  revert hF
  cases h2 : idx p0.fEntries p1
  focus
    intro hF
    cases hF
  rename_i x1
  intro hF
  try dsimp only at hF
  have g1 : decide (0 ≤ p1) = true := (cc h2).1
  have g2 : (ab GEntry.row p0.fEntries)[(p1 : Int).toNat]? = some [.s x1.fKey, .i .i64 x1.fValue.fKind, .s x1.fValue.fText, .i .i64 x1.fValue.fCount, .sl 2 (ab GPair.row x1.fValue.fPairs), .sl 1 (ab aY x1.fValue.fItems), .sl 2 (ab GScore.row x1.fValue.fScores), .i .i64 x1.fUntil] := ca _ h2
  revert hF
  cases h3 : rostrumref_ValueCopy x1.fValue
  focus
    intro hF
    cases hF
  rename_i x2
  intro hF
  try dsimp only at hF
  have g3 : C.wide 29 [.agg [.v (.i .i64 x1.fValue.fKind), .v (.s x1.fValue.fText), .v (.i .i64 x1.fValue.fCount), .v (.sl 2 (ab GPair.row x1.fValue.fPairs)), .v (.sl 1 (ab aY x1.fValue.fItems)), .v (.sl 2 (ab GScore.row x1.fValue.fScores))]] [] = some (.agg [.v (.i .i64 x2.fKind), .v (.s x2.fText), .v (.i .i64 x2.fCount), .own 2 (ab GPair.row x2.fPairs), .own 1 (ab aY x2.fItems), .own 2 (ab GScore.row x2.fScores)], []) := k_rostrumref_ValueCopy x1.fValue _ h3
  refine aG (cH (p2.fEntries.length + 1) 128) ?_ ?_
  focus
    intro h4
    replace hF := aq h4 hF
    cases hF
  rotate_left 1
  intro h4
  replace hF := ar h4 hF
  cases hF
  all_goals (show cD _ _ _ (aH _ _ _ _ (Code.seq _ _) _) = _; simp (maxSteps := 4000000) only [*, hd_rostrumref_StoreCopy_0, ou_rostrumref_StoreCopy_0, n35a13t, n35a13f, n35k3, n35k4, n35k5, n35k6, n35f6, n35mv, ↓RP, RB, ↓ah, aZ, be, aM, Mx.bw, opnd, Mx.bF, Nat.reduceBEq, bK, Mx.fit, bI, bY, toVs, cellsOf, toV, aO, aB, ax, Mx.put, ofConst, ofCell, Mx.prune, killB, killBs, aK, putDst, au, aD, loadAt, bM, List.map, Nat.reduceAdd, Nat.reduceMul, cm, cn, cg, aN, bD, aL, bx, lowC, forceAll, bg, kill, spendLoc, spendOk, bG, lend, lendA, aS, ay, bL, bare, bQ, bB, fill, setCells, takeParts, bp, aR, Nat.reduceSub, Nat.reduceLT, Nat.reduceLeDiff, lowA, bi, bJ, fineK, av, aJ, aX, bX, bE, ce, bV, bk, aI, bh, bj, bf, Op.operands, newB, ch, ck, cj, bne, ↓aj, ↓ai, ↓aa, ↓am, aP, bm, aE, bH, Call.operands, ty3, ty9, ty53, ty61, ty63, ty117, GEntry.one, GPair.flat, GScore.flat])
theorem r_rostrumref_StoreCopy (C : ak) (k_rostrumref_ValueCopy : K_rostrumref_ValueCopy C) (p0 : GStore) (r : GStore) (hF : rostrumref_StoreCopy p0 = some r) : cF TT C.wide (evW TT C.wide n35 b35) n35 Try.f35.results.toList (aQ Try.f35) [.agg [.v (.i .i64 p0.fNow), .v (.sl 8 (ab GEntry.row p0.fEntries))]] [] = some (.agg [.v (.i .i64 r.fNow), .own 8 (ab GEntry.row r.fEntries)], []) := by
  unfold rostrumref_StoreCopy at hF
  revert hF
  cases h1 : ci (st_rostrumref_StoreCopy_0 p0) (0, (GStore.mk p0.fNow []))
  focus
    intro hF
    cases hF
  rename_i qh1
  revert qh1
  intro x1 h1
  intro hF
  try dsimp only at hF
  have g1 : evW TT C.wide n35 b35 0 ⟨[(1, .rp [.i .i64 p0.fNow, .sl 8 (ab GEntry.row p0.fEntries)]), (2, .ptr 0 0), (3, .ptr 1 0), (4, .v (.i .i64 0))], [[.v (.i .i64 0), .own 8 []], [.v (.i .i64 p0.fNow), .own 8 []]]⟩ = some (.normal, ⟨[(2, .ptr 0 0), (3, .ptr 1 0)], [[.v (.i .i64 0), .own 8 []], [.v (.i .i64 x1.fNow), .own 8 (ab GEntry.row x1.fEntries)]]⟩) := cy (hd_rostrumref_StoreCopy_0 p0) (ou_rostrumref_StoreCopy_0 p0) (fun s o hs => sl_rostrumref_StoreCopy_0 C k_rostrumref_ValueCopy p0 s o hs) h1
  have hR := Option.some.inj hF
  clear hF
  subst hR
  all_goals (rw [ba]; show cp _ _ _ (aH _ _ _ _ (Code.seq _ _) _) = _; simp (maxSteps := 4000000) only [*, res35, n35k0, n35k1, n35k2, n35k7, n35ro, n35mv, ↓RP, RB, enter, aZ, be, aM, Mx.bw, opnd, Mx.bF, Nat.reduceBEq, bK, Mx.fit, bI, bY, toVs, cellsOf, toV, aO, aB, ax, Mx.put, ofConst, ofCell, Mx.prune, killB, killBs, aK, putDst, au, aD, loadAt, bM, List.map, Nat.reduceAdd, az, bn, bq, co, bN, bD, aL, bx, lowC, kill, bB, bT, fill, setCells, takeParts, Nat.reduceLeDiff, bne, ↓aj, ↓aa, ty3, ty61, ty63])
def n90 : cC where
  keep := fun i => match i with
    | 0 => [1, 2]
    | 1 => [1, 2, 3]
    | 2 => [1, 2, 3, 4]
    | 3 => [1, 2, 3, 4, 16]
    | 4 => [1, 2, 3, 4]
    | 5 => [1, 2, 3, 4]
    | 6 => [2]
    | _ => []
  ro := fun t => t == 1
  mv := fun t => t == 29
  give := fun _ => false
  free := fun i => match i with | 5 => [(0, 2), (1, 2), (0, 3), (1, 3), (0, 4), (1, 4), (2, 4), (3, 4), (0, 5), (1, 5), (0, 6), (1, 6), (0, 7), (1, 7)] | _ => []
  alive := fun i x => match i, x with
    | 16, true => some [1, 2, 3, 4]
    | 16, false => some [2, 3]
    | _, _ => none
theorem n90a16t (e : Env) (S : aA) : aw n90 16 true ⟨e, S⟩ = ⟨prune [1, 2, 3, 4] e, S⟩ := rfl
theorem n90a16f (e : Env) (S : aA) : aw n90 16 false ⟨e, S⟩ = ⟨prune [2, 3] e, S⟩ := rfl
theorem n90k0 : n90.keep 0 = [1, 2] := rfl
theorem n90k1 : n90.keep 1 = [1, 2, 3] := rfl
theorem n90k2 : n90.keep 2 = [1, 2, 3, 4] := rfl
theorem n90k3 : n90.keep 3 = [1, 2, 3, 4, 16] := rfl
theorem n90k4 : n90.keep 4 = [1, 2, 3, 4] := rfl
theorem n90k5 : n90.keep 5 = [1, 2, 3, 4] := rfl
theorem n90k6 : n90.keep 6 = [2] := rfl
theorem n90ro (t : Nat) : n90.ro t = (t == 1) := rfl
theorem n90mv (t : Nat) : n90.mv t = (t == 29) := rfl
theorem n90f5 : n90.free 5 = [(0, 2), (1, 2), (0, 3), (1, 3), (0, 4), (1, 4), (2, 4), (3, 4), (0, 5), (1, 5), (0, 6), (1, 6), (0, 7), (1, 7)] := rfl
theorem res90 : Try.f90.results.toList = [.cell 2 128] := rfl
noncomputable def b90 : Code := aQ Try.f90
noncomputable def c90_0 : Code := (bz 0 (aQ Try.f90)).getD .skip
theorem fl90_0 : bz 0 b90 = some c90_0 := rfl
def hd_rostrumref_replyCopy_0 (p0 : GReply) (s : Int × GReply) : St := ⟨[(1, .rp [.i .i64 p0.fCode, .s p0.fText, .i .i64 p0.fN, .sl 1 (ab aY p0.fList)]), (2, .ptr 0 0), (3, .ptr 1 0), (4, .v (.i .i64 s.1))], [[.v (.i .i64 0), .v (.s ByteArray.empty), .v (.i .i64 0), .own 1 []], [.v (.i .i64 s.2.fCode), .v (.s s.2.fText), .v (.i .i64 s.2.fN), .own 1 (ab aY s.2.fList)]]⟩
def ou_rostrumref_replyCopy_0 (p0 : GReply) (r : GReply) : Option (Ex × St) := some (.normal, ⟨[(2, .ptr 0 0), (3, .ptr 1 0)], [[.v (.i .i64 0), .v (.s ByteArray.empty), .v (.i .i64 0), .own 1 []], [.v (.i .i64 r.fCode), .v (.s r.fText), .v (.i .i64 r.fN), .own 1 (ab aY r.fList)]]⟩)
theorem sl_rostrumref_replyCopy_0 (C : ak)  (p0 : GReply) (s : Int × GReply) (o : (Int × GReply) ⊕ GReply) (hF : st_rostrumref_replyCopy_0 p0 s = some o) : evW TT C.wide n90 b90 0 (hd_rostrumref_replyCopy_0 p0 s) = Sum.elim (fun s => evW TT C.wide n90 b90 0 (hd_rostrumref_replyCopy_0 p0 s)) (fun r => ou_rostrumref_replyCopy_0 p0 r) o := by
  obtain ⟨p1, p2⟩ := s
  unfold st_rostrumref_replyCopy_0 at hF
  try dsimp only at hF
  rw [ct TT n90 fl90_0]
  refine aT (decide (p1 < (p0.fList.length : Int))) ?_ ?_
  focus
    intro h1
    replace hF := ar h1 hF
    cases hF
  rotate_left 1
  intro h1
  replace hF := aq h1 hF
  revert hF
  cases h2 : idx p0.fList p1
  focus
    intro hF
    cases hF
  rename_i x1
  intro hF
  try dsimp only at hF
  have g1 : decide (0 ≤ p1) = true := (cc h2).1
  have g2 : (ab aY p0.fList)[(p1 : Int).toNat]? = some [.s x1] := ca _ h2
  refine aG (cH (p2.fList.length + 1) 16) ?_ ?_
  focus
    intro h3
    replace hF := aq h3 hF
    cases hF
  rotate_left 1
  intro h3
  replace hF := ar h3 hF
  cases hF
  all_goals (show cD _ _ _ (aH _ _ _ _ (Code.seq _ _) _) = _; simp (maxSteps := 4000000) only [*, hd_rostrumref_replyCopy_0, ou_rostrumref_replyCopy_0, n90a16t, n90a16f, n90k3, n90k4, n90k5, n90f5, n90mv, ↓RP, RB, ↓ac, aZ, be, aM, Mx.bw, opnd, Mx.bF, Nat.reduceBEq, bK, Mx.fit, bY, toVs, cellsOf, toV, aO, aB, ax, Mx.put, ofConst, ofCell, Mx.prune, killB, aK, putDst, au, aD, loadAt, bM, List.map, Nat.reduceAdd, Nat.reduceMul, cm, cn, cg, aN, bD, aL, bx, lowC, bg, kill, spendLoc, spendOk, bB, setCells, takeParts, bp, aR, Nat.reduceSub, Nat.reduceLeDiff, bJ, fineK, av, aJ, aX, bX, bE, ce, bV, bk, aI, bh, bj, bf, Op.operands, ck, cj, bne, ↓aj, ↓ai, ↓aa, ↓am, bm, aE, bH, ty3, ty9, ty50, ty128])
theorem r_rostrumref_replyCopy (C : ak)  (p0 : GReply) (r : GReply) (hF : rostrumref_replyCopy p0 = some r) : cF TT C.wide (evW TT C.wide n90 b90) n90 Try.f90.results.toList (aQ Try.f90) [.agg [.v (.i .i64 p0.fCode), .v (.s p0.fText), .v (.i .i64 p0.fN), .v (.sl 1 (ab aY p0.fList))]] [] = some (.agg [.v (.i .i64 r.fCode), .v (.s r.fText), .v (.i .i64 r.fN), .own 1 (ab aY r.fList)], []) := by
  unfold rostrumref_replyCopy at hF
  revert hF
  cases h1 : ci (st_rostrumref_replyCopy_0 p0) (0, (GReply.mk p0.fCode p0.fText p0.fN []))
  focus
    intro hF
    cases hF
  rename_i qh1
  revert qh1
  intro x1 h1
  intro hF
  try dsimp only at hF
  have g1 : evW TT C.wide n90 b90 0 ⟨[(1, .rp [.i .i64 p0.fCode, .s p0.fText, .i .i64 p0.fN, .sl 1 (ab aY p0.fList)]), (2, .ptr 0 0), (3, .ptr 1 0), (4, .v (.i .i64 0))], [[.v (.i .i64 0), .v (.s ByteArray.empty), .v (.i .i64 0), .own 1 []], [.v (.i .i64 p0.fCode), .v (.s p0.fText), .v (.i .i64 p0.fN), .own 1 []]]⟩ = some (.normal, ⟨[(2, .ptr 0 0), (3, .ptr 1 0)], [[.v (.i .i64 0), .v (.s ByteArray.empty), .v (.i .i64 0), .own 1 []], [.v (.i .i64 x1.fCode), .v (.s x1.fText), .v (.i .i64 x1.fN), .own 1 (ab aY x1.fList)]]⟩) := cy (hd_rostrumref_replyCopy_0 p0) (ou_rostrumref_replyCopy_0 p0) (fun s o hs => sl_rostrumref_replyCopy_0 C p0 s o hs) h1
  have hR := Option.some.inj hF
  clear hF
  subst hR
  all_goals (rw [ba]; show cp _ _ _ (aH _ _ _ _ (Code.seq _ _) _) = _; simp (maxSteps := 4000000) only [*, res90, n90k0, n90k1, n90k2, n90k6, n90ro, n90mv, ↓RP, RB, enter, aZ, be, aM, Mx.bw, opnd, Mx.bF, Nat.reduceBEq, bK, Mx.fit, bI, bY, toVs, cellsOf, toV, aO, aB, ax, Mx.put, ofConst, ofCell, Mx.prune, killB, killBs, aK, putDst, au, aD, loadAt, bM, List.map, Nat.reduceAdd, az, bn, bq, co, bN, bD, aL, bx, lowC, kill, bB, bT, fill, setCells, takeParts, Nat.reduceLeDiff, bne, ↓aj, ↓aa, ty3, ty9, ty25, ty50, ty128])
def n41 : cC where
  keep := fun i => match i with
    | 0 => [1, 2]
    | 1 => [1, 2, 3]
    | 2 => [1, 2, 3, 4]
    | 3 => [1, 2, 3, 4, 16]
    | 4 => [1, 2, 3, 4]
    | 5 => [1, 2, 3, 4, 5]
    | 6 => [1, 2, 3, 4]
    | 7 => [2]
    | _ => []
  ro := fun t => t == 1
  mv := fun t => t == 39
  give := fun _ => false
  free := fun i => match i with | 1 => [(0, 3), (1, 3), (2, 3), (0, 4), (1, 4), (2, 4), (0, 6), (1, 6), (2, 6), (3, 6), (4, 6), (5, 6)] | 6 => [(0, 2), (1, 2), (0, 3), (1, 3), (0, 4), (1, 4), (2, 4), (3, 4), (0, 5), (1, 5), (2, 5), (3, 5), (0, 6), (1, 6), (2, 6), (3, 6), (4, 6), (5, 6), (0, 7), (1, 7), (2, 7), (3, 7), (4, 7), (5, 7), (0, 8), (1, 8), (2, 8), (3, 8), (4, 8), (5, 8), (6, 8), (7, 8), (0, 9), (1, 9), (2, 9), (3, 9), (4, 9), (5, 9), (6, 9), (7, 9), (0, 10), (1, 10), (2, 10), (3, 10), (4, 10), (5, 10), (6, 10), (7, 10), (0, 11), (1, 11), (0, 12), (1, 12)] | _ => []
  alive := fun i x => match i, x with
    | 16, true => some [1, 2, 3, 4]
    | 16, false => some [2, 3]
    | _, _ => none
theorem n41a16t (e : Env) (S : aA) : aw n41 16 true ⟨e, S⟩ = ⟨prune [1, 2, 3, 4] e, S⟩ := rfl
theorem n41a16f (e : Env) (S : aA) : aw n41 16 false ⟨e, S⟩ = ⟨prune [2, 3] e, S⟩ := rfl
theorem n41k0 : n41.keep 0 = [1, 2] := rfl
theorem n41k1 : n41.keep 1 = [1, 2, 3] := rfl
theorem n41k2 : n41.keep 2 = [1, 2, 3, 4] := rfl
theorem n41k3 : n41.keep 3 = [1, 2, 3, 4, 16] := rfl
theorem n41k4 : n41.keep 4 = [1, 2, 3, 4] := rfl
theorem n41k5 : n41.keep 5 = [1, 2, 3, 4, 5] := rfl
theorem n41k6 : n41.keep 6 = [1, 2, 3, 4] := rfl
theorem n41k7 : n41.keep 7 = [2] := rfl
theorem n41ro (t : Nat) : n41.ro t = (t == 1) := rfl
theorem n41mv (t : Nat) : n41.mv t = (t == 39) := rfl
theorem n41f1 : n41.free 1 = [(0, 3), (1, 3), (2, 3), (0, 4), (1, 4), (2, 4), (0, 6), (1, 6), (2, 6), (3, 6), (4, 6), (5, 6)] := rfl
theorem n41f6 : n41.free 6 = [(0, 2), (1, 2), (0, 3), (1, 3), (0, 4), (1, 4), (2, 4), (3, 4), (0, 5), (1, 5), (2, 5), (3, 5), (0, 6), (1, 6), (2, 6), (3, 6), (4, 6), (5, 6), (0, 7), (1, 7), (2, 7), (3, 7), (4, 7), (5, 7), (0, 8), (1, 8), (2, 8), (3, 8), (4, 8), (5, 8), (6, 8), (7, 8), (0, 9), (1, 9), (2, 9), (3, 9), (4, 9), (5, 9), (6, 9), (7, 9), (0, 10), (1, 10), (2, 10), (3, 10), (4, 10), (5, 10), (6, 10), (7, 10), (0, 11), (1, 11), (0, 12), (1, 12)] := rfl
theorem res41 : Try.f41.results.toList = [.cell 2 73] := rfl
noncomputable def b41 : Code := aQ Try.f41
noncomputable def c41_0 : Code := (bz 0 (aQ Try.f41)).getD .skip
theorem fl41_0 : bz 0 b41 = some c41_0 := rfl
def hd_rostrumref_MachineCopy_z_0 (p0 : GMachine) (s : Int × GMachine) : St := ⟨[(1, .rp [.i .i64 p0.fStore.fNow, .sl 8 (ab GEntry.row p0.fStore.fEntries), .i .i64 p0.fNext, .sl 7 (ab GClient.row p0.fClients)]), (2, .ptr 0 0), (3, .ptr 1 0), (4, .v (.i .i64 s.1))], [[.v (.i .i64 0), .own 8 [], .v (.i .i64 0), .own 7 []], [.v (.i .i64 s.2.fStore.fNow), .own 8 (ab GEntry.row s.2.fStore.fEntries), .v (.i .i64 s.2.fNext), .own 7 (ab GClient.row s.2.fClients)]]⟩
def ou_rostrumref_MachineCopy_z_0 (p0 : GMachine) (r : GMachine) : Option (Ex × St) := some (.normal, ⟨[(2, .ptr 0 0), (3, .ptr 1 0)], [[.v (.i .i64 0), .own 8 [], .v (.i .i64 0), .own 7 []], [.v (.i .i64 r.fStore.fNow), .own 8 (ab GEntry.row r.fStore.fEntries), .v (.i .i64 r.fNext), .own 7 (ab GClient.row r.fClients)]]⟩)
theorem sl_rostrumref_MachineCopy_z_0 (C : ak) (k_rostrumref_replyCopy : K_rostrumref_replyCopy C) (p0 : GMachine) (s : Int × GMachine) (o : (Int × GMachine) ⊕ GMachine) (hF : st_rostrumref_MachineCopy_z_0 p0 s = some o) : evW TT C.wide n41 b41 0 (hd_rostrumref_MachineCopy_z_0 p0 s) = Sum.elim (fun s => evW TT C.wide n41 b41 0 (hd_rostrumref_MachineCopy_z_0 p0 s)) (fun r => ou_rostrumref_MachineCopy_z_0 p0 r) o := by
  obtain ⟨p1, p2⟩ := s
  unfold st_rostrumref_MachineCopy_z_0 at hF
  try dsimp only at hF
  rw [ct TT n41 fl41_0]
  refine aT (decide (p1 < (p0.fClients.length : Int))) ?_ ?_
  focus
    intro h1
    replace hF := ar h1 hF
    cases hF
  rotate_left 1
  intro h1
  replace hF := aq h1 hF
  revert hF
  cases h2 : idx p0.fClients p1
  focus
    intro hF
    cases hF
  rename_i x1
  intro hF
  try dsimp only at hF
  have g1 : decide (0 ≤ p1) = true := (cc h2).1
  have g2 : (ab GClient.row p0.fClients)[(p1 : Int).toNat]? = some [.i .i64 x1.fId, .i .i64 x1.fSeq, .i .i64 x1.fTime, .i .i64 x1.fReply.fCode, .s x1.fReply.fText, .i .i64 x1.fReply.fN, .sl 1 (ab aY x1.fReply.fList)] := ca _ h2
  revert hF
  cases h3 : rostrumref_replyCopy x1.fReply
  focus
    intro hF
    cases hF
  rename_i x2
  intro hF
  try dsimp only at hF
  have g3 : C.wide 90 [.agg [.v (.i .i64 x1.fReply.fCode), .v (.s x1.fReply.fText), .v (.i .i64 x1.fReply.fN), .v (.sl 1 (ab aY x1.fReply.fList))]] [] = some (.agg [.v (.i .i64 x2.fCode), .v (.s x2.fText), .v (.i .i64 x2.fN), .own 1 (ab aY x2.fList)], []) := k_rostrumref_replyCopy x1.fReply _ h3
  refine aG (cH (p2.fClients.length + 1) 80) ?_ ?_
  focus
    intro h4
    replace hF := aq h4 hF
    cases hF
  rotate_left 1
  intro h4
  replace hF := ar h4 hF
  cases hF
  all_goals (show cD _ _ _ (aH _ _ _ _ (Code.seq _ _) _) = _; simp (maxSteps := 4000000) only [*, hd_rostrumref_MachineCopy_z_0, ou_rostrumref_MachineCopy_z_0, n41a16t, n41a16f, n41k3, n41k4, n41k5, n41k6, n41f6, n41mv, ↓RP, RB, ↓ah, aZ, be, aM, Mx.bw, opnd, Mx.bF, Nat.reduceBEq, bK, Mx.fit, bI, bY, toVs, cellsOf, toV, aO, aB, ax, Mx.put, ofConst, ofCell, Mx.prune, killB, killBs, aK, putDst, au, aD, loadAt, bM, List.map, Nat.reduceAdd, Nat.reduceMul, cm, cn, cg, aN, bD, aL, bx, lowC, forceAll, bg, kill, spendLoc, spendOk, bG, lend, lendA, aS, ay, bL, bare, bQ, bB, fill, setCells, takeParts, bp, aR, Nat.reduceSub, Nat.reduceLT, Nat.reduceLeDiff, lowA, bi, bJ, fineK, av, aJ, aX, bX, bE, ce, bV, bk, aI, bh, bj, bf, Op.operands, newB, ch, ck, cj, bne, ↓aj, ↓ai, ↓aa, ↓am, aP, bm, aE, bH, Call.operands, ty3, ty71, ty73, ty128, ty130, GClient.one])
theorem r_rostrumref_MachineCopy_z (C : ak) (k_rostrumref_StoreCopy : K_rostrumref_StoreCopy C) (k_rostrumref_replyCopy : K_rostrumref_replyCopy C) (p0 : GMachine) (r : GMachine) (hF : rostrumref_MachineCopy_z p0 = some r) : ∃ d S, cF TT C.wide (evW TT C.wide n41 b41) n41 Try.f41.results.toList (aQ Try.f41) [.agg [.v (.i .i64 p0.fStore.fNow), .v (.sl 8 (ab GEntry.row p0.fStore.fEntries)), .v (.i .i64 p0.fNext), .v (.sl 7 (ab GClient.row p0.fClients))]] [] = some (d, S) ∧ bx d = true ∧ (frz d, S) = (.agg [.v (.i .i64 r.fStore.fNow), .v (.sl 8 (ab GEntry.row r.fStore.fEntries)), .v (.i .i64 r.fNext), .v (.sl 7 (ab GClient.row r.fClients))], []) := by
  unfold rostrumref_MachineCopy_z at hF
  revert hF
  cases h1 : rostrumref_StoreCopy p0.fStore
  focus
    intro hF
    cases hF
  rename_i x1
  intro hF
  try dsimp only at hF
  have g1 : C.wide 35 [.agg [.v (.i .i64 p0.fStore.fNow), .v (.sl 8 (ab GEntry.row p0.fStore.fEntries))]] [] = some (.agg [.v (.i .i64 x1.fNow), .own 8 (ab GEntry.row x1.fEntries)], []) := k_rostrumref_StoreCopy p0.fStore _ h1
  revert hF
  cases h2 : ci (st_rostrumref_MachineCopy_z_0 p0) (0, (GMachine.mk x1 p0.fNext []))
  focus
    intro hF
    cases hF
  rename_i qh2
  revert qh2
  intro x2 h2
  intro hF
  try dsimp only at hF
  have g2 : evW TT C.wide n41 b41 0 ⟨[(1, .rp [.i .i64 p0.fStore.fNow, .sl 8 (ab GEntry.row p0.fStore.fEntries), .i .i64 p0.fNext, .sl 7 (ab GClient.row p0.fClients)]), (2, .ptr 0 0), (3, .ptr 1 0), (4, .v (.i .i64 0))], [[.v (.i .i64 0), .own 8 [], .v (.i .i64 0), .own 7 []], [.v (.i .i64 x1.fNow), .own 8 (ab GEntry.row x1.fEntries), .v (.i .i64 p0.fNext), .own 7 []]]⟩ = some (.normal, ⟨[(2, .ptr 0 0), (3, .ptr 1 0)], [[.v (.i .i64 0), .own 8 [], .v (.i .i64 0), .own 7 []], [.v (.i .i64 x2.fStore.fNow), .own 8 (ab GEntry.row x2.fStore.fEntries), .v (.i .i64 x2.fNext), .own 7 (ab GClient.row x2.fClients)]]⟩) := cy (hd_rostrumref_MachineCopy_z_0 p0) (ou_rostrumref_MachineCopy_z_0 p0) (fun s o hs => sl_rostrumref_MachineCopy_z_0 C k_rostrumref_replyCopy p0 s o hs) h2
  have hR := Option.some.inj hF
  clear hF
  subst hR
  refine ⟨.agg [.v (.i .i64 x2.fStore.fNow), .own 8 (ab GEntry.row x2.fStore.fEntries), .v (.i .i64 x2.fNext), .own 7 (ab GClient.row x2.fClients)], [], ?_, rfl, by first | rfl | (simp only [*]; done) | (simp only [*]; rfl)⟩
  all_goals (rw [ba]; show cp _ _ _ (aH _ _ _ _ (Code.seq _ _) _) = _; simp (maxSteps := 4000000) only [*, res41, n41k0, n41k1, n41k2, n41k7, n41f1, n41ro, n41mv, ↓RP, RB, enter, aZ, be, aM, Mx.bw, opnd, Mx.bF, Nat.reduceBEq, bK, Mx.fit, bI, bY, toVs, cellsOf, toV, aO, aB, ax, Mx.put, ofConst, ofCell, Mx.prune, killB, killBs, aK, putDst, au, aD, loadAt, bM, List.map, Nat.reduceAdd, az, bn, bq, co, bN, bD, aL, bx, lowC, forceAll, kill, lend, lendA, aS, ay, bL, bare, bQ, bB, bT, fill, setCells, takeParts, Nat.reduceLeDiff, bJ, fineK, av, aJ, aX, bX, bE, ce, bV, bk, aI, bh, bj, bf, cd, Op.operands, newB, ch, bne, ↓aj, ↓aa, ↓am, bm, bH, Call.operands, ty3, ty63, ty71, ty73])
def n61 : cC where
  keep := fun i => match i with
    | 0 => [1]
    | 1 => [2]
    | _ => []
  ro := fun t => t == 1
  mv := fun _ => false
  give := fun _ => false
  free := fun _ => []
theorem n61k0 : n61.keep 0 = [1] := rfl
theorem n61k1 : n61.keep 1 = [2] := rfl
theorem n61ro (t : Nat) : n61.ro t = (t == 1) := rfl
theorem n61mv (t : Nat) : n61.mv t = (false) := rfl
theorem res61 : Try.f61.results.toList = [.tmp 2] := rfl
noncomputable def b61 : Code := aQ Try.f61
theorem r_value_elements (C : ak)  (p0 : GValue) (r : Int) (hF : value_elements p0 = some r) : cF TT C.wide (evW TT C.wide n61 b61) n61 Try.f61.results.toList (aQ Try.f61) [.agg [.v (.i .i64 p0.fKind), .v (.s p0.fText), .v (.i .i64 p0.fCount), .v (.sl 2 (ab GPair.row p0.fPairs)), .v (.sl 1 (ab aY p0.fItems)), .v (.sl 2 (ab GScore.row p0.fScores))]] [] = some (.v (.i .i64 r), []) := by
  unfold value_elements at hF
  have hR := Option.some.inj hF
  clear hF
  subst hR
  all_goals (rw [ba]; show cp _ _ _ (aH _ _ _ _ (Code.seq _ _) _) = _; simp (maxSteps := 4000000) only [*, res61, n61k0, n61k1, n61ro, n61mv, ↓RP, RB, enter, aZ, be, aM, Mx.bw, opnd, Mx.bF, Nat.reduceBEq, bK, Mx.fit, bI, bY, toVs, cellsOf, toV, aO, aB, ax, Mx.put, ofConst, ofCell, Mx.prune, killB, aK, putDst, au, aD, loadAt, bM, List.map, cm, cn, cg, az, bn, bq, co, bN, bD, aL, lowC, ck, cj, ↓aj, ↓aa, ty3, ty49, ty50, ty51, ty53])
def n62 : cC where
  keep := fun i => match i with
    | 0 => [0]
    | 1 => [2]
    | _ => []
  ro := fun _ => false
  mv := fun _ => false
  give := fun _ => false
  free := fun _ => []
theorem n62k0 : n62.keep 0 = [0] := rfl
theorem n62k1 : n62.keep 1 = [2] := rfl
theorem res62 : Try.f62.results.toList = [.tmp 2] := rfl
noncomputable def b62 : Code := aQ Try.f62
theorem r_value_text (C : ak)  (p0 : ByteArray) (r : Bool) (hF : value_text p0 = some r) : cF TT C.wide (evW TT C.wide n62 b62) n62 Try.f62.results.toList (aQ Try.f62) [.v (.s p0)] [] = some (.v (.b r), []) := by
  unfold value_text at hF
  have hR := Option.some.inj hF
  clear hF
  subst hR
  all_goals (rw [ba]; show cp _ _ _ (aH _ _ _ _ (Code.seq _ _) _) = _; simp (maxSteps := 4000000) only [*, res62, n62k0, n62k1, ↓RP, RB, enter, aZ, be, aM, Mx.bw, opnd, Mx.bF, Nat.reduceBEq, bK, Mx.fit, bY, aO, aB, Mx.put, ofConst, ofCell, Mx.prune, killB, aK, putDst, au, List.map, cm, cn, cg, az, bn, bq, co, bN, bD, aL, lowC, ck, cj, ↓aj, ↓aa, ty4, ty9])
def n64 : cC where
  keep := fun i => match i with
    | 0 => [0]
    | 1 => [2]
    | _ => []
  ro := fun _ => false
  mv := fun _ => false
  give := fun _ => false
  free := fun _ => []
theorem n64k0 : n64.keep 0 = [0] := rfl
theorem n64k1 : n64.keep 1 = [2] := rfl
theorem res64 : Try.f64.results.toList = [.tmp 2] := rfl
noncomputable def b64 : Code := aQ Try.f64
theorem r_value_Check_fn1 (C : ak) (k_value_text : K_value_text C) (p0 : ByteArray) (r : Bool) (hF : value_Check_fn1 p0 = some r) : cF TT C.wide (evW TT C.wide n64 b64) n64 Try.f64.results.toList (aQ Try.f64) [.v (.s p0)] [] = some (.v (.b r), []) := by
  unfold value_Check_fn1 at hF
  have g1 : C.wide 62 [.v (.s p0)] [] = some (.v (.b (value_text_v p0)), []) := k_value_text p0 _ (value_text_t p0)
  have hR := Option.some.inj hF
  clear hF
  subst hR
  all_goals (rw [ba]; show cp _ _ _ (aH _ _ _ _ (Code.seq _ _) _) = _; simp (maxSteps := 4000000) only [*, res64, n64k0, n64k1, ↓RP, RB, enter, aZ, be, aM, Mx.bw, opnd, Mx.bF, Nat.reduceBEq, bK, Mx.fit, bY, aO, aB, Mx.put, ofConst, ofCell, Mx.prune, killB, aK, putDst, au, List.map, az, bn, bq, co, bN, bD, aL, lowC, forceAll, lend, lendA, aS, ay, bL, bare, bQ, newB, ch, ↓aj, ↓aa, ty4])
def n108 : cC where
  keep := fun i => match i with
    | 0 => [0, 1]
    | 1 => [0, 1, 7, 8]
    | 2 => [0, 1, 7, 8, 9]
    | 3 => [0, 1, 5, 7, 8]
    | 4 => [0, 1, 5, 7, 8, 16]
    | 5 => [4]
    | 6 => [0, 1, 7, 8]
    | 7 => [4]
    | _ => []
  ro := fun _ => false
  mv := fun _ => false
  give := fun _ => false
  free := fun _ => []
  alive := fun i x => match i, x with
    | 9, true => some [0, 1, 7, 8]
    | 9, false => some []
    | 16, true => some [5]
    | 16, false => some [0, 1, 7, 8]
    | _, _ => none
theorem n108a9t (e : Env) (S : aA) : aw n108 9 true ⟨e, S⟩ = ⟨prune [0, 1, 7, 8] e, S⟩ := rfl
theorem n108a9f (e : Env) (S : aA) : aw n108 9 false ⟨e, S⟩ = ⟨prune [] e, S⟩ := rfl
theorem n108a16t (e : Env) (S : aA) : aw n108 16 true ⟨e, S⟩ = ⟨prune [5] e, S⟩ := rfl
theorem n108a16f (e : Env) (S : aA) : aw n108 16 false ⟨e, S⟩ = ⟨prune [0, 1, 7, 8] e, S⟩ := rfl
theorem n108k0 : n108.keep 0 = [0, 1] := rfl
theorem n108k1 : n108.keep 1 = [0, 1, 7, 8] := rfl
theorem n108k2 : n108.keep 2 = [0, 1, 7, 8, 9] := rfl
theorem n108k3 : n108.keep 3 = [0, 1, 5, 7, 8] := rfl
theorem n108k4 : n108.keep 4 = [0, 1, 5, 7, 8, 16] := rfl
theorem n108k5 : n108.keep 5 = [4] := rfl
theorem n108k6 : n108.keep 6 = [0, 1, 7, 8] := rfl
theorem n108k7 : n108.keep 7 = [4] := rfl
theorem n108mv (t : Nat) : n108.mv t = (false) := rfl
theorem n108gv (t : Nat) : n108.give t = (false) := rfl
theorem res108 : Try.f108.results.toList = [.tmp 4] := rfl
noncomputable def b108 : Code := aQ Try.f108
noncomputable def c108_0 : Code := (bz 0 (aQ Try.f108)).getD .skip
theorem fl108_0 : bz 0 b108 = some c108_0 := rfl
def hd_slices_IndexFunc_string_string_value_Check_fn1_0 (p0 : List ByteArray) (p1 : Int) (s : Int) : St := ⟨[(0, .v (.sl 1 (ab aY p0))), (1, .clo 64 []), (7, .v (.i .i64 p1)), (8, .v (.i .i64 s))], []⟩
def ou_slices_IndexFunc_string_string_value_Check_fn1_0 (p0 : List ByteArray) (p1 : Int) (r : Int ⊕ Unit) : Option (Ex × St) := match r with
  | .inl r => some (.ret, ⟨[(4, .v (.i .i64 r))], []⟩)
  | .inr r => some (.normal, ⟨[], []⟩)
theorem sl_slices_IndexFunc_string_string_value_Check_fn1_0 (C : ak) (k_value_Check_fn1 : K_value_Check_fn1 C) (p0 : List ByteArray) (p1 : Int) (p2 : Int) (o : Int ⊕ (Int ⊕ Unit)) (hF : st_slices_IndexFunc_string_string_value_Check_fn1_0 p0 p1 p2 = some o) : evW TT C.wide n108 b108 0 (hd_slices_IndexFunc_string_string_value_Check_fn1_0 p0 p1 p2) = Sum.elim (fun s => evW TT C.wide n108 b108 0 (hd_slices_IndexFunc_string_string_value_Check_fn1_0 p0 p1 s)) (fun r => ou_slices_IndexFunc_string_string_value_Check_fn1_0 p0 p1 r) o := by
  unfold st_slices_IndexFunc_string_string_value_Check_fn1_0 at hF
  try dsimp only at hF
  rw [ct TT n108 fl108_0]
  refine aT (decide (p2 < p1)) ?_ ?_
  focus
    intro h1
    replace hF := ar h1 hF
    cases hF
  rotate_left 1
  intro h1
  replace hF := aq h1 hF
  revert hF
  cases h2 : idx p0 p2
  focus
    intro hF
    cases hF
  rename_i x1
  intro hF
  try dsimp only at hF
  have g1 : decide (0 ≤ p2) = true := (cc h2).1
  have g2 : (ab aY p0)[(p2 : Int).toNat]? = some [.s x1] := ca _ h2
  have g3 : C.wide 64 [.v (.s x1)] [] = some (.v (.b (value_Check_fn1_v x1)), []) := k_value_Check_fn1 x1 _ (value_Check_fn1_t x1)
  refine aG (value_Check_fn1_v x1) ?_ ?_
  focus
    intro h3
    replace hF := aq h3 hF
    cases hF
  rotate_left 1
  intro h3
  replace hF := ar h3 hF
  cases hF
  all_goals (show cD _ _ _ (aH _ _ _ _ (Code.seq _ _) _) = _; simp (maxSteps := 4000000) only [*, hd_slices_IndexFunc_string_string_value_Check_fn1_0, ou_slices_IndexFunc_string_string_value_Check_fn1_0, n108a9t, n108a9f, n108a16t, n108a16f, n108k2, n108k3, n108k4, n108k5, n108k6, n108mv, n108gv, ↓RP, RB, ↓ah, aZ, be, aM, Mx.bw, opnd, Mx.bF, Nat.reduceBEq, bK, Mx.fit, bY, aO, aB, ax, Mx.put, ofConst, ofCell, Mx.prune, killB, killBs, aK, putDst, au, loadAt, bM, List.map, cm, cn, bD, aL, bx, bg, kill, frz, bZ, bo, argE, argsE, ck, cj, ↓aj, ↓ai, ↓aa, ty3, ty9, ty50])
theorem r_slices_IndexFunc_string_string_value_Check_fn1 (C : ak) (k_value_Check_fn1 : K_value_Check_fn1 C) (p0 : List ByteArray) (r : Int) (hF : slices_IndexFunc_string_string_value_Check_fn1 p0 = some r) : cF TT C.wide (evW TT C.wide n108 b108) n108 Try.f108.results.toList (aQ Try.f108) [.v (.sl 1 (ab aY p0)), .clo 64 []] [] = some (.v (.i .i64 r), []) := by
  unfold slices_IndexFunc_string_string_value_Check_fn1 at hF
  revert hF
  cases h1 : ci (st_slices_IndexFunc_string_string_value_Check_fn1_0 p0 (p0.length : Int)) 0
  focus
    intro hF
    cases hF
  rename_i qh1
  cases qh1
  focus
    rename_i z0h1
    revert z0h1
    intro x1 h1
    intro hF
    try dsimp only at hF
    have g1 : evW TT C.wide n108 b108 0 ⟨[(0, .v (.sl 1 (ab aY p0))), (1, .clo 64 []), (7, .v (.i .i64 (p0.length : Int))), (8, .v (.i .i64 0))], []⟩ = some (.ret, ⟨[(4, .v (.i .i64 x1))], []⟩) := cy (hd_slices_IndexFunc_string_string_value_Check_fn1_0 p0 (p0.length : Int)) (ou_slices_IndexFunc_string_string_value_Check_fn1_0 p0 (p0.length : Int)) (fun s o hs => sl_slices_IndexFunc_string_string_value_Check_fn1_0 C k_value_Check_fn1 p0 (p0.length : Int) s o hs) h1
    have hR := Option.some.inj hF
    clear hF
    subst hR
  rotate_left 1
  rename_i y0h1
  intro hF
  try dsimp only at hF
  have g2 : evW TT C.wide n108 b108 0 ⟨[(0, .v (.sl 1 (ab aY p0))), (1, .clo 64 []), (7, .v (.i .i64 (p0.length : Int))), (8, .v (.i .i64 0))], []⟩ = some (.normal, ⟨[], []⟩) := cy (hd_slices_IndexFunc_string_string_value_Check_fn1_0 p0 (p0.length : Int)) (ou_slices_IndexFunc_string_string_value_Check_fn1_0 p0 (p0.length : Int)) (fun s o hs => sl_slices_IndexFunc_string_string_value_Check_fn1_0 C k_value_Check_fn1 p0 (p0.length : Int) s o hs) h1
  have hR := Option.some.inj hF
  clear hF
  subst hR
  all_goals (rw [ba]; show cp _ _ _ (aH _ _ _ _ (Code.seq _ _) _) = _; simp (maxSteps := 4000000) only [*, res108, n108k0, n108k1, n108k7, ↓RP, RB, enter, aZ, be, aM, Mx.bw, opnd, Mx.bF, Nat.reduceBEq, bK, Mx.fit, bY, aO, aB, Mx.put, ofConst, ofCell, Mx.prune, killB, killBs, aK, putDst, au, List.map, cg, az, bn, bq, co, bN, bD, aL, lowC, Int.reduceNeg, ↓aj, ↓aa, ty3, ty50])
def n63 : cC where
  keep := fun i => match i with
    | 0 => [0, 1]
    | 1 => [4]
    | _ => []
  ro := fun _ => false
  mv := fun _ => false
  give := fun _ => false
  free := fun _ => []
theorem n63k0 : n63.keep 0 = [0, 1] := rfl
theorem n63k1 : n63.keep 1 = [4] := rfl
theorem res63 : Try.f63.results.toList = [.tmp 4] := rfl
noncomputable def b63 : Code := aQ Try.f63
theorem r_slices_ContainsFunc_string_string_value_Check_fn1 (C : ak) (k_slices_IndexFunc_string_string_value_Check_fn1 : K_slices_IndexFunc_string_string_value_Check_fn1 C) (p0 : List ByteArray) (r : Bool) (hF : slices_ContainsFunc_string_string_value_Check_fn1 p0 = some r) : cF TT C.wide (evW TT C.wide n63 b63) n63 Try.f63.results.toList (aQ Try.f63) [.v (.sl 1 (ab aY p0)), .clo 64 []] [] = some (.v (.b r), []) := by
  unfold slices_ContainsFunc_string_string_value_Check_fn1 at hF
  revert hF
  cases h1 : slices_IndexFunc_string_string_value_Check_fn1 p0
  focus
    intro hF
    cases hF
  rename_i x1
  intro hF
  try dsimp only at hF
  have g1 : C.wide 108 [.v (.sl 1 (ab aY p0)), .clo 64 []] [] = some (.v (.i .i64 x1), []) := k_slices_IndexFunc_string_string_value_Check_fn1 p0 _ h1
  have hR := Option.some.inj hF
  clear hF
  subst hR
  all_goals (rw [ba]; show cp _ _ _ (aH _ _ _ _ (Code.seq _ _) _) = _; simp (maxSteps := 4000000) only [*, res63, n63k0, n63k1, ↓RP, RB, enter, aZ, be, aM, Mx.bw, opnd, Mx.bF, Nat.reduceBEq, bK, Mx.fit, bY, aO, aB, Mx.put, ofConst, ofCell, Mx.prune, killB, killBs, aK, putDst, au, List.map, cm, cn, az, bn, bq, co, bN, bD, aL, lowC, forceAll, lend, lendA, aS, ay, bL, bare, bQ, newB, ch, ck, cj, ↓aj, ↓aa, ty4])
def n67 : cC where
  keep := fun i => match i with
    | 0 => [0]
    | 1 => [2]
    | _ => []
  ro := fun _ => false
  mv := fun _ => false
  give := fun _ => false
  free := fun _ => []
theorem n67k0 : n67.keep 0 = [0] := rfl
theorem n67k1 : n67.keep 1 = [2] := rfl
theorem res67 : Try.f67.results.toList = [.tmp 2] := rfl
noncomputable def b67 : Code := aQ Try.f67
theorem r_value_field (C : ak)  (p0 : ByteArray) (r : Bool) (hF : value_field p0 = some r) : cF TT C.wide (evW TT C.wide n67 b67) n67 Try.f67.results.toList (aQ Try.f67) [.v (.s p0)] [] = some (.v (.b r), []) := by
  unfold value_field at hF
  refine aG (decide (1 ≤ (p0.size : Int))) ?_ ?_
  focus
    intro h1
    replace hF := aq h1 hF
    have hR := Option.some.inj hF
    clear hF
    subst hR
  rotate_left 1
  intro h1
  replace hF := ar h1 hF
  have hR := Option.some.inj hF
  clear hF
  subst hR
  all_goals (rw [ba]; show cp _ _ _ (aH _ _ _ _ (Code.seq _ _) _) = _; simp (maxSteps := 4000000) only [*, res67, n67k0, n67k1, ↓RP, RB, enter, aW, aC, aZ, be, aM, Mx.bw, opnd, Mx.bF, Nat.reduceBEq, bK, Mx.fit, bY, aO, aB, Mx.put, ofConst, ofCell, Mx.prune, killB, aK, putDst, au, List.map, cm, cn, cg, az, bn, bq, co, bN, bD, aL, lowC, ck, cj, ↓aj, ↓aa, bc, ty4, ty9])
def n66 : cC where
  keep := fun i => match i with
    | 0 => [1]
    | 1 => [2]
    | _ => []
  ro := fun t => t == 1
  mv := fun _ => false
  give := fun _ => false
  free := fun _ => []
theorem n66k0 : n66.keep 0 = [1] := rfl
theorem n66k1 : n66.keep 1 = [2] := rfl
theorem n66ro (t : Nat) : n66.ro t = (t == 1) := rfl
theorem n66mv (t : Nat) : n66.mv t = (false) := rfl
theorem res66 : Try.f66.results.toList = [.tmp 2] := rfl
noncomputable def b66 : Code := aQ Try.f66
theorem r_value_Check_fn2 (C : ak) (k_value_field : K_value_field C) (k_value_text : K_value_text C) (p0 : GPair) (r : Bool) (hF : value_Check_fn2 p0 = some r) : cF TT C.wide (evW TT C.wide n66 b66) n66 Try.f66.results.toList (aQ Try.f66) [.agg [.v (.s p0.fField), .v (.s p0.fText)]] [] = some (.v (.b r), []) := by
  unfold value_Check_fn2 at hF
  have g1 : C.wide 67 [.v (.s p0.fField)] [] = some (.v (.b (value_field_v p0.fField)), []) := k_value_field p0.fField _ (value_field_t p0.fField)
  refine aG (value_field_v p0.fField) ?_ ?_
  focus
    intro h1
    replace hF := aq h1 hF
    have g2 : C.wide 62 [.v (.s p0.fText)] [] = some (.v (.b (value_text_v p0.fText)), []) := k_value_text p0.fText _ (value_text_t p0.fText)
    have hR := Option.some.inj hF
    clear hF
    subst hR
  rotate_left 1
  intro h1
  replace hF := ar h1 hF
  have hR := Option.some.inj hF
  clear hF
  subst hR
  all_goals (rw [ba]; show cp _ _ _ (aH _ _ _ _ (Code.seq _ _) _) = _; simp (maxSteps := 4000000) only [*, res66, n66k0, n66k1, n66ro, n66mv, ↓RP, RB, enter, aW, aC, aZ, be, aM, Mx.bw, opnd, Mx.bF, Nat.reduceBEq, bK, Mx.fit, bI, bY, toVs, cellsOf, toV, aO, aB, ax, Mx.put, ofConst, ofCell, Mx.prune, killB, aK, putDst, au, aD, loadAt, bM, List.map, az, bn, bq, co, bN, bD, aL, lowC, forceAll, lend, lendA, aS, ay, bL, bare, bQ, newB, ch, ↓aj, ↓aa, bc, ty4, ty9, ty101])
def n109 : cC where
  keep := fun i => match i with
    | 0 => [0, 1]
    | 1 => [0, 1, 7, 8]
    | 2 => [0, 1, 7, 8, 9]
    | 3 => [0, 1, 5, 7, 8]
    | 4 => [0, 1, 5, 7, 8, 16]
    | 5 => [4]
    | 6 => [0, 1, 7, 8]
    | 7 => [4]
    | _ => []
  ro := fun _ => false
  mv := fun _ => false
  give := fun _ => false
  free := fun _ => []
  alive := fun i x => match i, x with
    | 9, true => some [0, 1, 7, 8]
    | 9, false => some []
    | 16, true => some [5]
    | 16, false => some [0, 1, 7, 8]
    | _, _ => none
theorem n109a9t (e : Env) (S : aA) : aw n109 9 true ⟨e, S⟩ = ⟨prune [0, 1, 7, 8] e, S⟩ := rfl
theorem n109a9f (e : Env) (S : aA) : aw n109 9 false ⟨e, S⟩ = ⟨prune [] e, S⟩ := rfl
theorem n109a16t (e : Env) (S : aA) : aw n109 16 true ⟨e, S⟩ = ⟨prune [5] e, S⟩ := rfl
theorem n109a16f (e : Env) (S : aA) : aw n109 16 false ⟨e, S⟩ = ⟨prune [0, 1, 7, 8] e, S⟩ := rfl
theorem n109k0 : n109.keep 0 = [0, 1] := rfl
theorem n109k1 : n109.keep 1 = [0, 1, 7, 8] := rfl
theorem n109k2 : n109.keep 2 = [0, 1, 7, 8, 9] := rfl
theorem n109k3 : n109.keep 3 = [0, 1, 5, 7, 8] := rfl
theorem n109k4 : n109.keep 4 = [0, 1, 5, 7, 8, 16] := rfl
theorem n109k5 : n109.keep 5 = [4] := rfl
theorem n109k6 : n109.keep 6 = [0, 1, 7, 8] := rfl
theorem n109k7 : n109.keep 7 = [4] := rfl
theorem n109mv (t : Nat) : n109.mv t = (false) := rfl
theorem n109gv (t : Nat) : n109.give t = (false) := rfl
theorem res109 : Try.f109.results.toList = [.tmp 4] := rfl
noncomputable def b109 : Code := aQ Try.f109
noncomputable def c109_0 : Code := (bz 0 (aQ Try.f109)).getD .skip
theorem fl109_0 : bz 0 b109 = some c109_0 := rfl
def hd_slices_IndexFunc_Pair_Pair_value_Check_fn2_0 (p0 : List GPair) (p1 : Int) (s : Int) : St := ⟨[(0, .v (.sl 2 (ab GPair.row p0))), (1, .clo 66 []), (7, .v (.i .i64 p1)), (8, .v (.i .i64 s))], []⟩
def ou_slices_IndexFunc_Pair_Pair_value_Check_fn2_0 (p0 : List GPair) (p1 : Int) (r : Int ⊕ Unit) : Option (Ex × St) := match r with
  | .inl r => some (.ret, ⟨[(4, .v (.i .i64 r))], []⟩)
  | .inr r => some (.normal, ⟨[], []⟩)
theorem sl_slices_IndexFunc_Pair_Pair_value_Check_fn2_0 (C : ak) (k_value_Check_fn2 : K_value_Check_fn2 C) (p0 : List GPair) (p1 : Int) (p2 : Int) (o : Int ⊕ (Int ⊕ Unit)) (hF : st_slices_IndexFunc_Pair_Pair_value_Check_fn2_0 p0 p1 p2 = some o) : evW TT C.wide n109 b109 0 (hd_slices_IndexFunc_Pair_Pair_value_Check_fn2_0 p0 p1 p2) = Sum.elim (fun s => evW TT C.wide n109 b109 0 (hd_slices_IndexFunc_Pair_Pair_value_Check_fn2_0 p0 p1 s)) (fun r => ou_slices_IndexFunc_Pair_Pair_value_Check_fn2_0 p0 p1 r) o := by
  unfold st_slices_IndexFunc_Pair_Pair_value_Check_fn2_0 at hF
  try dsimp only at hF
  rw [ct TT n109 fl109_0]
  refine aT (decide (p2 < p1)) ?_ ?_
  focus
    intro h1
    replace hF := ar h1 hF
    cases hF
  rotate_left 1
  intro h1
  replace hF := aq h1 hF
  revert hF
  cases h2 : idx p0 p2
  focus
    intro hF
    cases hF
  rename_i x1
  intro hF
  try dsimp only at hF
  have g1 : decide (0 ≤ p2) = true := (cc h2).1
  have g2 : (ab GPair.row p0)[(p2 : Int).toNat]? = some [.s x1.fField, .s x1.fText] := ca _ h2
  have g3 : C.wide 66 [.agg [.v (.s x1.fField), .v (.s x1.fText)]] [] = some (.v (.b (value_Check_fn2_v x1)), []) := k_value_Check_fn2 x1 _ (value_Check_fn2_t x1)
  refine aG (value_Check_fn2_v x1) ?_ ?_
  focus
    intro h3
    replace hF := aq h3 hF
    cases hF
  rotate_left 1
  intro h3
  replace hF := ar h3 hF
  cases hF
  all_goals (show cD _ _ _ (aH _ _ _ _ (Code.seq _ _) _) = _; simp (maxSteps := 4000000) only [*, hd_slices_IndexFunc_Pair_Pair_value_Check_fn2_0, ou_slices_IndexFunc_Pair_Pair_value_Check_fn2_0, n109a9t, n109a9f, n109a16t, n109a16f, n109k2, n109k3, n109k4, n109k5, n109k6, n109mv, n109gv, ↓RP, RB, ↓ah, aZ, be, aM, Mx.bw, opnd, Mx.bF, Nat.reduceBEq, bK, Mx.fit, bY, aO, aB, ax, Mx.put, ofConst, ofCell, Mx.prune, killB, killBs, aK, putDst, au, loadAt, bM, List.map, Nat.reduceAdd, cm, cn, bD, aL, bx, bg, kill, frz, bZ, bo, argE, argsE, ck, cj, ↓aj, ↓ai, ↓aa, ty3, ty49, ty101])
theorem r_slices_IndexFunc_Pair_Pair_value_Check_fn2 (C : ak) (k_value_Check_fn2 : K_value_Check_fn2 C) (p0 : List GPair) (r : Int) (hF : slices_IndexFunc_Pair_Pair_value_Check_fn2 p0 = some r) : cF TT C.wide (evW TT C.wide n109 b109) n109 Try.f109.results.toList (aQ Try.f109) [.v (.sl 2 (ab GPair.row p0)), .clo 66 []] [] = some (.v (.i .i64 r), []) := by
  unfold slices_IndexFunc_Pair_Pair_value_Check_fn2 at hF
  revert hF
  cases h1 : ci (st_slices_IndexFunc_Pair_Pair_value_Check_fn2_0 p0 (p0.length : Int)) 0
  focus
    intro hF
    cases hF
  rename_i qh1
  cases qh1
  focus
    rename_i z0h1
    revert z0h1
    intro x1 h1
    intro hF
    try dsimp only at hF
    have g1 : evW TT C.wide n109 b109 0 ⟨[(0, .v (.sl 2 (ab GPair.row p0))), (1, .clo 66 []), (7, .v (.i .i64 (p0.length : Int))), (8, .v (.i .i64 0))], []⟩ = some (.ret, ⟨[(4, .v (.i .i64 x1))], []⟩) := cy (hd_slices_IndexFunc_Pair_Pair_value_Check_fn2_0 p0 (p0.length : Int)) (ou_slices_IndexFunc_Pair_Pair_value_Check_fn2_0 p0 (p0.length : Int)) (fun s o hs => sl_slices_IndexFunc_Pair_Pair_value_Check_fn2_0 C k_value_Check_fn2 p0 (p0.length : Int) s o hs) h1
    have hR := Option.some.inj hF
    clear hF
    subst hR
  rotate_left 1
  rename_i y0h1
  intro hF
  try dsimp only at hF
  have g2 : evW TT C.wide n109 b109 0 ⟨[(0, .v (.sl 2 (ab GPair.row p0))), (1, .clo 66 []), (7, .v (.i .i64 (p0.length : Int))), (8, .v (.i .i64 0))], []⟩ = some (.normal, ⟨[], []⟩) := cy (hd_slices_IndexFunc_Pair_Pair_value_Check_fn2_0 p0 (p0.length : Int)) (ou_slices_IndexFunc_Pair_Pair_value_Check_fn2_0 p0 (p0.length : Int)) (fun s o hs => sl_slices_IndexFunc_Pair_Pair_value_Check_fn2_0 C k_value_Check_fn2 p0 (p0.length : Int) s o hs) h1
  have hR := Option.some.inj hF
  clear hF
  subst hR
  all_goals (rw [ba]; show cp _ _ _ (aH _ _ _ _ (Code.seq _ _) _) = _; simp (maxSteps := 4000000) only [*, res109, n109k0, n109k1, n109k7, ↓RP, RB, enter, aZ, be, aM, Mx.bw, opnd, Mx.bF, Nat.reduceBEq, bK, Mx.fit, bY, aO, aB, Mx.put, ofConst, ofCell, Mx.prune, killB, killBs, aK, putDst, au, List.map, cg, az, bn, bq, co, bN, bD, aL, lowC, Int.reduceNeg, ↓aj, ↓aa, ty3, ty49])
def n65 : cC where
  keep := fun i => match i with
    | 0 => [0, 1]
    | 1 => [4]
    | _ => []
  ro := fun _ => false
  mv := fun _ => false
  give := fun _ => false
  free := fun _ => []
theorem n65k0 : n65.keep 0 = [0, 1] := rfl
theorem n65k1 : n65.keep 1 = [4] := rfl
theorem res65 : Try.f65.results.toList = [.tmp 4] := rfl
noncomputable def b65 : Code := aQ Try.f65
theorem r_slices_ContainsFunc_Pair_Pair_value_Check_fn2 (C : ak) (k_slices_IndexFunc_Pair_Pair_value_Check_fn2 : K_slices_IndexFunc_Pair_Pair_value_Check_fn2 C) (p0 : List GPair) (r : Bool) (hF : slices_ContainsFunc_Pair_Pair_value_Check_fn2 p0 = some r) : cF TT C.wide (evW TT C.wide n65 b65) n65 Try.f65.results.toList (aQ Try.f65) [.v (.sl 2 (ab GPair.row p0)), .clo 66 []] [] = some (.v (.b r), []) := by
  unfold slices_ContainsFunc_Pair_Pair_value_Check_fn2 at hF
  revert hF
  cases h1 : slices_IndexFunc_Pair_Pair_value_Check_fn2 p0
  focus
    intro hF
    cases hF
  rename_i x1
  intro hF
  try dsimp only at hF
  have g1 : C.wide 109 [.v (.sl 2 (ab GPair.row p0)), .clo 66 []] [] = some (.v (.i .i64 x1), []) := k_slices_IndexFunc_Pair_Pair_value_Check_fn2 p0 _ h1
  have hR := Option.some.inj hF
  clear hF
  subst hR
  all_goals (rw [ba]; show cp _ _ _ (aH _ _ _ _ (Code.seq _ _) _) = _; simp (maxSteps := 4000000) only [*, res65, n65k0, n65k1, ↓RP, RB, enter, aZ, be, aM, Mx.bw, opnd, Mx.bF, Nat.reduceBEq, bK, Mx.fit, bY, aO, aB, Mx.put, ofConst, ofCell, Mx.prune, killB, killBs, aK, putDst, au, List.map, cm, cn, az, bn, bq, co, bN, bD, aL, lowC, forceAll, lend, lendA, aS, ay, bL, bare, bQ, newB, ch, ck, cj, ↓aj, ↓aa, ty4])
def n69 : cC where
  keep := fun i => match i with
    | 0 => [1]
    | 1 => [2]
    | _ => []
  ro := fun t => t == 1
  mv := fun _ => false
  give := fun _ => false
  free := fun _ => []
theorem n69k0 : n69.keep 0 = [1] := rfl
theorem n69k1 : n69.keep 1 = [2] := rfl
theorem n69ro (t : Nat) : n69.ro t = (t == 1) := rfl
theorem n69mv (t : Nat) : n69.mv t = (false) := rfl
theorem res69 : Try.f69.results.toList = [.tmp 2] := rfl
noncomputable def b69 : Code := aQ Try.f69
theorem r_value_Check_fn3 (C : ak) (k_value_text : K_value_text C) (p0 : GScore) (r : Bool) (hF : value_Check_fn3 p0 = some r) : cF TT C.wide (evW TT C.wide n69 b69) n69 Try.f69.results.toList (aQ Try.f69) [.agg [.v (.s p0.fMember), .v (.i .i64 p0.fN)]] [] = some (.v (.b r), []) := by
  unfold value_Check_fn3 at hF
  have g1 : C.wide 62 [.v (.s p0.fMember)] [] = some (.v (.b (value_text_v p0.fMember)), []) := k_value_text p0.fMember _ (value_text_t p0.fMember)
  have hR := Option.some.inj hF
  clear hF
  subst hR
  all_goals (rw [ba]; show cp _ _ _ (aH _ _ _ _ (Code.seq _ _) _) = _; simp (maxSteps := 4000000) only [*, res69, n69k0, n69k1, n69ro, n69mv, ↓RP, RB, enter, aZ, be, aM, Mx.bw, opnd, Mx.bF, Nat.reduceBEq, bK, Mx.fit, bI, bY, toVs, cellsOf, toV, aO, aB, ax, Mx.put, ofConst, ofCell, Mx.prune, killB, aK, putDst, au, aD, loadAt, bM, List.map, az, bn, bq, co, bN, bD, aL, lowC, forceAll, lend, lendA, aS, ay, bL, bare, bQ, newB, ch, ↓aj, ↓aa, ty4, ty9, ty105])
def n110 : cC where
  keep := fun i => match i with
    | 0 => [0, 1]
    | 1 => [0, 1, 7, 8]
    | 2 => [0, 1, 7, 8, 9]
    | 3 => [0, 1, 5, 7, 8]
    | 4 => [0, 1, 5, 7, 8, 16]
    | 5 => [4]
    | 6 => [0, 1, 7, 8]
    | 7 => [4]
    | _ => []
  ro := fun _ => false
  mv := fun _ => false
  give := fun _ => false
  free := fun _ => []
  alive := fun i x => match i, x with
    | 9, true => some [0, 1, 7, 8]
    | 9, false => some []
    | 16, true => some [5]
    | 16, false => some [0, 1, 7, 8]
    | _, _ => none
theorem n110a9t (e : Env) (S : aA) : aw n110 9 true ⟨e, S⟩ = ⟨prune [0, 1, 7, 8] e, S⟩ := rfl
theorem n110a9f (e : Env) (S : aA) : aw n110 9 false ⟨e, S⟩ = ⟨prune [] e, S⟩ := rfl
theorem n110a16t (e : Env) (S : aA) : aw n110 16 true ⟨e, S⟩ = ⟨prune [5] e, S⟩ := rfl
theorem n110a16f (e : Env) (S : aA) : aw n110 16 false ⟨e, S⟩ = ⟨prune [0, 1, 7, 8] e, S⟩ := rfl
theorem n110k0 : n110.keep 0 = [0, 1] := rfl
theorem n110k1 : n110.keep 1 = [0, 1, 7, 8] := rfl
theorem n110k2 : n110.keep 2 = [0, 1, 7, 8, 9] := rfl
theorem n110k3 : n110.keep 3 = [0, 1, 5, 7, 8] := rfl
theorem n110k4 : n110.keep 4 = [0, 1, 5, 7, 8, 16] := rfl
theorem n110k5 : n110.keep 5 = [4] := rfl
theorem n110k6 : n110.keep 6 = [0, 1, 7, 8] := rfl
theorem n110k7 : n110.keep 7 = [4] := rfl
theorem n110mv (t : Nat) : n110.mv t = (false) := rfl
theorem n110gv (t : Nat) : n110.give t = (false) := rfl
theorem res110 : Try.f110.results.toList = [.tmp 4] := rfl
noncomputable def b110 : Code := aQ Try.f110
noncomputable def c110_0 : Code := (bz 0 (aQ Try.f110)).getD .skip
theorem fl110_0 : bz 0 b110 = some c110_0 := rfl
def hd_slices_IndexFunc_Score_Score_value_Check_fn3_0 (p0 : List GScore) (p1 : Int) (s : Int) : St := ⟨[(0, .v (.sl 2 (ab GScore.row p0))), (1, .clo 69 []), (7, .v (.i .i64 p1)), (8, .v (.i .i64 s))], []⟩
def ou_slices_IndexFunc_Score_Score_value_Check_fn3_0 (p0 : List GScore) (p1 : Int) (r : Int ⊕ Unit) : Option (Ex × St) := match r with
  | .inl r => some (.ret, ⟨[(4, .v (.i .i64 r))], []⟩)
  | .inr r => some (.normal, ⟨[], []⟩)
theorem sl_slices_IndexFunc_Score_Score_value_Check_fn3_0 (C : ak) (k_value_Check_fn3 : K_value_Check_fn3 C) (p0 : List GScore) (p1 : Int) (p2 : Int) (o : Int ⊕ (Int ⊕ Unit)) (hF : st_slices_IndexFunc_Score_Score_value_Check_fn3_0 p0 p1 p2 = some o) : evW TT C.wide n110 b110 0 (hd_slices_IndexFunc_Score_Score_value_Check_fn3_0 p0 p1 p2) = Sum.elim (fun s => evW TT C.wide n110 b110 0 (hd_slices_IndexFunc_Score_Score_value_Check_fn3_0 p0 p1 s)) (fun r => ou_slices_IndexFunc_Score_Score_value_Check_fn3_0 p0 p1 r) o := by
  unfold st_slices_IndexFunc_Score_Score_value_Check_fn3_0 at hF
  try dsimp only at hF
  rw [ct TT n110 fl110_0]
  refine aT (decide (p2 < p1)) ?_ ?_
  focus
    intro h1
    replace hF := ar h1 hF
    cases hF
  rotate_left 1
  intro h1
  replace hF := aq h1 hF
  revert hF
  cases h2 : idx p0 p2
  focus
    intro hF
    cases hF
  rename_i x1
  intro hF
  try dsimp only at hF
  have g1 : decide (0 ≤ p2) = true := (cc h2).1
  have g2 : (ab GScore.row p0)[(p2 : Int).toNat]? = some [.s x1.fMember, .i .i64 x1.fN] := ca _ h2
  have g3 : C.wide 69 [.agg [.v (.s x1.fMember), .v (.i .i64 x1.fN)]] [] = some (.v (.b (value_Check_fn3_v x1)), []) := k_value_Check_fn3 x1 _ (value_Check_fn3_t x1)
  refine aG (value_Check_fn3_v x1) ?_ ?_
  focus
    intro h3
    replace hF := aq h3 hF
    cases hF
  rotate_left 1
  intro h3
  replace hF := ar h3 hF
  cases hF
  all_goals (show cD _ _ _ (aH _ _ _ _ (Code.seq _ _) _) = _; simp (maxSteps := 4000000) only [*, hd_slices_IndexFunc_Score_Score_value_Check_fn3_0, ou_slices_IndexFunc_Score_Score_value_Check_fn3_0, n110a9t, n110a9f, n110a16t, n110a16f, n110k2, n110k3, n110k4, n110k5, n110k6, n110mv, n110gv, ↓RP, RB, ↓ah, aZ, be, aM, Mx.bw, opnd, Mx.bF, Nat.reduceBEq, bK, Mx.fit, bY, aO, aB, ax, Mx.put, ofConst, ofCell, Mx.prune, killB, killBs, aK, putDst, au, loadAt, bM, List.map, Nat.reduceAdd, cm, cn, bD, aL, bx, bg, kill, frz, bZ, bo, argE, argsE, ck, cj, ↓aj, ↓ai, ↓aa, ty3, ty51, ty105])
theorem r_slices_IndexFunc_Score_Score_value_Check_fn3 (C : ak) (k_value_Check_fn3 : K_value_Check_fn3 C) (p0 : List GScore) (r : Int) (hF : slices_IndexFunc_Score_Score_value_Check_fn3 p0 = some r) : cF TT C.wide (evW TT C.wide n110 b110) n110 Try.f110.results.toList (aQ Try.f110) [.v (.sl 2 (ab GScore.row p0)), .clo 69 []] [] = some (.v (.i .i64 r), []) := by
  unfold slices_IndexFunc_Score_Score_value_Check_fn3 at hF
  revert hF
  cases h1 : ci (st_slices_IndexFunc_Score_Score_value_Check_fn3_0 p0 (p0.length : Int)) 0
  focus
    intro hF
    cases hF
  rename_i qh1
  cases qh1
  focus
    rename_i z0h1
    revert z0h1
    intro x1 h1
    intro hF
    try dsimp only at hF
    have g1 : evW TT C.wide n110 b110 0 ⟨[(0, .v (.sl 2 (ab GScore.row p0))), (1, .clo 69 []), (7, .v (.i .i64 (p0.length : Int))), (8, .v (.i .i64 0))], []⟩ = some (.ret, ⟨[(4, .v (.i .i64 x1))], []⟩) := cy (hd_slices_IndexFunc_Score_Score_value_Check_fn3_0 p0 (p0.length : Int)) (ou_slices_IndexFunc_Score_Score_value_Check_fn3_0 p0 (p0.length : Int)) (fun s o hs => sl_slices_IndexFunc_Score_Score_value_Check_fn3_0 C k_value_Check_fn3 p0 (p0.length : Int) s o hs) h1
    have hR := Option.some.inj hF
    clear hF
    subst hR
  rotate_left 1
  rename_i y0h1
  intro hF
  try dsimp only at hF
  have g2 : evW TT C.wide n110 b110 0 ⟨[(0, .v (.sl 2 (ab GScore.row p0))), (1, .clo 69 []), (7, .v (.i .i64 (p0.length : Int))), (8, .v (.i .i64 0))], []⟩ = some (.normal, ⟨[], []⟩) := cy (hd_slices_IndexFunc_Score_Score_value_Check_fn3_0 p0 (p0.length : Int)) (ou_slices_IndexFunc_Score_Score_value_Check_fn3_0 p0 (p0.length : Int)) (fun s o hs => sl_slices_IndexFunc_Score_Score_value_Check_fn3_0 C k_value_Check_fn3 p0 (p0.length : Int) s o hs) h1
  have hR := Option.some.inj hF
  clear hF
  subst hR
  all_goals (rw [ba]; show cp _ _ _ (aH _ _ _ _ (Code.seq _ _) _) = _; simp (maxSteps := 4000000) only [*, res110, n110k0, n110k1, n110k7, ↓RP, RB, enter, aZ, be, aM, Mx.bw, opnd, Mx.bF, Nat.reduceBEq, bK, Mx.fit, bY, aO, aB, Mx.put, ofConst, ofCell, Mx.prune, killB, killBs, aK, putDst, au, List.map, cg, az, bn, bq, co, bN, bD, aL, lowC, Int.reduceNeg, ↓aj, ↓aa, ty3, ty51])
def n68 : cC where
  keep := fun i => match i with
    | 0 => [0, 1]
    | 1 => [4]
    | _ => []
  ro := fun _ => false
  mv := fun _ => false
  give := fun _ => false
  free := fun _ => []
theorem n68k0 : n68.keep 0 = [0, 1] := rfl
theorem n68k1 : n68.keep 1 = [4] := rfl
theorem res68 : Try.f68.results.toList = [.tmp 4] := rfl
noncomputable def b68 : Code := aQ Try.f68
theorem r_slices_ContainsFunc_Score_Score_value_Check_fn3 (C : ak) (k_slices_IndexFunc_Score_Score_value_Check_fn3 : K_slices_IndexFunc_Score_Score_value_Check_fn3 C) (p0 : List GScore) (r : Bool) (hF : slices_ContainsFunc_Score_Score_value_Check_fn3 p0 = some r) : cF TT C.wide (evW TT C.wide n68 b68) n68 Try.f68.results.toList (aQ Try.f68) [.v (.sl 2 (ab GScore.row p0)), .clo 69 []] [] = some (.v (.b r), []) := by
  unfold slices_ContainsFunc_Score_Score_value_Check_fn3 at hF
  revert hF
  cases h1 : slices_IndexFunc_Score_Score_value_Check_fn3 p0
  focus
    intro hF
    cases hF
  rename_i x1
  intro hF
  try dsimp only at hF
  have g1 : C.wide 110 [.v (.sl 2 (ab GScore.row p0)), .clo 69 []] [] = some (.v (.i .i64 x1), []) := k_slices_IndexFunc_Score_Score_value_Check_fn3 p0 _ h1
  have hR := Option.some.inj hF
  clear hF
  subst hR
  all_goals (rw [ba]; show cp _ _ _ (aH _ _ _ _ (Code.seq _ _) _) = _; simp (maxSteps := 4000000) only [*, res68, n68k0, n68k1, ↓RP, RB, enter, aZ, be, aM, Mx.bw, opnd, Mx.bF, Nat.reduceBEq, bK, Mx.fit, bY, aO, aB, Mx.put, ofConst, ofCell, Mx.prune, killB, killBs, aK, putDst, au, List.map, cm, cn, az, bn, bq, co, bN, bD, aL, lowC, forceAll, lend, lendA, aS, ay, bL, bare, bQ, newB, ch, ck, cj, ↓aj, ↓aa, ty4])
def n70 : cC where
  keep := fun i => match i with
    | 0 => [0]
    | 1 => [2]
    | _ => []
  ro := fun _ => false
  mv := fun _ => false
  give := fun _ => false
  free := fun _ => []
theorem n70k0 : n70.keep 0 = [0] := rfl
theorem n70k1 : n70.keep 1 = [2] := rfl
theorem res70 : Try.f70.results.toList = [.tmp 2] := rfl
noncomputable def b70 : Code := aQ Try.f70
theorem r_value_count (C : ak)  (p0 : Int) (r : Bool) (hF : value_count p0 = some r) : cF TT C.wide (evW TT C.wide n70 b70) n70 Try.f70.results.toList (aQ Try.f70) [.v (.i .i64 p0)] [] = some (.v (.b r), []) := by
  unfold value_count at hF
  refine aG (decide ((-1099511627776) ≤ p0)) ?_ ?_
  focus
    intro h1
    replace hF := aq h1 hF
    have hR := Option.some.inj hF
    clear hF
    subst hR
  rotate_left 1
  intro h1
  replace hF := ar h1 hF
  have hR := Option.some.inj hF
  clear hF
  subst hR
  all_goals (rw [ba]; show cp _ _ _ (aH _ _ _ _ (Code.seq _ _) _) = _; simp (maxSteps := 4000000) only [*, res70, n70k0, n70k1, ↓RP, RB, enter, aW, aC, aZ, be, aM, Mx.bw, opnd, Mx.bF, Nat.reduceBEq, bK, Mx.fit, bY, aO, aB, Mx.put, ofConst, ofCell, Mx.prune, killB, aK, putDst, au, List.map, cm, cn, az, bn, bq, co, bN, bD, aL, lowC, Int.reduceNeg, ck, cj, ↓aj, ↓aa, bc, ty4])
def n71 : cC where
  keep := fun i => match i with
    | 0 => [1]
    | 1 => [2]
    | _ => []
  ro := fun t => t == 1
  mv := fun _ => false
  give := fun _ => false
  free := fun _ => []
theorem n71k0 : n71.keep 0 = [1] := rfl
theorem n71k1 : n71.keep 1 = [2] := rfl
theorem n71ro (t : Nat) : n71.ro t = (t == 1) := rfl
theorem n71mv (t : Nat) : n71.mv t = (false) := rfl
theorem res71 : Try.f71.results.toList = [.tmp 2] := rfl
noncomputable def b71 : Code := aQ Try.f71
theorem r_value_Check_fn4 (C : ak) (k_value_count : K_value_count C) (p0 : GScore) (r : Bool) (hF : value_Check_fn4 p0 = some r) : cF TT C.wide (evW TT C.wide n71 b71) n71 Try.f71.results.toList (aQ Try.f71) [.agg [.v (.s p0.fMember), .v (.i .i64 p0.fN)]] [] = some (.v (.b r), []) := by
  unfold value_Check_fn4 at hF
  have g1 : C.wide 70 [.v (.i .i64 p0.fN)] [] = some (.v (.b (value_count_v p0.fN)), []) := k_value_count p0.fN _ (value_count_t p0.fN)
  have hR := Option.some.inj hF
  clear hF
  subst hR
  all_goals (rw [ba]; show cp _ _ _ (aH _ _ _ _ (Code.seq _ _) _) = _; simp (maxSteps := 4000000) only [*, res71, n71k0, n71k1, n71ro, n71mv, ↓RP, RB, enter, aZ, be, aM, Mx.bw, opnd, Mx.bF, Nat.reduceBEq, bK, Mx.fit, bI, bY, toVs, cellsOf, toV, aO, aB, ax, Mx.put, ofConst, ofCell, Mx.prune, killB, aK, putDst, au, aD, loadAt, bM, List.map, az, bn, bq, co, bN, bD, aL, lowC, forceAll, lend, lendA, aS, ay, bL, bare, bQ, newB, ch, ↓aj, ↓aa, ty3, ty4, ty105])
def hd_slices_IndexFunc_Score_Score_value_Check_fn4_0 (p0 : List GScore) (p1 : Int) (s : Int) : St := ⟨[(0, .v (.sl 2 (ab GScore.row p0))), (1, .clo 71 []), (7, .v (.i .i64 p1)), (8, .v (.i .i64 s))], []⟩
def ou_slices_IndexFunc_Score_Score_value_Check_fn4_0 (p0 : List GScore) (p1 : Int) (r : Int ⊕ Unit) : Option (Ex × St) := match r with
  | .inl r => some (.ret, ⟨[(4, .v (.i .i64 r))], []⟩)
  | .inr r => some (.normal, ⟨[], []⟩)
theorem sl_slices_IndexFunc_Score_Score_value_Check_fn4_0 (C : ak) (k_value_Check_fn4 : K_value_Check_fn4 C) (p0 : List GScore) (p1 : Int) (p2 : Int) (o : Int ⊕ (Int ⊕ Unit)) (hF : st_slices_IndexFunc_Score_Score_value_Check_fn4_0 p0 p1 p2 = some o) : evW TT C.wide n110 b110 0 (hd_slices_IndexFunc_Score_Score_value_Check_fn4_0 p0 p1 p2) = Sum.elim (fun s => evW TT C.wide n110 b110 0 (hd_slices_IndexFunc_Score_Score_value_Check_fn4_0 p0 p1 s)) (fun r => ou_slices_IndexFunc_Score_Score_value_Check_fn4_0 p0 p1 r) o := by
  unfold st_slices_IndexFunc_Score_Score_value_Check_fn4_0 at hF
  try dsimp only at hF
  rw [ct TT n110 fl110_0]
  refine aT (decide (p2 < p1)) ?_ ?_
  focus
    intro h1
    replace hF := ar h1 hF
    cases hF
  rotate_left 1
  intro h1
  replace hF := aq h1 hF
  revert hF
  cases h2 : idx p0 p2
  focus
    intro hF
    cases hF
  rename_i x1
  intro hF
  try dsimp only at hF
  have g1 : decide (0 ≤ p2) = true := (cc h2).1
  have g2 : (ab GScore.row p0)[(p2 : Int).toNat]? = some [.s x1.fMember, .i .i64 x1.fN] := ca _ h2
  have g3 : C.wide 71 [.agg [.v (.s x1.fMember), .v (.i .i64 x1.fN)]] [] = some (.v (.b (value_Check_fn4_v x1)), []) := k_value_Check_fn4 x1 _ (value_Check_fn4_t x1)
  refine aG (value_Check_fn4_v x1) ?_ ?_
  focus
    intro h3
    replace hF := aq h3 hF
    cases hF
  rotate_left 1
  intro h3
  replace hF := ar h3 hF
  cases hF
  all_goals (show cD _ _ _ (aH _ _ _ _ (Code.seq _ _) _) = _; simp (maxSteps := 4000000) only [*, hd_slices_IndexFunc_Score_Score_value_Check_fn4_0, ou_slices_IndexFunc_Score_Score_value_Check_fn4_0, n110a9t, n110a9f, n110a16t, n110a16f, n110k2, n110k3, n110k4, n110k5, n110k6, n110mv, n110gv, ↓RP, RB, ↓ah, aZ, be, aM, Mx.bw, opnd, Mx.bF, Nat.reduceBEq, bK, Mx.fit, bY, aO, aB, ax, Mx.put, ofConst, ofCell, Mx.prune, killB, killBs, aK, putDst, au, loadAt, bM, List.map, Nat.reduceAdd, cm, cn, bD, aL, bx, bg, kill, frz, bZ, bo, argE, argsE, ck, cj, ↓aj, ↓ai, ↓aa, ty3, ty51, ty105])
theorem r_slices_IndexFunc_Score_Score_value_Check_fn4 (C : ak) (k_value_Check_fn4 : K_value_Check_fn4 C) (p0 : List GScore) (r : Int) (hF : slices_IndexFunc_Score_Score_value_Check_fn4 p0 = some r) : cF TT C.wide (evW TT C.wide n110 b110) n110 Try.f110.results.toList (aQ Try.f110) [.v (.sl 2 (ab GScore.row p0)), .clo 71 []] [] = some (.v (.i .i64 r), []) := by
  unfold slices_IndexFunc_Score_Score_value_Check_fn4 at hF
  revert hF
  cases h1 : ci (st_slices_IndexFunc_Score_Score_value_Check_fn4_0 p0 (p0.length : Int)) 0
  focus
    intro hF
    cases hF
  rename_i qh1
  cases qh1
  focus
    rename_i z0h1
    revert z0h1
    intro x1 h1
    intro hF
    try dsimp only at hF
    have g1 : evW TT C.wide n110 b110 0 ⟨[(0, .v (.sl 2 (ab GScore.row p0))), (1, .clo 71 []), (7, .v (.i .i64 (p0.length : Int))), (8, .v (.i .i64 0))], []⟩ = some (.ret, ⟨[(4, .v (.i .i64 x1))], []⟩) := cy (hd_slices_IndexFunc_Score_Score_value_Check_fn4_0 p0 (p0.length : Int)) (ou_slices_IndexFunc_Score_Score_value_Check_fn4_0 p0 (p0.length : Int)) (fun s o hs => sl_slices_IndexFunc_Score_Score_value_Check_fn4_0 C k_value_Check_fn4 p0 (p0.length : Int) s o hs) h1
    have hR := Option.some.inj hF
    clear hF
    subst hR
  rotate_left 1
  rename_i y0h1
  intro hF
  try dsimp only at hF
  have g2 : evW TT C.wide n110 b110 0 ⟨[(0, .v (.sl 2 (ab GScore.row p0))), (1, .clo 71 []), (7, .v (.i .i64 (p0.length : Int))), (8, .v (.i .i64 0))], []⟩ = some (.normal, ⟨[], []⟩) := cy (hd_slices_IndexFunc_Score_Score_value_Check_fn4_0 p0 (p0.length : Int)) (ou_slices_IndexFunc_Score_Score_value_Check_fn4_0 p0 (p0.length : Int)) (fun s o hs => sl_slices_IndexFunc_Score_Score_value_Check_fn4_0 C k_value_Check_fn4 p0 (p0.length : Int) s o hs) h1
  have hR := Option.some.inj hF
  clear hF
  subst hR
  all_goals (rw [ba]; show cp _ _ _ (aH _ _ _ _ (Code.seq _ _) _) = _; simp (maxSteps := 4000000) only [*, res110, n110k0, n110k1, n110k7, ↓RP, RB, enter, aZ, be, aM, Mx.bw, opnd, Mx.bF, Nat.reduceBEq, bK, Mx.fit, bY, aO, aB, Mx.put, ofConst, ofCell, Mx.prune, killB, killBs, aK, putDst, au, List.map, cg, az, bn, bq, co, bN, bD, aL, lowC, Int.reduceNeg, ↓aj, ↓aa, ty3, ty51])
theorem r_slices_ContainsFunc_Score_Score_value_Check_fn4 (C : ak) (k_slices_IndexFunc_Score_Score_value_Check_fn4 : K_slices_IndexFunc_Score_Score_value_Check_fn4 C) (p0 : List GScore) (r : Bool) (hF : slices_ContainsFunc_Score_Score_value_Check_fn4 p0 = some r) : cF TT C.wide (evW TT C.wide n68 b68) n68 Try.f68.results.toList (aQ Try.f68) [.v (.sl 2 (ab GScore.row p0)), .clo 71 []] [] = some (.v (.b r), []) := by
  unfold slices_ContainsFunc_Score_Score_value_Check_fn4 at hF
  revert hF
  cases h1 : slices_IndexFunc_Score_Score_value_Check_fn4 p0
  focus
    intro hF
    cases hF
  rename_i x1
  intro hF
  try dsimp only at hF
  have g1 : C.wide 110 [.v (.sl 2 (ab GScore.row p0)), .clo 71 []] [] = some (.v (.i .i64 x1), []) := k_slices_IndexFunc_Score_Score_value_Check_fn4 p0 _ h1
  have hR := Option.some.inj hF
  clear hF
  subst hR
  all_goals (rw [ba]; show cp _ _ _ (aH _ _ _ _ (Code.seq _ _) _) = _; simp (maxSteps := 4000000) only [*, res68, n68k0, n68k1, ↓RP, RB, enter, aZ, be, aM, Mx.bw, opnd, Mx.bF, Nat.reduceBEq, bK, Mx.fit, bY, aO, aB, Mx.put, ofConst, ofCell, Mx.prune, killB, killBs, aK, putDst, au, List.map, cm, cn, az, bn, bq, co, bN, bD, aL, lowC, forceAll, lend, lendA, aS, ay, bL, bare, bQ, newB, ch, ck, cj, ↓aj, ↓aa, ty4])
def n113 : cC where
  keep := fun i => match i with
    | 0 => [0, 1]
    | 1 => [4]
    | _ => []
  ro := fun _ => false
  mv := fun _ => false
  give := fun _ => false
  free := fun _ => []
theorem n113k0 : n113.keep 0 = [0, 1] := rfl
theorem n113k1 : n113.keep 1 = [4] := rfl
theorem res113 : Try.f113.results.toList = [.tmp 4] := rfl
noncomputable def b113 : Code := aQ Try.f113
theorem r_internal_bytealg_CompareString (C : ak) (k_cmpstring : K_cmpstring C) (p0 : ByteArray) (p1 : ByteArray) (r : Int) (hF : internal_bytealg_CompareString p0 p1 = some r) : cF TT C.wide (evW TT C.wide n113 b113) n113 Try.f113.results.toList (aQ Try.f113) [.v (.s p0), .v (.s p1)] [] = some (.v (.i .i64 r), []) := by
  unfold internal_bytealg_CompareString at hF
  have g1 : C.wide 132 [.v (.s p0), .v (.s p1)] [] = some (.v (.i .i64 (cmpstring_v p0 p1)), []) := k_cmpstring p0 p1 _ (cmpstring_t p0 p1)
  have hR := Option.some.inj hF
  clear hF
  subst hR
  all_goals (rw [ba]; show cp _ _ _ (aH _ _ _ _ (Code.seq _ _) _) = _; simp (maxSteps := 4000000) only [*, res113, n113k0, n113k1, ↓RP, RB, enter, aZ, be, aM, Mx.bw, opnd, Mx.bF, Nat.reduceBEq, bK, Mx.fit, bY, aO, aB, Mx.put, ofConst, ofCell, Mx.prune, killB, aK, putDst, au, List.map, az, bn, bq, co, bN, bD, aL, lowC, forceAll, lend, lendA, aS, ay, bL, bare, bQ, newB, ch, ↓aj, ↓aa, ty3])
def n77 : cC where
  keep := fun i => match i with
    | 0 => [0, 1]
    | 1 => [4]
    | _ => []
  ro := fun _ => false
  mv := fun _ => false
  give := fun _ => false
  free := fun _ => []
theorem n77k0 : n77.keep 0 = [0, 1] := rfl
theorem n77k1 : n77.keep 1 = [4] := rfl
theorem res77 : Try.f77.results.toList = [.tmp 4] := rfl
noncomputable def b77 : Code := aQ Try.f77
theorem r_strings_Compare (C : ak) (k_internal_bytealg_CompareString : K_internal_bytealg_CompareString C) (p0 : ByteArray) (p1 : ByteArray) (r : Int) (hF : strings_Compare p0 p1 = some r) : cF TT C.wide (evW TT C.wide n77 b77) n77 Try.f77.results.toList (aQ Try.f77) [.v (.s p0), .v (.s p1)] [] = some (.v (.i .i64 r), []) := by
  unfold strings_Compare at hF
  have g1 : C.wide 113 [.v (.s p0), .v (.s p1)] [] = some (.v (.i .i64 (internal_bytealg_CompareString_v p0 p1)), []) := k_internal_bytealg_CompareString p0 p1 _ (internal_bytealg_CompareString_t p0 p1)
  have hR := Option.some.inj hF
  clear hF
  subst hR
  all_goals (rw [ba]; show cp _ _ _ (aH _ _ _ _ (Code.seq _ _) _) = _; simp (maxSteps := 4000000) only [*, res77, n77k0, n77k1, ↓RP, RB, enter, aZ, be, aM, Mx.bw, opnd, Mx.bF, Nat.reduceBEq, bK, Mx.fit, bY, aO, aB, Mx.put, ofConst, ofCell, Mx.prune, killB, aK, putDst, au, List.map, az, bn, bq, co, bN, bD, aL, lowC, forceAll, lend, lendA, aS, ay, bL, bare, bQ, newB, ch, ↓aj, ↓aa, ty3])
def n73 : cC where
  keep := fun i => match i with
    | 0 => [2, 3]
    | 1 => [4]
    | _ => []
  ro := fun t => t == 2 || t == 3
  mv := fun _ => false
  give := fun _ => false
  free := fun _ => []
theorem n73k0 : n73.keep 0 = [2, 3] := rfl
theorem n73k1 : n73.keep 1 = [4] := rfl
theorem n73ro (t : Nat) : n73.ro t = (t == 2 || t == 3) := rfl
theorem n73mv (t : Nat) : n73.mv t = (false) := rfl
theorem res73 : Try.f73.results.toList = [.tmp 4] := rfl
noncomputable def b73 : Code := aQ Try.f73
theorem r_value_byField (C : ak) (k_strings_Compare : K_strings_Compare C) (p0 : GPair) (p1 : GPair) (r : Int) (hF : value_byField p0 p1 = some r) : cF TT C.wide (evW TT C.wide n73 b73) n73 Try.f73.results.toList (aQ Try.f73) [.agg [.v (.s p0.fField), .v (.s p0.fText)], .agg [.v (.s p1.fField), .v (.s p1.fText)]] [] = some (.v (.i .i64 r), []) := by
  unfold value_byField at hF
  have g1 : C.wide 77 [.v (.s p0.fField), .v (.s p1.fField)] [] = some (.v (.i .i64 (strings_Compare_v p0.fField p1.fField)), []) := k_strings_Compare p0.fField p1.fField _ (strings_Compare_t p0.fField p1.fField)
  have hR := Option.some.inj hF
  clear hF
  subst hR
  all_goals (rw [ba]; show cp _ _ _ (aH _ _ _ _ (Code.seq _ _) _) = _; simp (maxSteps := 4000000) only [*, res73, n73k0, n73k1, n73ro, n73mv, ↓RP, RB, enter, aZ, be, aM, Mx.bw, opnd, Mx.bF, Nat.reduceBEq, bK, Mx.fit, bI, bY, toVs, cellsOf, toV, aO, aB, ax, Mx.put, ofConst, ofCell, Mx.prune, killB, aK, putDst, au, aD, loadAt, bM, List.map, az, bn, bq, co, bN, bD, aL, lowC, forceAll, lend, lendA, aS, ay, bL, bare, bQ, newB, ch, ↓aj, ↓aa, ty3, ty9, ty101])
def n72 : cC where
  keep := fun i => match i with
    | 0 => [0, 1]
    | 1 => [0, 1, 5]
    | 2 => [0, 1, 5, 9]
    | 3 => [0, 1, 5]
    | 4 => [0, 1, 5, 23]
    | 5 => [4]
    | 6 => [4]
    | _ => []
  ro := fun _ => false
  mv := fun _ => false
  give := fun _ => false
  free := fun i => match i with | 4 => [(0, 1), (0, 2), (1, 2), (0, 3), (1, 3), (0, 4), (0, 5), (0, 6), (1, 6), (2, 6), (3, 6), (4, 6), (5, 6), (0, 7), (1, 7), (2, 7), (3, 7), (4, 7), (5, 7), (6, 7), (0, 8), (1, 8), (2, 8), (3, 8), (4, 8), (5, 8), (0, 9), (1, 9), (2, 9), (3, 9), (4, 9), (5, 9)] | _ => []
  alive := fun i x => match i, x with
    | 9, true => some [0, 1, 5]
    | 9, false => some []
    | 23, true => some []
    | 23, false => some [0, 1, 5]
    | _, _ => none
theorem n72a9t (e : Env) (S : aA) : aw n72 9 true ⟨e, S⟩ = ⟨prune [0, 1, 5] e, S⟩ := rfl
theorem n72a9f (e : Env) (S : aA) : aw n72 9 false ⟨e, S⟩ = ⟨prune [] e, S⟩ := rfl
theorem n72a23t (e : Env) (S : aA) : aw n72 23 true ⟨e, S⟩ = ⟨prune [] e, S⟩ := rfl
theorem n72a23f (e : Env) (S : aA) : aw n72 23 false ⟨e, S⟩ = ⟨prune [0, 1, 5] e, S⟩ := rfl
theorem n72k0 : n72.keep 0 = [0, 1] := rfl
theorem n72k1 : n72.keep 1 = [0, 1, 5] := rfl
theorem n72k2 : n72.keep 2 = [0, 1, 5, 9] := rfl
theorem n72k3 : n72.keep 3 = [0, 1, 5] := rfl
theorem n72k4 : n72.keep 4 = [0, 1, 5, 23] := rfl
theorem n72k5 : n72.keep 5 = [4] := rfl
theorem n72k6 : n72.keep 6 = [4] := rfl
theorem n72mv (t : Nat) : n72.mv t = (false) := rfl
theorem n72gv (t : Nat) : n72.give t = (false) := rfl
theorem n72f4 : n72.free 4 = [(0, 1), (0, 2), (1, 2), (0, 3), (1, 3), (0, 4), (0, 5), (0, 6), (1, 6), (2, 6), (3, 6), (4, 6), (5, 6), (0, 7), (1, 7), (2, 7), (3, 7), (4, 7), (5, 7), (6, 7), (0, 8), (1, 8), (2, 8), (3, 8), (4, 8), (5, 8), (0, 9), (1, 9), (2, 9), (3, 9), (4, 9), (5, 9)] := rfl
theorem res72 : Try.f72.results.toList = [.tmp 4] := rfl
noncomputable def b72 : Code := aQ Try.f72
noncomputable def c72_0 : Code := (bz 0 (aQ Try.f72)).getD .skip
theorem fl72_0 : bz 0 b72 = some c72_0 := rfl
def hd_value_rising_Pair_value_byField_0 (p0 : List GPair) (s : Int) : St := ⟨[(0, .v (.sl 2 (ab GPair.row p0))), (1, .clo 73 []), (5, .v (.i .i64 s))], []⟩
def ou_value_rising_Pair_value_byField_0 (p0 : List GPair) (r : Unit ⊕ Unit) : Option (Ex × St) := match r with
  | .inl r => some (.ret, ⟨[(4, .v (.b false))], []⟩)
  | .inr r => some (.normal, ⟨[], []⟩)
theorem sl_value_rising_Pair_value_byField_0 (C : ak) (k_value_byField : K_value_byField C) (p0 : List GPair) (p1 : Int) (o : Int ⊕ (Unit ⊕ Unit)) (hF : st_value_rising_Pair_value_byField_0 p0 p1 = some o) : evW TT C.wide n72 b72 0 (hd_value_rising_Pair_value_byField_0 p0 p1) = Sum.elim (fun s => evW TT C.wide n72 b72 0 (hd_value_rising_Pair_value_byField_0 p0 s)) (fun r => ou_value_rising_Pair_value_byField_0 p0 r) o := by
  unfold st_value_rising_Pair_value_byField_0 at hF
  try dsimp only at hF
  rw [ct TT n72 fl72_0]
  refine aT (decide (p1 < (p0.length : Int))) ?_ ?_
  focus
    intro h1
    replace hF := ar h1 hF
    cases hF
  rotate_left 1
  intro h1
  replace hF := aq h1 hF
  revert hF
  cases h2 : idx p0 (IntKind.i64.wrap (p1 - 1))
  focus
    intro hF
    cases hF
  rename_i x1
  intro hF
  try dsimp only at hF
  have g1 : decide (0 ≤ (IntKind.i64.wrap (p1 - 1))) = true := (cc h2).1
  have g2 : (ab GPair.row p0)[((IntKind.i64.wrap (p1 - 1)) : Int).toNat]? = some [.s x1.fField, .s x1.fText] := ca _ h2
  revert hF
  cases h3 : idx p0 p1
  focus
    intro hF
    cases hF
  rename_i x2
  intro hF
  try dsimp only at hF
  have g3 : decide (0 ≤ p1) = true := (cc h3).1
  have g4 : (ab GPair.row p0)[(p1 : Int).toNat]? = some [.s x2.fField, .s x2.fText] := ca _ h3
  have g5 : C.wide 73 [.agg [.v (.s x1.fField), .v (.s x1.fText)], .agg [.v (.s x2.fField), .v (.s x2.fText)]] [] = some (.v (.i .i64 (value_byField_v x1 x2)), []) := k_value_byField x1 x2 _ (value_byField_t x1 x2)
  refine aG (decide (0 ≤ (value_byField_v x1 x2))) ?_ ?_
  focus
    intro h4
    replace hF := aq h4 hF
    cases hF
  rotate_left 1
  intro h4
  replace hF := ar h4 hF
  cases hF
  all_goals (show cD _ _ _ (aH _ _ _ _ (Code.seq _ _) _) = _; simp (maxSteps := 4000000) only [*, hd_value_rising_Pair_value_byField_0, ou_value_rising_Pair_value_byField_0, n72a9t, n72a9f, n72a23t, n72a23f, n72k2, n72k3, n72k4, n72k5, n72f4, n72mv, n72gv, ↓RP, RB, ↓ah, aZ, be, aM, Mx.bw, opnd, Mx.bF, Nat.reduceBEq, bK, Mx.fit, bY, aO, aB, ax, Mx.put, ofConst, ofCell, Mx.prune, killB, killBs, aK, putDst, au, loadAt, bM, List.map, Nat.reduceAdd, cm, cn, cg, bD, aL, bx, bg, kill, frz, bZ, bo, argE, argsE, bB, bJ, fineK, av, aJ, aX, bX, bE, ce, bV, bk, aI, bh, bj, bf, Op.operands, ck, cj, ↓aj, ↓ai, ↓aa, ↓am, bm, bH, ty3, ty4, ty49, ty101])
theorem r_value_rising_Pair_value_byField (C : ak) (k_value_byField : K_value_byField C) (p0 : List GPair) (r : Bool) (hF : value_rising_Pair_value_byField p0 = some r) : cF TT C.wide (evW TT C.wide n72 b72) n72 Try.f72.results.toList (aQ Try.f72) [.v (.sl 2 (ab GPair.row p0)), .clo 73 []] [] = some (.v (.b r), []) := by
  unfold value_rising_Pair_value_byField at hF
  revert hF
  cases h1 : ci (st_value_rising_Pair_value_byField_0 p0) 1
  focus
    intro hF
    cases hF
  rename_i qh1
  cases qh1
  focus
    rename_i z0h1
    intro hF
    try dsimp only at hF
    have g1 : evW TT C.wide n72 b72 0 ⟨[(0, .v (.sl 2 (ab GPair.row p0))), (1, .clo 73 []), (5, .v (.i .i64 1))], []⟩ = some (.ret, ⟨[(4, .v (.b false))], []⟩) := cy (hd_value_rising_Pair_value_byField_0 p0) (ou_value_rising_Pair_value_byField_0 p0) (fun s o hs => sl_value_rising_Pair_value_byField_0 C k_value_byField p0 s o hs) h1
    have hR := Option.some.inj hF
    clear hF
    subst hR
  rotate_left 1
  rename_i y0h1
  intro hF
  try dsimp only at hF
  have g2 : evW TT C.wide n72 b72 0 ⟨[(0, .v (.sl 2 (ab GPair.row p0))), (1, .clo 73 []), (5, .v (.i .i64 1))], []⟩ = some (.normal, ⟨[], []⟩) := cy (hd_value_rising_Pair_value_byField_0 p0) (ou_value_rising_Pair_value_byField_0 p0) (fun s o hs => sl_value_rising_Pair_value_byField_0 C k_value_byField p0 s o hs) h1
  have hR := Option.some.inj hF
  clear hF
  subst hR
  all_goals (rw [ba]; show cp _ _ _ (aH _ _ _ _ (Code.seq _ _) _) = _; simp (maxSteps := 4000000) only [*, res72, n72k0, n72k1, n72k6, ↓RP, RB, enter, aZ, be, aM, Mx.bw, opnd, Mx.bF, Nat.reduceBEq, bK, Mx.fit, bY, aO, aB, Mx.put, ofConst, ofCell, Mx.prune, killB, killBs, List.map, az, bn, bq, co, bN, bD, aL, lowC, ↓aj, ↓aa, ty3, ty4])
def n131 : cC where
  keep := fun i => match i with
    | 0 => [0]
    | 1 => [2]
    | _ => []
  ro := fun _ => false
  mv := fun _ => false
  give := fun _ => false
  free := fun _ => []
theorem n131k0 : n131.keep 0 = [0] := rfl
theorem n131k1 : n131.keep 1 = [2] := rfl
theorem res131 : Try.f131.results.toList = [.tmp 2] := rfl
noncomputable def b131 : Code := aQ Try.f131
theorem r_cmp_isNaN_int (C : ak)  (p0 : Int) (r : Bool) (hF : cmp_isNaN_int p0 = some r) : cF TT C.wide (evW TT C.wide n131 b131) n131 Try.f131.results.toList (aQ Try.f131) [.v (.i .i64 p0)] [] = some (.v (.b r), []) := by
  unfold cmp_isNaN_int at hF
  have hR := Option.some.inj hF
  clear hF
  subst hR
  all_goals (rw [ba]; show cp _ _ _ (aH _ _ _ _ (Code.seq _ _) _) = _; simp (maxSteps := 4000000) only [*, res131, n131k0, n131k1, ↓RP, RB, enter, aZ, be, aM, Mx.bw, opnd, Mx.bF, Nat.reduceBEq, bK, Mx.fit, bY, aO, aB, Mx.put, ofConst, ofCell, Mx.prune, killB, aK, putDst, au, List.map, cm, cn, az, bn, bq, co, bN, bD, aL, lowC, ck, cj, bne, ↓aj, ↓aa, ty4])
def n112 : cC where
  keep := fun i => match i with
    | 0 => [0, 1]
    | 1 => [0, 1, 5]
    | 2 => [0, 1, 5, 6]
    | 3 => [0, 1, 6, 11]
    | 4 => [12]
    | 5 => [4]
    | 6 => [4]
    | 7 => [0, 1, 13]
    | 8 => [4]
    | 9 => [0, 1, 16]
    | 10 => [4]
    | 11 => [19]
    | 12 => [4]
    | 13 => [4]
    | _ => []
  ro := fun _ => false
  mv := fun _ => false
  give := fun _ => false
  free := fun _ => []
  alive := fun i x => match i, x with
    | 11, true => some [6]
    | 11, false => some [0, 1, 6]
    | 12, true => some []
    | 12, false => some []
    | 13, true => some []
    | 13, false => some [0, 1]
    | 16, true => some []
    | 16, false => some [0, 1]
    | 19, true => some []
    | 19, false => some []
    | _, _ => none
theorem n112a11t (e : Env) (S : aA) : aw n112 11 true ⟨e, S⟩ = ⟨prune [6] e, S⟩ := rfl
theorem n112a11f (e : Env) (S : aA) : aw n112 11 false ⟨e, S⟩ = ⟨prune [0, 1, 6] e, S⟩ := rfl
theorem n112a12t (e : Env) (S : aA) : aw n112 12 true ⟨e, S⟩ = ⟨prune [] e, S⟩ := rfl
theorem n112a12f (e : Env) (S : aA) : aw n112 12 false ⟨e, S⟩ = ⟨prune [] e, S⟩ := rfl
theorem n112a13t (e : Env) (S : aA) : aw n112 13 true ⟨e, S⟩ = ⟨prune [] e, S⟩ := rfl
theorem n112a13f (e : Env) (S : aA) : aw n112 13 false ⟨e, S⟩ = ⟨prune [0, 1] e, S⟩ := rfl
theorem n112a16t (e : Env) (S : aA) : aw n112 16 true ⟨e, S⟩ = ⟨prune [] e, S⟩ := rfl
theorem n112a16f (e : Env) (S : aA) : aw n112 16 false ⟨e, S⟩ = ⟨prune [0, 1] e, S⟩ := rfl
theorem n112a19t (e : Env) (S : aA) : aw n112 19 true ⟨e, S⟩ = ⟨prune [] e, S⟩ := rfl
theorem n112a19f (e : Env) (S : aA) : aw n112 19 false ⟨e, S⟩ = ⟨prune [] e, S⟩ := rfl
theorem n112k0 : n112.keep 0 = [0, 1] := rfl
theorem n112k1 : n112.keep 1 = [0, 1, 5] := rfl
theorem n112k2 : n112.keep 2 = [0, 1, 5, 6] := rfl
theorem n112k3 : n112.keep 3 = [0, 1, 6, 11] := rfl
theorem n112k4 : n112.keep 4 = [12] := rfl
theorem n112k5 : n112.keep 5 = [4] := rfl
theorem n112k6 : n112.keep 6 = [4] := rfl
theorem n112k7 : n112.keep 7 = [0, 1, 13] := rfl
theorem n112k8 : n112.keep 8 = [4] := rfl
theorem n112k9 : n112.keep 9 = [0, 1, 16] := rfl
theorem n112k10 : n112.keep 10 = [4] := rfl
theorem n112k11 : n112.keep 11 = [19] := rfl
theorem n112k12 : n112.keep 12 = [4] := rfl
theorem n112k13 : n112.keep 13 = [4] := rfl
theorem res112 : Try.f112.results.toList = [.tmp 4] := rfl
noncomputable def b112 : Code := aQ Try.f112
theorem r_cmp_Compare_int (C : ak) (k_cmp_isNaN_int : K_cmp_isNaN_int C) (p0 : Int) (p1 : Int) (r : Int) (hF : cmp_Compare_int p0 p1 = some r) : cF TT C.wide (evW TT C.wide n112 b112) n112 Try.f112.results.toList (aQ Try.f112) [.v (.i .i64 p0), .v (.i .i64 p1)] [] = some (.v (.i .i64 r), []) := by
  unfold cmp_Compare_int at hF
  have g1 : C.wide 131 [.v (.i .i64 p0)] [] = some (.v (.b (cmp_isNaN_int_v p0)), []) := k_cmp_isNaN_int p0 _ (cmp_isNaN_int_t p0)
  have g2 : C.wide 131 [.v (.i .i64 p1)] [] = some (.v (.b (cmp_isNaN_int_v p1)), []) := k_cmp_isNaN_int p1 _ (cmp_isNaN_int_t p1)
  refine aG (cmp_isNaN_int_v p0) ?_ ?_
  focus
    intro h1
    replace hF := aq h1 hF
    refine aG (cmp_isNaN_int_v p1) ?_ ?_
    focus
      intro h2
      replace hF := aq h2 hF
      have hR := Option.some.inj hF
      clear hF
      subst hR
    rotate_left 1
    intro h2
    replace hF := ar h2 hF
    have hR := Option.some.inj hF
    clear hF
    subst hR
  rotate_left 2
  intro h1
  replace hF := ar h1 hF
  refine aG (cmp_isNaN_int_v p1) ?_ ?_
  focus
    intro h2
    replace hF := aq h2 hF
    have hR := Option.some.inj hF
    clear hF
    subst hR
  rotate_left 1
  intro h2
  replace hF := ar h2 hF
  refine aG (decide (p0 < p1)) ?_ ?_
  focus
    intro h3
    replace hF := aq h3 hF
    have hR := Option.some.inj hF
    clear hF
    subst hR
  rotate_left 1
  intro h3
  replace hF := ar h3 hF
  refine aG (decide (p1 < p0)) ?_ ?_
  focus
    intro h4
    replace hF := aq h4 hF
    have hR := Option.some.inj hF
    clear hF
    subst hR
  rotate_left 1
  intro h4
  replace hF := ar h4 hF
  have hR := Option.some.inj hF
  clear hF
  subst hR
  all_goals (rw [ba]; show cp _ _ _ (aH _ _ _ _ (Code.seq _ _) _) = _; simp (maxSteps := 4000000) only [*, res112, n112a11t, n112a11f, n112a12t, n112a12f, n112a13t, n112a13f, n112a16t, n112a16f, n112a19t, n112a19f, n112k0, n112k1, n112k2, n112k3, n112k4, n112k5, n112k6, n112k7, n112k8, n112k9, n112k10, n112k11, n112k12, n112k13, ↓RP, RB, enter, aZ, be, aM, Mx.bw, opnd, Mx.bF, Nat.reduceBEq, bK, Mx.fit, bY, aO, aB, Mx.put, ofConst, ofCell, Mx.prune, killB, aK, putDst, au, List.map, cm, cn, az, bn, bq, co, bN, bD, aL, lowC, forceAll, lend, lendA, aS, ay, bL, bare, bQ, Int.reduceNeg, newB, ch, ck, cj, ↓aj, ↓ai, ↓aa, ty3, ty4])
def n111 : cC where
  keep := fun i => match i with
    | 0 => [0]
    | 1 => [0, 3]
    | 2 => [0, 3, 6, 7, 8]
    | 3 => [0, 3, 6, 7, 8, 9]
    | 4 => [0, 3, 5, 6, 7, 8]
    | 5 => [0, 3, 5, 6, 7, 8, 14]
    | 6 => [2]
    | 7 => [0, 3, 6, 7, 8]
    | 8 => [2]
    | _ => []
  ro := fun _ => false
  mv := fun _ => false
  give := fun _ => false
  free := fun _ => []
  alive := fun i x => match i, x with
    | 9, true => some [0, 3, 6, 7, 8]
    | 9, false => some [3]
    | 14, true => some [5]
    | 14, false => some [0, 3, 6, 7, 8]
    | _, _ => none
theorem n111a9t (e : Env) (S : aA) : aw n111 9 true ⟨e, S⟩ = ⟨prune [0, 3, 6, 7, 8] e, S⟩ := rfl
theorem n111a9f (e : Env) (S : aA) : aw n111 9 false ⟨e, S⟩ = ⟨prune [3] e, S⟩ := rfl
theorem n111a14t (e : Env) (S : aA) : aw n111 14 true ⟨e, S⟩ = ⟨prune [5] e, S⟩ := rfl
theorem n111a14f (e : Env) (S : aA) : aw n111 14 false ⟨e, S⟩ = ⟨prune [0, 3, 6, 7, 8] e, S⟩ := rfl
theorem n111k0 : n111.keep 0 = [0] := rfl
theorem n111k1 : n111.keep 1 = [0, 3] := rfl
theorem n111k2 : n111.keep 2 = [0, 3, 6, 7, 8] := rfl
theorem n111k3 : n111.keep 3 = [0, 3, 6, 7, 8, 9] := rfl
theorem n111k4 : n111.keep 4 = [0, 3, 5, 6, 7, 8] := rfl
theorem n111k5 : n111.keep 5 = [0, 3, 5, 6, 7, 8, 14] := rfl
theorem n111k6 : n111.keep 6 = [2] := rfl
theorem n111k7 : n111.keep 7 = [0, 3, 6, 7, 8] := rfl
theorem n111k8 : n111.keep 8 = [2] := rfl
theorem n111mv (t : Nat) : n111.mv t = (false) := rfl
theorem res111 : Try.f111.results.toList = [.tmp 2] := rfl
noncomputable def b111 : Code := aQ Try.f111
noncomputable def c111_0 : Code := (bz 0 (aQ Try.f111)).getD .skip
theorem fl111_0 : bz 0 b111 = some c111_0 := rfl
def hd_cmp_Or_int_0 (p0 : List Int) (p1 : Int) (s : Int) : St := ⟨[(0, .v (.sl 1 (ab rowI p0))), (3, .v (.i .i64 0)), (6, .v (.sl 1 (ab rowI p0))), (7, .v (.i .i64 p1)), (8, .v (.i .i64 s))], []⟩
def ou_cmp_Or_int_0 (p0 : List Int) (p1 : Int) (r : Int ⊕ Unit) : Option (Ex × St) := match r with
  | .inl r => some (.ret, ⟨[(2, .v (.i .i64 r))], []⟩)
  | .inr r => some (.normal, ⟨[(3, .v (.i .i64 0))], []⟩)
theorem sl_cmp_Or_int_0 (C : ak)  (p0 : List Int) (p1 : Int) (p2 : Int) (o : Int ⊕ (Int ⊕ Unit)) (hF : st_cmp_Or_int_0 p0 p1 p2 = some o) : evW TT C.wide n111 b111 0 (hd_cmp_Or_int_0 p0 p1 p2) = Sum.elim (fun s => evW TT C.wide n111 b111 0 (hd_cmp_Or_int_0 p0 p1 s)) (fun r => ou_cmp_Or_int_0 p0 p1 r) o := by
  unfold st_cmp_Or_int_0 at hF
  try dsimp only at hF
  rw [ct TT n111 fl111_0]
  refine aT (decide (p2 < p1)) ?_ ?_
  focus
    intro h1
    replace hF := ar h1 hF
    cases hF
  rotate_left 1
  intro h1
  replace hF := aq h1 hF
  revert hF
  cases h2 : idx p0 p2
  focus
    intro hF
    cases hF
  rename_i x1
  intro hF
  try dsimp only at hF
  have g1 : decide (0 ≤ p2) = true := (cc h2).1
  have g2 : (ab rowI p0)[(p2 : Int).toNat]? = some [.i .i64 x1] := ca _ h2
  refine aG (x1 == 0) ?_ ?_
  focus
    intro h3
    replace hF := aq h3 hF
    cases hF
  rotate_left 1
  intro h3
  replace hF := ar h3 hF
  cases hF
  all_goals (show cD _ _ _ (aH _ _ _ _ (Code.seq _ _) _) = _; simp (maxSteps := 4000000) only [*, hd_cmp_Or_int_0, ou_cmp_Or_int_0, n111a9t, n111a9f, n111a14t, n111a14f, n111k3, n111k4, n111k5, n111k6, n111k7, n111mv, ↓RP, RB, ↓ah, aZ, be, aM, Mx.bw, opnd, Mx.bF, Nat.reduceBEq, bK, Mx.fit, bY, aO, aB, ax, Mx.put, ofConst, ofCell, Mx.prune, killB, aK, putDst, au, loadAt, bM, List.map, cm, cn, bg, ck, cj, bne, ↓aj, ↓ai, ↓aa, ty3, ty161])
theorem r_cmp_Or_int (C : ak)  (p0 : List Int) (r : Int) (hF : cmp_Or_int p0 = some r) : cF TT C.wide (evW TT C.wide n111 b111) n111 Try.f111.results.toList (aQ Try.f111) [.v (.sl 1 (ab rowI p0))] [] = some (.v (.i .i64 r), []) := by
  unfold cmp_Or_int at hF
  revert hF
  cases h1 : ci (st_cmp_Or_int_0 p0 (p0.length : Int)) 0
  focus
    intro hF
    cases hF
  rename_i qh1
  cases qh1
  focus
    rename_i z0h1
    revert z0h1
    intro x1 h1
    intro hF
    try dsimp only at hF
    have g1 : evW TT C.wide n111 b111 0 ⟨[(0, .v (.sl 1 (ab rowI p0))), (3, .v (.i .i64 0)), (6, .v (.sl 1 (ab rowI p0))), (7, .v (.i .i64 (p0.length : Int))), (8, .v (.i .i64 0))], []⟩ = some (.ret, ⟨[(2, .v (.i .i64 x1))], []⟩) := cy (hd_cmp_Or_int_0 p0 (p0.length : Int)) (ou_cmp_Or_int_0 p0 (p0.length : Int)) (fun s o hs => sl_cmp_Or_int_0 C p0 (p0.length : Int) s o hs) h1
    have hR := Option.some.inj hF
    clear hF
    subst hR
  rotate_left 1
  rename_i y0h1
  intro hF
  try dsimp only at hF
  have g2 : evW TT C.wide n111 b111 0 ⟨[(0, .v (.sl 1 (ab rowI p0))), (3, .v (.i .i64 0)), (6, .v (.sl 1 (ab rowI p0))), (7, .v (.i .i64 (p0.length : Int))), (8, .v (.i .i64 0))], []⟩ = some (.normal, ⟨[(3, .v (.i .i64 0))], []⟩) := cy (hd_cmp_Or_int_0 p0 (p0.length : Int)) (ou_cmp_Or_int_0 p0 (p0.length : Int)) (fun s o hs => sl_cmp_Or_int_0 C p0 (p0.length : Int) s o hs) h1
  have hR := Option.some.inj hF
  clear hF
  subst hR
  all_goals (rw [ba]; show cp _ _ _ (aH _ _ _ _ (Code.seq _ _) _) = _; simp (maxSteps := 4000000) only [*, res111, n111k0, n111k1, n111k2, n111k8, ↓RP, RB, enter, aZ, be, aM, Mx.bw, opnd, Mx.bF, Nat.reduceBEq, bK, Mx.fit, bY, aO, aB, Mx.put, ofConst, ofCell, Mx.prune, killB, aK, putDst, au, List.map, cg, az, bn, bq, co, bN, bD, aL, lowC, ↓aj, ↓aa, ty3, ty161])
def n75 : cC where
  keep := fun i => match i with
    | 0 => [2, 3]
    | 1 => [4]
    | _ => []
  ro := fun t => t == 2 || t == 3
  mv := fun _ => false
  give := fun _ => false
  free := fun i => match i with | 1 => [(0, 2), (1, 2), (0, 3), (1, 3), (0, 5), (1, 5), (2, 5), (3, 5), (4, 5), (0, 6), (1, 6), (2, 6), (3, 6), (4, 6), (0, 7), (1, 7), (2, 7), (3, 7), (4, 7), (5, 7), (6, 7), (0, 8), (1, 8), (2, 8), (3, 8), (4, 8), (5, 8), (6, 8)] | _ => []
theorem n75k0 : n75.keep 0 = [2, 3] := rfl
theorem n75k1 : n75.keep 1 = [4] := rfl
theorem n75ro (t : Nat) : n75.ro t = (t == 2 || t == 3) := rfl
theorem n75mv (t : Nat) : n75.mv t = (false) := rfl
theorem n75f1 : n75.free 1 = [(0, 2), (1, 2), (0, 3), (1, 3), (0, 5), (1, 5), (2, 5), (3, 5), (4, 5), (0, 6), (1, 6), (2, 6), (3, 6), (4, 6), (0, 7), (1, 7), (2, 7), (3, 7), (4, 7), (5, 7), (6, 7), (0, 8), (1, 8), (2, 8), (3, 8), (4, 8), (5, 8), (6, 8)] := rfl
theorem res75 : Try.f75.results.toList = [.tmp 4] := rfl
noncomputable def b75 : Code := aQ Try.f75
theorem r_value_byScore (C : ak) (k_cmp_Compare_int : K_cmp_Compare_int C) (k_strings_Compare : K_strings_Compare C) (k_cmp_Or_int : K_cmp_Or_int C) (p0 : GScore) (p1 : GScore) (r : Int) (hF : value_byScore p0 p1 = some r) : cF TT C.wide (evW TT C.wide n75 b75) n75 Try.f75.results.toList (aQ Try.f75) [.agg [.v (.s p0.fMember), .v (.i .i64 p0.fN)], .agg [.v (.s p1.fMember), .v (.i .i64 p1.fN)]] [] = some (.v (.i .i64 r), []) := by
  unfold value_byScore at hF
  have g1 : C.wide 112 [.v (.i .i64 p0.fN), .v (.i .i64 p1.fN)] [] = some (.v (.i .i64 (cmp_Compare_int_v p0.fN p1.fN)), []) := k_cmp_Compare_int p0.fN p1.fN _ (cmp_Compare_int_t p0.fN p1.fN)
  have g2 : C.wide 77 [.v (.s p0.fMember), .v (.s p1.fMember)] [] = some (.v (.i .i64 (strings_Compare_v p0.fMember p1.fMember)), []) := k_strings_Compare p0.fMember p1.fMember _ (strings_Compare_t p0.fMember p1.fMember)
  revert hF
  cases h1 : cmp_Or_int [(cmp_Compare_int_v p0.fN p1.fN), (strings_Compare_v p0.fMember p1.fMember)]
  focus
    intro hF
    cases hF
  rename_i x1
  intro hF
  try dsimp only at hF
  have g3 : C.wide 111 [.v (.sl 1 (ab rowI [(cmp_Compare_int_v p0.fN p1.fN), (strings_Compare_v p0.fMember p1.fMember)]))] [] = some (.v (.i .i64 x1), []) := k_cmp_Or_int [(cmp_Compare_int_v p0.fN p1.fN), (strings_Compare_v p0.fMember p1.fMember)] _ h1
  have hR := Option.some.inj hF
  clear hF
  subst hR
  all_goals (rw [ba]; show cp _ _ _ (aH _ _ _ _ (Code.seq _ _) _) = _; simp (maxSteps := 4000000) only [*, res75, n75k0, n75k1, n75f1, n75ro, n75mv, ↓RP, RB, enter, aZ, be, aM, Mx.bw, opnd, Mx.bF, Nat.reduceBEq, bK, Mx.fit, bI, bY, toVs, cellsOf, toV, aO, aB, ax, Mx.put, ofConst, ofCell, Mx.prune, killB, aK, putDst, au, aD, loadAt, bM, List.map, Nat.reduceAdd, Nat.reduceMul, az, bn, bq, co, bN, bD, aL, bx, lowC, forceAll, lend, lendA, aS, ay, bL, bare, bQ, bB, takeParts, bp, aR, Nat.reduceLeDiff, bJ, fineK, av, aJ, aX, bX, bE, ce, bV, bk, aI, bh, bj, bf, Op.operands, newB, ch, bne, ↓aj, ↓aa, ↓am, bm, bH, Call.operands, ty3, ty9, ty105, ty161])
def n74 : cC where
  keep := fun i => match i with
    | 0 => [0, 1]
    | 1 => [0, 1, 5]
    | 2 => [0, 1, 5, 9]
    | 3 => [0, 1, 5]
    | 4 => [0, 1, 5, 23]
    | 5 => [4]
    | 6 => [4]
    | _ => []
  ro := fun _ => false
  mv := fun _ => false
  give := fun _ => false
  free := fun i => match i with | 4 => [(0, 1), (0, 2), (1, 2), (0, 3), (1, 3), (0, 4), (0, 5), (0, 6), (1, 6), (2, 6), (3, 6), (4, 6), (5, 6), (0, 7), (1, 7), (2, 7), (3, 7), (4, 7), (5, 7), (6, 7), (0, 8), (1, 8), (2, 8), (3, 8), (4, 8), (5, 8), (0, 9), (1, 9), (2, 9), (3, 9), (4, 9), (5, 9)] | _ => []
  alive := fun i x => match i, x with
    | 9, true => some [0, 1, 5]
    | 9, false => some []
    | 23, true => some []
    | 23, false => some [0, 1, 5]
    | _, _ => none
theorem n74a9t (e : Env) (S : aA) : aw n74 9 true ⟨e, S⟩ = ⟨prune [0, 1, 5] e, S⟩ := rfl
theorem n74a9f (e : Env) (S : aA) : aw n74 9 false ⟨e, S⟩ = ⟨prune [] e, S⟩ := rfl
theorem n74a23t (e : Env) (S : aA) : aw n74 23 true ⟨e, S⟩ = ⟨prune [] e, S⟩ := rfl
theorem n74a23f (e : Env) (S : aA) : aw n74 23 false ⟨e, S⟩ = ⟨prune [0, 1, 5] e, S⟩ := rfl
theorem n74k0 : n74.keep 0 = [0, 1] := rfl
theorem n74k1 : n74.keep 1 = [0, 1, 5] := rfl
theorem n74k2 : n74.keep 2 = [0, 1, 5, 9] := rfl
theorem n74k3 : n74.keep 3 = [0, 1, 5] := rfl
theorem n74k4 : n74.keep 4 = [0, 1, 5, 23] := rfl
theorem n74k5 : n74.keep 5 = [4] := rfl
theorem n74k6 : n74.keep 6 = [4] := rfl
theorem n74mv (t : Nat) : n74.mv t = (false) := rfl
theorem n74gv (t : Nat) : n74.give t = (false) := rfl
theorem n74f4 : n74.free 4 = [(0, 1), (0, 2), (1, 2), (0, 3), (1, 3), (0, 4), (0, 5), (0, 6), (1, 6), (2, 6), (3, 6), (4, 6), (5, 6), (0, 7), (1, 7), (2, 7), (3, 7), (4, 7), (5, 7), (6, 7), (0, 8), (1, 8), (2, 8), (3, 8), (4, 8), (5, 8), (0, 9), (1, 9), (2, 9), (3, 9), (4, 9), (5, 9)] := rfl
theorem res74 : Try.f74.results.toList = [.tmp 4] := rfl
noncomputable def b74 : Code := aQ Try.f74
noncomputable def c74_0 : Code := (bz 0 (aQ Try.f74)).getD .skip
theorem fl74_0 : bz 0 b74 = some c74_0 := rfl
def hd_value_rising_Score_value_byScore_0 (p0 : List GScore) (s : Int) : St := ⟨[(0, .v (.sl 2 (ab GScore.row p0))), (1, .clo 75 []), (5, .v (.i .i64 s))], []⟩
def ou_value_rising_Score_value_byScore_0 (p0 : List GScore) (r : Unit ⊕ Unit) : Option (Ex × St) := match r with
  | .inl r => some (.ret, ⟨[(4, .v (.b false))], []⟩)
  | .inr r => some (.normal, ⟨[], []⟩)
theorem sl_value_rising_Score_value_byScore_0 (C : ak) (k_value_byScore : K_value_byScore C) (p0 : List GScore) (p1 : Int) (o : Int ⊕ (Unit ⊕ Unit)) (hF : st_value_rising_Score_value_byScore_0 p0 p1 = some o) : evW TT C.wide n74 b74 0 (hd_value_rising_Score_value_byScore_0 p0 p1) = Sum.elim (fun s => evW TT C.wide n74 b74 0 (hd_value_rising_Score_value_byScore_0 p0 s)) (fun r => ou_value_rising_Score_value_byScore_0 p0 r) o := by
  unfold st_value_rising_Score_value_byScore_0 at hF
  try dsimp only at hF
  rw [ct TT n74 fl74_0]
  refine aT (decide (p1 < (p0.length : Int))) ?_ ?_
  focus
    intro h1
    replace hF := ar h1 hF
    cases hF
  rotate_left 1
  intro h1
  replace hF := aq h1 hF
  revert hF
  cases h2 : idx p0 (IntKind.i64.wrap (p1 - 1))
  focus
    intro hF
    cases hF
  rename_i x1
  intro hF
  try dsimp only at hF
  have g1 : decide (0 ≤ (IntKind.i64.wrap (p1 - 1))) = true := (cc h2).1
  have g2 : (ab GScore.row p0)[((IntKind.i64.wrap (p1 - 1)) : Int).toNat]? = some [.s x1.fMember, .i .i64 x1.fN] := ca _ h2
  revert hF
  cases h3 : idx p0 p1
  focus
    intro hF
    cases hF
  rename_i x2
  intro hF
  try dsimp only at hF
  have g3 : decide (0 ≤ p1) = true := (cc h3).1
  have g4 : (ab GScore.row p0)[(p1 : Int).toNat]? = some [.s x2.fMember, .i .i64 x2.fN] := ca _ h3
  revert hF
  cases h4 : value_byScore x1 x2
  focus
    intro hF
    cases hF
  rename_i x3
  intro hF
  try dsimp only at hF
  have g5 : C.wide 75 [.agg [.v (.s x1.fMember), .v (.i .i64 x1.fN)], .agg [.v (.s x2.fMember), .v (.i .i64 x2.fN)]] [] = some (.v (.i .i64 x3), []) := k_value_byScore x1 x2 _ h4
  refine aG (decide (0 ≤ x3)) ?_ ?_
  focus
    intro h5
    replace hF := aq h5 hF
    cases hF
  rotate_left 1
  intro h5
  replace hF := ar h5 hF
  cases hF
  all_goals (show cD _ _ _ (aH _ _ _ _ (Code.seq _ _) _) = _; simp (maxSteps := 4000000) only [*, hd_value_rising_Score_value_byScore_0, ou_value_rising_Score_value_byScore_0, n74a9t, n74a9f, n74a23t, n74a23f, n74k2, n74k3, n74k4, n74k5, n74f4, n74mv, n74gv, ↓RP, RB, ↓ah, aZ, be, aM, Mx.bw, opnd, Mx.bF, Nat.reduceBEq, bK, Mx.fit, bY, aO, aB, ax, Mx.put, ofConst, ofCell, Mx.prune, killB, killBs, aK, putDst, au, loadAt, bM, List.map, Nat.reduceAdd, cm, cn, cg, bD, aL, bx, bg, kill, frz, bZ, bo, argE, argsE, bB, bJ, fineK, av, aJ, aX, bX, bE, ce, bV, bk, aI, bh, bj, bf, Op.operands, ck, cj, ↓aj, ↓ai, ↓aa, ↓am, bm, bH, ty3, ty4, ty51, ty105])
theorem r_value_rising_Score_value_byScore (C : ak) (k_value_byScore : K_value_byScore C) (p0 : List GScore) (r : Bool) (hF : value_rising_Score_value_byScore p0 = some r) : cF TT C.wide (evW TT C.wide n74 b74) n74 Try.f74.results.toList (aQ Try.f74) [.v (.sl 2 (ab GScore.row p0)), .clo 75 []] [] = some (.v (.b r), []) := by
  unfold value_rising_Score_value_byScore at hF
  revert hF
  cases h1 : ci (st_value_rising_Score_value_byScore_0 p0) 1
  focus
    intro hF
    cases hF
  rename_i qh1
  cases qh1
  focus
    rename_i z0h1
    intro hF
    try dsimp only at hF
    have g1 : evW TT C.wide n74 b74 0 ⟨[(0, .v (.sl 2 (ab GScore.row p0))), (1, .clo 75 []), (5, .v (.i .i64 1))], []⟩ = some (.ret, ⟨[(4, .v (.b false))], []⟩) := cy (hd_value_rising_Score_value_byScore_0 p0) (ou_value_rising_Score_value_byScore_0 p0) (fun s o hs => sl_value_rising_Score_value_byScore_0 C k_value_byScore p0 s o hs) h1
    have hR := Option.some.inj hF
    clear hF
    subst hR
  rotate_left 1
  rename_i y0h1
  intro hF
  try dsimp only at hF
  have g2 : evW TT C.wide n74 b74 0 ⟨[(0, .v (.sl 2 (ab GScore.row p0))), (1, .clo 75 []), (5, .v (.i .i64 1))], []⟩ = some (.normal, ⟨[], []⟩) := cy (hd_value_rising_Score_value_byScore_0 p0) (ou_value_rising_Score_value_byScore_0 p0) (fun s o hs => sl_value_rising_Score_value_byScore_0 C k_value_byScore p0 s o hs) h1
  have hR := Option.some.inj hF
  clear hF
  subst hR
  all_goals (rw [ba]; show cp _ _ _ (aH _ _ _ _ (Code.seq _ _) _) = _; simp (maxSteps := 4000000) only [*, res74, n74k0, n74k1, n74k6, ↓RP, RB, enter, aZ, be, aM, Mx.bw, opnd, Mx.bF, Nat.reduceBEq, bK, Mx.fit, bY, aO, aB, Mx.put, ofConst, ofCell, Mx.prune, killB, killBs, List.map, az, bn, bq, co, bN, bD, aL, lowC, ↓aj, ↓aa, ty3, ty4])
def n76 : cC where
  keep := fun i => match i with
    | 0 => [0, 1]
    | 1 => [0, 1, 5]
    | 2 => [0, 1, 5, 9]
    | 3 => [0, 1, 5]
    | 4 => [0, 1, 5, 23]
    | 5 => [4]
    | 6 => [4]
    | _ => []
  ro := fun _ => false
  mv := fun _ => false
  give := fun _ => false
  free := fun i => match i with | 4 => [(0, 1), (0, 2), (1, 2), (0, 3), (1, 3), (0, 4), (0, 5), (0, 6), (1, 6), (2, 6), (3, 6), (4, 6), (5, 6), (0, 7), (1, 7), (2, 7), (3, 7), (4, 7), (5, 7), (6, 7), (0, 8), (1, 8), (2, 8), (3, 8), (4, 8), (5, 8), (0, 9), (1, 9), (2, 9), (3, 9), (4, 9), (5, 9)] | _ => []
  alive := fun i x => match i, x with
    | 9, true => some [0, 1, 5]
    | 9, false => some []
    | 23, true => some []
    | 23, false => some [0, 1, 5]
    | _, _ => none
theorem n76a9t (e : Env) (S : aA) : aw n76 9 true ⟨e, S⟩ = ⟨prune [0, 1, 5] e, S⟩ := rfl
theorem n76a9f (e : Env) (S : aA) : aw n76 9 false ⟨e, S⟩ = ⟨prune [] e, S⟩ := rfl
theorem n76a23t (e : Env) (S : aA) : aw n76 23 true ⟨e, S⟩ = ⟨prune [] e, S⟩ := rfl
theorem n76a23f (e : Env) (S : aA) : aw n76 23 false ⟨e, S⟩ = ⟨prune [0, 1, 5] e, S⟩ := rfl
theorem n76k0 : n76.keep 0 = [0, 1] := rfl
theorem n76k1 : n76.keep 1 = [0, 1, 5] := rfl
theorem n76k2 : n76.keep 2 = [0, 1, 5, 9] := rfl
theorem n76k3 : n76.keep 3 = [0, 1, 5] := rfl
theorem n76k4 : n76.keep 4 = [0, 1, 5, 23] := rfl
theorem n76k5 : n76.keep 5 = [4] := rfl
theorem n76k6 : n76.keep 6 = [4] := rfl
theorem n76mv (t : Nat) : n76.mv t = (false) := rfl
theorem n76gv (t : Nat) : n76.give t = (false) := rfl
theorem n76f4 : n76.free 4 = [(0, 1), (0, 2), (1, 2), (0, 3), (1, 3), (0, 4), (0, 5), (0, 6), (1, 6), (2, 6), (3, 6), (4, 6), (5, 6), (0, 7), (1, 7), (2, 7), (3, 7), (4, 7), (5, 7), (6, 7), (0, 8), (1, 8), (2, 8), (3, 8), (4, 8), (5, 8), (0, 9), (1, 9), (2, 9), (3, 9), (4, 9), (5, 9)] := rfl
theorem res76 : Try.f76.results.toList = [.tmp 4] := rfl
noncomputable def b76 : Code := aQ Try.f76
noncomputable def c76_0 : Code := (bz 0 (aQ Try.f76)).getD .skip
theorem fl76_0 : bz 0 b76 = some c76_0 := rfl
def hd_value_rising_string_strings_Compare_0 (p0 : List ByteArray) (s : Int) : St := ⟨[(0, .v (.sl 1 (ab aY p0))), (1, .clo 77 []), (5, .v (.i .i64 s))], []⟩
def ou_value_rising_string_strings_Compare_0 (p0 : List ByteArray) (r : Unit ⊕ Unit) : Option (Ex × St) := match r with
  | .inl r => some (.ret, ⟨[(4, .v (.b false))], []⟩)
  | .inr r => some (.normal, ⟨[], []⟩)
theorem sl_value_rising_string_strings_Compare_0 (C : ak) (k_strings_Compare : K_strings_Compare C) (p0 : List ByteArray) (p1 : Int) (o : Int ⊕ (Unit ⊕ Unit)) (hF : st_value_rising_string_strings_Compare_0 p0 p1 = some o) : evW TT C.wide n76 b76 0 (hd_value_rising_string_strings_Compare_0 p0 p1) = Sum.elim (fun s => evW TT C.wide n76 b76 0 (hd_value_rising_string_strings_Compare_0 p0 s)) (fun r => ou_value_rising_string_strings_Compare_0 p0 r) o := by
  unfold st_value_rising_string_strings_Compare_0 at hF
  try dsimp only at hF
  rw [ct TT n76 fl76_0]
  refine aT (decide (p1 < (p0.length : Int))) ?_ ?_
  focus
    intro h1
    replace hF := ar h1 hF
    cases hF
  rotate_left 1
  intro h1
  replace hF := aq h1 hF
  revert hF
  cases h2 : idx p0 (IntKind.i64.wrap (p1 - 1))
  focus
    intro hF
    cases hF
  rename_i x1
  intro hF
  try dsimp only at hF
  have g1 : decide (0 ≤ (IntKind.i64.wrap (p1 - 1))) = true := (cc h2).1
  have g2 : (ab aY p0)[((IntKind.i64.wrap (p1 - 1)) : Int).toNat]? = some [.s x1] := ca _ h2
  revert hF
  cases h3 : idx p0 p1
  focus
    intro hF
    cases hF
  rename_i x2
  intro hF
  try dsimp only at hF
  have g3 : decide (0 ≤ p1) = true := (cc h3).1
  have g4 : (ab aY p0)[(p1 : Int).toNat]? = some [.s x2] := ca _ h3
  have g5 : C.wide 77 [.v (.s x1), .v (.s x2)] [] = some (.v (.i .i64 (strings_Compare_v x1 x2)), []) := k_strings_Compare x1 x2 _ (strings_Compare_t x1 x2)
  refine aG (decide (0 ≤ (strings_Compare_v x1 x2))) ?_ ?_
  focus
    intro h4
    replace hF := aq h4 hF
    cases hF
  rotate_left 1
  intro h4
  replace hF := ar h4 hF
  cases hF
  all_goals (show cD _ _ _ (aH _ _ _ _ (Code.seq _ _) _) = _; simp (maxSteps := 4000000) only [*, hd_value_rising_string_strings_Compare_0, ou_value_rising_string_strings_Compare_0, n76a9t, n76a9f, n76a23t, n76a23f, n76k2, n76k3, n76k4, n76k5, n76f4, n76mv, n76gv, ↓RP, RB, ↓ah, aZ, be, aM, Mx.bw, opnd, Mx.bF, Nat.reduceBEq, bK, Mx.fit, bY, aO, aB, ax, Mx.put, ofConst, ofCell, Mx.prune, killB, killBs, aK, putDst, au, loadAt, bM, List.map, cm, cn, cg, bD, aL, bx, bg, kill, frz, bZ, bo, argE, argsE, bB, bJ, fineK, av, aJ, aX, bX, bE, ce, bV, bk, aI, bh, bj, bf, Op.operands, ck, cj, ↓aj, ↓ai, ↓aa, ↓am, bm, bH, ty3, ty4, ty9, ty50])
theorem r_value_rising_string_strings_Compare (C : ak) (k_strings_Compare : K_strings_Compare C) (p0 : List ByteArray) (r : Bool) (hF : value_rising_string_strings_Compare p0 = some r) : cF TT C.wide (evW TT C.wide n76 b76) n76 Try.f76.results.toList (aQ Try.f76) [.v (.sl 1 (ab aY p0)), .clo 77 []] [] = some (.v (.b r), []) := by
  unfold value_rising_string_strings_Compare at hF
  revert hF
  cases h1 : ci (st_value_rising_string_strings_Compare_0 p0) 1
  focus
    intro hF
    cases hF
  rename_i qh1
  cases qh1
  focus
    rename_i z0h1
    intro hF
    try dsimp only at hF
    have g1 : evW TT C.wide n76 b76 0 ⟨[(0, .v (.sl 1 (ab aY p0))), (1, .clo 77 []), (5, .v (.i .i64 1))], []⟩ = some (.ret, ⟨[(4, .v (.b false))], []⟩) := cy (hd_value_rising_string_strings_Compare_0 p0) (ou_value_rising_string_strings_Compare_0 p0) (fun s o hs => sl_value_rising_string_strings_Compare_0 C k_strings_Compare p0 s o hs) h1
    have hR := Option.some.inj hF
    clear hF
    subst hR
  rotate_left 1
  rename_i y0h1
  intro hF
  try dsimp only at hF
  have g2 : evW TT C.wide n76 b76 0 ⟨[(0, .v (.sl 1 (ab aY p0))), (1, .clo 77 []), (5, .v (.i .i64 1))], []⟩ = some (.normal, ⟨[], []⟩) := cy (hd_value_rising_string_strings_Compare_0 p0) (ou_value_rising_string_strings_Compare_0 p0) (fun s o hs => sl_value_rising_string_strings_Compare_0 C k_strings_Compare p0 s o hs) h1
  have hR := Option.some.inj hF
  clear hF
  subst hR
  all_goals (rw [ba]; show cp _ _ _ (aH _ _ _ _ (Code.seq _ _) _) = _; simp (maxSteps := 4000000) only [*, res76, n76k0, n76k1, n76k6, ↓RP, RB, enter, aZ, be, aM, Mx.bw, opnd, Mx.bF, Nat.reduceBEq, bK, Mx.fit, bY, aO, aB, Mx.put, ofConst, ofCell, Mx.prune, killB, killBs, List.map, az, bn, bq, co, bN, bD, aL, lowC, ↓aj, ↓aa, ty3, ty4])
def n114 : cC where
  keep := fun i => match i with
    | 0 => [1, 2]
    | 1 => [3]
    | _ => []
  ro := fun t => t == 2
  mv := fun _ => false
  give := fun _ => false
  free := fun _ => []
theorem n114k0 : n114.keep 0 = [1, 2] := rfl
theorem n114k1 : n114.keep 1 = [3] := rfl
theorem n114ro (t : Nat) : n114.ro t = (t == 2) := rfl
theorem n114mv (t : Nat) : n114.mv t = (false) := rfl
theorem res114 : Try.f114.results.toList = [.tmp 3] := rfl
noncomputable def b114 : Code := aQ Try.f114
theorem r_value_rank_fn1 (C : ak)  (p0 : GScore) (p1 : ByteArray) (r : Bool × ByteArray) (hF : value_rank_fn1 p0 p1 = some r) : cF TT C.wide (evW TT C.wide n114 b114) n114 Try.f114.results.toList (aQ Try.f114) [.agg [.v (.s p0.fMember), .v (.i .i64 p0.fN)], .ptr 0 0] [[.v (.s p1)]] = some (.v (.b r.1), [[.v (.s r.2)]]) := by
  unfold value_rank_fn1 at hF
  have hR := Option.some.inj hF
  clear hF
  subst hR
  all_goals (rw [ba]; show cp _ _ _ (aH _ _ _ _ (Code.seq _ _) _) = _; simp (maxSteps := 4000000) only [*, res114, n114k0, n114k1, n114ro, n114mv, ↓RP, RB, enter, aZ, be, aM, Mx.bw, opnd, Mx.bF, Nat.reduceBEq, bK, Mx.fit, bI, bY, toVs, cellsOf, toV, aO, aB, ax, Mx.put, ofConst, ofCell, Mx.prune, killB, aK, putDst, au, aD, loadAt, bM, List.map, cm, cn, az, bn, bq, co, bN, bD, aL, lowC, ↓aj, ↓aa, ty4, ty9, ty105])
def hd_slices_IndexFunc_Score_Score_value_rank_fn1_0 (p0 : List GScore) (p1 : Int) (s : Int × ByteArray) : St := ⟨[(0, .v (.sl 2 (ab GScore.row p0))), (1, .clo 114 [.ptr 0 0]), (7, .v (.i .i64 p1)), (8, .v (.i .i64 s.1))], [[.v (.s s.2)]]⟩
def ou_slices_IndexFunc_Score_Score_value_rank_fn1_0 (p0 : List GScore) (p1 : Int) (r : (Int × ByteArray) ⊕ ByteArray) : Option (Ex × St) := match r with
  | .inl r => some (.ret, ⟨[(4, .v (.i .i64 r.1))], [[.v (.s r.2)]]⟩)
  | .inr r => some (.normal, ⟨[], [[.v (.s r)]]⟩)
theorem sl_slices_IndexFunc_Score_Score_value_rank_fn1_0 (C : ak) (k_value_rank_fn1 : K_value_rank_fn1 C) (p0 : List GScore) (p1 : Int) (s : Int × ByteArray) (o : (Int × ByteArray) ⊕ ((Int × ByteArray) ⊕ ByteArray)) (hF : st_slices_IndexFunc_Score_Score_value_rank_fn1_0 p0 p1 s = some o) : evW TT C.wide n110 b110 0 (hd_slices_IndexFunc_Score_Score_value_rank_fn1_0 p0 p1 s) = Sum.elim (fun s => evW TT C.wide n110 b110 0 (hd_slices_IndexFunc_Score_Score_value_rank_fn1_0 p0 p1 s)) (fun r => ou_slices_IndexFunc_Score_Score_value_rank_fn1_0 p0 p1 r) o := by
  obtain ⟨p2, p3⟩ := s
  unfold st_slices_IndexFunc_Score_Score_value_rank_fn1_0 at hF
  try dsimp only at hF
  rw [ct TT n110 fl110_0]
  refine aT (decide (p2 < p1)) ?_ ?_
  focus
    intro h1
    replace hF := ar h1 hF
    cases hF
  rotate_left 1
  intro h1
  replace hF := aq h1 hF
  revert hF
  cases h2 : idx p0 p2
  focus
    intro hF
    cases hF
  rename_i x1
  intro hF
  try dsimp only at hF
  have g1 : decide (0 ≤ p2) = true := (cc h2).1
  have g2 : (ab GScore.row p0)[(p2 : Int).toNat]? = some [.s x1.fMember, .i .i64 x1.fN] := ca _ h2
  revert hF
  cases h3 : value_rank_fn1 x1 p3
  focus
    intro hF
    cases hF
  rename_i qh3
  obtain ⟨x2, x3⟩ := qh3
  intro hF
  try dsimp only at hF
  have g3 : C.wide 114 [.agg [.v (.s x1.fMember), .v (.i .i64 x1.fN)], .ptr 0 0] [[.v (.s p3)]] = some (.v (.b x2), [[.v (.s x3)]]) := cB [0] rfl rfl rfl rfl (k_value_rank_fn1 x1 p3 _ h3) rfl rfl
  refine aG x2 ?_ ?_
  focus
    intro h4
    replace hF := aq h4 hF
    cases hF
  rotate_left 1
  intro h4
  replace hF := ar h4 hF
  cases hF
  all_goals (show cD _ _ _ (aH _ _ _ _ (Code.seq _ _) _) = _; simp (maxSteps := 4000000) only [*, hd_slices_IndexFunc_Score_Score_value_rank_fn1_0, ou_slices_IndexFunc_Score_Score_value_rank_fn1_0, n110a9t, n110a9f, n110a16t, n110a16f, n110k2, n110k3, n110k4, n110k5, n110k6, n110mv, n110gv, ↓RP, RB, ↓ah, aZ, be, aM, Mx.bw, opnd, Mx.bF, Nat.reduceBEq, bK, Mx.fit, bY, aO, aB, ax, Mx.put, ofConst, ofCell, Mx.prune, killB, killBs, aK, putDst, au, loadAt, bM, List.map, Nat.reduceAdd, cm, cn, bD, aL, bx, bg, kill, frz, bZ, bo, argE, argsE, ck, cj, ↓aj, ↓ai, ↓aa, ty3, ty51, ty105])
theorem r_slices_IndexFunc_Score_Score_value_rank_fn1 (C : ak) (k_value_rank_fn1 : K_value_rank_fn1 C) (p0 : List GScore) (p1 : ByteArray) (r : Int × ByteArray) (hF : slices_IndexFunc_Score_Score_value_rank_fn1 p0 p1 = some r) : cF TT C.wide (evW TT C.wide n110 b110) n110 Try.f110.results.toList (aQ Try.f110) [.v (.sl 2 (ab GScore.row p0)), .clo 114 [.ptr 0 0]] [[.v (.s p1)]] = some (.v (.i .i64 r.1), [[.v (.s r.2)]]) := by
  unfold slices_IndexFunc_Score_Score_value_rank_fn1 at hF
  revert hF
  cases h1 : ci (st_slices_IndexFunc_Score_Score_value_rank_fn1_0 p0 (p0.length : Int)) (0, p1)
  focus
    intro hF
    cases hF
  rename_i qh1
  cases qh1
  focus
    rename_i z0h1
    obtain ⟨x1, x2⟩ := z0h1
    intro hF
    try dsimp only at hF
    have g1 : evW TT C.wide n110 b110 0 ⟨[(0, .v (.sl 2 (ab GScore.row p0))), (1, .clo 114 [.ptr 0 0]), (7, .v (.i .i64 (p0.length : Int))), (8, .v (.i .i64 0))], [[.v (.s p1)]]⟩ = some (.ret, ⟨[(4, .v (.i .i64 x1))], [[.v (.s x2)]]⟩) := cy (hd_slices_IndexFunc_Score_Score_value_rank_fn1_0 p0 (p0.length : Int)) (ou_slices_IndexFunc_Score_Score_value_rank_fn1_0 p0 (p0.length : Int)) (fun s o hs => sl_slices_IndexFunc_Score_Score_value_rank_fn1_0 C k_value_rank_fn1 p0 (p0.length : Int) s o hs) h1
    have hR := Option.some.inj hF
    clear hF
    subst hR
  rotate_left 1
  rename_i y0h1
  revert y0h1
  intro x1 h1
  intro hF
  try dsimp only at hF
  have g2 : evW TT C.wide n110 b110 0 ⟨[(0, .v (.sl 2 (ab GScore.row p0))), (1, .clo 114 [.ptr 0 0]), (7, .v (.i .i64 (p0.length : Int))), (8, .v (.i .i64 0))], [[.v (.s p1)]]⟩ = some (.normal, ⟨[], [[.v (.s x1)]]⟩) := cy (hd_slices_IndexFunc_Score_Score_value_rank_fn1_0 p0 (p0.length : Int)) (ou_slices_IndexFunc_Score_Score_value_rank_fn1_0 p0 (p0.length : Int)) (fun s o hs => sl_slices_IndexFunc_Score_Score_value_rank_fn1_0 C k_value_rank_fn1 p0 (p0.length : Int) s o hs) h1
  have hR := Option.some.inj hF
  clear hF
  subst hR
  all_goals (rw [ba]; show cp _ _ _ (aH _ _ _ _ (Code.seq _ _) _) = _; simp (maxSteps := 4000000) only [*, res110, n110k0, n110k1, n110k7, ↓RP, RB, enter, aZ, be, aM, Mx.bw, opnd, Mx.bF, Nat.reduceBEq, bK, Mx.fit, bY, aO, aB, Mx.put, ofConst, ofCell, Mx.prune, killB, killBs, aK, putDst, au, List.map, cg, az, bn, bq, co, bN, bD, aL, lowC, Int.reduceNeg, ↓aj, ↓aa, ty3, ty51])
def n78 : cC where
  keep := fun i => match i with
    | 0 => [0, 3]
    | 1 => [4]
    | _ => []
  ro := fun _ => false
  mv := fun _ => false
  give := fun _ => false
  free := fun _ => []
theorem n78k0 : n78.keep 0 = [0, 3] := rfl
theorem n78k1 : n78.keep 1 = [4] := rfl
theorem n78ro (t : Nat) : n78.ro t = (false) := rfl
theorem n78gv (t : Nat) : n78.give t = (false) := rfl
theorem res78 : Try.f78.results.toList = [.tmp 4] := rfl
noncomputable def b78 : Code := aQ Try.f78
theorem r_value_rank (C : ak) (k_slices_IndexFunc_Score_Score_value_rank_fn1 : K_slices_IndexFunc_Score_Score_value_rank_fn1 C) (p0 : List GScore) (p1 : ByteArray) (r : Int) (hF : value_rank p0 p1 = some r) : cF TT C.wide (evW TT C.wide n78 b78) n78 Try.f78.results.toList (aQ Try.f78) [.v (.sl 2 (ab GScore.row p0)), .v (.s p1)] [] = some (.v (.i .i64 r), []) := by
  unfold value_rank at hF
  revert hF
  cases h1 : slices_IndexFunc_Score_Score_value_rank_fn1 p0 p1
  focus
    intro hF
    cases hF
  rename_i qh1
  obtain ⟨x1, x2⟩ := qh1
  intro hF
  try dsimp only at hF
  have g1 : C.wide 110 [.v (.sl 2 (ab GScore.row p0)), .clo 114 [.ptr 0 0]] [[.v (.s p1)]] = some (.v (.i .i64 x1), [[.v (.s x2)]]) := cB [0] rfl rfl rfl rfl (k_slices_IndexFunc_Score_Score_value_rank_fn1 p0 p1 _ h1) rfl rfl
  have hR := Option.some.inj hF
  clear hF
  subst hR
  all_goals (rw [ba]; show cp _ _ _ (aH _ _ _ _ (Code.seq _ _) _) = _; simp (maxSteps := 4000000) only [*, res78, n78k0, n78k1, n78ro, n78gv, ↓RP, RB, enter, aZ, be, aM, Mx.bw, opnd, Mx.bF, Nat.reduceBEq, bK, Mx.fit, bY, toVs, cellsOf, toV, aO, aB, Mx.put, ofConst, ofCell, Mx.prune, killB, killBs, aK, putDst, au, ao, List.map, az, bn, bq, co, bN, bD, aL, bx, lowC, forceAll, kill, lend, lendA, aS, ay, bL, bare, bQ, frz, bZ, bo, argE, argsE, newB, ch, ↓aj, ↓aa, ty3, ty9])
end Go.Proofs.Ytnjkmbogbfjffaa
