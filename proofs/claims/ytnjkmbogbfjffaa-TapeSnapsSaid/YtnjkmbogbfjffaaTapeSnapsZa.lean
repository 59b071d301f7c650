/- The code of these functions, run by the machine Mx, gives what the plain functions say, if their callees do (part 1). -/
import Derived.Test.YtnjkmbogbfjffaaWTy
import Derived.Test.YtnjkmbogbfjffaaTapeSnapsD
set_option linter.unusedSimpArgs false
set_option linter.unusedVariables false
set_option linter.constructorNameAsVariable false
set_option linter.unnecessarySimpa false
set_option maxRecDepth 100000
set_option maxHeartbeats 40000000
namespace Go.Proofs.Ytnjkmbogbfjffaa
open Go Go.Mx Go.Proofs
def n29K : List (Nat × List Nat) := [(0, [1, 2]), (1, [1, 2, 3]), (2, [1, 2, 3, 4]), (3, [1, 2, 3, 4, 18]), (4, [1, 2, 3, 4]), (5, [1, 2, 3, 4]), (6, [1, 2, 3, 5]), (7, [1, 2, 3, 5, 35]), (8, [1, 2, 3, 5]), (9, [1, 2, 3, 5]), (10, [1, 2, 3, 6]), (11, [1, 2, 3, 6, 52]), (12, [1, 2, 3, 6]), (13, [1, 2, 3, 6]), (14, [2])]
def n29A : List (Nat × List Nat × List Nat) := [(18, [1, 2, 3, 4], [1, 2, 3]), (35, [1, 2, 3, 5], [1, 2, 3]), (52, [1, 2, 3, 6], [2, 3])]
def n29 : cC where
  keep := keepOf n29K
  ro := fun t => t == 1
  mv := fun t => t == 65
  give := fun _ => false
  free := fun i => match i with | 5 => [(0, 2), (1, 2), (0, 3), (1, 3), (0, 4), (1, 4), (2, 4), (3, 4), (0, 5), (1, 5), (0, 6), (1, 6), (0, 7), (1, 7)] | 9 => [(0, 2), (1, 2), (0, 3), (1, 3), (0, 4), (1, 4), (2, 4), (3, 4), (0, 5), (1, 5), (0, 6), (1, 6), (0, 7), (1, 7)] | 13 => [(0, 2), (1, 2), (0, 3), (1, 3), (0, 4), (1, 4), (2, 4), (3, 4), (0, 5), (1, 5), (0, 6), (1, 6), (0, 7), (1, 7)] | _ => []
  alive := aliveOf n29A
theorem n29a (t : Nat) (x : Bool) (e : Env) (S : aA) : aw n29 t x ⟨e, S⟩ = atO (aliveOf n29A t x) e S := atCond_of rfl t x e S
theorem n29k (i : Nat) : n29.keep i = keepOf n29K i := rfl
theorem n29ro (t : Nat) : n29.ro t = (t == 1) := rfl
theorem n29mv (t : Nat) : n29.mv t = (t == 65) := rfl
theorem n29f5 : n29.free 5 = [(0, 2), (1, 2), (0, 3), (1, 3), (0, 4), (1, 4), (2, 4), (3, 4), (0, 5), (1, 5), (0, 6), (1, 6), (0, 7), (1, 7)] := rfl
theorem n29f9 : n29.free 9 = [(0, 2), (1, 2), (0, 3), (1, 3), (0, 4), (1, 4), (2, 4), (3, 4), (0, 5), (1, 5), (0, 6), (1, 6), (0, 7), (1, 7)] := rfl
theorem n29f13 : n29.free 13 = [(0, 2), (1, 2), (0, 3), (1, 3), (0, 4), (1, 4), (2, 4), (3, 4), (0, 5), (1, 5), (0, 6), (1, 6), (0, 7), (1, 7)] := rfl
theorem res29 : Try.f29.results.toList = [.cell 2 53] := rfl
noncomputable def b29 : Code := aQ Try.f29
noncomputable def c29_0 : Code := (bz 0 (aQ Try.f29)).getD .skip
theorem fl29_0 : bz 0 b29 = some c29_0 := rfl
noncomputable def c29_2 : Code := (bz 2 (aQ Try.f29)).getD .skip
theorem fl29_2 : bz 2 b29 = some c29_2 := rfl
noncomputable def c29_4 : Code := (bz 4 (aQ Try.f29)).getD .skip
theorem fl29_4 : bz 4 b29 = some c29_4 := rfl
def hd_rostrumref_ValueCopy_0 (p0 : GValue) (s : Int × GValue) : St := ⟨[(1, .rp [.i .i64 p0.fKind, .s p0.fText, .i .i64 p0.fCount, .sl 2 (ab GPair.row p0.fPairs), .sl 1 (ab aY p0.fItems), .sl 2 (ab GScore.row p0.fScores)]), (2, .ptr 0 0), (3, .ptr 1 0), (4, .v (.i .i64 s.1))], [[.v (.i .i64 0), .v (.s ByteArray.empty), .v (.i .i64 0), .own 2 [], .own 1 [], .own 2 []], [.v (.i .i64 s.2.fKind), .v (.s s.2.fText), .v (.i .i64 s.2.fCount), .own 2 (ab GPair.row s.2.fPairs), .own 1 (ab aY s.2.fItems), .own 2 (ab GScore.row s.2.fScores)]]⟩
def ou_rostrumref_ValueCopy_0 (p0 : GValue) (r : GValue) : Option (Ex × St) := some (.normal, ⟨[(1, .rp [.i .i64 p0.fKind, .s p0.fText, .i .i64 p0.fCount, .sl 2 (ab GPair.row p0.fPairs), .sl 1 (ab aY p0.fItems), .sl 2 (ab GScore.row p0.fScores)]), (2, .ptr 0 0), (3, .ptr 1 0)], [[.v (.i .i64 0), .v (.s ByteArray.empty), .v (.i .i64 0), .own 2 [], .own 1 [], .own 2 []], [.v (.i .i64 r.fKind), .v (.s r.fText), .v (.i .i64 r.fCount), .own 2 (ab GPair.row r.fPairs), .own 1 (ab aY r.fItems), .own 2 (ab GScore.row r.fScores)]]⟩)
theorem sl_rostrumref_ValueCopy_0 (C : ak)  (p0 : GValue) (s : Int × GValue) (o : (Int × GValue) ⊕ GValue) (hF : st_rostrumref_ValueCopy_0 p0 s = some o) : evW TT C.wide n29 b29 0 (hd_rostrumref_ValueCopy_0 p0 s) = Sum.elim (fun s => evW TT C.wide n29 b29 0 (hd_rostrumref_ValueCopy_0 p0 s)) (fun r => ou_rostrumref_ValueCopy_0 p0 r) o := by
  obtain ⟨p1, p2⟩ := s
  rw [ct TT n29 fl29_0]
  revert hF
  unfold st_rostrumref_ValueCopy_0
  try dsimp only
  refine boolY (fun h1 => ?_) (fun h1 => ?_)
  focus
    rintro ⟨⟩
  rotate_left 1
  refine matchX fun x1 h2 => ?_
  have g1 : decide (0 ≤ p1) = true := (cc h2).1
  have g2 : (ab GPair.row p0.fPairs)[(p1 : Int).toNat]? = some [.s x1.fField, .s x1.fText] := ca _ h2
  refine boolX (fun h3 => ?_) (fun _ => nofun)
  rintro ⟨⟩
  all_goals (show cD _ _ _ (aH _ _ _ _ (Code.seq _ _) _) = _; simp (maxSteps := 4000000) only [*, hd_rostrumref_ValueCopy_0, ou_rostrumref_ValueCopy_0, n29a, n29A, n29k, n29K, n29f5, n29mv, ↓RP, RB, ↓ac, aZ, be, aM, Mx.bw, opnd, Mx.bF, Nat.reduceBEq, bK, Mx.fit, bY, toVs, cellsOf, toV, aO, aB, ax, Mx.put, ofConst, ofCell, Mx.prune, killB, killBs, aK, putDst, au, aD, loadAt, bM, List.map, Nat.reduceAdd, Nat.reduceMul, cm, cn, cg, aN, bD, aL, bx, lowC, bg, kill, spendLoc, spendOk, bB, setCells, takeParts, bp, aR, Nat.reduceSub, Nat.reduceLeDiff, bJ, fineK, av, aJ, aX, bX, bE, ce, bV, bk, aI, bh, bj, bf, Op.operands, keepOf, aliveOf, atO, ck, cj, bne, ↓aj, ↓ai, ↓aa, ↓am, bm, aE, bH, ty3, ty49, ty53, ty101, GPair.one])
def hd_rostrumref_ValueCopy_2 (p0 : GValue) (s : Int × GValue) : St := ⟨[(1, .rp [.i .i64 p0.fKind, .s p0.fText, .i .i64 p0.fCount, .sl 2 (ab GPair.row p0.fPairs), .sl 1 (ab aY p0.fItems), .sl 2 (ab GScore.row p0.fScores)]), (2, .ptr 0 0), (3, .ptr 1 0), (5, .v (.i .i64 s.1))], [[.v (.i .i64 0), .v (.s ByteArray.empty), .v (.i .i64 0), .own 2 [], .own 1 [], .own 2 []], [.v (.i .i64 s.2.fKind), .v (.s s.2.fText), .v (.i .i64 s.2.fCount), .own 2 (ab GPair.row s.2.fPairs), .own 1 (ab aY s.2.fItems), .own 2 (ab GScore.row s.2.fScores)]]⟩
def ou_rostrumref_ValueCopy_2 (p0 : GValue) (r : GValue) : Option (Ex × St) := some (.normal, ⟨[(1, .rp [.i .i64 p0.fKind, .s p0.fText, .i .i64 p0.fCount, .sl 2 (ab GPair.row p0.fPairs), .sl 1 (ab aY p0.fItems), .sl 2 (ab GScore.row p0.fScores)]), (2, .ptr 0 0), (3, .ptr 1 0)], [[.v (.i .i64 0), .v (.s ByteArray.empty), .v (.i .i64 0), .own 2 [], .own 1 [], .own 2 []], [.v (.i .i64 r.fKind), .v (.s r.fText), .v (.i .i64 r.fCount), .own 2 (ab GPair.row r.fPairs), .own 1 (ab aY r.fItems), .own 2 (ab GScore.row r.fScores)]]⟩)
theorem sl_rostrumref_ValueCopy_2 (C : ak)  (p0 : GValue) (s : Int × GValue) (o : (Int × GValue) ⊕ GValue) (hF : st_rostrumref_ValueCopy_2 p0 s = some o) : evW TT C.wide n29 b29 2 (hd_rostrumref_ValueCopy_2 p0 s) = Sum.elim (fun s => evW TT C.wide n29 b29 2 (hd_rostrumref_ValueCopy_2 p0 s)) (fun r => ou_rostrumref_ValueCopy_2 p0 r) o := by
  obtain ⟨p1, p2⟩ := s
  rw [ct TT n29 fl29_2]
  revert hF
  unfold st_rostrumref_ValueCopy_2
  try dsimp only
  refine boolY (fun h1 => ?_) (fun h1 => ?_)
  focus
    rintro ⟨⟩
  rotate_left 1
  refine matchX fun x1 h2 => ?_
  have g1 : decide (0 ≤ p1) = true := (cc h2).1
  have g2 : (ab aY p0.fItems)[(p1 : Int).toNat]? = some [.s x1] := ca _ h2
  refine boolX (fun h3 => ?_) (fun _ => nofun)
  rintro ⟨⟩
  all_goals (show cD _ _ _ (aH _ _ _ _ (Code.seq _ _) _) = _; simp (maxSteps := 4000000) only [*, hd_rostrumref_ValueCopy_2, ou_rostrumref_ValueCopy_2, n29a, n29A, n29k, n29K, n29f9, n29mv, ↓RP, RB, ↓ac, aZ, be, aM, Mx.bw, opnd, Mx.bF, Nat.reduceBEq, bK, Mx.fit, bY, toVs, cellsOf, toV, aO, aB, ax, Mx.put, ofConst, ofCell, Mx.prune, killB, aK, putDst, au, aD, loadAt, bM, List.map, Nat.reduceAdd, Nat.reduceMul, cm, cn, cg, aN, bD, aL, bx, lowC, bg, kill, spendLoc, spendOk, bB, setCells, takeParts, bp, aR, Nat.reduceSub, Nat.reduceLeDiff, bJ, fineK, av, aJ, aX, bX, bE, ce, bV, bk, aI, bh, bj, bf, Op.operands, keepOf, aliveOf, atO, ck, cj, bne, ↓aj, ↓ai, ↓aa, ↓am, bm, aE, bH, ty3, ty9, ty50, ty53])
def hd_rostrumref_ValueCopy_4 (p0 : GValue) (s : Int × GValue) : St := ⟨[(1, .rp [.i .i64 p0.fKind, .s p0.fText, .i .i64 p0.fCount, .sl 2 (ab GPair.row p0.fPairs), .sl 1 (ab aY p0.fItems), .sl 2 (ab GScore.row p0.fScores)]), (2, .ptr 0 0), (3, .ptr 1 0), (6, .v (.i .i64 s.1))], [[.v (.i .i64 0), .v (.s ByteArray.empty), .v (.i .i64 0), .own 2 [], .own 1 [], .own 2 []], [.v (.i .i64 s.2.fKind), .v (.s s.2.fText), .v (.i .i64 s.2.fCount), .own 2 (ab GPair.row s.2.fPairs), .own 1 (ab aY s.2.fItems), .own 2 (ab GScore.row s.2.fScores)]]⟩
def ou_rostrumref_ValueCopy_4 (p0 : GValue) (r : GValue) : Option (Ex × St) := some (.normal, ⟨[(2, .ptr 0 0), (3, .ptr 1 0)], [[.v (.i .i64 0), .v (.s ByteArray.empty), .v (.i .i64 0), .own 2 [], .own 1 [], .own 2 []], [.v (.i .i64 r.fKind), .v (.s r.fText), .v (.i .i64 r.fCount), .own 2 (ab GPair.row r.fPairs), .own 1 (ab aY r.fItems), .own 2 (ab GScore.row r.fScores)]]⟩)
theorem sl_rostrumref_ValueCopy_4 (C : ak)  (p0 : GValue) (s : Int × GValue) (o : (Int × GValue) ⊕ GValue) (hF : st_rostrumref_ValueCopy_4 p0 s = some o) : evW TT C.wide n29 b29 4 (hd_rostrumref_ValueCopy_4 p0 s) = Sum.elim (fun s => evW TT C.wide n29 b29 4 (hd_rostrumref_ValueCopy_4 p0 s)) (fun r => ou_rostrumref_ValueCopy_4 p0 r) o := by
  obtain ⟨p1, p2⟩ := s
  rw [ct TT n29 fl29_4]
  revert hF
  unfold st_rostrumref_ValueCopy_4
  try dsimp only
  refine boolY (fun h1 => ?_) (fun h1 => ?_)
  focus
    rintro ⟨⟩
  rotate_left 1
  refine matchX fun x1 h2 => ?_
  have g1 : decide (0 ≤ p1) = true := (cc h2).1
  have g2 : (ab GScore.row p0.fScores)[(p1 : Int).toNat]? = some [.s x1.fMember, .i .i64 x1.fN] := ca _ h2
  refine boolX (fun h3 => ?_) (fun _ => nofun)
  rintro ⟨⟩
  all_goals (show cD _ _ _ (aH _ _ _ _ (Code.seq _ _) _) = _; simp (maxSteps := 4000000) only [*, hd_rostrumref_ValueCopy_4, ou_rostrumref_ValueCopy_4, n29a, n29A, n29k, n29K, n29f13, n29mv, ↓RP, RB, ↓ac, aZ, be, aM, Mx.bw, opnd, Mx.bF, Nat.reduceBEq, bK, Mx.fit, bY, toVs, cellsOf, toV, aO, aB, ax, Mx.put, ofConst, ofCell, Mx.prune, killB, killBs, aK, putDst, au, aD, loadAt, bM, List.map, Nat.reduceAdd, Nat.reduceMul, cm, cn, cg, aN, bD, aL, bx, lowC, bg, kill, spendLoc, spendOk, bB, setCells, takeParts, bp, aR, Nat.reduceSub, Nat.reduceLeDiff, bJ, fineK, av, aJ, aX, bX, bE, ce, bV, bk, aI, bh, bj, bf, Op.operands, keepOf, aliveOf, atO, ck, cj, bne, ↓aj, ↓ai, ↓aa, ↓am, bm, aE, bH, ty3, ty51, ty53, ty105, GScore.one])
theorem r_rostrumref_ValueCopy (C : ak)  (p0 : GValue) (r : GValue) (hF : rostrumref_ValueCopy p0 = some r) : cF TT C.wide (evW TT C.wide n29 b29) n29 Try.f29.results.toList (aQ Try.f29) [.agg [.v (.i .i64 p0.fKind), .v (.s p0.fText), .v (.i .i64 p0.fCount), .v (.sl 2 (ab GPair.row p0.fPairs)), .v (.sl 1 (ab aY p0.fItems)), .v (.sl 2 (ab GScore.row p0.fScores))]] [] = some (.agg [.v (.i .i64 r.fKind), .v (.s r.fText), .v (.i .i64 r.fCount), .own 2 (ab GPair.row r.fPairs), .own 1 (ab aY r.fItems), .own 2 (ab GScore.row r.fScores)], []) := by
  revert hF
  unfold rostrumref_ValueCopy
  refine matchX ?_
  rintro x1 h1
  unfold rostrumref_ValueCopy_c0
  have g1 := cy _ _ (sl_rostrumref_ValueCopy_0 C p0) h1
  try simp only [mapR_nil, hd_rostrumref_ValueCopy_0, ou_rostrumref_ValueCopy_0] at g1
  refine matchX ?_
  rintro x2 h2
  have g2 := cy _ _ (sl_rostrumref_ValueCopy_2 C p0) h2
  try simp only [hd_rostrumref_ValueCopy_2, ou_rostrumref_ValueCopy_2] at g2
  refine matchX ?_
  rintro x3 h3
  have g3 := cy _ _ (sl_rostrumref_ValueCopy_4 C p0) h3
  try simp only [hd_rostrumref_ValueCopy_4, ou_rostrumref_ValueCopy_4] at g3
  rintro ⟨⟩
  all_goals (rw [ba]; show cp _ _ _ (aH _ _ _ _ (Code.seq _ _) _) = _; simp (maxSteps := 4000000) only [*, res29, n29k, n29K, n29ro, n29mv, ↓RP, RB, enter, aZ, be, aM, Mx.bw, opnd, Mx.bF, Nat.reduceBEq, bK, Mx.fit, bI, bY, toVs, cellsOf, toV, aO, aB, ax, Mx.put, ofConst, ofCell, Mx.prune, killB, killBs, aK, putDst, au, aD, loadAt, bM, List.map, Nat.reduceAdd, az, bn, bq, co, bN, bD, aL, bx, lowC, kill, bB, bT, fill, setCells, takeParts, Nat.reduceLeDiff, keepOf, bne, ↓aj, ↓aa, ty3, ty9, ty49, ty50, ty51, ty53])
def n35K : List (Nat × List Nat) := [(0, [1, 2]), (1, [1, 2, 3]), (2, [1, 2, 3, 4]), (3, [1, 2, 3, 4, 13]), (4, [1, 2, 3, 4]), (5, [1, 2, 3, 4, 5]), (6, [1, 2, 3, 4]), (7, [2])]
def n35A : List (Nat × List Nat × List Nat) := [(13, [1, 2, 3, 4], [2, 3])]
def n35 : cC where
  keep := keepOf n35K
  ro := fun t => t == 1
  mv := fun t => t == 34
  give := fun _ => false
  free := fun i => match i with | 6 => [(0, 2), (1, 2), (0, 3), (1, 3), (0, 4), (1, 4), (2, 4), (3, 4), (0, 5), (1, 5), (2, 5), (3, 5), (0, 6), (1, 6), (2, 6), (3, 6), (0, 7), (1, 7), (2, 7), (3, 7), (4, 7), (5, 7), (6, 7), (0, 8), (1, 8), (2, 8), (3, 8), (4, 8), (5, 8), (6, 8), (0, 9), (1, 9), (0, 10), (1, 10)] | _ => []
  alive := aliveOf n35A
theorem n35a (t : Nat) (x : Bool) (e : Env) (S : aA) : aw n35 t x ⟨e, S⟩ = atO (aliveOf n35A t x) e S := atCond_of rfl t x e S
theorem n35k (i : Nat) : n35.keep i = keepOf n35K i := rfl
theorem n35ro (t : Nat) : n35.ro t = (t == 1) := rfl
theorem n35mv (t : Nat) : n35.mv t = (t == 34) := rfl
theorem n35f6 : n35.free 6 = [(0, 2), (1, 2), (0, 3), (1, 3), (0, 4), (1, 4), (2, 4), (3, 4), (0, 5), (1, 5), (2, 5), (3, 5), (0, 6), (1, 6), (2, 6), (3, 6), (0, 7), (1, 7), (2, 7), (3, 7), (4, 7), (5, 7), (6, 7), (0, 8), (1, 8), (2, 8), (3, 8), (4, 8), (5, 8), (6, 8), (0, 9), (1, 9), (0, 10), (1, 10)] := rfl
theorem res35 : Try.f35.results.toList = [.cell 2 63] := rfl
noncomputable def b35 : Code := aQ Try.f35
noncomputable def c35_0 : Code := (bz 0 (aQ Try.f35)).getD .skip
theorem fl35_0 : bz 0 b35 = some c35_0 := rfl
def hd_rostrumref_StoreCopy_0 (p0 : GStore) (s : Int × GStore) : St := ⟨[(1, .rp [.i .i64 p0.fNow, .sl 8 (ab GEntry.row p0.fEntries)]), (2, .ptr 0 0), (3, .ptr 1 0), (4, .v (.i .i64 s.1))], [[.v (.i .i64 0), .own 8 []], [.v (.i .i64 s.2.fNow), .own 8 (ab GEntry.row s.2.fEntries)]]⟩
def ou_rostrumref_StoreCopy_0 (p0 : GStore) (r : GStore) : Option (Ex × St) := some (.normal, ⟨[(2, .ptr 0 0), (3, .ptr 1 0)], [[.v (.i .i64 0), .own 8 []], [.v (.i .i64 r.fNow), .own 8 (ab GEntry.row r.fEntries)]]⟩)
theorem sl_rostrumref_StoreCopy_0 (C : ak) (k_rostrumref_ValueCopy : K_rostrumref_ValueCopy C) (p0 : GStore) (s : Int × GStore) (o : (Int × GStore) ⊕ GStore) (hF : st_rostrumref_StoreCopy_0 p0 s = some o) : evW TT C.wide n35 b35 0 (hd_rostrumref_StoreCopy_0 p0 s) = Sum.elim (fun s => evW TT C.wide n35 b35 0 (hd_rostrumref_StoreCopy_0 p0 s)) (fun r => ou_rostrumref_StoreCopy_0 p0 r) o := by
  obtain ⟨p1, p2⟩ := s
  rw [ct TT n35 fl35_0]
  revert hF
  unfold st_rostrumref_StoreCopy_0
  try dsimp only
  refine boolY (fun h1 => ?_) (fun h1 => ?_)
  focus
    rintro ⟨⟩
  rotate_left 1
  refine matchX fun x1 h2 => ?_
  have g1 : decide (0 ≤ p1) = true := (cc h2).1
  have g2 : (ab GEntry.row p0.fEntries)[(p1 : Int).toNat]? = some [.s x1.fKey, .i .i64 x1.fValue.fKind, .s x1.fValue.fText, .i .i64 x1.fValue.fCount, .sl 2 (ab GPair.row x1.fValue.fPairs), .sl 1 (ab aY x1.fValue.fItems), .sl 2 (ab GScore.row x1.fValue.fScores), .i .i64 x1.fUntil] := ca _ h2
  refine matchX fun x2 h3 => ?_
  have g3 := wide0 (k_rostrumref_ValueCopy x1.fValue _ h3)
  try simp only [mapR_nil] at g3
  refine boolX (fun h4 => ?_) (fun _ => nofun)
  rintro ⟨⟩
  all_goals (show cD _ _ _ (aH _ _ _ _ (Code.seq _ _) _) = _; simp (maxSteps := 4000000) only [*, hd_rostrumref_StoreCopy_0, ou_rostrumref_StoreCopy_0, n35a, n35A, n35k, n35K, n35f6, n35mv, ↓RP, RB, ↓ah, aZ, be, aM, Mx.bw, opnd, Mx.bF, Nat.reduceBEq, bK, Mx.fit, bI, bY, toVs, cellsOf, toV, aO, aB, ax, Mx.put, ofConst, ofCell, Mx.prune, killB, killBs, aK, putDst, au, aD, loadAt, bM, List.map, Nat.reduceAdd, Nat.reduceMul, cm, cn, cg, aN, bD, aL, bx, lowC, forceAll, bg, kill, spendLoc, spendOk, bG, lend, lendA, aS, ay, bL, bare, bQ, bB, fill, setCells, takeParts, bp, aR, Nat.reduceSub, Nat.reduceLT, Nat.reduceLeDiff, lowA, bi, bJ, fineK, av, aJ, aX, bX, bE, ce, bV, bk, aI, bh, bj, bf, Op.operands, keepOf, aliveOf, atO, newB, ch, ck, cj, bne, ↓aj, ↓ai, ↓aa, ↓am, aP, bm, aE, bH, Call.operands, ty3, ty9, ty53, ty61, ty63, ty117, GEntry.one, GPair.flat, GScore.flat])
theorem r_rostrumref_StoreCopy (C : ak) (k_rostrumref_ValueCopy : K_rostrumref_ValueCopy C) (p0 : GStore) (r : GStore) (hF : rostrumref_StoreCopy p0 = some r) : cF TT C.wide (evW TT C.wide n35 b35) n35 Try.f35.results.toList (aQ Try.f35) [.agg [.v (.i .i64 p0.fNow), .v (.sl 8 (ab GEntry.row p0.fEntries))]] [] = some (.agg [.v (.i .i64 r.fNow), .own 8 (ab GEntry.row r.fEntries)], []) := by
  revert hF
  unfold rostrumref_StoreCopy
  refine matchX ?_
  rintro x1 h1
  have g1 := cy _ _ (sl_rostrumref_StoreCopy_0 C k_rostrumref_ValueCopy p0) h1
  try simp only [mapR_nil, hd_rostrumref_StoreCopy_0, ou_rostrumref_StoreCopy_0] at g1
  rintro ⟨⟩
  all_goals (rw [ba]; show cp _ _ _ (aH _ _ _ _ (Code.seq _ _) _) = _; simp (maxSteps := 4000000) only [*, res35, n35k, n35K, n35ro, n35mv, ↓RP, RB, enter, aZ, be, aM, Mx.bw, opnd, Mx.bF, Nat.reduceBEq, bK, Mx.fit, bI, bY, toVs, cellsOf, toV, aO, aB, ax, Mx.put, ofConst, ofCell, Mx.prune, killB, killBs, aK, putDst, au, aD, loadAt, bM, List.map, Nat.reduceAdd, az, bn, bq, co, bN, bD, aL, bx, lowC, kill, bB, bT, fill, setCells, takeParts, Nat.reduceLeDiff, keepOf, bne, ↓aj, ↓aa, ty3, ty61, ty63])
def n90K : List (Nat × List Nat) := [(0, [1, 2]), (1, [1, 2, 3]), (2, [1, 2, 3, 4]), (3, [1, 2, 3, 4, 16]), (4, [1, 2, 3, 4]), (5, [1, 2, 3, 4]), (6, [2])]
def n90A : List (Nat × List Nat × List Nat) := [(16, [1, 2, 3, 4], [2, 3])]
def n90 : cC where
  keep := keepOf n90K
  ro := fun t => t == 1
  mv := fun t => t == 29
  give := fun _ => false
  free := fun i => match i with | 5 => [(0, 2), (1, 2), (0, 3), (1, 3), (0, 4), (1, 4), (2, 4), (3, 4), (0, 5), (1, 5), (0, 6), (1, 6), (0, 7), (1, 7)] | _ => []
  alive := aliveOf n90A
theorem n90a (t : Nat) (x : Bool) (e : Env) (S : aA) : aw n90 t x ⟨e, S⟩ = atO (aliveOf n90A t x) e S := atCond_of rfl t x e S
theorem n90k (i : Nat) : n90.keep i = keepOf n90K i := rfl
theorem n90ro (t : Nat) : n90.ro t = (t == 1) := rfl
theorem n90mv (t : Nat) : n90.mv t = (t == 29) := rfl
theorem n90f5 : n90.free 5 = [(0, 2), (1, 2), (0, 3), (1, 3), (0, 4), (1, 4), (2, 4), (3, 4), (0, 5), (1, 5), (0, 6), (1, 6), (0, 7), (1, 7)] := rfl
theorem res90 : Try.f90.results.toList = [.cell 2 128] := rfl
noncomputable def b90 : Code := aQ Try.f90
noncomputable def c90_0 : Code := (bz 0 (aQ Try.f90)).getD .skip
theorem fl90_0 : bz 0 b90 = some c90_0 := rfl
def hd_rostrumref_replyCopy_0 (p0 : GReply) (s : Int × GReply) : St := ⟨[(1, .rp [.i .i64 p0.fCode, .s p0.fText, .i .i64 p0.fN, .sl 1 (ab aY p0.fList)]), (2, .ptr 0 0), (3, .ptr 1 0), (4, .v (.i .i64 s.1))], [[.v (.i .i64 0), .v (.s ByteArray.empty), .v (.i .i64 0), .own 1 []], [.v (.i .i64 s.2.fCode), .v (.s s.2.fText), .v (.i .i64 s.2.fN), .own 1 (ab aY s.2.fList)]]⟩
def ou_rostrumref_replyCopy_0 (p0 : GReply) (r : GReply) : Option (Ex × St) := some (.normal, ⟨[(2, .ptr 0 0), (3, .ptr 1 0)], [[.v (.i .i64 0), .v (.s ByteArray.empty), .v (.i .i64 0), .own 1 []], [.v (.i .i64 r.fCode), .v (.s r.fText), .v (.i .i64 r.fN), .own 1 (ab aY r.fList)]]⟩)
theorem sl_rostrumref_replyCopy_0 (C : ak)  (p0 : GReply) (s : Int × GReply) (o : (Int × GReply) ⊕ GReply) (hF : st_rostrumref_replyCopy_0 p0 s = some o) : evW TT C.wide n90 b90 0 (hd_rostrumref_replyCopy_0 p0 s) = Sum.elim (fun s => evW TT C.wide n90 b90 0 (hd_rostrumref_replyCopy_0 p0 s)) (fun r => ou_rostrumref_replyCopy_0 p0 r) o := by
  obtain ⟨p1, p2⟩ := s
  rw [ct TT n90 fl90_0]
  revert hF
  unfold st_rostrumref_replyCopy_0
  try dsimp only
  refine boolY (fun h1 => ?_) (fun h1 => ?_)
  focus
    rintro ⟨⟩
  rotate_left 1
  refine matchX fun x1 h2 => ?_
  have g1 : decide (0 ≤ p1) = true := (cc h2).1
  have g2 : (ab aY p0.fList)[(p1 : Int).toNat]? = some [.s x1] := ca _ h2
  refine boolX (fun h3 => ?_) (fun _ => nofun)
  rintro ⟨⟩
  all_goals (show cD _ _ _ (aH _ _ _ _ (Code.seq _ _) _) = _; simp (maxSteps := 4000000) only [*, hd_rostrumref_replyCopy_0, ou_rostrumref_replyCopy_0, n90a, n90A, n90k, n90K, n90f5, n90mv, ↓RP, RB, ↓ac, aZ, be, aM, Mx.bw, opnd, Mx.bF, Nat.reduceBEq, bK, Mx.fit, bY, toVs, cellsOf, toV, aO, aB, ax, Mx.put, ofConst, ofCell, Mx.prune, killB, aK, putDst, au, aD, loadAt, bM, List.map, Nat.reduceAdd, Nat.reduceMul, cm, cn, cg, aN, bD, aL, bx, lowC, bg, kill, spendLoc, spendOk, bB, setCells, takeParts, bp, aR, Nat.reduceSub, Nat.reduceLeDiff, bJ, fineK, av, aJ, aX, bX, bE, ce, bV, bk, aI, bh, bj, bf, Op.operands, keepOf, aliveOf, atO, ck, cj, bne, ↓aj, ↓ai, ↓aa, ↓am, bm, aE, bH, ty3, ty9, ty50, ty128])
theorem r_rostrumref_replyCopy (C : ak)  (p0 : GReply) (r : GReply) (hF : rostrumref_replyCopy p0 = some r) : cF TT C.wide (evW TT C.wide n90 b90) n90 Try.f90.results.toList (aQ Try.f90) [.agg [.v (.i .i64 p0.fCode), .v (.s p0.fText), .v (.i .i64 p0.fN), .v (.sl 1 (ab aY p0.fList))]] [] = some (.agg [.v (.i .i64 r.fCode), .v (.s r.fText), .v (.i .i64 r.fN), .own 1 (ab aY r.fList)], []) := by
  revert hF
  unfold rostrumref_replyCopy
  refine matchX ?_
  rintro x1 h1
  have g1 := cy _ _ (sl_rostrumref_replyCopy_0 C p0) h1
  try simp only [mapR_nil, hd_rostrumref_replyCopy_0, ou_rostrumref_replyCopy_0] at g1
  rintro ⟨⟩
  all_goals (rw [ba]; show cp _ _ _ (aH _ _ _ _ (Code.seq _ _) _) = _; simp (maxSteps := 4000000) only [*, res90, n90k, n90K, n90ro, n90mv, ↓RP, RB, enter, aZ, be, aM, Mx.bw, opnd, Mx.bF, Nat.reduceBEq, bK, Mx.fit, bI, bY, toVs, cellsOf, toV, aO, aB, ax, Mx.put, ofConst, ofCell, Mx.prune, killB, killBs, aK, putDst, au, aD, loadAt, bM, List.map, Nat.reduceAdd, az, bn, bq, co, bN, bD, aL, bx, lowC, kill, bB, bT, fill, setCells, takeParts, Nat.reduceLeDiff, keepOf, bne, ↓aj, ↓aa, ty3, ty9, ty25, ty50, ty128])
def n41K : List (Nat × List Nat) := [(0, [1, 2]), (1, [1, 2, 3]), (2, [1, 2, 3, 4]), (3, [1, 2, 3, 4, 16]), (4, [1, 2, 3, 4]), (5, [1, 2, 3, 4, 5]), (6, [1, 2, 3, 4]), (7, [2])]
def n41A : List (Nat × List Nat × List Nat) := [(16, [1, 2, 3, 4], [2, 3])]
def n41 : cC where
  keep := keepOf n41K
  ro := fun t => t == 1
  mv := fun t => t == 39
  give := fun _ => false
  free := fun i => match i with | 1 => [(0, 3), (1, 3), (2, 3), (0, 4), (1, 4), (2, 4), (0, 6), (1, 6), (2, 6), (3, 6), (4, 6), (5, 6)] | 6 => [(0, 2), (1, 2), (0, 3), (1, 3), (0, 4), (1, 4), (2, 4), (3, 4), (0, 5), (1, 5), (2, 5), (3, 5), (0, 6), (1, 6), (2, 6), (3, 6), (4, 6), (5, 6), (0, 7), (1, 7), (2, 7), (3, 7), (4, 7), (5, 7), (0, 8), (1, 8), (2, 8), (3, 8), (4, 8), (5, 8), (6, 8), (7, 8), (0, 9), (1, 9), (2, 9), (3, 9), (4, 9), (5, 9), (6, 9), (7, 9), (0, 10), (1, 10), (2, 10), (3, 10), (4, 10), (5, 10), (6, 10), (7, 10), (0, 11), (1, 11), (0, 12), (1, 12)] | _ => []
  alive := aliveOf n41A
theorem n41a (t : Nat) (x : Bool) (e : Env) (S : aA) : aw n41 t x ⟨e, S⟩ = atO (aliveOf n41A t x) e S := atCond_of rfl t x e S
theorem n41k (i : Nat) : n41.keep i = keepOf n41K i := rfl
theorem n41ro (t : Nat) : n41.ro t = (t == 1) := rfl
theorem n41mv (t : Nat) : n41.mv t = (t == 39) := rfl
theorem n41f1 : n41.free 1 = [(0, 3), (1, 3), (2, 3), (0, 4), (1, 4), (2, 4), (0, 6), (1, 6), (2, 6), (3, 6), (4, 6), (5, 6)] := rfl
theorem n41f6 : n41.free 6 = [(0, 2), (1, 2), (0, 3), (1, 3), (0, 4), (1, 4), (2, 4), (3, 4), (0, 5), (1, 5), (2, 5), (3, 5), (0, 6), (1, 6), (2, 6), (3, 6), (4, 6), (5, 6), (0, 7), (1, 7), (2, 7), (3, 7), (4, 7), (5, 7), (0, 8), (1, 8), (2, 8), (3, 8), (4, 8), (5, 8), (6, 8), (7, 8), (0, 9), (1, 9), (2, 9), (3, 9), (4, 9), (5, 9), (6, 9), (7, 9), (0, 10), (1, 10), (2, 10), (3, 10), (4, 10), (5, 10), (6, 10), (7, 10), (0, 11), (1, 11), (0, 12), (1, 12)] := rfl
theorem res41 : Try.f41.results.toList = [.cell 2 73] := rfl
noncomputable def b41 : Code := aQ Try.f41
noncomputable def c41_0 : Code := (bz 0 (aQ Try.f41)).getD .skip
theorem fl41_0 : bz 0 b41 = some c41_0 := rfl
def hd_rostrumref_MachineCopy_z_0 (p0 : GMachine) (s : Int × GMachine) : St := ⟨[(1, .rp [.i .i64 p0.fStore.fNow, .sl 8 (ab GEntry.row p0.fStore.fEntries), .i .i64 p0.fNext, .sl 7 (ab GClient.row p0.fClients)]), (2, .ptr 0 0), (3, .ptr 1 0), (4, .v (.i .i64 s.1))], [[.v (.i .i64 0), .own 8 [], .v (.i .i64 0), .own 7 []], [.v (.i .i64 s.2.fStore.fNow), .own 8 (ab GEntry.row s.2.fStore.fEntries), .v (.i .i64 s.2.fNext), .own 7 (ab GClient.row s.2.fClients)]]⟩
def ou_rostrumref_MachineCopy_z_0 (p0 : GMachine) (r : GMachine) : Option (Ex × St) := some (.normal, ⟨[(2, .ptr 0 0), (3, .ptr 1 0)], [[.v (.i .i64 0), .own 8 [], .v (.i .i64 0), .own 7 []], [.v (.i .i64 r.fStore.fNow), .own 8 (ab GEntry.row r.fStore.fEntries), .v (.i .i64 r.fNext), .own 7 (ab GClient.row r.fClients)]]⟩)
theorem sl_rostrumref_MachineCopy_z_0 (C : ak) (k_rostrumref_replyCopy : K_rostrumref_replyCopy C) (p0 : GMachine) (s : Int × GMachine) (o : (Int × GMachine) ⊕ GMachine) (hF : st_rostrumref_MachineCopy_z_0 p0 s = some o) : evW TT C.wide n41 b41 0 (hd_rostrumref_MachineCopy_z_0 p0 s) = Sum.elim (fun s => evW TT C.wide n41 b41 0 (hd_rostrumref_MachineCopy_z_0 p0 s)) (fun r => ou_rostrumref_MachineCopy_z_0 p0 r) o := by
  obtain ⟨p1, p2⟩ := s
  rw [ct TT n41 fl41_0]
  revert hF
  unfold st_rostrumref_MachineCopy_z_0
  try dsimp only
  refine boolY (fun h1 => ?_) (fun h1 => ?_)
  focus
    rintro ⟨⟩
  rotate_left 1
  refine matchX fun x1 h2 => ?_
  have g1 : decide (0 ≤ p1) = true := (cc h2).1
  have g2 : (ab GClient.row p0.fClients)[(p1 : Int).toNat]? = some [.i .i64 x1.fId, .i .i64 x1.fSeq, .i .i64 x1.fTime, .i .i64 x1.fReply.fCode, .s x1.fReply.fText, .i .i64 x1.fReply.fN, .sl 1 (ab aY x1.fReply.fList)] := ca _ h2
  refine matchX fun x2 h3 => ?_
  have g3 := wide0 (k_rostrumref_replyCopy x1.fReply _ h3)
  try simp only [mapR_nil] at g3
  refine boolX (fun h4 => ?_) (fun _ => nofun)
  rintro ⟨⟩
  all_goals (show cD _ _ _ (aH _ _ _ _ (Code.seq _ _) _) = _; simp (maxSteps := 4000000) only [*, hd_rostrumref_MachineCopy_z_0, ou_rostrumref_MachineCopy_z_0, n41a, n41A, n41k, n41K, n41f6, n41mv, ↓RP, RB, ↓ah, aZ, be, aM, Mx.bw, opnd, Mx.bF, Nat.reduceBEq, bK, Mx.fit, bI, bY, toVs, cellsOf, toV, aO, aB, ax, Mx.put, ofConst, ofCell, Mx.prune, killB, killBs, aK, putDst, au, aD, loadAt, bM, List.map, Nat.reduceAdd, Nat.reduceMul, cm, cn, cg, aN, bD, aL, bx, lowC, forceAll, bg, kill, spendLoc, spendOk, bG, lend, lendA, aS, ay, bL, bare, bQ, bB, fill, setCells, takeParts, bp, aR, Nat.reduceSub, Nat.reduceLT, Nat.reduceLeDiff, lowA, bi, bJ, fineK, av, aJ, aX, bX, bE, ce, bV, bk, aI, bh, bj, bf, Op.operands, keepOf, aliveOf, atO, newB, ch, ck, cj, bne, ↓aj, ↓ai, ↓aa, ↓am, aP, bm, aE, bH, Call.operands, ty3, ty71, ty73, ty128, ty130, GClient.one])
theorem r_rostrumref_MachineCopy_z (C : ak) (k_rostrumref_StoreCopy : K_rostrumref_StoreCopy C) (k_rostrumref_replyCopy : K_rostrumref_replyCopy C) (p0 : GMachine) (r : GMachine) (hF : rostrumref_MachineCopy_z p0 = some r) : ∃ d S, cF TT C.wide (evW TT C.wide n41 b41) n41 Try.f41.results.toList (aQ Try.f41) [.agg [.v (.i .i64 p0.fStore.fNow), .v (.sl 8 (ab GEntry.row p0.fStore.fEntries)), .v (.i .i64 p0.fNext), .v (.sl 7 (ab GClient.row p0.fClients))]] [] = some (d, S) ∧ bx d = true ∧ (frz d, S) = (.agg [.v (.i .i64 r.fStore.fNow), .v (.sl 8 (ab GEntry.row r.fStore.fEntries)), .v (.i .i64 r.fNext), .v (.sl 7 (ab GClient.row r.fClients))], []) := by
  revert hF
  unfold rostrumref_MachineCopy_z
  refine matchX fun x1 h1 => ?_
  have g1 := wide0 (k_rostrumref_StoreCopy p0.fStore _ h1)
  try simp only [mapR_nil] at g1
  refine matchX ?_
  rintro x2 h2
  have g2 := cy _ _ (sl_rostrumref_MachineCopy_z_0 C k_rostrumref_replyCopy p0) h2
  try simp only [mapR_nil, hd_rostrumref_MachineCopy_z_0, ou_rostrumref_MachineCopy_z_0] at g2
  intro hF
  have hR := Option.some.inj hF
  clear hF
  subst hR
  refine ⟨.agg [.v (.i .i64 x2.fStore.fNow), .own 8 (ab GEntry.row x2.fStore.fEntries), .v (.i .i64 x2.fNext), .own 7 (ab GClient.row x2.fClients)], [], ?_, rfl, by first | rfl | (simp only [*]; done) | (simp only [*]; rfl)⟩
  all_goals (rw [ba]; show cp _ _ _ (aH _ _ _ _ (Code.seq _ _) _) = _; simp (maxSteps := 4000000) only [*, res41, n41k, n41K, n41f1, n41ro, n41mv, ↓RP, RB, enter, aZ, be, aM, Mx.bw, opnd, Mx.bF, Nat.reduceBEq, bK, Mx.fit, bI, bY, toVs, cellsOf, toV, aO, aB, ax, Mx.put, ofConst, ofCell, Mx.prune, killB, killBs, aK, putDst, au, aD, loadAt, bM, List.map, Nat.reduceAdd, az, bn, bq, co, bN, bD, aL, bx, lowC, forceAll, kill, lend, lendA, aS, ay, bL, bare, bQ, bB, bT, fill, setCells, takeParts, Nat.reduceLeDiff, bJ, fineK, av, aJ, aX, bX, bE, ce, bV, bk, aI, bh, bj, bf, cd, Op.operands, keepOf, newB, ch, bne, ↓aj, ↓aa, ↓am, bm, bH, Call.operands, ty3, ty63, ty71, ty73])
def n44K : List (Nat × List Nat) := [(0, [1, 2]), (1, [2])]
def n44 : cC where
  keep := keepOf n44K
  ro := fun t => t == 1
  mv := fun _ => false
  give := fun _ => false
  free := fun i => match i with | 1 => [(0, 2), (1, 2), (0, 3), (1, 3), (0, 4), (1, 4), (2, 4), (3, 4), (0, 5), (1, 5), (2, 5), (3, 5), (0, 6), (1, 6), (2, 6), (3, 6)] | _ => []
theorem n44k (i : Nat) : n44.keep i = keepOf n44K i := rfl
theorem n44ro (t : Nat) : n44.ro t = (t == 1) := rfl
theorem n44mv (t : Nat) : n44.mv t = (false) := rfl
theorem n44f1 : n44.free 1 = [(0, 2), (1, 2), (0, 3), (1, 3), (0, 4), (1, 4), (2, 4), (3, 4), (0, 5), (1, 5), (2, 5), (3, 5), (0, 6), (1, 6), (2, 6), (3, 6)] := rfl
theorem res44 : Try.f44.results.toList = [.cell 2 78] := rfl
noncomputable def b44 : Code := aQ Try.f44
theorem r_rostrumlaw_snaps_z (C : ak) (k_rostrumref_MachineCopy_z : K_rostrumref_MachineCopy_z C) (p0 : GSnap) (r : GSnap) (hF : rostrumlaw_snaps_z p0 = some r) : ∃ d S, cF TT C.wide (evW TT C.wide n44 b44) n44 Try.f44.results.toList (aQ Try.f44) [.agg [.v (.i .i64 p0.fIndex), .v (.i .i64 p0.fTerm), .v (.i .i64 p0.fMachine.fStore.fNow), .v (.sl 8 (ab GEntry.row p0.fMachine.fStore.fEntries)), .v (.i .i64 p0.fMachine.fNext), .v (.sl 7 (ab GClient.row p0.fMachine.fClients))]] [] = some (d, S) ∧ bx d = true ∧ (frz d, S) = (.agg [.v (.i .i64 r.fIndex), .v (.i .i64 r.fTerm), .v (.i .i64 r.fMachine.fStore.fNow), .v (.sl 8 (ab GEntry.row r.fMachine.fStore.fEntries)), .v (.i .i64 r.fMachine.fNext), .v (.sl 7 (ab GClient.row r.fMachine.fClients))], []) := by
  revert hF
  unfold rostrumlaw_snaps_z
  refine matchX fun x1 h1 => ?_
  have g1 := wide0 (k_rostrumref_MachineCopy_z p0.fMachine _ h1)
  try simp only [mapR_nil] at g1
  intro hF
  have hR := Option.some.inj hF
  clear hF
  subst hR
  refine ⟨.agg [.v (.i .i64 p0.fIndex), .v (.i .i64 p0.fTerm), .v (.i .i64 x1.fStore.fNow), .v (.sl 8 (ab GEntry.row x1.fStore.fEntries)), .v (.i .i64 x1.fNext), .v (.sl 7 (ab GClient.row x1.fClients))], [], ?_, rfl, by first | rfl | (simp only [*]; done) | (simp only [*]; rfl)⟩
  all_goals (rw [ba]; show cp _ _ _ (aH _ _ _ _ (Code.seq _ _) _) = _; simp (maxSteps := 4000000) only [*, res44, n44k, n44K, n44f1, n44ro, n44mv, ↓RP, RB, enter, aZ, be, aM, Mx.bw, opnd, Mx.bF, Nat.reduceBEq, bK, Mx.fit, bI, bY, toVs, cellsOf, toV, aO, aB, ax, Mx.put, Mx.prune, killB, killBs, aK, putDst, au, aD, loadAt, bM, List.map, Nat.reduceAdd, az, bn, bq, co, bN, bD, aL, bx, lowC, forceAll, kill, lend, lendA, aS, ay, bL, bare, bQ, bB, fill, setCells, takeParts, Nat.reduceLeDiff, bJ, fineK, av, aJ, aX, bX, bE, ce, bV, bk, aI, bh, bj, bf, Op.operands, keepOf, newB, ch, bne, ↓aj, ↓aa, ↓am, bm, bH, Call.operands, ty3, ty73, ty78])
def n93K : List (Nat × List Nat) := [(0, [0]), (1, [2])]
def n93 : cC where
  keep := keepOf n93K
  ro := fun _ => false
  mv := fun _ => false
  give := fun _ => false
  free := fun _ => []
theorem n93k (i : Nat) : n93.keep i = keepOf n93K i := rfl
theorem res93 : Try.f93.results.toList = [.tmp 2] := rfl
noncomputable def b93 : Code := aQ Try.f93
theorem r_tape_number (C : ak)  (p0 : Int) (r : Bool) (hF : tape_number p0 = some r) : cF TT C.wide (evW TT C.wide n93 b93) n93 Try.f93.results.toList (aQ Try.f93) [.v (.i .i64 p0)] [] = some (.v (.b r), []) := by
  revert hF
  unfold tape_number
  refine boolX (fun h1 => ?_) (fun h1 => ?_)
  focus
    rintro ⟨⟩
  rotate_left 1
  rintro ⟨⟩
  all_goals (rw [ba]; show cp _ _ _ (aH _ _ _ _ (Code.seq _ _) _) = _; simp (maxSteps := 4000000) only [*, res93, n93k, n93K, ↓RP, RB, enter, aW, aC, aZ, be, aM, Mx.bw, opnd, Mx.bF, Nat.reduceBEq, bK, Mx.fit, bY, aO, aB, Mx.put, ofConst, ofCell, Mx.prune, killB, aK, putDst, au, List.map, cm, cn, az, bn, bq, co, bN, bD, aL, lowC, keepOf, ck, cj, ↓aj, ↓aa, bc, ty4])
def n61K : List (Nat × List Nat) := [(0, [1]), (1, [2])]
def n61 : cC where
  keep := keepOf n61K
  ro := fun t => t == 1
  mv := fun _ => false
  give := fun _ => false
  free := fun _ => []
theorem n61k (i : Nat) : n61.keep i = keepOf n61K i := rfl
theorem n61ro (t : Nat) : n61.ro t = (t == 1) := rfl
theorem n61mv (t : Nat) : n61.mv t = (false) := rfl
theorem res61 : Try.f61.results.toList = [.tmp 2] := rfl
noncomputable def b61 : Code := aQ Try.f61
theorem r_value_elements (C : ak)  (p0 : GValue) (r : Int) (hF : value_elements p0 = some r) : cF TT C.wide (evW TT C.wide n61 b61) n61 Try.f61.results.toList (aQ Try.f61) [.agg [.v (.i .i64 p0.fKind), .v (.s p0.fText), .v (.i .i64 p0.fCount), .v (.sl 2 (ab GPair.row p0.fPairs)), .v (.sl 1 (ab aY p0.fItems)), .v (.sl 2 (ab GScore.row p0.fScores))]] [] = some (.v (.i .i64 r), []) := by
  revert hF
  unfold value_elements
  rintro ⟨⟩
  all_goals (rw [ba]; show cp _ _ _ (aH _ _ _ _ (Code.seq _ _) _) = _; simp (maxSteps := 4000000) only [*, res61, n61k, n61K, n61ro, n61mv, ↓RP, RB, enter, aZ, be, aM, Mx.bw, opnd, Mx.bF, Nat.reduceBEq, bK, Mx.fit, bI, bY, toVs, cellsOf, toV, aO, aB, ax, Mx.put, ofConst, ofCell, Mx.prune, killB, aK, putDst, au, aD, loadAt, bM, List.map, cm, cn, cg, az, bn, bq, co, bN, bD, aL, lowC, keepOf, ck, cj, ↓aj, ↓aa, ty3, ty49, ty50, ty51, ty53])
def n62K : List (Nat × List Nat) := [(0, [0]), (1, [2])]
def n62 : cC where
  keep := keepOf n62K
  ro := fun _ => false
  mv := fun _ => false
  give := fun _ => false
  free := fun _ => []
theorem n62k (i : Nat) : n62.keep i = keepOf n62K i := rfl
theorem res62 : Try.f62.results.toList = [.tmp 2] := rfl
noncomputable def b62 : Code := aQ Try.f62
theorem r_value_text (C : ak)  (p0 : ByteArray) (r : Bool) (hF : value_text p0 = some r) : cF TT C.wide (evW TT C.wide n62 b62) n62 Try.f62.results.toList (aQ Try.f62) [.v (.s p0)] [] = some (.v (.b r), []) := by
  revert hF
  unfold value_text
  rintro ⟨⟩
  all_goals (rw [ba]; show cp _ _ _ (aH _ _ _ _ (Code.seq _ _) _) = _; simp (maxSteps := 4000000) only [*, res62, n62k, n62K, ↓RP, RB, enter, aZ, be, aM, Mx.bw, opnd, Mx.bF, Nat.reduceBEq, bK, Mx.fit, bY, aO, aB, Mx.put, ofConst, ofCell, Mx.prune, killB, aK, putDst, au, List.map, cm, cn, cg, az, bn, bq, co, bN, bD, aL, lowC, keepOf, ck, cj, ↓aj, ↓aa, ty4, ty9])
def n64K : List (Nat × List Nat) := [(0, [0]), (1, [2])]
def n64 : cC where
  keep := keepOf n64K
  ro := fun _ => false
  mv := fun _ => false
  give := fun _ => false
  free := fun _ => []
theorem n64k (i : Nat) : n64.keep i = keepOf n64K i := rfl
theorem res64 : Try.f64.results.toList = [.tmp 2] := rfl
noncomputable def b64 : Code := aQ Try.f64
theorem r_value_Check_fn1 (C : ak) (k_value_text : K_value_text C) (p0 : ByteArray) (r : Bool) (hF : value_Check_fn1 p0 = some r) : cF TT C.wide (evW TT C.wide n64 b64) n64 Try.f64.results.toList (aQ Try.f64) [.v (.s p0)] [] = some (.v (.b r), []) := by
  revert hF
  unfold value_Check_fn1
  have g1 := wide0 (k_value_text p0 _ (value_text_t p0))
  try simp only [mapR_nil] at g1
  rintro ⟨⟩
  all_goals (rw [ba]; show cp _ _ _ (aH _ _ _ _ (Code.seq _ _) _) = _; simp (maxSteps := 4000000) only [*, res64, n64k, n64K, ↓RP, RB, enter, aZ, be, aM, Mx.bw, opnd, Mx.bF, Nat.reduceBEq, bK, Mx.fit, bY, aO, aB, Mx.put, ofConst, ofCell, Mx.prune, killB, aK, putDst, au, List.map, az, bn, bq, co, bN, bD, aL, lowC, forceAll, lend, lendA, aS, ay, bL, bare, bQ, keepOf, newB, ch, ↓aj, ↓aa, ty4])
def n108K : List (Nat × List Nat) := [(0, [0, 1]), (1, [0, 1, 7, 8]), (2, [0, 1, 7, 8, 9]), (3, [0, 1, 5, 7, 8]), (4, [0, 1, 5, 7, 8, 16]), (5, [4]), (6, [0, 1, 7, 8]), (7, [4])]
def n108A : List (Nat × List Nat × List Nat) := [(9, [0, 1, 7, 8], []), (16, [5], [0, 1, 7, 8])]
def n108 : cC where
  keep := keepOf n108K
  ro := fun _ => false
  mv := fun _ => false
  give := fun _ => false
  free := fun _ => []
  alive := aliveOf n108A
theorem n108a (t : Nat) (x : Bool) (e : Env) (S : aA) : aw n108 t x ⟨e, S⟩ = atO (aliveOf n108A t x) e S := atCond_of rfl t x e S
theorem n108k (i : Nat) : n108.keep i = keepOf n108K i := rfl
theorem n108mv (t : Nat) : n108.mv t = (false) := rfl
theorem n108gv (t : Nat) : n108.give t = (false) := rfl
theorem res108 : Try.f108.results.toList = [.tmp 4] := rfl
noncomputable def b108 : Code := aQ Try.f108
noncomputable def c108_0 : Code := (bz 0 (aQ Try.f108)).getD .skip
theorem fl108_0 : bz 0 b108 = some c108_0 := rfl
def hd_slices_IndexFunc_string_string_value_Check_fn1_0 (p0 : List ByteArray) (p1 : Int) (s : Int) : St := ⟨[(0, .v (.sl 1 (ab aY p0))), (1, .clo 64 []), (7, .v (.i .i64 p1)), (8, .v (.i .i64 s))], []⟩
def ou_slices_IndexFunc_string_string_value_Check_fn1_0 (p0 : List ByteArray) (p1 : Int) (r : Int ⊕ Unit) : Option (Ex × St) := match r with
  | .inl r => some (.ret, ⟨[(4, .v (.i .i64 r))], []⟩)
  | .inr r => some (.normal, ⟨[], []⟩)
theorem sl_slices_IndexFunc_string_string_value_Check_fn1_0 (C : ak) (k_value_Check_fn1 : K_value_Check_fn1 C) (p0 : List ByteArray) (p1 : Int) (p2 : Int) (o : Int ⊕ (Int ⊕ Unit)) (hF : st_slices_IndexFunc_string_string_value_Check_fn1_0 p0 p1 p2 = some o) : evW TT C.wide n108 b108 0 (hd_slices_IndexFunc_string_string_value_Check_fn1_0 p0 p1 p2) = Sum.elim (fun s => evW TT C.wide n108 b108 0 (hd_slices_IndexFunc_string_string_value_Check_fn1_0 p0 p1 s)) (fun r => ou_slices_IndexFunc_string_string_value_Check_fn1_0 p0 p1 r) o := by
  rw [ct TT n108 fl108_0]
  revert hF
  unfold st_slices_IndexFunc_string_string_value_Check_fn1_0
  try dsimp only
  refine boolY (fun h1 => ?_) (fun h1 => ?_)
  focus
    rintro ⟨⟩
  rotate_left 1
  refine matchX fun x1 h2 => ?_
  have g1 : decide (0 ≤ p2) = true := (cc h2).1
  have g2 : (ab aY p0)[(p2 : Int).toNat]? = some [.s x1] := ca _ h2
  have g3 := wide0 (k_value_Check_fn1 x1 _ (value_Check_fn1_t x1))
  try simp only [mapR_nil] at g3
  refine boolX (fun h3 => ?_) (fun h3 => ?_)
  focus
    rintro ⟨⟩
  rotate_left 1
  rintro ⟨⟩
  all_goals (show cD _ _ _ (aH _ _ _ _ (Code.seq _ _) _) = _; simp (maxSteps := 4000000) only [*, hd_slices_IndexFunc_string_string_value_Check_fn1_0, ou_slices_IndexFunc_string_string_value_Check_fn1_0, n108a, n108A, n108k, n108K, n108mv, n108gv, ↓RP, RB, ↓ah, aZ, be, aM, Mx.bw, opnd, Mx.bF, Nat.reduceBEq, bK, Mx.fit, bY, aO, aB, ax, Mx.put, ofConst, ofCell, Mx.prune, killB, killBs, aK, putDst, au, loadAt, bM, List.map, cm, cn, bD, aL, bx, bg, kill, frz, bZ, bo, argE, argsE, keepOf, aliveOf, atO, ck, cj, ↓aj, ↓ai, ↓aa, ty3, ty9, ty50])
theorem r_slices_IndexFunc_string_string_value_Check_fn1 (C : ak) (k_value_Check_fn1 : K_value_Check_fn1 C) (p0 : List ByteArray) (r : Int) (hF : slices_IndexFunc_string_string_value_Check_fn1 p0 = some r) : cF TT C.wide (evW TT C.wide n108 b108) n108 Try.f108.results.toList (aQ Try.f108) [.v (.sl 1 (ab aY p0)), .clo 64 []] [] = some (.v (.i .i64 r), []) := by
  revert hF
  unfold slices_IndexFunc_string_string_value_Check_fn1
  refine matchX ?_
  rintro (x1 | _) h1
  focus
    dsimp only
    have g1 := cy _ _ (sl_slices_IndexFunc_string_string_value_Check_fn1_0 C k_value_Check_fn1 p0 (p0.length : Int)) h1
    try simp only [hd_slices_IndexFunc_string_string_value_Check_fn1_0, ou_slices_IndexFunc_string_string_value_Check_fn1_0] at g1
    rintro ⟨⟩
  rotate_left 1
  dsimp only
  have g2 := cy _ _ (sl_slices_IndexFunc_string_string_value_Check_fn1_0 C k_value_Check_fn1 p0 (p0.length : Int)) h1
  try simp only [hd_slices_IndexFunc_string_string_value_Check_fn1_0, ou_slices_IndexFunc_string_string_value_Check_fn1_0] at g2
  rintro ⟨⟩
  all_goals (rw [ba]; show cp _ _ _ (aH _ _ _ _ (Code.seq _ _) _) = _; simp (maxSteps := 4000000) only [*, res108, n108k, n108K, ↓RP, RB, enter, aZ, be, aM, Mx.bw, opnd, Mx.bF, Nat.reduceBEq, bK, Mx.fit, bY, aO, aB, Mx.put, ofConst, ofCell, Mx.prune, killB, killBs, aK, putDst, au, List.map, cg, az, bn, bq, co, bN, bD, aL, lowC, Int.reduceNeg, keepOf, ↓aj, ↓aa, ty3, ty50])
def n63K : List (Nat × List Nat) := [(0, [0, 1]), (1, [4])]
def n63 : cC where
  keep := keepOf n63K
  ro := fun _ => false
  mv := fun _ => false
  give := fun _ => false
  free := fun _ => []
theorem n63k (i : Nat) : n63.keep i = keepOf n63K i := rfl
theorem res63 : Try.f63.results.toList = [.tmp 4] := rfl
noncomputable def b63 : Code := aQ Try.f63
theorem r_slices_ContainsFunc_string_string_value_Check_fn1 (C : ak) (k_slices_IndexFunc_string_string_value_Check_fn1 : K_slices_IndexFunc_string_string_value_Check_fn1 C) (p0 : List ByteArray) (r : Bool) (hF : slices_ContainsFunc_string_string_value_Check_fn1 p0 = some r) : cF TT C.wide (evW TT C.wide n63 b63) n63 Try.f63.results.toList (aQ Try.f63) [.v (.sl 1 (ab aY p0)), .clo 64 []] [] = some (.v (.b r), []) := by
  revert hF
  unfold slices_ContainsFunc_string_string_value_Check_fn1
  refine matchX fun x1 h1 => ?_
  have g1 := wide0 (k_slices_IndexFunc_string_string_value_Check_fn1 p0 _ h1)
  try simp only [mapR_nil] at g1
  rintro ⟨⟩
  all_goals (rw [ba]; show cp _ _ _ (aH _ _ _ _ (Code.seq _ _) _) = _; simp (maxSteps := 4000000) only [*, res63, n63k, n63K, ↓RP, RB, enter, aZ, be, aM, Mx.bw, opnd, Mx.bF, Nat.reduceBEq, bK, Mx.fit, bY, aO, aB, Mx.put, ofConst, ofCell, Mx.prune, killB, killBs, aK, putDst, au, List.map, cm, cn, az, bn, bq, co, bN, bD, aL, lowC, forceAll, lend, lendA, aS, ay, bL, bare, bQ, keepOf, newB, ch, ck, cj, ↓aj, ↓aa, ty4])
def n67K : List (Nat × List Nat) := [(0, [0]), (1, [2])]
def n67 : cC where
  keep := keepOf n67K
  ro := fun _ => false
  mv := fun _ => false
  give := fun _ => false
  free := fun _ => []
theorem n67k (i : Nat) : n67.keep i = keepOf n67K i := rfl
theorem res67 : Try.f67.results.toList = [.tmp 2] := rfl
noncomputable def b67 : Code := aQ Try.f67
theorem r_value_field (C : ak)  (p0 : ByteArray) (r : Bool) (hF : value_field p0 = some r) : cF TT C.wide (evW TT C.wide n67 b67) n67 Try.f67.results.toList (aQ Try.f67) [.v (.s p0)] [] = some (.v (.b r), []) := by
  revert hF
  unfold value_field
  refine boolX (fun h1 => ?_) (fun h1 => ?_)
  focus
    rintro ⟨⟩
  rotate_left 1
  rintro ⟨⟩
  all_goals (rw [ba]; show cp _ _ _ (aH _ _ _ _ (Code.seq _ _) _) = _; simp (maxSteps := 4000000) only [*, res67, n67k, n67K, ↓RP, RB, enter, aW, aC, aZ, be, aM, Mx.bw, opnd, Mx.bF, Nat.reduceBEq, bK, Mx.fit, bY, aO, aB, Mx.put, ofConst, ofCell, Mx.prune, killB, aK, putDst, au, List.map, cm, cn, cg, az, bn, bq, co, bN, bD, aL, lowC, keepOf, ck, cj, ↓aj, ↓aa, bc, ty4, ty9])
def n66K : List (Nat × List Nat) := [(0, [1]), (1, [2])]
def n66 : cC where
  keep := keepOf n66K
  ro := fun t => t == 1
  mv := fun _ => false
  give := fun _ => false
  free := fun _ => []
theorem n66k (i : Nat) : n66.keep i = keepOf n66K i := rfl
theorem n66ro (t : Nat) : n66.ro t = (t == 1) := rfl
theorem n66mv (t : Nat) : n66.mv t = (false) := rfl
theorem res66 : Try.f66.results.toList = [.tmp 2] := rfl
noncomputable def b66 : Code := aQ Try.f66
theorem r_value_Check_fn2 (C : ak) (k_value_field : K_value_field C) (k_value_text : K_value_text C) (p0 : GPair) (r : Bool) (hF : value_Check_fn2 p0 = some r) : cF TT C.wide (evW TT C.wide n66 b66) n66 Try.f66.results.toList (aQ Try.f66) [.agg [.v (.s p0.fField), .v (.s p0.fText)]] [] = some (.v (.b r), []) := by
  revert hF
  unfold value_Check_fn2
  have g1 := wide0 (k_value_field p0.fField _ (value_field_t p0.fField))
  try simp only [mapR_nil] at g1
  refine boolX (fun h1 => ?_) (fun h1 => ?_)
  focus
    have g2 := wide0 (k_value_text p0.fText _ (value_text_t p0.fText))
    try simp only [mapR_nil] at g2
    rintro ⟨⟩
  rotate_left 1
  rintro ⟨⟩
  all_goals (rw [ba]; show cp _ _ _ (aH _ _ _ _ (Code.seq _ _) _) = _; simp (maxSteps := 4000000) only [*, res66, n66k, n66K, n66ro, n66mv, ↓RP, RB, enter, aW, aC, aZ, be, aM, Mx.bw, opnd, Mx.bF, Nat.reduceBEq, bK, Mx.fit, bI, bY, toVs, cellsOf, toV, aO, aB, ax, Mx.put, ofConst, ofCell, Mx.prune, killB, aK, putDst, au, aD, loadAt, bM, List.map, az, bn, bq, co, bN, bD, aL, lowC, forceAll, lend, lendA, aS, ay, bL, bare, bQ, keepOf, newB, ch, ↓aj, ↓aa, bc, ty4, ty9, ty101])
def n109K : List (Nat × List Nat) := [(0, [0, 1]), (1, [0, 1, 7, 8]), (2, [0, 1, 7, 8, 9]), (3, [0, 1, 5, 7, 8]), (4, [0, 1, 5, 7, 8, 16]), (5, [4]), (6, [0, 1, 7, 8]), (7, [4])]
def n109A : List (Nat × List Nat × List Nat) := [(9, [0, 1, 7, 8], []), (16, [5], [0, 1, 7, 8])]
def n109 : cC where
  keep := keepOf n109K
  ro := fun _ => false
  mv := fun _ => false
  give := fun _ => false
  free := fun _ => []
  alive := aliveOf n109A
theorem n109a (t : Nat) (x : Bool) (e : Env) (S : aA) : aw n109 t x ⟨e, S⟩ = atO (aliveOf n109A t x) e S := atCond_of rfl t x e S
theorem n109k (i : Nat) : n109.keep i = keepOf n109K i := rfl
theorem n109mv (t : Nat) : n109.mv t = (false) := rfl
theorem n109gv (t : Nat) : n109.give t = (false) := rfl
theorem res109 : Try.f109.results.toList = [.tmp 4] := rfl
noncomputable def b109 : Code := aQ Try.f109
noncomputable def c109_0 : Code := (bz 0 (aQ Try.f109)).getD .skip
theorem fl109_0 : bz 0 b109 = some c109_0 := rfl
def hd_slices_IndexFunc_Pair_Pair_value_Check_fn2_0 (p0 : List GPair) (p1 : Int) (s : Int) : St := ⟨[(0, .v (.sl 2 (ab GPair.row p0))), (1, .clo 66 []), (7, .v (.i .i64 p1)), (8, .v (.i .i64 s))], []⟩
def ou_slices_IndexFunc_Pair_Pair_value_Check_fn2_0 (p0 : List GPair) (p1 : Int) (r : Int ⊕ Unit) : Option (Ex × St) := match r with
  | .inl r => some (.ret, ⟨[(4, .v (.i .i64 r))], []⟩)
  | .inr r => some (.normal, ⟨[], []⟩)
theorem sl_slices_IndexFunc_Pair_Pair_value_Check_fn2_0 (C : ak) (k_value_Check_fn2 : K_value_Check_fn2 C) (p0 : List GPair) (p1 : Int) (p2 : Int) (o : Int ⊕ (Int ⊕ Unit)) (hF : st_slices_IndexFunc_Pair_Pair_value_Check_fn2_0 p0 p1 p2 = some o) : evW TT C.wide n109 b109 0 (hd_slices_IndexFunc_Pair_Pair_value_Check_fn2_0 p0 p1 p2) = Sum.elim (fun s => evW TT C.wide n109 b109 0 (hd_slices_IndexFunc_Pair_Pair_value_Check_fn2_0 p0 p1 s)) (fun r => ou_slices_IndexFunc_Pair_Pair_value_Check_fn2_0 p0 p1 r) o := by
  rw [ct TT n109 fl109_0]
  revert hF
  unfold st_slices_IndexFunc_Pair_Pair_value_Check_fn2_0
  try dsimp only
  refine boolY (fun h1 => ?_) (fun h1 => ?_)
  focus
    rintro ⟨⟩
  rotate_left 1
  refine matchX fun x1 h2 => ?_
  have g1 : decide (0 ≤ p2) = true := (cc h2).1
  have g2 : (ab GPair.row p0)[(p2 : Int).toNat]? = some [.s x1.fField, .s x1.fText] := ca _ h2
  have g3 := wide0 (k_value_Check_fn2 x1 _ (value_Check_fn2_t x1))
  try simp only [mapR_nil] at g3
  refine boolX (fun h3 => ?_) (fun h3 => ?_)
  focus
    rintro ⟨⟩
  rotate_left 1
  rintro ⟨⟩
  all_goals (show cD _ _ _ (aH _ _ _ _ (Code.seq _ _) _) = _; simp (maxSteps := 4000000) only [*, hd_slices_IndexFunc_Pair_Pair_value_Check_fn2_0, ou_slices_IndexFunc_Pair_Pair_value_Check_fn2_0, n109a, n109A, n109k, n109K, n109mv, n109gv, ↓RP, RB, ↓ah, aZ, be, aM, Mx.bw, opnd, Mx.bF, Nat.reduceBEq, bK, Mx.fit, bY, aO, aB, ax, Mx.put, ofConst, ofCell, Mx.prune, killB, killBs, aK, putDst, au, loadAt, bM, List.map, Nat.reduceAdd, cm, cn, bD, aL, bx, bg, kill, frz, bZ, bo, argE, argsE, keepOf, aliveOf, atO, ck, cj, ↓aj, ↓ai, ↓aa, ty3, ty49, ty101])
theorem r_slices_IndexFunc_Pair_Pair_value_Check_fn2 (C : ak) (k_value_Check_fn2 : K_value_Check_fn2 C) (p0 : List GPair) (r : Int) (hF : slices_IndexFunc_Pair_Pair_value_Check_fn2 p0 = some r) : cF TT C.wide (evW TT C.wide n109 b109) n109 Try.f109.results.toList (aQ Try.f109) [.v (.sl 2 (ab GPair.row p0)), .clo 66 []] [] = some (.v (.i .i64 r), []) := by
  revert hF
  unfold slices_IndexFunc_Pair_Pair_value_Check_fn2
  refine matchX ?_
  rintro (x1 | _) h1
  focus
    dsimp only
    have g1 := cy _ _ (sl_slices_IndexFunc_Pair_Pair_value_Check_fn2_0 C k_value_Check_fn2 p0 (p0.length : Int)) h1
    try simp only [hd_slices_IndexFunc_Pair_Pair_value_Check_fn2_0, ou_slices_IndexFunc_Pair_Pair_value_Check_fn2_0] at g1
    rintro ⟨⟩
  rotate_left 1
  dsimp only
  have g2 := cy _ _ (sl_slices_IndexFunc_Pair_Pair_value_Check_fn2_0 C k_value_Check_fn2 p0 (p0.length : Int)) h1
  try simp only [hd_slices_IndexFunc_Pair_Pair_value_Check_fn2_0, ou_slices_IndexFunc_Pair_Pair_value_Check_fn2_0] at g2
  rintro ⟨⟩
  all_goals (rw [ba]; show cp _ _ _ (aH _ _ _ _ (Code.seq _ _) _) = _; simp (maxSteps := 4000000) only [*, res109, n109k, n109K, ↓RP, RB, enter, aZ, be, aM, Mx.bw, opnd, Mx.bF, Nat.reduceBEq, bK, Mx.fit, bY, aO, aB, Mx.put, ofConst, ofCell, Mx.prune, killB, killBs, aK, putDst, au, List.map, cg, az, bn, bq, co, bN, bD, aL, lowC, Int.reduceNeg, keepOf, ↓aj, ↓aa, ty3, ty49])
def n65K : List (Nat × List Nat) := [(0, [0, 1]), (1, [4])]
def n65 : cC where
  keep := keepOf n65K
  ro := fun _ => false
  mv := fun _ => false
  give := fun _ => false
  free := fun _ => []
theorem n65k (i : Nat) : n65.keep i = keepOf n65K i := rfl
theorem res65 : Try.f65.results.toList = [.tmp 4] := rfl
noncomputable def b65 : Code := aQ Try.f65
theorem r_slices_ContainsFunc_Pair_Pair_value_Check_fn2 (C : ak) (k_slices_IndexFunc_Pair_Pair_value_Check_fn2 : K_slices_IndexFunc_Pair_Pair_value_Check_fn2 C) (p0 : List GPair) (r : Bool) (hF : slices_ContainsFunc_Pair_Pair_value_Check_fn2 p0 = some r) : cF TT C.wide (evW TT C.wide n65 b65) n65 Try.f65.results.toList (aQ Try.f65) [.v (.sl 2 (ab GPair.row p0)), .clo 66 []] [] = some (.v (.b r), []) := by
  revert hF
  unfold slices_ContainsFunc_Pair_Pair_value_Check_fn2
  refine matchX fun x1 h1 => ?_
  have g1 := wide0 (k_slices_IndexFunc_Pair_Pair_value_Check_fn2 p0 _ h1)
  try simp only [mapR_nil] at g1
  rintro ⟨⟩
  all_goals (rw [ba]; show cp _ _ _ (aH _ _ _ _ (Code.seq _ _) _) = _; simp (maxSteps := 4000000) only [*, res65, n65k, n65K, ↓RP, RB, enter, aZ, be, aM, Mx.bw, opnd, Mx.bF, Nat.reduceBEq, bK, Mx.fit, bY, aO, aB, Mx.put, ofConst, ofCell, Mx.prune, killB, killBs, aK, putDst, au, List.map, cm, cn, az, bn, bq, co, bN, bD, aL, lowC, forceAll, lend, lendA, aS, ay, bL, bare, bQ, keepOf, newB, ch, ck, cj, ↓aj, ↓aa, ty4])
def n69K : List (Nat × List Nat) := [(0, [1]), (1, [2])]
def n69 : cC where
  keep := keepOf n69K
  ro := fun t => t == 1
  mv := fun _ => false
  give := fun _ => false
  free := fun _ => []
theorem n69k (i : Nat) : n69.keep i = keepOf n69K i := rfl
theorem n69ro (t : Nat) : n69.ro t = (t == 1) := rfl
theorem n69mv (t : Nat) : n69.mv t = (false) := rfl
theorem res69 : Try.f69.results.toList = [.tmp 2] := rfl
noncomputable def b69 : Code := aQ Try.f69
theorem r_value_Check_fn3 (C : ak) (k_value_text : K_value_text C) (p0 : GScore) (r : Bool) (hF : value_Check_fn3 p0 = some r) : cF TT C.wide (evW TT C.wide n69 b69) n69 Try.f69.results.toList (aQ Try.f69) [.agg [.v (.s p0.fMember), .v (.i .i64 p0.fN)]] [] = some (.v (.b r), []) := by
  revert hF
  unfold value_Check_fn3
  have g1 := wide0 (k_value_text p0.fMember _ (value_text_t p0.fMember))
  try simp only [mapR_nil] at g1
  rintro ⟨⟩
  all_goals (rw [ba]; show cp _ _ _ (aH _ _ _ _ (Code.seq _ _) _) = _; simp (maxSteps := 4000000) only [*, res69, n69k, n69K, n69ro, n69mv, ↓RP, RB, enter, aZ, be, aM, Mx.bw, opnd, Mx.bF, Nat.reduceBEq, bK, Mx.fit, bI, bY, toVs, cellsOf, toV, aO, aB, ax, Mx.put, ofConst, ofCell, Mx.prune, killB, aK, putDst, au, aD, loadAt, bM, List.map, az, bn, bq, co, bN, bD, aL, lowC, forceAll, lend, lendA, aS, ay, bL, bare, bQ, keepOf, newB, ch, ↓aj, ↓aa, ty4, ty9, ty105])
def n110K : List (Nat × List Nat) := [(0, [0, 1]), (1, [0, 1, 7, 8]), (2, [0, 1, 7, 8, 9]), (3, [0, 1, 5, 7, 8]), (4, [0, 1, 5, 7, 8, 16]), (5, [4]), (6, [0, 1, 7, 8]), (7, [4])]
def n110A : List (Nat × List Nat × List Nat) := [(9, [0, 1, 7, 8], []), (16, [5], [0, 1, 7, 8])]
def n110 : cC where
  keep := keepOf n110K
  ro := fun _ => false
  mv := fun _ => false
  give := fun _ => false
  free := fun _ => []
  alive := aliveOf n110A
theorem n110a (t : Nat) (x : Bool) (e : Env) (S : aA) : aw n110 t x ⟨e, S⟩ = atO (aliveOf n110A t x) e S := atCond_of rfl t x e S
theorem n110k (i : Nat) : n110.keep i = keepOf n110K i := rfl
theorem n110mv (t : Nat) : n110.mv t = (false) := rfl
theorem n110gv (t : Nat) : n110.give t = (false) := rfl
theorem res110 : Try.f110.results.toList = [.tmp 4] := rfl
noncomputable def b110 : Code := aQ Try.f110
noncomputable def c110_0 : Code := (bz 0 (aQ Try.f110)).getD .skip
theorem fl110_0 : bz 0 b110 = some c110_0 := rfl
def hd_slices_IndexFunc_Score_Score_value_Check_fn3_0 (p0 : List GScore) (p1 : Int) (s : Int) : St := ⟨[(0, .v (.sl 2 (ab GScore.row p0))), (1, .clo 69 []), (7, .v (.i .i64 p1)), (8, .v (.i .i64 s))], []⟩
def ou_slices_IndexFunc_Score_Score_value_Check_fn3_0 (p0 : List GScore) (p1 : Int) (r : Int ⊕ Unit) : Option (Ex × St) := match r with
  | .inl r => some (.ret, ⟨[(4, .v (.i .i64 r))], []⟩)
  | .inr r => some (.normal, ⟨[], []⟩)
theorem sl_slices_IndexFunc_Score_Score_value_Check_fn3_0 (C : ak) (k_value_Check_fn3 : K_value_Check_fn3 C) (p0 : List GScore) (p1 : Int) (p2 : Int) (o : Int ⊕ (Int ⊕ Unit)) (hF : st_slices_IndexFunc_Score_Score_value_Check_fn3_0 p0 p1 p2 = some o) : evW TT C.wide n110 b110 0 (hd_slices_IndexFunc_Score_Score_value_Check_fn3_0 p0 p1 p2) = Sum.elim (fun s => evW TT C.wide n110 b110 0 (hd_slices_IndexFunc_Score_Score_value_Check_fn3_0 p0 p1 s)) (fun r => ou_slices_IndexFunc_Score_Score_value_Check_fn3_0 p0 p1 r) o := by
  rw [ct TT n110 fl110_0]
  revert hF
  unfold st_slices_IndexFunc_Score_Score_value_Check_fn3_0
  try dsimp only
  refine boolY (fun h1 => ?_) (fun h1 => ?_)
  focus
    rintro ⟨⟩
  rotate_left 1
  refine matchX fun x1 h2 => ?_
  have g1 : decide (0 ≤ p2) = true := (cc h2).1
  have g2 : (ab GScore.row p0)[(p2 : Int).toNat]? = some [.s x1.fMember, .i .i64 x1.fN] := ca _ h2
  have g3 := wide0 (k_value_Check_fn3 x1 _ (value_Check_fn3_t x1))
  try simp only [mapR_nil] at g3
  refine boolX (fun h3 => ?_) (fun h3 => ?_)
  focus
    rintro ⟨⟩
  rotate_left 1
  rintro ⟨⟩
  all_goals (show cD _ _ _ (aH _ _ _ _ (Code.seq _ _) _) = _; simp (maxSteps := 4000000) only [*, hd_slices_IndexFunc_Score_Score_value_Check_fn3_0, ou_slices_IndexFunc_Score_Score_value_Check_fn3_0, n110a, n110A, n110k, n110K, n110mv, n110gv, ↓RP, RB, ↓ah, aZ, be, aM, Mx.bw, opnd, Mx.bF, Nat.reduceBEq, bK, Mx.fit, bY, aO, aB, ax, Mx.put, ofConst, ofCell, Mx.prune, killB, killBs, aK, putDst, au, loadAt, bM, List.map, Nat.reduceAdd, cm, cn, bD, aL, bx, bg, kill, frz, bZ, bo, argE, argsE, keepOf, aliveOf, atO, ck, cj, ↓aj, ↓ai, ↓aa, ty3, ty51, ty105])
theorem r_slices_IndexFunc_Score_Score_value_Check_fn3 (C : ak) (k_value_Check_fn3 : K_value_Check_fn3 C) (p0 : List GScore) (r : Int) (hF : slices_IndexFunc_Score_Score_value_Check_fn3 p0 = some r) : cF TT C.wide (evW TT C.wide n110 b110) n110 Try.f110.results.toList (aQ Try.f110) [.v (.sl 2 (ab GScore.row p0)), .clo 69 []] [] = some (.v (.i .i64 r), []) := by
  revert hF
  unfold slices_IndexFunc_Score_Score_value_Check_fn3
  refine matchX ?_
  rintro (x1 | _) h1
  focus
    dsimp only
    have g1 := cy _ _ (sl_slices_IndexFunc_Score_Score_value_Check_fn3_0 C k_value_Check_fn3 p0 (p0.length : Int)) h1
    try simp only [hd_slices_IndexFunc_Score_Score_value_Check_fn3_0, ou_slices_IndexFunc_Score_Score_value_Check_fn3_0] at g1
    rintro ⟨⟩
  rotate_left 1
  dsimp only
  have g2 := cy _ _ (sl_slices_IndexFunc_Score_Score_value_Check_fn3_0 C k_value_Check_fn3 p0 (p0.length : Int)) h1
  try simp only [hd_slices_IndexFunc_Score_Score_value_Check_fn3_0, ou_slices_IndexFunc_Score_Score_value_Check_fn3_0] at g2
  rintro ⟨⟩
  all_goals (rw [ba]; show cp _ _ _ (aH _ _ _ _ (Code.seq _ _) _) = _; simp (maxSteps := 4000000) only [*, res110, n110k, n110K, ↓RP, RB, enter, aZ, be, aM, Mx.bw, opnd, Mx.bF, Nat.reduceBEq, bK, Mx.fit, bY, aO, aB, Mx.put, ofConst, ofCell, Mx.prune, killB, killBs, aK, putDst, au, List.map, cg, az, bn, bq, co, bN, bD, aL, lowC, Int.reduceNeg, keepOf, ↓aj, ↓aa, ty3, ty51])
def n68K : List (Nat × List Nat) := [(0, [0, 1]), (1, [4])]
def n68 : cC where
  keep := keepOf n68K
  ro := fun _ => false
  mv := fun _ => false
  give := fun _ => false
  free := fun _ => []
theorem n68k (i : Nat) : n68.keep i = keepOf n68K i := rfl
theorem res68 : Try.f68.results.toList = [.tmp 4] := rfl
noncomputable def b68 : Code := aQ Try.f68
theorem r_slices_ContainsFunc_Score_Score_value_Check_fn3 (C : ak) (k_slices_IndexFunc_Score_Score_value_Check_fn3 : K_slices_IndexFunc_Score_Score_value_Check_fn3 C) (p0 : List GScore) (r : Bool) (hF : slices_ContainsFunc_Score_Score_value_Check_fn3 p0 = some r) : cF TT C.wide (evW TT C.wide n68 b68) n68 Try.f68.results.toList (aQ Try.f68) [.v (.sl 2 (ab GScore.row p0)), .clo 69 []] [] = some (.v (.b r), []) := by
  revert hF
  unfold slices_ContainsFunc_Score_Score_value_Check_fn3
  refine matchX fun x1 h1 => ?_
  have g1 := wide0 (k_slices_IndexFunc_Score_Score_value_Check_fn3 p0 _ h1)
  try simp only [mapR_nil] at g1
  rintro ⟨⟩
  all_goals (rw [ba]; show cp _ _ _ (aH _ _ _ _ (Code.seq _ _) _) = _; simp (maxSteps := 4000000) only [*, res68, n68k, n68K, ↓RP, RB, enter, aZ, be, aM, Mx.bw, opnd, Mx.bF, Nat.reduceBEq, bK, Mx.fit, bY, aO, aB, Mx.put, ofConst, ofCell, Mx.prune, killB, killBs, aK, putDst, au, List.map, cm, cn, az, bn, bq, co, bN, bD, aL, lowC, forceAll, lend, lendA, aS, ay, bL, bare, bQ, keepOf, newB, ch, ck, cj, ↓aj, ↓aa, ty4])
def n70K : List (Nat × List Nat) := [(0, [0]), (1, [2])]
def n70 : cC where
  keep := keepOf n70K
  ro := fun _ => false
  mv := fun _ => false
  give := fun _ => false
  free := fun _ => []
theorem n70k (i : Nat) : n70.keep i = keepOf n70K i := rfl
theorem res70 : Try.f70.results.toList = [.tmp 2] := rfl
noncomputable def b70 : Code := aQ Try.f70
theorem r_value_count (C : ak)  (p0 : Int) (r : Bool) (hF : value_count p0 = some r) : cF TT C.wide (evW TT C.wide n70 b70) n70 Try.f70.results.toList (aQ Try.f70) [.v (.i .i64 p0)] [] = some (.v (.b r), []) := by
  revert hF
  unfold value_count
  refine boolX (fun h1 => ?_) (fun h1 => ?_)
  focus
    rintro ⟨⟩
  rotate_left 1
  rintro ⟨⟩
  all_goals (rw [ba]; show cp _ _ _ (aH _ _ _ _ (Code.seq _ _) _) = _; simp (maxSteps := 4000000) only [*, res70, n70k, n70K, ↓RP, RB, enter, aW, aC, aZ, be, aM, Mx.bw, opnd, Mx.bF, Nat.reduceBEq, bK, Mx.fit, bY, aO, aB, Mx.put, ofConst, ofCell, Mx.prune, killB, aK, putDst, au, List.map, cm, cn, az, bn, bq, co, bN, bD, aL, lowC, Int.reduceNeg, keepOf, ck, cj, ↓aj, ↓aa, bc, ty4])
def n71K : List (Nat × List Nat) := [(0, [1]), (1, [2])]
def n71 : cC where
  keep := keepOf n71K
  ro := fun t => t == 1
  mv := fun _ => false
  give := fun _ => false
  free := fun _ => []
theorem n71k (i : Nat) : n71.keep i = keepOf n71K i := rfl
theorem n71ro (t : Nat) : n71.ro t = (t == 1) := rfl
theorem n71mv (t : Nat) : n71.mv t = (false) := rfl
theorem res71 : Try.f71.results.toList = [.tmp 2] := rfl
noncomputable def b71 : Code := aQ Try.f71
theorem r_value_Check_fn4 (C : ak) (k_value_count : K_value_count C) (p0 : GScore) (r : Bool) (hF : value_Check_fn4 p0 = some r) : cF TT C.wide (evW TT C.wide n71 b71) n71 Try.f71.results.toList (aQ Try.f71) [.agg [.v (.s p0.fMember), .v (.i .i64 p0.fN)]] [] = some (.v (.b r), []) := by
  revert hF
  unfold value_Check_fn4
  have g1 := wide0 (k_value_count p0.fN _ (value_count_t p0.fN))
  try simp only [mapR_nil] at g1
  rintro ⟨⟩
  all_goals (rw [ba]; show cp _ _ _ (aH _ _ _ _ (Code.seq _ _) _) = _; simp (maxSteps := 4000000) only [*, res71, n71k, n71K, n71ro, n71mv, ↓RP, RB, enter, aZ, be, aM, Mx.bw, opnd, Mx.bF, Nat.reduceBEq, bK, Mx.fit, bI, bY, toVs, cellsOf, toV, aO, aB, ax, Mx.put, ofConst, ofCell, Mx.prune, killB, aK, putDst, au, aD, loadAt, bM, List.map, az, bn, bq, co, bN, bD, aL, lowC, forceAll, lend, lendA, aS, ay, bL, bare, bQ, keepOf, newB, ch, ↓aj, ↓aa, ty3, ty4, ty105])
def hd_slices_IndexFunc_Score_Score_value_Check_fn4_0 (p0 : List GScore) (p1 : Int) (s : Int) : St := ⟨[(0, .v (.sl 2 (ab GScore.row p0))), (1, .clo 71 []), (7, .v (.i .i64 p1)), (8, .v (.i .i64 s))], []⟩
def ou_slices_IndexFunc_Score_Score_value_Check_fn4_0 (p0 : List GScore) (p1 : Int) (r : Int ⊕ Unit) : Option (Ex × St) := match r with
  | .inl r => some (.ret, ⟨[(4, .v (.i .i64 r))], []⟩)
  | .inr r => some (.normal, ⟨[], []⟩)
theorem sl_slices_IndexFunc_Score_Score_value_Check_fn4_0 (C : ak) (k_value_Check_fn4 : K_value_Check_fn4 C) (p0 : List GScore) (p1 : Int) (p2 : Int) (o : Int ⊕ (Int ⊕ Unit)) (hF : st_slices_IndexFunc_Score_Score_value_Check_fn4_0 p0 p1 p2 = some o) : evW TT C.wide n110 b110 0 (hd_slices_IndexFunc_Score_Score_value_Check_fn4_0 p0 p1 p2) = Sum.elim (fun s => evW TT C.wide n110 b110 0 (hd_slices_IndexFunc_Score_Score_value_Check_fn4_0 p0 p1 s)) (fun r => ou_slices_IndexFunc_Score_Score_value_Check_fn4_0 p0 p1 r) o := by
  rw [ct TT n110 fl110_0]
  revert hF
  unfold st_slices_IndexFunc_Score_Score_value_Check_fn4_0
  try dsimp only
  refine boolY (fun h1 => ?_) (fun h1 => ?_)
  focus
    rintro ⟨⟩
  rotate_left 1
  refine matchX fun x1 h2 => ?_
  have g1 : decide (0 ≤ p2) = true := (cc h2).1
  have g2 : (ab GScore.row p0)[(p2 : Int).toNat]? = some [.s x1.fMember, .i .i64 x1.fN] := ca _ h2
  have g3 := wide0 (k_value_Check_fn4 x1 _ (value_Check_fn4_t x1))
  try simp only [mapR_nil] at g3
  refine boolX (fun h3 => ?_) (fun h3 => ?_)
  focus
    rintro ⟨⟩
  rotate_left 1
  rintro ⟨⟩
  all_goals (show cD _ _ _ (aH _ _ _ _ (Code.seq _ _) _) = _; simp (maxSteps := 4000000) only [*, hd_slices_IndexFunc_Score_Score_value_Check_fn4_0, ou_slices_IndexFunc_Score_Score_value_Check_fn4_0, n110a, n110A, n110k, n110K, n110mv, n110gv, ↓RP, RB, ↓ah, aZ, be, aM, Mx.bw, opnd, Mx.bF, Nat.reduceBEq, bK, Mx.fit, bY, aO, aB, ax, Mx.put, ofConst, ofCell, Mx.prune, killB, killBs, aK, putDst, au, loadAt, bM, List.map, Nat.reduceAdd, cm, cn, bD, aL, bx, bg, kill, frz, bZ, bo, argE, argsE, keepOf, aliveOf, atO, ck, cj, ↓aj, ↓ai, ↓aa, ty3, ty51, ty105])
theorem r_slices_IndexFunc_Score_Score_value_Check_fn4 (C : ak) (k_value_Check_fn4 : K_value_Check_fn4 C) (p0 : List GScore) (r : Int) (hF : slices_IndexFunc_Score_Score_value_Check_fn4 p0 = some r) : cF TT C.wide (evW TT C.wide n110 b110) n110 Try.f110.results.toList (aQ Try.f110) [.v (.sl 2 (ab GScore.row p0)), .clo 71 []] [] = some (.v (.i .i64 r), []) := by
  revert hF
  unfold slices_IndexFunc_Score_Score_value_Check_fn4
  refine matchX ?_
  rintro (x1 | _) h1
  focus
    dsimp only
    have g1 := cy _ _ (sl_slices_IndexFunc_Score_Score_value_Check_fn4_0 C k_value_Check_fn4 p0 (p0.length : Int)) h1
    try simp only [hd_slices_IndexFunc_Score_Score_value_Check_fn4_0, ou_slices_IndexFunc_Score_Score_value_Check_fn4_0] at g1
    rintro ⟨⟩
  rotate_left 1
  dsimp only
  have g2 := cy _ _ (sl_slices_IndexFunc_Score_Score_value_Check_fn4_0 C k_value_Check_fn4 p0 (p0.length : Int)) h1
  try simp only [hd_slices_IndexFunc_Score_Score_value_Check_fn4_0, ou_slices_IndexFunc_Score_Score_value_Check_fn4_0] at g2
  rintro ⟨⟩
  all_goals (rw [ba]; show cp _ _ _ (aH _ _ _ _ (Code.seq _ _) _) = _; simp (maxSteps := 4000000) only [*, res110, n110k, n110K, ↓RP, RB, enter, aZ, be, aM, Mx.bw, opnd, Mx.bF, Nat.reduceBEq, bK, Mx.fit, bY, aO, aB, Mx.put, ofConst, ofCell, Mx.prune, killB, killBs, aK, putDst, au, List.map, cg, az, bn, bq, co, bN, bD, aL, lowC, Int.reduceNeg, keepOf, ↓aj, ↓aa, ty3, ty51])
theorem r_slices_ContainsFunc_Score_Score_value_Check_fn4 (C : ak) (k_slices_IndexFunc_Score_Score_value_Check_fn4 : K_slices_IndexFunc_Score_Score_value_Check_fn4 C) (p0 : List GScore) (r : Bool) (hF : slices_ContainsFunc_Score_Score_value_Check_fn4 p0 = some r) : cF TT C.wide (evW TT C.wide n68 b68) n68 Try.f68.results.toList (aQ Try.f68) [.v (.sl 2 (ab GScore.row p0)), .clo 71 []] [] = some (.v (.b r), []) := by
  revert hF
  unfold slices_ContainsFunc_Score_Score_value_Check_fn4
  refine matchX fun x1 h1 => ?_
  have g1 := wide0 (k_slices_IndexFunc_Score_Score_value_Check_fn4 p0 _ h1)
  try simp only [mapR_nil] at g1
  rintro ⟨⟩
  all_goals (rw [ba]; show cp _ _ _ (aH _ _ _ _ (Code.seq _ _) _) = _; simp (maxSteps := 4000000) only [*, res68, n68k, n68K, ↓RP, RB, enter, aZ, be, aM, Mx.bw, opnd, Mx.bF, Nat.reduceBEq, bK, Mx.fit, bY, aO, aB, Mx.put, ofConst, ofCell, Mx.prune, killB, killBs, aK, putDst, au, List.map, cm, cn, az, bn, bq, co, bN, bD, aL, lowC, forceAll, lend, lendA, aS, ay, bL, bare, bQ, keepOf, newB, ch, ck, cj, ↓aj, ↓aa, ty4])
def n113K : List (Nat × List Nat) := [(0, [0, 1]), (1, [4])]
def n113 : cC where
  keep := keepOf n113K
  ro := fun _ => false
  mv := fun _ => false
  give := fun _ => false
  free := fun _ => []
theorem n113k (i : Nat) : n113.keep i = keepOf n113K i := rfl
theorem res113 : Try.f113.results.toList = [.tmp 4] := rfl
noncomputable def b113 : Code := aQ Try.f113
theorem r_internal_bytealg_CompareString (C : ak) (k_cmpstring : K_cmpstring C) (p0 : ByteArray) (p1 : ByteArray) (r : Int) (hF : internal_bytealg_CompareString p0 p1 = some r) : cF TT C.wide (evW TT C.wide n113 b113) n113 Try.f113.results.toList (aQ Try.f113) [.v (.s p0), .v (.s p1)] [] = some (.v (.i .i64 r), []) := by
  revert hF
  unfold internal_bytealg_CompareString
  have g1 := wide0 (k_cmpstring p0 p1 _ (cmpstring_t p0 p1))
  try simp only [mapR_nil] at g1
  rintro ⟨⟩
  all_goals (rw [ba]; show cp _ _ _ (aH _ _ _ _ (Code.seq _ _) _) = _; simp (maxSteps := 4000000) only [*, res113, n113k, n113K, ↓RP, RB, enter, aZ, be, aM, Mx.bw, opnd, Mx.bF, Nat.reduceBEq, bK, Mx.fit, bY, aO, aB, Mx.put, ofConst, ofCell, Mx.prune, killB, aK, putDst, au, List.map, az, bn, bq, co, bN, bD, aL, lowC, forceAll, lend, lendA, aS, ay, bL, bare, bQ, keepOf, newB, ch, ↓aj, ↓aa, ty3])
def n77K : List (Nat × List Nat) := [(0, [0, 1]), (1, [4])]
def n77 : cC where
  keep := keepOf n77K
  ro := fun _ => false
  mv := fun _ => false
  give := fun _ => false
  free := fun _ => []
theorem n77k (i : Nat) : n77.keep i = keepOf n77K i := rfl
theorem res77 : Try.f77.results.toList = [.tmp 4] := rfl
noncomputable def b77 : Code := aQ Try.f77
theorem r_strings_Compare (C : ak) (k_internal_bytealg_CompareString : K_internal_bytealg_CompareString C) (p0 : ByteArray) (p1 : ByteArray) (r : Int) (hF : strings_Compare p0 p1 = some r) : cF TT C.wide (evW TT C.wide n77 b77) n77 Try.f77.results.toList (aQ Try.f77) [.v (.s p0), .v (.s p1)] [] = some (.v (.i .i64 r), []) := by
  revert hF
  unfold strings_Compare
  have g1 := wide0 (k_internal_bytealg_CompareString p0 p1 _ (internal_bytealg_CompareString_t p0 p1))
  try simp only [mapR_nil] at g1
  rintro ⟨⟩
  all_goals (rw [ba]; show cp _ _ _ (aH _ _ _ _ (Code.seq _ _) _) = _; simp (maxSteps := 4000000) only [*, res77, n77k, n77K, ↓RP, RB, enter, aZ, be, aM, Mx.bw, opnd, Mx.bF, Nat.reduceBEq, bK, Mx.fit, bY, aO, aB, Mx.put, ofConst, ofCell, Mx.prune, killB, aK, putDst, au, List.map, az, bn, bq, co, bN, bD, aL, lowC, forceAll, lend, lendA, aS, ay, bL, bare, bQ, keepOf, newB, ch, ↓aj, ↓aa, ty3])
def n73K : List (Nat × List Nat) := [(0, [2, 3]), (1, [4])]
def n73 : cC where
  keep := keepOf n73K
  ro := fun t => t == 2 || t == 3
  mv := fun _ => false
  give := fun _ => false
  free := fun _ => []
theorem n73k (i : Nat) : n73.keep i = keepOf n73K i := rfl
theorem n73ro (t : Nat) : n73.ro t = (t == 2 || t == 3) := rfl
theorem n73mv (t : Nat) : n73.mv t = (false) := rfl
theorem res73 : Try.f73.results.toList = [.tmp 4] := rfl
noncomputable def b73 : Code := aQ Try.f73
theorem r_value_byField (C : ak) (k_strings_Compare : K_strings_Compare C) (p0 : GPair) (p1 : GPair) (r : Int) (hF : value_byField p0 p1 = some r) : cF TT C.wide (evW TT C.wide n73 b73) n73 Try.f73.results.toList (aQ Try.f73) [.agg [.v (.s p0.fField), .v (.s p0.fText)], .agg [.v (.s p1.fField), .v (.s p1.fText)]] [] = some (.v (.i .i64 r), []) := by
  revert hF
  unfold value_byField
  have g1 := wide0 (k_strings_Compare p0.fField p1.fField _ (strings_Compare_t p0.fField p1.fField))
  try simp only [mapR_nil] at g1
  rintro ⟨⟩
  all_goals (rw [ba]; show cp _ _ _ (aH _ _ _ _ (Code.seq _ _) _) = _; simp (maxSteps := 4000000) only [*, res73, n73k, n73K, n73ro, n73mv, ↓RP, RB, enter, aZ, be, aM, Mx.bw, opnd, Mx.bF, Nat.reduceBEq, bK, Mx.fit, bI, bY, toVs, cellsOf, toV, aO, aB, ax, Mx.put, ofConst, ofCell, Mx.prune, killB, aK, putDst, au, aD, loadAt, bM, List.map, az, bn, bq, co, bN, bD, aL, lowC, forceAll, lend, lendA, aS, ay, bL, bare, bQ, keepOf, newB, ch, ↓aj, ↓aa, ty3, ty9, ty101])
def n72K : List (Nat × List Nat) := [(0, [0, 1]), (1, [0, 1, 5]), (2, [0, 1, 5, 9]), (3, [0, 1, 5]), (4, [0, 1, 5, 23]), (5, [4]), (6, [4])]
def n72A : List (Nat × List Nat × List Nat) := [(9, [0, 1, 5], []), (23, [], [0, 1, 5])]
def n72 : cC where
  keep := keepOf n72K
  ro := fun _ => false
  mv := fun _ => false
  give := fun _ => false
  free := fun i => match i with | 4 => [(0, 1), (0, 2), (1, 2), (0, 3), (1, 3), (0, 4), (0, 5), (0, 6), (1, 6), (2, 6), (3, 6), (4, 6), (5, 6), (0, 7), (1, 7), (2, 7), (3, 7), (4, 7), (5, 7), (6, 7), (0, 8), (1, 8), (2, 8), (3, 8), (4, 8), (5, 8), (0, 9), (1, 9), (2, 9), (3, 9), (4, 9), (5, 9)] | _ => []
  alive := aliveOf n72A
theorem n72a (t : Nat) (x : Bool) (e : Env) (S : aA) : aw n72 t x ⟨e, S⟩ = atO (aliveOf n72A t x) e S := atCond_of rfl t x e S
theorem n72k (i : Nat) : n72.keep i = keepOf n72K i := rfl
theorem n72mv (t : Nat) : n72.mv t = (false) := rfl
theorem n72gv (t : Nat) : n72.give t = (false) := rfl
theorem n72f4 : n72.free 4 = [(0, 1), (0, 2), (1, 2), (0, 3), (1, 3), (0, 4), (0, 5), (0, 6), (1, 6), (2, 6), (3, 6), (4, 6), (5, 6), (0, 7), (1, 7), (2, 7), (3, 7), (4, 7), (5, 7), (6, 7), (0, 8), (1, 8), (2, 8), (3, 8), (4, 8), (5, 8), (0, 9), (1, 9), (2, 9), (3, 9), (4, 9), (5, 9)] := rfl
theorem res72 : Try.f72.results.toList = [.tmp 4] := rfl
noncomputable def b72 : Code := aQ Try.f72
noncomputable def c72_0 : Code := (bz 0 (aQ Try.f72)).getD .skip
theorem fl72_0 : bz 0 b72 = some c72_0 := rfl
def hd_value_rising_Pair_value_byField_0 (p0 : List GPair) (s : Int) : St := ⟨[(0, .v (.sl 2 (ab GPair.row p0))), (1, .clo 73 []), (5, .v (.i .i64 s))], []⟩
def ou_value_rising_Pair_value_byField_0 (p0 : List GPair) (r : Unit ⊕ Unit) : Option (Ex × St) := match r with
  | .inl r => some (.ret, ⟨[(4, .v (.b false))], []⟩)
  | .inr r => some (.normal, ⟨[], []⟩)
theorem sl_value_rising_Pair_value_byField_0 (C : ak) (k_value_byField : K_value_byField C) (p0 : List GPair) (p1 : Int) (o : Int ⊕ (Unit ⊕ Unit)) (hF : st_value_rising_Pair_value_byField_0 p0 p1 = some o) : evW TT C.wide n72 b72 0 (hd_value_rising_Pair_value_byField_0 p0 p1) = Sum.elim (fun s => evW TT C.wide n72 b72 0 (hd_value_rising_Pair_value_byField_0 p0 s)) (fun r => ou_value_rising_Pair_value_byField_0 p0 r) o := by
  rw [ct TT n72 fl72_0]
  revert hF
  unfold st_value_rising_Pair_value_byField_0
  try dsimp only
  refine boolY (fun h1 => ?_) (fun h1 => ?_)
  focus
    rintro ⟨⟩
  rotate_left 1
  refine matchX fun x1 h2 => ?_
  have g1 : decide (0 ≤ (IntKind.i64.wrap (p1 - 1))) = true := (cc h2).1
  have g2 : (ab GPair.row p0)[((IntKind.i64.wrap (p1 - 1)) : Int).toNat]? = some [.s x1.fField, .s x1.fText] := ca _ h2
  refine matchX fun x2 h3 => ?_
  have g3 : decide (0 ≤ p1) = true := (cc h3).1
  have g4 : (ab GPair.row p0)[(p1 : Int).toNat]? = some [.s x2.fField, .s x2.fText] := ca _ h3
  have g5 := wide0 (k_value_byField x1 x2 _ (value_byField_t x1 x2))
  try simp only [mapR_nil] at g5
  refine boolX (fun h4 => ?_) (fun h4 => ?_)
  focus
    rintro ⟨⟩
  rotate_left 1
  rintro ⟨⟩
  all_goals (show cD _ _ _ (aH _ _ _ _ (Code.seq _ _) _) = _; simp (maxSteps := 4000000) only [*, hd_value_rising_Pair_value_byField_0, ou_value_rising_Pair_value_byField_0, n72a, n72A, n72k, n72K, n72f4, n72mv, n72gv, ↓RP, RB, ↓ah, aZ, be, aM, Mx.bw, opnd, Mx.bF, Nat.reduceBEq, bK, Mx.fit, bY, aO, aB, ax, Mx.put, ofConst, ofCell, Mx.prune, killB, killBs, aK, putDst, au, loadAt, bM, List.map, Nat.reduceAdd, cm, cn, cg, bD, aL, bx, bg, kill, frz, bZ, bo, argE, argsE, bB, bJ, fineK, av, aJ, aX, bX, bE, ce, bV, bk, aI, bh, bj, bf, Op.operands, keepOf, aliveOf, atO, ck, cj, ↓aj, ↓ai, ↓aa, ↓am, bm, bH, ty3, ty4, ty49, ty101])
theorem r_value_rising_Pair_value_byField (C : ak) (k_value_byField : K_value_byField C) (p0 : List GPair) (r : Bool) (hF : value_rising_Pair_value_byField p0 = some r) : cF TT C.wide (evW TT C.wide n72 b72) n72 Try.f72.results.toList (aQ Try.f72) [.v (.sl 2 (ab GPair.row p0)), .clo 73 []] [] = some (.v (.b r), []) := by
  revert hF
  unfold value_rising_Pair_value_byField
  refine matchX ?_
  rintro (_ | _) h1
  focus
    dsimp only
    have g1 := cy _ _ (sl_value_rising_Pair_value_byField_0 C k_value_byField p0) h1
    try simp only [hd_value_rising_Pair_value_byField_0, ou_value_rising_Pair_value_byField_0] at g1
    rintro ⟨⟩
  rotate_left 1
  dsimp only
  have g2 := cy _ _ (sl_value_rising_Pair_value_byField_0 C k_value_byField p0) h1
  try simp only [hd_value_rising_Pair_value_byField_0, ou_value_rising_Pair_value_byField_0] at g2
  rintro ⟨⟩
  all_goals (rw [ba]; show cp _ _ _ (aH _ _ _ _ (Code.seq _ _) _) = _; simp (maxSteps := 4000000) only [*, res72, n72k, n72K, ↓RP, RB, enter, aZ, be, aM, Mx.bw, opnd, Mx.bF, Nat.reduceBEq, bK, Mx.fit, bY, aO, aB, Mx.put, ofConst, ofCell, Mx.prune, killB, killBs, List.map, az, bn, bq, co, bN, bD, aL, lowC, keepOf, ↓aj, ↓aa, ty3, ty4])
def n131K : List (Nat × List Nat) := [(0, [0]), (1, [2])]
def n131 : cC where
  keep := keepOf n131K
  ro := fun _ => false
  mv := fun _ => false
  give := fun _ => false
  free := fun _ => []
theorem n131k (i : Nat) : n131.keep i = keepOf n131K i := rfl
theorem res131 : Try.f131.results.toList = [.tmp 2] := rfl
noncomputable def b131 : Code := aQ Try.f131
theorem r_cmp_isNaN_int (C : ak)  (p0 : Int) (r : Bool) (hF : cmp_isNaN_int p0 = some r) : cF TT C.wide (evW TT C.wide n131 b131) n131 Try.f131.results.toList (aQ Try.f131) [.v (.i .i64 p0)] [] = some (.v (.b r), []) := by
  revert hF
  unfold cmp_isNaN_int
  rintro ⟨⟩
  all_goals (rw [ba]; show cp _ _ _ (aH _ _ _ _ (Code.seq _ _) _) = _; simp (maxSteps := 4000000) only [*, res131, n131k, n131K, ↓RP, RB, enter, aZ, be, aM, Mx.bw, opnd, Mx.bF, Nat.reduceBEq, bK, Mx.fit, bY, aO, aB, Mx.put, ofConst, ofCell, Mx.prune, killB, aK, putDst, au, List.map, cm, cn, az, bn, bq, co, bN, bD, aL, lowC, keepOf, ck, cj, bne, ↓aj, ↓aa, ty4])
def n112K : List (Nat × List Nat) := [(0, [0, 1]), (1, [0, 1, 5]), (2, [0, 1, 5, 6]), (3, [0, 1, 6, 11]), (4, [12]), (5, [4]), (6, [4]), (7, [0, 1, 13]), (8, [4]), (9, [0, 1, 16]), (10, [4]), (11, [19]), (12, [4]), (13, [4])]
def n112A : List (Nat × List Nat × List Nat) := [(11, [6], [0, 1, 6]), (12, [], []), (13, [], [0, 1]), (16, [], [0, 1]), (19, [], [])]
def n112 : cC where
  keep := keepOf n112K
  ro := fun _ => false
  mv := fun _ => false
  give := fun _ => false
  free := fun _ => []
  alive := aliveOf n112A
theorem n112a (t : Nat) (x : Bool) (e : Env) (S : aA) : aw n112 t x ⟨e, S⟩ = atO (aliveOf n112A t x) e S := atCond_of rfl t x e S
theorem n112k (i : Nat) : n112.keep i = keepOf n112K i := rfl
theorem res112 : Try.f112.results.toList = [.tmp 4] := rfl
noncomputable def b112 : Code := aQ Try.f112
theorem r_cmp_Compare_int (C : ak) (k_cmp_isNaN_int : K_cmp_isNaN_int C) (p0 : Int) (p1 : Int) (r : Int) (hF : cmp_Compare_int p0 p1 = some r) : cF TT C.wide (evW TT C.wide n112 b112) n112 Try.f112.results.toList (aQ Try.f112) [.v (.i .i64 p0), .v (.i .i64 p1)] [] = some (.v (.i .i64 r), []) := by
  revert hF
  unfold cmp_Compare_int
  have g1 := wide0 (k_cmp_isNaN_int p0 _ (cmp_isNaN_int_t p0))
  have g2 := wide0 (k_cmp_isNaN_int p1 _ (cmp_isNaN_int_t p1))
  try simp only [mapR_nil] at g1 g2
  refine boolX (fun h1 => ?_) (fun h1 => ?_)
  focus
    refine boolX (fun h2 => ?_) (fun h2 => ?_)
    focus
      rintro ⟨⟩
    rotate_left 1
    rintro ⟨⟩
  rotate_left 2
  refine boolX (fun h2 => ?_) (fun h2 => ?_)
  focus
    rintro ⟨⟩
  rotate_left 1
  refine boolX (fun h3 => ?_) (fun h3 => ?_)
  focus
    rintro ⟨⟩
  rotate_left 1
  refine boolX (fun h4 => ?_) (fun h4 => ?_)
  focus
    rintro ⟨⟩
  rotate_left 1
  rintro ⟨⟩
  all_goals (rw [ba]; show cp _ _ _ (aH _ _ _ _ (Code.seq _ _) _) = _; simp (maxSteps := 4000000) only [*, res112, n112a, n112A, n112k, n112K, ↓RP, RB, enter, aZ, be, aM, Mx.bw, opnd, Mx.bF, Nat.reduceBEq, bK, Mx.fit, bY, aO, aB, Mx.put, ofConst, ofCell, Mx.prune, killB, aK, putDst, au, List.map, cm, cn, az, bn, bq, co, bN, bD, aL, lowC, forceAll, lend, lendA, aS, ay, bL, bare, bQ, Int.reduceNeg, keepOf, aliveOf, atO, newB, ch, ck, cj, ↓aj, ↓ai, ↓aa, ty3, ty4])
def n111K : List (Nat × List Nat) := [(0, [0]), (1, [0, 3]), (2, [0, 3, 6, 7, 8]), (3, [0, 3, 6, 7, 8, 9]), (4, [0, 3, 5, 6, 7, 8]), (5, [0, 3, 5, 6, 7, 8, 14]), (6, [2]), (7, [0, 3, 6, 7, 8]), (8, [2])]
def n111A : List (Nat × List Nat × List Nat) := [(9, [0, 3, 6, 7, 8], [3]), (14, [5], [0, 3, 6, 7, 8])]
def n111 : cC where
  keep := keepOf n111K
  ro := fun _ => false
  mv := fun _ => false
  give := fun _ => false
  free := fun _ => []
  alive := aliveOf n111A
theorem n111a (t : Nat) (x : Bool) (e : Env) (S : aA) : aw n111 t x ⟨e, S⟩ = atO (aliveOf n111A t x) e S := atCond_of rfl t x e S
theorem n111k (i : Nat) : n111.keep i = keepOf n111K i := rfl
theorem n111mv (t : Nat) : n111.mv t = (false) := rfl
theorem res111 : Try.f111.results.toList = [.tmp 2] := rfl
noncomputable def b111 : Code := aQ Try.f111
noncomputable def c111_0 : Code := (bz 0 (aQ Try.f111)).getD .skip
theorem fl111_0 : bz 0 b111 = some c111_0 := rfl
def hd_cmp_Or_int_0 (p0 : List Int) (p1 : Int) (s : Int) : St := ⟨[(0, .v (.sl 1 (ab rowI p0))), (3, .v (.i .i64 0)), (6, .v (.sl 1 (ab rowI p0))), (7, .v (.i .i64 p1)), (8, .v (.i .i64 s))], []⟩
def ou_cmp_Or_int_0 (p0 : List Int) (p1 : Int) (r : Int ⊕ Unit) : Option (Ex × St) := match r with
  | .inl r => some (.ret, ⟨[(2, .v (.i .i64 r))], []⟩)
  | .inr r => some (.normal, ⟨[(3, .v (.i .i64 0))], []⟩)
theorem sl_cmp_Or_int_0 (C : ak)  (p0 : List Int) (p1 : Int) (p2 : Int) (o : Int ⊕ (Int ⊕ Unit)) (hF : st_cmp_Or_int_0 p0 p1 p2 = some o) : evW TT C.wide n111 b111 0 (hd_cmp_Or_int_0 p0 p1 p2) = Sum.elim (fun s => evW TT C.wide n111 b111 0 (hd_cmp_Or_int_0 p0 p1 s)) (fun r => ou_cmp_Or_int_0 p0 p1 r) o := by
  rw [ct TT n111 fl111_0]
  revert hF
  unfold st_cmp_Or_int_0
  try dsimp only
  refine boolY (fun h1 => ?_) (fun h1 => ?_)
  focus
    rintro ⟨⟩
  rotate_left 1
  refine matchX fun x1 h2 => ?_
  have g1 : decide (0 ≤ p2) = true := (cc h2).1
  have g2 : (ab rowI p0)[(p2 : Int).toNat]? = some [.i .i64 x1] := ca _ h2
  refine boolX (fun h3 => ?_) (fun h3 => ?_)
  focus
    rintro ⟨⟩
  rotate_left 1
  rintro ⟨⟩
  all_goals (show cD _ _ _ (aH _ _ _ _ (Code.seq _ _) _) = _; simp (maxSteps := 4000000) only [*, hd_cmp_Or_int_0, ou_cmp_Or_int_0, n111a, n111A, n111k, n111K, n111mv, ↓RP, RB, ↓ah, aZ, be, aM, Mx.bw, opnd, Mx.bF, Nat.reduceBEq, bK, Mx.fit, bY, aO, aB, ax, Mx.put, ofConst, ofCell, Mx.prune, killB, aK, putDst, au, loadAt, bM, List.map, cm, cn, bg, keepOf, aliveOf, atO, ck, cj, bne, ↓aj, ↓ai, ↓aa, ty3, ty161])
theorem r_cmp_Or_int (C : ak)  (p0 : List Int) (r : Int) (hF : cmp_Or_int p0 = some r) : cF TT C.wide (evW TT C.wide n111 b111) n111 Try.f111.results.toList (aQ Try.f111) [.v (.sl 1 (ab rowI p0))] [] = some (.v (.i .i64 r), []) := by
  revert hF
  unfold cmp_Or_int
  refine matchX ?_
  rintro (x1 | _) h1
  focus
    dsimp only
    have g1 := cy _ _ (sl_cmp_Or_int_0 C p0 (p0.length : Int)) h1
    try simp only [hd_cmp_Or_int_0, ou_cmp_Or_int_0] at g1
    rintro ⟨⟩
  rotate_left 1
  dsimp only
  have g2 := cy _ _ (sl_cmp_Or_int_0 C p0 (p0.length : Int)) h1
  try simp only [hd_cmp_Or_int_0, ou_cmp_Or_int_0] at g2
  rintro ⟨⟩
  all_goals (rw [ba]; show cp _ _ _ (aH _ _ _ _ (Code.seq _ _) _) = _; simp (maxSteps := 4000000) only [*, res111, n111k, n111K, ↓RP, RB, enter, aZ, be, aM, Mx.bw, opnd, Mx.bF, Nat.reduceBEq, bK, Mx.fit, bY, aO, aB, Mx.put, ofConst, ofCell, Mx.prune, killB, aK, putDst, au, List.map, cg, az, bn, bq, co, bN, bD, aL, lowC, keepOf, ↓aj, ↓aa, ty3, ty161])
def n75K : List (Nat × List Nat) := [(0, [2, 3]), (1, [4])]
def n75 : cC where
  keep := keepOf n75K
  ro := fun t => t == 2 || t == 3
  mv := fun _ => false
  give := fun _ => false
  free := fun i => match i with | 1 => [(0, 2), (1, 2), (0, 3), (1, 3), (0, 5), (1, 5), (2, 5), (3, 5), (4, 5), (0, 6), (1, 6), (2, 6), (3, 6), (4, 6), (0, 7), (1, 7), (2, 7), (3, 7), (4, 7), (5, 7), (6, 7), (0, 8), (1, 8), (2, 8), (3, 8), (4, 8), (5, 8), (6, 8)] | _ => []
theorem n75k (i : Nat) : n75.keep i = keepOf n75K i := rfl
theorem n75ro (t : Nat) : n75.ro t = (t == 2 || t == 3) := rfl
theorem n75mv (t : Nat) : n75.mv t = (false) := rfl
theorem n75f1 : n75.free 1 = [(0, 2), (1, 2), (0, 3), (1, 3), (0, 5), (1, 5), (2, 5), (3, 5), (4, 5), (0, 6), (1, 6), (2, 6), (3, 6), (4, 6), (0, 7), (1, 7), (2, 7), (3, 7), (4, 7), (5, 7), (6, 7), (0, 8), (1, 8), (2, 8), (3, 8), (4, 8), (5, 8), (6, 8)] := rfl
theorem res75 : Try.f75.results.toList = [.tmp 4] := rfl
noncomputable def b75 : Code := aQ Try.f75
theorem r_value_byScore (C : ak) (k_cmp_Compare_int : K_cmp_Compare_int C) (k_strings_Compare : K_strings_Compare C) (k_cmp_Or_int : K_cmp_Or_int C) (p0 : GScore) (p1 : GScore) (r : Int) (hF : value_byScore p0 p1 = some r) : cF TT C.wide (evW TT C.wide n75 b75) n75 Try.f75.results.toList (aQ Try.f75) [.agg [.v (.s p0.fMember), .v (.i .i64 p0.fN)], .agg [.v (.s p1.fMember), .v (.i .i64 p1.fN)]] [] = some (.v (.i .i64 r), []) := by
  revert hF
  unfold value_byScore
  have g1 := wide0 (k_cmp_Compare_int p0.fN p1.fN _ (cmp_Compare_int_t p0.fN p1.fN))
  have g2 := wide0 (k_strings_Compare p0.fMember p1.fMember _ (strings_Compare_t p0.fMember p1.fMember))
  try simp only [mapR_nil] at g1 g2
  refine matchX fun x1 h1 => ?_
  have g3 := wide0 (k_cmp_Or_int [(cmp_Compare_int_v p0.fN p1.fN), (strings_Compare_v p0.fMember p1.fMember)] _ h1)
  try simp only [mapR_nil] at g3
  rintro ⟨⟩
  all_goals (rw [ba]; show cp _ _ _ (aH _ _ _ _ (Code.seq _ _) _) = _; simp (maxSteps := 4000000) only [*, res75, n75k, n75K, n75f1, n75ro, n75mv, ↓RP, RB, enter, aZ, be, aM, Mx.bw, opnd, Mx.bF, Nat.reduceBEq, bK, Mx.fit, bI, bY, toVs, cellsOf, toV, aO, aB, ax, Mx.put, ofConst, ofCell, Mx.prune, killB, aK, putDst, au, aD, loadAt, bM, List.map, Nat.reduceAdd, Nat.reduceMul, az, bn, bq, co, bN, bD, aL, bx, lowC, forceAll, lend, lendA, aS, ay, bL, bare, bQ, bB, takeParts, bp, aR, Nat.reduceLeDiff, bJ, fineK, av, aJ, aX, bX, bE, ce, bV, bk, aI, bh, bj, bf, Op.operands, keepOf, newB, ch, bne, ↓aj, ↓aa, ↓am, bm, bH, Call.operands, ty3, ty9, ty105, ty161])
def n74K : List (Nat × List Nat) := [(0, [0, 1]), (1, [0, 1, 5]), (2, [0, 1, 5, 9]), (3, [0, 1, 5]), (4, [0, 1, 5, 23]), (5, [4]), (6, [4])]
def n74A : List (Nat × List Nat × List Nat) := [(9, [0, 1, 5], []), (23, [], [0, 1, 5])]
def n74 : cC where
  keep := keepOf n74K
  ro := fun _ => false
  mv := fun _ => false
  give := fun _ => false
  free := fun i => match i with | 4 => [(0, 1), (0, 2), (1, 2), (0, 3), (1, 3), (0, 4), (0, 5), (0, 6), (1, 6), (2, 6), (3, 6), (4, 6), (5, 6), (0, 7), (1, 7), (2, 7), (3, 7), (4, 7), (5, 7), (6, 7), (0, 8), (1, 8), (2, 8), (3, 8), (4, 8), (5, 8), (0, 9), (1, 9), (2, 9), (3, 9), (4, 9), (5, 9)] | _ => []
  alive := aliveOf n74A
theorem n74a (t : Nat) (x : Bool) (e : Env) (S : aA) : aw n74 t x ⟨e, S⟩ = atO (aliveOf n74A t x) e S := atCond_of rfl t x e S
theorem n74k (i : Nat) : n74.keep i = keepOf n74K i := rfl
theorem n74mv (t : Nat) : n74.mv t = (false) := rfl
theorem n74gv (t : Nat) : n74.give t = (false) := rfl
theorem n74f4 : n74.free 4 = [(0, 1), (0, 2), (1, 2), (0, 3), (1, 3), (0, 4), (0, 5), (0, 6), (1, 6), (2, 6), (3, 6), (4, 6), (5, 6), (0, 7), (1, 7), (2, 7), (3, 7), (4, 7), (5, 7), (6, 7), (0, 8), (1, 8), (2, 8), (3, 8), (4, 8), (5, 8), (0, 9), (1, 9), (2, 9), (3, 9), (4, 9), (5, 9)] := rfl
theorem res74 : Try.f74.results.toList = [.tmp 4] := rfl
noncomputable def b74 : Code := aQ Try.f74
noncomputable def c74_0 : Code := (bz 0 (aQ Try.f74)).getD .skip
theorem fl74_0 : bz 0 b74 = some c74_0 := rfl
def hd_value_rising_Score_value_byScore_0 (p0 : List GScore) (s : Int) : St := ⟨[(0, .v (.sl 2 (ab GScore.row p0))), (1, .clo 75 []), (5, .v (.i .i64 s))], []⟩
def ou_value_rising_Score_value_byScore_0 (p0 : List GScore) (r : Unit ⊕ Unit) : Option (Ex × St) := match r with
  | .inl r => some (.ret, ⟨[(4, .v (.b false))], []⟩)
  | .inr r => some (.normal, ⟨[], []⟩)
theorem sl_value_rising_Score_value_byScore_0 (C : ak) (k_value_byScore : K_value_byScore C) (p0 : List GScore) (p1 : Int) (o : Int ⊕ (Unit ⊕ Unit)) (hF : st_value_rising_Score_value_byScore_0 p0 p1 = some o) : evW TT C.wide n74 b74 0 (hd_value_rising_Score_value_byScore_0 p0 p1) = Sum.elim (fun s => evW TT C.wide n74 b74 0 (hd_value_rising_Score_value_byScore_0 p0 s)) (fun r => ou_value_rising_Score_value_byScore_0 p0 r) o := by
  rw [ct TT n74 fl74_0]
  revert hF
  unfold st_value_rising_Score_value_byScore_0
  try dsimp only
  refine boolY (fun h1 => ?_) (fun h1 => ?_)
  focus
    rintro ⟨⟩
  rotate_left 1
  refine matchX fun x1 h2 => ?_
  have g1 : decide (0 ≤ (IntKind.i64.wrap (p1 - 1))) = true := (cc h2).1
  have g2 : (ab GScore.row p0)[((IntKind.i64.wrap (p1 - 1)) : Int).toNat]? = some [.s x1.fMember, .i .i64 x1.fN] := ca _ h2
  refine matchX fun x2 h3 => ?_
  have g3 : decide (0 ≤ p1) = true := (cc h3).1
  have g4 : (ab GScore.row p0)[(p1 : Int).toNat]? = some [.s x2.fMember, .i .i64 x2.fN] := ca _ h3
  refine matchX fun x3 h4 => ?_
  have g5 := wide0 (k_value_byScore x1 x2 _ h4)
  try simp only [mapR_nil] at g5
  refine boolX (fun h5 => ?_) (fun h5 => ?_)
  focus
    rintro ⟨⟩
  rotate_left 1
  rintro ⟨⟩
  all_goals (show cD _ _ _ (aH _ _ _ _ (Code.seq _ _) _) = _; simp (maxSteps := 4000000) only [*, hd_value_rising_Score_value_byScore_0, ou_value_rising_Score_value_byScore_0, n74a, n74A, n74k, n74K, n74f4, n74mv, n74gv, ↓RP, RB, ↓ah, aZ, be, aM, Mx.bw, opnd, Mx.bF, Nat.reduceBEq, bK, Mx.fit, bY, aO, aB, ax, Mx.put, ofConst, ofCell, Mx.prune, killB, killBs, aK, putDst, au, loadAt, bM, List.map, Nat.reduceAdd, cm, cn, cg, bD, aL, bx, bg, kill, frz, bZ, bo, argE, argsE, bB, bJ, fineK, av, aJ, aX, bX, bE, ce, bV, bk, aI, bh, bj, bf, Op.operands, keepOf, aliveOf, atO, ck, cj, ↓aj, ↓ai, ↓aa, ↓am, bm, bH, ty3, ty4, ty51, ty105])
theorem r_value_rising_Score_value_byScore (C : ak) (k_value_byScore : K_value_byScore C) (p0 : List GScore) (r : Bool) (hF : value_rising_Score_value_byScore p0 = some r) : cF TT C.wide (evW TT C.wide n74 b74) n74 Try.f74.results.toList (aQ Try.f74) [.v (.sl 2 (ab GScore.row p0)), .clo 75 []] [] = some (.v (.b r), []) := by
  revert hF
  unfold value_rising_Score_value_byScore
  refine matchX ?_
  rintro (_ | _) h1
  focus
    dsimp only
    have g1 := cy _ _ (sl_value_rising_Score_value_byScore_0 C k_value_byScore p0) h1
    try simp only [hd_value_rising_Score_value_byScore_0, ou_value_rising_Score_value_byScore_0] at g1
    rintro ⟨⟩
  rotate_left 1
  dsimp only
  have g2 := cy _ _ (sl_value_rising_Score_value_byScore_0 C k_value_byScore p0) h1
  try simp only [hd_value_rising_Score_value_byScore_0, ou_value_rising_Score_value_byScore_0] at g2
  rintro ⟨⟩
  all_goals (rw [ba]; show cp _ _ _ (aH _ _ _ _ (Code.seq _ _) _) = _; simp (maxSteps := 4000000) only [*, res74, n74k, n74K, ↓RP, RB, enter, aZ, be, aM, Mx.bw, opnd, Mx.bF, Nat.reduceBEq, bK, Mx.fit, bY, aO, aB, Mx.put, ofConst, ofCell, Mx.prune, killB, killBs, List.map, az, bn, bq, co, bN, bD, aL, lowC, keepOf, ↓aj, ↓aa, ty3, ty4])
def n76K : List (Nat × List Nat) := [(0, [0, 1]), (1, [0, 1, 5]), (2, [0, 1, 5, 9]), (3, [0, 1, 5]), (4, [0, 1, 5, 23]), (5, [4]), (6, [4])]
def n76A : List (Nat × List Nat × List Nat) := [(9, [0, 1, 5], []), (23, [], [0, 1, 5])]
def n76 : cC where
  keep := keepOf n76K
  ro := fun _ => false
  mv := fun _ => false
  give := fun _ => false
  free := fun i => match i with | 4 => [(0, 1), (0, 2), (1, 2), (0, 3), (1, 3), (0, 4), (0, 5), (0, 6), (1, 6), (2, 6), (3, 6), (4, 6), (5, 6), (0, 7), (1, 7), (2, 7), (3, 7), (4, 7), (5, 7), (6, 7), (0, 8), (1, 8), (2, 8), (3, 8), (4, 8), (5, 8), (0, 9), (1, 9), (2, 9), (3, 9), (4, 9), (5, 9)] | _ => []
  alive := aliveOf n76A
theorem n76a (t : Nat) (x : Bool) (e : Env) (S : aA) : aw n76 t x ⟨e, S⟩ = atO (aliveOf n76A t x) e S := atCond_of rfl t x e S
theorem n76k (i : Nat) : n76.keep i = keepOf n76K i := rfl
theorem n76mv (t : Nat) : n76.mv t = (false) := rfl
theorem n76gv (t : Nat) : n76.give t = (false) := rfl
theorem n76f4 : n76.free 4 = [(0, 1), (0, 2), (1, 2), (0, 3), (1, 3), (0, 4), (0, 5), (0, 6), (1, 6), (2, 6), (3, 6), (4, 6), (5, 6), (0, 7), (1, 7), (2, 7), (3, 7), (4, 7), (5, 7), (6, 7), (0, 8), (1, 8), (2, 8), (3, 8), (4, 8), (5, 8), (0, 9), (1, 9), (2, 9), (3, 9), (4, 9), (5, 9)] := rfl
theorem res76 : Try.f76.results.toList = [.tmp 4] := rfl
noncomputable def b76 : Code := aQ Try.f76
noncomputable def c76_0 : Code := (bz 0 (aQ Try.f76)).getD .skip
theorem fl76_0 : bz 0 b76 = some c76_0 := rfl
def hd_value_rising_string_strings_Compare_0 (p0 : List ByteArray) (s : Int) : St := ⟨[(0, .v (.sl 1 (ab aY p0))), (1, .clo 77 []), (5, .v (.i .i64 s))], []⟩
def ou_value_rising_string_strings_Compare_0 (p0 : List ByteArray) (r : Unit ⊕ Unit) : Option (Ex × St) := match r with
  | .inl r => some (.ret, ⟨[(4, .v (.b false))], []⟩)
  | .inr r => some (.normal, ⟨[], []⟩)
theorem sl_value_rising_string_strings_Compare_0 (C : ak) (k_strings_Compare : K_strings_Compare C) (p0 : List ByteArray) (p1 : Int) (o : Int ⊕ (Unit ⊕ Unit)) (hF : st_value_rising_string_strings_Compare_0 p0 p1 = some o) : evW TT C.wide n76 b76 0 (hd_value_rising_string_strings_Compare_0 p0 p1) = Sum.elim (fun s => evW TT C.wide n76 b76 0 (hd_value_rising_string_strings_Compare_0 p0 s)) (fun r => ou_value_rising_string_strings_Compare_0 p0 r) o := by
  rw [ct TT n76 fl76_0]
  revert hF
  unfold st_value_rising_string_strings_Compare_0
  try dsimp only
  refine boolY (fun h1 => ?_) (fun h1 => ?_)
  focus
    rintro ⟨⟩
  rotate_left 1
  refine matchX fun x1 h2 => ?_
  have g1 : decide (0 ≤ (IntKind.i64.wrap (p1 - 1))) = true := (cc h2).1
  have g2 : (ab aY p0)[((IntKind.i64.wrap (p1 - 1)) : Int).toNat]? = some [.s x1] := ca _ h2
  refine matchX fun x2 h3 => ?_
  have g3 : decide (0 ≤ p1) = true := (cc h3).1
  have g4 : (ab aY p0)[(p1 : Int).toNat]? = some [.s x2] := ca _ h3
  have g5 := wide0 (k_strings_Compare x1 x2 _ (strings_Compare_t x1 x2))
  try simp only [mapR_nil] at g5
  refine boolX (fun h4 => ?_) (fun h4 => ?_)
  focus
    rintro ⟨⟩
  rotate_left 1
  rintro ⟨⟩
  all_goals (show cD _ _ _ (aH _ _ _ _ (Code.seq _ _) _) = _; simp (maxSteps := 4000000) only [*, hd_value_rising_string_strings_Compare_0, ou_value_rising_string_strings_Compare_0, n76a, n76A, n76k, n76K, n76f4, n76mv, n76gv, ↓RP, RB, ↓ah, aZ, be, aM, Mx.bw, opnd, Mx.bF, Nat.reduceBEq, bK, Mx.fit, bY, aO, aB, ax, Mx.put, ofConst, ofCell, Mx.prune, killB, killBs, aK, putDst, au, loadAt, bM, List.map, cm, cn, cg, bD, aL, bx, bg, kill, frz, bZ, bo, argE, argsE, bB, bJ, fineK, av, aJ, aX, bX, bE, ce, bV, bk, aI, bh, bj, bf, Op.operands, keepOf, aliveOf, atO, ck, cj, ↓aj, ↓ai, ↓aa, ↓am, bm, bH, ty3, ty4, ty9, ty50])
theorem r_value_rising_string_strings_Compare (C : ak) (k_strings_Compare : K_strings_Compare C) (p0 : List ByteArray) (r : Bool) (hF : value_rising_string_strings_Compare p0 = some r) : cF TT C.wide (evW TT C.wide n76 b76) n76 Try.f76.results.toList (aQ Try.f76) [.v (.sl 1 (ab aY p0)), .clo 77 []] [] = some (.v (.b r), []) := by
  revert hF
  unfold value_rising_string_strings_Compare
  refine matchX ?_
  rintro (_ | _) h1
  focus
    dsimp only
    have g1 := cy _ _ (sl_value_rising_string_strings_Compare_0 C k_strings_Compare p0) h1
    try simp only [hd_value_rising_string_strings_Compare_0, ou_value_rising_string_strings_Compare_0] at g1
    rintro ⟨⟩
  rotate_left 1
  dsimp only
  have g2 := cy _ _ (sl_value_rising_string_strings_Compare_0 C k_strings_Compare p0) h1
  try simp only [hd_value_rising_string_strings_Compare_0, ou_value_rising_string_strings_Compare_0] at g2
  rintro ⟨⟩
  all_goals (rw [ba]; show cp _ _ _ (aH _ _ _ _ (Code.seq _ _) _) = _; simp (maxSteps := 4000000) only [*, res76, n76k, n76K, ↓RP, RB, enter, aZ, be, aM, Mx.bw, opnd, Mx.bF, Nat.reduceBEq, bK, Mx.fit, bY, aO, aB, Mx.put, ofConst, ofCell, Mx.prune, killB, killBs, List.map, az, bn, bq, co, bN, bD, aL, lowC, keepOf, ↓aj, ↓aa, ty3, ty4])
def n114K : List (Nat × List Nat) := [(0, [1, 2]), (1, [3])]
def n114 : cC where
  keep := keepOf n114K
  ro := fun t => t == 2
  mv := fun _ => false
  give := fun _ => false
  free := fun _ => []
theorem n114k (i : Nat) : n114.keep i = keepOf n114K i := rfl
theorem n114ro (t : Nat) : n114.ro t = (t == 2) := rfl
theorem n114mv (t : Nat) : n114.mv t = (false) := rfl
theorem res114 : Try.f114.results.toList = [.tmp 3] := rfl
noncomputable def b114 : Code := aQ Try.f114
theorem r_value_rank_fn1 (C : ak)  (p0 : GScore) (p1 : ByteArray) (r : Bool × ByteArray) (hF : value_rank_fn1 p0 p1 = some r) : cF TT C.wide (evW TT C.wide n114 b114) n114 Try.f114.results.toList (aQ Try.f114) [.agg [.v (.s p0.fMember), .v (.i .i64 p0.fN)], .ptr 0 0] [[.v (.s p1)]] = some (.v (.b r.1), [[.v (.s r.2)]]) := by
  revert hF
  unfold value_rank_fn1
  rintro ⟨⟩
  all_goals (rw [ba]; show cp _ _ _ (aH _ _ _ _ (Code.seq _ _) _) = _; simp (maxSteps := 4000000) only [*, res114, n114k, n114K, n114ro, n114mv, ↓RP, RB, enter, aZ, be, aM, Mx.bw, opnd, Mx.bF, Nat.reduceBEq, bK, Mx.fit, bI, bY, toVs, cellsOf, toV, aO, aB, ax, Mx.put, ofConst, ofCell, Mx.prune, killB, aK, putDst, au, aD, loadAt, bM, List.map, cm, cn, az, bn, bq, co, bN, bD, aL, lowC, keepOf, ↓aj, ↓aa, ty4, ty9, ty105])
def hd_slices_IndexFunc_Score_Score_value_rank_fn1_0 (p0 : List GScore) (p1 : Int) (s : Int × ByteArray) : St := ⟨[(0, .v (.sl 2 (ab GScore.row p0))), (1, .clo 114 [.ptr 0 0]), (7, .v (.i .i64 p1)), (8, .v (.i .i64 s.1))], [[.v (.s s.2)]]⟩
def ou_slices_IndexFunc_Score_Score_value_rank_fn1_0 (p0 : List GScore) (p1 : Int) (r : (Int × ByteArray) ⊕ ByteArray) : Option (Ex × St) := match r with
  | .inl r => some (.ret, ⟨[(4, .v (.i .i64 r.1))], [[.v (.s r.2)]]⟩)
  | .inr r => some (.normal, ⟨[], [[.v (.s r)]]⟩)
theorem sl_slices_IndexFunc_Score_Score_value_rank_fn1_0 (C : ak) (k_value_rank_fn1 : K_value_rank_fn1 C) (p0 : List GScore) (p1 : Int) (s : Int × ByteArray) (o : (Int × ByteArray) ⊕ ((Int × ByteArray) ⊕ ByteArray)) (hF : st_slices_IndexFunc_Score_Score_value_rank_fn1_0 p0 p1 s = some o) : evW TT C.wide n110 b110 0 (hd_slices_IndexFunc_Score_Score_value_rank_fn1_0 p0 p1 s) = Sum.elim (fun s => evW TT C.wide n110 b110 0 (hd_slices_IndexFunc_Score_Score_value_rank_fn1_0 p0 p1 s)) (fun r => ou_slices_IndexFunc_Score_Score_value_rank_fn1_0 p0 p1 r) o := by
  obtain ⟨p2, p3⟩ := s
  rw [ct TT n110 fl110_0]
  revert hF
  unfold st_slices_IndexFunc_Score_Score_value_rank_fn1_0
  try dsimp only
  refine boolY (fun h1 => ?_) (fun h1 => ?_)
  focus
    rintro ⟨⟩
  rotate_left 1
  refine matchX fun x1 h2 => ?_
  have g1 : decide (0 ≤ p2) = true := (cc h2).1
  have g2 : (ab GScore.row p0)[(p2 : Int).toNat]? = some [.s x1.fMember, .i .i64 x1.fN] := ca _ h2
  refine matchX ?_
  rintro ⟨x2, x3⟩ h3
  dsimp only
  have g3 : C.wide 114 [.agg [.v (.s x1.fMember), .v (.i .i64 x1.fN)], .ptr 0 0] [[.v (.s p3)]] = some (.v (.b x2), [[.v (.s x3)]]) := cB [0] rfl rfl rfl rfl (k_value_rank_fn1 x1 p3 _ h3) rfl rfl
  refine boolX (fun h4 => ?_) (fun h4 => ?_)
  focus
    rintro ⟨⟩
  rotate_left 1
  rintro ⟨⟩
  all_goals (show cD _ _ _ (aH _ _ _ _ (Code.seq _ _) _) = _; simp (maxSteps := 4000000) only [*, hd_slices_IndexFunc_Score_Score_value_rank_fn1_0, ou_slices_IndexFunc_Score_Score_value_rank_fn1_0, n110a, n110A, n110k, n110K, n110mv, n110gv, ↓RP, RB, ↓ah, aZ, be, aM, Mx.bw, opnd, Mx.bF, Nat.reduceBEq, bK, Mx.fit, bY, aO, aB, ax, Mx.put, ofConst, ofCell, Mx.prune, killB, killBs, aK, putDst, au, loadAt, bM, List.map, Nat.reduceAdd, cm, cn, bD, aL, bx, bg, kill, frz, bZ, bo, argE, argsE, keepOf, aliveOf, atO, ck, cj, ↓aj, ↓ai, ↓aa, ty3, ty51, ty105])
theorem r_slices_IndexFunc_Score_Score_value_rank_fn1 (C : ak) (k_value_rank_fn1 : K_value_rank_fn1 C) (p0 : List GScore) (p1 : ByteArray) (r : Int × ByteArray) (hF : slices_IndexFunc_Score_Score_value_rank_fn1 p0 p1 = some r) : cF TT C.wide (evW TT C.wide n110 b110) n110 Try.f110.results.toList (aQ Try.f110) [.v (.sl 2 (ab GScore.row p0)), .clo 114 [.ptr 0 0]] [[.v (.s p1)]] = some (.v (.i .i64 r.1), [[.v (.s r.2)]]) := by
  revert hF
  unfold slices_IndexFunc_Score_Score_value_rank_fn1
  refine matchX ?_
  rintro (⟨x1, x2⟩ | x1) h1
  focus
    dsimp only
    have g1 := cy _ _ (sl_slices_IndexFunc_Score_Score_value_rank_fn1_0 C k_value_rank_fn1 p0 (p0.length : Int)) h1
    try simp only [hd_slices_IndexFunc_Score_Score_value_rank_fn1_0, ou_slices_IndexFunc_Score_Score_value_rank_fn1_0] at g1
    rintro ⟨⟩
  rotate_left 1
  dsimp only
  have g2 := cy _ _ (sl_slices_IndexFunc_Score_Score_value_rank_fn1_0 C k_value_rank_fn1 p0 (p0.length : Int)) h1
  try simp only [hd_slices_IndexFunc_Score_Score_value_rank_fn1_0, ou_slices_IndexFunc_Score_Score_value_rank_fn1_0] at g2
  rintro ⟨⟩
  all_goals (rw [ba]; show cp _ _ _ (aH _ _ _ _ (Code.seq _ _) _) = _; simp (maxSteps := 4000000) only [*, res110, n110k, n110K, ↓RP, RB, enter, aZ, be, aM, Mx.bw, opnd, Mx.bF, Nat.reduceBEq, bK, Mx.fit, bY, aO, aB, Mx.put, ofConst, ofCell, Mx.prune, killB, killBs, aK, putDst, au, List.map, cg, az, bn, bq, co, bN, bD, aL, lowC, Int.reduceNeg, keepOf, ↓aj, ↓aa, ty3, ty51])
def n78K : List (Nat × List Nat) := [(0, [0, 3]), (1, [4])]
def n78 : cC where
  keep := keepOf n78K
  ro := fun _ => false
  mv := fun _ => false
  give := fun _ => false
  free := fun _ => []
theorem n78k (i : Nat) : n78.keep i = keepOf n78K i := rfl
theorem n78ro (t : Nat) : n78.ro t = (false) := rfl
theorem n78gv (t : Nat) : n78.give t = (false) := rfl
theorem res78 : Try.f78.results.toList = [.tmp 4] := rfl
noncomputable def b78 : Code := aQ Try.f78
theorem r_value_rank (C : ak) (k_slices_IndexFunc_Score_Score_value_rank_fn1 : K_slices_IndexFunc_Score_Score_value_rank_fn1 C) (p0 : List GScore) (p1 : ByteArray) (r : Int) (hF : value_rank p0 p1 = some r) : cF TT C.wide (evW TT C.wide n78 b78) n78 Try.f78.results.toList (aQ Try.f78) [.v (.sl 2 (ab GScore.row p0)), .v (.s p1)] [] = some (.v (.i .i64 r), []) := by
  revert hF
  unfold value_rank
  refine matchX ?_
  rintro ⟨x1, x2⟩ h1
  dsimp only
  have g1 : C.wide 110 [.v (.sl 2 (ab GScore.row p0)), .clo 114 [.ptr 0 0]] [[.v (.s p1)]] = some (.v (.i .i64 x1), [[.v (.s x2)]]) := cB [0] rfl rfl rfl rfl (k_slices_IndexFunc_Score_Score_value_rank_fn1 p0 p1 _ h1) rfl rfl
  rintro ⟨⟩
  all_goals (rw [ba]; show cp _ _ _ (aH _ _ _ _ (Code.seq _ _) _) = _; simp (maxSteps := 4000000) only [*, res78, n78k, n78K, n78ro, n78gv, ↓RP, RB, enter, aZ, be, aM, Mx.bw, opnd, Mx.bF, Nat.reduceBEq, bK, Mx.fit, bY, toVs, cellsOf, toV, aO, aB, Mx.put, ofConst, ofCell, Mx.prune, killB, killBs, aK, putDst, au, ao, List.map, az, bn, bq, co, bN, bD, aL, bx, lowC, forceAll, kill, lend, lendA, aS, ay, bL, bare, bQ, frz, bZ, bo, argE, argsE, keepOf, newB, ch, ↓aj, ↓aa, ty3, ty9])
def n28K : List (Nat × List Nat) := [(0, [1]), (1, [1, 14]), (2, [2]), (3, [1, 3]), (4, [1, 3, 17]), (5, [1, 3]), (6, [1, 3, 17, 19]), (7, [1, 3]), (8, [1, 3, 17, 22]), (9, [1, 3]), (10, [1, 3, 17, 25]), (11, [1, 3]), (12, [1, 3, 28]), (13, [1, 3]), (14, [1, 43]), (15, [2]), (16, [1, 56]), (17, [2]), (18, [1, 65]), (19, [2]), (20, [1, 68]), (21, [2]), (22, [1, 71]), (23, [2]), (24, [1, 80]), (25, [2]), (26, [1, 4]), (27, [1, 4, 100, 101, 102]), (28, [1, 4, 100, 101, 102, 103]), (29, [1, 4, 5, 6, 100, 101, 102]), (30, [1, 4, 100, 101, 102]), (31, [1, 4, 100, 101, 102]), (32, [120]), (33, [2]), (34, [2])]
def n28A : List (Nat × List Nat × List Nat) := [(14, [], [1]), (19, [1, 3], [1, 3, 17]), (22, [1, 3], [1, 3, 17]), (25, [1, 3], [1, 3, 17]), (28, [1, 3], [1, 3]), (43, [], [1]), (56, [], [1]), (65, [], [1]), (68, [], [1]), (71, [], [1]), (80, [], [1]), (103, [1, 4, 100, 101, 102], [4]), (120, [], [])]
def n28 : cC where
  keep := keepOf n28K
  ro := fun t => t == 1
  mv := fun _ => false
  give := fun _ => false
  free := fun i => match i with | 30 => [(2, 4), (3, 4), (2, 6), (3, 6), (4, 6), (5, 6), (2, 7), (3, 7), (4, 7), (5, 7)] | _ => []
  alive := aliveOf n28A
theorem n28a (t : Nat) (x : Bool) (e : Env) (S : aA) : aw n28 t x ⟨e, S⟩ = atO (aliveOf n28A t x) e S := atCond_of rfl t x e S
theorem n28k (i : Nat) : n28.keep i = keepOf n28K i := rfl
theorem n28ro (t : Nat) : n28.ro t = (t == 1) := rfl
theorem n28mv (t : Nat) : n28.mv t = (false) := rfl
theorem n28f30 : n28.free 30 = [(2, 4), (3, 4), (2, 6), (3, 6), (4, 6), (5, 6), (2, 7), (3, 7), (4, 7), (5, 7)] := rfl
theorem res28 : Try.f28.results.toList = [.tmp 2] := rfl
noncomputable def b28 : Code := aQ Try.f28
noncomputable def c28_1 : Code := (bz 1 (aQ Try.f28)).getD .skip
theorem fl28_1 : bz 1 b28 = some c28_1 := rfl
theorem rg_value_Check_k16 (C : ak) (k_value_elements : K_value_elements C) (p0 : GValue) (p1 : Int) (p2 : Int) (p3 : List GPair) (p4 : List ByteArray) (p5 : List GScore) (c : Code) (ho : cr 0 16 b28 = some c) (r : Bool) (hF : ck_value_Check_k16 p0 p1 p2 p3 p4 p5 = some r) : @cR TT C.wide (evW TT C.wide n28 b28) n28 0 16 ⟨[(1, .rp [.i .i64 p0.fKind, .s p0.fText, .i .i64 p0.fCount, .sl 2 (ab GPair.row p0.fPairs), .sl 1 (ab aY p0.fItems), .sl 2 (ab GScore.row p0.fScores)])], [[.v (.i .i64 p1), .v (.s ByteArray.empty), .v (.i .i64 p2), .v (.sl 2 (ab GPair.row p3)), .v (.sl 1 (ab aY p4)), .v (.sl 2 (ab GScore.row p5))]]⟩ ⟨c⟩ = some (.normal, ⟨[(1, .rp [.i .i64 p0.fKind, .s p0.fText, .i .i64 p0.fCount, .sl 2 (ab GPair.row p0.fPairs), .sl 1 (ab aY p0.fItems), .sl 2 (ab GScore.row p0.fScores)]), (56, .v (.b r))], [[.v (.i .i64 p1), .v (.s ByteArray.empty), .v (.i .i64 p2), .v (.sl 2 (ab GPair.row p3)), .v (.sl 1 (ab aY p4)), .v (.sl 2 (ab GScore.row p5))]]⟩) := by
  have e := Option.some.inj (ho.symm.trans (rfl : cr 0 16 b28 = some _))
  subst e
  clear ho
  show aH _ _ _ _ _ _ = _
  revert hF
  unfold ck_value_Check_k16
  refine boolY (fun h1 => ?_) (fun h1 => ?_)
  focus
    rintro ⟨⟩
  rotate_left 1
  have g1 := wide0 (k_value_elements p0 _ (value_elements_t p0))
  try simp only [mapR_nil] at g1
  refine boolX (fun h2 => ?_) (fun h2 => ?_)
  focus
    rintro ⟨⟩
  rotate_left 1
  rintro ⟨⟩
  all_goals (simp (maxSteps := 4000000) only [*, n28k, n28K, n28mv, ↓RP, RB, aW, aC, aZ, Mx.bw, opnd, Mx.bF, Nat.reduceBEq, bK, aO, aB, ax, Mx.put, ofConst, ofCell, Mx.prune, killB, aK, putDst, au, aD, loadAt, bM, List.map, Nat.reduceAdd, cm, cn, forceAll, lend, lendA, aS, ay, bL, bare, bQ, keepOf, newB, ch, ck, cj, bc, ty3, ty53, ↓aa _ _ _ _ 16])
theorem rg_value_Check_k26 (C : ak) (k_value_rising_Pair_value_byField : K_value_rising_Pair_value_byField C) (k_value_rising_Score_value_byScore : K_value_rising_Score_value_byScore C) (k_value_rising_string_strings_Compare : K_value_rising_string_strings_Compare C) (p0 : GValue) (p1 : Int) (p2 : Int) (p3 : List GPair) (p4 : List ByteArray) (p5 : List GScore) (c : Code) (ho : cr 0 26 b28 = some c) (r : Bool) (hF : ck_value_Check_k26 p0 p1 p2 p3 p4 p5 = some r) : @cR TT C.wide (evW TT C.wide n28 b28) n28 0 26 ⟨[(1, .rp [.i .i64 p0.fKind, .s p0.fText, .i .i64 p0.fCount, .sl 2 (ab GPair.row p0.fPairs), .sl 1 (ab aY p0.fItems), .sl 2 (ab GScore.row p0.fScores)])], [[.v (.i .i64 p1), .v (.s ByteArray.empty), .v (.i .i64 p2), .v (.sl 2 (ab GPair.row p3)), .v (.sl 1 (ab aY p4)), .v (.sl 2 (ab GScore.row p5))]]⟩ ⟨c⟩ = some (.normal, ⟨[(1, .rp [.i .i64 p0.fKind, .s p0.fText, .i .i64 p0.fCount, .sl 2 (ab GPair.row p0.fPairs), .sl 1 (ab aY p0.fItems), .sl 2 (ab GScore.row p0.fScores)]), (4, .v (.b r))], [[.v (.i .i64 p1), .v (.s ByteArray.empty), .v (.i .i64 p2), .v (.sl 2 (ab GPair.row p3)), .v (.sl 1 (ab aY p4)), .v (.sl 2 (ab GScore.row p5))]]⟩) := by
  have e := Option.some.inj (ho.symm.trans (rfl : cr 0 26 b28 = some _))
  subst e
  clear ho
  show aH _ _ _ _ _ _ = _
  revert hF
  unfold ck_value_Check_k26
  refine matchX fun x1 h1 => ?_
  have g1 := wide0 (k_value_rising_Pair_value_byField p0.fPairs _ h1)
  try simp only [mapR_nil] at g1
  refine boolY (fun h2 => ?_) (fun h2 => ?_)
  focus
    rintro ⟨⟩
  rotate_left 1
  refine matchX fun x2 h3 => ?_
  have g2 := wide0 (k_value_rising_Score_value_byScore p0.fScores _ h3)
  try simp only [mapR_nil] at g2
  refine boolY (fun h4 => ?_) (fun h4 => ?_)
  focus
    rintro ⟨⟩
  rotate_left 1
  refine boolY (fun h5 => ?_) (fun h5 => ?_)
  focus
    rintro ⟨⟩
  rotate_left 1
  refine matchX fun x3 h6 => ?_
  have g3 := wide0 (k_value_rising_string_strings_Compare p0.fItems _ h6)
  try simp only [mapR_nil] at g3
  rintro ⟨⟩
  all_goals (simp (maxSteps := 4000000) only [*, n28k, n28K, n28mv, ↓RP, RB, aW, aC, aZ, be, aM, Mx.bw, opnd, Mx.bF, Nat.reduceBEq, bK, Mx.fit, bY, aO, aB, ax, Mx.put, ofConst, ofCell, Mx.prune, killB, aK, putDst, au, aD, loadAt, bM, List.map, cm, cn, forceAll, lend, lendA, aS, ay, bL, bare, bQ, keepOf, newB, ch, ck, cj, bne, bc, ty3, ty4, ty49, ty50, ty51, ty53, ↓aa _ _ _ _ 26])
def hd_value_Check_1 (p0 : GValue) (p2 : List GScore) (p3 : Int) (p5 : Int) (p6 : Int) (p7 : List GPair) (p8 : List ByteArray) (s : Bool × Int) : St := ⟨[(1, .rp [.i .i64 p0.fKind, .s p0.fText, .i .i64 p0.fCount, .sl 2 (ab GPair.row p0.fPairs), .sl 1 (ab aY p0.fItems), .sl 2 (ab GScore.row p0.fScores)]), (4, .v (.b s.1)), (100, .v (.sl 2 (ab GScore.row p2))), (101, .v (.i .i64 p3)), (102, .v (.i .i64 s.2))], [[.v (.i .i64 p5), .v (.s ByteArray.empty), .v (.i .i64 p6), .v (.sl 2 (ab GPair.row p7)), .v (.sl 1 (ab aY p8)), .v (.sl 2 (ab GScore.row p2))]]⟩
def ou_value_Check_1 (p0 : GValue) (p2 : List GScore) (p3 : Int) (p5 : Int) (p6 : Int) (p7 : List GPair) (p8 : List ByteArray) (r : Bool) : Option (Ex × St) := some (.normal, ⟨[(4, .v (.b r))], [[.v (.i .i64 p5), .v (.s ByteArray.empty), .v (.i .i64 p6), .v (.sl 2 (ab GPair.row p7)), .v (.sl 1 (ab aY p8)), .v (.sl 2 (ab GScore.row p2))]]⟩)
theorem sl_value_Check_1 (C : ak) (k_value_rank : K_value_rank C) (p0 : GValue) (p2 : List GScore) (p3 : Int) (p5 : Int) (p6 : Int) (p7 : List GPair) (p8 : List ByteArray) (s : Bool × Int) (o : (Bool × Int) ⊕ Bool) (hF : st_value_Check_1 p0 p2 p3 p5 p6 p7 p8 s = some o) : evW TT C.wide n28 b28 1 (hd_value_Check_1 p0 p2 p3 p5 p6 p7 p8 s) = Sum.elim (fun s => evW TT C.wide n28 b28 1 (hd_value_Check_1 p0 p2 p3 p5 p6 p7 p8 s)) (fun r => ou_value_Check_1 p0 p2 p3 p5 p6 p7 p8 r) o := by
  obtain ⟨p1, p4⟩ := s
  rw [ct TT n28 fl28_1]
  revert hF
  unfold st_value_Check_1
  try dsimp only
  refine boolY (fun h1 => ?_) (fun h1 => ?_)
  focus
    rintro ⟨⟩
  rotate_left 1
  refine matchX fun x1 h2 => ?_
  have g1 : decide (0 ≤ p4) = true := (cc h2).1
  have g2 : (ab GScore.row p2)[(p4 : Int).toNat]? = some [.s x1.fMember, .i .i64 x1.fN] := ca _ h2
  refine boolY (fun h3 => ?_) (fun h3 => ?_)
  focus
    rintro ⟨⟩
  rotate_left 1
  refine boolX (fun h4 => ?_) (fun _ => nofun)
  refine matchX fun x2 h5 => ?_
  have g3 := wide0 (k_value_rank (cI p0.fScores 0 p4) x1.fMember _ h5)
  try simp only [mapR_nil] at g3
  rintro ⟨⟩
  all_goals (show cD _ _ _ (aH _ _ _ _ (Code.seq _ _) _) = _; simp (maxSteps := 4000000) only [*, hd_value_Check_1, ou_value_Check_1, n28a, n28A, n28k, n28K, n28f30, n28mv, ↓RP, RB, ↓ah, aW, aC, aZ, be, aM, Mx.bw, opnd, Mx.bF, Nat.reduceBEq, bK, Mx.fit, bI, bY, cellsOf, aO, aB, ax, Mx.put, ofConst, ofCell, Mx.prune, killB, killBs, aK, putDst, au, aD, loadAt, bM, List.map, Nat.reduceAdd, cm, cn, cg, bD, aL, lowC, forceAll, bound, bW, bg, br, kill, lend, lendA, aS, ay, bL, bare, bQ, bB, setCells, Nat.reduceSub, Nat.reduceLeDiff, lowA, bi, bJ, fineK, av, aJ, aX, bX, bE, ce, bV, bk, aI, bh, bj, bf, Op.operands, keepOf, aliveOf, atO, newB, ch, ck, cj, bne, ↓aj, ↓ai, bc, bm, bH, Call.operands, ty3, ty4, ty9, ty51, ty53, ty105, ↓aa _ _ _ _ 28, ↓aa _ _ _ _ 29, ↓am _ _ _ _ 30, ↓aa _ _ _ _ 31])
theorem rg_value_Check_k16v2 (C : ak) (k_value_elements : K_value_elements C) (p0 : GValue) (p1 : Int) (p2 : ByteArray) (p3 : List GPair) (p4 : List ByteArray) (p5 : List GScore) (c : Code) (ho : cr 0 16 b28 = some c) (r : Bool) (hF : ck_value_Check_k16v2 p0 p1 p2 p3 p4 p5 = some r) : @cR TT C.wide (evW TT C.wide n28 b28) n28 0 16 ⟨[(1, .rp [.i .i64 p0.fKind, .s p0.fText, .i .i64 p0.fCount, .sl 2 (ab GPair.row p0.fPairs), .sl 1 (ab aY p0.fItems), .sl 2 (ab GScore.row p0.fScores)])], [[.v (.i .i64 p1), .v (.s p2), .v (.i .i64 0), .v (.sl 2 (ab GPair.row p3)), .v (.sl 1 (ab aY p4)), .v (.sl 2 (ab GScore.row p5))]]⟩ ⟨c⟩ = some (.normal, ⟨[(1, .rp [.i .i64 p0.fKind, .s p0.fText, .i .i64 p0.fCount, .sl 2 (ab GPair.row p0.fPairs), .sl 1 (ab aY p0.fItems), .sl 2 (ab GScore.row p0.fScores)]), (56, .v (.b r))], [[.v (.i .i64 p1), .v (.s p2), .v (.i .i64 0), .v (.sl 2 (ab GPair.row p3)), .v (.sl 1 (ab aY p4)), .v (.sl 2 (ab GScore.row p5))]]⟩) := by
  have e := Option.some.inj (ho.symm.trans (rfl : cr 0 16 b28 = some _))
  subst e
  clear ho
  show aH _ _ _ _ _ _ = _
  revert hF
  unfold ck_value_Check_k16v2
  refine boolY (fun h1 => ?_) (fun h1 => ?_)
  focus
    rintro ⟨⟩
  rotate_left 1
  have g1 := wide0 (k_value_elements p0 _ (value_elements_t p0))
  try simp only [mapR_nil] at g1
  refine boolX (fun h2 => ?_) (fun h2 => ?_)
  focus
    rintro ⟨⟩
  rotate_left 1
  rintro ⟨⟩
  all_goals (simp (maxSteps := 4000000) only [*, n28k, n28K, n28mv, ↓RP, RB, aW, aC, aZ, Mx.bw, opnd, Mx.bF, Nat.reduceBEq, bK, aO, aB, ax, Mx.put, ofConst, ofCell, Mx.prune, killB, aK, putDst, au, aD, loadAt, bM, List.map, Nat.reduceAdd, cm, cn, forceAll, lend, lendA, aS, ay, bL, bare, bQ, keepOf, newB, ch, ck, cj, bc, ty3, ty53, ↓aa _ _ _ _ 16])
theorem rg_value_Check_k26v2 (C : ak) (k_value_rising_Pair_value_byField : K_value_rising_Pair_value_byField C) (k_value_rising_Score_value_byScore : K_value_rising_Score_value_byScore C) (k_value_rising_string_strings_Compare : K_value_rising_string_strings_Compare C) (p0 : GValue) (p1 : Int) (p2 : ByteArray) (p3 : List GPair) (p4 : List ByteArray) (p5 : List GScore) (c : Code) (ho : cr 0 26 b28 = some c) (r : Bool) (hF : ck_value_Check_k26v2 p0 p1 p2 p3 p4 p5 = some r) : @cR TT C.wide (evW TT C.wide n28 b28) n28 0 26 ⟨[(1, .rp [.i .i64 p0.fKind, .s p0.fText, .i .i64 p0.fCount, .sl 2 (ab GPair.row p0.fPairs), .sl 1 (ab aY p0.fItems), .sl 2 (ab GScore.row p0.fScores)])], [[.v (.i .i64 p1), .v (.s p2), .v (.i .i64 0), .v (.sl 2 (ab GPair.row p3)), .v (.sl 1 (ab aY p4)), .v (.sl 2 (ab GScore.row p5))]]⟩ ⟨c⟩ = some (.normal, ⟨[(1, .rp [.i .i64 p0.fKind, .s p0.fText, .i .i64 p0.fCount, .sl 2 (ab GPair.row p0.fPairs), .sl 1 (ab aY p0.fItems), .sl 2 (ab GScore.row p0.fScores)]), (4, .v (.b r))], [[.v (.i .i64 p1), .v (.s p2), .v (.i .i64 0), .v (.sl 2 (ab GPair.row p3)), .v (.sl 1 (ab aY p4)), .v (.sl 2 (ab GScore.row p5))]]⟩) := by
  have e := Option.some.inj (ho.symm.trans (rfl : cr 0 26 b28 = some _))
  subst e
  clear ho
  show aH _ _ _ _ _ _ = _
  revert hF
  unfold ck_value_Check_k26v2
  refine matchX fun x1 h1 => ?_
  have g1 := wide0 (k_value_rising_Pair_value_byField p0.fPairs _ h1)
  try simp only [mapR_nil] at g1
  refine boolY (fun h2 => ?_) (fun h2 => ?_)
  focus
    rintro ⟨⟩
  rotate_left 1
  refine matchX fun x2 h3 => ?_
  have g2 := wide0 (k_value_rising_Score_value_byScore p0.fScores _ h3)
  try simp only [mapR_nil] at g2
  refine boolY (fun h4 => ?_) (fun h4 => ?_)
  focus
    rintro ⟨⟩
  rotate_left 1
  refine boolY (fun h5 => ?_) (fun h5 => ?_)
  focus
    rintro ⟨⟩
  rotate_left 1
  refine matchX fun x3 h6 => ?_
  have g3 := wide0 (k_value_rising_string_strings_Compare p0.fItems _ h6)
  try simp only [mapR_nil] at g3
  rintro ⟨⟩
  all_goals (simp (maxSteps := 4000000) only [*, n28k, n28K, n28mv, ↓RP, RB, aW, aC, aZ, be, aM, Mx.bw, opnd, Mx.bF, Nat.reduceBEq, bK, Mx.fit, bY, aO, aB, ax, Mx.put, ofConst, ofCell, Mx.prune, killB, aK, putDst, au, aD, loadAt, bM, List.map, cm, cn, forceAll, lend, lendA, aS, ay, bL, bare, bQ, keepOf, newB, ch, ck, cj, bne, bc, ty3, ty4, ty49, ty50, ty51, ty53, ↓aa _ _ _ _ 26])
def hd_value_Check_1v2 (p0 : GValue) (p2 : List GScore) (p3 : Int) (p5 : Int) (p6 : ByteArray) (p7 : List GPair) (p8 : List ByteArray) (s : Bool × Int) : St := ⟨[(1, .rp [.i .i64 p0.fKind, .s p0.fText, .i .i64 p0.fCount, .sl 2 (ab GPair.row p0.fPairs), .sl 1 (ab aY p0.fItems), .sl 2 (ab GScore.row p0.fScores)]), (4, .v (.b s.1)), (100, .v (.sl 2 (ab GScore.row p2))), (101, .v (.i .i64 p3)), (102, .v (.i .i64 s.2))], [[.v (.i .i64 p5), .v (.s p6), .v (.i .i64 0), .v (.sl 2 (ab GPair.row p7)), .v (.sl 1 (ab aY p8)), .v (.sl 2 (ab GScore.row p2))]]⟩
def ou_value_Check_1v2 (p0 : GValue) (p2 : List GScore) (p3 : Int) (p5 : Int) (p6 : ByteArray) (p7 : List GPair) (p8 : List ByteArray) (r : Bool) : Option (Ex × St) := some (.normal, ⟨[(4, .v (.b r))], [[.v (.i .i64 p5), .v (.s p6), .v (.i .i64 0), .v (.sl 2 (ab GPair.row p7)), .v (.sl 1 (ab aY p8)), .v (.sl 2 (ab GScore.row p2))]]⟩)
theorem sl_value_Check_1v2 (C : ak) (k_value_rank : K_value_rank C) (p0 : GValue) (p2 : List GScore) (p3 : Int) (p5 : Int) (p6 : ByteArray) (p7 : List GPair) (p8 : List ByteArray) (s : Bool × Int) (o : (Bool × Int) ⊕ Bool) (hF : st_value_Check_1v2 p0 p2 p3 p5 p6 p7 p8 s = some o) : evW TT C.wide n28 b28 1 (hd_value_Check_1v2 p0 p2 p3 p5 p6 p7 p8 s) = Sum.elim (fun s => evW TT C.wide n28 b28 1 (hd_value_Check_1v2 p0 p2 p3 p5 p6 p7 p8 s)) (fun r => ou_value_Check_1v2 p0 p2 p3 p5 p6 p7 p8 r) o := by
  obtain ⟨p1, p4⟩ := s
  rw [ct TT n28 fl28_1]
  revert hF
  unfold st_value_Check_1v2
  try dsimp only
  refine boolY (fun h1 => ?_) (fun h1 => ?_)
  focus
    rintro ⟨⟩
  rotate_left 1
  refine matchX fun x1 h2 => ?_
  have g1 : decide (0 ≤ p4) = true := (cc h2).1
  have g2 : (ab GScore.row p2)[(p4 : Int).toNat]? = some [.s x1.fMember, .i .i64 x1.fN] := ca _ h2
  refine boolY (fun h3 => ?_) (fun h3 => ?_)
  focus
    rintro ⟨⟩
  rotate_left 1
  refine boolX (fun h4 => ?_) (fun _ => nofun)
  refine matchX fun x2 h5 => ?_
  have g3 := wide0 (k_value_rank (cI p0.fScores 0 p4) x1.fMember _ h5)
  try simp only [mapR_nil] at g3
  rintro ⟨⟩
  all_goals (show cD _ _ _ (aH _ _ _ _ (Code.seq _ _) _) = _; simp (maxSteps := 4000000) only [*, hd_value_Check_1v2, ou_value_Check_1v2, n28a, n28A, n28k, n28K, n28f30, n28mv, ↓RP, RB, ↓ah, aW, aC, aZ, be, aM, Mx.bw, opnd, Mx.bF, Nat.reduceBEq, bK, Mx.fit, bI, bY, cellsOf, aO, aB, ax, Mx.put, ofConst, ofCell, Mx.prune, killB, killBs, aK, putDst, au, aD, loadAt, bM, List.map, Nat.reduceAdd, cm, cn, cg, bD, aL, lowC, forceAll, bound, bW, bg, br, kill, lend, lendA, aS, ay, bL, bare, bQ, bB, setCells, Nat.reduceSub, Nat.reduceLeDiff, lowA, bi, bJ, fineK, av, aJ, aX, bX, bE, ce, bV, bk, aI, bh, bj, bf, Op.operands, keepOf, aliveOf, atO, newB, ch, ck, cj, bne, ↓aj, ↓ai, bc, bm, bH, Call.operands, ty3, ty4, ty9, ty51, ty53, ty105, ↓aa _ _ _ _ 28, ↓aa _ _ _ _ 29, ↓am _ _ _ _ 30, ↓aa _ _ _ _ 31])
theorem rg_value_Check_k16v3 (C : ak) (k_value_elements : K_value_elements C) (p0 : GValue) (p1 : Int) (p2 : ByteArray) (p3 : Int) (p4 : List ByteArray) (p5 : List GScore) (c : Code) (ho : cr 0 16 b28 = some c) (r : Bool) (hF : ck_value_Check_k16v3 p0 p1 p2 p3 p4 p5 = some r) : @cR TT C.wide (evW TT C.wide n28 b28) n28 0 16 ⟨[(1, .rp [.i .i64 p0.fKind, .s p0.fText, .i .i64 p0.fCount, .sl 2 (ab GPair.row p0.fPairs), .sl 1 (ab aY p0.fItems), .sl 2 (ab GScore.row p0.fScores)])], [[.v (.i .i64 p1), .v (.s p2), .v (.i .i64 p3), .own 2 [], .v (.sl 1 (ab aY p4)), .v (.sl 2 (ab GScore.row p5))]]⟩ ⟨c⟩ = some (.normal, ⟨[(1, .rp [.i .i64 p0.fKind, .s p0.fText, .i .i64 p0.fCount, .sl 2 (ab GPair.row p0.fPairs), .sl 1 (ab aY p0.fItems), .sl 2 (ab GScore.row p0.fScores)]), (56, .v (.b r))], [[.v (.i .i64 p1), .v (.s p2), .v (.i .i64 p3), .own 2 [], .v (.sl 1 (ab aY p4)), .v (.sl 2 (ab GScore.row p5))]]⟩) := by
  have e := Option.some.inj (ho.symm.trans (rfl : cr 0 16 b28 = some _))
  subst e
  clear ho
  show aH _ _ _ _ _ _ = _
  revert hF
  unfold ck_value_Check_k16v3
  refine boolY (fun h1 => ?_) (fun h1 => ?_)
  focus
    rintro ⟨⟩
  rotate_left 1
  have g1 := wide0 (k_value_elements p0 _ (value_elements_t p0))
  try simp only [mapR_nil] at g1
  refine boolX (fun h2 => ?_) (fun h2 => ?_)
  focus
    rintro ⟨⟩
  rotate_left 1
  rintro ⟨⟩
  all_goals (simp (maxSteps := 4000000) only [*, n28k, n28K, n28mv, ↓RP, RB, aW, aC, aZ, Mx.bw, opnd, Mx.bF, Nat.reduceBEq, bK, aO, aB, ax, Mx.put, ofConst, ofCell, Mx.prune, killB, aK, putDst, au, aD, loadAt, bM, List.map, Nat.reduceAdd, cm, cn, forceAll, lend, lendA, aS, ay, bL, bare, bQ, keepOf, newB, ch, ck, cj, bc, ty3, ty53, ↓aa _ _ _ _ 16])
theorem rg_value_Check_k26v3 (C : ak) (k_value_rising_Pair_value_byField : K_value_rising_Pair_value_byField C) (k_value_rising_Score_value_byScore : K_value_rising_Score_value_byScore C) (k_value_rising_string_strings_Compare : K_value_rising_string_strings_Compare C) (p0 : GValue) (p1 : Int) (p2 : ByteArray) (p3 : Int) (p4 : List ByteArray) (p5 : List GScore) (c : Code) (ho : cr 0 26 b28 = some c) (r : Bool) (hF : ck_value_Check_k26v3 p0 p1 p2 p3 p4 p5 = some r) : @cR TT C.wide (evW TT C.wide n28 b28) n28 0 26 ⟨[(1, .rp [.i .i64 p0.fKind, .s p0.fText, .i .i64 p0.fCount, .sl 2 (ab GPair.row p0.fPairs), .sl 1 (ab aY p0.fItems), .sl 2 (ab GScore.row p0.fScores)])], [[.v (.i .i64 p1), .v (.s p2), .v (.i .i64 p3), .own 2 [], .v (.sl 1 (ab aY p4)), .v (.sl 2 (ab GScore.row p5))]]⟩ ⟨c⟩ = some (.normal, ⟨[(1, .rp [.i .i64 p0.fKind, .s p0.fText, .i .i64 p0.fCount, .sl 2 (ab GPair.row p0.fPairs), .sl 1 (ab aY p0.fItems), .sl 2 (ab GScore.row p0.fScores)]), (4, .v (.b r))], [[.v (.i .i64 p1), .v (.s p2), .v (.i .i64 p3), .own 2 [], .v (.sl 1 (ab aY p4)), .v (.sl 2 (ab GScore.row p5))]]⟩) := by
  have e := Option.some.inj (ho.symm.trans (rfl : cr 0 26 b28 = some _))
  subst e
  clear ho
  show aH _ _ _ _ _ _ = _
  revert hF
  unfold ck_value_Check_k26v3
  refine matchX fun x1 h1 => ?_
  have g1 := wide0 (k_value_rising_Pair_value_byField p0.fPairs _ h1)
  try simp only [mapR_nil] at g1
  refine boolY (fun h2 => ?_) (fun h2 => ?_)
  focus
    rintro ⟨⟩
  rotate_left 1
  refine matchX fun x2 h3 => ?_
  have g2 := wide0 (k_value_rising_Score_value_byScore p0.fScores _ h3)
  try simp only [mapR_nil] at g2
  refine boolY (fun h4 => ?_) (fun h4 => ?_)
  focus
    rintro ⟨⟩
  rotate_left 1
  refine boolY (fun h5 => ?_) (fun h5 => ?_)
  focus
    rintro ⟨⟩
  rotate_left 1
  refine matchX fun x3 h6 => ?_
  have g3 := wide0 (k_value_rising_string_strings_Compare p0.fItems _ h6)
  try simp only [mapR_nil] at g3
  rintro ⟨⟩
  all_goals (simp (maxSteps := 4000000) only [*, n28k, n28K, n28mv, ↓RP, RB, aW, aC, aZ, be, aM, Mx.bw, opnd, Mx.bF, Nat.reduceBEq, bK, Mx.fit, bY, aO, aB, ax, Mx.put, ofConst, ofCell, Mx.prune, killB, aK, putDst, au, aD, loadAt, bM, List.map, cm, cn, forceAll, lend, lendA, aS, ay, bL, bare, bQ, keepOf, newB, ch, ck, cj, bne, bc, ty3, ty4, ty49, ty50, ty51, ty53, ↓aa _ _ _ _ 26])
def hd_value_Check_1v3 (p0 : GValue) (p2 : List GScore) (p3 : Int) (p5 : Int) (p6 : ByteArray) (p7 : Int) (p8 : List ByteArray) (s : Bool × Int) : St := ⟨[(1, .rp [.i .i64 p0.fKind, .s p0.fText, .i .i64 p0.fCount, .sl 2 (ab GPair.row p0.fPairs), .sl 1 (ab aY p0.fItems), .sl 2 (ab GScore.row p0.fScores)]), (4, .v (.b s.1)), (100, .v (.sl 2 (ab GScore.row p2))), (101, .v (.i .i64 p3)), (102, .v (.i .i64 s.2))], [[.v (.i .i64 p5), .v (.s p6), .v (.i .i64 p7), .own 2 [], .v (.sl 1 (ab aY p8)), .v (.sl 2 (ab GScore.row p2))]]⟩
def ou_value_Check_1v3 (p0 : GValue) (p2 : List GScore) (p3 : Int) (p5 : Int) (p6 : ByteArray) (p7 : Int) (p8 : List ByteArray) (r : Bool) : Option (Ex × St) := some (.normal, ⟨[(4, .v (.b r))], [[.v (.i .i64 p5), .v (.s p6), .v (.i .i64 p7), .own 2 [], .v (.sl 1 (ab aY p8)), .v (.sl 2 (ab GScore.row p2))]]⟩)
theorem sl_value_Check_1v3 (C : ak) (k_value_rank : K_value_rank C) (p0 : GValue) (p2 : List GScore) (p3 : Int) (p5 : Int) (p6 : ByteArray) (p7 : Int) (p8 : List ByteArray) (s : Bool × Int) (o : (Bool × Int) ⊕ Bool) (hF : st_value_Check_1v3 p0 p2 p3 p5 p6 p7 p8 s = some o) : evW TT C.wide n28 b28 1 (hd_value_Check_1v3 p0 p2 p3 p5 p6 p7 p8 s) = Sum.elim (fun s => evW TT C.wide n28 b28 1 (hd_value_Check_1v3 p0 p2 p3 p5 p6 p7 p8 s)) (fun r => ou_value_Check_1v3 p0 p2 p3 p5 p6 p7 p8 r) o := by
  obtain ⟨p1, p4⟩ := s
  rw [ct TT n28 fl28_1]
  revert hF
  unfold st_value_Check_1v3
  try dsimp only
  refine boolY (fun h1 => ?_) (fun h1 => ?_)
  focus
    rintro ⟨⟩
  rotate_left 1
  refine matchX fun x1 h2 => ?_
  have g1 : decide (0 ≤ p4) = true := (cc h2).1
  have g2 : (ab GScore.row p2)[(p4 : Int).toNat]? = some [.s x1.fMember, .i .i64 x1.fN] := ca _ h2
  refine boolY (fun h3 => ?_) (fun h3 => ?_)
  focus
    rintro ⟨⟩
  rotate_left 1
  refine boolX (fun h4 => ?_) (fun _ => nofun)
  refine matchX fun x2 h5 => ?_
  have g3 := wide0 (k_value_rank (cI p0.fScores 0 p4) x1.fMember _ h5)
  try simp only [mapR_nil] at g3
  rintro ⟨⟩
  all_goals (show cD _ _ _ (aH _ _ _ _ (Code.seq _ _) _) = _; simp (maxSteps := 4000000) only [*, hd_value_Check_1v3, ou_value_Check_1v3, n28a, n28A, n28k, n28K, n28f30, n28mv, ↓RP, RB, ↓ah, aW, aC, aZ, be, aM, Mx.bw, opnd, Mx.bF, Nat.reduceBEq, bK, Mx.fit, bI, bY, cellsOf, aO, aB, ax, Mx.put, ofConst, ofCell, Mx.prune, killB, killBs, aK, putDst, au, aD, loadAt, bM, List.map, Nat.reduceAdd, cm, cn, cg, bD, aL, lowC, forceAll, bound, bW, bg, br, kill, lend, lendA, aS, ay, bL, bare, bQ, bB, setCells, Nat.reduceSub, Nat.reduceLeDiff, lowA, bi, bJ, fineK, av, aJ, aX, bX, bE, ce, bV, bk, aI, bh, bj, bf, Op.operands, keepOf, aliveOf, atO, newB, ch, ck, cj, bne, ↓aj, ↓ai, bc, bm, bH, Call.operands, ty3, ty4, ty9, ty51, ty53, ty105, ↓aa _ _ _ _ 28, ↓aa _ _ _ _ 29, ↓am _ _ _ _ 30, ↓aa _ _ _ _ 31])
theorem rg_value_Check_k16v4 (C : ak) (k_value_elements : K_value_elements C) (p0 : GValue) (p1 : Int) (p2 : ByteArray) (p3 : Int) (p4 : List GPair) (p5 : List ByteArray) (c : Code) (ho : cr 0 16 b28 = some c) (r : Bool) (hF : ck_value_Check_k16v4 p0 p1 p2 p3 p4 p5 = some r) : @cR TT C.wide (evW TT C.wide n28 b28) n28 0 16 ⟨[(1, .rp [.i .i64 p0.fKind, .s p0.fText, .i .i64 p0.fCount, .sl 2 (ab GPair.row p0.fPairs), .sl 1 (ab aY p0.fItems), .sl 2 (ab GScore.row p0.fScores)])], [[.v (.i .i64 p1), .v (.s p2), .v (.i .i64 p3), .v (.sl 2 (ab GPair.row p4)), .v (.sl 1 (ab aY p5)), .own 2 []]]⟩ ⟨c⟩ = some (.normal, ⟨[(1, .rp [.i .i64 p0.fKind, .s p0.fText, .i .i64 p0.fCount, .sl 2 (ab GPair.row p0.fPairs), .sl 1 (ab aY p0.fItems), .sl 2 (ab GScore.row p0.fScores)]), (56, .v (.b r))], [[.v (.i .i64 p1), .v (.s p2), .v (.i .i64 p3), .v (.sl 2 (ab GPair.row p4)), .v (.sl 1 (ab aY p5)), .own 2 []]]⟩) := by
  have e := Option.some.inj (ho.symm.trans (rfl : cr 0 16 b28 = some _))
  subst e
  clear ho
  show aH _ _ _ _ _ _ = _
  revert hF
  unfold ck_value_Check_k16v4
  refine boolY (fun h1 => ?_) (fun h1 => ?_)
  focus
    rintro ⟨⟩
  rotate_left 1
  have g1 := wide0 (k_value_elements p0 _ (value_elements_t p0))
  try simp only [mapR_nil] at g1
  refine boolX (fun h2 => ?_) (fun h2 => ?_)
  focus
    rintro ⟨⟩
  rotate_left 1
  rintro ⟨⟩
  all_goals (simp (maxSteps := 4000000) only [*, n28k, n28K, n28mv, ↓RP, RB, aW, aC, aZ, Mx.bw, opnd, Mx.bF, Nat.reduceBEq, bK, aO, aB, ax, Mx.put, ofConst, ofCell, Mx.prune, killB, aK, putDst, au, aD, loadAt, bM, List.map, Nat.reduceAdd, cm, cn, forceAll, lend, lendA, aS, ay, bL, bare, bQ, keepOf, newB, ch, ck, cj, bc, ty3, ty53, ↓aa _ _ _ _ 16])
theorem rg_value_Check_k26v4 (C : ak) (k_value_rising_Pair_value_byField : K_value_rising_Pair_value_byField C) (k_value_rising_Score_value_byScore : K_value_rising_Score_value_byScore C) (k_value_rising_string_strings_Compare : K_value_rising_string_strings_Compare C) (p0 : GValue) (p1 : Int) (p2 : ByteArray) (p3 : Int) (p4 : List GPair) (p5 : List ByteArray) (c : Code) (ho : cr 0 26 b28 = some c) (r : Bool) (hF : ck_value_Check_k26v4 p0 p1 p2 p3 p4 p5 = some r) : @cR TT C.wide (evW TT C.wide n28 b28) n28 0 26 ⟨[(1, .rp [.i .i64 p0.fKind, .s p0.fText, .i .i64 p0.fCount, .sl 2 (ab GPair.row p0.fPairs), .sl 1 (ab aY p0.fItems), .sl 2 (ab GScore.row p0.fScores)])], [[.v (.i .i64 p1), .v (.s p2), .v (.i .i64 p3), .v (.sl 2 (ab GPair.row p4)), .v (.sl 1 (ab aY p5)), .own 2 []]]⟩ ⟨c⟩ = some (.normal, ⟨[(1, .rp [.i .i64 p0.fKind, .s p0.fText, .i .i64 p0.fCount, .sl 2 (ab GPair.row p0.fPairs), .sl 1 (ab aY p0.fItems), .sl 2 (ab GScore.row p0.fScores)]), (4, .v (.b r))], [[.v (.i .i64 p1), .v (.s p2), .v (.i .i64 p3), .v (.sl 2 (ab GPair.row p4)), .v (.sl 1 (ab aY p5)), .own 2 []]]⟩) := by
  have e := Option.some.inj (ho.symm.trans (rfl : cr 0 26 b28 = some _))
  subst e
  clear ho
  show aH _ _ _ _ _ _ = _
  revert hF
  unfold ck_value_Check_k26v4
  refine matchX fun x1 h1 => ?_
  have g1 := wide0 (k_value_rising_Pair_value_byField p0.fPairs _ h1)
  try simp only [mapR_nil] at g1
  refine boolY (fun h2 => ?_) (fun h2 => ?_)
  focus
    rintro ⟨⟩
  rotate_left 1
  refine matchX fun x2 h3 => ?_
  have g2 := wide0 (k_value_rising_Score_value_byScore p0.fScores _ h3)
  try simp only [mapR_nil] at g2
  refine boolY (fun h4 => ?_) (fun h4 => ?_)
  focus
    rintro ⟨⟩
  rotate_left 1
  refine boolY (fun h5 => ?_) (fun h5 => ?_)
  focus
    rintro ⟨⟩
  rotate_left 1
  refine matchX fun x3 h6 => ?_
  have g3 := wide0 (k_value_rising_string_strings_Compare p0.fItems _ h6)
  try simp only [mapR_nil] at g3
  rintro ⟨⟩
  all_goals (simp (maxSteps := 4000000) only [*, n28k, n28K, n28mv, ↓RP, RB, aW, aC, aZ, be, aM, Mx.bw, opnd, Mx.bF, Nat.reduceBEq, bK, Mx.fit, bY, aO, aB, ax, Mx.put, ofConst, ofCell, Mx.prune, killB, aK, putDst, au, aD, loadAt, bM, List.map, cm, cn, forceAll, lend, lendA, aS, ay, bL, bare, bQ, keepOf, newB, ch, ck, cj, bne, bc, ty3, ty4, ty49, ty50, ty51, ty53, ↓aa _ _ _ _ 26])
def hd_value_Check_1v4 (p0 : GValue) (p2 : List GScore) (p3 : Int) (p5 : Int) (p6 : ByteArray) (p7 : Int) (p8 : List GPair) (p9 : List ByteArray) (s : Bool × Int) : St := ⟨[(1, .rp [.i .i64 p0.fKind, .s p0.fText, .i .i64 p0.fCount, .sl 2 (ab GPair.row p0.fPairs), .sl 1 (ab aY p0.fItems), .sl 2 (ab GScore.row p0.fScores)]), (4, .v (.b s.1)), (100, .v (.sl 2 (ab GScore.row p2))), (101, .v (.i .i64 p3)), (102, .v (.i .i64 s.2))], [[.v (.i .i64 p5), .v (.s p6), .v (.i .i64 p7), .v (.sl 2 (ab GPair.row p8)), .v (.sl 1 (ab aY p9)), .own 2 []]]⟩
def ou_value_Check_1v4 (p0 : GValue) (p2 : List GScore) (p3 : Int) (p5 : Int) (p6 : ByteArray) (p7 : Int) (p8 : List GPair) (p9 : List ByteArray) (r : Bool) : Option (Ex × St) := some (.normal, ⟨[(4, .v (.b r))], [[.v (.i .i64 p5), .v (.s p6), .v (.i .i64 p7), .v (.sl 2 (ab GPair.row p8)), .v (.sl 1 (ab aY p9)), .own 2 []]]⟩)
theorem sl_value_Check_1v4 (C : ak) (k_value_rank : K_value_rank C) (p0 : GValue) (p2 : List GScore) (p3 : Int) (p5 : Int) (p6 : ByteArray) (p7 : Int) (p8 : List GPair) (p9 : List ByteArray) (s : Bool × Int) (o : (Bool × Int) ⊕ Bool) (hF : st_value_Check_1v4 p0 p2 p3 p5 p6 p7 p8 p9 s = some o) : evW TT C.wide n28 b28 1 (hd_value_Check_1v4 p0 p2 p3 p5 p6 p7 p8 p9 s) = Sum.elim (fun s => evW TT C.wide n28 b28 1 (hd_value_Check_1v4 p0 p2 p3 p5 p6 p7 p8 p9 s)) (fun r => ou_value_Check_1v4 p0 p2 p3 p5 p6 p7 p8 p9 r) o := by
  obtain ⟨p1, p4⟩ := s
  rw [ct TT n28 fl28_1]
  revert hF
  unfold st_value_Check_1v4
  try dsimp only
  refine boolY (fun h1 => ?_) (fun h1 => ?_)
  focus
    rintro ⟨⟩
  rotate_left 1
  refine matchX fun x1 h2 => ?_
  have g1 : decide (0 ≤ p4) = true := (cc h2).1
  have g2 : (ab GScore.row p2)[(p4 : Int).toNat]? = some [.s x1.fMember, .i .i64 x1.fN] := ca _ h2
  refine boolY (fun h3 => ?_) (fun h3 => ?_)
  focus
    rintro ⟨⟩
  rotate_left 1
  refine boolX (fun h4 => ?_) (fun _ => nofun)
  refine matchX fun x2 h5 => ?_
  have g3 := wide0 (k_value_rank (cI p0.fScores 0 p4) x1.fMember _ h5)
  try simp only [mapR_nil] at g3
  rintro ⟨⟩
  all_goals (show cD _ _ _ (aH _ _ _ _ (Code.seq _ _) _) = _; simp (maxSteps := 4000000) only [*, hd_value_Check_1v4, ou_value_Check_1v4, n28a, n28A, n28k, n28K, n28f30, n28mv, ↓RP, RB, ↓ah, aW, aC, aZ, be, aM, Mx.bw, opnd, Mx.bF, Nat.reduceBEq, bK, Mx.fit, bI, bY, cellsOf, aO, aB, ax, Mx.put, ofConst, ofCell, Mx.prune, killB, killBs, aK, putDst, au, aD, loadAt, bM, List.map, Nat.reduceAdd, cm, cn, cg, bD, aL, lowC, forceAll, bound, bW, bg, br, kill, lend, lendA, aS, ay, bL, bare, bQ, bB, setCells, Nat.reduceSub, Nat.reduceLeDiff, lowA, bi, bJ, fineK, av, aJ, aX, bX, bE, ce, bV, bk, aI, bh, bj, bf, Op.operands, keepOf, aliveOf, atO, newB, ch, ck, cj, bne, ↓aj, ↓ai, bc, bm, bH, Call.operands, ty3, ty4, ty9, ty51, ty53, ty105, ↓aa _ _ _ _ 28, ↓aa _ _ _ _ 29, ↓am _ _ _ _ 30, ↓aa _ _ _ _ 31])
theorem rg_value_Check_k16v5 (C : ak) (k_value_elements : K_value_elements C) (p0 : GValue) (p1 : Int) (p2 : ByteArray) (p3 : Int) (p4 : List GPair) (p5 : List GScore) (c : Code) (ho : cr 0 16 b28 = some c) (r : Bool) (hF : ck_value_Check_k16v5 p0 p1 p2 p3 p4 p5 = some r) : @cR TT C.wide (evW TT C.wide n28 b28) n28 0 16 ⟨[(1, .rp [.i .i64 p0.fKind, .s p0.fText, .i .i64 p0.fCount, .sl 2 (ab GPair.row p0.fPairs), .sl 1 (ab aY p0.fItems), .sl 2 (ab GScore.row p0.fScores)])], [[.v (.i .i64 p1), .v (.s p2), .v (.i .i64 p3), .v (.sl 2 (ab GPair.row p4)), .own 1 [], .v (.sl 2 (ab GScore.row p5))]]⟩ ⟨c⟩ = some (.normal, ⟨[(1, .rp [.i .i64 p0.fKind, .s p0.fText, .i .i64 p0.fCount, .sl 2 (ab GPair.row p0.fPairs), .sl 1 (ab aY p0.fItems), .sl 2 (ab GScore.row p0.fScores)]), (56, .v (.b r))], [[.v (.i .i64 p1), .v (.s p2), .v (.i .i64 p3), .v (.sl 2 (ab GPair.row p4)), .own 1 [], .v (.sl 2 (ab GScore.row p5))]]⟩) := by
  have e := Option.some.inj (ho.symm.trans (rfl : cr 0 16 b28 = some _))
  subst e
  clear ho
  show aH _ _ _ _ _ _ = _
  revert hF
  unfold ck_value_Check_k16v5
  refine boolY (fun h1 => ?_) (fun h1 => ?_)
  focus
    rintro ⟨⟩
  rotate_left 1
  have g1 := wide0 (k_value_elements p0 _ (value_elements_t p0))
  try simp only [mapR_nil] at g1
  refine boolX (fun h2 => ?_) (fun h2 => ?_)
  focus
    rintro ⟨⟩
  rotate_left 1
  rintro ⟨⟩
  all_goals (simp (maxSteps := 4000000) only [*, n28k, n28K, n28mv, ↓RP, RB, aW, aC, aZ, Mx.bw, opnd, Mx.bF, Nat.reduceBEq, bK, aO, aB, ax, Mx.put, ofConst, ofCell, Mx.prune, killB, aK, putDst, au, aD, loadAt, bM, List.map, Nat.reduceAdd, cm, cn, forceAll, lend, lendA, aS, ay, bL, bare, bQ, keepOf, newB, ch, ck, cj, bc, ty3, ty53, ↓aa _ _ _ _ 16])
theorem rg_value_Check_k26v5 (C : ak) (k_value_rising_Pair_value_byField : K_value_rising_Pair_value_byField C) (k_value_rising_Score_value_byScore : K_value_rising_Score_value_byScore C) (k_value_rising_string_strings_Compare : K_value_rising_string_strings_Compare C) (p0 : GValue) (p1 : Int) (p2 : ByteArray) (p3 : Int) (p4 : List GPair) (p5 : List GScore) (c : Code) (ho : cr 0 26 b28 = some c) (r : Bool) (hF : ck_value_Check_k26v5 p0 p1 p2 p3 p4 p5 = some r) : @cR TT C.wide (evW TT C.wide n28 b28) n28 0 26 ⟨[(1, .rp [.i .i64 p0.fKind, .s p0.fText, .i .i64 p0.fCount, .sl 2 (ab GPair.row p0.fPairs), .sl 1 (ab aY p0.fItems), .sl 2 (ab GScore.row p0.fScores)])], [[.v (.i .i64 p1), .v (.s p2), .v (.i .i64 p3), .v (.sl 2 (ab GPair.row p4)), .own 1 [], .v (.sl 2 (ab GScore.row p5))]]⟩ ⟨c⟩ = some (.normal, ⟨[(1, .rp [.i .i64 p0.fKind, .s p0.fText, .i .i64 p0.fCount, .sl 2 (ab GPair.row p0.fPairs), .sl 1 (ab aY p0.fItems), .sl 2 (ab GScore.row p0.fScores)]), (4, .v (.b r))], [[.v (.i .i64 p1), .v (.s p2), .v (.i .i64 p3), .v (.sl 2 (ab GPair.row p4)), .own 1 [], .v (.sl 2 (ab GScore.row p5))]]⟩) := by
  have e := Option.some.inj (ho.symm.trans (rfl : cr 0 26 b28 = some _))
  subst e
  clear ho
  show aH _ _ _ _ _ _ = _
  revert hF
  unfold ck_value_Check_k26v5
  refine matchX fun x1 h1 => ?_
  have g1 := wide0 (k_value_rising_Pair_value_byField p0.fPairs _ h1)
  try simp only [mapR_nil] at g1
  refine boolY (fun h2 => ?_) (fun h2 => ?_)
  focus
    rintro ⟨⟩
  rotate_left 1
  refine matchX fun x2 h3 => ?_
  have g2 := wide0 (k_value_rising_Score_value_byScore p0.fScores _ h3)
  try simp only [mapR_nil] at g2
  refine boolY (fun h4 => ?_) (fun h4 => ?_)
  focus
    rintro ⟨⟩
  rotate_left 1
  refine boolY (fun h5 => ?_) (fun h5 => ?_)
  focus
    rintro ⟨⟩
  rotate_left 1
  refine matchX fun x3 h6 => ?_
  have g3 := wide0 (k_value_rising_string_strings_Compare p0.fItems _ h6)
  try simp only [mapR_nil] at g3
  rintro ⟨⟩
  all_goals (simp (maxSteps := 4000000) only [*, n28k, n28K, n28mv, ↓RP, RB, aW, aC, aZ, be, aM, Mx.bw, opnd, Mx.bF, Nat.reduceBEq, bK, Mx.fit, bY, aO, aB, ax, Mx.put, ofConst, ofCell, Mx.prune, killB, aK, putDst, au, aD, loadAt, bM, List.map, cm, cn, forceAll, lend, lendA, aS, ay, bL, bare, bQ, keepOf, newB, ch, ck, cj, bne, bc, ty3, ty4, ty49, ty50, ty51, ty53, ↓aa _ _ _ _ 26])
def hd_value_Check_1v5 (p0 : GValue) (p2 : List GScore) (p3 : Int) (p5 : Int) (p6 : ByteArray) (p7 : Int) (p8 : List GPair) (s : Bool × Int) : St := ⟨[(1, .rp [.i .i64 p0.fKind, .s p0.fText, .i .i64 p0.fCount, .sl 2 (ab GPair.row p0.fPairs), .sl 1 (ab aY p0.fItems), .sl 2 (ab GScore.row p0.fScores)]), (4, .v (.b s.1)), (100, .v (.sl 2 (ab GScore.row p2))), (101, .v (.i .i64 p3)), (102, .v (.i .i64 s.2))], [[.v (.i .i64 p5), .v (.s p6), .v (.i .i64 p7), .v (.sl 2 (ab GPair.row p8)), .own 1 [], .v (.sl 2 (ab GScore.row p2))]]⟩
def ou_value_Check_1v5 (p0 : GValue) (p2 : List GScore) (p3 : Int) (p5 : Int) (p6 : ByteArray) (p7 : Int) (p8 : List GPair) (r : Bool) : Option (Ex × St) := some (.normal, ⟨[(4, .v (.b r))], [[.v (.i .i64 p5), .v (.s p6), .v (.i .i64 p7), .v (.sl 2 (ab GPair.row p8)), .own 1 [], .v (.sl 2 (ab GScore.row p2))]]⟩)
theorem sl_value_Check_1v5 (C : ak) (k_value_rank : K_value_rank C) (p0 : GValue) (p2 : List GScore) (p3 : Int) (p5 : Int) (p6 : ByteArray) (p7 : Int) (p8 : List GPair) (s : Bool × Int) (o : (Bool × Int) ⊕ Bool) (hF : st_value_Check_1v5 p0 p2 p3 p5 p6 p7 p8 s = some o) : evW TT C.wide n28 b28 1 (hd_value_Check_1v5 p0 p2 p3 p5 p6 p7 p8 s) = Sum.elim (fun s => evW TT C.wide n28 b28 1 (hd_value_Check_1v5 p0 p2 p3 p5 p6 p7 p8 s)) (fun r => ou_value_Check_1v5 p0 p2 p3 p5 p6 p7 p8 r) o := by
  obtain ⟨p1, p4⟩ := s
  rw [ct TT n28 fl28_1]
  revert hF
  unfold st_value_Check_1v5
  try dsimp only
  refine boolY (fun h1 => ?_) (fun h1 => ?_)
  focus
    rintro ⟨⟩
  rotate_left 1
  refine matchX fun x1 h2 => ?_
  have g1 : decide (0 ≤ p4) = true := (cc h2).1
  have g2 : (ab GScore.row p2)[(p4 : Int).toNat]? = some [.s x1.fMember, .i .i64 x1.fN] := ca _ h2
  refine boolY (fun h3 => ?_) (fun h3 => ?_)
  focus
    rintro ⟨⟩
  rotate_left 1
  refine boolX (fun h4 => ?_) (fun _ => nofun)
  refine matchX fun x2 h5 => ?_
  have g3 := wide0 (k_value_rank (cI p0.fScores 0 p4) x1.fMember _ h5)
  try simp only [mapR_nil] at g3
  rintro ⟨⟩
  all_goals (show cD _ _ _ (aH _ _ _ _ (Code.seq _ _) _) = _; simp (maxSteps := 4000000) only [*, hd_value_Check_1v5, ou_value_Check_1v5, n28a, n28A, n28k, n28K, n28f30, n28mv, ↓RP, RB, ↓ah, aW, aC, aZ, be, aM, Mx.bw, opnd, Mx.bF, Nat.reduceBEq, bK, Mx.fit, bI, bY, cellsOf, aO, aB, ax, Mx.put, ofConst, ofCell, Mx.prune, killB, killBs, aK, putDst, au, aD, loadAt, bM, List.map, Nat.reduceAdd, cm, cn, cg, bD, aL, lowC, forceAll, bound, bW, bg, br, kill, lend, lendA, aS, ay, bL, bare, bQ, bB, setCells, Nat.reduceSub, Nat.reduceLeDiff, lowA, bi, bJ, fineK, av, aJ, aX, bX, bE, ce, bV, bk, aI, bh, bj, bf, Op.operands, keepOf, aliveOf, atO, newB, ch, ck, cj, bne, ↓aj, ↓ai, bc, bm, bH, Call.operands, ty3, ty4, ty9, ty51, ty53, ty105, ↓aa _ _ _ _ 28, ↓aa _ _ _ _ 29, ↓am _ _ _ _ 30, ↓aa _ _ _ _ 31])
theorem r_value_Check (C : ak) (k_value_elements : K_value_elements C) (k_value_text : K_value_text C) (k_slices_ContainsFunc_string_string_value_Check_fn1 : K_slices_ContainsFunc_string_string_value_Check_fn1 C) (k_slices_ContainsFunc_Pair_Pair_value_Check_fn2 : K_slices_ContainsFunc_Pair_Pair_value_Check_fn2 C) (k_slices_ContainsFunc_Score_Score_value_Check_fn3 : K_slices_ContainsFunc_Score_Score_value_Check_fn3 C) (k_value_count : K_value_count C) (k_slices_ContainsFunc_Score_Score_value_Check_fn4 : K_slices_ContainsFunc_Score_Score_value_Check_fn4 C) (k_value_rising_Pair_value_byField : K_value_rising_Pair_value_byField C) (k_value_rising_Score_value_byScore : K_value_rising_Score_value_byScore C) (k_value_rising_string_strings_Compare : K_value_rising_string_strings_Compare C) (k_value_rank : K_value_rank C) (p0 : GValue) (r : Int) (hF : value_Check p0 = some r) : cF TT C.wide (evW TT C.wide n28 b28) n28 Try.f28.results.toList (aQ Try.f28) [.agg [.v (.i .i64 p0.fKind), .v (.s p0.fText), .v (.i .i64 p0.fCount), .v (.sl 2 (ab GPair.row p0.fPairs)), .v (.sl 1 (ab aY p0.fItems)), .v (.sl 2 (ab GScore.row p0.fScores))]] [] = some (.v (.i .i64 r), []) := by
  revert hF
  unfold value_Check
  refine boolX (fun h1 => ?_) (fun h1 => ?_)
  focus
    rintro ⟨⟩
  rotate_left 1
  refine boolX (fun h2 => ?_) (fun h2 => ?_)
  focus
    rintro ⟨⟩
  rotate_left 1
  refine boolX (fun h3 => ?_) (fun h3 => ?_)
  focus
    refine boolY (fun h4 => ?_) (fun h4 => ?_)
    focus
      rintro ⟨⟩
    rotate_left 1
    have g1 := wide0 (k_value_elements (GValue.mk p0.fKind ByteArray.empty p0.fCount p0.fPairs p0.fItems p0.fScores) _ (value_elements_t (GValue.mk p0.fKind ByteArray.empty p0.fCount p0.fPairs p0.fItems p0.fScores)))
    try simp only [] at g1
    refine boolX (fun h5 => ?_) (fun h5 => ?_)
    focus
      rintro ⟨⟩
    rotate_left 1
    unfold value_Check_c1
    have g2 := rg_value_Check_k16 C k_value_elements p0 p0.fKind p0.fCount p0.fPairs p0.fItems p0.fScores _ rfl (ck_value_Check_k16_v p0 p0.fKind p0.fCount p0.fPairs p0.fItems p0.fScores) (ck_value_Check_k16_t p0 p0.fKind p0.fCount p0.fPairs p0.fItems p0.fScores)
    try simp only [mapR_nil] at g2
    refine boolX (fun h6 => ?_) (fun h6 => ?_)
    focus
      rintro ⟨⟩
    rotate_left 1
    have g3 := wide0 (k_value_text p0.fText _ (value_text_t p0.fText))
    try simp only [mapR_nil] at g3
    refine boolY (fun h7 => ?_) (fun h7 => ?_)
    focus
      rintro ⟨⟩
    rotate_left 1
    refine matchX fun x1 h8 => ?_
    have g4 := wide0 (k_slices_ContainsFunc_string_string_value_Check_fn1 p0.fItems _ h8)
    try simp only [mapR_nil] at g4
    refine boolX (fun h9 => ?_) (fun h9 => ?_)
    focus
      rintro ⟨⟩
    rotate_left 1
    refine matchX fun x2 h10 => ?_
    have g5 := wide0 (k_slices_ContainsFunc_Pair_Pair_value_Check_fn2 p0.fPairs _ h10)
    try simp only [mapR_nil] at g5
    refine boolX (fun h11 => ?_) (fun h11 => ?_)
    focus
      rintro ⟨⟩
    rotate_left 1
    refine matchX fun x3 h12 => ?_
    unfold value_Check_c0
    have g6 := wide0 (k_slices_ContainsFunc_Score_Score_value_Check_fn3 p0.fScores _ h12)
    try simp only [mapR_nil] at g6
    refine boolX (fun h13 => ?_) (fun h13 => ?_)
    focus
      rintro ⟨⟩
    rotate_left 1
    have g7 := wide0 (k_value_count p0.fCount _ (value_count_t p0.fCount))
    try simp only [mapR_nil] at g7
    refine boolY (fun h14 => ?_) (fun h14 => ?_)
    focus
      rintro ⟨⟩
    rotate_left 1
    refine matchX fun x4 h15 => ?_
    have g8 := wide0 (k_slices_ContainsFunc_Score_Score_value_Check_fn4 p0.fScores _ h15)
    try simp only [mapR_nil] at g8
    refine boolX (fun h16 => ?_) (fun h16 => ?_)
    focus
      rintro ⟨⟩
    rotate_left 1
    refine matchX fun x5 h17 => ?_
    have g9 := rg_value_Check_k26 C k_value_rising_Pair_value_byField k_value_rising_Score_value_byScore k_value_rising_string_strings_Compare p0 p0.fKind p0.fCount p0.fPairs p0.fItems p0.fScores _ rfl _ h17
    try simp only [mapR_nil] at g9
    refine matchX ?_
    rintro x6 h18
    have g10 := cy _ _ (sl_value_Check_1 C k_value_rank p0 p0.fScores (p0.fScores.length : Int) p0.fKind p0.fCount p0.fPairs p0.fItems) h18
    try simp only [hd_value_Check_1, ou_value_Check_1] at g10
    refine boolX (fun h19 => ?_) (fun h19 => ?_)
    focus
      rintro ⟨⟩
    rotate_left 1
    rintro ⟨⟩
  rotate_left 11
  unfold value_Check_c11
  refine boolX (fun h4 => ?_) (fun h4 => ?_)
  focus
    refine boolY (fun h5 => ?_) (fun h5 => ?_)
    focus
      rintro ⟨⟩
    rotate_left 1
    have g11 := wide0 (k_value_elements (GValue.mk p0.fKind p0.fText 0 p0.fPairs p0.fItems p0.fScores) _ (value_elements_t (GValue.mk p0.fKind p0.fText 0 p0.fPairs p0.fItems p0.fScores)))
    try simp only [] at g11
    refine boolX (fun h6 => ?_) (fun h6 => ?_)
    focus
      rintro ⟨⟩
    rotate_left 1
    unfold value_Check_c3
    have g12 := rg_value_Check_k16v2 C k_value_elements p0 p0.fKind p0.fText p0.fPairs p0.fItems p0.fScores _ rfl (ck_value_Check_k16v2_v p0 p0.fKind p0.fText p0.fPairs p0.fItems p0.fScores) (ck_value_Check_k16v2_t p0 p0.fKind p0.fText p0.fPairs p0.fItems p0.fScores)
    try simp only [mapR_nil] at g12
    refine boolX (fun h7 => ?_) (fun h7 => ?_)
    focus
      rintro ⟨⟩
    rotate_left 1
    have g3 := wide0 (k_value_text p0.fText _ (value_text_t p0.fText))
    try simp only [mapR_nil] at g3
    refine boolY (fun h8 => ?_) (fun h8 => ?_)
    focus
      rintro ⟨⟩
    rotate_left 1
    refine matchX fun x1 h9 => ?_
    have g4 := wide0 (k_slices_ContainsFunc_string_string_value_Check_fn1 p0.fItems _ h9)
    try simp only [mapR_nil] at g4
    refine boolX (fun h10 => ?_) (fun h10 => ?_)
    focus
      rintro ⟨⟩
    rotate_left 1
    refine matchX fun x2 h11 => ?_
    have g5 := wide0 (k_slices_ContainsFunc_Pair_Pair_value_Check_fn2 p0.fPairs _ h11)
    try simp only [mapR_nil] at g5
    refine boolX (fun h12 => ?_) (fun h12 => ?_)
    focus
      rintro ⟨⟩
    rotate_left 1
    refine matchX fun x3 h13 => ?_
    unfold value_Check_c2
    have g6 := wide0 (k_slices_ContainsFunc_Score_Score_value_Check_fn3 p0.fScores _ h13)
    try simp only [mapR_nil] at g6
    refine boolX (fun h14 => ?_) (fun h14 => ?_)
    focus
      rintro ⟨⟩
    rotate_left 1
    have g7 := wide0 (k_value_count p0.fCount _ (value_count_t p0.fCount))
    try simp only [mapR_nil] at g7
    refine boolY (fun h15 => ?_) (fun h15 => ?_)
    focus
      rintro ⟨⟩
    rotate_left 1
    refine matchX fun x4 h16 => ?_
    have g8 := wide0 (k_slices_ContainsFunc_Score_Score_value_Check_fn4 p0.fScores _ h16)
    try simp only [mapR_nil] at g8
    refine boolX (fun h17 => ?_) (fun h17 => ?_)
    focus
      rintro ⟨⟩
    rotate_left 1
    refine matchX fun x5 h18 => ?_
    have g13 := rg_value_Check_k26v2 C k_value_rising_Pair_value_byField k_value_rising_Score_value_byScore k_value_rising_string_strings_Compare p0 p0.fKind p0.fText p0.fPairs p0.fItems p0.fScores _ rfl _ h18
    try simp only [mapR_nil] at g13
    refine matchX ?_
    rintro x6 h19
    have g14 := cy _ _ (sl_value_Check_1v2 C k_value_rank p0 p0.fScores (p0.fScores.length : Int) p0.fKind p0.fText p0.fPairs p0.fItems) h19
    try simp only [hd_value_Check_1v2, ou_value_Check_1v2] at g14
    refine boolX (fun h20 => ?_) (fun h20 => ?_)
    focus
      rintro ⟨⟩
    rotate_left 1
    rintro ⟨⟩
  rotate_left 11
  refine boolX (fun h5 => ?_) (fun h5 => ?_)
  focus
    refine boolY (fun h6 => ?_) (fun h6 => ?_)
    focus
      rintro ⟨⟩
    rotate_left 1
    refine boolY (fun h7 => ?_) (fun h7 => ?_)
    focus
      rintro ⟨⟩
    rotate_left 1
    have g15 := wide0 (k_value_elements (GValue.mk p0.fKind p0.fText p0.fCount [] p0.fItems p0.fScores) _ (value_elements_t (GValue.mk p0.fKind p0.fText p0.fCount [] p0.fItems p0.fScores)))
    try simp only [mapR_nil] at g15
    refine boolX (fun h8 => ?_) (fun h8 => ?_)
    focus
      rintro ⟨⟩
    rotate_left 1
    unfold value_Check_c5
    have g16 := rg_value_Check_k16v3 C k_value_elements p0 p0.fKind p0.fText p0.fCount p0.fItems p0.fScores _ rfl (ck_value_Check_k16v3_v p0 p0.fKind p0.fText p0.fCount p0.fItems p0.fScores) (ck_value_Check_k16v3_t p0 p0.fKind p0.fText p0.fCount p0.fItems p0.fScores)
    try simp only [mapR_nil] at g16
    refine boolX (fun h9 => ?_) (fun h9 => ?_)
    focus
      rintro ⟨⟩
    rotate_left 1
    have g3 := wide0 (k_value_text p0.fText _ (value_text_t p0.fText))
    try simp only [mapR_nil] at g3
    refine boolY (fun h10 => ?_) (fun h10 => ?_)
    focus
      rintro ⟨⟩
    rotate_left 1
    refine matchX fun x1 h11 => ?_
    have g4 := wide0 (k_slices_ContainsFunc_string_string_value_Check_fn1 p0.fItems _ h11)
    try simp only [mapR_nil] at g4
    refine boolX (fun h12 => ?_) (fun h12 => ?_)
    focus
      rintro ⟨⟩
    rotate_left 1
    refine matchX fun x2 h13 => ?_
    have g5 := wide0 (k_slices_ContainsFunc_Pair_Pair_value_Check_fn2 p0.fPairs _ h13)
    try simp only [mapR_nil] at g5
    refine boolX (fun h14 => ?_) (fun h14 => ?_)
    focus
      rintro ⟨⟩
    rotate_left 1
    refine matchX fun x3 h15 => ?_
    unfold value_Check_c4
    have g6 := wide0 (k_slices_ContainsFunc_Score_Score_value_Check_fn3 p0.fScores _ h15)
    try simp only [mapR_nil] at g6
    refine boolX (fun h16 => ?_) (fun h16 => ?_)
    focus
      rintro ⟨⟩
    rotate_left 1
    have g7 := wide0 (k_value_count p0.fCount _ (value_count_t p0.fCount))
    try simp only [mapR_nil] at g7
    refine boolY (fun h17 => ?_) (fun h17 => ?_)
    focus
      rintro ⟨⟩
    rotate_left 1
    refine matchX fun x4 h18 => ?_
    have g8 := wide0 (k_slices_ContainsFunc_Score_Score_value_Check_fn4 p0.fScores _ h18)
    try simp only [mapR_nil] at g8
    refine boolX (fun h19 => ?_) (fun h19 => ?_)
    focus
      rintro ⟨⟩
    rotate_left 1
    refine matchX fun x5 h20 => ?_
    have g17 := rg_value_Check_k26v3 C k_value_rising_Pair_value_byField k_value_rising_Score_value_byScore k_value_rising_string_strings_Compare p0 p0.fKind p0.fText p0.fCount p0.fItems p0.fScores _ rfl _ h20
    try simp only [mapR_nil] at g17
    refine matchX ?_
    rintro x6 h21
    have g18 := cy _ _ (sl_value_Check_1v3 C k_value_rank p0 p0.fScores (p0.fScores.length : Int) p0.fKind p0.fText p0.fCount p0.fItems) h21
    try simp only [hd_value_Check_1v3, ou_value_Check_1v3] at g18
    refine boolX (fun h22 => ?_) (fun h22 => ?_)
    focus
      rintro ⟨⟩
    rotate_left 1
    rintro ⟨⟩
  rotate_left 12
  unfold value_Check_c10
  refine boolX (fun h6 => ?_) (fun h6 => ?_)
  focus
    refine boolY (fun h7 => ?_) (fun h7 => ?_)
    focus
      rintro ⟨⟩
    rotate_left 1
    refine boolY (fun h8 => ?_) (fun h8 => ?_)
    focus
      rintro ⟨⟩
    rotate_left 1
    have g19 := wide0 (k_value_elements (GValue.mk p0.fKind p0.fText p0.fCount p0.fPairs p0.fItems []) _ (value_elements_t (GValue.mk p0.fKind p0.fText p0.fCount p0.fPairs p0.fItems [])))
    try simp only [mapR_nil] at g19
    refine boolX (fun h9 => ?_) (fun h9 => ?_)
    focus
      rintro ⟨⟩
    rotate_left 1
    unfold value_Check_c7
    have g20 := rg_value_Check_k16v4 C k_value_elements p0 p0.fKind p0.fText p0.fCount p0.fPairs p0.fItems _ rfl (ck_value_Check_k16v4_v p0 p0.fKind p0.fText p0.fCount p0.fPairs p0.fItems) (ck_value_Check_k16v4_t p0 p0.fKind p0.fText p0.fCount p0.fPairs p0.fItems)
    try simp only [mapR_nil] at g20
    refine boolX (fun h10 => ?_) (fun h10 => ?_)
    focus
      rintro ⟨⟩
    rotate_left 1
    have g3 := wide0 (k_value_text p0.fText _ (value_text_t p0.fText))
    try simp only [mapR_nil] at g3
    refine boolY (fun h11 => ?_) (fun h11 => ?_)
    focus
      rintro ⟨⟩
    rotate_left 1
    refine matchX fun x1 h12 => ?_
    have g4 := wide0 (k_slices_ContainsFunc_string_string_value_Check_fn1 p0.fItems _ h12)
    try simp only [mapR_nil] at g4
    refine boolX (fun h13 => ?_) (fun h13 => ?_)
    focus
      rintro ⟨⟩
    rotate_left 1
    refine matchX fun x2 h14 => ?_
    have g5 := wide0 (k_slices_ContainsFunc_Pair_Pair_value_Check_fn2 p0.fPairs _ h14)
    try simp only [mapR_nil] at g5
    refine boolX (fun h15 => ?_) (fun h15 => ?_)
    focus
      rintro ⟨⟩
    rotate_left 1
    refine matchX fun x3 h16 => ?_
    unfold value_Check_c6
    have g6 := wide0 (k_slices_ContainsFunc_Score_Score_value_Check_fn3 p0.fScores _ h16)
    try simp only [mapR_nil] at g6
    refine boolX (fun h17 => ?_) (fun h17 => ?_)
    focus
      rintro ⟨⟩
    rotate_left 1
    have g7 := wide0 (k_value_count p0.fCount _ (value_count_t p0.fCount))
    try simp only [mapR_nil] at g7
    refine boolY (fun h18 => ?_) (fun h18 => ?_)
    focus
      rintro ⟨⟩
    rotate_left 1
    refine matchX fun x4 h19 => ?_
    have g8 := wide0 (k_slices_ContainsFunc_Score_Score_value_Check_fn4 p0.fScores _ h19)
    try simp only [mapR_nil] at g8
    refine boolX (fun h20 => ?_) (fun h20 => ?_)
    focus
      rintro ⟨⟩
    rotate_left 1
    refine matchX fun x5 h21 => ?_
    have g21 := rg_value_Check_k26v4 C k_value_rising_Pair_value_byField k_value_rising_Score_value_byScore k_value_rising_string_strings_Compare p0 p0.fKind p0.fText p0.fCount p0.fPairs p0.fItems _ rfl _ h21
    try simp only [mapR_nil] at g21
    refine matchX ?_
    rintro x6 h22
    have g22 := cy _ _ (sl_value_Check_1v4 C k_value_rank p0 p0.fScores (p0.fScores.length : Int) p0.fKind p0.fText p0.fCount p0.fPairs p0.fItems) h22
    try simp only [hd_value_Check_1v4, ou_value_Check_1v4] at g22
    refine boolX (fun h23 => ?_) (fun h23 => ?_)
    focus
      rintro ⟨⟩
    rotate_left 1
    rintro ⟨⟩
  rotate_left 12
  refine boolY (fun h7 => ?_) (fun h7 => ?_)
  focus
    rintro ⟨⟩
  rotate_left 1
  refine boolY (fun h8 => ?_) (fun h8 => ?_)
  focus
    rintro ⟨⟩
  rotate_left 1
  have g23 := wide0 (k_value_elements (GValue.mk p0.fKind p0.fText p0.fCount p0.fPairs [] p0.fScores) _ (value_elements_t (GValue.mk p0.fKind p0.fText p0.fCount p0.fPairs [] p0.fScores)))
  try simp only [mapR_nil] at g23
  refine boolX (fun h9 => ?_) (fun h9 => ?_)
  focus
    rintro ⟨⟩
  rotate_left 1
  unfold value_Check_c9
  have g24 := rg_value_Check_k16v5 C k_value_elements p0 p0.fKind p0.fText p0.fCount p0.fPairs p0.fScores _ rfl (ck_value_Check_k16v5_v p0 p0.fKind p0.fText p0.fCount p0.fPairs p0.fScores) (ck_value_Check_k16v5_t p0 p0.fKind p0.fText p0.fCount p0.fPairs p0.fScores)
  try simp only [mapR_nil] at g24
  refine boolX (fun h10 => ?_) (fun h10 => ?_)
  focus
    rintro ⟨⟩
  rotate_left 1
  have g3 := wide0 (k_value_text p0.fText _ (value_text_t p0.fText))
  try simp only [mapR_nil] at g3
  refine boolY (fun h11 => ?_) (fun h11 => ?_)
  focus
    rintro ⟨⟩
  rotate_left 1
  refine matchX fun x1 h12 => ?_
  have g4 := wide0 (k_slices_ContainsFunc_string_string_value_Check_fn1 p0.fItems _ h12)
  try simp only [mapR_nil] at g4
  refine boolX (fun h13 => ?_) (fun h13 => ?_)
  focus
    rintro ⟨⟩
  rotate_left 1
  refine matchX fun x2 h14 => ?_
  have g5 := wide0 (k_slices_ContainsFunc_Pair_Pair_value_Check_fn2 p0.fPairs _ h14)
  try simp only [mapR_nil] at g5
  refine boolX (fun h15 => ?_) (fun h15 => ?_)
  focus
    rintro ⟨⟩
  rotate_left 1
  refine matchX fun x3 h16 => ?_
  unfold value_Check_c8
  have g6 := wide0 (k_slices_ContainsFunc_Score_Score_value_Check_fn3 p0.fScores _ h16)
  try simp only [mapR_nil] at g6
  refine boolX (fun h17 => ?_) (fun h17 => ?_)
  focus
    rintro ⟨⟩
  rotate_left 1
  have g7 := wide0 (k_value_count p0.fCount _ (value_count_t p0.fCount))
  try simp only [mapR_nil] at g7
  refine boolY (fun h18 => ?_) (fun h18 => ?_)
  focus
    rintro ⟨⟩
  rotate_left 1
  refine matchX fun x4 h19 => ?_
  have g8 := wide0 (k_slices_ContainsFunc_Score_Score_value_Check_fn4 p0.fScores _ h19)
  try simp only [mapR_nil] at g8
  refine boolX (fun h20 => ?_) (fun h20 => ?_)
  focus
    rintro ⟨⟩
  rotate_left 1
  refine matchX fun x5 h21 => ?_
  have g25 := rg_value_Check_k26v5 C k_value_rising_Pair_value_byField k_value_rising_Score_value_byScore k_value_rising_string_strings_Compare p0 p0.fKind p0.fText p0.fCount p0.fPairs p0.fScores _ rfl _ h21
  try simp only [mapR_nil] at g25
  refine matchX ?_
  rintro x6 h22
  have g26 := cy _ _ (sl_value_Check_1v5 C k_value_rank p0 p0.fScores (p0.fScores.length : Int) p0.fKind p0.fText p0.fCount p0.fPairs) h22
  try simp only [hd_value_Check_1v5, ou_value_Check_1v5] at g26
  refine boolX (fun h23 => ?_) (fun h23 => ?_)
  focus
    rintro ⟨⟩
  rotate_left 1
  rintro ⟨⟩
  all_goals (rw [ba]; show cp _ _ _ (aH _ _ _ _ (Code.seq _ _) _) = _; simp (maxSteps := 4000000) only [*, res28, n28a, n28A, n28k, n28K, n28ro, n28mv, ↓RP, RB, ↓ah, enter, aW, aC, aZ, be, aM, Mx.bw, opnd, Mx.bF, Nat.reduceBEq, bK, Mx.fit, bI, bY, toVs, cellsOf, toV, aO, aB, ax, Mx.put, ofConst, ofCell, Mx.prune, killB, killBs, aK, putDst, au, aD, loadAt, bM, List.map, Nat.reduceAdd, cm, cn, cg, az, bn, bq, co, bN, bD, aL, lowC, forceAll, kill, lend, lendA, aS, ay, bL, bare, bQ, bB, setCells, Nat.reduceLeDiff, keepOf, aliveOf, atO, newB, ch, ck, cj, bne, ↓aj, ↓ai, bc, aP, ty3, ty4, ty9, ty25, ty49, ty50, ty51, ty53, ↓aa _ _ _ _ 0, ↓aa _ _ _ _ 1, ↓aa _ _ _ _ 2, ↓aa _ _ _ _ 3, ↓aa _ _ _ _ 4, ↓aa _ _ _ _ 6, ↓aa _ _ _ _ 7, ↓aa _ _ _ _ 8, ↓aa _ _ _ _ 9, ↓aa _ _ _ _ 10, ↓aa _ _ _ _ 11, ↓aa _ _ _ _ 12, ↓aa _ _ _ _ 13, ↓aa _ _ _ _ 5, ↓aa _ _ _ _ 14, ↓aa _ _ _ _ 15, ↓bC _ _ _ _ 16, ↓aa _ _ _ _ 17, ↓aa _ _ _ _ 18, ↓aa _ _ _ _ 19, ↓aa _ _ _ _ 20, ↓aa _ _ _ _ 21, ↓aa _ _ _ _ 22, ↓aa _ _ _ _ 23, ↓aa _ _ _ _ 24, ↓aa _ _ _ _ 25, ↓bC _ _ _ _ 26, ↓aa _ _ _ _ 27, ↓aa _ _ _ _ 32, ↓aa _ _ _ _ 33, ↓aa _ _ _ _ 34])
def n34K : List (Nat × List Nat) := [(0, [1]), (1, [1, 18]), (2, [2]), (3, [1, 20, 21, 22]), (4, [1, 20, 21, 22, 23]), (5, [1, 3, 4, 20, 21, 22]), (6, [1, 4, 20, 21, 22, 58]), (7, [2]), (8, [1, 20, 21, 22, 73]), (9, [2]), (10, [1, 20, 21, 22]), (11, [2])]
def n34A : List (Nat × List Nat × List Nat) := [(18, [], [1]), (23, [1, 20, 21, 22], []), (58, [], [1, 4, 20, 21, 22]), (73, [], [1, 20, 21, 22])]
def n34 : cC where
  keep := keepOf n34K
  ro := fun t => t == 1
  mv := fun _ => false
  give := fun _ => false
  free := fun i => match i with | 6 => [(20, 22), (21, 22), (20, 23), (21, 23), (20, 27), (21, 27), (22, 27), (23, 27), (24, 27), (25, 27), (26, 27), (20, 28), (21, 28), (22, 28), (23, 28), (24, 28), (25, 28), (26, 28)] | _ => []
  alive := aliveOf n34A
theorem n34a (t : Nat) (x : Bool) (e : Env) (S : aA) : aw n34 t x ⟨e, S⟩ = atO (aliveOf n34A t x) e S := atCond_of rfl t x e S
theorem n34k (i : Nat) : n34.keep i = keepOf n34K i := rfl
theorem n34ro (t : Nat) : n34.ro t = (t == 1) := rfl
theorem n34mv (t : Nat) : n34.mv t = (false) := rfl
theorem n34f6 : n34.free 6 = [(20, 22), (21, 22), (20, 23), (21, 23), (20, 27), (21, 27), (22, 27), (23, 27), (24, 27), (25, 27), (26, 27), (20, 28), (21, 28), (22, 28), (23, 28), (24, 28), (25, 28), (26, 28)] := rfl
theorem res34 : Try.f34.results.toList = [.tmp 2] := rfl
noncomputable def b34 : Code := aQ Try.f34
noncomputable def c34_0 : Code := (bz 0 (aQ Try.f34)).getD .skip
theorem fl34_0 : bz 0 b34 = some c34_0 := rfl
theorem rg_store_Check_k1 (C : ak)  (p0 : GStore) (c : Code) (ho : cr 0 1 b34 = some c) (r : Bool) (hF : ck_store_Check_k1 p0 = some r) : @cR TT C.wide (evW TT C.wide n34 b34) n34 0 1 ⟨[(1, .rp [.i .i64 p0.fNow, .sl 8 (ab GEntry.row p0.fEntries)])], []⟩ ⟨c⟩ = some (.normal, ⟨[(1, .rp [.i .i64 p0.fNow, .sl 8 (ab GEntry.row p0.fEntries)]), (18, .v (.b r))], []⟩) := by
  have e := Option.some.inj (ho.symm.trans (rfl : cr 0 1 b34 = some _))
  subst e
  clear ho
  show aH _ _ _ _ _ _ = _
  revert hF
  unfold ck_store_Check_k1
  refine boolX (fun h1 => ?_) (fun h1 => ?_)
  focus
    rintro ⟨⟩
  rotate_left 1
  refine boolX (fun h2 => ?_) (fun h2 => ?_)
  focus
    rintro ⟨⟩
  rotate_left 1
  rintro ⟨⟩
  all_goals (simp (maxSteps := 4000000) only [*, n34k, n34K, n34mv, ↓RP, RB, aW, aC, aZ, Mx.bw, opnd, Mx.bF, Nat.reduceBEq, bK, aO, aB, ax, Mx.put, ofConst, ofCell, Mx.prune, killB, aK, putDst, au, aD, loadAt, bM, List.map, cm, cn, cg, keepOf, ck, cj, bc, ty3, ty61, ty63, ↓aa _ _ _ _ 1])
theorem rg_store_Check_k6v2 (C : ak) (k_value_Check : K_value_Check C) (p0 : GStore) (p1 : Int) (p2 : List GEntry) (p3 : Int) (p4 : GEntry) (c : Code) (ho : cr 0 6 b34 = some c) (r : Bool) (hF : ck_store_Check_k6v2 p0 p1 p2 p3 p4 = some r) : @cR TT C.wide (evW TT C.wide n34 b34) n34 0 6 ⟨[(1, .rp [.i .i64 p0.fNow, .sl 8 (ab GEntry.row p0.fEntries)]), (3, .v (.i .i64 p1)), (4, .ptr 0 0), (20, .v (.sl 8 (ab GEntry.row p2))), (21, .v (.i .i64 p3)), (22, .v (.i .i64 p1))], [[.v (.s p4.fKey), .v (.i .i64 p4.fValue.fKind), .v (.s p4.fValue.fText), .v (.i .i64 p4.fValue.fCount), .v (.sl 2 (ab GPair.row p4.fValue.fPairs)), .v (.sl 1 (ab aY p4.fValue.fItems)), .v (.sl 2 (ab GScore.row p4.fValue.fScores)), .v (.i .i64 p4.fUntil)]]⟩ ⟨c⟩ = some (.normal, ⟨[(1, .rp [.i .i64 p0.fNow, .sl 8 (ab GEntry.row p0.fEntries)]), (4, .ptr 0 0), (20, .v (.sl 8 (ab GEntry.row p2))), (21, .v (.i .i64 p3)), (22, .v (.i .i64 p1)), (58, .v (.b r))], [[.v (.s p4.fKey), .v (.i .i64 p4.fValue.fKind), .v (.s p4.fValue.fText), .v (.i .i64 p4.fValue.fCount), .v (.sl 2 (ab GPair.row p4.fValue.fPairs)), .v (.sl 1 (ab aY p4.fValue.fItems)), .v (.sl 2 (ab GScore.row p4.fValue.fScores)), .v (.i .i64 p4.fUntil)]]⟩) := by
  have e := Option.some.inj (ho.symm.trans (rfl : cr 0 6 b34 = some _))
  subst e
  clear ho
  show aH _ _ _ _ _ _ = _
  revert hF
  unfold ck_store_Check_k6v2
  refine boolX (fun h1 => ?_) (fun h1 => ?_)
  focus
    rintro ⟨⟩
  rotate_left 1
  refine boolX (fun h2 => ?_) (fun h2 => ?_)
  focus
    rintro ⟨⟩
  rotate_left 1
  refine matchX fun x1 h3 => ?_
  have g1 := wide0 (k_value_Check p4.fValue _ h3)
  try simp only [mapR_nil] at g1
  refine boolY (fun h4 => ?_) (fun h4 => ?_)
  focus
    rintro ⟨⟩
  rotate_left 1
  refine boolY (fun h5 => ?_) (fun h5 => ?_)
  focus
    rintro ⟨⟩
  rotate_left 1
  refine matchX fun x2 h6 => ?_
  have g2 : decide (0 ≤ (IntKind.i64.wrap (p1 - 1))) = true := (cc h6).1
  have g3 : (ab GEntry.row p0.fEntries)[((IntKind.i64.wrap (p1 - 1)) : Int).toNat]? = some [.s x2.fKey, .i .i64 x2.fValue.fKind, .s x2.fValue.fText, .i .i64 x2.fValue.fCount, .sl 2 (ab GPair.row x2.fValue.fPairs), .sl 1 (ab aY x2.fValue.fItems), .sl 2 (ab GScore.row x2.fValue.fScores), .i .i64 x2.fUntil] := ca _ h6
  rintro ⟨⟩
  all_goals (simp (maxSteps := 4000000) only [*, n34k, n34K, n34f6, n34mv, ↓RP, RB, aW, aC, aZ, Mx.bw, opnd, Mx.bF, Nat.reduceBEq, bK, aO, aB, ax, Mx.put, ofConst, ofCell, Mx.prune, killB, aK, putDst, au, aD, loadAt, bM, List.map, Nat.reduceAdd, cm, cn, cg, forceAll, bg, lend, lendA, aS, ay, bL, bare, bQ, bB, Nat.reduceSub, fineK, aJ, aX, bX, bE, ce, bV, bk, aI, bh, Op.operands, keepOf, newB, ch, ck, cj, bne, bc, aP, bm, Call.operands, ty9, ty53, ty61, ty63, ty117, ↓am _ _ _ _ 6])
theorem rg_store_Check_k8v2 (C : ak)  (p0 : GStore) (p1 : List GEntry) (p2 : Int) (p3 : Int) (p4 : GEntry) (c : Code) (ho : cr 0 8 b34 = some c) (r : Bool) (hF : ck_store_Check_k8v2 p0 p1 p2 p3 p4 = some r) : @cR TT C.wide (evW TT C.wide n34 b34) n34 0 8 ⟨[(1, .rp [.i .i64 p0.fNow, .sl 8 (ab GEntry.row p0.fEntries)]), (4, .ptr 0 0), (20, .v (.sl 8 (ab GEntry.row p1))), (21, .v (.i .i64 p2)), (22, .v (.i .i64 p3))], [[.v (.s p4.fKey), .v (.i .i64 p4.fValue.fKind), .v (.s p4.fValue.fText), .v (.i .i64 p4.fValue.fCount), .v (.sl 2 (ab GPair.row p4.fValue.fPairs)), .v (.sl 1 (ab aY p4.fValue.fItems)), .v (.sl 2 (ab GScore.row p4.fValue.fScores)), .v (.i .i64 p4.fUntil)]]⟩ ⟨c⟩ = some (.normal, ⟨[(1, .rp [.i .i64 p0.fNow, .sl 8 (ab GEntry.row p0.fEntries)]), (20, .v (.sl 8 (ab GEntry.row p1))), (21, .v (.i .i64 p2)), (22, .v (.i .i64 p3)), (73, .v (.b r))], [[.v (.s p4.fKey), .v (.i .i64 p4.fValue.fKind), .v (.s p4.fValue.fText), .v (.i .i64 p4.fValue.fCount), .v (.sl 2 (ab GPair.row p4.fValue.fPairs)), .v (.sl 1 (ab aY p4.fValue.fItems)), .v (.sl 2 (ab GScore.row p4.fValue.fScores)), .v (.i .i64 p4.fUntil)]]⟩) := by
  have e := Option.some.inj (ho.symm.trans (rfl : cr 0 8 b34 = some _))
  subst e
  clear ho
  show aH _ _ _ _ _ _ = _
  revert hF
  unfold ck_store_Check_k8v2
  refine boolX (fun h1 => ?_) (fun h1 => ?_)
  focus
    rintro ⟨⟩
  rotate_left 1
  refine boolX (fun h2 => ?_) (fun h2 => ?_)
  focus
    rintro ⟨⟩
  rotate_left 1
  rintro ⟨⟩
  all_goals (simp (maxSteps := 4000000) only [*, n34k, n34K, n34mv, ↓RP, RB, aW, aC, aZ, Mx.bw, opnd, Mx.bF, Nat.reduceBEq, bK, aO, aB, ax, Mx.put, ofConst, ofCell, Mx.prune, killB, aK, putDst, au, aD, loadAt, bM, List.map, cm, cn, keepOf, ck, cj, bne, bc, ty3, ty63, ty117, ↓aa _ _ _ _ 8])
def hd_store_Check_0 (p0 : GStore) (p1 : List GEntry) (p2 : Int) (s : Int) : St := ⟨[(1, .rp [.i .i64 p0.fNow, .sl 8 (ab GEntry.row p0.fEntries)]), (20, .v (.sl 8 (ab GEntry.row p1))), (21, .v (.i .i64 p2)), (22, .v (.i .i64 s))], []⟩
def ou_store_Check_0 (p0 : GStore) (p1 : List GEntry) (p2 : Int) (r : GEntry ⊕ Unit) : Option (Ex × St) := match r with
  | .inl r => some (.ret, ⟨[(2, .v (.i .i64 13))], [[.v (.s r.fKey), .v (.i .i64 r.fValue.fKind), .v (.s r.fValue.fText), .v (.i .i64 r.fValue.fCount), .v (.sl 2 (ab GPair.row r.fValue.fPairs)), .v (.sl 1 (ab aY r.fValue.fItems)), .v (.sl 2 (ab GScore.row r.fValue.fScores)), .v (.i .i64 r.fUntil)]]⟩)
  | .inr r => some (.normal, ⟨[], []⟩)
theorem sl_store_Check_0 (C : ak) (k_value_Check : K_value_Check C) (p0 : GStore) (p1 : List GEntry) (p2 : Int) (p3 : Int) (o : Int ⊕ (GEntry ⊕ Unit)) (hF : st_store_Check_0 p0 p1 p2 p3 = some o) : evW TT C.wide n34 b34 0 (hd_store_Check_0 p0 p1 p2 p3) = Sum.elim (fun s => evW TT C.wide n34 b34 0 (hd_store_Check_0 p0 p1 p2 s)) (fun r => ou_store_Check_0 p0 p1 p2 r) o := by
  rw [ct TT n34 fl34_0]
  revert hF
  unfold st_store_Check_0
  try dsimp only
  refine boolY (fun h1 => ?_) (fun h1 => ?_)
  focus
    rintro ⟨⟩
  rotate_left 1
  refine matchX fun x1 h2 => ?_
  have g1 : decide (0 ≤ p3) = true := (cc h2).1
  have g2 : (ab GEntry.row p1)[(p3 : Int).toNat]? = some [.s x1.fKey, .i .i64 x1.fValue.fKind, .s x1.fValue.fText, .i .i64 x1.fValue.fCount, .sl 2 (ab GPair.row x1.fValue.fPairs), .sl 1 (ab aY x1.fValue.fItems), .sl 2 (ab GScore.row x1.fValue.fScores), .i .i64 x1.fUntil] := ca _ h2
  refine matchX fun x2 h3 => ?_
  have g3 := rg_store_Check_k6v2 C k_value_Check p0 p3 p1 p2 x1 _ rfl _ h3
  try simp only [mapR_nil] at g3
  refine boolX (fun h4 => ?_) (fun h4 => ?_)
  focus
    rintro ⟨⟩
  rotate_left 1
  have g4 := rg_store_Check_k8v2 C p0 p1 p2 p3 x1 _ rfl (ck_store_Check_k8v2_v p0 p1 p2 p3 x1) (ck_store_Check_k8v2_t p0 p1 p2 p3 x1)
  try simp only [mapR_nil] at g4
  refine boolX (fun h5 => ?_) (fun h5 => ?_)
  focus
    rintro ⟨⟩
  rotate_left 1
  rintro ⟨⟩
  all_goals (show cD _ _ _ (aH _ _ _ _ (Code.seq _ _) _) = _; simp (maxSteps := 4000000) only [*, hd_store_Check_0, ou_store_Check_0, n34a, n34A, n34k, n34K, n34mv, ↓RP, RB, ↓ah, aZ, be, aM, Mx.bw, opnd, Mx.bF, Nat.reduceBEq, bK, Mx.fit, bI, bY, cellsOf, aO, aB, ax, Mx.put, ofConst, ofCell, Mx.prune, killB, killBs, aK, putDst, au, loadAt, bM, List.map, Nat.reduceAdd, cm, cn, bD, aL, lowC, bg, kill, bB, setCells, Nat.reduceLeDiff, lowA, bi, keepOf, aliveOf, atO, ck, cj, bne, ↓aj, ↓ai, ty3, ty25, ty61, ty117, ↓aa _ _ _ _ 4, ↓aa _ _ _ _ 5, ↓bC _ _ _ _ 6, ↓aa _ _ _ _ 7, ↓bC _ _ _ _ 8, ↓aa _ _ _ _ 9, ↓aa _ _ _ _ 10])
theorem r_store_Check (C : ak) (k_value_Check : K_value_Check C) (p0 : GStore) (r : Int) (hF : store_Check p0 = some r) : cF TT C.wide (evW TT C.wide n34 b34) n34 Try.f34.results.toList (aQ Try.f34) [.agg [.v (.i .i64 p0.fNow), .v (.sl 8 (ab GEntry.row p0.fEntries))]] [] = some (.v (.i .i64 r), []) := by
  revert hF
  unfold store_Check
  have g1 := rg_store_Check_k1 C p0 _ rfl (ck_store_Check_k1_v p0) (ck_store_Check_k1_t p0)
  try simp only [mapR_nil] at g1
  refine boolX (fun h1 => ?_) (fun h1 => ?_)
  focus
    rintro ⟨⟩
  rotate_left 1
  refine matchX ?_
  rintro (x1 | _) h2
  focus
    dsimp only
    have g2 := cy _ _ (sl_store_Check_0 C k_value_Check p0 p0.fEntries (p0.fEntries.length : Int)) h2
    try simp only [hd_store_Check_0, ou_store_Check_0] at g2
    rintro ⟨⟩
  rotate_left 1
  dsimp only
  have g3 := cy _ _ (sl_store_Check_0 C k_value_Check p0 p0.fEntries (p0.fEntries.length : Int)) h2
  try simp only [hd_store_Check_0, ou_store_Check_0] at g3
  rintro ⟨⟩
  all_goals (rw [ba]; show cp _ _ _ (aH _ _ _ _ (Code.seq _ _) _) = _; simp (maxSteps := 4000000) only [*, res34, n34a, n34A, n34k, n34K, n34ro, n34mv, ↓RP, RB, enter, aZ, be, aM, Mx.bw, opnd, Mx.bF, Nat.reduceBEq, bK, Mx.fit, bI, bY, toVs, cellsOf, toV, aO, aB, ax, Mx.put, ofConst, ofCell, Mx.prune, killB, aK, putDst, au, aD, loadAt, bM, List.map, cg, az, bn, bq, co, bN, bD, aL, lowC, keepOf, aliveOf, atO, ↓aj, ↓ai, ty25, ty61, ty63, ↓aa _ _ _ _ 0, ↓bC _ _ _ _ 1, ↓aa _ _ _ _ 2, ↓aa _ _ _ _ 3, ↓aa _ _ _ _ 11])
def n122K : List (Nat × List Nat) := [(0, [0]), (1, [2])]
def n122 : cC where
  keep := keepOf n122K
  ro := fun _ => false
  mv := fun _ => false
  give := fun _ => false
  free := fun _ => []
theorem n122k (i : Nat) : n122.keep i = keepOf n122K i := rfl
theorem res122 : Try.f122.results.toList = [.tmp 2] := rfl
noncomputable def b122 : Code := aQ Try.f122
theorem r_client_CheckReply_fn1 (C : ak)  (p0 : ByteArray) (r : Bool) (hF : client_CheckReply_fn1 p0 = some r) : cF TT C.wide (evW TT C.wide n122 b122) n122 Try.f122.results.toList (aQ Try.f122) [.v (.s p0)] [] = some (.v (.b r), []) := by
  revert hF
  unfold client_CheckReply_fn1
  rintro ⟨⟩
  all_goals (rw [ba]; show cp _ _ _ (aH _ _ _ _ (Code.seq _ _) _) = _; simp (maxSteps := 4000000) only [*, res122, n122k, n122K, ↓RP, RB, enter, aZ, be, aM, Mx.bw, opnd, Mx.bF, Nat.reduceBEq, bK, Mx.fit, bY, aO, aB, Mx.put, ofConst, ofCell, Mx.prune, killB, aK, putDst, au, List.map, cm, cn, cg, az, bn, bq, co, bN, bD, aL, lowC, keepOf, ck, cj, ↓aj, ↓aa, ty4, ty9])
def hd_slices_IndexFunc_string_string_client_CheckReply_fn1_0 (p0 : List ByteArray) (p1 : Int) (s : Int) : St := ⟨[(0, .v (.sl 1 (ab aY p0))), (1, .clo 122 []), (7, .v (.i .i64 p1)), (8, .v (.i .i64 s))], []⟩
def ou_slices_IndexFunc_string_string_client_CheckReply_fn1_0 (p0 : List ByteArray) (p1 : Int) (r : Int ⊕ Unit) : Option (Ex × St) := match r with
  | .inl r => some (.ret, ⟨[(4, .v (.i .i64 r))], []⟩)
  | .inr r => some (.normal, ⟨[], []⟩)
theorem sl_slices_IndexFunc_string_string_client_CheckReply_fn1_0 (C : ak) (k_client_CheckReply_fn1 : K_client_CheckReply_fn1 C) (p0 : List ByteArray) (p1 : Int) (p2 : Int) (o : Int ⊕ (Int ⊕ Unit)) (hF : st_slices_IndexFunc_string_string_client_CheckReply_fn1_0 p0 p1 p2 = some o) : evW TT C.wide n108 b108 0 (hd_slices_IndexFunc_string_string_client_CheckReply_fn1_0 p0 p1 p2) = Sum.elim (fun s => evW TT C.wide n108 b108 0 (hd_slices_IndexFunc_string_string_client_CheckReply_fn1_0 p0 p1 s)) (fun r => ou_slices_IndexFunc_string_string_client_CheckReply_fn1_0 p0 p1 r) o := by
  rw [ct TT n108 fl108_0]
  revert hF
  unfold st_slices_IndexFunc_string_string_client_CheckReply_fn1_0
  try dsimp only
  refine boolY (fun h1 => ?_) (fun h1 => ?_)
  focus
    rintro ⟨⟩
  rotate_left 1
  refine matchX fun x1 h2 => ?_
  have g1 : decide (0 ≤ p2) = true := (cc h2).1
  have g2 : (ab aY p0)[(p2 : Int).toNat]? = some [.s x1] := ca _ h2
  have g3 := wide0 (k_client_CheckReply_fn1 x1 _ (client_CheckReply_fn1_t x1))
  try simp only [mapR_nil] at g3
  refine boolX (fun h3 => ?_) (fun h3 => ?_)
  focus
    rintro ⟨⟩
  rotate_left 1
  rintro ⟨⟩
  all_goals (show cD _ _ _ (aH _ _ _ _ (Code.seq _ _) _) = _; simp (maxSteps := 4000000) only [*, hd_slices_IndexFunc_string_string_client_CheckReply_fn1_0, ou_slices_IndexFunc_string_string_client_CheckReply_fn1_0, n108a, n108A, n108k, n108K, n108mv, n108gv, ↓RP, RB, ↓ah, aZ, be, aM, Mx.bw, opnd, Mx.bF, Nat.reduceBEq, bK, Mx.fit, bY, aO, aB, ax, Mx.put, ofConst, ofCell, Mx.prune, killB, killBs, aK, putDst, au, loadAt, bM, List.map, cm, cn, bD, aL, bx, bg, kill, frz, bZ, bo, argE, argsE, keepOf, aliveOf, atO, ck, cj, ↓aj, ↓ai, ↓aa, ty3, ty9, ty50])
theorem r_slices_IndexFunc_string_string_client_CheckReply_fn1 (C : ak) (k_client_CheckReply_fn1 : K_client_CheckReply_fn1 C) (p0 : List ByteArray) (r : Int) (hF : slices_IndexFunc_string_string_client_CheckReply_fn1 p0 = some r) : cF TT C.wide (evW TT C.wide n108 b108) n108 Try.f108.results.toList (aQ Try.f108) [.v (.sl 1 (ab aY p0)), .clo 122 []] [] = some (.v (.i .i64 r), []) := by
  revert hF
  unfold slices_IndexFunc_string_string_client_CheckReply_fn1
  refine matchX ?_
  rintro (x1 | _) h1
  focus
    dsimp only
    have g1 := cy _ _ (sl_slices_IndexFunc_string_string_client_CheckReply_fn1_0 C k_client_CheckReply_fn1 p0 (p0.length : Int)) h1
    try simp only [hd_slices_IndexFunc_string_string_client_CheckReply_fn1_0, ou_slices_IndexFunc_string_string_client_CheckReply_fn1_0] at g1
    rintro ⟨⟩
  rotate_left 1
  dsimp only
  have g2 := cy _ _ (sl_slices_IndexFunc_string_string_client_CheckReply_fn1_0 C k_client_CheckReply_fn1 p0 (p0.length : Int)) h1
  try simp only [hd_slices_IndexFunc_string_string_client_CheckReply_fn1_0, ou_slices_IndexFunc_string_string_client_CheckReply_fn1_0] at g2
  rintro ⟨⟩
  all_goals (rw [ba]; show cp _ _ _ (aH _ _ _ _ (Code.seq _ _) _) = _; simp (maxSteps := 4000000) only [*, res108, n108k, n108K, ↓RP, RB, enter, aZ, be, aM, Mx.bw, opnd, Mx.bF, Nat.reduceBEq, bK, Mx.fit, bY, aO, aB, Mx.put, ofConst, ofCell, Mx.prune, killB, killBs, aK, putDst, au, List.map, cg, az, bn, bq, co, bN, bD, aL, lowC, Int.reduceNeg, keepOf, ↓aj, ↓aa, ty3, ty50])
theorem r_slices_ContainsFunc_string_string_client_CheckReply_fn1 (C : ak) (k_slices_IndexFunc_string_string_client_CheckReply_fn1 : K_slices_IndexFunc_string_string_client_CheckReply_fn1 C) (p0 : List ByteArray) (r : Bool) (hF : slices_ContainsFunc_string_string_client_CheckReply_fn1 p0 = some r) : cF TT C.wide (evW TT C.wide n63 b63) n63 Try.f63.results.toList (aQ Try.f63) [.v (.sl 1 (ab aY p0)), .clo 122 []] [] = some (.v (.b r), []) := by
  revert hF
  unfold slices_ContainsFunc_string_string_client_CheckReply_fn1
  refine matchX fun x1 h1 => ?_
  have g1 := wide0 (k_slices_IndexFunc_string_string_client_CheckReply_fn1 p0 _ h1)
  try simp only [mapR_nil] at g1
  rintro ⟨⟩
  all_goals (rw [ba]; show cp _ _ _ (aH _ _ _ _ (Code.seq _ _) _) = _; simp (maxSteps := 4000000) only [*, res63, n63k, n63K, ↓RP, RB, enter, aZ, be, aM, Mx.bw, opnd, Mx.bF, Nat.reduceBEq, bK, Mx.fit, bY, aO, aB, Mx.put, ofConst, ofCell, Mx.prune, killB, killBs, aK, putDst, au, List.map, cm, cn, az, bn, bq, co, bN, bD, aL, lowC, forceAll, lend, lendA, aS, ay, bL, bare, bQ, keepOf, newB, ch, ck, cj, ↓aj, ↓aa, ty4])
def n89K : List (Nat × List Nat) := [(0, [1]), (1, [1, 10]), (2, [2]), (3, [1, 20]), (4, [2]), (5, [1, 23]), (6, [2]), (7, [31]), (8, [2]), (9, [2])]
def n89A : List (Nat × List Nat × List Nat) := [(10, [], [1]), (20, [], [1]), (23, [], [1]), (31, [], [])]
def n89 : cC where
  keep := keepOf n89K
  ro := fun t => t == 1
  mv := fun _ => false
  give := fun _ => false
  free := fun _ => []
  alive := aliveOf n89A
theorem n89a (t : Nat) (x : Bool) (e : Env) (S : aA) : aw n89 t x ⟨e, S⟩ = atO (aliveOf n89A t x) e S := atCond_of rfl t x e S
theorem n89k (i : Nat) : n89.keep i = keepOf n89K i := rfl
theorem n89ro (t : Nat) : n89.ro t = (t == 1) := rfl
theorem n89mv (t : Nat) : n89.mv t = (false) := rfl
theorem res89 : Try.f89.results.toList = [.tmp 2] := rfl
noncomputable def b89 : Code := aQ Try.f89
theorem r_client_CheckReply (C : ak) (k_slices_ContainsFunc_string_string_client_CheckReply_fn1 : K_slices_ContainsFunc_string_string_client_CheckReply_fn1 C) (p0 : GReply) (r : Int) (hF : client_CheckReply p0 = some r) : cF TT C.wide (evW TT C.wide n89 b89) n89 Try.f89.results.toList (aQ Try.f89) [.agg [.v (.i .i64 p0.fCode), .v (.s p0.fText), .v (.i .i64 p0.fN), .v (.sl 1 (ab aY p0.fList))]] [] = some (.v (.i .i64 r), []) := by
  revert hF
  unfold client_CheckReply
  refine boolX (fun h1 => ?_) (fun h1 => ?_)
  focus
    rintro ⟨⟩
  rotate_left 1
  unfold client_CheckReply_c0
  refine boolX (fun h2 => ?_) (fun h2 => ?_)
  focus
    rintro ⟨⟩
  rotate_left 1
  refine boolX (fun h3 => ?_) (fun h3 => ?_)
  focus
    rintro ⟨⟩
  rotate_left 1
  refine boolX (fun h4 => ?_) (fun h4 => ?_)
  focus
    rintro ⟨⟩
  rotate_left 1
  refine matchX fun x1 h5 => ?_
  have g1 := wide0 (k_slices_ContainsFunc_string_string_client_CheckReply_fn1 p0.fList _ h5)
  try simp only [mapR_nil] at g1
  refine boolX (fun h6 => ?_) (fun h6 => ?_)
  focus
    rintro ⟨⟩
  rotate_left 1
  refine boolX (fun h7 => ?_) (fun h7 => ?_)
  focus
    rintro ⟨⟩
  rotate_left 1
  refine boolX (fun h8 => ?_) (fun h8 => ?_)
  focus
    rintro ⟨⟩
  rotate_left 1
  rintro ⟨⟩
  all_goals (rw [ba]; show cp _ _ _ (aH _ _ _ _ (Code.seq _ _) _) = _; simp (maxSteps := 4000000) only [*, res89, n89a, n89A, n89k, n89K, n89ro, n89mv, ↓RP, RB, enter, aW, aC, aZ, be, aM, Mx.bw, opnd, Mx.bF, Nat.reduceBEq, bK, Mx.fit, bI, bY, toVs, cellsOf, toV, aO, aB, ax, Mx.put, ofConst, ofCell, Mx.prune, killB, aK, putDst, au, aD, loadAt, bM, List.map, cm, cn, cg, az, bn, bq, co, bN, bD, aL, lowC, forceAll, lend, lendA, aS, ay, bL, bare, bQ, Int.reduceNeg, keepOf, aliveOf, atO, newB, ch, ck, cj, ↓aj, ↓ai, ↓aa, bc, ty3, ty9, ty25, ty50, ty128])
def n40K : List (Nat × List Nat) := [(0, [1]), (1, [1, 24]), (2, [2]), (3, [1, 26, 27, 28]), (4, [1, 26, 27, 28, 29]), (5, [1, 3, 4, 26, 27, 28]), (6, [1, 4, 26, 27, 28, 58]), (7, [2]), (8, [1, 26, 27, 28, 85]), (9, [2]), (10, [1, 26, 27, 28]), (11, [2])]
def n40A : List (Nat × List Nat × List Nat) := [(24, [], [1]), (29, [1, 26, 27, 28], []), (58, [], [1, 4, 26, 27, 28]), (85, [], [1, 26, 27, 28])]
def n40 : cC where
  keep := keepOf n40K
  ro := fun t => t == 1
  mv := fun _ => false
  give := fun _ => false
  free := fun i => match i with | 6 => [(4, 6), (5, 6), (4, 7), (5, 7), (14, 16), (15, 16), (14, 17), (15, 17), (14, 21), (15, 21), (16, 21), (17, 21), (18, 21), (19, 21), (20, 21), (14, 22), (15, 22), (16, 22), (17, 22), (18, 22), (19, 22), (20, 22)] | _ => []
  alive := aliveOf n40A
theorem n40a (t : Nat) (x : Bool) (e : Env) (S : aA) : aw n40 t x ⟨e, S⟩ = atO (aliveOf n40A t x) e S := atCond_of rfl t x e S
theorem n40k (i : Nat) : n40.keep i = keepOf n40K i := rfl
theorem n40ro (t : Nat) : n40.ro t = (t == 1) := rfl
theorem n40mv (t : Nat) : n40.mv t = (false) := rfl
theorem n40f6 : n40.free 6 = [(4, 6), (5, 6), (4, 7), (5, 7), (14, 16), (15, 16), (14, 17), (15, 17), (14, 21), (15, 21), (16, 21), (17, 21), (18, 21), (19, 21), (20, 21), (14, 22), (15, 22), (16, 22), (17, 22), (18, 22), (19, 22), (20, 22)] := rfl
theorem res40 : Try.f40.results.toList = [.tmp 2] := rfl
noncomputable def b40 : Code := aQ Try.f40
noncomputable def c40_0 : Code := (bz 0 (aQ Try.f40)).getD .skip
theorem fl40_0 : bz 0 b40 = some c40_0 := rfl
theorem rg_client_Check_k1 (C : ak) (k_store_Check : K_store_Check C) (p0 : GMachine) (c : Code) (ho : cr 0 1 b40 = some c) (r : Bool) (hF : ck_client_Check_k1 p0 = some r) : @cR TT C.wide (evW TT C.wide n40 b40) n40 0 1 ⟨[(1, .rp [.i .i64 p0.fStore.fNow, .sl 8 (ab GEntry.row p0.fStore.fEntries), .i .i64 p0.fNext, .sl 7 (ab GClient.row p0.fClients)])], []⟩ ⟨c⟩ = some (.normal, ⟨[(1, .rp [.i .i64 p0.fStore.fNow, .sl 8 (ab GEntry.row p0.fStore.fEntries), .i .i64 p0.fNext, .sl 7 (ab GClient.row p0.fClients)]), (24, .v (.b r))], []⟩) := by
  have e := Option.some.inj (ho.symm.trans (rfl : cr 0 1 b40 = some _))
  subst e
  clear ho
  show aH _ _ _ _ _ _ = _
  revert hF
  unfold ck_client_Check_k1
  refine matchX fun x1 h1 => ?_
  have g1 := wide0 (k_store_Check p0.fStore _ h1)
  try simp only [mapR_nil] at g1
  refine boolY (fun h2 => ?_) (fun h2 => ?_)
  focus
    rintro ⟨⟩
  rotate_left 1
  refine boolX (fun h3 => ?_) (fun h3 => ?_)
  focus
    rintro ⟨⟩
  rotate_left 1
  refine boolX (fun h4 => ?_) (fun h4 => ?_)
  focus
    rintro ⟨⟩
  rotate_left 1
  rintro ⟨⟩
  all_goals (simp (maxSteps := 4000000) only [*, n40k, n40K, n40mv, ↓RP, RB, aW, aC, aZ, Mx.bw, opnd, Mx.bF, Nat.reduceBEq, bK, aO, aB, ax, Mx.put, ofConst, ofCell, Mx.prune, killB, aK, putDst, au, aD, loadAt, bM, List.map, Nat.reduceAdd, cm, cn, cg, forceAll, lend, lendA, aS, ay, bL, bare, bQ, keepOf, newB, ch, ck, cj, bne, bc, ty3, ty63, ty71, ty73, ↓aa _ _ _ _ 1])
theorem rg_client_Check_k6v2 (C : ak)  (p0 : GMachine) (p1 : Int) (p2 : List GClient) (p3 : Int) (p4 : GClient) (c : Code) (ho : cr 0 6 b40 = some c) (r : Bool) (hF : ck_client_Check_k6v2 p0 p1 p2 p3 p4 = some r) : @cR TT C.wide (evW TT C.wide n40 b40) n40 0 6 ⟨[(1, .rp [.i .i64 p0.fStore.fNow, .sl 8 (ab GEntry.row p0.fStore.fEntries), .i .i64 p0.fNext, .sl 7 (ab GClient.row p0.fClients)]), (3, .v (.i .i64 p1)), (4, .ptr 0 0), (26, .v (.sl 7 (ab GClient.row p2))), (27, .v (.i .i64 p3)), (28, .v (.i .i64 p1))], [[.v (.i .i64 p4.fId), .v (.i .i64 p4.fSeq), .v (.i .i64 p4.fTime), .v (.i .i64 p4.fReply.fCode), .v (.s p4.fReply.fText), .v (.i .i64 p4.fReply.fN), .v (.sl 1 (ab aY p4.fReply.fList))]]⟩ ⟨c⟩ = some (.normal, ⟨[(1, .rp [.i .i64 p0.fStore.fNow, .sl 8 (ab GEntry.row p0.fStore.fEntries), .i .i64 p0.fNext, .sl 7 (ab GClient.row p0.fClients)]), (4, .ptr 0 0), (26, .v (.sl 7 (ab GClient.row p2))), (27, .v (.i .i64 p3)), (28, .v (.i .i64 p1)), (58, .v (.b r))], [[.v (.i .i64 p4.fId), .v (.i .i64 p4.fSeq), .v (.i .i64 p4.fTime), .v (.i .i64 p4.fReply.fCode), .v (.s p4.fReply.fText), .v (.i .i64 p4.fReply.fN), .v (.sl 1 (ab aY p4.fReply.fList))]]⟩) := by
  have e := Option.some.inj (ho.symm.trans (rfl : cr 0 6 b40 = some _))
  subst e
  clear ho
  show aH _ _ _ _ _ _ = _
  revert hF
  unfold ck_client_Check_k6v2
  refine boolX (fun h1 => ?_) (fun h1 => ?_)
  focus
    rintro ⟨⟩
  rotate_left 1
  refine boolX (fun h2 => ?_) (fun h2 => ?_)
  focus
    rintro ⟨⟩
  rotate_left 1
  refine boolY (fun h3 => ?_) (fun h3 => ?_)
  focus
    rintro ⟨⟩
  rotate_left 1
  refine matchX fun x1 h4 => ?_
  have g1 : decide (0 ≤ (IntKind.i64.wrap (p1 - 1))) = true := (cc h4).1
  have g2 : (ab GClient.row p0.fClients)[((IntKind.i64.wrap (p1 - 1)) : Int).toNat]? = some [.i .i64 x1.fId, .i .i64 x1.fSeq, .i .i64 x1.fTime, .i .i64 x1.fReply.fCode, .s x1.fReply.fText, .i .i64 x1.fReply.fN, .sl 1 (ab aY x1.fReply.fList)] := ca _ h4
  rintro ⟨⟩
  all_goals (simp (maxSteps := 4000000) only [*, n40k, n40K, n40f6, n40mv, ↓RP, RB, aW, aC, aZ, Mx.bw, opnd, Mx.bF, Nat.reduceBEq, bK, aO, aB, ax, Mx.put, ofConst, ofCell, Mx.prune, killB, aK, putDst, au, aD, loadAt, bM, List.map, cm, cn, bg, bB, Nat.reduceSub, fineK, aJ, aX, bX, bE, ce, bV, bk, aI, bh, Op.operands, keepOf, ck, cj, bc, bm, ty3, ty71, ty73, ty130, ↓am _ _ _ _ 6])
theorem rg_client_Check_k8v2 (C : ak) (k_client_CheckReply : K_client_CheckReply C) (p0 : GMachine) (p1 : List GClient) (p2 : Int) (p3 : Int) (p4 : GClient) (c : Code) (ho : cr 0 8 b40 = some c) (r : Bool) (hF : ck_client_Check_k8v2 p0 p1 p2 p3 p4 = some r) : @cR TT C.wide (evW TT C.wide n40 b40) n40 0 8 ⟨[(1, .rp [.i .i64 p0.fStore.fNow, .sl 8 (ab GEntry.row p0.fStore.fEntries), .i .i64 p0.fNext, .sl 7 (ab GClient.row p0.fClients)]), (4, .ptr 0 0), (26, .v (.sl 7 (ab GClient.row p1))), (27, .v (.i .i64 p2)), (28, .v (.i .i64 p3))], [[.v (.i .i64 p4.fId), .v (.i .i64 p4.fSeq), .v (.i .i64 p4.fTime), .v (.i .i64 p4.fReply.fCode), .v (.s p4.fReply.fText), .v (.i .i64 p4.fReply.fN), .v (.sl 1 (ab aY p4.fReply.fList))]]⟩ ⟨c⟩ = some (.normal, ⟨[(1, .rp [.i .i64 p0.fStore.fNow, .sl 8 (ab GEntry.row p0.fStore.fEntries), .i .i64 p0.fNext, .sl 7 (ab GClient.row p0.fClients)]), (26, .v (.sl 7 (ab GClient.row p1))), (27, .v (.i .i64 p2)), (28, .v (.i .i64 p3)), (85, .v (.b r))], [[.v (.i .i64 p4.fId), .v (.i .i64 p4.fSeq), .v (.i .i64 p4.fTime), .v (.i .i64 p4.fReply.fCode), .v (.s p4.fReply.fText), .v (.i .i64 p4.fReply.fN), .v (.sl 1 (ab aY p4.fReply.fList))]]⟩) := by
  have e := Option.some.inj (ho.symm.trans (rfl : cr 0 8 b40 = some _))
  subst e
  clear ho
  show aH _ _ _ _ _ _ = _
  revert hF
  unfold ck_client_Check_k8v2
  refine boolX (fun h1 => ?_) (fun h1 => ?_)
  focus
    rintro ⟨⟩
  rotate_left 1
  refine boolX (fun h2 => ?_) (fun h2 => ?_)
  focus
    rintro ⟨⟩
  rotate_left 1
  refine boolX (fun h3 => ?_) (fun h3 => ?_)
  focus
    rintro ⟨⟩
  rotate_left 1
  refine boolX (fun h4 => ?_) (fun h4 => ?_)
  focus
    rintro ⟨⟩
  rotate_left 1
  refine matchX fun x1 h5 => ?_
  have g1 := wide0 (k_client_CheckReply p4.fReply _ h5)
  try simp only [mapR_nil] at g1
  rintro ⟨⟩
  all_goals (simp (maxSteps := 4000000) only [*, n40k, n40K, n40mv, ↓RP, RB, aW, aC, aZ, Mx.bw, opnd, Mx.bF, Nat.reduceBEq, bK, aO, aB, ax, Mx.put, ofConst, ofCell, Mx.prune, killB, aK, putDst, au, aD, loadAt, bM, List.map, Nat.reduceAdd, cm, cn, forceAll, lend, lendA, aS, ay, bL, bare, bQ, keepOf, newB, ch, ck, cj, bne, bc, aP, ty3, ty63, ty73, ty128, ty130, ↓aa _ _ _ _ 8])
def hd_client_Check_0 (p0 : GMachine) (p1 : List GClient) (p2 : Int) (s : Int) : St := ⟨[(1, .rp [.i .i64 p0.fStore.fNow, .sl 8 (ab GEntry.row p0.fStore.fEntries), .i .i64 p0.fNext, .sl 7 (ab GClient.row p0.fClients)]), (26, .v (.sl 7 (ab GClient.row p1))), (27, .v (.i .i64 p2)), (28, .v (.i .i64 s))], []⟩
def ou_client_Check_0 (p0 : GMachine) (p1 : List GClient) (p2 : Int) (r : GClient ⊕ Unit) : Option (Ex × St) := match r with
  | .inl r => some (.ret, ⟨[(2, .v (.i .i64 13))], [[.v (.i .i64 r.fId), .v (.i .i64 r.fSeq), .v (.i .i64 r.fTime), .v (.i .i64 r.fReply.fCode), .v (.s r.fReply.fText), .v (.i .i64 r.fReply.fN), .v (.sl 1 (ab aY r.fReply.fList))]]⟩)
  | .inr r => some (.normal, ⟨[], []⟩)
theorem sl_client_Check_0 (C : ak) (k_client_CheckReply : K_client_CheckReply C) (p0 : GMachine) (p1 : List GClient) (p2 : Int) (p3 : Int) (o : Int ⊕ (GClient ⊕ Unit)) (hF : st_client_Check_0 p0 p1 p2 p3 = some o) : evW TT C.wide n40 b40 0 (hd_client_Check_0 p0 p1 p2 p3) = Sum.elim (fun s => evW TT C.wide n40 b40 0 (hd_client_Check_0 p0 p1 p2 s)) (fun r => ou_client_Check_0 p0 p1 p2 r) o := by
  rw [ct TT n40 fl40_0]
  revert hF
  unfold st_client_Check_0
  try dsimp only
  refine boolY (fun h1 => ?_) (fun h1 => ?_)
  focus
    rintro ⟨⟩
  rotate_left 1
  refine matchX fun x1 h2 => ?_
  have g1 : decide (0 ≤ p3) = true := (cc h2).1
  have g2 : (ab GClient.row p1)[(p3 : Int).toNat]? = some [.i .i64 x1.fId, .i .i64 x1.fSeq, .i .i64 x1.fTime, .i .i64 x1.fReply.fCode, .s x1.fReply.fText, .i .i64 x1.fReply.fN, .sl 1 (ab aY x1.fReply.fList)] := ca _ h2
  refine matchX fun x2 h3 => ?_
  have g3 := rg_client_Check_k6v2 C p0 p3 p1 p2 x1 _ rfl _ h3
  try simp only [mapR_nil] at g3
  refine boolX (fun h4 => ?_) (fun h4 => ?_)
  focus
    rintro ⟨⟩
  rotate_left 1
  refine matchX fun x3 h5 => ?_
  have g4 := rg_client_Check_k8v2 C k_client_CheckReply p0 p1 p2 p3 x1 _ rfl _ h5
  try simp only [mapR_nil] at g4
  refine boolX (fun h6 => ?_) (fun h6 => ?_)
  focus
    rintro ⟨⟩
  rotate_left 1
  rintro ⟨⟩
  all_goals (show cD _ _ _ (aH _ _ _ _ (Code.seq _ _) _) = _; simp (maxSteps := 4000000) only [*, hd_client_Check_0, ou_client_Check_0, n40a, n40A, n40k, n40K, n40mv, ↓RP, RB, ↓ah, aZ, be, aM, Mx.bw, opnd, Mx.bF, Nat.reduceBEq, bK, Mx.fit, bI, bY, cellsOf, aO, aB, ax, Mx.put, ofConst, ofCell, Mx.prune, killB, killBs, aK, putDst, au, loadAt, bM, List.map, Nat.reduceAdd, cm, cn, bD, aL, lowC, bg, kill, bB, setCells, Nat.reduceLeDiff, lowA, bi, keepOf, aliveOf, atO, ck, cj, bne, ↓aj, ↓ai, ty3, ty25, ty71, ty130, ↓aa _ _ _ _ 4, ↓aa _ _ _ _ 5, ↓bC _ _ _ _ 6, ↓aa _ _ _ _ 7, ↓bC _ _ _ _ 8, ↓aa _ _ _ _ 9, ↓aa _ _ _ _ 10])
theorem r_client_Check (C : ak) (k_store_Check : K_store_Check C) (k_client_CheckReply : K_client_CheckReply C) (p0 : GMachine) (r : Int) (hF : client_Check p0 = some r) : cF TT C.wide (evW TT C.wide n40 b40) n40 Try.f40.results.toList (aQ Try.f40) [.agg [.v (.i .i64 p0.fStore.fNow), .v (.sl 8 (ab GEntry.row p0.fStore.fEntries)), .v (.i .i64 p0.fNext), .v (.sl 7 (ab GClient.row p0.fClients))]] [] = some (.v (.i .i64 r), []) := by
  revert hF
  unfold client_Check
  refine matchX fun x1 h1 => ?_
  have g1 := rg_client_Check_k1 C k_store_Check p0 _ rfl _ h1
  try simp only [mapR_nil] at g1
  refine boolX (fun h2 => ?_) (fun h2 => ?_)
  focus
    rintro ⟨⟩
  rotate_left 1
  refine matchX ?_
  rintro (x2 | _) h3
  focus
    dsimp only
    have g2 := cy _ _ (sl_client_Check_0 C k_client_CheckReply p0 p0.fClients (p0.fClients.length : Int)) h3
    try simp only [hd_client_Check_0, ou_client_Check_0] at g2
    rintro ⟨⟩
  rotate_left 1
  dsimp only
  have g3 := cy _ _ (sl_client_Check_0 C k_client_CheckReply p0 p0.fClients (p0.fClients.length : Int)) h3
  try simp only [hd_client_Check_0, ou_client_Check_0] at g3
  rintro ⟨⟩
  all_goals (rw [ba]; show cp _ _ _ (aH _ _ _ _ (Code.seq _ _) _) = _; simp (maxSteps := 4000000) only [*, res40, n40a, n40A, n40k, n40K, n40ro, n40mv, ↓RP, RB, enter, aZ, be, aM, Mx.bw, opnd, Mx.bF, Nat.reduceBEq, bK, Mx.fit, bI, bY, toVs, cellsOf, toV, aO, aB, ax, Mx.put, ofConst, ofCell, Mx.prune, killB, aK, putDst, au, aD, loadAt, bM, List.map, cg, az, bn, bq, co, bN, bD, aL, lowC, keepOf, aliveOf, atO, ↓aj, ↓ai, ty25, ty71, ty73, ↓aa _ _ _ _ 0, ↓bC _ _ _ _ 1, ↓aa _ _ _ _ 2, ↓aa _ _ _ _ 3, ↓aa _ _ _ _ 11])
def n43K : List (Nat × List Nat) := [(0, [1]), (1, [1, 12]), (2, [2]), (3, [2])]
def n43A : List (Nat × List Nat × List Nat) := [(12, [], [1])]
def n43 : cC where
  keep := keepOf n43K
  ro := fun t => t == 1
  mv := fun _ => false
  give := fun _ => false
  free := fun _ => []
  alive := aliveOf n43A
theorem n43a (t : Nat) (x : Bool) (e : Env) (S : aA) : aw n43 t x ⟨e, S⟩ = atO (aliveOf n43A t x) e S := atCond_of rfl t x e S
theorem n43k (i : Nat) : n43.keep i = keepOf n43K i := rfl
theorem n43ro (t : Nat) : n43.ro t = (t == 1) := rfl
theorem n43mv (t : Nat) : n43.mv t = (false) := rfl
theorem res43 : Try.f43.results.toList = [.tmp 2] := rfl
noncomputable def b43 : Code := aQ Try.f43
theorem r_tape_CheckSnap (C : ak) (k_tape_number : K_tape_number C) (k_client_Check : K_client_Check C) (p0 : GSnap) (r : Int) (hF : tape_CheckSnap p0 = some r) : cF TT C.wide (evW TT C.wide n43 b43) n43 Try.f43.results.toList (aQ Try.f43) [.agg [.v (.i .i64 p0.fIndex), .v (.i .i64 p0.fTerm), .v (.i .i64 p0.fMachine.fStore.fNow), .v (.sl 8 (ab GEntry.row p0.fMachine.fStore.fEntries)), .v (.i .i64 p0.fMachine.fNext), .v (.sl 7 (ab GClient.row p0.fMachine.fClients))]] [] = some (.v (.i .i64 r), []) := by
  revert hF
  unfold tape_CheckSnap
  have g1 := wide0 (k_tape_number p0.fIndex _ (tape_number_t p0.fIndex))
  try simp only [mapR_nil] at g1
  refine boolY (fun h1 => ?_) (fun h1 => ?_)
  focus
    rintro ⟨⟩
  rotate_left 1
  have g2 := wide0 (k_tape_number p0.fTerm _ (tape_number_t p0.fTerm))
  try simp only [mapR_nil] at g2
  refine boolY (fun h2 => ?_) (fun h2 => ?_)
  focus
    rintro ⟨⟩
  rotate_left 1
  refine matchX fun x1 h3 => ?_
  have g3 := wide0 (k_client_Check p0.fMachine _ h3)
  try simp only [mapR_nil] at g3
  rintro ⟨⟩
  all_goals (rw [ba]; show cp _ _ _ (aH _ _ _ _ (Code.seq _ _) _) = _; simp (maxSteps := 4000000) only [*, res43, n43a, n43A, n43k, n43K, n43ro, n43mv, ↓RP, RB, enter, aW, aC, aZ, be, aM, Mx.bw, opnd, Mx.bF, Nat.reduceBEq, bK, Mx.fit, bI, bY, toVs, cellsOf, toV, aO, aB, ax, Mx.put, ofConst, ofCell, Mx.prune, killB, aK, putDst, au, aD, loadAt, bM, List.map, Nat.reduceAdd, az, bn, bq, co, bN, bD, aL, lowC, forceAll, lend, lendA, aS, ay, bL, bare, bQ, keepOf, aliveOf, atO, newB, ch, ↓aj, ↓ai, ↓aa, bc, ty3, ty25, ty73, ty78])
def n55K : List (Nat × List Nat) := [(0, [0, 1, 2]), (1, [6])]
def n55 : cC where
  keep := keepOf n55K
  ro := fun _ => false
  mv := fun _ => false
  give := fun _ => false
  free := fun _ => []
theorem n55k (i : Nat) : n55.keep i = keepOf n55K i := rfl
theorem res55 : Try.f55.results.toList = [.tmp 6] := rfl
noncomputable def b55 : Code := aQ Try.f55
theorem r_rostrumref_In (C : ak)  (p0 : Int) (p1 : Int) (p2 : Int) (r : Bool) (hF : rostrumref_In p0 p1 p2 = some r) : cF TT C.wide (evW TT C.wide n55 b55) n55 Try.f55.results.toList (aQ Try.f55) [.v (.i .i64 p0), .v (.i .i64 p1), .v (.i .i64 p2)] [] = some (.v (.b r), []) := by
  revert hF
  unfold rostrumref_In
  refine boolX (fun h1 => ?_) (fun h1 => ?_)
  focus
    rintro ⟨⟩
  rotate_left 1
  rintro ⟨⟩
  all_goals (rw [ba]; show cp _ _ _ (aH _ _ _ _ (Code.seq _ _) _) = _; simp (maxSteps := 4000000) only [*, res55, n55k, n55K, ↓RP, RB, enter, aW, aC, aZ, be, aM, Mx.bw, opnd, Mx.bF, Nat.reduceBEq, bK, Mx.fit, bY, aO, aB, Mx.put, ofConst, ofCell, Mx.prune, killB, aK, putDst, au, List.map, Nat.reduceAdd, cm, cn, az, bn, bq, co, bN, bD, aL, lowC, keepOf, ck, cj, ↓aj, ↓aa, bc, ty4])
def n91K : List (Nat × List Nat) := [(0, [0]), (1, [2])]
def n91 : cC where
  keep := keepOf n91K
  ro := fun _ => false
  mv := fun _ => false
  give := fun _ => false
  free := fun _ => []
theorem n91k (i : Nat) : n91.keep i = keepOf n91K i := rfl
theorem res91 : Try.f91.results.toList = [.tmp 2] := rfl
noncomputable def b91 : Code := aQ Try.f91
theorem r_rostrumref_numberMay (C : ak) (k_rostrumref_In : K_rostrumref_In C) (p0 : Int) (r : Bool) (hF : rostrumref_numberMay p0 = some r) : cF TT C.wide (evW TT C.wide n91 b91) n91 Try.f91.results.toList (aQ Try.f91) [.v (.i .i64 p0)] [] = some (.v (.b r), []) := by
  revert hF
  unfold rostrumref_numberMay
  have g1 := wide0 (k_rostrumref_In p0 1 1048576 _ (rostrumref_In_t p0 1 1048576))
  have g2 : rostrumref_In_v p0 1 1048576 = (decide (1 ≤ p0) && decide (p0 ≤ 1048576)) := by first | rfl | (simp [rostrumref_In_v]; done) | (simp only [rostrumref_In_v]; decide)
  try simp only [mapR_nil] at g1
  rintro ⟨⟩
  all_goals (rw [ba]; show cp _ _ _ (aH _ _ _ _ (Code.seq _ _) _) = _; simp (maxSteps := 4000000) only [*, res91, n91k, n91K, ↓RP, RB, enter, aZ, be, aM, Mx.bw, opnd, Mx.bF, Nat.reduceBEq, bK, Mx.fit, bY, aO, aB, Mx.put, ofConst, ofCell, Mx.prune, killB, aK, putDst, au, List.map, az, bn, bq, co, bN, bD, aL, lowC, forceAll, lend, lendA, aS, ay, bL, bare, bQ, keepOf, newB, ch, ↓aj, ↓aa, ty4])
def n81K : List (Nat × List Nat) := [(0, [0]), (1, [2])]
def n81 : cC where
  keep := keepOf n81K
  ro := fun _ => false
  mv := fun _ => false
  give := fun _ => false
  free := fun _ => []
theorem n81k (i : Nat) : n81.keep i = keepOf n81K i := rfl
theorem res81 : Try.f81.results.toList = [.tmp 2] := rfl
noncomputable def b81 : Code := aQ Try.f81
theorem r_rostrumref_fieldMay (C : ak) (k_rostrumref_In : K_rostrumref_In C) (p0 : ByteArray) (r : Bool) (hF : rostrumref_fieldMay p0 = some r) : cF TT C.wide (evW TT C.wide n81 b81) n81 Try.f81.results.toList (aQ Try.f81) [.v (.s p0)] [] = some (.v (.b r), []) := by
  revert hF
  unfold rostrumref_fieldMay
  have g1 := wide0 (k_rostrumref_In (p0.size : Int) 1 12 _ (rostrumref_In_t (p0.size : Int) 1 12))
  have g2 : rostrumref_In_v (p0.size : Int) 1 12 = (decide (1 ≤ (p0.size : Int)) && decide ((p0.size : Int) ≤ 12)) := by first | rfl | (simp [rostrumref_In_v]; done) | (simp only [rostrumref_In_v]; decide)
  try simp only [mapR_nil] at g1
  rintro ⟨⟩
  all_goals (rw [ba]; show cp _ _ _ (aH _ _ _ _ (Code.seq _ _) _) = _; simp (maxSteps := 4000000) only [*, res81, n81k, n81K, ↓RP, RB, enter, aZ, be, aM, Mx.bw, opnd, Mx.bF, Nat.reduceBEq, bK, Mx.fit, bY, aO, aB, Mx.put, ofConst, ofCell, Mx.prune, killB, aK, putDst, au, List.map, cg, az, bn, bq, co, bN, bD, aL, lowC, forceAll, lend, lendA, aS, ay, bL, bare, bQ, keepOf, newB, ch, ↓aj, ↓aa, ty4, ty9])
def n79K : List (Nat × List Nat) := [(0, [1]), (1, [2])]
def n79 : cC where
  keep := keepOf n79K
  ro := fun t => t == 1
  mv := fun _ => false
  give := fun _ => false
  free := fun _ => []
theorem n79k (i : Nat) : n79.keep i = keepOf n79K i := rfl
theorem n79ro (t : Nat) : n79.ro t = (t == 1) := rfl
theorem n79mv (t : Nat) : n79.mv t = (false) := rfl
theorem res79 : Try.f79.results.toList = [.tmp 2] := rfl
noncomputable def b79 : Code := aQ Try.f79
theorem r_rostrumref_sizeOf (C : ak)  (p0 : GValue) (r : Int) (hF : rostrumref_sizeOf p0 = some r) : cF TT C.wide (evW TT C.wide n79 b79) n79 Try.f79.results.toList (aQ Try.f79) [.agg [.v (.i .i64 p0.fKind), .v (.s p0.fText), .v (.i .i64 p0.fCount), .v (.sl 2 (ab GPair.row p0.fPairs)), .v (.sl 1 (ab aY p0.fItems)), .v (.sl 2 (ab GScore.row p0.fScores))]] [] = some (.v (.i .i64 r), []) := by
  revert hF
  unfold rostrumref_sizeOf
  rintro ⟨⟩
  all_goals (rw [ba]; show cp _ _ _ (aH _ _ _ _ (Code.seq _ _) _) = _; simp (maxSteps := 4000000) only [*, res79, n79k, n79K, n79ro, n79mv, ↓RP, RB, enter, aZ, be, aM, Mx.bw, opnd, Mx.bF, Nat.reduceBEq, bK, Mx.fit, bI, bY, toVs, cellsOf, toV, aO, aB, ax, Mx.put, ofConst, ofCell, Mx.prune, killB, aK, putDst, au, aD, loadAt, bM, List.map, cm, cn, cg, az, bn, bq, co, bN, bD, aL, lowC, keepOf, ck, cj, ↓aj, ↓aa, ty3, ty49, ty50, ty51, ty53])
def n80K : List (Nat × List Nat) := [(0, [0]), (1, [2])]
def n80 : cC where
  keep := keepOf n80K
  ro := fun _ => false
  mv := fun _ => false
  give := fun _ => false
  free := fun _ => []
theorem n80k (i : Nat) : n80.keep i = keepOf n80K i := rfl
theorem res80 : Try.f80.results.toList = [.tmp 2] := rfl
noncomputable def b80 : Code := aQ Try.f80
theorem r_rostrumref_textMay (C : ak)  (p0 : ByteArray) (r : Bool) (hF : rostrumref_textMay p0 = some r) : cF TT C.wide (evW TT C.wide n80 b80) n80 Try.f80.results.toList (aQ Try.f80) [.v (.s p0)] [] = some (.v (.b r), []) := by
  revert hF
  unfold rostrumref_textMay
  rintro ⟨⟩
  all_goals (rw [ba]; show cp _ _ _ (aH _ _ _ _ (Code.seq _ _) _) = _; simp (maxSteps := 4000000) only [*, res80, n80k, n80K, ↓RP, RB, enter, aZ, be, aM, Mx.bw, opnd, Mx.bF, Nat.reduceBEq, bK, Mx.fit, bY, aO, aB, Mx.put, ofConst, ofCell, Mx.prune, killB, aK, putDst, au, List.map, cm, cn, cg, az, bn, bq, co, bN, bD, aL, lowC, keepOf, ck, cj, ↓aj, ↓aa, ty4, ty9])
def n82K : List (Nat × List Nat) := [(0, [0]), (1, [2])]
def n82 : cC where
  keep := keepOf n82K
  ro := fun _ => false
  mv := fun _ => false
  give := fun _ => false
  free := fun _ => []
theorem n82k (i : Nat) : n82.keep i = keepOf n82K i := rfl
theorem res82 : Try.f82.results.toList = [.tmp 2] := rfl
noncomputable def b82 : Code := aQ Try.f82
theorem r_rostrumref_countMay (C : ak) (k_rostrumref_In : K_rostrumref_In C) (p0 : Int) (r : Bool) (hF : rostrumref_countMay p0 = some r) : cF TT C.wide (evW TT C.wide n82 b82) n82 Try.f82.results.toList (aQ Try.f82) [.v (.i .i64 p0)] [] = some (.v (.b r), []) := by
  revert hF
  unfold rostrumref_countMay
  have g1 := wide0 (k_rostrumref_In p0 (-1099511627776) 1099511627776 _ (rostrumref_In_t p0 (-1099511627776) 1099511627776))
  have g2 : rostrumref_In_v p0 (-1099511627776) 1099511627776 = (decide ((-1099511627776) ≤ p0) && decide (p0 ≤ 1099511627776)) := by first | rfl | (simp [rostrumref_In_v]; done) | (simp only [rostrumref_In_v]; decide)
  try simp only [mapR_nil] at g1
  rintro ⟨⟩
  all_goals (rw [ba]; show cp _ _ _ (aH _ _ _ _ (Code.seq _ _) _) = _; simp (maxSteps := 4000000) only [*, res82, n82k, n82K, ↓RP, RB, enter, aZ, be, aM, Mx.bw, opnd, Mx.bF, Nat.reduceBEq, bK, Mx.fit, bY, aO, aB, Mx.put, ofConst, ofCell, Mx.prune, killB, aK, putDst, au, List.map, az, bn, bq, co, bN, bD, aL, lowC, forceAll, lend, lendA, aS, ay, bL, bare, bQ, Int.reduceNeg, keepOf, newB, ch, ↓aj, ↓aa, ty4])
def n83K : List (Nat × List Nat) := [(0, [2, 3]), (1, [2, 3, 9]), (2, [4]), (3, [4])]
def n83A : List (Nat × List Nat × List Nat) := [(9, [2, 3], [2, 3])]
def n83 : cC where
  keep := keepOf n83K
  ro := fun t => t == 2 || t == 3
  mv := fun _ => false
  give := fun _ => false
  free := fun _ => []
  alive := aliveOf n83A
theorem n83a (t : Nat) (x : Bool) (e : Env) (S : aA) : aw n83 t x ⟨e, S⟩ = atO (aliveOf n83A t x) e S := atCond_of rfl t x e S
theorem n83k (i : Nat) : n83.keep i = keepOf n83K i := rfl
theorem n83ro (t : Nat) : n83.ro t = (t == 2 || t == 3) := rfl
theorem n83mv (t : Nat) : n83.mv t = (false) := rfl
theorem res83 : Try.f83.results.toList = [.tmp 4] := rfl
noncomputable def b83 : Code := aQ Try.f83
theorem r_rostrumref_scoreAhead (C : ak)  (p0 : GScore) (p1 : GScore) (r : Bool) (hF : rostrumref_scoreAhead p0 p1 = some r) : cF TT C.wide (evW TT C.wide n83 b83) n83 Try.f83.results.toList (aQ Try.f83) [.agg [.v (.s p0.fMember), .v (.i .i64 p0.fN)], .agg [.v (.s p1.fMember), .v (.i .i64 p1.fN)]] [] = some (.v (.b r), []) := by
  revert hF
  unfold rostrumref_scoreAhead
  refine boolX (fun h1 => ?_) (fun h1 => ?_)
  focus
    rintro ⟨⟩
  rotate_left 1
  rintro ⟨⟩
  all_goals (rw [ba]; show cp _ _ _ (aH _ _ _ _ (Code.seq _ _) _) = _; simp (maxSteps := 4000000) only [*, res83, n83a, n83A, n83k, n83K, n83ro, n83mv, ↓RP, RB, enter, aZ, be, aM, Mx.bw, opnd, Mx.bF, Nat.reduceBEq, bK, Mx.fit, bI, bY, toVs, cellsOf, toV, aO, aB, ax, Mx.put, ofConst, ofCell, Mx.prune, killB, aK, putDst, au, aD, loadAt, bM, List.map, cm, cn, az, bn, bq, co, bN, bD, aL, lowC, keepOf, aliveOf, atO, ck, cj, bne, ↓aj, ↓ai, ↓aa, ty3, ty4, ty9, ty105])
end Go.Proofs.Ytnjkmbogbfjffaa
