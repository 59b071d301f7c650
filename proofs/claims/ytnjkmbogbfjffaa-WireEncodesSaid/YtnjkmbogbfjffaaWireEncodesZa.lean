/- The code of these functions, run by the machine Mx, gives what the plain functions say, if their callees do (part 1). -/
import Derived.Test.YtnjkmbogbfjffaaWTy
import Derived.Test.YtnjkmbogbfjffaaWireEncodesD
set_option linter.unusedSimpArgs false
set_option linter.unusedVariables false
set_option linter.constructorNameAsVariable false
set_option linter.unnecessarySimpa false
set_option maxRecDepth 100000
set_option maxHeartbeats 40000000
namespace Go.Proofs.Ytnjkmbogbfjffaa
open Go Go.Mx Go.Proofs
def n29K : List (Nat × List Nat) := [(0, [1, 2]), (1, [1, 2, 3]), (2, [1, 2, 3, 4]), (3, [1, 2, 3, 4, 18]), (4, [1, 2, 3, 4]), (5, [1, 2, 3, 4]), (6, [1, 2, 3, 5]), (7, [1, 2, 3, 5, 35]), (8, [1, 2, 3, 5]), (9, [1, 2, 3, 5]), (10, [1, 2, 3, 6]), (11, [1, 2, 3, 6, 52]), (12, [1, 2, 3, 6]), (13, [1, 2, 3, 6]), (14, [2])]
def n29A : List (Nat × List Nat × List Nat) := [(18, [1, 2, 3, 4], [1, 2, 3]), (35, [1, 2, 3, 5], [1, 2, 3]), (52, [1, 2, 3, 6], [2, 3])]
def n29 : cL where
  keep := ax n29K
  ro := fun t => t == 1
  mv := fun t => t == 65
  give := fun _ => false
  free := fun i => match i with | 5 => [(0, 2), (1, 2), (0, 3), (1, 3), (0, 4), (1, 4), (2, 4), (3, 4), (0, 5), (1, 5), (0, 6), (1, 6), (0, 7), (1, 7)] | 9 => [(0, 2), (1, 2), (0, 3), (1, 3), (0, 4), (1, 4), (2, 4), (3, 4), (0, 5), (1, 5), (0, 6), (1, 6), (0, 7), (1, 7)] | 13 => [(0, 2), (1, 2), (0, 3), (1, 3), (0, 4), (1, 4), (2, 4), (3, 4), (0, 5), (1, 5), (0, 6), (1, 6), (0, 7), (1, 7)] | _ => []
  alive := av n29A
theorem n29a (t : Nat) (x : Bool) (e : Env) (S : bH) : cK n29 t x ⟨e, S⟩ = atO (av n29A t x) e S := cF rfl t x e S
theorem n29k (i : Nat) : n29.keep i = ax n29K i := rfl
theorem n29ro (t : Nat) : n29.ro t = (t == 1) := rfl
theorem n29mv (t : Nat) : n29.mv t = (t == 65) := rfl
theorem n29f5 : n29.free 5 = [(0, 2), (1, 2), (0, 3), (1, 3), (0, 4), (1, 4), (2, 4), (3, 4), (0, 5), (1, 5), (0, 6), (1, 6), (0, 7), (1, 7)] := rfl
theorem n29f9 : n29.free 9 = [(0, 2), (1, 2), (0, 3), (1, 3), (0, 4), (1, 4), (2, 4), (3, 4), (0, 5), (1, 5), (0, 6), (1, 6), (0, 7), (1, 7)] := rfl
theorem n29f13 : n29.free 13 = [(0, 2), (1, 2), (0, 3), (1, 3), (0, 4), (1, 4), (2, 4), (3, 4), (0, 5), (1, 5), (0, 6), (1, 6), (0, 7), (1, 7)] := rfl
theorem res29 : Try.f29.results.toList = [.cell 2 53] := rfl
noncomputable def b29 : Code := aU Try.f29
noncomputable def c29_0 : Code := (bE 0 (aU Try.f29)).getD .skip
theorem fl29_0 : bE 0 b29 = some c29_0 := rfl
noncomputable def c29_2 : Code := (bE 2 (aU Try.f29)).getD .skip
theorem fl29_2 : bE 2 b29 = some c29_2 := rfl
noncomputable def c29_4 : Code := (bE 4 (aU Try.f29)).getD .skip
theorem fl29_4 : bE 4 b29 = some c29_4 := rfl
def hd_rrValueCopy_0 (p0 : GValue) (s : Int × GValue) : St := ⟨[(1, .rp [.i .i64 p0.fKind, .s p0.fText, .i .i64 p0.fCount, .sl 2 (ah GPair.row p0.fPairs), .sl 1 (ah bY p0.fItems), .sl 2 (ah GScore.row p0.fScores)]), (2, .ptr 0 0), (3, .ptr 1 0), (4, .v (.i .i64 s.1))], [[.v (.i .i64 0), .v (.s ByteArray.empty), .v (.i .i64 0), .own 2 [], .own 1 [], .own 2 []], [.v (.i .i64 s.2.fKind), .v (.s s.2.fText), .v (.i .i64 s.2.fCount), .own 2 (ah GPair.row s.2.fPairs), .own 1 (ah bY s.2.fItems), .own 2 (ah GScore.row s.2.fScores)]]⟩
def ou_rrValueCopy_0 (p0 : GValue) (r : GValue) : Option (Ex × St) := some (.normal, ⟨[(1, .rp [.i .i64 p0.fKind, .s p0.fText, .i .i64 p0.fCount, .sl 2 (ah GPair.row p0.fPairs), .sl 1 (ah bY p0.fItems), .sl 2 (ah GScore.row p0.fScores)]), (2, .ptr 0 0), (3, .ptr 1 0)], [[.v (.i .i64 0), .v (.s ByteArray.empty), .v (.i .i64 0), .own 2 [], .own 1 [], .own 2 []], [.v (.i .i64 r.fKind), .v (.s r.fText), .v (.i .i64 r.fCount), .own 2 (ah GPair.row r.fPairs), .own 1 (ah bY r.fItems), .own 2 (ah GScore.row r.fScores)]]⟩)
theorem sl_rrValueCopy_0 (C : aj)  (p0 : GValue) (s : Int × GValue) (o : (Int × GValue) ⊕ GValue) (hF : st_rrValueCopy_0 p0 s = some o) : evW TT C.wide n29 b29 0 (hd_rrValueCopy_0 p0 s) = Sum.elim (fun s => evW TT C.wide n29 b29 0 (hd_rrValueCopy_0 p0 s)) (fun r => ou_rrValueCopy_0 p0 r) o := by
  obtain ⟨p1, p2⟩ := s
  rw [cG TT n29 fl29_0]
  revert hF
  unfold st_rrValueCopy_0
  try dsimp only
  refine bF (fun h1 => ?_) (fun h1 => ?_)
  focus
    rintro ⟨⟩
  rotate_left 1
  refine az fun x1 h2 => ?_
  have g1 : decide (0 ≤ p1) = true := (cp h2).1
  have g2 : (ah GPair.row p0.fPairs)[(p1 : Int).toNat]? = some [.s x1.fField, .s x1.fText] := cn _ h2
  refine aX (fun h3 => ?_) (fun _ => nofun)
  rintro ⟨⟩
  all_goals (show cN _ _ _ (aH _ _ _ _ (Code.seq _ _) _) = _; simp (maxSteps := 4000000) only [*, hd_rrValueCopy_0, ou_rrValueCopy_0, n29a, n29A, n29k, n29K, n29f5, n29mv, ↓RP, RB, ↓ab, be, bf, aJ, Mx.bl, opnd, Mx.bI, Nat.reduceBEq, bQ, Mx.fit, co, toVs, cellsOf, toV, aN, aA, ay, Mx.put, ofConst, ofCell, Mx.prune, killB, killBs, aK, putDst, aw, aE, loadAt, bT, List.map, Nat.reduceAdd, Nat.reduceMul, cz, cB, cu, aO, bJ, aM, bD, lowC, bj, kill, spendLoc, spendOk, bG, setCells, takeParts, bv, aR, Nat.reduceSub, Nat.reduceLeDiff, bM, cd, au, aI, aY, cm, bL, cv, ch, bo, aL, bm, bp, bd, Op.operands, ax, av, atO, cy, cx, bne, ↓ao, ↓am, ↓aa, ↓aq, br, aF, bN, ty3, ty49, ty53, ty101, GPair.one])
def hd_rrValueCopy_2 (p0 : GValue) (s : Int × GValue) : St := ⟨[(1, .rp [.i .i64 p0.fKind, .s p0.fText, .i .i64 p0.fCount, .sl 2 (ah GPair.row p0.fPairs), .sl 1 (ah bY p0.fItems), .sl 2 (ah GScore.row p0.fScores)]), (2, .ptr 0 0), (3, .ptr 1 0), (5, .v (.i .i64 s.1))], [[.v (.i .i64 0), .v (.s ByteArray.empty), .v (.i .i64 0), .own 2 [], .own 1 [], .own 2 []], [.v (.i .i64 s.2.fKind), .v (.s s.2.fText), .v (.i .i64 s.2.fCount), .own 2 (ah GPair.row s.2.fPairs), .own 1 (ah bY s.2.fItems), .own 2 (ah GScore.row s.2.fScores)]]⟩
def ou_rrValueCopy_2 (p0 : GValue) (r : GValue) : Option (Ex × St) := some (.normal, ⟨[(1, .rp [.i .i64 p0.fKind, .s p0.fText, .i .i64 p0.fCount, .sl 2 (ah GPair.row p0.fPairs), .sl 1 (ah bY p0.fItems), .sl 2 (ah GScore.row p0.fScores)]), (2, .ptr 0 0), (3, .ptr 1 0)], [[.v (.i .i64 0), .v (.s ByteArray.empty), .v (.i .i64 0), .own 2 [], .own 1 [], .own 2 []], [.v (.i .i64 r.fKind), .v (.s r.fText), .v (.i .i64 r.fCount), .own 2 (ah GPair.row r.fPairs), .own 1 (ah bY r.fItems), .own 2 (ah GScore.row r.fScores)]]⟩)
theorem sl_rrValueCopy_2 (C : aj)  (p0 : GValue) (s : Int × GValue) (o : (Int × GValue) ⊕ GValue) (hF : st_rrValueCopy_2 p0 s = some o) : evW TT C.wide n29 b29 2 (hd_rrValueCopy_2 p0 s) = Sum.elim (fun s => evW TT C.wide n29 b29 2 (hd_rrValueCopy_2 p0 s)) (fun r => ou_rrValueCopy_2 p0 r) o := by
  obtain ⟨p1, p2⟩ := s
  rw [cG TT n29 fl29_2]
  revert hF
  unfold st_rrValueCopy_2
  try dsimp only
  refine bF (fun h1 => ?_) (fun h1 => ?_)
  focus
    rintro ⟨⟩
  rotate_left 1
  refine az fun x1 h2 => ?_
  have g1 : decide (0 ≤ p1) = true := (cp h2).1
  have g2 : (ah bY p0.fItems)[(p1 : Int).toNat]? = some [.s x1] := cn _ h2
  refine aX (fun h3 => ?_) (fun _ => nofun)
  rintro ⟨⟩
  all_goals (show cN _ _ _ (aH _ _ _ _ (Code.seq _ _) _) = _; simp (maxSteps := 4000000) only [*, hd_rrValueCopy_2, ou_rrValueCopy_2, n29a, n29A, n29k, n29K, n29f9, n29mv, ↓RP, RB, ↓ab, be, bf, aJ, Mx.bl, opnd, Mx.bI, Nat.reduceBEq, bQ, Mx.fit, co, toVs, cellsOf, toV, aN, aA, ay, Mx.put, ofConst, ofCell, Mx.prune, killB, aK, putDst, aw, aE, loadAt, bT, List.map, Nat.reduceAdd, Nat.reduceMul, cz, cB, cu, aO, bJ, aM, bD, lowC, bj, kill, spendLoc, spendOk, bG, setCells, takeParts, bv, aR, Nat.reduceSub, Nat.reduceLeDiff, bM, cd, au, aI, aY, cm, bL, cv, ch, bo, aL, bm, bp, bd, Op.operands, ax, av, atO, cy, cx, bne, ↓ao, ↓am, ↓aa, ↓aq, br, aF, bN, ty3, ty9, ty50, ty53])
def hd_rrValueCopy_4 (p0 : GValue) (s : Int × GValue) : St := ⟨[(1, .rp [.i .i64 p0.fKind, .s p0.fText, .i .i64 p0.fCount, .sl 2 (ah GPair.row p0.fPairs), .sl 1 (ah bY p0.fItems), .sl 2 (ah GScore.row p0.fScores)]), (2, .ptr 0 0), (3, .ptr 1 0), (6, .v (.i .i64 s.1))], [[.v (.i .i64 0), .v (.s ByteArray.empty), .v (.i .i64 0), .own 2 [], .own 1 [], .own 2 []], [.v (.i .i64 s.2.fKind), .v (.s s.2.fText), .v (.i .i64 s.2.fCount), .own 2 (ah GPair.row s.2.fPairs), .own 1 (ah bY s.2.fItems), .own 2 (ah GScore.row s.2.fScores)]]⟩
def ou_rrValueCopy_4 (p0 : GValue) (r : GValue) : Option (Ex × St) := some (.normal, ⟨[(2, .ptr 0 0), (3, .ptr 1 0)], [[.v (.i .i64 0), .v (.s ByteArray.empty), .v (.i .i64 0), .own 2 [], .own 1 [], .own 2 []], [.v (.i .i64 r.fKind), .v (.s r.fText), .v (.i .i64 r.fCount), .own 2 (ah GPair.row r.fPairs), .own 1 (ah bY r.fItems), .own 2 (ah GScore.row r.fScores)]]⟩)
theorem sl_rrValueCopy_4 (C : aj)  (p0 : GValue) (s : Int × GValue) (o : (Int × GValue) ⊕ GValue) (hF : st_rrValueCopy_4 p0 s = some o) : evW TT C.wide n29 b29 4 (hd_rrValueCopy_4 p0 s) = Sum.elim (fun s => evW TT C.wide n29 b29 4 (hd_rrValueCopy_4 p0 s)) (fun r => ou_rrValueCopy_4 p0 r) o := by
  obtain ⟨p1, p2⟩ := s
  rw [cG TT n29 fl29_4]
  revert hF
  unfold st_rrValueCopy_4
  try dsimp only
  refine bF (fun h1 => ?_) (fun h1 => ?_)
  focus
    rintro ⟨⟩
  rotate_left 1
  refine az fun x1 h2 => ?_
  have g1 : decide (0 ≤ p1) = true := (cp h2).1
  have g2 : (ah GScore.row p0.fScores)[(p1 : Int).toNat]? = some [.s x1.fMember, .i .i64 x1.fN] := cn _ h2
  refine aX (fun h3 => ?_) (fun _ => nofun)
  rintro ⟨⟩
  all_goals (show cN _ _ _ (aH _ _ _ _ (Code.seq _ _) _) = _; simp (maxSteps := 4000000) only [*, hd_rrValueCopy_4, ou_rrValueCopy_4, n29a, n29A, n29k, n29K, n29f13, n29mv, ↓RP, RB, ↓ab, be, bf, aJ, Mx.bl, opnd, Mx.bI, Nat.reduceBEq, bQ, Mx.fit, co, toVs, cellsOf, toV, aN, aA, ay, Mx.put, ofConst, ofCell, Mx.prune, killB, killBs, aK, putDst, aw, aE, loadAt, bT, List.map, Nat.reduceAdd, Nat.reduceMul, cz, cB, cu, aO, bJ, aM, bD, lowC, bj, kill, spendLoc, spendOk, bG, setCells, takeParts, bv, aR, Nat.reduceSub, Nat.reduceLeDiff, bM, cd, au, aI, aY, cm, bL, cv, ch, bo, aL, bm, bp, bd, Op.operands, ax, av, atO, cy, cx, bne, ↓ao, ↓am, ↓aa, ↓aq, br, aF, bN, ty3, ty51, ty53, ty105, GScore.one])
theorem r_rrValueCopy (C : aj)  (p0 : GValue) (r : GValue) (hF : rrValueCopy p0 = some r) : cR TT C.wide (evW TT C.wide n29 b29) n29 Try.f29.results.toList (aU Try.f29) [.agg [.v (.i .i64 p0.fKind), .v (.s p0.fText), .v (.i .i64 p0.fCount), .v (.sl 2 (ah GPair.row p0.fPairs)), .v (.sl 1 (ah bY p0.fItems)), .v (.sl 2 (ah GScore.row p0.fScores))]] [] = some (.agg [.v (.i .i64 r.fKind), .v (.s r.fText), .v (.i .i64 r.fCount), .own 2 (ah GPair.row r.fPairs), .own 1 (ah bY r.fItems), .own 2 (ah GScore.row r.fScores)], []) := by
  revert hF
  unfold rrValueCopy
  refine az ?_
  rintro x1 h1
  unfold rrValueCopy_c0
  have g1 := cH _ _ (sl_rrValueCopy_0 C p0) h1
  try simp only [ak, hd_rrValueCopy_0, ou_rrValueCopy_0] at g1
  refine az ?_
  rintro x2 h2
  have g2 := cH _ _ (sl_rrValueCopy_2 C p0) h2
  try simp only [hd_rrValueCopy_2, ou_rrValueCopy_2] at g2
  refine az ?_
  rintro x3 h3
  have g3 := cH _ _ (sl_rrValueCopy_4 C p0) h3
  try simp only [hd_rrValueCopy_4, ou_rrValueCopy_4] at g3
  rintro ⟨⟩
  all_goals (rw [bk]; show cC _ _ _ (aH _ _ _ _ (Code.seq _ _) _) = _; simp (maxSteps := 4000000) only [*, res29, n29k, n29K, n29ro, n29mv, ↓RP, RB, enter, be, bf, aJ, Mx.bl, opnd, Mx.bI, Nat.reduceBEq, bQ, Mx.fit, bP, co, toVs, cellsOf, toV, aN, aA, ay, Mx.put, ofConst, ofCell, Mx.prune, killB, killBs, aK, putDst, aw, aE, loadAt, bT, List.map, Nat.reduceAdd, aC, bu, bx, cA, bS, bJ, aM, bD, lowC, kill, bG, ce, fill, setCells, takeParts, Nat.reduceLeDiff, ax, bne, ↓ao, ↓aa, ty3, ty9, ty49, ty50, ty51, ty53])
def n35K : List (Nat × List Nat) := [(0, [1, 2]), (1, [1, 2, 3]), (2, [1, 2, 3, 4]), (3, [1, 2, 3, 4, 13]), (4, [1, 2, 3, 4]), (5, [1, 2, 3, 4, 5]), (6, [1, 2, 3, 4]), (7, [2])]
def n35A : List (Nat × List Nat × List Nat) := [(13, [1, 2, 3, 4], [2, 3])]
def n35 : cL where
  keep := ax n35K
  ro := fun t => t == 1
  mv := fun t => t == 34
  give := fun _ => false
  free := fun i => match i with | 6 => [(0, 2), (1, 2), (0, 3), (1, 3), (0, 4), (1, 4), (2, 4), (3, 4), (0, 5), (1, 5), (2, 5), (3, 5), (0, 6), (1, 6), (2, 6), (3, 6), (0, 7), (1, 7), (2, 7), (3, 7), (4, 7), (5, 7), (6, 7), (0, 8), (1, 8), (2, 8), (3, 8), (4, 8), (5, 8), (6, 8), (0, 9), (1, 9), (0, 10), (1, 10)] | _ => []
  alive := av n35A
theorem n35a (t : Nat) (x : Bool) (e : Env) (S : bH) : cK n35 t x ⟨e, S⟩ = atO (av n35A t x) e S := cF rfl t x e S
theorem n35k (i : Nat) : n35.keep i = ax n35K i := rfl
theorem n35ro (t : Nat) : n35.ro t = (t == 1) := rfl
theorem n35mv (t : Nat) : n35.mv t = (t == 34) := rfl
theorem n35f6 : n35.free 6 = [(0, 2), (1, 2), (0, 3), (1, 3), (0, 4), (1, 4), (2, 4), (3, 4), (0, 5), (1, 5), (2, 5), (3, 5), (0, 6), (1, 6), (2, 6), (3, 6), (0, 7), (1, 7), (2, 7), (3, 7), (4, 7), (5, 7), (6, 7), (0, 8), (1, 8), (2, 8), (3, 8), (4, 8), (5, 8), (6, 8), (0, 9), (1, 9), (0, 10), (1, 10)] := rfl
theorem res35 : Try.f35.results.toList = [.cell 2 63] := rfl
noncomputable def b35 : Code := aU Try.f35
noncomputable def c35_0 : Code := (bE 0 (aU Try.f35)).getD .skip
theorem fl35_0 : bE 0 b35 = some c35_0 := rfl
def hd_rrStoreCopy_0 (p0 : GStore) (s : Int × GStore) : St := ⟨[(1, .rp [.i .i64 p0.fNow, .sl 8 (ah GEntry.row p0.fEntries)]), (2, .ptr 0 0), (3, .ptr 1 0), (4, .v (.i .i64 s.1))], [[.v (.i .i64 0), .own 8 []], [.v (.i .i64 s.2.fNow), .own 8 (ah GEntry.row s.2.fEntries)]]⟩
def ou_rrStoreCopy_0 (p0 : GStore) (r : GStore) : Option (Ex × St) := some (.normal, ⟨[(2, .ptr 0 0), (3, .ptr 1 0)], [[.v (.i .i64 0), .own 8 []], [.v (.i .i64 r.fNow), .own 8 (ah GEntry.row r.fEntries)]]⟩)
theorem sl_rrStoreCopy_0 (C : aj) (k_rrValueCopy : K_rrValueCopy C) (p0 : GStore) (s : Int × GStore) (o : (Int × GStore) ⊕ GStore) (hF : st_rrStoreCopy_0 p0 s = some o) : evW TT C.wide n35 b35 0 (hd_rrStoreCopy_0 p0 s) = Sum.elim (fun s => evW TT C.wide n35 b35 0 (hd_rrStoreCopy_0 p0 s)) (fun r => ou_rrStoreCopy_0 p0 r) o := by
  obtain ⟨p1, p2⟩ := s
  rw [cG TT n35 fl35_0]
  revert hF
  unfold st_rrStoreCopy_0
  try dsimp only
  refine bF (fun h1 => ?_) (fun h1 => ?_)
  focus
    rintro ⟨⟩
  rotate_left 1
  refine az fun x1 h2 => ?_
  have g1 : decide (0 ≤ p1) = true := (cp h2).1
  have g2 : (ah GEntry.row p0.fEntries)[(p1 : Int).toNat]? = some [.s x1.fKey, .i .i64 x1.fValue.fKind, .s x1.fValue.fText, .i .i64 x1.fValue.fCount, .sl 2 (ah GPair.row x1.fValue.fPairs), .sl 1 (ah bY x1.fValue.fItems), .sl 2 (ah GScore.row x1.fValue.fScores), .i .i64 x1.fUntil] := cn _ h2
  refine az fun x2 h3 => ?_
  have g3 := bK (k_rrValueCopy x1.fValue _ h3)
  try simp only [ak] at g3
  refine aX (fun h4 => ?_) (fun _ => nofun)
  rintro ⟨⟩
  all_goals (show cN _ _ _ (aH _ _ _ _ (Code.seq _ _) _) = _; simp (maxSteps := 4000000) only [*, hd_rrStoreCopy_0, ou_rrStoreCopy_0, n35a, n35A, n35k, n35K, n35f6, n35mv, ↓RP, RB, ↓ai, be, bf, aJ, Mx.bl, opnd, Mx.bI, Nat.reduceBEq, bQ, Mx.fit, bP, co, toVs, cellsOf, toV, aN, aA, ay, Mx.put, ofConst, ofCell, Mx.prune, killB, killBs, aK, putDst, aw, aE, loadAt, bT, List.map, Nat.reduceAdd, Nat.reduceMul, cz, cB, cu, aO, bJ, aM, bD, lowC, forceAll, bj, kill, spendLoc, spendOk, bO, lend, lendA, aS, aB, bR, bare, bW, bG, fill, setCells, takeParts, bv, aR, Nat.reduceSub, Nat.reduceLT, Nat.reduceLeDiff, lowA, bn, bM, cd, au, aI, aY, cm, bL, cv, ch, bo, aL, bm, bp, bd, Op.operands, ax, av, atO, newB, cw, cy, cx, bne, ↓ao, ↓am, ↓aa, ↓aq, aP, br, aF, bN, Call.operands, ty3, ty9, ty53, ty61, ty63, ty117, GEntry.one, GPair.flat, GScore.flat])
theorem r_rrStoreCopy (C : aj) (k_rrValueCopy : K_rrValueCopy C) (p0 : GStore) (r : GStore) (hF : rrStoreCopy p0 = some r) : cR TT C.wide (evW TT C.wide n35 b35) n35 Try.f35.results.toList (aU Try.f35) [.agg [.v (.i .i64 p0.fNow), .v (.sl 8 (ah GEntry.row p0.fEntries))]] [] = some (.agg [.v (.i .i64 r.fNow), .own 8 (ah GEntry.row r.fEntries)], []) := by
  revert hF
  unfold rrStoreCopy
  refine az ?_
  rintro x1 h1
  have g1 := cH _ _ (sl_rrStoreCopy_0 C k_rrValueCopy p0) h1
  try simp only [ak, hd_rrStoreCopy_0, ou_rrStoreCopy_0] at g1
  rintro ⟨⟩
  all_goals (rw [bk]; show cC _ _ _ (aH _ _ _ _ (Code.seq _ _) _) = _; simp (maxSteps := 4000000) only [*, res35, n35k, n35K, n35ro, n35mv, ↓RP, RB, enter, be, bf, aJ, Mx.bl, opnd, Mx.bI, Nat.reduceBEq, bQ, Mx.fit, bP, co, toVs, cellsOf, toV, aN, aA, ay, Mx.put, ofConst, ofCell, Mx.prune, killB, killBs, aK, putDst, aw, aE, loadAt, bT, List.map, Nat.reduceAdd, aC, bu, bx, cA, bS, bJ, aM, bD, lowC, kill, bG, ce, fill, setCells, takeParts, Nat.reduceLeDiff, ax, bne, ↓ao, ↓aa, ty3, ty61, ty63])
def n90K : List (Nat × List Nat) := [(0, [1, 2]), (1, [1, 2, 3]), (2, [1, 2, 3, 4]), (3, [1, 2, 3, 4, 16]), (4, [1, 2, 3, 4]), (5, [1, 2, 3, 4]), (6, [2])]
def n90A : List (Nat × List Nat × List Nat) := [(16, [1, 2, 3, 4], [2, 3])]
def n90 : cL where
  keep := ax n90K
  ro := fun t => t == 1
  mv := fun t => t == 29
  give := fun _ => false
  free := fun i => match i with | 5 => [(0, 2), (1, 2), (0, 3), (1, 3), (0, 4), (1, 4), (2, 4), (3, 4), (0, 5), (1, 5), (0, 6), (1, 6), (0, 7), (1, 7)] | _ => []
  alive := av n90A
theorem n90a (t : Nat) (x : Bool) (e : Env) (S : bH) : cK n90 t x ⟨e, S⟩ = atO (av n90A t x) e S := cF rfl t x e S
theorem n90k (i : Nat) : n90.keep i = ax n90K i := rfl
theorem n90ro (t : Nat) : n90.ro t = (t == 1) := rfl
theorem n90mv (t : Nat) : n90.mv t = (t == 29) := rfl
theorem n90f5 : n90.free 5 = [(0, 2), (1, 2), (0, 3), (1, 3), (0, 4), (1, 4), (2, 4), (3, 4), (0, 5), (1, 5), (0, 6), (1, 6), (0, 7), (1, 7)] := rfl
theorem res90 : Try.f90.results.toList = [.cell 2 128] := rfl
noncomputable def b90 : Code := aU Try.f90
noncomputable def c90_0 : Code := (bE 0 (aU Try.f90)).getD .skip
theorem fl90_0 : bE 0 b90 = some c90_0 := rfl
def hd_rrreplyCopy_0 (p0 : GReply) (s : Int × GReply) : St := ⟨[(1, .rp [.i .i64 p0.fCode, .s p0.fText, .i .i64 p0.fN, .sl 1 (ah bY p0.fList)]), (2, .ptr 0 0), (3, .ptr 1 0), (4, .v (.i .i64 s.1))], [[.v (.i .i64 0), .v (.s ByteArray.empty), .v (.i .i64 0), .own 1 []], [.v (.i .i64 s.2.fCode), .v (.s s.2.fText), .v (.i .i64 s.2.fN), .own 1 (ah bY s.2.fList)]]⟩
def ou_rrreplyCopy_0 (p0 : GReply) (r : GReply) : Option (Ex × St) := some (.normal, ⟨[(2, .ptr 0 0), (3, .ptr 1 0)], [[.v (.i .i64 0), .v (.s ByteArray.empty), .v (.i .i64 0), .own 1 []], [.v (.i .i64 r.fCode), .v (.s r.fText), .v (.i .i64 r.fN), .own 1 (ah bY r.fList)]]⟩)
theorem sl_rrreplyCopy_0 (C : aj)  (p0 : GReply) (s : Int × GReply) (o : (Int × GReply) ⊕ GReply) (hF : st_rrreplyCopy_0 p0 s = some o) : evW TT C.wide n90 b90 0 (hd_rrreplyCopy_0 p0 s) = Sum.elim (fun s => evW TT C.wide n90 b90 0 (hd_rrreplyCopy_0 p0 s)) (fun r => ou_rrreplyCopy_0 p0 r) o := by
  obtain ⟨p1, p2⟩ := s
  rw [cG TT n90 fl90_0]
  revert hF
  unfold st_rrreplyCopy_0
  try dsimp only
  refine bF (fun h1 => ?_) (fun h1 => ?_)
  focus
    rintro ⟨⟩
  rotate_left 1
  refine az fun x1 h2 => ?_
  have g1 : decide (0 ≤ p1) = true := (cp h2).1
  have g2 : (ah bY p0.fList)[(p1 : Int).toNat]? = some [.s x1] := cn _ h2
  refine aX (fun h3 => ?_) (fun _ => nofun)
  rintro ⟨⟩
  all_goals (show cN _ _ _ (aH _ _ _ _ (Code.seq _ _) _) = _; simp (maxSteps := 4000000) only [*, hd_rrreplyCopy_0, ou_rrreplyCopy_0, n90a, n90A, n90k, n90K, n90f5, n90mv, ↓RP, RB, ↓ab, be, bf, aJ, Mx.bl, opnd, Mx.bI, Nat.reduceBEq, bQ, Mx.fit, co, toVs, cellsOf, toV, aN, aA, ay, Mx.put, ofConst, ofCell, Mx.prune, killB, aK, putDst, aw, aE, loadAt, bT, List.map, Nat.reduceAdd, Nat.reduceMul, cz, cB, cu, aO, bJ, aM, bD, lowC, bj, kill, spendLoc, spendOk, bG, setCells, takeParts, bv, aR, Nat.reduceSub, Nat.reduceLeDiff, bM, cd, au, aI, aY, cm, bL, cv, ch, bo, aL, bm, bp, bd, Op.operands, ax, av, atO, cy, cx, bne, ↓ao, ↓am, ↓aa, ↓aq, br, aF, bN, ty3, ty9, ty50, ty128])
theorem r_rrreplyCopy (C : aj)  (p0 : GReply) (r : GReply) (hF : rrreplyCopy p0 = some r) : cR TT C.wide (evW TT C.wide n90 b90) n90 Try.f90.results.toList (aU Try.f90) [.agg [.v (.i .i64 p0.fCode), .v (.s p0.fText), .v (.i .i64 p0.fN), .v (.sl 1 (ah bY p0.fList))]] [] = some (.agg [.v (.i .i64 r.fCode), .v (.s r.fText), .v (.i .i64 r.fN), .own 1 (ah bY r.fList)], []) := by
  revert hF
  unfold rrreplyCopy
  refine az ?_
  rintro x1 h1
  have g1 := cH _ _ (sl_rrreplyCopy_0 C p0) h1
  try simp only [ak, hd_rrreplyCopy_0, ou_rrreplyCopy_0] at g1
  rintro ⟨⟩
  all_goals (rw [bk]; show cC _ _ _ (aH _ _ _ _ (Code.seq _ _) _) = _; simp (maxSteps := 4000000) only [*, res90, n90k, n90K, n90ro, n90mv, ↓RP, RB, enter, be, bf, aJ, Mx.bl, opnd, Mx.bI, Nat.reduceBEq, bQ, Mx.fit, bP, co, toVs, cellsOf, toV, aN, aA, ay, Mx.put, ofConst, ofCell, Mx.prune, killB, killBs, aK, putDst, aw, aE, loadAt, bT, List.map, Nat.reduceAdd, aC, bu, bx, cA, bS, bJ, aM, bD, lowC, kill, bG, ce, fill, setCells, takeParts, Nat.reduceLeDiff, ax, bne, ↓ao, ↓aa, ty3, ty9, ty25, ty50, ty128])
def n41K : List (Nat × List Nat) := [(0, [1, 2]), (1, [1, 2, 3]), (2, [1, 2, 3, 4]), (3, [1, 2, 3, 4, 16]), (4, [1, 2, 3, 4]), (5, [1, 2, 3, 4, 5]), (6, [1, 2, 3, 4]), (7, [2])]
def n41A : List (Nat × List Nat × List Nat) := [(16, [1, 2, 3, 4], [2, 3])]
def n41 : cL where
  keep := ax n41K
  ro := fun t => t == 1
  mv := fun t => t == 39
  give := fun _ => false
  free := fun i => match i with | 1 => [(0, 3), (1, 3), (2, 3), (0, 4), (1, 4), (2, 4), (0, 6), (1, 6), (2, 6), (3, 6), (4, 6), (5, 6)] | 6 => [(0, 2), (1, 2), (0, 3), (1, 3), (0, 4), (1, 4), (2, 4), (3, 4), (0, 5), (1, 5), (2, 5), (3, 5), (0, 6), (1, 6), (2, 6), (3, 6), (4, 6), (5, 6), (0, 7), (1, 7), (2, 7), (3, 7), (4, 7), (5, 7), (0, 8), (1, 8), (2, 8), (3, 8), (4, 8), (5, 8), (6, 8), (7, 8), (0, 9), (1, 9), (2, 9), (3, 9), (4, 9), (5, 9), (6, 9), (7, 9), (0, 10), (1, 10), (2, 10), (3, 10), (4, 10), (5, 10), (6, 10), (7, 10), (0, 11), (1, 11), (0, 12), (1, 12)] | _ => []
  alive := av n41A
theorem n41a (t : Nat) (x : Bool) (e : Env) (S : bH) : cK n41 t x ⟨e, S⟩ = atO (av n41A t x) e S := cF rfl t x e S
theorem n41k (i : Nat) : n41.keep i = ax n41K i := rfl
theorem n41ro (t : Nat) : n41.ro t = (t == 1) := rfl
theorem n41mv (t : Nat) : n41.mv t = (t == 39) := rfl
theorem n41f1 : n41.free 1 = [(0, 3), (1, 3), (2, 3), (0, 4), (1, 4), (2, 4), (0, 6), (1, 6), (2, 6), (3, 6), (4, 6), (5, 6)] := rfl
theorem n41f6 : n41.free 6 = [(0, 2), (1, 2), (0, 3), (1, 3), (0, 4), (1, 4), (2, 4), (3, 4), (0, 5), (1, 5), (2, 5), (3, 5), (0, 6), (1, 6), (2, 6), (3, 6), (4, 6), (5, 6), (0, 7), (1, 7), (2, 7), (3, 7), (4, 7), (5, 7), (0, 8), (1, 8), (2, 8), (3, 8), (4, 8), (5, 8), (6, 8), (7, 8), (0, 9), (1, 9), (2, 9), (3, 9), (4, 9), (5, 9), (6, 9), (7, 9), (0, 10), (1, 10), (2, 10), (3, 10), (4, 10), (5, 10), (6, 10), (7, 10), (0, 11), (1, 11), (0, 12), (1, 12)] := rfl
theorem res41 : Try.f41.results.toList = [.cell 2 73] := rfl
noncomputable def b41 : Code := aU Try.f41
noncomputable def c41_0 : Code := (bE 0 (aU Try.f41)).getD .skip
theorem fl41_0 : bE 0 b41 = some c41_0 := rfl
def hd_rrMachineCopy_z_0 (p0 : GMachine) (s : Int × GMachine) : St := ⟨[(1, .rp [.i .i64 p0.fStore.fNow, .sl 8 (ah GEntry.row p0.fStore.fEntries), .i .i64 p0.fNext, .sl 7 (ah GClient.row p0.fClients)]), (2, .ptr 0 0), (3, .ptr 1 0), (4, .v (.i .i64 s.1))], [[.v (.i .i64 0), .own 8 [], .v (.i .i64 0), .own 7 []], [.v (.i .i64 s.2.fStore.fNow), .own 8 (ah GEntry.row s.2.fStore.fEntries), .v (.i .i64 s.2.fNext), .own 7 (ah GClient.row s.2.fClients)]]⟩
def ou_rrMachineCopy_z_0 (p0 : GMachine) (r : GMachine) : Option (Ex × St) := some (.normal, ⟨[(2, .ptr 0 0), (3, .ptr 1 0)], [[.v (.i .i64 0), .own 8 [], .v (.i .i64 0), .own 7 []], [.v (.i .i64 r.fStore.fNow), .own 8 (ah GEntry.row r.fStore.fEntries), .v (.i .i64 r.fNext), .own 7 (ah GClient.row r.fClients)]]⟩)
theorem sl_rrMachineCopy_z_0 (C : aj) (k_rrreplyCopy : K_rrreplyCopy C) (p0 : GMachine) (s : Int × GMachine) (o : (Int × GMachine) ⊕ GMachine) (hF : st_rrMachineCopy_z_0 p0 s = some o) : evW TT C.wide n41 b41 0 (hd_rrMachineCopy_z_0 p0 s) = Sum.elim (fun s => evW TT C.wide n41 b41 0 (hd_rrMachineCopy_z_0 p0 s)) (fun r => ou_rrMachineCopy_z_0 p0 r) o := by
  obtain ⟨p1, p2⟩ := s
  rw [cG TT n41 fl41_0]
  revert hF
  unfold st_rrMachineCopy_z_0
  try dsimp only
  refine bF (fun h1 => ?_) (fun h1 => ?_)
  focus
    rintro ⟨⟩
  rotate_left 1
  refine az fun x1 h2 => ?_
  have g1 : decide (0 ≤ p1) = true := (cp h2).1
  have g2 : (ah GClient.row p0.fClients)[(p1 : Int).toNat]? = some [.i .i64 x1.fId, .i .i64 x1.fSeq, .i .i64 x1.fTime, .i .i64 x1.fReply.fCode, .s x1.fReply.fText, .i .i64 x1.fReply.fN, .sl 1 (ah bY x1.fReply.fList)] := cn _ h2
  refine az fun x2 h3 => ?_
  have g3 := bK (k_rrreplyCopy x1.fReply _ h3)
  try simp only [ak] at g3
  refine aX (fun h4 => ?_) (fun _ => nofun)
  rintro ⟨⟩
  all_goals (show cN _ _ _ (aH _ _ _ _ (Code.seq _ _) _) = _; simp (maxSteps := 4000000) only [*, hd_rrMachineCopy_z_0, ou_rrMachineCopy_z_0, n41a, n41A, n41k, n41K, n41f6, n41mv, ↓RP, RB, ↓ai, be, bf, aJ, Mx.bl, opnd, Mx.bI, Nat.reduceBEq, bQ, Mx.fit, bP, co, toVs, cellsOf, toV, aN, aA, ay, Mx.put, ofConst, ofCell, Mx.prune, killB, killBs, aK, putDst, aw, aE, loadAt, bT, List.map, Nat.reduceAdd, Nat.reduceMul, cz, cB, cu, aO, bJ, aM, bD, lowC, forceAll, bj, kill, spendLoc, spendOk, bO, lend, lendA, aS, aB, bR, bare, bW, bG, fill, setCells, takeParts, bv, aR, Nat.reduceSub, Nat.reduceLT, Nat.reduceLeDiff, lowA, bn, bM, cd, au, aI, aY, cm, bL, cv, ch, bo, aL, bm, bp, bd, Op.operands, ax, av, atO, newB, cw, cy, cx, bne, ↓ao, ↓am, ↓aa, ↓aq, aP, br, aF, bN, Call.operands, ty3, ty71, ty73, ty128, ty130, GClient.one])
theorem r_rrMachineCopy_z (C : aj) (k_rrStoreCopy : K_rrStoreCopy C) (k_rrreplyCopy : K_rrreplyCopy C) (p0 : GMachine) (r : GMachine) (hF : rrMachineCopy_z p0 = some r) : ∃ d S, cR TT C.wide (evW TT C.wide n41 b41) n41 Try.f41.results.toList (aU Try.f41) [.agg [.v (.i .i64 p0.fStore.fNow), .v (.sl 8 (ah GEntry.row p0.fStore.fEntries)), .v (.i .i64 p0.fNext), .v (.sl 7 (ah GClient.row p0.fClients))]] [] = some (d, S) ∧ bD d = true ∧ (frz d, S) = (.agg [.v (.i .i64 r.fStore.fNow), .v (.sl 8 (ah GEntry.row r.fStore.fEntries)), .v (.i .i64 r.fNext), .v (.sl 7 (ah GClient.row r.fClients))], []) := by
  revert hF
  unfold rrMachineCopy_z
  refine az fun x1 h1 => ?_
  have g1 := bK (k_rrStoreCopy p0.fStore _ h1)
  try simp only [ak] at g1
  refine az ?_
  rintro x2 h2
  have g2 := cH _ _ (sl_rrMachineCopy_z_0 C k_rrreplyCopy p0) h2
  try simp only [ak, hd_rrMachineCopy_z_0, ou_rrMachineCopy_z_0] at g2
  intro hF
  have hR := Option.some.inj hF
  clear hF
  subst hR
  refine ⟨.agg [.v (.i .i64 x2.fStore.fNow), .own 8 (ah GEntry.row x2.fStore.fEntries), .v (.i .i64 x2.fNext), .own 7 (ah GClient.row x2.fClients)], [], ?_, rfl, by first | rfl | (simp only [*]; done) | (simp only [*]; rfl)⟩
  all_goals (rw [bk]; show cC _ _ _ (aH _ _ _ _ (Code.seq _ _) _) = _; simp (maxSteps := 4000000) only [*, res41, n41k, n41K, n41f1, n41ro, n41mv, ↓RP, RB, enter, be, bf, aJ, Mx.bl, opnd, Mx.bI, Nat.reduceBEq, bQ, Mx.fit, bP, co, toVs, cellsOf, toV, aN, aA, ay, Mx.put, ofConst, ofCell, Mx.prune, killB, killBs, aK, putDst, aw, aE, loadAt, bT, List.map, Nat.reduceAdd, aC, bu, bx, cA, bS, bJ, aM, bD, lowC, forceAll, kill, lend, lendA, aS, aB, bR, bare, bW, bG, ce, fill, setCells, takeParts, Nat.reduceLeDiff, bM, cd, au, aI, aY, cm, bL, cv, ch, bo, aL, bm, bp, bd, cr, Op.operands, ax, newB, cw, bne, ↓ao, ↓aa, ↓aq, br, bN, Call.operands, ty3, ty63, ty71, ty73])
def n61K : List (Nat × List Nat) := [(0, [1]), (1, [2])]
def n61 : cL where
  keep := ax n61K
  ro := fun t => t == 1
  mv := fun _ => false
  give := fun _ => false
  free := fun _ => []
theorem n61k (i : Nat) : n61.keep i = ax n61K i := rfl
theorem n61ro (t : Nat) : n61.ro t = (t == 1) := rfl
theorem n61mv (t : Nat) : n61.mv t = (false) := rfl
theorem res61 : Try.f61.results.toList = [.tmp 2] := rfl
noncomputable def b61 : Code := aU Try.f61
theorem r_value_elements (C : aj)  (p0 : GValue) (r : Int) (hF : value_elements p0 = some r) : cR TT C.wide (evW TT C.wide n61 b61) n61 Try.f61.results.toList (aU Try.f61) [.agg [.v (.i .i64 p0.fKind), .v (.s p0.fText), .v (.i .i64 p0.fCount), .v (.sl 2 (ah GPair.row p0.fPairs)), .v (.sl 1 (ah bY p0.fItems)), .v (.sl 2 (ah GScore.row p0.fScores))]] [] = some (.v (.i .i64 r), []) := by
  revert hF
  unfold value_elements
  rintro ⟨⟩
  all_goals (rw [bk]; show cC _ _ _ (aH _ _ _ _ (Code.seq _ _) _) = _; simp (maxSteps := 4000000) only [*, res61, n61k, n61K, n61ro, n61mv, ↓RP, RB, enter, be, bf, aJ, Mx.bl, opnd, Mx.bI, Nat.reduceBEq, bQ, Mx.fit, bP, co, toVs, cellsOf, toV, aN, aA, ay, Mx.put, ofConst, ofCell, Mx.prune, killB, aK, putDst, aw, aE, loadAt, bT, List.map, cz, cB, cu, aC, bu, bx, cA, bS, bJ, aM, lowC, ax, cy, cx, ↓ao, ↓aa, ty3, ty49, ty50, ty51, ty53])
def n62K : List (Nat × List Nat) := [(0, [0]), (1, [2])]
def n62 : cL where
  keep := ax n62K
  ro := fun _ => false
  mv := fun _ => false
  give := fun _ => false
  free := fun _ => []
theorem n62k (i : Nat) : n62.keep i = ax n62K i := rfl
theorem res62 : Try.f62.results.toList = [.tmp 2] := rfl
noncomputable def b62 : Code := aU Try.f62
theorem r_value_text (C : aj)  (p0 : ByteArray) (r : Bool) (hF : value_text p0 = some r) : cR TT C.wide (evW TT C.wide n62 b62) n62 Try.f62.results.toList (aU Try.f62) [.v (.s p0)] [] = some (.v (.b r), []) := by
  revert hF
  unfold value_text
  rintro ⟨⟩
  all_goals (rw [bk]; show cC _ _ _ (aH _ _ _ _ (Code.seq _ _) _) = _; simp (maxSteps := 4000000) only [*, res62, n62k, n62K, ↓RP, RB, enter, be, bf, aJ, Mx.bl, opnd, Mx.bI, Nat.reduceBEq, bQ, Mx.fit, co, aN, aA, Mx.put, ofConst, ofCell, Mx.prune, killB, aK, putDst, aw, List.map, cz, cB, cu, aC, bu, bx, cA, bS, bJ, aM, lowC, ax, cy, cx, ↓ao, ↓aa, ty4, ty9])
def n64K : List (Nat × List Nat) := [(0, [0]), (1, [2])]
def n64 : cL where
  keep := ax n64K
  ro := fun _ => false
  mv := fun _ => false
  give := fun _ => false
  free := fun _ => []
theorem n64k (i : Nat) : n64.keep i = ax n64K i := rfl
theorem res64 : Try.f64.results.toList = [.tmp 2] := rfl
noncomputable def b64 : Code := aU Try.f64
theorem r_vaC_fn1 (C : aj) (k_value_text : K_value_text C) (p0 : ByteArray) (r : Bool) (hF : vaC_fn1 p0 = some r) : cR TT C.wide (evW TT C.wide n64 b64) n64 Try.f64.results.toList (aU Try.f64) [.v (.s p0)] [] = some (.v (.b r), []) := by
  revert hF
  unfold vaC_fn1
  have g1 := bK (k_value_text p0 _ (value_text_t p0))
  try simp only [ak] at g1
  rintro ⟨⟩
  all_goals (rw [bk]; show cC _ _ _ (aH _ _ _ _ (Code.seq _ _) _) = _; simp (maxSteps := 4000000) only [*, res64, n64k, n64K, ↓RP, RB, enter, be, bf, aJ, Mx.bl, opnd, Mx.bI, Nat.reduceBEq, bQ, Mx.fit, co, aN, aA, Mx.put, ofConst, ofCell, Mx.prune, killB, aK, putDst, aw, List.map, aC, bu, bx, cA, bS, bJ, aM, lowC, forceAll, lend, lendA, aS, aB, bR, bare, bW, ax, newB, cw, ↓ao, ↓aa, ty4])
def n108K : List (Nat × List Nat) := [(0, [0, 1]), (1, [0, 1, 7, 8]), (2, [0, 1, 7, 8, 9]), (3, [0, 1, 5, 7, 8]), (4, [0, 1, 5, 7, 8, 16]), (5, [4]), (6, [0, 1, 7, 8]), (7, [4])]
def n108A : List (Nat × List Nat × List Nat) := [(9, [0, 1, 7, 8], []), (16, [5], [0, 1, 7, 8])]
def n108 : cL where
  keep := ax n108K
  ro := fun _ => false
  mv := fun _ => false
  give := fun _ => false
  free := fun _ => []
  alive := av n108A
theorem n108a (t : Nat) (x : Bool) (e : Env) (S : bH) : cK n108 t x ⟨e, S⟩ = atO (av n108A t x) e S := cF rfl t x e S
theorem n108k (i : Nat) : n108.keep i = ax n108K i := rfl
theorem n108mv (t : Nat) : n108.mv t = (false) := rfl
theorem n108gv (t : Nat) : n108.give t = (false) := rfl
theorem res108 : Try.f108.results.toList = [.tmp 4] := rfl
noncomputable def b108 : Code := aU Try.f108
noncomputable def c108_0 : Code := (bE 0 (aU Try.f108)).getD .skip
theorem fl108_0 : bE 0 b108 = some c108_0 := rfl
def hd_sISvaC_fn1_0 (p0 : List ByteArray) (p1 : Int) (s : Int) : St := ⟨[(0, .v (.sl 1 (ah bY p0))), (1, .clo 64 []), (7, .v (.i .i64 p1)), (8, .v (.i .i64 s))], []⟩
def ou_sISvaC_fn1_0 (p0 : List ByteArray) (p1 : Int) (r : Int ⊕ Unit) : Option (Ex × St) := match r with
  | .inl r => some (.ret, ⟨[(4, .v (.i .i64 r))], []⟩)
  | .inr r => some (.normal, ⟨[], []⟩)
theorem sl_sISvaC_fn1_0 (C : aj) (k_vaC_fn1 : K_vaC_fn1 C) (p0 : List ByteArray) (p1 : Int) (p2 : Int) (o : Int ⊕ (Int ⊕ Unit)) (hF : st_sISvaC_fn1_0 p0 p1 p2 = some o) : evW TT C.wide n108 b108 0 (hd_sISvaC_fn1_0 p0 p1 p2) = Sum.elim (fun s => evW TT C.wide n108 b108 0 (hd_sISvaC_fn1_0 p0 p1 s)) (fun r => ou_sISvaC_fn1_0 p0 p1 r) o := by
  rw [cG TT n108 fl108_0]
  revert hF
  unfold st_sISvaC_fn1_0
  try dsimp only
  refine bF (fun h1 => ?_) (fun h1 => ?_)
  focus
    rintro ⟨⟩
  rotate_left 1
  refine az fun x1 h2 => ?_
  have g1 : decide (0 ≤ p2) = true := (cp h2).1
  have g2 : (ah bY p0)[(p2 : Int).toNat]? = some [.s x1] := cn _ h2
  have g3 := bK (k_vaC_fn1 x1 _ (vaC_fn1_t x1))
  try simp only [ak] at g3
  refine aX (fun h3 => ?_) (fun h3 => ?_)
  focus
    rintro ⟨⟩
  rotate_left 1
  rintro ⟨⟩
  all_goals (show cN _ _ _ (aH _ _ _ _ (Code.seq _ _) _) = _; simp (maxSteps := 4000000) only [*, hd_sISvaC_fn1_0, ou_sISvaC_fn1_0, n108a, n108A, n108k, n108K, n108mv, n108gv, ↓RP, RB, ↓ai, be, bf, aJ, Mx.bl, opnd, Mx.bI, Nat.reduceBEq, bQ, Mx.fit, co, aN, aA, ay, Mx.put, ofConst, ofCell, Mx.prune, killB, killBs, aK, putDst, aw, loadAt, bT, List.map, cz, cB, bJ, aM, bD, bj, kill, frz, cq, bw, argE, argsE, ax, av, atO, cy, cx, ↓ao, ↓am, ↓aa, ty3, ty9, ty50])
theorem r_sISvaC_fn1 (C : aj) (k_vaC_fn1 : K_vaC_fn1 C) (p0 : List ByteArray) (r : Int) (hF : sISvaC_fn1 p0 = some r) : cR TT C.wide (evW TT C.wide n108 b108) n108 Try.f108.results.toList (aU Try.f108) [.v (.sl 1 (ah bY p0)), .clo 64 []] [] = some (.v (.i .i64 r), []) := by
  revert hF
  unfold sISvaC_fn1
  refine az ?_
  rintro (x1 | _) h1
  focus
    dsimp only
    have g1 := cH _ _ (sl_sISvaC_fn1_0 C k_vaC_fn1 p0 (p0.length : Int)) h1
    try simp only [hd_sISvaC_fn1_0, ou_sISvaC_fn1_0] at g1
    rintro ⟨⟩
  rotate_left 1
  dsimp only
  have g2 := cH _ _ (sl_sISvaC_fn1_0 C k_vaC_fn1 p0 (p0.length : Int)) h1
  try simp only [hd_sISvaC_fn1_0, ou_sISvaC_fn1_0] at g2
  rintro ⟨⟩
  all_goals (rw [bk]; show cC _ _ _ (aH _ _ _ _ (Code.seq _ _) _) = _; simp (maxSteps := 4000000) only [*, res108, n108k, n108K, ↓RP, RB, enter, be, bf, aJ, Mx.bl, opnd, Mx.bI, Nat.reduceBEq, bQ, Mx.fit, co, aN, aA, Mx.put, ofConst, ofCell, Mx.prune, killB, killBs, aK, putDst, aw, List.map, cu, aC, bu, bx, cA, bS, bJ, aM, lowC, Int.reduceNeg, ax, ↓ao, ↓aa, ty3, ty50])
def n63K : List (Nat × List Nat) := [(0, [0, 1]), (1, [4])]
def n63 : cL where
  keep := ax n63K
  ro := fun _ => false
  mv := fun _ => false
  give := fun _ => false
  free := fun _ => []
theorem n63k (i : Nat) : n63.keep i = ax n63K i := rfl
theorem res63 : Try.f63.results.toList = [.tmp 4] := rfl
noncomputable def b63 : Code := aU Try.f63
theorem r_sCSvaC_fn1 (C : aj) (k_sISvaC_fn1 : K_sISvaC_fn1 C) (p0 : List ByteArray) (r : Bool) (hF : sCSvaC_fn1 p0 = some r) : cR TT C.wide (evW TT C.wide n63 b63) n63 Try.f63.results.toList (aU Try.f63) [.v (.sl 1 (ah bY p0)), .clo 64 []] [] = some (.v (.b r), []) := by
  revert hF
  unfold sCSvaC_fn1
  refine az fun x1 h1 => ?_
  have g1 := bK (k_sISvaC_fn1 p0 _ h1)
  try simp only [ak] at g1
  rintro ⟨⟩
  all_goals (rw [bk]; show cC _ _ _ (aH _ _ _ _ (Code.seq _ _) _) = _; simp (maxSteps := 4000000) only [*, res63, n63k, n63K, ↓RP, RB, enter, be, bf, aJ, Mx.bl, opnd, Mx.bI, Nat.reduceBEq, bQ, Mx.fit, co, aN, aA, Mx.put, ofConst, ofCell, Mx.prune, killB, killBs, aK, putDst, aw, List.map, cz, cB, aC, bu, bx, cA, bS, bJ, aM, lowC, forceAll, lend, lendA, aS, aB, bR, bare, bW, ax, newB, cw, cy, cx, ↓ao, ↓aa, ty4])
def n67K : List (Nat × List Nat) := [(0, [0]), (1, [2])]
def n67 : cL where
  keep := ax n67K
  ro := fun _ => false
  mv := fun _ => false
  give := fun _ => false
  free := fun _ => []
theorem n67k (i : Nat) : n67.keep i = ax n67K i := rfl
theorem res67 : Try.f67.results.toList = [.tmp 2] := rfl
noncomputable def b67 : Code := aU Try.f67
theorem r_value_field (C : aj)  (p0 : ByteArray) (r : Bool) (hF : value_field p0 = some r) : cR TT C.wide (evW TT C.wide n67 b67) n67 Try.f67.results.toList (aU Try.f67) [.v (.s p0)] [] = some (.v (.b r), []) := by
  revert hF
  unfold value_field
  refine aX (fun h1 => ?_) (fun h1 => ?_)
  focus
    rintro ⟨⟩
  rotate_left 1
  rintro ⟨⟩
  all_goals (rw [bk]; show cC _ _ _ (aH _ _ _ _ (Code.seq _ _) _) = _; simp (maxSteps := 4000000) only [*, res67, n67k, n67K, ↓RP, RB, enter, aQ, aD, be, bf, aJ, Mx.bl, opnd, Mx.bI, Nat.reduceBEq, bQ, Mx.fit, co, aN, aA, Mx.put, ofConst, ofCell, Mx.prune, killB, aK, putDst, aw, List.map, cz, cB, cu, aC, bu, bx, cA, bS, bJ, aM, lowC, ax, cy, cx, ↓ao, ↓aa, bh, ty4, ty9])
def n66K : List (Nat × List Nat) := [(0, [1]), (1, [2])]
def n66 : cL where
  keep := ax n66K
  ro := fun t => t == 1
  mv := fun _ => false
  give := fun _ => false
  free := fun _ => []
theorem n66k (i : Nat) : n66.keep i = ax n66K i := rfl
theorem n66ro (t : Nat) : n66.ro t = (t == 1) := rfl
theorem n66mv (t : Nat) : n66.mv t = (false) := rfl
theorem res66 : Try.f66.results.toList = [.tmp 2] := rfl
noncomputable def b66 : Code := aU Try.f66
theorem r_vaC_fn2 (C : aj) (k_value_field : K_value_field C) (k_value_text : K_value_text C) (p0 : GPair) (r : Bool) (hF : vaC_fn2 p0 = some r) : cR TT C.wide (evW TT C.wide n66 b66) n66 Try.f66.results.toList (aU Try.f66) [.agg [.v (.s p0.fField), .v (.s p0.fText)]] [] = some (.v (.b r), []) := by
  revert hF
  unfold vaC_fn2
  have g1 := bK (k_value_field p0.fField _ (value_field_t p0.fField))
  try simp only [ak] at g1
  refine aX (fun h1 => ?_) (fun h1 => ?_)
  focus
    have g2 := bK (k_value_text p0.fText _ (value_text_t p0.fText))
    try simp only [ak] at g2
    rintro ⟨⟩
  rotate_left 1
  rintro ⟨⟩
  all_goals (rw [bk]; show cC _ _ _ (aH _ _ _ _ (Code.seq _ _) _) = _; simp (maxSteps := 4000000) only [*, res66, n66k, n66K, n66ro, n66mv, ↓RP, RB, enter, aQ, aD, be, bf, aJ, Mx.bl, opnd, Mx.bI, Nat.reduceBEq, bQ, Mx.fit, bP, co, toVs, cellsOf, toV, aN, aA, ay, Mx.put, ofConst, ofCell, Mx.prune, killB, aK, putDst, aw, aE, loadAt, bT, List.map, aC, bu, bx, cA, bS, bJ, aM, lowC, forceAll, lend, lendA, aS, aB, bR, bare, bW, ax, newB, cw, ↓ao, ↓aa, bh, ty4, ty9, ty101])
def n109K : List (Nat × List Nat) := [(0, [0, 1]), (1, [0, 1, 7, 8]), (2, [0, 1, 7, 8, 9]), (3, [0, 1, 5, 7, 8]), (4, [0, 1, 5, 7, 8, 16]), (5, [4]), (6, [0, 1, 7, 8]), (7, [4])]
def n109A : List (Nat × List Nat × List Nat) := [(9, [0, 1, 7, 8], []), (16, [5], [0, 1, 7, 8])]
def n109 : cL where
  keep := ax n109K
  ro := fun _ => false
  mv := fun _ => false
  give := fun _ => false
  free := fun _ => []
  alive := av n109A
theorem n109a (t : Nat) (x : Bool) (e : Env) (S : bH) : cK n109 t x ⟨e, S⟩ = atO (av n109A t x) e S := cF rfl t x e S
theorem n109k (i : Nat) : n109.keep i = ax n109K i := rfl
theorem n109mv (t : Nat) : n109.mv t = (false) := rfl
theorem n109gv (t : Nat) : n109.give t = (false) := rfl
theorem res109 : Try.f109.results.toList = [.tmp 4] := rfl
noncomputable def b109 : Code := aU Try.f109
noncomputable def c109_0 : Code := (bE 0 (aU Try.f109)).getD .skip
theorem fl109_0 : bE 0 b109 = some c109_0 := rfl
def hd_sIPvaC_fn2_0 (p0 : List GPair) (p1 : Int) (s : Int) : St := ⟨[(0, .v (.sl 2 (ah GPair.row p0))), (1, .clo 66 []), (7, .v (.i .i64 p1)), (8, .v (.i .i64 s))], []⟩
def ou_sIPvaC_fn2_0 (p0 : List GPair) (p1 : Int) (r : Int ⊕ Unit) : Option (Ex × St) := match r with
  | .inl r => some (.ret, ⟨[(4, .v (.i .i64 r))], []⟩)
  | .inr r => some (.normal, ⟨[], []⟩)
theorem sl_sIPvaC_fn2_0 (C : aj) (k_vaC_fn2 : K_vaC_fn2 C) (p0 : List GPair) (p1 : Int) (p2 : Int) (o : Int ⊕ (Int ⊕ Unit)) (hF : st_sIPvaC_fn2_0 p0 p1 p2 = some o) : evW TT C.wide n109 b109 0 (hd_sIPvaC_fn2_0 p0 p1 p2) = Sum.elim (fun s => evW TT C.wide n109 b109 0 (hd_sIPvaC_fn2_0 p0 p1 s)) (fun r => ou_sIPvaC_fn2_0 p0 p1 r) o := by
  rw [cG TT n109 fl109_0]
  revert hF
  unfold st_sIPvaC_fn2_0
  try dsimp only
  refine bF (fun h1 => ?_) (fun h1 => ?_)
  focus
    rintro ⟨⟩
  rotate_left 1
  refine az fun x1 h2 => ?_
  have g1 : decide (0 ≤ p2) = true := (cp h2).1
  have g2 : (ah GPair.row p0)[(p2 : Int).toNat]? = some [.s x1.fField, .s x1.fText] := cn _ h2
  have g3 := bK (k_vaC_fn2 x1 _ (vaC_fn2_t x1))
  try simp only [ak] at g3
  refine aX (fun h3 => ?_) (fun h3 => ?_)
  focus
    rintro ⟨⟩
  rotate_left 1
  rintro ⟨⟩
  all_goals (show cN _ _ _ (aH _ _ _ _ (Code.seq _ _) _) = _; simp (maxSteps := 4000000) only [*, hd_sIPvaC_fn2_0, ou_sIPvaC_fn2_0, n109a, n109A, n109k, n109K, n109mv, n109gv, ↓RP, RB, ↓ai, be, bf, aJ, Mx.bl, opnd, Mx.bI, Nat.reduceBEq, bQ, Mx.fit, co, aN, aA, ay, Mx.put, ofConst, ofCell, Mx.prune, killB, killBs, aK, putDst, aw, loadAt, bT, List.map, Nat.reduceAdd, cz, cB, bJ, aM, bD, bj, kill, frz, cq, bw, argE, argsE, ax, av, atO, cy, cx, ↓ao, ↓am, ↓aa, ty3, ty49, ty101])
theorem r_sIPvaC_fn2 (C : aj) (k_vaC_fn2 : K_vaC_fn2 C) (p0 : List GPair) (r : Int) (hF : sIPvaC_fn2 p0 = some r) : cR TT C.wide (evW TT C.wide n109 b109) n109 Try.f109.results.toList (aU Try.f109) [.v (.sl 2 (ah GPair.row p0)), .clo 66 []] [] = some (.v (.i .i64 r), []) := by
  revert hF
  unfold sIPvaC_fn2
  refine az ?_
  rintro (x1 | _) h1
  focus
    dsimp only
    have g1 := cH _ _ (sl_sIPvaC_fn2_0 C k_vaC_fn2 p0 (p0.length : Int)) h1
    try simp only [hd_sIPvaC_fn2_0, ou_sIPvaC_fn2_0] at g1
    rintro ⟨⟩
  rotate_left 1
  dsimp only
  have g2 := cH _ _ (sl_sIPvaC_fn2_0 C k_vaC_fn2 p0 (p0.length : Int)) h1
  try simp only [hd_sIPvaC_fn2_0, ou_sIPvaC_fn2_0] at g2
  rintro ⟨⟩
  all_goals (rw [bk]; show cC _ _ _ (aH _ _ _ _ (Code.seq _ _) _) = _; simp (maxSteps := 4000000) only [*, res109, n109k, n109K, ↓RP, RB, enter, be, bf, aJ, Mx.bl, opnd, Mx.bI, Nat.reduceBEq, bQ, Mx.fit, co, aN, aA, Mx.put, ofConst, ofCell, Mx.prune, killB, killBs, aK, putDst, aw, List.map, cu, aC, bu, bx, cA, bS, bJ, aM, lowC, Int.reduceNeg, ax, ↓ao, ↓aa, ty3, ty49])
def n65K : List (Nat × List Nat) := [(0, [0, 1]), (1, [4])]
def n65 : cL where
  keep := ax n65K
  ro := fun _ => false
  mv := fun _ => false
  give := fun _ => false
  free := fun _ => []
theorem n65k (i : Nat) : n65.keep i = ax n65K i := rfl
theorem res65 : Try.f65.results.toList = [.tmp 4] := rfl
noncomputable def b65 : Code := aU Try.f65
theorem r_sCPvaC_fn2 (C : aj) (k_sIPvaC_fn2 : K_sIPvaC_fn2 C) (p0 : List GPair) (r : Bool) (hF : sCPvaC_fn2 p0 = some r) : cR TT C.wide (evW TT C.wide n65 b65) n65 Try.f65.results.toList (aU Try.f65) [.v (.sl 2 (ah GPair.row p0)), .clo 66 []] [] = some (.v (.b r), []) := by
  revert hF
  unfold sCPvaC_fn2
  refine az fun x1 h1 => ?_
  have g1 := bK (k_sIPvaC_fn2 p0 _ h1)
  try simp only [ak] at g1
  rintro ⟨⟩
  all_goals (rw [bk]; show cC _ _ _ (aH _ _ _ _ (Code.seq _ _) _) = _; simp (maxSteps := 4000000) only [*, res65, n65k, n65K, ↓RP, RB, enter, be, bf, aJ, Mx.bl, opnd, Mx.bI, Nat.reduceBEq, bQ, Mx.fit, co, aN, aA, Mx.put, ofConst, ofCell, Mx.prune, killB, killBs, aK, putDst, aw, List.map, cz, cB, aC, bu, bx, cA, bS, bJ, aM, lowC, forceAll, lend, lendA, aS, aB, bR, bare, bW, ax, newB, cw, cy, cx, ↓ao, ↓aa, ty4])
def n69K : List (Nat × List Nat) := [(0, [1]), (1, [2])]
def n69 : cL where
  keep := ax n69K
  ro := fun t => t == 1
  mv := fun _ => false
  give := fun _ => false
  free := fun _ => []
theorem n69k (i : Nat) : n69.keep i = ax n69K i := rfl
theorem n69ro (t : Nat) : n69.ro t = (t == 1) := rfl
theorem n69mv (t : Nat) : n69.mv t = (false) := rfl
theorem res69 : Try.f69.results.toList = [.tmp 2] := rfl
noncomputable def b69 : Code := aU Try.f69
theorem r_vaC_fn3 (C : aj) (k_value_text : K_value_text C) (p0 : GScore) (r : Bool) (hF : vaC_fn3 p0 = some r) : cR TT C.wide (evW TT C.wide n69 b69) n69 Try.f69.results.toList (aU Try.f69) [.agg [.v (.s p0.fMember), .v (.i .i64 p0.fN)]] [] = some (.v (.b r), []) := by
  revert hF
  unfold vaC_fn3
  have g1 := bK (k_value_text p0.fMember _ (value_text_t p0.fMember))
  try simp only [ak] at g1
  rintro ⟨⟩
  all_goals (rw [bk]; show cC _ _ _ (aH _ _ _ _ (Code.seq _ _) _) = _; simp (maxSteps := 4000000) only [*, res69, n69k, n69K, n69ro, n69mv, ↓RP, RB, enter, be, bf, aJ, Mx.bl, opnd, Mx.bI, Nat.reduceBEq, bQ, Mx.fit, bP, co, toVs, cellsOf, toV, aN, aA, ay, Mx.put, ofConst, ofCell, Mx.prune, killB, aK, putDst, aw, aE, loadAt, bT, List.map, aC, bu, bx, cA, bS, bJ, aM, lowC, forceAll, lend, lendA, aS, aB, bR, bare, bW, ax, newB, cw, ↓ao, ↓aa, ty4, ty9, ty105])
def n110K : List (Nat × List Nat) := [(0, [0, 1]), (1, [0, 1, 7, 8]), (2, [0, 1, 7, 8, 9]), (3, [0, 1, 5, 7, 8]), (4, [0, 1, 5, 7, 8, 16]), (5, [4]), (6, [0, 1, 7, 8]), (7, [4])]
def n110A : List (Nat × List Nat × List Nat) := [(9, [0, 1, 7, 8], []), (16, [5], [0, 1, 7, 8])]
def n110 : cL where
  keep := ax n110K
  ro := fun _ => false
  mv := fun _ => false
  give := fun _ => false
  free := fun _ => []
  alive := av n110A
theorem n110a (t : Nat) (x : Bool) (e : Env) (S : bH) : cK n110 t x ⟨e, S⟩ = atO (av n110A t x) e S := cF rfl t x e S
theorem n110k (i : Nat) : n110.keep i = ax n110K i := rfl
theorem n110mv (t : Nat) : n110.mv t = (false) := rfl
theorem n110gv (t : Nat) : n110.give t = (false) := rfl
theorem res110 : Try.f110.results.toList = [.tmp 4] := rfl
noncomputable def b110 : Code := aU Try.f110
noncomputable def c110_0 : Code := (bE 0 (aU Try.f110)).getD .skip
theorem fl110_0 : bE 0 b110 = some c110_0 := rfl
def hd_sIRvaC_fn3_0 (p0 : List GScore) (p1 : Int) (s : Int) : St := ⟨[(0, .v (.sl 2 (ah GScore.row p0))), (1, .clo 69 []), (7, .v (.i .i64 p1)), (8, .v (.i .i64 s))], []⟩
def ou_sIRvaC_fn3_0 (p0 : List GScore) (p1 : Int) (r : Int ⊕ Unit) : Option (Ex × St) := match r with
  | .inl r => some (.ret, ⟨[(4, .v (.i .i64 r))], []⟩)
  | .inr r => some (.normal, ⟨[], []⟩)
theorem sl_sIRvaC_fn3_0 (C : aj) (k_vaC_fn3 : K_vaC_fn3 C) (p0 : List GScore) (p1 : Int) (p2 : Int) (o : Int ⊕ (Int ⊕ Unit)) (hF : st_sIRvaC_fn3_0 p0 p1 p2 = some o) : evW TT C.wide n110 b110 0 (hd_sIRvaC_fn3_0 p0 p1 p2) = Sum.elim (fun s => evW TT C.wide n110 b110 0 (hd_sIRvaC_fn3_0 p0 p1 s)) (fun r => ou_sIRvaC_fn3_0 p0 p1 r) o := by
  rw [cG TT n110 fl110_0]
  revert hF
  unfold st_sIRvaC_fn3_0
  try dsimp only
  refine bF (fun h1 => ?_) (fun h1 => ?_)
  focus
    rintro ⟨⟩
  rotate_left 1
  refine az fun x1 h2 => ?_
  have g1 : decide (0 ≤ p2) = true := (cp h2).1
  have g2 : (ah GScore.row p0)[(p2 : Int).toNat]? = some [.s x1.fMember, .i .i64 x1.fN] := cn _ h2
  have g3 := bK (k_vaC_fn3 x1 _ (vaC_fn3_t x1))
  try simp only [ak] at g3
  refine aX (fun h3 => ?_) (fun h3 => ?_)
  focus
    rintro ⟨⟩
  rotate_left 1
  rintro ⟨⟩
  all_goals (show cN _ _ _ (aH _ _ _ _ (Code.seq _ _) _) = _; simp (maxSteps := 4000000) only [*, hd_sIRvaC_fn3_0, ou_sIRvaC_fn3_0, n110a, n110A, n110k, n110K, n110mv, n110gv, ↓RP, RB, ↓ai, be, bf, aJ, Mx.bl, opnd, Mx.bI, Nat.reduceBEq, bQ, Mx.fit, co, aN, aA, ay, Mx.put, ofConst, ofCell, Mx.prune, killB, killBs, aK, putDst, aw, loadAt, bT, List.map, Nat.reduceAdd, cz, cB, bJ, aM, bD, bj, kill, frz, cq, bw, argE, argsE, ax, av, atO, cy, cx, ↓ao, ↓am, ↓aa, ty3, ty51, ty105])
theorem r_sIRvaC_fn3 (C : aj) (k_vaC_fn3 : K_vaC_fn3 C) (p0 : List GScore) (r : Int) (hF : sIRvaC_fn3 p0 = some r) : cR TT C.wide (evW TT C.wide n110 b110) n110 Try.f110.results.toList (aU Try.f110) [.v (.sl 2 (ah GScore.row p0)), .clo 69 []] [] = some (.v (.i .i64 r), []) := by
  revert hF
  unfold sIRvaC_fn3
  refine az ?_
  rintro (x1 | _) h1
  focus
    dsimp only
    have g1 := cH _ _ (sl_sIRvaC_fn3_0 C k_vaC_fn3 p0 (p0.length : Int)) h1
    try simp only [hd_sIRvaC_fn3_0, ou_sIRvaC_fn3_0] at g1
    rintro ⟨⟩
  rotate_left 1
  dsimp only
  have g2 := cH _ _ (sl_sIRvaC_fn3_0 C k_vaC_fn3 p0 (p0.length : Int)) h1
  try simp only [hd_sIRvaC_fn3_0, ou_sIRvaC_fn3_0] at g2
  rintro ⟨⟩
  all_goals (rw [bk]; show cC _ _ _ (aH _ _ _ _ (Code.seq _ _) _) = _; simp (maxSteps := 4000000) only [*, res110, n110k, n110K, ↓RP, RB, enter, be, bf, aJ, Mx.bl, opnd, Mx.bI, Nat.reduceBEq, bQ, Mx.fit, co, aN, aA, Mx.put, ofConst, ofCell, Mx.prune, killB, killBs, aK, putDst, aw, List.map, cu, aC, bu, bx, cA, bS, bJ, aM, lowC, Int.reduceNeg, ax, ↓ao, ↓aa, ty3, ty51])
def n68K : List (Nat × List Nat) := [(0, [0, 1]), (1, [4])]
def n68 : cL where
  keep := ax n68K
  ro := fun _ => false
  mv := fun _ => false
  give := fun _ => false
  free := fun _ => []
theorem n68k (i : Nat) : n68.keep i = ax n68K i := rfl
theorem res68 : Try.f68.results.toList = [.tmp 4] := rfl
noncomputable def b68 : Code := aU Try.f68
theorem r_sCRvaC_fn3 (C : aj) (k_sIRvaC_fn3 : K_sIRvaC_fn3 C) (p0 : List GScore) (r : Bool) (hF : sCRvaC_fn3 p0 = some r) : cR TT C.wide (evW TT C.wide n68 b68) n68 Try.f68.results.toList (aU Try.f68) [.v (.sl 2 (ah GScore.row p0)), .clo 69 []] [] = some (.v (.b r), []) := by
  revert hF
  unfold sCRvaC_fn3
  refine az fun x1 h1 => ?_
  have g1 := bK (k_sIRvaC_fn3 p0 _ h1)
  try simp only [ak] at g1
  rintro ⟨⟩
  all_goals (rw [bk]; show cC _ _ _ (aH _ _ _ _ (Code.seq _ _) _) = _; simp (maxSteps := 4000000) only [*, res68, n68k, n68K, ↓RP, RB, enter, be, bf, aJ, Mx.bl, opnd, Mx.bI, Nat.reduceBEq, bQ, Mx.fit, co, aN, aA, Mx.put, ofConst, ofCell, Mx.prune, killB, killBs, aK, putDst, aw, List.map, cz, cB, aC, bu, bx, cA, bS, bJ, aM, lowC, forceAll, lend, lendA, aS, aB, bR, bare, bW, ax, newB, cw, cy, cx, ↓ao, ↓aa, ty4])
def n70K : List (Nat × List Nat) := [(0, [0]), (1, [2])]
def n70 : cL where
  keep := ax n70K
  ro := fun _ => false
  mv := fun _ => false
  give := fun _ => false
  free := fun _ => []
theorem n70k (i : Nat) : n70.keep i = ax n70K i := rfl
theorem res70 : Try.f70.results.toList = [.tmp 2] := rfl
noncomputable def b70 : Code := aU Try.f70
theorem r_value_count (C : aj)  (p0 : Int) (r : Bool) (hF : value_count p0 = some r) : cR TT C.wide (evW TT C.wide n70 b70) n70 Try.f70.results.toList (aU Try.f70) [.v (.i .i64 p0)] [] = some (.v (.b r), []) := by
  revert hF
  unfold value_count
  refine aX (fun h1 => ?_) (fun h1 => ?_)
  focus
    rintro ⟨⟩
  rotate_left 1
  rintro ⟨⟩
  all_goals (rw [bk]; show cC _ _ _ (aH _ _ _ _ (Code.seq _ _) _) = _; simp (maxSteps := 4000000) only [*, res70, n70k, n70K, ↓RP, RB, enter, aQ, aD, be, bf, aJ, Mx.bl, opnd, Mx.bI, Nat.reduceBEq, bQ, Mx.fit, co, aN, aA, Mx.put, ofConst, ofCell, Mx.prune, killB, aK, putDst, aw, List.map, cz, cB, aC, bu, bx, cA, bS, bJ, aM, lowC, Int.reduceNeg, ax, cy, cx, ↓ao, ↓aa, bh, ty4])
def n71K : List (Nat × List Nat) := [(0, [1]), (1, [2])]
def n71 : cL where
  keep := ax n71K
  ro := fun t => t == 1
  mv := fun _ => false
  give := fun _ => false
  free := fun _ => []
theorem n71k (i : Nat) : n71.keep i = ax n71K i := rfl
theorem n71ro (t : Nat) : n71.ro t = (t == 1) := rfl
theorem n71mv (t : Nat) : n71.mv t = (false) := rfl
theorem res71 : Try.f71.results.toList = [.tmp 2] := rfl
noncomputable def b71 : Code := aU Try.f71
theorem r_vaC_fn4 (C : aj) (k_value_count : K_value_count C) (p0 : GScore) (r : Bool) (hF : vaC_fn4 p0 = some r) : cR TT C.wide (evW TT C.wide n71 b71) n71 Try.f71.results.toList (aU Try.f71) [.agg [.v (.s p0.fMember), .v (.i .i64 p0.fN)]] [] = some (.v (.b r), []) := by
  revert hF
  unfold vaC_fn4
  have g1 := bK (k_value_count p0.fN _ (value_count_t p0.fN))
  try simp only [ak] at g1
  rintro ⟨⟩
  all_goals (rw [bk]; show cC _ _ _ (aH _ _ _ _ (Code.seq _ _) _) = _; simp (maxSteps := 4000000) only [*, res71, n71k, n71K, n71ro, n71mv, ↓RP, RB, enter, be, bf, aJ, Mx.bl, opnd, Mx.bI, Nat.reduceBEq, bQ, Mx.fit, bP, co, toVs, cellsOf, toV, aN, aA, ay, Mx.put, ofConst, ofCell, Mx.prune, killB, aK, putDst, aw, aE, loadAt, bT, List.map, aC, bu, bx, cA, bS, bJ, aM, lowC, forceAll, lend, lendA, aS, aB, bR, bare, bW, ax, newB, cw, ↓ao, ↓aa, ty3, ty4, ty105])
def hd_sIRvaC_fn4_0 (p0 : List GScore) (p1 : Int) (s : Int) : St := ⟨[(0, .v (.sl 2 (ah GScore.row p0))), (1, .clo 71 []), (7, .v (.i .i64 p1)), (8, .v (.i .i64 s))], []⟩
def ou_sIRvaC_fn4_0 (p0 : List GScore) (p1 : Int) (r : Int ⊕ Unit) : Option (Ex × St) := match r with
  | .inl r => some (.ret, ⟨[(4, .v (.i .i64 r))], []⟩)
  | .inr r => some (.normal, ⟨[], []⟩)
theorem sl_sIRvaC_fn4_0 (C : aj) (k_vaC_fn4 : K_vaC_fn4 C) (p0 : List GScore) (p1 : Int) (p2 : Int) (o : Int ⊕ (Int ⊕ Unit)) (hF : st_sIRvaC_fn4_0 p0 p1 p2 = some o) : evW TT C.wide n110 b110 0 (hd_sIRvaC_fn4_0 p0 p1 p2) = Sum.elim (fun s => evW TT C.wide n110 b110 0 (hd_sIRvaC_fn4_0 p0 p1 s)) (fun r => ou_sIRvaC_fn4_0 p0 p1 r) o := by
  rw [cG TT n110 fl110_0]
  revert hF
  unfold st_sIRvaC_fn4_0
  try dsimp only
  refine bF (fun h1 => ?_) (fun h1 => ?_)
  focus
    rintro ⟨⟩
  rotate_left 1
  refine az fun x1 h2 => ?_
  have g1 : decide (0 ≤ p2) = true := (cp h2).1
  have g2 : (ah GScore.row p0)[(p2 : Int).toNat]? = some [.s x1.fMember, .i .i64 x1.fN] := cn _ h2
  have g3 := bK (k_vaC_fn4 x1 _ (vaC_fn4_t x1))
  try simp only [ak] at g3
  refine aX (fun h3 => ?_) (fun h3 => ?_)
  focus
    rintro ⟨⟩
  rotate_left 1
  rintro ⟨⟩
  all_goals (show cN _ _ _ (aH _ _ _ _ (Code.seq _ _) _) = _; simp (maxSteps := 4000000) only [*, hd_sIRvaC_fn4_0, ou_sIRvaC_fn4_0, n110a, n110A, n110k, n110K, n110mv, n110gv, ↓RP, RB, ↓ai, be, bf, aJ, Mx.bl, opnd, Mx.bI, Nat.reduceBEq, bQ, Mx.fit, co, aN, aA, ay, Mx.put, ofConst, ofCell, Mx.prune, killB, killBs, aK, putDst, aw, loadAt, bT, List.map, Nat.reduceAdd, cz, cB, bJ, aM, bD, bj, kill, frz, cq, bw, argE, argsE, ax, av, atO, cy, cx, ↓ao, ↓am, ↓aa, ty3, ty51, ty105])
theorem r_sIRvaC_fn4 (C : aj) (k_vaC_fn4 : K_vaC_fn4 C) (p0 : List GScore) (r : Int) (hF : sIRvaC_fn4 p0 = some r) : cR TT C.wide (evW TT C.wide n110 b110) n110 Try.f110.results.toList (aU Try.f110) [.v (.sl 2 (ah GScore.row p0)), .clo 71 []] [] = some (.v (.i .i64 r), []) := by
  revert hF
  unfold sIRvaC_fn4
  refine az ?_
  rintro (x1 | _) h1
  focus
    dsimp only
    have g1 := cH _ _ (sl_sIRvaC_fn4_0 C k_vaC_fn4 p0 (p0.length : Int)) h1
    try simp only [hd_sIRvaC_fn4_0, ou_sIRvaC_fn4_0] at g1
    rintro ⟨⟩
  rotate_left 1
  dsimp only
  have g2 := cH _ _ (sl_sIRvaC_fn4_0 C k_vaC_fn4 p0 (p0.length : Int)) h1
  try simp only [hd_sIRvaC_fn4_0, ou_sIRvaC_fn4_0] at g2
  rintro ⟨⟩
  all_goals (rw [bk]; show cC _ _ _ (aH _ _ _ _ (Code.seq _ _) _) = _; simp (maxSteps := 4000000) only [*, res110, n110k, n110K, ↓RP, RB, enter, be, bf, aJ, Mx.bl, opnd, Mx.bI, Nat.reduceBEq, bQ, Mx.fit, co, aN, aA, Mx.put, ofConst, ofCell, Mx.prune, killB, killBs, aK, putDst, aw, List.map, cu, aC, bu, bx, cA, bS, bJ, aM, lowC, Int.reduceNeg, ax, ↓ao, ↓aa, ty3, ty51])
theorem r_sCRvaC_fn4 (C : aj) (k_sIRvaC_fn4 : K_sIRvaC_fn4 C) (p0 : List GScore) (r : Bool) (hF : sCRvaC_fn4 p0 = some r) : cR TT C.wide (evW TT C.wide n68 b68) n68 Try.f68.results.toList (aU Try.f68) [.v (.sl 2 (ah GScore.row p0)), .clo 71 []] [] = some (.v (.b r), []) := by
  revert hF
  unfold sCRvaC_fn4
  refine az fun x1 h1 => ?_
  have g1 := bK (k_sIRvaC_fn4 p0 _ h1)
  try simp only [ak] at g1
  rintro ⟨⟩
  all_goals (rw [bk]; show cC _ _ _ (aH _ _ _ _ (Code.seq _ _) _) = _; simp (maxSteps := 4000000) only [*, res68, n68k, n68K, ↓RP, RB, enter, be, bf, aJ, Mx.bl, opnd, Mx.bI, Nat.reduceBEq, bQ, Mx.fit, co, aN, aA, Mx.put, ofConst, ofCell, Mx.prune, killB, killBs, aK, putDst, aw, List.map, cz, cB, aC, bu, bx, cA, bS, bJ, aM, lowC, forceAll, lend, lendA, aS, aB, bR, bare, bW, ax, newB, cw, cy, cx, ↓ao, ↓aa, ty4])
def n113K : List (Nat × List Nat) := [(0, [0, 1]), (1, [4])]
def n113 : cL where
  keep := ax n113K
  ro := fun _ => false
  mv := fun _ => false
  give := fun _ => false
  free := fun _ => []
theorem n113k (i : Nat) : n113.keep i = ax n113K i := rfl
theorem res113 : Try.f113.results.toList = [.tmp 4] := rfl
noncomputable def b113 : Code := aU Try.f113
theorem r_ibCompareString (C : aj) (k_cmpstring : K_cmpstring C) (p0 : ByteArray) (p1 : ByteArray) (r : Int) (hF : ibCompareString p0 p1 = some r) : cR TT C.wide (evW TT C.wide n113 b113) n113 Try.f113.results.toList (aU Try.f113) [.v (.s p0), .v (.s p1)] [] = some (.v (.i .i64 r), []) := by
  revert hF
  unfold ibCompareString
  have g1 := bK (k_cmpstring p0 p1 _ (cmpstring_t p0 p1))
  try simp only [ak] at g1
  rintro ⟨⟩
  all_goals (rw [bk]; show cC _ _ _ (aH _ _ _ _ (Code.seq _ _) _) = _; simp (maxSteps := 4000000) only [*, res113, n113k, n113K, ↓RP, RB, enter, be, bf, aJ, Mx.bl, opnd, Mx.bI, Nat.reduceBEq, bQ, Mx.fit, co, aN, aA, Mx.put, ofConst, ofCell, Mx.prune, killB, aK, putDst, aw, List.map, aC, bu, bx, cA, bS, bJ, aM, lowC, forceAll, lend, lendA, aS, aB, bR, bare, bW, ax, newB, cw, ↓ao, ↓aa, ty3])
def n77K : List (Nat × List Nat) := [(0, [0, 1]), (1, [4])]
def n77 : cL where
  keep := ax n77K
  ro := fun _ => false
  mv := fun _ => false
  give := fun _ => false
  free := fun _ => []
theorem n77k (i : Nat) : n77.keep i = ax n77K i := rfl
theorem res77 : Try.f77.results.toList = [.tmp 4] := rfl
noncomputable def b77 : Code := aU Try.f77
theorem r_strings_Compare (C : aj) (k_ibCompareString : K_ibCompareString C) (p0 : ByteArray) (p1 : ByteArray) (r : Int) (hF : strings_Compare p0 p1 = some r) : cR TT C.wide (evW TT C.wide n77 b77) n77 Try.f77.results.toList (aU Try.f77) [.v (.s p0), .v (.s p1)] [] = some (.v (.i .i64 r), []) := by
  revert hF
  unfold strings_Compare
  have g1 := bK (k_ibCompareString p0 p1 _ (ibCompareString_t p0 p1))
  try simp only [ak] at g1
  rintro ⟨⟩
  all_goals (rw [bk]; show cC _ _ _ (aH _ _ _ _ (Code.seq _ _) _) = _; simp (maxSteps := 4000000) only [*, res77, n77k, n77K, ↓RP, RB, enter, be, bf, aJ, Mx.bl, opnd, Mx.bI, Nat.reduceBEq, bQ, Mx.fit, co, aN, aA, Mx.put, ofConst, ofCell, Mx.prune, killB, aK, putDst, aw, List.map, aC, bu, bx, cA, bS, bJ, aM, lowC, forceAll, lend, lendA, aS, aB, bR, bare, bW, ax, newB, cw, ↓ao, ↓aa, ty3])
def n73K : List (Nat × List Nat) := [(0, [2, 3]), (1, [4])]
def n73 : cL where
  keep := ax n73K
  ro := fun t => t == 2 || t == 3
  mv := fun _ => false
  give := fun _ => false
  free := fun _ => []
theorem n73k (i : Nat) : n73.keep i = ax n73K i := rfl
theorem n73ro (t : Nat) : n73.ro t = (t == 2 || t == 3) := rfl
theorem n73mv (t : Nat) : n73.mv t = (false) := rfl
theorem res73 : Try.f73.results.toList = [.tmp 4] := rfl
noncomputable def b73 : Code := aU Try.f73
theorem r_value_byField (C : aj) (k_strings_Compare : K_strings_Compare C) (p0 : GPair) (p1 : GPair) (r : Int) (hF : value_byField p0 p1 = some r) : cR TT C.wide (evW TT C.wide n73 b73) n73 Try.f73.results.toList (aU Try.f73) [.agg [.v (.s p0.fField), .v (.s p0.fText)], .agg [.v (.s p1.fField), .v (.s p1.fText)]] [] = some (.v (.i .i64 r), []) := by
  revert hF
  unfold value_byField
  have g1 := bK (k_strings_Compare p0.fField p1.fField _ (strings_Compare_t p0.fField p1.fField))
  try simp only [ak] at g1
  rintro ⟨⟩
  all_goals (rw [bk]; show cC _ _ _ (aH _ _ _ _ (Code.seq _ _) _) = _; simp (maxSteps := 4000000) only [*, res73, n73k, n73K, n73ro, n73mv, ↓RP, RB, enter, be, bf, aJ, Mx.bl, opnd, Mx.bI, Nat.reduceBEq, bQ, Mx.fit, bP, co, toVs, cellsOf, toV, aN, aA, ay, Mx.put, ofConst, ofCell, Mx.prune, killB, aK, putDst, aw, aE, loadAt, bT, List.map, aC, bu, bx, cA, bS, bJ, aM, lowC, forceAll, lend, lendA, aS, aB, bR, bare, bW, ax, newB, cw, ↓ao, ↓aa, ty3, ty9, ty101])
def n72K : List (Nat × List Nat) := [(0, [0, 1]), (1, [0, 1, 5]), (2, [0, 1, 5, 9]), (3, [0, 1, 5]), (4, [0, 1, 5, 23]), (5, [4]), (6, [4])]
def n72A : List (Nat × List Nat × List Nat) := [(9, [0, 1, 5], []), (23, [], [0, 1, 5])]
def n72 : cL where
  keep := ax n72K
  ro := fun _ => false
  mv := fun _ => false
  give := fun _ => false
  free := fun i => match i with | 4 => [(0, 1), (0, 2), (1, 2), (0, 3), (1, 3), (0, 4), (0, 5), (0, 6), (1, 6), (2, 6), (3, 6), (4, 6), (5, 6), (0, 7), (1, 7), (2, 7), (3, 7), (4, 7), (5, 7), (6, 7), (0, 8), (1, 8), (2, 8), (3, 8), (4, 8), (5, 8), (0, 9), (1, 9), (2, 9), (3, 9), (4, 9), (5, 9)] | _ => []
  alive := av n72A
theorem n72a (t : Nat) (x : Bool) (e : Env) (S : bH) : cK n72 t x ⟨e, S⟩ = atO (av n72A t x) e S := cF rfl t x e S
theorem n72k (i : Nat) : n72.keep i = ax n72K i := rfl
theorem n72mv (t : Nat) : n72.mv t = (false) := rfl
theorem n72gv (t : Nat) : n72.give t = (false) := rfl
theorem n72f4 : n72.free 4 = [(0, 1), (0, 2), (1, 2), (0, 3), (1, 3), (0, 4), (0, 5), (0, 6), (1, 6), (2, 6), (3, 6), (4, 6), (5, 6), (0, 7), (1, 7), (2, 7), (3, 7), (4, 7), (5, 7), (6, 7), (0, 8), (1, 8), (2, 8), (3, 8), (4, 8), (5, 8), (0, 9), (1, 9), (2, 9), (3, 9), (4, 9), (5, 9)] := rfl
theorem res72 : Try.f72.results.toList = [.tmp 4] := rfl
noncomputable def b72 : Code := aU Try.f72
noncomputable def c72_0 : Code := (bE 0 (aU Try.f72)).getD .skip
theorem fl72_0 : bE 0 b72 = some c72_0 := rfl
def hd_value_rising_Pair_value_byField_0 (p0 : List GPair) (s : Int) : St := ⟨[(0, .v (.sl 2 (ah GPair.row p0))), (1, .clo 73 []), (5, .v (.i .i64 s))], []⟩
def ou_value_rising_Pair_value_byField_0 (p0 : List GPair) (r : Unit ⊕ Unit) : Option (Ex × St) := match r with
  | .inl r => some (.ret, ⟨[(4, .v (.b false))], []⟩)
  | .inr r => some (.normal, ⟨[], []⟩)
theorem sl_value_rising_Pair_value_byField_0 (C : aj) (k_value_byField : K_value_byField C) (p0 : List GPair) (p1 : Int) (o : Int ⊕ (Unit ⊕ Unit)) (hF : st_value_rising_Pair_value_byField_0 p0 p1 = some o) : evW TT C.wide n72 b72 0 (hd_value_rising_Pair_value_byField_0 p0 p1) = Sum.elim (fun s => evW TT C.wide n72 b72 0 (hd_value_rising_Pair_value_byField_0 p0 s)) (fun r => ou_value_rising_Pair_value_byField_0 p0 r) o := by
  rw [cG TT n72 fl72_0]
  revert hF
  unfold st_value_rising_Pair_value_byField_0
  try dsimp only
  refine bF (fun h1 => ?_) (fun h1 => ?_)
  focus
    rintro ⟨⟩
  rotate_left 1
  refine az fun x1 h2 => ?_
  have g1 : decide (0 ≤ (IntKind.i64.wrap (p1 - 1))) = true := (cp h2).1
  have g2 : (ah GPair.row p0)[((IntKind.i64.wrap (p1 - 1)) : Int).toNat]? = some [.s x1.fField, .s x1.fText] := cn _ h2
  refine az fun x2 h3 => ?_
  have g3 : decide (0 ≤ p1) = true := (cp h3).1
  have g4 : (ah GPair.row p0)[(p1 : Int).toNat]? = some [.s x2.fField, .s x2.fText] := cn _ h3
  have g5 := bK (k_value_byField x1 x2 _ (value_byField_t x1 x2))
  try simp only [ak] at g5
  refine aX (fun h4 => ?_) (fun h4 => ?_)
  focus
    rintro ⟨⟩
  rotate_left 1
  rintro ⟨⟩
  all_goals (show cN _ _ _ (aH _ _ _ _ (Code.seq _ _) _) = _; simp (maxSteps := 4000000) only [*, hd_value_rising_Pair_value_byField_0, ou_value_rising_Pair_value_byField_0, n72a, n72A, n72k, n72K, n72f4, n72mv, n72gv, ↓RP, RB, ↓ai, be, bf, aJ, Mx.bl, opnd, Mx.bI, Nat.reduceBEq, bQ, Mx.fit, co, aN, aA, ay, Mx.put, ofConst, ofCell, Mx.prune, killB, killBs, aK, putDst, aw, loadAt, bT, List.map, Nat.reduceAdd, cz, cB, cu, bJ, aM, bD, bj, kill, frz, cq, bw, argE, argsE, bG, bM, cd, au, aI, aY, cm, bL, cv, ch, bo, aL, bm, bp, bd, Op.operands, ax, av, atO, cy, cx, ↓ao, ↓am, ↓aa, ↓aq, br, bN, ty3, ty4, ty49, ty101])
theorem r_value_rising_Pair_value_byField (C : aj) (k_value_byField : K_value_byField C) (p0 : List GPair) (r : Bool) (hF : value_rising_Pair_value_byField p0 = some r) : cR TT C.wide (evW TT C.wide n72 b72) n72 Try.f72.results.toList (aU Try.f72) [.v (.sl 2 (ah GPair.row p0)), .clo 73 []] [] = some (.v (.b r), []) := by
  revert hF
  unfold value_rising_Pair_value_byField
  refine az ?_
  rintro (_ | _) h1
  focus
    dsimp only
    have g1 := cH _ _ (sl_value_rising_Pair_value_byField_0 C k_value_byField p0) h1
    try simp only [hd_value_rising_Pair_value_byField_0, ou_value_rising_Pair_value_byField_0] at g1
    rintro ⟨⟩
  rotate_left 1
  dsimp only
  have g2 := cH _ _ (sl_value_rising_Pair_value_byField_0 C k_value_byField p0) h1
  try simp only [hd_value_rising_Pair_value_byField_0, ou_value_rising_Pair_value_byField_0] at g2
  rintro ⟨⟩
  all_goals (rw [bk]; show cC _ _ _ (aH _ _ _ _ (Code.seq _ _) _) = _; simp (maxSteps := 4000000) only [*, res72, n72k, n72K, ↓RP, RB, enter, be, bf, aJ, Mx.bl, opnd, Mx.bI, Nat.reduceBEq, bQ, Mx.fit, co, aN, aA, Mx.put, ofConst, ofCell, Mx.prune, killB, killBs, List.map, aC, bu, bx, cA, bS, bJ, aM, lowC, ax, ↓ao, ↓aa, ty3, ty4])
def n131K : List (Nat × List Nat) := [(0, [0]), (1, [2])]
def n131 : cL where
  keep := ax n131K
  ro := fun _ => false
  mv := fun _ => false
  give := fun _ => false
  free := fun _ => []
theorem n131k (i : Nat) : n131.keep i = ax n131K i := rfl
theorem res131 : Try.f131.results.toList = [.tmp 2] := rfl
noncomputable def b131 : Code := aU Try.f131
theorem r_cmp_isNaN_int (C : aj)  (p0 : Int) (r : Bool) (hF : cmp_isNaN_int p0 = some r) : cR TT C.wide (evW TT C.wide n131 b131) n131 Try.f131.results.toList (aU Try.f131) [.v (.i .i64 p0)] [] = some (.v (.b r), []) := by
  revert hF
  unfold cmp_isNaN_int
  rintro ⟨⟩
  all_goals (rw [bk]; show cC _ _ _ (aH _ _ _ _ (Code.seq _ _) _) = _; simp (maxSteps := 4000000) only [*, res131, n131k, n131K, ↓RP, RB, enter, be, bf, aJ, Mx.bl, opnd, Mx.bI, Nat.reduceBEq, bQ, Mx.fit, co, aN, aA, Mx.put, ofConst, ofCell, Mx.prune, killB, aK, putDst, aw, List.map, cz, cB, aC, bu, bx, cA, bS, bJ, aM, lowC, ax, cy, cx, bne, ↓ao, ↓aa, ty4])
def n112K : List (Nat × List Nat) := [(0, [0, 1]), (1, [0, 1, 5]), (2, [0, 1, 5, 6]), (3, [0, 1, 6, 11]), (4, [12]), (5, [4]), (6, [4]), (7, [0, 1, 13]), (8, [4]), (9, [0, 1, 16]), (10, [4]), (11, [19]), (12, [4]), (13, [4])]
def n112A : List (Nat × List Nat × List Nat) := [(11, [6], [0, 1, 6]), (12, [], []), (13, [], [0, 1]), (16, [], [0, 1]), (19, [], [])]
def n112 : cL where
  keep := ax n112K
  ro := fun _ => false
  mv := fun _ => false
  give := fun _ => false
  free := fun _ => []
  alive := av n112A
theorem n112a (t : Nat) (x : Bool) (e : Env) (S : bH) : cK n112 t x ⟨e, S⟩ = atO (av n112A t x) e S := cF rfl t x e S
theorem n112k (i : Nat) : n112.keep i = ax n112K i := rfl
theorem res112 : Try.f112.results.toList = [.tmp 4] := rfl
noncomputable def b112 : Code := aU Try.f112
theorem r_cmp_Compare_int (C : aj) (k_cmp_isNaN_int : K_cmp_isNaN_int C) (p0 : Int) (p1 : Int) (r : Int) (hF : cmp_Compare_int p0 p1 = some r) : cR TT C.wide (evW TT C.wide n112 b112) n112 Try.f112.results.toList (aU Try.f112) [.v (.i .i64 p0), .v (.i .i64 p1)] [] = some (.v (.i .i64 r), []) := by
  revert hF
  unfold cmp_Compare_int
  have g1 := bK (k_cmp_isNaN_int p0 _ (cmp_isNaN_int_t p0))
  have g2 := bK (k_cmp_isNaN_int p1 _ (cmp_isNaN_int_t p1))
  try simp only [ak] at g1 g2
  refine aX (fun h1 => ?_) (fun h1 => ?_)
  focus
    refine aX (fun h2 => ?_) (fun h2 => ?_)
    focus
      rintro ⟨⟩
    rotate_left 1
    rintro ⟨⟩
  rotate_left 2
  refine aX (fun h2 => ?_) (fun h2 => ?_)
  focus
    rintro ⟨⟩
  rotate_left 1
  refine aX (fun h3 => ?_) (fun h3 => ?_)
  focus
    rintro ⟨⟩
  rotate_left 1
  refine aX (fun h4 => ?_) (fun h4 => ?_)
  focus
    rintro ⟨⟩
  rotate_left 1
  rintro ⟨⟩
  all_goals (rw [bk]; show cC _ _ _ (aH _ _ _ _ (Code.seq _ _) _) = _; simp (maxSteps := 4000000) only [*, res112, n112a, n112A, n112k, n112K, ↓RP, RB, enter, be, bf, aJ, Mx.bl, opnd, Mx.bI, Nat.reduceBEq, bQ, Mx.fit, co, aN, aA, Mx.put, ofConst, ofCell, Mx.prune, killB, aK, putDst, aw, List.map, cz, cB, aC, bu, bx, cA, bS, bJ, aM, lowC, forceAll, lend, lendA, aS, aB, bR, bare, bW, Int.reduceNeg, ax, av, atO, newB, cw, cy, cx, ↓ao, ↓am, ↓aa, ty3, ty4])
def n111K : List (Nat × List Nat) := [(0, [0]), (1, [0, 3]), (2, [0, 3, 6, 7, 8]), (3, [0, 3, 6, 7, 8, 9]), (4, [0, 3, 5, 6, 7, 8]), (5, [0, 3, 5, 6, 7, 8, 14]), (6, [2]), (7, [0, 3, 6, 7, 8]), (8, [2])]
def n111A : List (Nat × List Nat × List Nat) := [(9, [0, 3, 6, 7, 8], [3]), (14, [5], [0, 3, 6, 7, 8])]
def n111 : cL where
  keep := ax n111K
  ro := fun _ => false
  mv := fun _ => false
  give := fun _ => false
  free := fun _ => []
  alive := av n111A
theorem n111a (t : Nat) (x : Bool) (e : Env) (S : bH) : cK n111 t x ⟨e, S⟩ = atO (av n111A t x) e S := cF rfl t x e S
theorem n111k (i : Nat) : n111.keep i = ax n111K i := rfl
theorem n111mv (t : Nat) : n111.mv t = (false) := rfl
theorem res111 : Try.f111.results.toList = [.tmp 2] := rfl
noncomputable def b111 : Code := aU Try.f111
noncomputable def c111_0 : Code := (bE 0 (aU Try.f111)).getD .skip
theorem fl111_0 : bE 0 b111 = some c111_0 := rfl
def hd_cmp_Or_int_0 (p0 : List Int) (p1 : Int) (s : Int) : St := ⟨[(0, .v (.sl 1 (ah rowI p0))), (3, .v (.i .i64 0)), (6, .v (.sl 1 (ah rowI p0))), (7, .v (.i .i64 p1)), (8, .v (.i .i64 s))], []⟩
def ou_cmp_Or_int_0 (p0 : List Int) (p1 : Int) (r : Int ⊕ Unit) : Option (Ex × St) := match r with
  | .inl r => some (.ret, ⟨[(2, .v (.i .i64 r))], []⟩)
  | .inr r => some (.normal, ⟨[(3, .v (.i .i64 0))], []⟩)
theorem sl_cmp_Or_int_0 (C : aj)  (p0 : List Int) (p1 : Int) (p2 : Int) (o : Int ⊕ (Int ⊕ Unit)) (hF : st_cmp_Or_int_0 p0 p1 p2 = some o) : evW TT C.wide n111 b111 0 (hd_cmp_Or_int_0 p0 p1 p2) = Sum.elim (fun s => evW TT C.wide n111 b111 0 (hd_cmp_Or_int_0 p0 p1 s)) (fun r => ou_cmp_Or_int_0 p0 p1 r) o := by
  rw [cG TT n111 fl111_0]
  revert hF
  unfold st_cmp_Or_int_0
  try dsimp only
  refine bF (fun h1 => ?_) (fun h1 => ?_)
  focus
    rintro ⟨⟩
  rotate_left 1
  refine az fun x1 h2 => ?_
  have g1 : decide (0 ≤ p2) = true := (cp h2).1
  have g2 : (ah rowI p0)[(p2 : Int).toNat]? = some [.i .i64 x1] := cn _ h2
  refine aX (fun h3 => ?_) (fun h3 => ?_)
  focus
    rintro ⟨⟩
  rotate_left 1
  rintro ⟨⟩
  all_goals (show cN _ _ _ (aH _ _ _ _ (Code.seq _ _) _) = _; simp (maxSteps := 4000000) only [*, hd_cmp_Or_int_0, ou_cmp_Or_int_0, n111a, n111A, n111k, n111K, n111mv, ↓RP, RB, ↓ai, be, bf, aJ, Mx.bl, opnd, Mx.bI, Nat.reduceBEq, bQ, Mx.fit, co, aN, aA, ay, Mx.put, ofConst, ofCell, Mx.prune, killB, aK, putDst, aw, loadAt, bT, List.map, cz, cB, bj, ax, av, atO, cy, cx, bne, ↓ao, ↓am, ↓aa, ty3, ty161])
theorem r_cmp_Or_int (C : aj)  (p0 : List Int) (r : Int) (hF : cmp_Or_int p0 = some r) : cR TT C.wide (evW TT C.wide n111 b111) n111 Try.f111.results.toList (aU Try.f111) [.v (.sl 1 (ah rowI p0))] [] = some (.v (.i .i64 r), []) := by
  revert hF
  unfold cmp_Or_int
  refine az ?_
  rintro (x1 | _) h1
  focus
    dsimp only
    have g1 := cH _ _ (sl_cmp_Or_int_0 C p0 (p0.length : Int)) h1
    try simp only [hd_cmp_Or_int_0, ou_cmp_Or_int_0] at g1
    rintro ⟨⟩
  rotate_left 1
  dsimp only
  have g2 := cH _ _ (sl_cmp_Or_int_0 C p0 (p0.length : Int)) h1
  try simp only [hd_cmp_Or_int_0, ou_cmp_Or_int_0] at g2
  rintro ⟨⟩
  all_goals (rw [bk]; show cC _ _ _ (aH _ _ _ _ (Code.seq _ _) _) = _; simp (maxSteps := 4000000) only [*, res111, n111k, n111K, ↓RP, RB, enter, be, bf, aJ, Mx.bl, opnd, Mx.bI, Nat.reduceBEq, bQ, Mx.fit, co, aN, aA, Mx.put, ofConst, ofCell, Mx.prune, killB, aK, putDst, aw, List.map, cu, aC, bu, bx, cA, bS, bJ, aM, lowC, ax, ↓ao, ↓aa, ty3, ty161])
def n75K : List (Nat × List Nat) := [(0, [2, 3]), (1, [4])]
def n75 : cL where
  keep := ax n75K
  ro := fun t => t == 2 || t == 3
  mv := fun _ => false
  give := fun _ => false
  free := fun i => match i with | 1 => [(0, 2), (1, 2), (0, 3), (1, 3), (0, 5), (1, 5), (2, 5), (3, 5), (4, 5), (0, 6), (1, 6), (2, 6), (3, 6), (4, 6), (0, 7), (1, 7), (2, 7), (3, 7), (4, 7), (5, 7), (6, 7), (0, 8), (1, 8), (2, 8), (3, 8), (4, 8), (5, 8), (6, 8)] | _ => []
theorem n75k (i : Nat) : n75.keep i = ax n75K i := rfl
theorem n75ro (t : Nat) : n75.ro t = (t == 2 || t == 3) := rfl
theorem n75mv (t : Nat) : n75.mv t = (false) := rfl
theorem n75f1 : n75.free 1 = [(0, 2), (1, 2), (0, 3), (1, 3), (0, 5), (1, 5), (2, 5), (3, 5), (4, 5), (0, 6), (1, 6), (2, 6), (3, 6), (4, 6), (0, 7), (1, 7), (2, 7), (3, 7), (4, 7), (5, 7), (6, 7), (0, 8), (1, 8), (2, 8), (3, 8), (4, 8), (5, 8), (6, 8)] := rfl
theorem res75 : Try.f75.results.toList = [.tmp 4] := rfl
noncomputable def b75 : Code := aU Try.f75
theorem r_value_byScore (C : aj) (k_cmp_Compare_int : K_cmp_Compare_int C) (k_strings_Compare : K_strings_Compare C) (k_cmp_Or_int : K_cmp_Or_int C) (p0 : GScore) (p1 : GScore) (r : Int) (hF : value_byScore p0 p1 = some r) : cR TT C.wide (evW TT C.wide n75 b75) n75 Try.f75.results.toList (aU Try.f75) [.agg [.v (.s p0.fMember), .v (.i .i64 p0.fN)], .agg [.v (.s p1.fMember), .v (.i .i64 p1.fN)]] [] = some (.v (.i .i64 r), []) := by
  revert hF
  unfold value_byScore
  have g1 := bK (k_cmp_Compare_int p0.fN p1.fN _ (cmp_Compare_int_t p0.fN p1.fN))
  have g2 := bK (k_strings_Compare p0.fMember p1.fMember _ (strings_Compare_t p0.fMember p1.fMember))
  try simp only [ak] at g1 g2
  refine az fun x1 h1 => ?_
  have g3 := bK (k_cmp_Or_int [(cmp_Compare_int_v p0.fN p1.fN), (strings_Compare_v p0.fMember p1.fMember)] _ h1)
  try simp only [ak] at g3
  rintro ⟨⟩
  all_goals (rw [bk]; show cC _ _ _ (aH _ _ _ _ (Code.seq _ _) _) = _; simp (maxSteps := 4000000) only [*, res75, n75k, n75K, n75f1, n75ro, n75mv, ↓RP, RB, enter, be, bf, aJ, Mx.bl, opnd, Mx.bI, Nat.reduceBEq, bQ, Mx.fit, bP, co, toVs, cellsOf, toV, aN, aA, ay, Mx.put, ofConst, ofCell, Mx.prune, killB, aK, putDst, aw, aE, loadAt, bT, List.map, Nat.reduceAdd, Nat.reduceMul, aC, bu, bx, cA, bS, bJ, aM, bD, lowC, forceAll, lend, lendA, aS, aB, bR, bare, bW, bG, takeParts, bv, aR, Nat.reduceLeDiff, bM, cd, au, aI, aY, cm, bL, cv, ch, bo, aL, bm, bp, bd, Op.operands, ax, newB, cw, bne, ↓ao, ↓aa, ↓aq, br, bN, Call.operands, ty3, ty9, ty105, ty161])
def n74K : List (Nat × List Nat) := [(0, [0, 1]), (1, [0, 1, 5]), (2, [0, 1, 5, 9]), (3, [0, 1, 5]), (4, [0, 1, 5, 23]), (5, [4]), (6, [4])]
def n74A : List (Nat × List Nat × List Nat) := [(9, [0, 1, 5], []), (23, [], [0, 1, 5])]
def n74 : cL where
  keep := ax n74K
  ro := fun _ => false
  mv := fun _ => false
  give := fun _ => false
  free := fun i => match i with | 4 => [(0, 1), (0, 2), (1, 2), (0, 3), (1, 3), (0, 4), (0, 5), (0, 6), (1, 6), (2, 6), (3, 6), (4, 6), (5, 6), (0, 7), (1, 7), (2, 7), (3, 7), (4, 7), (5, 7), (6, 7), (0, 8), (1, 8), (2, 8), (3, 8), (4, 8), (5, 8), (0, 9), (1, 9), (2, 9), (3, 9), (4, 9), (5, 9)] | _ => []
  alive := av n74A
theorem n74a (t : Nat) (x : Bool) (e : Env) (S : bH) : cK n74 t x ⟨e, S⟩ = atO (av n74A t x) e S := cF rfl t x e S
theorem n74k (i : Nat) : n74.keep i = ax n74K i := rfl
theorem n74mv (t : Nat) : n74.mv t = (false) := rfl
theorem n74gv (t : Nat) : n74.give t = (false) := rfl
theorem n74f4 : n74.free 4 = [(0, 1), (0, 2), (1, 2), (0, 3), (1, 3), (0, 4), (0, 5), (0, 6), (1, 6), (2, 6), (3, 6), (4, 6), (5, 6), (0, 7), (1, 7), (2, 7), (3, 7), (4, 7), (5, 7), (6, 7), (0, 8), (1, 8), (2, 8), (3, 8), (4, 8), (5, 8), (0, 9), (1, 9), (2, 9), (3, 9), (4, 9), (5, 9)] := rfl
theorem res74 : Try.f74.results.toList = [.tmp 4] := rfl
noncomputable def b74 : Code := aU Try.f74
noncomputable def c74_0 : Code := (bE 0 (aU Try.f74)).getD .skip
theorem fl74_0 : bE 0 b74 = some c74_0 := rfl
def hd_value_rising_Score_value_byScore_0 (p0 : List GScore) (s : Int) : St := ⟨[(0, .v (.sl 2 (ah GScore.row p0))), (1, .clo 75 []), (5, .v (.i .i64 s))], []⟩
def ou_value_rising_Score_value_byScore_0 (p0 : List GScore) (r : Unit ⊕ Unit) : Option (Ex × St) := match r with
  | .inl r => some (.ret, ⟨[(4, .v (.b false))], []⟩)
  | .inr r => some (.normal, ⟨[], []⟩)
theorem sl_value_rising_Score_value_byScore_0 (C : aj) (k_value_byScore : K_value_byScore C) (p0 : List GScore) (p1 : Int) (o : Int ⊕ (Unit ⊕ Unit)) (hF : st_value_rising_Score_value_byScore_0 p0 p1 = some o) : evW TT C.wide n74 b74 0 (hd_value_rising_Score_value_byScore_0 p0 p1) = Sum.elim (fun s => evW TT C.wide n74 b74 0 (hd_value_rising_Score_value_byScore_0 p0 s)) (fun r => ou_value_rising_Score_value_byScore_0 p0 r) o := by
  rw [cG TT n74 fl74_0]
  revert hF
  unfold st_value_rising_Score_value_byScore_0
  try dsimp only
  refine bF (fun h1 => ?_) (fun h1 => ?_)
  focus
    rintro ⟨⟩
  rotate_left 1
  refine az fun x1 h2 => ?_
  have g1 : decide (0 ≤ (IntKind.i64.wrap (p1 - 1))) = true := (cp h2).1
  have g2 : (ah GScore.row p0)[((IntKind.i64.wrap (p1 - 1)) : Int).toNat]? = some [.s x1.fMember, .i .i64 x1.fN] := cn _ h2
  refine az fun x2 h3 => ?_
  have g3 : decide (0 ≤ p1) = true := (cp h3).1
  have g4 : (ah GScore.row p0)[(p1 : Int).toNat]? = some [.s x2.fMember, .i .i64 x2.fN] := cn _ h3
  refine az fun x3 h4 => ?_
  have g5 := bK (k_value_byScore x1 x2 _ h4)
  try simp only [ak] at g5
  refine aX (fun h5 => ?_) (fun h5 => ?_)
  focus
    rintro ⟨⟩
  rotate_left 1
  rintro ⟨⟩
  all_goals (show cN _ _ _ (aH _ _ _ _ (Code.seq _ _) _) = _; simp (maxSteps := 4000000) only [*, hd_value_rising_Score_value_byScore_0, ou_value_rising_Score_value_byScore_0, n74a, n74A, n74k, n74K, n74f4, n74mv, n74gv, ↓RP, RB, ↓ai, be, bf, aJ, Mx.bl, opnd, Mx.bI, Nat.reduceBEq, bQ, Mx.fit, co, aN, aA, ay, Mx.put, ofConst, ofCell, Mx.prune, killB, killBs, aK, putDst, aw, loadAt, bT, List.map, Nat.reduceAdd, cz, cB, cu, bJ, aM, bD, bj, kill, frz, cq, bw, argE, argsE, bG, bM, cd, au, aI, aY, cm, bL, cv, ch, bo, aL, bm, bp, bd, Op.operands, ax, av, atO, cy, cx, ↓ao, ↓am, ↓aa, ↓aq, br, bN, ty3, ty4, ty51, ty105])
theorem r_value_rising_Score_value_byScore (C : aj) (k_value_byScore : K_value_byScore C) (p0 : List GScore) (r : Bool) (hF : value_rising_Score_value_byScore p0 = some r) : cR TT C.wide (evW TT C.wide n74 b74) n74 Try.f74.results.toList (aU Try.f74) [.v (.sl 2 (ah GScore.row p0)), .clo 75 []] [] = some (.v (.b r), []) := by
  revert hF
  unfold value_rising_Score_value_byScore
  refine az ?_
  rintro (_ | _) h1
  focus
    dsimp only
    have g1 := cH _ _ (sl_value_rising_Score_value_byScore_0 C k_value_byScore p0) h1
    try simp only [hd_value_rising_Score_value_byScore_0, ou_value_rising_Score_value_byScore_0] at g1
    rintro ⟨⟩
  rotate_left 1
  dsimp only
  have g2 := cH _ _ (sl_value_rising_Score_value_byScore_0 C k_value_byScore p0) h1
  try simp only [hd_value_rising_Score_value_byScore_0, ou_value_rising_Score_value_byScore_0] at g2
  rintro ⟨⟩
  all_goals (rw [bk]; show cC _ _ _ (aH _ _ _ _ (Code.seq _ _) _) = _; simp (maxSteps := 4000000) only [*, res74, n74k, n74K, ↓RP, RB, enter, be, bf, aJ, Mx.bl, opnd, Mx.bI, Nat.reduceBEq, bQ, Mx.fit, co, aN, aA, Mx.put, ofConst, ofCell, Mx.prune, killB, killBs, List.map, aC, bu, bx, cA, bS, bJ, aM, lowC, ax, ↓ao, ↓aa, ty3, ty4])
def n76K : List (Nat × List Nat) := [(0, [0, 1]), (1, [0, 1, 5]), (2, [0, 1, 5, 9]), (3, [0, 1, 5]), (4, [0, 1, 5, 23]), (5, [4]), (6, [4])]
def n76A : List (Nat × List Nat × List Nat) := [(9, [0, 1, 5], []), (23, [], [0, 1, 5])]
def n76 : cL where
  keep := ax n76K
  ro := fun _ => false
  mv := fun _ => false
  give := fun _ => false
  free := fun i => match i with | 4 => [(0, 1), (0, 2), (1, 2), (0, 3), (1, 3), (0, 4), (0, 5), (0, 6), (1, 6), (2, 6), (3, 6), (4, 6), (5, 6), (0, 7), (1, 7), (2, 7), (3, 7), (4, 7), (5, 7), (6, 7), (0, 8), (1, 8), (2, 8), (3, 8), (4, 8), (5, 8), (0, 9), (1, 9), (2, 9), (3, 9), (4, 9), (5, 9)] | _ => []
  alive := av n76A
theorem n76a (t : Nat) (x : Bool) (e : Env) (S : bH) : cK n76 t x ⟨e, S⟩ = atO (av n76A t x) e S := cF rfl t x e S
theorem n76k (i : Nat) : n76.keep i = ax n76K i := rfl
theorem n76mv (t : Nat) : n76.mv t = (false) := rfl
theorem n76gv (t : Nat) : n76.give t = (false) := rfl
theorem n76f4 : n76.free 4 = [(0, 1), (0, 2), (1, 2), (0, 3), (1, 3), (0, 4), (0, 5), (0, 6), (1, 6), (2, 6), (3, 6), (4, 6), (5, 6), (0, 7), (1, 7), (2, 7), (3, 7), (4, 7), (5, 7), (6, 7), (0, 8), (1, 8), (2, 8), (3, 8), (4, 8), (5, 8), (0, 9), (1, 9), (2, 9), (3, 9), (4, 9), (5, 9)] := rfl
theorem res76 : Try.f76.results.toList = [.tmp 4] := rfl
noncomputable def b76 : Code := aU Try.f76
noncomputable def c76_0 : Code := (bE 0 (aU Try.f76)).getD .skip
theorem fl76_0 : bE 0 b76 = some c76_0 := rfl
def hd_value_rising_string_strings_Compare_0 (p0 : List ByteArray) (s : Int) : St := ⟨[(0, .v (.sl 1 (ah bY p0))), (1, .clo 77 []), (5, .v (.i .i64 s))], []⟩
def ou_value_rising_string_strings_Compare_0 (p0 : List ByteArray) (r : Unit ⊕ Unit) : Option (Ex × St) := match r with
  | .inl r => some (.ret, ⟨[(4, .v (.b false))], []⟩)
  | .inr r => some (.normal, ⟨[], []⟩)
theorem sl_value_rising_string_strings_Compare_0 (C : aj) (k_strings_Compare : K_strings_Compare C) (p0 : List ByteArray) (p1 : Int) (o : Int ⊕ (Unit ⊕ Unit)) (hF : st_value_rising_string_strings_Compare_0 p0 p1 = some o) : evW TT C.wide n76 b76 0 (hd_value_rising_string_strings_Compare_0 p0 p1) = Sum.elim (fun s => evW TT C.wide n76 b76 0 (hd_value_rising_string_strings_Compare_0 p0 s)) (fun r => ou_value_rising_string_strings_Compare_0 p0 r) o := by
  rw [cG TT n76 fl76_0]
  revert hF
  unfold st_value_rising_string_strings_Compare_0
  try dsimp only
  refine bF (fun h1 => ?_) (fun h1 => ?_)
  focus
    rintro ⟨⟩
  rotate_left 1
  refine az fun x1 h2 => ?_
  have g1 : decide (0 ≤ (IntKind.i64.wrap (p1 - 1))) = true := (cp h2).1
  have g2 : (ah bY p0)[((IntKind.i64.wrap (p1 - 1)) : Int).toNat]? = some [.s x1] := cn _ h2
  refine az fun x2 h3 => ?_
  have g3 : decide (0 ≤ p1) = true := (cp h3).1
  have g4 : (ah bY p0)[(p1 : Int).toNat]? = some [.s x2] := cn _ h3
  have g5 := bK (k_strings_Compare x1 x2 _ (strings_Compare_t x1 x2))
  try simp only [ak] at g5
  refine aX (fun h4 => ?_) (fun h4 => ?_)
  focus
    rintro ⟨⟩
  rotate_left 1
  rintro ⟨⟩
  all_goals (show cN _ _ _ (aH _ _ _ _ (Code.seq _ _) _) = _; simp (maxSteps := 4000000) only [*, hd_value_rising_string_strings_Compare_0, ou_value_rising_string_strings_Compare_0, n76a, n76A, n76k, n76K, n76f4, n76mv, n76gv, ↓RP, RB, ↓ai, be, bf, aJ, Mx.bl, opnd, Mx.bI, Nat.reduceBEq, bQ, Mx.fit, co, aN, aA, ay, Mx.put, ofConst, ofCell, Mx.prune, killB, killBs, aK, putDst, aw, loadAt, bT, List.map, cz, cB, cu, bJ, aM, bD, bj, kill, frz, cq, bw, argE, argsE, bG, bM, cd, au, aI, aY, cm, bL, cv, ch, bo, aL, bm, bp, bd, Op.operands, ax, av, atO, cy, cx, ↓ao, ↓am, ↓aa, ↓aq, br, bN, ty3, ty4, ty9, ty50])
theorem r_value_rising_string_strings_Compare (C : aj) (k_strings_Compare : K_strings_Compare C) (p0 : List ByteArray) (r : Bool) (hF : value_rising_string_strings_Compare p0 = some r) : cR TT C.wide (evW TT C.wide n76 b76) n76 Try.f76.results.toList (aU Try.f76) [.v (.sl 1 (ah bY p0)), .clo 77 []] [] = some (.v (.b r), []) := by
  revert hF
  unfold value_rising_string_strings_Compare
  refine az ?_
  rintro (_ | _) h1
  focus
    dsimp only
    have g1 := cH _ _ (sl_value_rising_string_strings_Compare_0 C k_strings_Compare p0) h1
    try simp only [hd_value_rising_string_strings_Compare_0, ou_value_rising_string_strings_Compare_0] at g1
    rintro ⟨⟩
  rotate_left 1
  dsimp only
  have g2 := cH _ _ (sl_value_rising_string_strings_Compare_0 C k_strings_Compare p0) h1
  try simp only [hd_value_rising_string_strings_Compare_0, ou_value_rising_string_strings_Compare_0] at g2
  rintro ⟨⟩
  all_goals (rw [bk]; show cC _ _ _ (aH _ _ _ _ (Code.seq _ _) _) = _; simp (maxSteps := 4000000) only [*, res76, n76k, n76K, ↓RP, RB, enter, be, bf, aJ, Mx.bl, opnd, Mx.bI, Nat.reduceBEq, bQ, Mx.fit, co, aN, aA, Mx.put, ofConst, ofCell, Mx.prune, killB, killBs, List.map, aC, bu, bx, cA, bS, bJ, aM, lowC, ax, ↓ao, ↓aa, ty3, ty4])
def n114K : List (Nat × List Nat) := [(0, [1, 2]), (1, [3])]
def n114 : cL where
  keep := ax n114K
  ro := fun t => t == 2
  mv := fun _ => false
  give := fun _ => false
  free := fun _ => []
theorem n114k (i : Nat) : n114.keep i = ax n114K i := rfl
theorem n114ro (t : Nat) : n114.ro t = (t == 2) := rfl
theorem n114mv (t : Nat) : n114.mv t = (false) := rfl
theorem res114 : Try.f114.results.toList = [.tmp 3] := rfl
noncomputable def b114 : Code := aU Try.f114
theorem r_value_rank_fn1 (C : aj)  (p0 : GScore) (p1 : ByteArray) (r : Bool × ByteArray) (hF : value_rank_fn1 p0 p1 = some r) : cR TT C.wide (evW TT C.wide n114 b114) n114 Try.f114.results.toList (aU Try.f114) [.agg [.v (.s p0.fMember), .v (.i .i64 p0.fN)], .ptr 0 0] [[.v (.s p1)]] = some (.v (.b r.1), [[.v (.s r.2)]]) := by
  revert hF
  unfold value_rank_fn1
  rintro ⟨⟩
  all_goals (rw [bk]; show cC _ _ _ (aH _ _ _ _ (Code.seq _ _) _) = _; simp (maxSteps := 4000000) only [*, res114, n114k, n114K, n114ro, n114mv, ↓RP, RB, enter, be, bf, aJ, Mx.bl, opnd, Mx.bI, Nat.reduceBEq, bQ, Mx.fit, bP, co, toVs, cellsOf, toV, aN, aA, ay, Mx.put, ofConst, ofCell, Mx.prune, killB, aK, putDst, aw, aE, loadAt, bT, List.map, cz, cB, aC, bu, bx, cA, bS, bJ, aM, lowC, ax, ↓ao, ↓aa, ty4, ty9, ty105])
def hd_sIRvalue_rank_fn1_0 (p0 : List GScore) (p1 : Int) (s : Int × ByteArray) : St := ⟨[(0, .v (.sl 2 (ah GScore.row p0))), (1, .clo 114 [.ptr 0 0]), (7, .v (.i .i64 p1)), (8, .v (.i .i64 s.1))], [[.v (.s s.2)]]⟩
def ou_sIRvalue_rank_fn1_0 (p0 : List GScore) (p1 : Int) (r : (Int × ByteArray) ⊕ ByteArray) : Option (Ex × St) := match r with
  | .inl r => some (.ret, ⟨[(4, .v (.i .i64 r.1))], [[.v (.s r.2)]]⟩)
  | .inr r => some (.normal, ⟨[], [[.v (.s r)]]⟩)
theorem sl_sIRvalue_rank_fn1_0 (C : aj) (k_value_rank_fn1 : K_value_rank_fn1 C) (p0 : List GScore) (p1 : Int) (s : Int × ByteArray) (o : (Int × ByteArray) ⊕ ((Int × ByteArray) ⊕ ByteArray)) (hF : st_sIRvalue_rank_fn1_0 p0 p1 s = some o) : evW TT C.wide n110 b110 0 (hd_sIRvalue_rank_fn1_0 p0 p1 s) = Sum.elim (fun s => evW TT C.wide n110 b110 0 (hd_sIRvalue_rank_fn1_0 p0 p1 s)) (fun r => ou_sIRvalue_rank_fn1_0 p0 p1 r) o := by
  obtain ⟨p2, p3⟩ := s
  rw [cG TT n110 fl110_0]
  revert hF
  unfold st_sIRvalue_rank_fn1_0
  try dsimp only
  refine bF (fun h1 => ?_) (fun h1 => ?_)
  focus
    rintro ⟨⟩
  rotate_left 1
  refine az fun x1 h2 => ?_
  have g1 : decide (0 ≤ p2) = true := (cp h2).1
  have g2 : (ah GScore.row p0)[(p2 : Int).toNat]? = some [.s x1.fMember, .i .i64 x1.fN] := cn _ h2
  refine az ?_
  rintro ⟨x2, x3⟩ h3
  dsimp only
  have g3 : C.wide 114 [.agg [.v (.s x1.fMember), .v (.i .i64 x1.fN)], .ptr 0 0] [[.v (.s p3)]] = some (.v (.b x2), [[.v (.s x3)]]) := cX [0] rfl rfl rfl rfl (k_value_rank_fn1 x1 p3 _ h3) rfl rfl
  refine aX (fun h4 => ?_) (fun h4 => ?_)
  focus
    rintro ⟨⟩
  rotate_left 1
  rintro ⟨⟩
  all_goals (show cN _ _ _ (aH _ _ _ _ (Code.seq _ _) _) = _; simp (maxSteps := 4000000) only [*, hd_sIRvalue_rank_fn1_0, ou_sIRvalue_rank_fn1_0, n110a, n110A, n110k, n110K, n110mv, n110gv, ↓RP, RB, ↓ai, be, bf, aJ, Mx.bl, opnd, Mx.bI, Nat.reduceBEq, bQ, Mx.fit, co, aN, aA, ay, Mx.put, ofConst, ofCell, Mx.prune, killB, killBs, aK, putDst, aw, loadAt, bT, List.map, Nat.reduceAdd, cz, cB, bJ, aM, bD, bj, kill, frz, cq, bw, argE, argsE, ax, av, atO, cy, cx, ↓ao, ↓am, ↓aa, ty3, ty51, ty105])
theorem r_sIRvalue_rank_fn1 (C : aj) (k_value_rank_fn1 : K_value_rank_fn1 C) (p0 : List GScore) (p1 : ByteArray) (r : Int × ByteArray) (hF : sIRvalue_rank_fn1 p0 p1 = some r) : cR TT C.wide (evW TT C.wide n110 b110) n110 Try.f110.results.toList (aU Try.f110) [.v (.sl 2 (ah GScore.row p0)), .clo 114 [.ptr 0 0]] [[.v (.s p1)]] = some (.v (.i .i64 r.1), [[.v (.s r.2)]]) := by
  revert hF
  unfold sIRvalue_rank_fn1
  refine az ?_
  rintro (⟨x1, x2⟩ | x1) h1
  focus
    dsimp only
    have g1 := cH _ _ (sl_sIRvalue_rank_fn1_0 C k_value_rank_fn1 p0 (p0.length : Int)) h1
    try simp only [hd_sIRvalue_rank_fn1_0, ou_sIRvalue_rank_fn1_0] at g1
    rintro ⟨⟩
  rotate_left 1
  dsimp only
  have g2 := cH _ _ (sl_sIRvalue_rank_fn1_0 C k_value_rank_fn1 p0 (p0.length : Int)) h1
  try simp only [hd_sIRvalue_rank_fn1_0, ou_sIRvalue_rank_fn1_0] at g2
  rintro ⟨⟩
  all_goals (rw [bk]; show cC _ _ _ (aH _ _ _ _ (Code.seq _ _) _) = _; simp (maxSteps := 4000000) only [*, res110, n110k, n110K, ↓RP, RB, enter, be, bf, aJ, Mx.bl, opnd, Mx.bI, Nat.reduceBEq, bQ, Mx.fit, co, aN, aA, Mx.put, ofConst, ofCell, Mx.prune, killB, killBs, aK, putDst, aw, List.map, cu, aC, bu, bx, cA, bS, bJ, aM, lowC, Int.reduceNeg, ax, ↓ao, ↓aa, ty3, ty51])
def n78K : List (Nat × List Nat) := [(0, [0, 3]), (1, [4])]
def n78 : cL where
  keep := ax n78K
  ro := fun _ => false
  mv := fun _ => false
  give := fun _ => false
  free := fun _ => []
theorem n78k (i : Nat) : n78.keep i = ax n78K i := rfl
theorem n78ro (t : Nat) : n78.ro t = (false) := rfl
theorem n78gv (t : Nat) : n78.give t = (false) := rfl
theorem res78 : Try.f78.results.toList = [.tmp 4] := rfl
noncomputable def b78 : Code := aU Try.f78
theorem r_value_rank (C : aj) (k_sIRvalue_rank_fn1 : K_sIRvalue_rank_fn1 C) (p0 : List GScore) (p1 : ByteArray) (r : Int) (hF : value_rank p0 p1 = some r) : cR TT C.wide (evW TT C.wide n78 b78) n78 Try.f78.results.toList (aU Try.f78) [.v (.sl 2 (ah GScore.row p0)), .v (.s p1)] [] = some (.v (.i .i64 r), []) := by
  revert hF
  unfold value_rank
  refine az ?_
  rintro ⟨x1, x2⟩ h1
  dsimp only
  have g1 : C.wide 110 [.v (.sl 2 (ah GScore.row p0)), .clo 114 [.ptr 0 0]] [[.v (.s p1)]] = some (.v (.i .i64 x1), [[.v (.s x2)]]) := cX [0] rfl rfl rfl rfl (k_sIRvalue_rank_fn1 p0 p1 _ h1) rfl rfl
  rintro ⟨⟩
  all_goals (rw [bk]; show cC _ _ _ (aH _ _ _ _ (Code.seq _ _) _) = _; simp (maxSteps := 4000000) only [*, res78, n78k, n78K, n78ro, n78gv, ↓RP, RB, enter, be, bf, aJ, Mx.bl, opnd, Mx.bI, Nat.reduceBEq, bQ, Mx.fit, co, toVs, cellsOf, toV, aN, aA, Mx.put, ofConst, ofCell, Mx.prune, killB, killBs, aK, putDst, aw, ar, List.map, aC, bu, bx, cA, bS, bJ, aM, bD, lowC, forceAll, kill, lend, lendA, aS, aB, bR, bare, bW, frz, cq, bw, argE, argsE, ax, newB, cw, ↓ao, ↓aa, ty3, ty9])
end Go.Proofs.Ytnjkmbogbfjffaa
