/- The code of these functions, run by the machine Mx, gives what the plain functions say, if their callees do (part 2). -/
import Derived.Test.YtnjkmbogbfjffaaWTy
import Derived.Test.YtnjkmbogbfjffaaWireEncodesD
import Derived.Test.YtnjkmbogbfjffaaWireEncodesZa
set_option linter.unusedSimpArgs false
set_option linter.unusedVariables false
set_option linter.constructorNameAsVariable false
set_option linter.unnecessarySimpa false
set_option maxRecDepth 100000
set_option maxHeartbeats 40000000
namespace Go.Proofs.Ytnjkmbogbfjffaa
open Go Go.Mx Go.Proofs
def n28K : List (Nat × List Nat) := [(0, [1]), (1, [1, 14]), (2, [2]), (3, [1, 3]), (4, [1, 3, 17]), (5, [1, 3]), (6, [1, 3, 17, 19]), (7, [1, 3]), (8, [1, 3, 17, 22]), (9, [1, 3]), (10, [1, 3, 17, 25]), (11, [1, 3]), (12, [1, 3, 28]), (13, [1, 3]), (14, [1, 43]), (15, [2]), (16, [1, 56]), (17, [2]), (18, [1, 65]), (19, [2]), (20, [1, 68]), (21, [2]), (22, [1, 71]), (23, [2]), (24, [1, 80]), (25, [2]), (26, [1, 4]), (27, [1, 4, 100, 101, 102]), (28, [1, 4, 100, 101, 102, 103]), (29, [1, 4, 5, 6, 100, 101, 102]), (30, [1, 4, 100, 101, 102]), (31, [1, 4, 100, 101, 102]), (32, [120]), (33, [2]), (34, [2])]
def n28A : List (Nat × List Nat × List Nat) := [(14, [], [1]), (19, [1, 3], [1, 3, 17]), (22, [1, 3], [1, 3, 17]), (25, [1, 3], [1, 3, 17]), (28, [1, 3], [1, 3]), (43, [], [1]), (56, [], [1]), (65, [], [1]), (68, [], [1]), (71, [], [1]), (80, [], [1]), (103, [1, 4, 100, 101, 102], [4]), (120, [], [])]
def n28 : cL where
  keep := ax n28K
  ro := fun t => t == 1
  mv := fun _ => false
  give := fun _ => false
  free := fun i => match i with | 30 => [(2, 4), (3, 4), (2, 6), (3, 6), (4, 6), (5, 6), (2, 7), (3, 7), (4, 7), (5, 7)] | _ => []
  alive := av n28A
theorem n28a (t : Nat) (x : Bool) (e : Env) (S : bH) : cK n28 t x ⟨e, S⟩ = atO (av n28A t x) e S := cF rfl t x e S
theorem n28k (i : Nat) : n28.keep i = ax n28K i := rfl
theorem n28ro (t : Nat) : n28.ro t = (t == 1) := rfl
theorem n28mv (t : Nat) : n28.mv t = (false) := rfl
theorem n28f30 : n28.free 30 = [(2, 4), (3, 4), (2, 6), (3, 6), (4, 6), (5, 6), (2, 7), (3, 7), (4, 7), (5, 7)] := rfl
theorem res28 : Try.f28.results.toList = [.tmp 2] := rfl
noncomputable def b28 : Code := aU Try.f28
noncomputable def c28_1 : Code := (bE 1 (aU Try.f28)).getD .skip
theorem fl28_1 : bE 1 b28 = some c28_1 := rfl
theorem rg_vaC_k16 (C : aj) (k_value_elements : K_value_elements C) (p0 : GValue) (p1 : Int) (p2 : Int) (p3 : List GPair) (p4 : List ByteArray) (p5 : List GScore) (c : Code) (ho : cD 0 16 b28 = some c) (r : Bool) (hF : ck_vaC_k16 p0 p1 p2 p3 p4 p5 = some r) : @cV TT C.wide (evW TT C.wide n28 b28) n28 0 16 ⟨[(1, .rp [.i .i64 p0.fKind, .s p0.fText, .i .i64 p0.fCount, .sl 2 (ah GPair.row p0.fPairs), .sl 1 (ah bY p0.fItems), .sl 2 (ah GScore.row p0.fScores)])], [[.v (.i .i64 p1), .v (.s ByteArray.empty), .v (.i .i64 p2), .v (.sl 2 (ah GPair.row p3)), .v (.sl 1 (ah bY p4)), .v (.sl 2 (ah GScore.row p5))]]⟩ ⟨c⟩ = some (.normal, ⟨[(1, .rp [.i .i64 p0.fKind, .s p0.fText, .i .i64 p0.fCount, .sl 2 (ah GPair.row p0.fPairs), .sl 1 (ah bY p0.fItems), .sl 2 (ah GScore.row p0.fScores)]), (56, .v (.b r))], [[.v (.i .i64 p1), .v (.s ByteArray.empty), .v (.i .i64 p2), .v (.sl 2 (ah GPair.row p3)), .v (.sl 1 (ah bY p4)), .v (.sl 2 (ah GScore.row p5))]]⟩) := by
  have e := Option.some.inj (ho.symm.trans (rfl : cD 0 16 b28 = some _))
  subst e
  clear ho
  show aH _ _ _ _ _ _ = _
  revert hF
  unfold ck_vaC_k16
  refine bF (fun h1 => ?_) (fun h1 => ?_)
  focus
    rintro ⟨⟩
  rotate_left 1
  have g1 := bK (k_value_elements p0 _ (value_elements_t p0))
  try simp only [ak] at g1
  refine aX (fun h2 => ?_) (fun h2 => ?_)
  focus
    rintro ⟨⟩
  rotate_left 1
  rintro ⟨⟩
  all_goals (simp (maxSteps := 4000000) only [*, n28k, n28K, n28mv, ↓RP, RB, aQ, aD, be, Mx.bl, opnd, Mx.bI, Nat.reduceBEq, bQ, aN, aA, ay, Mx.put, ofConst, ofCell, Mx.prune, killB, aK, putDst, aw, aE, loadAt, bT, List.map, Nat.reduceAdd, cz, cB, forceAll, lend, lendA, aS, aB, bR, bare, bW, ax, newB, cw, cy, cx, bh, ty3, ty53, ↓aa _ _ _ _ 16])
theorem rg_vaC_k26 (C : aj) (k_value_rising_Pair_value_byField : K_value_rising_Pair_value_byField C) (k_value_rising_Score_value_byScore : K_value_rising_Score_value_byScore C) (k_value_rising_string_strings_Compare : K_value_rising_string_strings_Compare C) (p0 : GValue) (p1 : Int) (p2 : Int) (p3 : List GPair) (p4 : List ByteArray) (p5 : List GScore) (c : Code) (ho : cD 0 26 b28 = some c) (r : Bool) (hF : ck_vaC_k26 p0 p1 p2 p3 p4 p5 = some r) : @cV TT C.wide (evW TT C.wide n28 b28) n28 0 26 ⟨[(1, .rp [.i .i64 p0.fKind, .s p0.fText, .i .i64 p0.fCount, .sl 2 (ah GPair.row p0.fPairs), .sl 1 (ah bY p0.fItems), .sl 2 (ah GScore.row p0.fScores)])], [[.v (.i .i64 p1), .v (.s ByteArray.empty), .v (.i .i64 p2), .v (.sl 2 (ah GPair.row p3)), .v (.sl 1 (ah bY p4)), .v (.sl 2 (ah GScore.row p5))]]⟩ ⟨c⟩ = some (.normal, ⟨[(1, .rp [.i .i64 p0.fKind, .s p0.fText, .i .i64 p0.fCount, .sl 2 (ah GPair.row p0.fPairs), .sl 1 (ah bY p0.fItems), .sl 2 (ah GScore.row p0.fScores)]), (4, .v (.b r))], [[.v (.i .i64 p1), .v (.s ByteArray.empty), .v (.i .i64 p2), .v (.sl 2 (ah GPair.row p3)), .v (.sl 1 (ah bY p4)), .v (.sl 2 (ah GScore.row p5))]]⟩) := by
  have e := Option.some.inj (ho.symm.trans (rfl : cD 0 26 b28 = some _))
  subst e
  clear ho
  show aH _ _ _ _ _ _ = _
  revert hF
  unfold ck_vaC_k26
  refine az fun x1 h1 => ?_
  have g1 := bK (k_value_rising_Pair_value_byField p0.fPairs _ h1)
  try simp only [ak] at g1
  refine bF (fun h2 => ?_) (fun h2 => ?_)
  focus
    rintro ⟨⟩
  rotate_left 1
  refine az fun x2 h3 => ?_
  have g2 := bK (k_value_rising_Score_value_byScore p0.fScores _ h3)
  try simp only [ak] at g2
  refine bF (fun h4 => ?_) (fun h4 => ?_)
  focus
    rintro ⟨⟩
  rotate_left 1
  refine bF (fun h5 => ?_) (fun h5 => ?_)
  focus
    rintro ⟨⟩
  rotate_left 1
  refine az fun x3 h6 => ?_
  have g3 := bK (k_value_rising_string_strings_Compare p0.fItems _ h6)
  try simp only [ak] at g3
  rintro ⟨⟩
  all_goals (simp (maxSteps := 4000000) only [*, n28k, n28K, n28mv, ↓RP, RB, aQ, aD, be, bf, aJ, Mx.bl, opnd, Mx.bI, Nat.reduceBEq, bQ, Mx.fit, co, aN, aA, ay, Mx.put, ofConst, ofCell, Mx.prune, killB, aK, putDst, aw, aE, loadAt, bT, List.map, cz, cB, forceAll, lend, lendA, aS, aB, bR, bare, bW, ax, newB, cw, cy, cx, bne, bh, ty3, ty4, ty49, ty50, ty51, ty53, ↓aa _ _ _ _ 26])
def hd_vaC_1 (p0 : GValue) (p2 : List GScore) (p3 : Int) (p5 : Int) (p6 : Int) (p7 : List GPair) (p8 : List ByteArray) (s : Bool × Int) : St := ⟨[(1, .rp [.i .i64 p0.fKind, .s p0.fText, .i .i64 p0.fCount, .sl 2 (ah GPair.row p0.fPairs), .sl 1 (ah bY p0.fItems), .sl 2 (ah GScore.row p0.fScores)]), (4, .v (.b s.1)), (100, .v (.sl 2 (ah GScore.row p2))), (101, .v (.i .i64 p3)), (102, .v (.i .i64 s.2))], [[.v (.i .i64 p5), .v (.s ByteArray.empty), .v (.i .i64 p6), .v (.sl 2 (ah GPair.row p7)), .v (.sl 1 (ah bY p8)), .v (.sl 2 (ah GScore.row p2))]]⟩
def ou_vaC_1 (p0 : GValue) (p2 : List GScore) (p3 : Int) (p5 : Int) (p6 : Int) (p7 : List GPair) (p8 : List ByteArray) (r : Bool) : Option (Ex × St) := some (.normal, ⟨[(4, .v (.b r))], [[.v (.i .i64 p5), .v (.s ByteArray.empty), .v (.i .i64 p6), .v (.sl 2 (ah GPair.row p7)), .v (.sl 1 (ah bY p8)), .v (.sl 2 (ah GScore.row p2))]]⟩)
theorem sl_vaC_1 (C : aj) (k_value_rank : K_value_rank C) (p0 : GValue) (p2 : List GScore) (p3 : Int) (p5 : Int) (p6 : Int) (p7 : List GPair) (p8 : List ByteArray) (s : Bool × Int) (o : (Bool × Int) ⊕ Bool) (hF : st_vaC_1 p0 p2 p3 p5 p6 p7 p8 s = some o) : evW TT C.wide n28 b28 1 (hd_vaC_1 p0 p2 p3 p5 p6 p7 p8 s) = Sum.elim (fun s => evW TT C.wide n28 b28 1 (hd_vaC_1 p0 p2 p3 p5 p6 p7 p8 s)) (fun r => ou_vaC_1 p0 p2 p3 p5 p6 p7 p8 r) o := by
  obtain ⟨p1, p4⟩ := s
  rw [cG TT n28 fl28_1]
  revert hF
  unfold st_vaC_1
  try dsimp only
  refine bF (fun h1 => ?_) (fun h1 => ?_)
  focus
    rintro ⟨⟩
  rotate_left 1
  refine az fun x1 h2 => ?_
  have g1 : decide (0 ≤ p4) = true := (cp h2).1
  have g2 : (ah GScore.row p2)[(p4 : Int).toNat]? = some [.s x1.fMember, .i .i64 x1.fN] := cn _ h2
  refine bF (fun h3 => ?_) (fun h3 => ?_)
  focus
    rintro ⟨⟩
  rotate_left 1
  refine aX (fun h4 => ?_) (fun _ => nofun)
  refine az fun x2 h5 => ?_
  have g3 := bK (k_value_rank (dm p0.fScores 0 p4) x1.fMember _ h5)
  try simp only [ak] at g3
  rintro ⟨⟩
  all_goals (show cN _ _ _ (aH _ _ _ _ (Code.seq _ _) _) = _; simp (maxSteps := 4000000) only [*, hd_vaC_1, ou_vaC_1, n28a, n28A, n28k, n28K, n28f30, n28mv, ↓RP, RB, ↓ai, aQ, aD, be, bf, aJ, Mx.bl, opnd, Mx.bI, Nat.reduceBEq, bQ, Mx.fit, bP, co, cellsOf, aN, aA, ay, Mx.put, ofConst, ofCell, Mx.prune, killB, killBs, aK, putDst, aw, aE, loadAt, bT, List.map, Nat.reduceAdd, cz, cB, cu, bJ, aM, lowC, forceAll, bound, ci, bj, bA, kill, lend, lendA, aS, aB, bR, bare, bW, bG, setCells, Nat.reduceSub, Nat.reduceLeDiff, lowA, bn, bM, cd, au, aI, aY, cm, bL, cv, ch, bo, aL, bm, bp, bd, Op.operands, ax, av, atO, newB, cw, cy, cx, bne, ↓ao, ↓am, bh, br, bN, Call.operands, ty3, ty4, ty9, ty51, ty53, ty105, ↓aa _ _ _ _ 28, ↓aa _ _ _ _ 29, ↓aq _ _ _ _ 30, ↓aa _ _ _ _ 31])
theorem rg_vaC_k16v2 (C : aj) (k_value_elements : K_value_elements C) (p0 : GValue) (p1 : Int) (p2 : ByteArray) (p3 : List GPair) (p4 : List ByteArray) (p5 : List GScore) (c : Code) (ho : cD 0 16 b28 = some c) (r : Bool) (hF : ck_vaC_k16v2 p0 p1 p2 p3 p4 p5 = some r) : @cV TT C.wide (evW TT C.wide n28 b28) n28 0 16 ⟨[(1, .rp [.i .i64 p0.fKind, .s p0.fText, .i .i64 p0.fCount, .sl 2 (ah GPair.row p0.fPairs), .sl 1 (ah bY p0.fItems), .sl 2 (ah GScore.row p0.fScores)])], [[.v (.i .i64 p1), .v (.s p2), .v (.i .i64 0), .v (.sl 2 (ah GPair.row p3)), .v (.sl 1 (ah bY p4)), .v (.sl 2 (ah GScore.row p5))]]⟩ ⟨c⟩ = some (.normal, ⟨[(1, .rp [.i .i64 p0.fKind, .s p0.fText, .i .i64 p0.fCount, .sl 2 (ah GPair.row p0.fPairs), .sl 1 (ah bY p0.fItems), .sl 2 (ah GScore.row p0.fScores)]), (56, .v (.b r))], [[.v (.i .i64 p1), .v (.s p2), .v (.i .i64 0), .v (.sl 2 (ah GPair.row p3)), .v (.sl 1 (ah bY p4)), .v (.sl 2 (ah GScore.row p5))]]⟩) := by
  have e := Option.some.inj (ho.symm.trans (rfl : cD 0 16 b28 = some _))
  subst e
  clear ho
  show aH _ _ _ _ _ _ = _
  revert hF
  unfold ck_vaC_k16v2
  refine bF (fun h1 => ?_) (fun h1 => ?_)
  focus
    rintro ⟨⟩
  rotate_left 1
  have g1 := bK (k_value_elements p0 _ (value_elements_t p0))
  try simp only [ak] at g1
  refine aX (fun h2 => ?_) (fun h2 => ?_)
  focus
    rintro ⟨⟩
  rotate_left 1
  rintro ⟨⟩
  all_goals (simp (maxSteps := 4000000) only [*, n28k, n28K, n28mv, ↓RP, RB, aQ, aD, be, Mx.bl, opnd, Mx.bI, Nat.reduceBEq, bQ, aN, aA, ay, Mx.put, ofConst, ofCell, Mx.prune, killB, aK, putDst, aw, aE, loadAt, bT, List.map, Nat.reduceAdd, cz, cB, forceAll, lend, lendA, aS, aB, bR, bare, bW, ax, newB, cw, cy, cx, bh, ty3, ty53, ↓aa _ _ _ _ 16])
theorem rg_vaC_k26v2 (C : aj) (k_value_rising_Pair_value_byField : K_value_rising_Pair_value_byField C) (k_value_rising_Score_value_byScore : K_value_rising_Score_value_byScore C) (k_value_rising_string_strings_Compare : K_value_rising_string_strings_Compare C) (p0 : GValue) (p1 : Int) (p2 : ByteArray) (p3 : List GPair) (p4 : List ByteArray) (p5 : List GScore) (c : Code) (ho : cD 0 26 b28 = some c) (r : Bool) (hF : ck_vaC_k26v2 p0 p1 p2 p3 p4 p5 = some r) : @cV TT C.wide (evW TT C.wide n28 b28) n28 0 26 ⟨[(1, .rp [.i .i64 p0.fKind, .s p0.fText, .i .i64 p0.fCount, .sl 2 (ah GPair.row p0.fPairs), .sl 1 (ah bY p0.fItems), .sl 2 (ah GScore.row p0.fScores)])], [[.v (.i .i64 p1), .v (.s p2), .v (.i .i64 0), .v (.sl 2 (ah GPair.row p3)), .v (.sl 1 (ah bY p4)), .v (.sl 2 (ah GScore.row p5))]]⟩ ⟨c⟩ = some (.normal, ⟨[(1, .rp [.i .i64 p0.fKind, .s p0.fText, .i .i64 p0.fCount, .sl 2 (ah GPair.row p0.fPairs), .sl 1 (ah bY p0.fItems), .sl 2 (ah GScore.row p0.fScores)]), (4, .v (.b r))], [[.v (.i .i64 p1), .v (.s p2), .v (.i .i64 0), .v (.sl 2 (ah GPair.row p3)), .v (.sl 1 (ah bY p4)), .v (.sl 2 (ah GScore.row p5))]]⟩) := by
  have e := Option.some.inj (ho.symm.trans (rfl : cD 0 26 b28 = some _))
  subst e
  clear ho
  show aH _ _ _ _ _ _ = _
  revert hF
  unfold ck_vaC_k26v2
  refine az fun x1 h1 => ?_
  have g1 := bK (k_value_rising_Pair_value_byField p0.fPairs _ h1)
  try simp only [ak] at g1
  refine bF (fun h2 => ?_) (fun h2 => ?_)
  focus
    rintro ⟨⟩
  rotate_left 1
  refine az fun x2 h3 => ?_
  have g2 := bK (k_value_rising_Score_value_byScore p0.fScores _ h3)
  try simp only [ak] at g2
  refine bF (fun h4 => ?_) (fun h4 => ?_)
  focus
    rintro ⟨⟩
  rotate_left 1
  refine bF (fun h5 => ?_) (fun h5 => ?_)
  focus
    rintro ⟨⟩
  rotate_left 1
  refine az fun x3 h6 => ?_
  have g3 := bK (k_value_rising_string_strings_Compare p0.fItems _ h6)
  try simp only [ak] at g3
  rintro ⟨⟩
  all_goals (simp (maxSteps := 4000000) only [*, n28k, n28K, n28mv, ↓RP, RB, aQ, aD, be, bf, aJ, Mx.bl, opnd, Mx.bI, Nat.reduceBEq, bQ, Mx.fit, co, aN, aA, ay, Mx.put, ofConst, ofCell, Mx.prune, killB, aK, putDst, aw, aE, loadAt, bT, List.map, cz, cB, forceAll, lend, lendA, aS, aB, bR, bare, bW, ax, newB, cw, cy, cx, bne, bh, ty3, ty4, ty49, ty50, ty51, ty53, ↓aa _ _ _ _ 26])
def hd_vaC_1v2 (p0 : GValue) (p2 : List GScore) (p3 : Int) (p5 : Int) (p6 : ByteArray) (p7 : List GPair) (p8 : List ByteArray) (s : Bool × Int) : St := ⟨[(1, .rp [.i .i64 p0.fKind, .s p0.fText, .i .i64 p0.fCount, .sl 2 (ah GPair.row p0.fPairs), .sl 1 (ah bY p0.fItems), .sl 2 (ah GScore.row p0.fScores)]), (4, .v (.b s.1)), (100, .v (.sl 2 (ah GScore.row p2))), (101, .v (.i .i64 p3)), (102, .v (.i .i64 s.2))], [[.v (.i .i64 p5), .v (.s p6), .v (.i .i64 0), .v (.sl 2 (ah GPair.row p7)), .v (.sl 1 (ah bY p8)), .v (.sl 2 (ah GScore.row p2))]]⟩
def ou_vaC_1v2 (p0 : GValue) (p2 : List GScore) (p3 : Int) (p5 : Int) (p6 : ByteArray) (p7 : List GPair) (p8 : List ByteArray) (r : Bool) : Option (Ex × St) := some (.normal, ⟨[(4, .v (.b r))], [[.v (.i .i64 p5), .v (.s p6), .v (.i .i64 0), .v (.sl 2 (ah GPair.row p7)), .v (.sl 1 (ah bY p8)), .v (.sl 2 (ah GScore.row p2))]]⟩)
theorem sl_vaC_1v2 (C : aj) (k_value_rank : K_value_rank C) (p0 : GValue) (p2 : List GScore) (p3 : Int) (p5 : Int) (p6 : ByteArray) (p7 : List GPair) (p8 : List ByteArray) (s : Bool × Int) (o : (Bool × Int) ⊕ Bool) (hF : st_vaC_1v2 p0 p2 p3 p5 p6 p7 p8 s = some o) : evW TT C.wide n28 b28 1 (hd_vaC_1v2 p0 p2 p3 p5 p6 p7 p8 s) = Sum.elim (fun s => evW TT C.wide n28 b28 1 (hd_vaC_1v2 p0 p2 p3 p5 p6 p7 p8 s)) (fun r => ou_vaC_1v2 p0 p2 p3 p5 p6 p7 p8 r) o := by
  obtain ⟨p1, p4⟩ := s
  rw [cG TT n28 fl28_1]
  revert hF
  unfold st_vaC_1v2
  try dsimp only
  refine bF (fun h1 => ?_) (fun h1 => ?_)
  focus
    rintro ⟨⟩
  rotate_left 1
  refine az fun x1 h2 => ?_
  have g1 : decide (0 ≤ p4) = true := (cp h2).1
  have g2 : (ah GScore.row p2)[(p4 : Int).toNat]? = some [.s x1.fMember, .i .i64 x1.fN] := cn _ h2
  refine bF (fun h3 => ?_) (fun h3 => ?_)
  focus
    rintro ⟨⟩
  rotate_left 1
  refine aX (fun h4 => ?_) (fun _ => nofun)
  refine az fun x2 h5 => ?_
  have g3 := bK (k_value_rank (dm p0.fScores 0 p4) x1.fMember _ h5)
  try simp only [ak] at g3
  rintro ⟨⟩
  all_goals (show cN _ _ _ (aH _ _ _ _ (Code.seq _ _) _) = _; simp (maxSteps := 4000000) only [*, hd_vaC_1v2, ou_vaC_1v2, n28a, n28A, n28k, n28K, n28f30, n28mv, ↓RP, RB, ↓ai, aQ, aD, be, bf, aJ, Mx.bl, opnd, Mx.bI, Nat.reduceBEq, bQ, Mx.fit, bP, co, cellsOf, aN, aA, ay, Mx.put, ofConst, ofCell, Mx.prune, killB, killBs, aK, putDst, aw, aE, loadAt, bT, List.map, Nat.reduceAdd, cz, cB, cu, bJ, aM, lowC, forceAll, bound, ci, bj, bA, kill, lend, lendA, aS, aB, bR, bare, bW, bG, setCells, Nat.reduceSub, Nat.reduceLeDiff, lowA, bn, bM, cd, au, aI, aY, cm, bL, cv, ch, bo, aL, bm, bp, bd, Op.operands, ax, av, atO, newB, cw, cy, cx, bne, ↓ao, ↓am, bh, br, bN, Call.operands, ty3, ty4, ty9, ty51, ty53, ty105, ↓aa _ _ _ _ 28, ↓aa _ _ _ _ 29, ↓aq _ _ _ _ 30, ↓aa _ _ _ _ 31])
theorem rg_vaC_k16v3 (C : aj) (k_value_elements : K_value_elements C) (p0 : GValue) (p1 : Int) (p2 : ByteArray) (p3 : Int) (p4 : List ByteArray) (p5 : List GScore) (c : Code) (ho : cD 0 16 b28 = some c) (r : Bool) (hF : ck_vaC_k16v3 p0 p1 p2 p3 p4 p5 = some r) : @cV TT C.wide (evW TT C.wide n28 b28) n28 0 16 ⟨[(1, .rp [.i .i64 p0.fKind, .s p0.fText, .i .i64 p0.fCount, .sl 2 (ah GPair.row p0.fPairs), .sl 1 (ah bY p0.fItems), .sl 2 (ah GScore.row p0.fScores)])], [[.v (.i .i64 p1), .v (.s p2), .v (.i .i64 p3), .own 2 [], .v (.sl 1 (ah bY p4)), .v (.sl 2 (ah GScore.row p5))]]⟩ ⟨c⟩ = some (.normal, ⟨[(1, .rp [.i .i64 p0.fKind, .s p0.fText, .i .i64 p0.fCount, .sl 2 (ah GPair.row p0.fPairs), .sl 1 (ah bY p0.fItems), .sl 2 (ah GScore.row p0.fScores)]), (56, .v (.b r))], [[.v (.i .i64 p1), .v (.s p2), .v (.i .i64 p3), .own 2 [], .v (.sl 1 (ah bY p4)), .v (.sl 2 (ah GScore.row p5))]]⟩) := by
  have e := Option.some.inj (ho.symm.trans (rfl : cD 0 16 b28 = some _))
  subst e
  clear ho
  show aH _ _ _ _ _ _ = _
  revert hF
  unfold ck_vaC_k16v3
  refine bF (fun h1 => ?_) (fun h1 => ?_)
  focus
    rintro ⟨⟩
  rotate_left 1
  have g1 := bK (k_value_elements p0 _ (value_elements_t p0))
  try simp only [ak] at g1
  refine aX (fun h2 => ?_) (fun h2 => ?_)
  focus
    rintro ⟨⟩
  rotate_left 1
  rintro ⟨⟩
  all_goals (simp (maxSteps := 4000000) only [*, n28k, n28K, n28mv, ↓RP, RB, aQ, aD, be, Mx.bl, opnd, Mx.bI, Nat.reduceBEq, bQ, aN, aA, ay, Mx.put, ofConst, ofCell, Mx.prune, killB, aK, putDst, aw, aE, loadAt, bT, List.map, Nat.reduceAdd, cz, cB, forceAll, lend, lendA, aS, aB, bR, bare, bW, ax, newB, cw, cy, cx, bh, ty3, ty53, ↓aa _ _ _ _ 16])
theorem rg_vaC_k26v3 (C : aj) (k_value_rising_Pair_value_byField : K_value_rising_Pair_value_byField C) (k_value_rising_Score_value_byScore : K_value_rising_Score_value_byScore C) (k_value_rising_string_strings_Compare : K_value_rising_string_strings_Compare C) (p0 : GValue) (p1 : Int) (p2 : ByteArray) (p3 : Int) (p4 : List ByteArray) (p5 : List GScore) (c : Code) (ho : cD 0 26 b28 = some c) (r : Bool) (hF : ck_vaC_k26v3 p0 p1 p2 p3 p4 p5 = some r) : @cV TT C.wide (evW TT C.wide n28 b28) n28 0 26 ⟨[(1, .rp [.i .i64 p0.fKind, .s p0.fText, .i .i64 p0.fCount, .sl 2 (ah GPair.row p0.fPairs), .sl 1 (ah bY p0.fItems), .sl 2 (ah GScore.row p0.fScores)])], [[.v (.i .i64 p1), .v (.s p2), .v (.i .i64 p3), .own 2 [], .v (.sl 1 (ah bY p4)), .v (.sl 2 (ah GScore.row p5))]]⟩ ⟨c⟩ = some (.normal, ⟨[(1, .rp [.i .i64 p0.fKind, .s p0.fText, .i .i64 p0.fCount, .sl 2 (ah GPair.row p0.fPairs), .sl 1 (ah bY p0.fItems), .sl 2 (ah GScore.row p0.fScores)]), (4, .v (.b r))], [[.v (.i .i64 p1), .v (.s p2), .v (.i .i64 p3), .own 2 [], .v (.sl 1 (ah bY p4)), .v (.sl 2 (ah GScore.row p5))]]⟩) := by
  have e := Option.some.inj (ho.symm.trans (rfl : cD 0 26 b28 = some _))
  subst e
  clear ho
  show aH _ _ _ _ _ _ = _
  revert hF
  unfold ck_vaC_k26v3
  refine az fun x1 h1 => ?_
  have g1 := bK (k_value_rising_Pair_value_byField p0.fPairs _ h1)
  try simp only [ak] at g1
  refine bF (fun h2 => ?_) (fun h2 => ?_)
  focus
    rintro ⟨⟩
  rotate_left 1
  refine az fun x2 h3 => ?_
  have g2 := bK (k_value_rising_Score_value_byScore p0.fScores _ h3)
  try simp only [ak] at g2
  refine bF (fun h4 => ?_) (fun h4 => ?_)
  focus
    rintro ⟨⟩
  rotate_left 1
  refine bF (fun h5 => ?_) (fun h5 => ?_)
  focus
    rintro ⟨⟩
  rotate_left 1
  refine az fun x3 h6 => ?_
  have g3 := bK (k_value_rising_string_strings_Compare p0.fItems _ h6)
  try simp only [ak] at g3
  rintro ⟨⟩
  all_goals (simp (maxSteps := 4000000) only [*, n28k, n28K, n28mv, ↓RP, RB, aQ, aD, be, bf, aJ, Mx.bl, opnd, Mx.bI, Nat.reduceBEq, bQ, Mx.fit, co, aN, aA, ay, Mx.put, ofConst, ofCell, Mx.prune, killB, aK, putDst, aw, aE, loadAt, bT, List.map, cz, cB, forceAll, lend, lendA, aS, aB, bR, bare, bW, ax, newB, cw, cy, cx, bne, bh, ty3, ty4, ty49, ty50, ty51, ty53, ↓aa _ _ _ _ 26])
def hd_vaC_1v3 (p0 : GValue) (p2 : List GScore) (p3 : Int) (p5 : Int) (p6 : ByteArray) (p7 : Int) (p8 : List ByteArray) (s : Bool × Int) : St := ⟨[(1, .rp [.i .i64 p0.fKind, .s p0.fText, .i .i64 p0.fCount, .sl 2 (ah GPair.row p0.fPairs), .sl 1 (ah bY p0.fItems), .sl 2 (ah GScore.row p0.fScores)]), (4, .v (.b s.1)), (100, .v (.sl 2 (ah GScore.row p2))), (101, .v (.i .i64 p3)), (102, .v (.i .i64 s.2))], [[.v (.i .i64 p5), .v (.s p6), .v (.i .i64 p7), .own 2 [], .v (.sl 1 (ah bY p8)), .v (.sl 2 (ah GScore.row p2))]]⟩
def ou_vaC_1v3 (p0 : GValue) (p2 : List GScore) (p3 : Int) (p5 : Int) (p6 : ByteArray) (p7 : Int) (p8 : List ByteArray) (r : Bool) : Option (Ex × St) := some (.normal, ⟨[(4, .v (.b r))], [[.v (.i .i64 p5), .v (.s p6), .v (.i .i64 p7), .own 2 [], .v (.sl 1 (ah bY p8)), .v (.sl 2 (ah GScore.row p2))]]⟩)
theorem sl_vaC_1v3 (C : aj) (k_value_rank : K_value_rank C) (p0 : GValue) (p2 : List GScore) (p3 : Int) (p5 : Int) (p6 : ByteArray) (p7 : Int) (p8 : List ByteArray) (s : Bool × Int) (o : (Bool × Int) ⊕ Bool) (hF : st_vaC_1v3 p0 p2 p3 p5 p6 p7 p8 s = some o) : evW TT C.wide n28 b28 1 (hd_vaC_1v3 p0 p2 p3 p5 p6 p7 p8 s) = Sum.elim (fun s => evW TT C.wide n28 b28 1 (hd_vaC_1v3 p0 p2 p3 p5 p6 p7 p8 s)) (fun r => ou_vaC_1v3 p0 p2 p3 p5 p6 p7 p8 r) o := by
  obtain ⟨p1, p4⟩ := s
  rw [cG TT n28 fl28_1]
  revert hF
  unfold st_vaC_1v3
  try dsimp only
  refine bF (fun h1 => ?_) (fun h1 => ?_)
  focus
    rintro ⟨⟩
  rotate_left 1
  refine az fun x1 h2 => ?_
  have g1 : decide (0 ≤ p4) = true := (cp h2).1
  have g2 : (ah GScore.row p2)[(p4 : Int).toNat]? = some [.s x1.fMember, .i .i64 x1.fN] := cn _ h2
  refine bF (fun h3 => ?_) (fun h3 => ?_)
  focus
    rintro ⟨⟩
  rotate_left 1
  refine aX (fun h4 => ?_) (fun _ => nofun)
  refine az fun x2 h5 => ?_
  have g3 := bK (k_value_rank (dm p0.fScores 0 p4) x1.fMember _ h5)
  try simp only [ak] at g3
  rintro ⟨⟩
  all_goals (show cN _ _ _ (aH _ _ _ _ (Code.seq _ _) _) = _; simp (maxSteps := 4000000) only [*, hd_vaC_1v3, ou_vaC_1v3, n28a, n28A, n28k, n28K, n28f30, n28mv, ↓RP, RB, ↓ai, aQ, aD, be, bf, aJ, Mx.bl, opnd, Mx.bI, Nat.reduceBEq, bQ, Mx.fit, bP, co, cellsOf, aN, aA, ay, Mx.put, ofConst, ofCell, Mx.prune, killB, killBs, aK, putDst, aw, aE, loadAt, bT, List.map, Nat.reduceAdd, cz, cB, cu, bJ, aM, lowC, forceAll, bound, ci, bj, bA, kill, lend, lendA, aS, aB, bR, bare, bW, bG, setCells, Nat.reduceSub, Nat.reduceLeDiff, lowA, bn, bM, cd, au, aI, aY, cm, bL, cv, ch, bo, aL, bm, bp, bd, Op.operands, ax, av, atO, newB, cw, cy, cx, bne, ↓ao, ↓am, bh, br, bN, Call.operands, ty3, ty4, ty9, ty51, ty53, ty105, ↓aa _ _ _ _ 28, ↓aa _ _ _ _ 29, ↓aq _ _ _ _ 30, ↓aa _ _ _ _ 31])
theorem rg_vaC_k16v4 (C : aj) (k_value_elements : K_value_elements C) (p0 : GValue) (p1 : Int) (p2 : ByteArray) (p3 : Int) (p4 : List GPair) (p5 : List ByteArray) (c : Code) (ho : cD 0 16 b28 = some c) (r : Bool) (hF : ck_vaC_k16v4 p0 p1 p2 p3 p4 p5 = some r) : @cV TT C.wide (evW TT C.wide n28 b28) n28 0 16 ⟨[(1, .rp [.i .i64 p0.fKind, .s p0.fText, .i .i64 p0.fCount, .sl 2 (ah GPair.row p0.fPairs), .sl 1 (ah bY p0.fItems), .sl 2 (ah GScore.row p0.fScores)])], [[.v (.i .i64 p1), .v (.s p2), .v (.i .i64 p3), .v (.sl 2 (ah GPair.row p4)), .v (.sl 1 (ah bY p5)), .own 2 []]]⟩ ⟨c⟩ = some (.normal, ⟨[(1, .rp [.i .i64 p0.fKind, .s p0.fText, .i .i64 p0.fCount, .sl 2 (ah GPair.row p0.fPairs), .sl 1 (ah bY p0.fItems), .sl 2 (ah GScore.row p0.fScores)]), (56, .v (.b r))], [[.v (.i .i64 p1), .v (.s p2), .v (.i .i64 p3), .v (.sl 2 (ah GPair.row p4)), .v (.sl 1 (ah bY p5)), .own 2 []]]⟩) := by
  have e := Option.some.inj (ho.symm.trans (rfl : cD 0 16 b28 = some _))
  subst e
  clear ho
  show aH _ _ _ _ _ _ = _
  revert hF
  unfold ck_vaC_k16v4
  refine bF (fun h1 => ?_) (fun h1 => ?_)
  focus
    rintro ⟨⟩
  rotate_left 1
  have g1 := bK (k_value_elements p0 _ (value_elements_t p0))
  try simp only [ak] at g1
  refine aX (fun h2 => ?_) (fun h2 => ?_)
  focus
    rintro ⟨⟩
  rotate_left 1
  rintro ⟨⟩
  all_goals (simp (maxSteps := 4000000) only [*, n28k, n28K, n28mv, ↓RP, RB, aQ, aD, be, Mx.bl, opnd, Mx.bI, Nat.reduceBEq, bQ, aN, aA, ay, Mx.put, ofConst, ofCell, Mx.prune, killB, aK, putDst, aw, aE, loadAt, bT, List.map, Nat.reduceAdd, cz, cB, forceAll, lend, lendA, aS, aB, bR, bare, bW, ax, newB, cw, cy, cx, bh, ty3, ty53, ↓aa _ _ _ _ 16])
theorem rg_vaC_k26v4 (C : aj) (k_value_rising_Pair_value_byField : K_value_rising_Pair_value_byField C) (k_value_rising_Score_value_byScore : K_value_rising_Score_value_byScore C) (k_value_rising_string_strings_Compare : K_value_rising_string_strings_Compare C) (p0 : GValue) (p1 : Int) (p2 : ByteArray) (p3 : Int) (p4 : List GPair) (p5 : List ByteArray) (c : Code) (ho : cD 0 26 b28 = some c) (r : Bool) (hF : ck_vaC_k26v4 p0 p1 p2 p3 p4 p5 = some r) : @cV TT C.wide (evW TT C.wide n28 b28) n28 0 26 ⟨[(1, .rp [.i .i64 p0.fKind, .s p0.fText, .i .i64 p0.fCount, .sl 2 (ah GPair.row p0.fPairs), .sl 1 (ah bY p0.fItems), .sl 2 (ah GScore.row p0.fScores)])], [[.v (.i .i64 p1), .v (.s p2), .v (.i .i64 p3), .v (.sl 2 (ah GPair.row p4)), .v (.sl 1 (ah bY p5)), .own 2 []]]⟩ ⟨c⟩ = some (.normal, ⟨[(1, .rp [.i .i64 p0.fKind, .s p0.fText, .i .i64 p0.fCount, .sl 2 (ah GPair.row p0.fPairs), .sl 1 (ah bY p0.fItems), .sl 2 (ah GScore.row p0.fScores)]), (4, .v (.b r))], [[.v (.i .i64 p1), .v (.s p2), .v (.i .i64 p3), .v (.sl 2 (ah GPair.row p4)), .v (.sl 1 (ah bY p5)), .own 2 []]]⟩) := by
  have e := Option.some.inj (ho.symm.trans (rfl : cD 0 26 b28 = some _))
  subst e
  clear ho
  show aH _ _ _ _ _ _ = _
  revert hF
  unfold ck_vaC_k26v4
  refine az fun x1 h1 => ?_
  have g1 := bK (k_value_rising_Pair_value_byField p0.fPairs _ h1)
  try simp only [ak] at g1
  refine bF (fun h2 => ?_) (fun h2 => ?_)
  focus
    rintro ⟨⟩
  rotate_left 1
  refine az fun x2 h3 => ?_
  have g2 := bK (k_value_rising_Score_value_byScore p0.fScores _ h3)
  try simp only [ak] at g2
  refine bF (fun h4 => ?_) (fun h4 => ?_)
  focus
    rintro ⟨⟩
  rotate_left 1
  refine bF (fun h5 => ?_) (fun h5 => ?_)
  focus
    rintro ⟨⟩
  rotate_left 1
  refine az fun x3 h6 => ?_
  have g3 := bK (k_value_rising_string_strings_Compare p0.fItems _ h6)
  try simp only [ak] at g3
  rintro ⟨⟩
  all_goals (simp (maxSteps := 4000000) only [*, n28k, n28K, n28mv, ↓RP, RB, aQ, aD, be, bf, aJ, Mx.bl, opnd, Mx.bI, Nat.reduceBEq, bQ, Mx.fit, co, aN, aA, ay, Mx.put, ofConst, ofCell, Mx.prune, killB, aK, putDst, aw, aE, loadAt, bT, List.map, cz, cB, forceAll, lend, lendA, aS, aB, bR, bare, bW, ax, newB, cw, cy, cx, bne, bh, ty3, ty4, ty49, ty50, ty51, ty53, ↓aa _ _ _ _ 26])
def hd_vaC_1v4 (p0 : GValue) (p2 : List GScore) (p3 : Int) (p5 : Int) (p6 : ByteArray) (p7 : Int) (p8 : List GPair) (p9 : List ByteArray) (s : Bool × Int) : St := ⟨[(1, .rp [.i .i64 p0.fKind, .s p0.fText, .i .i64 p0.fCount, .sl 2 (ah GPair.row p0.fPairs), .sl 1 (ah bY p0.fItems), .sl 2 (ah GScore.row p0.fScores)]), (4, .v (.b s.1)), (100, .v (.sl 2 (ah GScore.row p2))), (101, .v (.i .i64 p3)), (102, .v (.i .i64 s.2))], [[.v (.i .i64 p5), .v (.s p6), .v (.i .i64 p7), .v (.sl 2 (ah GPair.row p8)), .v (.sl 1 (ah bY p9)), .own 2 []]]⟩
def ou_vaC_1v4 (p0 : GValue) (p2 : List GScore) (p3 : Int) (p5 : Int) (p6 : ByteArray) (p7 : Int) (p8 : List GPair) (p9 : List ByteArray) (r : Bool) : Option (Ex × St) := some (.normal, ⟨[(4, .v (.b r))], [[.v (.i .i64 p5), .v (.s p6), .v (.i .i64 p7), .v (.sl 2 (ah GPair.row p8)), .v (.sl 1 (ah bY p9)), .own 2 []]]⟩)
theorem sl_vaC_1v4 (C : aj) (k_value_rank : K_value_rank C) (p0 : GValue) (p2 : List GScore) (p3 : Int) (p5 : Int) (p6 : ByteArray) (p7 : Int) (p8 : List GPair) (p9 : List ByteArray) (s : Bool × Int) (o : (Bool × Int) ⊕ Bool) (hF : st_vaC_1v4 p0 p2 p3 p5 p6 p7 p8 p9 s = some o) : evW TT C.wide n28 b28 1 (hd_vaC_1v4 p0 p2 p3 p5 p6 p7 p8 p9 s) = Sum.elim (fun s => evW TT C.wide n28 b28 1 (hd_vaC_1v4 p0 p2 p3 p5 p6 p7 p8 p9 s)) (fun r => ou_vaC_1v4 p0 p2 p3 p5 p6 p7 p8 p9 r) o := by
  obtain ⟨p1, p4⟩ := s
  rw [cG TT n28 fl28_1]
  revert hF
  unfold st_vaC_1v4
  try dsimp only
  refine bF (fun h1 => ?_) (fun h1 => ?_)
  focus
    rintro ⟨⟩
  rotate_left 1
  refine az fun x1 h2 => ?_
  have g1 : decide (0 ≤ p4) = true := (cp h2).1
  have g2 : (ah GScore.row p2)[(p4 : Int).toNat]? = some [.s x1.fMember, .i .i64 x1.fN] := cn _ h2
  refine bF (fun h3 => ?_) (fun h3 => ?_)
  focus
    rintro ⟨⟩
  rotate_left 1
  refine aX (fun h4 => ?_) (fun _ => nofun)
  refine az fun x2 h5 => ?_
  have g3 := bK (k_value_rank (dm p0.fScores 0 p4) x1.fMember _ h5)
  try simp only [ak] at g3
  rintro ⟨⟩
  all_goals (show cN _ _ _ (aH _ _ _ _ (Code.seq _ _) _) = _; simp (maxSteps := 4000000) only [*, hd_vaC_1v4, ou_vaC_1v4, n28a, n28A, n28k, n28K, n28f30, n28mv, ↓RP, RB, ↓ai, aQ, aD, be, bf, aJ, Mx.bl, opnd, Mx.bI, Nat.reduceBEq, bQ, Mx.fit, bP, co, cellsOf, aN, aA, ay, Mx.put, ofConst, ofCell, Mx.prune, killB, killBs, aK, putDst, aw, aE, loadAt, bT, List.map, Nat.reduceAdd, cz, cB, cu, bJ, aM, lowC, forceAll, bound, ci, bj, bA, kill, lend, lendA, aS, aB, bR, bare, bW, bG, setCells, Nat.reduceSub, Nat.reduceLeDiff, lowA, bn, bM, cd, au, aI, aY, cm, bL, cv, ch, bo, aL, bm, bp, bd, Op.operands, ax, av, atO, newB, cw, cy, cx, bne, ↓ao, ↓am, bh, br, bN, Call.operands, ty3, ty4, ty9, ty51, ty53, ty105, ↓aa _ _ _ _ 28, ↓aa _ _ _ _ 29, ↓aq _ _ _ _ 30, ↓aa _ _ _ _ 31])
theorem rg_vaC_k16v5 (C : aj) (k_value_elements : K_value_elements C) (p0 : GValue) (p1 : Int) (p2 : ByteArray) (p3 : Int) (p4 : List GPair) (p5 : List GScore) (c : Code) (ho : cD 0 16 b28 = some c) (r : Bool) (hF : ck_vaC_k16v5 p0 p1 p2 p3 p4 p5 = some r) : @cV TT C.wide (evW TT C.wide n28 b28) n28 0 16 ⟨[(1, .rp [.i .i64 p0.fKind, .s p0.fText, .i .i64 p0.fCount, .sl 2 (ah GPair.row p0.fPairs), .sl 1 (ah bY p0.fItems), .sl 2 (ah GScore.row p0.fScores)])], [[.v (.i .i64 p1), .v (.s p2), .v (.i .i64 p3), .v (.sl 2 (ah GPair.row p4)), .own 1 [], .v (.sl 2 (ah GScore.row p5))]]⟩ ⟨c⟩ = some (.normal, ⟨[(1, .rp [.i .i64 p0.fKind, .s p0.fText, .i .i64 p0.fCount, .sl 2 (ah GPair.row p0.fPairs), .sl 1 (ah bY p0.fItems), .sl 2 (ah GScore.row p0.fScores)]), (56, .v (.b r))], [[.v (.i .i64 p1), .v (.s p2), .v (.i .i64 p3), .v (.sl 2 (ah GPair.row p4)), .own 1 [], .v (.sl 2 (ah GScore.row p5))]]⟩) := by
  have e := Option.some.inj (ho.symm.trans (rfl : cD 0 16 b28 = some _))
  subst e
  clear ho
  show aH _ _ _ _ _ _ = _
  revert hF
  unfold ck_vaC_k16v5
  refine bF (fun h1 => ?_) (fun h1 => ?_)
  focus
    rintro ⟨⟩
  rotate_left 1
  have g1 := bK (k_value_elements p0 _ (value_elements_t p0))
  try simp only [ak] at g1
  refine aX (fun h2 => ?_) (fun h2 => ?_)
  focus
    rintro ⟨⟩
  rotate_left 1
  rintro ⟨⟩
  all_goals (simp (maxSteps := 4000000) only [*, n28k, n28K, n28mv, ↓RP, RB, aQ, aD, be, Mx.bl, opnd, Mx.bI, Nat.reduceBEq, bQ, aN, aA, ay, Mx.put, ofConst, ofCell, Mx.prune, killB, aK, putDst, aw, aE, loadAt, bT, List.map, Nat.reduceAdd, cz, cB, forceAll, lend, lendA, aS, aB, bR, bare, bW, ax, newB, cw, cy, cx, bh, ty3, ty53, ↓aa _ _ _ _ 16])
theorem rg_vaC_k26v5 (C : aj) (k_value_rising_Pair_value_byField : K_value_rising_Pair_value_byField C) (k_value_rising_Score_value_byScore : K_value_rising_Score_value_byScore C) (k_value_rising_string_strings_Compare : K_value_rising_string_strings_Compare C) (p0 : GValue) (p1 : Int) (p2 : ByteArray) (p3 : Int) (p4 : List GPair) (p5 : List GScore) (c : Code) (ho : cD 0 26 b28 = some c) (r : Bool) (hF : ck_vaC_k26v5 p0 p1 p2 p3 p4 p5 = some r) : @cV TT C.wide (evW TT C.wide n28 b28) n28 0 26 ⟨[(1, .rp [.i .i64 p0.fKind, .s p0.fText, .i .i64 p0.fCount, .sl 2 (ah GPair.row p0.fPairs), .sl 1 (ah bY p0.fItems), .sl 2 (ah GScore.row p0.fScores)])], [[.v (.i .i64 p1), .v (.s p2), .v (.i .i64 p3), .v (.sl 2 (ah GPair.row p4)), .own 1 [], .v (.sl 2 (ah GScore.row p5))]]⟩ ⟨c⟩ = some (.normal, ⟨[(1, .rp [.i .i64 p0.fKind, .s p0.fText, .i .i64 p0.fCount, .sl 2 (ah GPair.row p0.fPairs), .sl 1 (ah bY p0.fItems), .sl 2 (ah GScore.row p0.fScores)]), (4, .v (.b r))], [[.v (.i .i64 p1), .v (.s p2), .v (.i .i64 p3), .v (.sl 2 (ah GPair.row p4)), .own 1 [], .v (.sl 2 (ah GScore.row p5))]]⟩) := by
  have e := Option.some.inj (ho.symm.trans (rfl : cD 0 26 b28 = some _))
  subst e
  clear ho
  show aH _ _ _ _ _ _ = _
  revert hF
  unfold ck_vaC_k26v5
  refine az fun x1 h1 => ?_
  have g1 := bK (k_value_rising_Pair_value_byField p0.fPairs _ h1)
  try simp only [ak] at g1
  refine bF (fun h2 => ?_) (fun h2 => ?_)
  focus
    rintro ⟨⟩
  rotate_left 1
  refine az fun x2 h3 => ?_
  have g2 := bK (k_value_rising_Score_value_byScore p0.fScores _ h3)
  try simp only [ak] at g2
  refine bF (fun h4 => ?_) (fun h4 => ?_)
  focus
    rintro ⟨⟩
  rotate_left 1
  refine bF (fun h5 => ?_) (fun h5 => ?_)
  focus
    rintro ⟨⟩
  rotate_left 1
  refine az fun x3 h6 => ?_
  have g3 := bK (k_value_rising_string_strings_Compare p0.fItems _ h6)
  try simp only [ak] at g3
  rintro ⟨⟩
  all_goals (simp (maxSteps := 4000000) only [*, n28k, n28K, n28mv, ↓RP, RB, aQ, aD, be, bf, aJ, Mx.bl, opnd, Mx.bI, Nat.reduceBEq, bQ, Mx.fit, co, aN, aA, ay, Mx.put, ofConst, ofCell, Mx.prune, killB, aK, putDst, aw, aE, loadAt, bT, List.map, cz, cB, forceAll, lend, lendA, aS, aB, bR, bare, bW, ax, newB, cw, cy, cx, bne, bh, ty3, ty4, ty49, ty50, ty51, ty53, ↓aa _ _ _ _ 26])
def hd_vaC_1v5 (p0 : GValue) (p2 : List GScore) (p3 : Int) (p5 : Int) (p6 : ByteArray) (p7 : Int) (p8 : List GPair) (s : Bool × Int) : St := ⟨[(1, .rp [.i .i64 p0.fKind, .s p0.fText, .i .i64 p0.fCount, .sl 2 (ah GPair.row p0.fPairs), .sl 1 (ah bY p0.fItems), .sl 2 (ah GScore.row p0.fScores)]), (4, .v (.b s.1)), (100, .v (.sl 2 (ah GScore.row p2))), (101, .v (.i .i64 p3)), (102, .v (.i .i64 s.2))], [[.v (.i .i64 p5), .v (.s p6), .v (.i .i64 p7), .v (.sl 2 (ah GPair.row p8)), .own 1 [], .v (.sl 2 (ah GScore.row p2))]]⟩
def ou_vaC_1v5 (p0 : GValue) (p2 : List GScore) (p3 : Int) (p5 : Int) (p6 : ByteArray) (p7 : Int) (p8 : List GPair) (r : Bool) : Option (Ex × St) := some (.normal, ⟨[(4, .v (.b r))], [[.v (.i .i64 p5), .v (.s p6), .v (.i .i64 p7), .v (.sl 2 (ah GPair.row p8)), .own 1 [], .v (.sl 2 (ah GScore.row p2))]]⟩)
theorem sl_vaC_1v5 (C : aj) (k_value_rank : K_value_rank C) (p0 : GValue) (p2 : List GScore) (p3 : Int) (p5 : Int) (p6 : ByteArray) (p7 : Int) (p8 : List GPair) (s : Bool × Int) (o : (Bool × Int) ⊕ Bool) (hF : st_vaC_1v5 p0 p2 p3 p5 p6 p7 p8 s = some o) : evW TT C.wide n28 b28 1 (hd_vaC_1v5 p0 p2 p3 p5 p6 p7 p8 s) = Sum.elim (fun s => evW TT C.wide n28 b28 1 (hd_vaC_1v5 p0 p2 p3 p5 p6 p7 p8 s)) (fun r => ou_vaC_1v5 p0 p2 p3 p5 p6 p7 p8 r) o := by
  obtain ⟨p1, p4⟩ := s
  rw [cG TT n28 fl28_1]
  revert hF
  unfold st_vaC_1v5
  try dsimp only
  refine bF (fun h1 => ?_) (fun h1 => ?_)
  focus
    rintro ⟨⟩
  rotate_left 1
  refine az fun x1 h2 => ?_
  have g1 : decide (0 ≤ p4) = true := (cp h2).1
  have g2 : (ah GScore.row p2)[(p4 : Int).toNat]? = some [.s x1.fMember, .i .i64 x1.fN] := cn _ h2
  refine bF (fun h3 => ?_) (fun h3 => ?_)
  focus
    rintro ⟨⟩
  rotate_left 1
  refine aX (fun h4 => ?_) (fun _ => nofun)
  refine az fun x2 h5 => ?_
  have g3 := bK (k_value_rank (dm p0.fScores 0 p4) x1.fMember _ h5)
  try simp only [ak] at g3
  rintro ⟨⟩
  all_goals (show cN _ _ _ (aH _ _ _ _ (Code.seq _ _) _) = _; simp (maxSteps := 4000000) only [*, hd_vaC_1v5, ou_vaC_1v5, n28a, n28A, n28k, n28K, n28f30, n28mv, ↓RP, RB, ↓ai, aQ, aD, be, bf, aJ, Mx.bl, opnd, Mx.bI, Nat.reduceBEq, bQ, Mx.fit, bP, co, cellsOf, aN, aA, ay, Mx.put, ofConst, ofCell, Mx.prune, killB, killBs, aK, putDst, aw, aE, loadAt, bT, List.map, Nat.reduceAdd, cz, cB, cu, bJ, aM, lowC, forceAll, bound, ci, bj, bA, kill, lend, lendA, aS, aB, bR, bare, bW, bG, setCells, Nat.reduceSub, Nat.reduceLeDiff, lowA, bn, bM, cd, au, aI, aY, cm, bL, cv, ch, bo, aL, bm, bp, bd, Op.operands, ax, av, atO, newB, cw, cy, cx, bne, ↓ao, ↓am, bh, br, bN, Call.operands, ty3, ty4, ty9, ty51, ty53, ty105, ↓aa _ _ _ _ 28, ↓aa _ _ _ _ 29, ↓aq _ _ _ _ 30, ↓aa _ _ _ _ 31])
theorem r_vaC (C : aj) (k_value_elements : K_value_elements C) (k_value_text : K_value_text C) (k_sCSvaC_fn1 : K_sCSvaC_fn1 C) (k_sCPvaC_fn2 : K_sCPvaC_fn2 C) (k_sCRvaC_fn3 : K_sCRvaC_fn3 C) (k_value_count : K_value_count C) (k_sCRvaC_fn4 : K_sCRvaC_fn4 C) (k_value_rising_Pair_value_byField : K_value_rising_Pair_value_byField C) (k_value_rising_Score_value_byScore : K_value_rising_Score_value_byScore C) (k_value_rising_string_strings_Compare : K_value_rising_string_strings_Compare C) (k_value_rank : K_value_rank C) (p0 : GValue) (r : Int) (hF : vaC p0 = some r) : cR TT C.wide (evW TT C.wide n28 b28) n28 Try.f28.results.toList (aU Try.f28) [.agg [.v (.i .i64 p0.fKind), .v (.s p0.fText), .v (.i .i64 p0.fCount), .v (.sl 2 (ah GPair.row p0.fPairs)), .v (.sl 1 (ah bY p0.fItems)), .v (.sl 2 (ah GScore.row p0.fScores))]] [] = some (.v (.i .i64 r), []) := by
  revert hF
  unfold vaC
  refine aX (fun h1 => ?_) (fun h1 => ?_)
  focus
    rintro ⟨⟩
  rotate_left 1
  refine aX (fun h2 => ?_) (fun h2 => ?_)
  focus
    rintro ⟨⟩
  rotate_left 1
  refine aX (fun h3 => ?_) (fun h3 => ?_)
  focus
    refine bF (fun h4 => ?_) (fun h4 => ?_)
    focus
      rintro ⟨⟩
    rotate_left 1
    have g1 := bK (k_value_elements (GValue.mk p0.fKind ByteArray.empty p0.fCount p0.fPairs p0.fItems p0.fScores) _ (value_elements_t (GValue.mk p0.fKind ByteArray.empty p0.fCount p0.fPairs p0.fItems p0.fScores)))
    try simp only [] at g1
    refine aX (fun h5 => ?_) (fun h5 => ?_)
    focus
      rintro ⟨⟩
    rotate_left 1
    unfold vaC_c1
    have g2 := rg_vaC_k16 C k_value_elements p0 p0.fKind p0.fCount p0.fPairs p0.fItems p0.fScores _ rfl (ck_vaC_k16_v p0 p0.fKind p0.fCount p0.fPairs p0.fItems p0.fScores) (ck_vaC_k16_t p0 p0.fKind p0.fCount p0.fPairs p0.fItems p0.fScores)
    try simp only [ak] at g2
    refine aX (fun h6 => ?_) (fun h6 => ?_)
    focus
      rintro ⟨⟩
    rotate_left 1
    have g3 := bK (k_value_text p0.fText _ (value_text_t p0.fText))
    try simp only [ak] at g3
    refine bF (fun h7 => ?_) (fun h7 => ?_)
    focus
      rintro ⟨⟩
    rotate_left 1
    refine az fun x1 h8 => ?_
    have g4 := bK (k_sCSvaC_fn1 p0.fItems _ h8)
    try simp only [ak] at g4
    refine aX (fun h9 => ?_) (fun h9 => ?_)
    focus
      rintro ⟨⟩
    rotate_left 1
    refine az fun x2 h10 => ?_
    have g5 := bK (k_sCPvaC_fn2 p0.fPairs _ h10)
    try simp only [ak] at g5
    refine aX (fun h11 => ?_) (fun h11 => ?_)
    focus
      rintro ⟨⟩
    rotate_left 1
    refine az fun x3 h12 => ?_
    unfold vaC_c0
    have g6 := bK (k_sCRvaC_fn3 p0.fScores _ h12)
    try simp only [ak] at g6
    refine aX (fun h13 => ?_) (fun h13 => ?_)
    focus
      rintro ⟨⟩
    rotate_left 1
    have g7 := bK (k_value_count p0.fCount _ (value_count_t p0.fCount))
    try simp only [ak] at g7
    refine bF (fun h14 => ?_) (fun h14 => ?_)
    focus
      rintro ⟨⟩
    rotate_left 1
    refine az fun x4 h15 => ?_
    have g8 := bK (k_sCRvaC_fn4 p0.fScores _ h15)
    try simp only [ak] at g8
    refine aX (fun h16 => ?_) (fun h16 => ?_)
    focus
      rintro ⟨⟩
    rotate_left 1
    refine az fun x5 h17 => ?_
    have g9 := rg_vaC_k26 C k_value_rising_Pair_value_byField k_value_rising_Score_value_byScore k_value_rising_string_strings_Compare p0 p0.fKind p0.fCount p0.fPairs p0.fItems p0.fScores _ rfl _ h17
    try simp only [ak] at g9
    refine az ?_
    rintro x6 h18
    have g10 := cH _ _ (sl_vaC_1 C k_value_rank p0 p0.fScores (p0.fScores.length : Int) p0.fKind p0.fCount p0.fPairs p0.fItems) h18
    try simp only [hd_vaC_1, ou_vaC_1] at g10
    refine aX (fun h19 => ?_) (fun h19 => ?_)
    focus
      rintro ⟨⟩
    rotate_left 1
    rintro ⟨⟩
  rotate_left 11
  unfold vaC_c11
  refine aX (fun h4 => ?_) (fun h4 => ?_)
  focus
    refine bF (fun h5 => ?_) (fun h5 => ?_)
    focus
      rintro ⟨⟩
    rotate_left 1
    have g11 := bK (k_value_elements (GValue.mk p0.fKind p0.fText 0 p0.fPairs p0.fItems p0.fScores) _ (value_elements_t (GValue.mk p0.fKind p0.fText 0 p0.fPairs p0.fItems p0.fScores)))
    try simp only [] at g11
    refine aX (fun h6 => ?_) (fun h6 => ?_)
    focus
      rintro ⟨⟩
    rotate_left 1
    unfold vaC_c3
    have g12 := rg_vaC_k16v2 C k_value_elements p0 p0.fKind p0.fText p0.fPairs p0.fItems p0.fScores _ rfl (ck_vaC_k16v2_v p0 p0.fKind p0.fText p0.fPairs p0.fItems p0.fScores) (ck_vaC_k16v2_t p0 p0.fKind p0.fText p0.fPairs p0.fItems p0.fScores)
    try simp only [ak] at g12
    refine aX (fun h7 => ?_) (fun h7 => ?_)
    focus
      rintro ⟨⟩
    rotate_left 1
    have g3 := bK (k_value_text p0.fText _ (value_text_t p0.fText))
    try simp only [ak] at g3
    refine bF (fun h8 => ?_) (fun h8 => ?_)
    focus
      rintro ⟨⟩
    rotate_left 1
    refine az fun x1 h9 => ?_
    have g4 := bK (k_sCSvaC_fn1 p0.fItems _ h9)
    try simp only [ak] at g4
    refine aX (fun h10 => ?_) (fun h10 => ?_)
    focus
      rintro ⟨⟩
    rotate_left 1
    refine az fun x2 h11 => ?_
    have g5 := bK (k_sCPvaC_fn2 p0.fPairs _ h11)
    try simp only [ak] at g5
    refine aX (fun h12 => ?_) (fun h12 => ?_)
    focus
      rintro ⟨⟩
    rotate_left 1
    refine az fun x3 h13 => ?_
    unfold vaC_c2
    have g6 := bK (k_sCRvaC_fn3 p0.fScores _ h13)
    try simp only [ak] at g6
    refine aX (fun h14 => ?_) (fun h14 => ?_)
    focus
      rintro ⟨⟩
    rotate_left 1
    have g7 := bK (k_value_count p0.fCount _ (value_count_t p0.fCount))
    try simp only [ak] at g7
    refine bF (fun h15 => ?_) (fun h15 => ?_)
    focus
      rintro ⟨⟩
    rotate_left 1
    refine az fun x4 h16 => ?_
    have g8 := bK (k_sCRvaC_fn4 p0.fScores _ h16)
    try simp only [ak] at g8
    refine aX (fun h17 => ?_) (fun h17 => ?_)
    focus
      rintro ⟨⟩
    rotate_left 1
    refine az fun x5 h18 => ?_
    have g13 := rg_vaC_k26v2 C k_value_rising_Pair_value_byField k_value_rising_Score_value_byScore k_value_rising_string_strings_Compare p0 p0.fKind p0.fText p0.fPairs p0.fItems p0.fScores _ rfl _ h18
    try simp only [ak] at g13
    refine az ?_
    rintro x6 h19
    have g14 := cH _ _ (sl_vaC_1v2 C k_value_rank p0 p0.fScores (p0.fScores.length : Int) p0.fKind p0.fText p0.fPairs p0.fItems) h19
    try simp only [hd_vaC_1v2, ou_vaC_1v2] at g14
    refine aX (fun h20 => ?_) (fun h20 => ?_)
    focus
      rintro ⟨⟩
    rotate_left 1
    rintro ⟨⟩
  rotate_left 11
  refine aX (fun h5 => ?_) (fun h5 => ?_)
  focus
    refine bF (fun h6 => ?_) (fun h6 => ?_)
    focus
      rintro ⟨⟩
    rotate_left 1
    refine bF (fun h7 => ?_) (fun h7 => ?_)
    focus
      rintro ⟨⟩
    rotate_left 1
    have g15 := bK (k_value_elements (GValue.mk p0.fKind p0.fText p0.fCount [] p0.fItems p0.fScores) _ (value_elements_t (GValue.mk p0.fKind p0.fText p0.fCount [] p0.fItems p0.fScores)))
    try simp only [ak] at g15
    refine aX (fun h8 => ?_) (fun h8 => ?_)
    focus
      rintro ⟨⟩
    rotate_left 1
    unfold vaC_c5
    have g16 := rg_vaC_k16v3 C k_value_elements p0 p0.fKind p0.fText p0.fCount p0.fItems p0.fScores _ rfl (ck_vaC_k16v3_v p0 p0.fKind p0.fText p0.fCount p0.fItems p0.fScores) (ck_vaC_k16v3_t p0 p0.fKind p0.fText p0.fCount p0.fItems p0.fScores)
    try simp only [ak] at g16
    refine aX (fun h9 => ?_) (fun h9 => ?_)
    focus
      rintro ⟨⟩
    rotate_left 1
    have g3 := bK (k_value_text p0.fText _ (value_text_t p0.fText))
    try simp only [ak] at g3
    refine bF (fun h10 => ?_) (fun h10 => ?_)
    focus
      rintro ⟨⟩
    rotate_left 1
    refine az fun x1 h11 => ?_
    have g4 := bK (k_sCSvaC_fn1 p0.fItems _ h11)
    try simp only [ak] at g4
    refine aX (fun h12 => ?_) (fun h12 => ?_)
    focus
      rintro ⟨⟩
    rotate_left 1
    refine az fun x2 h13 => ?_
    have g5 := bK (k_sCPvaC_fn2 p0.fPairs _ h13)
    try simp only [ak] at g5
    refine aX (fun h14 => ?_) (fun h14 => ?_)
    focus
      rintro ⟨⟩
    rotate_left 1
    refine az fun x3 h15 => ?_
    unfold vaC_c4
    have g6 := bK (k_sCRvaC_fn3 p0.fScores _ h15)
    try simp only [ak] at g6
    refine aX (fun h16 => ?_) (fun h16 => ?_)
    focus
      rintro ⟨⟩
    rotate_left 1
    have g7 := bK (k_value_count p0.fCount _ (value_count_t p0.fCount))
    try simp only [ak] at g7
    refine bF (fun h17 => ?_) (fun h17 => ?_)
    focus
      rintro ⟨⟩
    rotate_left 1
    refine az fun x4 h18 => ?_
    have g8 := bK (k_sCRvaC_fn4 p0.fScores _ h18)
    try simp only [ak] at g8
    refine aX (fun h19 => ?_) (fun h19 => ?_)
    focus
      rintro ⟨⟩
    rotate_left 1
    refine az fun x5 h20 => ?_
    have g17 := rg_vaC_k26v3 C k_value_rising_Pair_value_byField k_value_rising_Score_value_byScore k_value_rising_string_strings_Compare p0 p0.fKind p0.fText p0.fCount p0.fItems p0.fScores _ rfl _ h20
    try simp only [ak] at g17
    refine az ?_
    rintro x6 h21
    have g18 := cH _ _ (sl_vaC_1v3 C k_value_rank p0 p0.fScores (p0.fScores.length : Int) p0.fKind p0.fText p0.fCount p0.fItems) h21
    try simp only [hd_vaC_1v3, ou_vaC_1v3] at g18
    refine aX (fun h22 => ?_) (fun h22 => ?_)
    focus
      rintro ⟨⟩
    rotate_left 1
    rintro ⟨⟩
  rotate_left 12
  unfold vaC_c10
  refine aX (fun h6 => ?_) (fun h6 => ?_)
  focus
    refine bF (fun h7 => ?_) (fun h7 => ?_)
    focus
      rintro ⟨⟩
    rotate_left 1
    refine bF (fun h8 => ?_) (fun h8 => ?_)
    focus
      rintro ⟨⟩
    rotate_left 1
    have g19 := bK (k_value_elements (GValue.mk p0.fKind p0.fText p0.fCount p0.fPairs p0.fItems []) _ (value_elements_t (GValue.mk p0.fKind p0.fText p0.fCount p0.fPairs p0.fItems [])))
    try simp only [ak] at g19
    refine aX (fun h9 => ?_) (fun h9 => ?_)
    focus
      rintro ⟨⟩
    rotate_left 1
    unfold vaC_c7
    have g20 := rg_vaC_k16v4 C k_value_elements p0 p0.fKind p0.fText p0.fCount p0.fPairs p0.fItems _ rfl (ck_vaC_k16v4_v p0 p0.fKind p0.fText p0.fCount p0.fPairs p0.fItems) (ck_vaC_k16v4_t p0 p0.fKind p0.fText p0.fCount p0.fPairs p0.fItems)
    try simp only [ak] at g20
    refine aX (fun h10 => ?_) (fun h10 => ?_)
    focus
      rintro ⟨⟩
    rotate_left 1
    have g3 := bK (k_value_text p0.fText _ (value_text_t p0.fText))
    try simp only [ak] at g3
    refine bF (fun h11 => ?_) (fun h11 => ?_)
    focus
      rintro ⟨⟩
    rotate_left 1
    refine az fun x1 h12 => ?_
    have g4 := bK (k_sCSvaC_fn1 p0.fItems _ h12)
    try simp only [ak] at g4
    refine aX (fun h13 => ?_) (fun h13 => ?_)
    focus
      rintro ⟨⟩
    rotate_left 1
    refine az fun x2 h14 => ?_
    have g5 := bK (k_sCPvaC_fn2 p0.fPairs _ h14)
    try simp only [ak] at g5
    refine aX (fun h15 => ?_) (fun h15 => ?_)
    focus
      rintro ⟨⟩
    rotate_left 1
    refine az fun x3 h16 => ?_
    unfold vaC_c6
    have g6 := bK (k_sCRvaC_fn3 p0.fScores _ h16)
    try simp only [ak] at g6
    refine aX (fun h17 => ?_) (fun h17 => ?_)
    focus
      rintro ⟨⟩
    rotate_left 1
    have g7 := bK (k_value_count p0.fCount _ (value_count_t p0.fCount))
    try simp only [ak] at g7
    refine bF (fun h18 => ?_) (fun h18 => ?_)
    focus
      rintro ⟨⟩
    rotate_left 1
    refine az fun x4 h19 => ?_
    have g8 := bK (k_sCRvaC_fn4 p0.fScores _ h19)
    try simp only [ak] at g8
    refine aX (fun h20 => ?_) (fun h20 => ?_)
    focus
      rintro ⟨⟩
    rotate_left 1
    refine az fun x5 h21 => ?_
    have g21 := rg_vaC_k26v4 C k_value_rising_Pair_value_byField k_value_rising_Score_value_byScore k_value_rising_string_strings_Compare p0 p0.fKind p0.fText p0.fCount p0.fPairs p0.fItems _ rfl _ h21
    try simp only [ak] at g21
    refine az ?_
    rintro x6 h22
    have g22 := cH _ _ (sl_vaC_1v4 C k_value_rank p0 p0.fScores (p0.fScores.length : Int) p0.fKind p0.fText p0.fCount p0.fPairs p0.fItems) h22
    try simp only [hd_vaC_1v4, ou_vaC_1v4] at g22
    refine aX (fun h23 => ?_) (fun h23 => ?_)
    focus
      rintro ⟨⟩
    rotate_left 1
    rintro ⟨⟩
  rotate_left 12
  refine bF (fun h7 => ?_) (fun h7 => ?_)
  focus
    rintro ⟨⟩
  rotate_left 1
  refine bF (fun h8 => ?_) (fun h8 => ?_)
  focus
    rintro ⟨⟩
  rotate_left 1
  have g23 := bK (k_value_elements (GValue.mk p0.fKind p0.fText p0.fCount p0.fPairs [] p0.fScores) _ (value_elements_t (GValue.mk p0.fKind p0.fText p0.fCount p0.fPairs [] p0.fScores)))
  try simp only [ak] at g23
  refine aX (fun h9 => ?_) (fun h9 => ?_)
  focus
    rintro ⟨⟩
  rotate_left 1
  unfold vaC_c9
  have g24 := rg_vaC_k16v5 C k_value_elements p0 p0.fKind p0.fText p0.fCount p0.fPairs p0.fScores _ rfl (ck_vaC_k16v5_v p0 p0.fKind p0.fText p0.fCount p0.fPairs p0.fScores) (ck_vaC_k16v5_t p0 p0.fKind p0.fText p0.fCount p0.fPairs p0.fScores)
  try simp only [ak] at g24
  refine aX (fun h10 => ?_) (fun h10 => ?_)
  focus
    rintro ⟨⟩
  rotate_left 1
  have g3 := bK (k_value_text p0.fText _ (value_text_t p0.fText))
  try simp only [ak] at g3
  refine bF (fun h11 => ?_) (fun h11 => ?_)
  focus
    rintro ⟨⟩
  rotate_left 1
  refine az fun x1 h12 => ?_
  have g4 := bK (k_sCSvaC_fn1 p0.fItems _ h12)
  try simp only [ak] at g4
  refine aX (fun h13 => ?_) (fun h13 => ?_)
  focus
    rintro ⟨⟩
  rotate_left 1
  refine az fun x2 h14 => ?_
  have g5 := bK (k_sCPvaC_fn2 p0.fPairs _ h14)
  try simp only [ak] at g5
  refine aX (fun h15 => ?_) (fun h15 => ?_)
  focus
    rintro ⟨⟩
  rotate_left 1
  refine az fun x3 h16 => ?_
  unfold vaC_c8
  have g6 := bK (k_sCRvaC_fn3 p0.fScores _ h16)
  try simp only [ak] at g6
  refine aX (fun h17 => ?_) (fun h17 => ?_)
  focus
    rintro ⟨⟩
  rotate_left 1
  have g7 := bK (k_value_count p0.fCount _ (value_count_t p0.fCount))
  try simp only [ak] at g7
  refine bF (fun h18 => ?_) (fun h18 => ?_)
  focus
    rintro ⟨⟩
  rotate_left 1
  refine az fun x4 h19 => ?_
  have g8 := bK (k_sCRvaC_fn4 p0.fScores _ h19)
  try simp only [ak] at g8
  refine aX (fun h20 => ?_) (fun h20 => ?_)
  focus
    rintro ⟨⟩
  rotate_left 1
  refine az fun x5 h21 => ?_
  have g25 := rg_vaC_k26v5 C k_value_rising_Pair_value_byField k_value_rising_Score_value_byScore k_value_rising_string_strings_Compare p0 p0.fKind p0.fText p0.fCount p0.fPairs p0.fScores _ rfl _ h21
  try simp only [ak] at g25
  refine az ?_
  rintro x6 h22
  have g26 := cH _ _ (sl_vaC_1v5 C k_value_rank p0 p0.fScores (p0.fScores.length : Int) p0.fKind p0.fText p0.fCount p0.fPairs) h22
  try simp only [hd_vaC_1v5, ou_vaC_1v5] at g26
  refine aX (fun h23 => ?_) (fun h23 => ?_)
  focus
    rintro ⟨⟩
  rotate_left 1
  rintro ⟨⟩
  all_goals (rw [bk]; show cC _ _ _ (aH _ _ _ _ (Code.seq _ _) _) = _; simp (maxSteps := 4000000) only [*, res28, n28a, n28A, n28k, n28K, n28ro, n28mv, ↓RP, RB, ↓ai, enter, aQ, aD, be, bf, aJ, Mx.bl, opnd, Mx.bI, Nat.reduceBEq, bQ, Mx.fit, bP, co, toVs, cellsOf, toV, aN, aA, ay, Mx.put, ofConst, ofCell, Mx.prune, killB, killBs, aK, putDst, aw, aE, loadAt, bT, List.map, Nat.reduceAdd, cz, cB, cu, aC, bu, bx, cA, bS, bJ, aM, lowC, forceAll, kill, lend, lendA, aS, aB, bR, bare, bW, bG, setCells, Nat.reduceLeDiff, ax, av, atO, newB, cw, cy, cx, bne, ↓ao, ↓am, bh, aP, ty3, ty4, ty9, ty25, ty49, ty50, ty51, ty53, ↓aa _ _ _ _ 0, ↓aa _ _ _ _ 1, ↓aa _ _ _ _ 2, ↓aa _ _ _ _ 3, ↓aa _ _ _ _ 4, ↓aa _ _ _ _ 6, ↓aa _ _ _ _ 7, ↓aa _ _ _ _ 8, ↓aa _ _ _ _ 9, ↓aa _ _ _ _ 10, ↓aa _ _ _ _ 11, ↓aa _ _ _ _ 12, ↓aa _ _ _ _ 13, ↓aa _ _ _ _ 5, ↓aa _ _ _ _ 14, ↓aa _ _ _ _ 15, ↓bg _ _ _ _ 16, ↓aa _ _ _ _ 17, ↓aa _ _ _ _ 18, ↓aa _ _ _ _ 19, ↓aa _ _ _ _ 20, ↓aa _ _ _ _ 21, ↓aa _ _ _ _ 22, ↓aa _ _ _ _ 23, ↓aa _ _ _ _ 24, ↓aa _ _ _ _ 25, ↓bg _ _ _ _ 26, ↓aa _ _ _ _ 27, ↓aa _ _ _ _ 32, ↓aa _ _ _ _ 33, ↓aa _ _ _ _ 34])
def n34K : List (Nat × List Nat) := [(0, [1]), (1, [1, 18]), (2, [2]), (3, [1, 20, 21, 22]), (4, [1, 20, 21, 22, 23]), (5, [1, 3, 4, 20, 21, 22]), (6, [1, 4, 20, 21, 22, 58]), (7, [2]), (8, [1, 20, 21, 22, 73]), (9, [2]), (10, [1, 20, 21, 22]), (11, [2])]
def n34A : List (Nat × List Nat × List Nat) := [(18, [], [1]), (23, [1, 20, 21, 22], []), (58, [], [1, 4, 20, 21, 22]), (73, [], [1, 20, 21, 22])]
def n34 : cL where
  keep := ax n34K
  ro := fun t => t == 1
  mv := fun _ => false
  give := fun _ => false
  free := fun i => match i with | 6 => [(20, 22), (21, 22), (20, 23), (21, 23), (20, 27), (21, 27), (22, 27), (23, 27), (24, 27), (25, 27), (26, 27), (20, 28), (21, 28), (22, 28), (23, 28), (24, 28), (25, 28), (26, 28)] | _ => []
  alive := av n34A
theorem n34a (t : Nat) (x : Bool) (e : Env) (S : bH) : cK n34 t x ⟨e, S⟩ = atO (av n34A t x) e S := cF rfl t x e S
theorem n34k (i : Nat) : n34.keep i = ax n34K i := rfl
theorem n34ro (t : Nat) : n34.ro t = (t == 1) := rfl
theorem n34mv (t : Nat) : n34.mv t = (false) := rfl
theorem n34f6 : n34.free 6 = [(20, 22), (21, 22), (20, 23), (21, 23), (20, 27), (21, 27), (22, 27), (23, 27), (24, 27), (25, 27), (26, 27), (20, 28), (21, 28), (22, 28), (23, 28), (24, 28), (25, 28), (26, 28)] := rfl
theorem res34 : Try.f34.results.toList = [.tmp 2] := rfl
noncomputable def b34 : Code := aU Try.f34
noncomputable def c34_0 : Code := (bE 0 (aU Try.f34)).getD .skip
theorem fl34_0 : bE 0 b34 = some c34_0 := rfl
theorem rg_store_Check_k1 (C : aj)  (p0 : GStore) (c : Code) (ho : cD 0 1 b34 = some c) (r : Bool) (hF : ck_store_Check_k1 p0 = some r) : @cV TT C.wide (evW TT C.wide n34 b34) n34 0 1 ⟨[(1, .rp [.i .i64 p0.fNow, .sl 8 (ah GEntry.row p0.fEntries)])], []⟩ ⟨c⟩ = some (.normal, ⟨[(1, .rp [.i .i64 p0.fNow, .sl 8 (ah GEntry.row p0.fEntries)]), (18, .v (.b r))], []⟩) := by
  have e := Option.some.inj (ho.symm.trans (rfl : cD 0 1 b34 = some _))
  subst e
  clear ho
  show aH _ _ _ _ _ _ = _
  revert hF
  unfold ck_store_Check_k1
  refine aX (fun h1 => ?_) (fun h1 => ?_)
  focus
    rintro ⟨⟩
  rotate_left 1
  refine aX (fun h2 => ?_) (fun h2 => ?_)
  focus
    rintro ⟨⟩
  rotate_left 1
  rintro ⟨⟩
  all_goals (simp (maxSteps := 4000000) only [*, n34k, n34K, n34mv, ↓RP, RB, aQ, aD, be, Mx.bl, opnd, Mx.bI, Nat.reduceBEq, bQ, aN, aA, ay, Mx.put, ofConst, ofCell, Mx.prune, killB, aK, putDst, aw, aE, loadAt, bT, List.map, cz, cB, cu, ax, cy, cx, bh, ty3, ty61, ty63, ↓aa _ _ _ _ 1])
theorem rg_store_Check_k6v2 (C : aj) (k_vaC : K_vaC C) (p0 : GStore) (p1 : Int) (p2 : List GEntry) (p3 : Int) (p4 : GEntry) (c : Code) (ho : cD 0 6 b34 = some c) (r : Bool) (hF : ck_store_Check_k6v2 p0 p1 p2 p3 p4 = some r) : @cV TT C.wide (evW TT C.wide n34 b34) n34 0 6 ⟨[(1, .rp [.i .i64 p0.fNow, .sl 8 (ah GEntry.row p0.fEntries)]), (3, .v (.i .i64 p1)), (4, .ptr 0 0), (20, .v (.sl 8 (ah GEntry.row p2))), (21, .v (.i .i64 p3)), (22, .v (.i .i64 p1))], [[.v (.s p4.fKey), .v (.i .i64 p4.fValue.fKind), .v (.s p4.fValue.fText), .v (.i .i64 p4.fValue.fCount), .v (.sl 2 (ah GPair.row p4.fValue.fPairs)), .v (.sl 1 (ah bY p4.fValue.fItems)), .v (.sl 2 (ah GScore.row p4.fValue.fScores)), .v (.i .i64 p4.fUntil)]]⟩ ⟨c⟩ = some (.normal, ⟨[(1, .rp [.i .i64 p0.fNow, .sl 8 (ah GEntry.row p0.fEntries)]), (4, .ptr 0 0), (20, .v (.sl 8 (ah GEntry.row p2))), (21, .v (.i .i64 p3)), (22, .v (.i .i64 p1)), (58, .v (.b r))], [[.v (.s p4.fKey), .v (.i .i64 p4.fValue.fKind), .v (.s p4.fValue.fText), .v (.i .i64 p4.fValue.fCount), .v (.sl 2 (ah GPair.row p4.fValue.fPairs)), .v (.sl 1 (ah bY p4.fValue.fItems)), .v (.sl 2 (ah GScore.row p4.fValue.fScores)), .v (.i .i64 p4.fUntil)]]⟩) := by
  have e := Option.some.inj (ho.symm.trans (rfl : cD 0 6 b34 = some _))
  subst e
  clear ho
  show aH _ _ _ _ _ _ = _
  revert hF
  unfold ck_store_Check_k6v2
  refine aX (fun h1 => ?_) (fun h1 => ?_)
  focus
    rintro ⟨⟩
  rotate_left 1
  refine aX (fun h2 => ?_) (fun h2 => ?_)
  focus
    rintro ⟨⟩
  rotate_left 1
  refine az fun x1 h3 => ?_
  have g1 := bK (k_vaC p4.fValue _ h3)
  try simp only [ak] at g1
  refine bF (fun h4 => ?_) (fun h4 => ?_)
  focus
    rintro ⟨⟩
  rotate_left 1
  refine bF (fun h5 => ?_) (fun h5 => ?_)
  focus
    rintro ⟨⟩
  rotate_left 1
  refine az fun x2 h6 => ?_
  have g2 : decide (0 ≤ (IntKind.i64.wrap (p1 - 1))) = true := (cp h6).1
  have g3 : (ah GEntry.row p0.fEntries)[((IntKind.i64.wrap (p1 - 1)) : Int).toNat]? = some [.s x2.fKey, .i .i64 x2.fValue.fKind, .s x2.fValue.fText, .i .i64 x2.fValue.fCount, .sl 2 (ah GPair.row x2.fValue.fPairs), .sl 1 (ah bY x2.fValue.fItems), .sl 2 (ah GScore.row x2.fValue.fScores), .i .i64 x2.fUntil] := cn _ h6
  rintro ⟨⟩
  all_goals (simp (maxSteps := 4000000) only [*, n34k, n34K, n34f6, n34mv, ↓RP, RB, aQ, aD, be, Mx.bl, opnd, Mx.bI, Nat.reduceBEq, bQ, aN, aA, ay, Mx.put, ofConst, ofCell, Mx.prune, killB, aK, putDst, aw, aE, loadAt, bT, List.map, Nat.reduceAdd, cz, cB, cu, forceAll, bj, lend, lendA, aS, aB, bR, bare, bW, bG, Nat.reduceSub, cd, aI, aY, cm, bL, cv, ch, bo, aL, bm, Op.operands, ax, newB, cw, cy, cx, bne, bh, aP, br, Call.operands, ty9, ty53, ty61, ty63, ty117, ↓aq _ _ _ _ 6])
theorem rg_store_Check_k8v2 (C : aj)  (p0 : GStore) (p1 : List GEntry) (p2 : Int) (p3 : Int) (p4 : GEntry) (c : Code) (ho : cD 0 8 b34 = some c) (r : Bool) (hF : ck_store_Check_k8v2 p0 p1 p2 p3 p4 = some r) : @cV TT C.wide (evW TT C.wide n34 b34) n34 0 8 ⟨[(1, .rp [.i .i64 p0.fNow, .sl 8 (ah GEntry.row p0.fEntries)]), (4, .ptr 0 0), (20, .v (.sl 8 (ah GEntry.row p1))), (21, .v (.i .i64 p2)), (22, .v (.i .i64 p3))], [[.v (.s p4.fKey), .v (.i .i64 p4.fValue.fKind), .v (.s p4.fValue.fText), .v (.i .i64 p4.fValue.fCount), .v (.sl 2 (ah GPair.row p4.fValue.fPairs)), .v (.sl 1 (ah bY p4.fValue.fItems)), .v (.sl 2 (ah GScore.row p4.fValue.fScores)), .v (.i .i64 p4.fUntil)]]⟩ ⟨c⟩ = some (.normal, ⟨[(1, .rp [.i .i64 p0.fNow, .sl 8 (ah GEntry.row p0.fEntries)]), (20, .v (.sl 8 (ah GEntry.row p1))), (21, .v (.i .i64 p2)), (22, .v (.i .i64 p3)), (73, .v (.b r))], [[.v (.s p4.fKey), .v (.i .i64 p4.fValue.fKind), .v (.s p4.fValue.fText), .v (.i .i64 p4.fValue.fCount), .v (.sl 2 (ah GPair.row p4.fValue.fPairs)), .v (.sl 1 (ah bY p4.fValue.fItems)), .v (.sl 2 (ah GScore.row p4.fValue.fScores)), .v (.i .i64 p4.fUntil)]]⟩) := by
  have e := Option.some.inj (ho.symm.trans (rfl : cD 0 8 b34 = some _))
  subst e
  clear ho
  show aH _ _ _ _ _ _ = _
  revert hF
  unfold ck_store_Check_k8v2
  refine aX (fun h1 => ?_) (fun h1 => ?_)
  focus
    rintro ⟨⟩
  rotate_left 1
  refine aX (fun h2 => ?_) (fun h2 => ?_)
  focus
    rintro ⟨⟩
  rotate_left 1
  rintro ⟨⟩
  all_goals (simp (maxSteps := 4000000) only [*, n34k, n34K, n34mv, ↓RP, RB, aQ, aD, be, Mx.bl, opnd, Mx.bI, Nat.reduceBEq, bQ, aN, aA, ay, Mx.put, ofConst, ofCell, Mx.prune, killB, aK, putDst, aw, aE, loadAt, bT, List.map, cz, cB, ax, cy, cx, bne, bh, ty3, ty63, ty117, ↓aa _ _ _ _ 8])
def hd_store_Check_0 (p0 : GStore) (p1 : List GEntry) (p2 : Int) (s : Int) : St := ⟨[(1, .rp [.i .i64 p0.fNow, .sl 8 (ah GEntry.row p0.fEntries)]), (20, .v (.sl 8 (ah GEntry.row p1))), (21, .v (.i .i64 p2)), (22, .v (.i .i64 s))], []⟩
def ou_store_Check_0 (p0 : GStore) (p1 : List GEntry) (p2 : Int) (r : GEntry ⊕ Unit) : Option (Ex × St) := match r with
  | .inl r => some (.ret, ⟨[(2, .v (.i .i64 13))], [[.v (.s r.fKey), .v (.i .i64 r.fValue.fKind), .v (.s r.fValue.fText), .v (.i .i64 r.fValue.fCount), .v (.sl 2 (ah GPair.row r.fValue.fPairs)), .v (.sl 1 (ah bY r.fValue.fItems)), .v (.sl 2 (ah GScore.row r.fValue.fScores)), .v (.i .i64 r.fUntil)]]⟩)
  | .inr r => some (.normal, ⟨[], []⟩)
theorem sl_store_Check_0 (C : aj) (k_vaC : K_vaC C) (p0 : GStore) (p1 : List GEntry) (p2 : Int) (p3 : Int) (o : Int ⊕ (GEntry ⊕ Unit)) (hF : st_store_Check_0 p0 p1 p2 p3 = some o) : evW TT C.wide n34 b34 0 (hd_store_Check_0 p0 p1 p2 p3) = Sum.elim (fun s => evW TT C.wide n34 b34 0 (hd_store_Check_0 p0 p1 p2 s)) (fun r => ou_store_Check_0 p0 p1 p2 r) o := by
  rw [cG TT n34 fl34_0]
  revert hF
  unfold st_store_Check_0
  try dsimp only
  refine bF (fun h1 => ?_) (fun h1 => ?_)
  focus
    rintro ⟨⟩
  rotate_left 1
  refine az fun x1 h2 => ?_
  have g1 : decide (0 ≤ p3) = true := (cp h2).1
  have g2 : (ah GEntry.row p1)[(p3 : Int).toNat]? = some [.s x1.fKey, .i .i64 x1.fValue.fKind, .s x1.fValue.fText, .i .i64 x1.fValue.fCount, .sl 2 (ah GPair.row x1.fValue.fPairs), .sl 1 (ah bY x1.fValue.fItems), .sl 2 (ah GScore.row x1.fValue.fScores), .i .i64 x1.fUntil] := cn _ h2
  refine az fun x2 h3 => ?_
  have g3 := rg_store_Check_k6v2 C k_vaC p0 p3 p1 p2 x1 _ rfl _ h3
  try simp only [ak] at g3
  refine aX (fun h4 => ?_) (fun h4 => ?_)
  focus
    rintro ⟨⟩
  rotate_left 1
  have g4 := rg_store_Check_k8v2 C p0 p1 p2 p3 x1 _ rfl (ck_store_Check_k8v2_v p0 p1 p2 p3 x1) (ck_store_Check_k8v2_t p0 p1 p2 p3 x1)
  try simp only [ak] at g4
  refine aX (fun h5 => ?_) (fun h5 => ?_)
  focus
    rintro ⟨⟩
  rotate_left 1
  rintro ⟨⟩
  all_goals (show cN _ _ _ (aH _ _ _ _ (Code.seq _ _) _) = _; simp (maxSteps := 4000000) only [*, hd_store_Check_0, ou_store_Check_0, n34a, n34A, n34k, n34K, n34mv, ↓RP, RB, ↓ai, be, bf, aJ, Mx.bl, opnd, Mx.bI, Nat.reduceBEq, bQ, Mx.fit, bP, co, cellsOf, aN, aA, ay, Mx.put, ofConst, ofCell, Mx.prune, killB, killBs, aK, putDst, aw, loadAt, bT, List.map, Nat.reduceAdd, cz, cB, bJ, aM, lowC, bj, kill, bG, setCells, Nat.reduceLeDiff, lowA, bn, ax, av, atO, cy, cx, bne, ↓ao, ↓am, ty3, ty25, ty61, ty117, ↓aa _ _ _ _ 4, ↓aa _ _ _ _ 5, ↓bg _ _ _ _ 6, ↓aa _ _ _ _ 7, ↓bg _ _ _ _ 8, ↓aa _ _ _ _ 9, ↓aa _ _ _ _ 10])
theorem r_store_Check (C : aj) (k_vaC : K_vaC C) (p0 : GStore) (r : Int) (hF : store_Check p0 = some r) : cR TT C.wide (evW TT C.wide n34 b34) n34 Try.f34.results.toList (aU Try.f34) [.agg [.v (.i .i64 p0.fNow), .v (.sl 8 (ah GEntry.row p0.fEntries))]] [] = some (.v (.i .i64 r), []) := by
  revert hF
  unfold store_Check
  have g1 := rg_store_Check_k1 C p0 _ rfl (ck_store_Check_k1_v p0) (ck_store_Check_k1_t p0)
  try simp only [ak] at g1
  refine aX (fun h1 => ?_) (fun h1 => ?_)
  focus
    rintro ⟨⟩
  rotate_left 1
  refine az ?_
  rintro (x1 | _) h2
  focus
    dsimp only
    have g2 := cH _ _ (sl_store_Check_0 C k_vaC p0 p0.fEntries (p0.fEntries.length : Int)) h2
    try simp only [hd_store_Check_0, ou_store_Check_0] at g2
    rintro ⟨⟩
  rotate_left 1
  dsimp only
  have g3 := cH _ _ (sl_store_Check_0 C k_vaC p0 p0.fEntries (p0.fEntries.length : Int)) h2
  try simp only [hd_store_Check_0, ou_store_Check_0] at g3
  rintro ⟨⟩
  all_goals (rw [bk]; show cC _ _ _ (aH _ _ _ _ (Code.seq _ _) _) = _; simp (maxSteps := 4000000) only [*, res34, n34a, n34A, n34k, n34K, n34ro, n34mv, ↓RP, RB, enter, be, bf, aJ, Mx.bl, opnd, Mx.bI, Nat.reduceBEq, bQ, Mx.fit, bP, co, toVs, cellsOf, toV, aN, aA, ay, Mx.put, ofConst, ofCell, Mx.prune, killB, aK, putDst, aw, aE, loadAt, bT, List.map, cu, aC, bu, bx, cA, bS, bJ, aM, lowC, ax, av, atO, ↓ao, ↓am, ty25, ty61, ty63, ↓aa _ _ _ _ 0, ↓bg _ _ _ _ 1, ↓aa _ _ _ _ 2, ↓aa _ _ _ _ 3, ↓aa _ _ _ _ 11])
def n122K : List (Nat × List Nat) := [(0, [0]), (1, [2])]
def n122 : cL where
  keep := ax n122K
  ro := fun _ => false
  mv := fun _ => false
  give := fun _ => false
  free := fun _ => []
theorem n122k (i : Nat) : n122.keep i = ax n122K i := rfl
theorem res122 : Try.f122.results.toList = [.tmp 2] := rfl
noncomputable def b122 : Code := aU Try.f122
theorem r_clCReply_fn1 (C : aj)  (p0 : ByteArray) (r : Bool) (hF : clCReply_fn1 p0 = some r) : cR TT C.wide (evW TT C.wide n122 b122) n122 Try.f122.results.toList (aU Try.f122) [.v (.s p0)] [] = some (.v (.b r), []) := by
  revert hF
  unfold clCReply_fn1
  rintro ⟨⟩
  all_goals (rw [bk]; show cC _ _ _ (aH _ _ _ _ (Code.seq _ _) _) = _; simp (maxSteps := 4000000) only [*, res122, n122k, n122K, ↓RP, RB, enter, be, bf, aJ, Mx.bl, opnd, Mx.bI, Nat.reduceBEq, bQ, Mx.fit, co, aN, aA, Mx.put, ofConst, ofCell, Mx.prune, killB, aK, putDst, aw, List.map, cz, cB, cu, aC, bu, bx, cA, bS, bJ, aM, lowC, ax, cy, cx, ↓ao, ↓aa, ty4, ty9])
def hd_sISclCReply_fn1_0 (p0 : List ByteArray) (p1 : Int) (s : Int) : St := ⟨[(0, .v (.sl 1 (ah bY p0))), (1, .clo 122 []), (7, .v (.i .i64 p1)), (8, .v (.i .i64 s))], []⟩
def ou_sISclCReply_fn1_0 (p0 : List ByteArray) (p1 : Int) (r : Int ⊕ Unit) : Option (Ex × St) := match r with
  | .inl r => some (.ret, ⟨[(4, .v (.i .i64 r))], []⟩)
  | .inr r => some (.normal, ⟨[], []⟩)
theorem sl_sISclCReply_fn1_0 (C : aj) (k_clCReply_fn1 : K_clCReply_fn1 C) (p0 : List ByteArray) (p1 : Int) (p2 : Int) (o : Int ⊕ (Int ⊕ Unit)) (hF : st_sISclCReply_fn1_0 p0 p1 p2 = some o) : evW TT C.wide n108 b108 0 (hd_sISclCReply_fn1_0 p0 p1 p2) = Sum.elim (fun s => evW TT C.wide n108 b108 0 (hd_sISclCReply_fn1_0 p0 p1 s)) (fun r => ou_sISclCReply_fn1_0 p0 p1 r) o := by
  rw [cG TT n108 fl108_0]
  revert hF
  unfold st_sISclCReply_fn1_0
  try dsimp only
  refine bF (fun h1 => ?_) (fun h1 => ?_)
  focus
    rintro ⟨⟩
  rotate_left 1
  refine az fun x1 h2 => ?_
  have g1 : decide (0 ≤ p2) = true := (cp h2).1
  have g2 : (ah bY p0)[(p2 : Int).toNat]? = some [.s x1] := cn _ h2
  have g3 := bK (k_clCReply_fn1 x1 _ (clCReply_fn1_t x1))
  try simp only [ak] at g3
  refine aX (fun h3 => ?_) (fun h3 => ?_)
  focus
    rintro ⟨⟩
  rotate_left 1
  rintro ⟨⟩
  all_goals (show cN _ _ _ (aH _ _ _ _ (Code.seq _ _) _) = _; simp (maxSteps := 4000000) only [*, hd_sISclCReply_fn1_0, ou_sISclCReply_fn1_0, n108a, n108A, n108k, n108K, n108mv, n108gv, ↓RP, RB, ↓ai, be, bf, aJ, Mx.bl, opnd, Mx.bI, Nat.reduceBEq, bQ, Mx.fit, co, aN, aA, ay, Mx.put, ofConst, ofCell, Mx.prune, killB, killBs, aK, putDst, aw, loadAt, bT, List.map, cz, cB, bJ, aM, bD, bj, kill, frz, cq, bw, argE, argsE, ax, av, atO, cy, cx, ↓ao, ↓am, ↓aa, ty3, ty9, ty50])
theorem r_sISclCReply_fn1 (C : aj) (k_clCReply_fn1 : K_clCReply_fn1 C) (p0 : List ByteArray) (r : Int) (hF : sISclCReply_fn1 p0 = some r) : cR TT C.wide (evW TT C.wide n108 b108) n108 Try.f108.results.toList (aU Try.f108) [.v (.sl 1 (ah bY p0)), .clo 122 []] [] = some (.v (.i .i64 r), []) := by
  revert hF
  unfold sISclCReply_fn1
  refine az ?_
  rintro (x1 | _) h1
  focus
    dsimp only
    have g1 := cH _ _ (sl_sISclCReply_fn1_0 C k_clCReply_fn1 p0 (p0.length : Int)) h1
    try simp only [hd_sISclCReply_fn1_0, ou_sISclCReply_fn1_0] at g1
    rintro ⟨⟩
  rotate_left 1
  dsimp only
  have g2 := cH _ _ (sl_sISclCReply_fn1_0 C k_clCReply_fn1 p0 (p0.length : Int)) h1
  try simp only [hd_sISclCReply_fn1_0, ou_sISclCReply_fn1_0] at g2
  rintro ⟨⟩
  all_goals (rw [bk]; show cC _ _ _ (aH _ _ _ _ (Code.seq _ _) _) = _; simp (maxSteps := 4000000) only [*, res108, n108k, n108K, ↓RP, RB, enter, be, bf, aJ, Mx.bl, opnd, Mx.bI, Nat.reduceBEq, bQ, Mx.fit, co, aN, aA, Mx.put, ofConst, ofCell, Mx.prune, killB, killBs, aK, putDst, aw, List.map, cu, aC, bu, bx, cA, bS, bJ, aM, lowC, Int.reduceNeg, ax, ↓ao, ↓aa, ty3, ty50])
theorem r_sCSclCReply_fn1 (C : aj) (k_sISclCReply_fn1 : K_sISclCReply_fn1 C) (p0 : List ByteArray) (r : Bool) (hF : sCSclCReply_fn1 p0 = some r) : cR TT C.wide (evW TT C.wide n63 b63) n63 Try.f63.results.toList (aU Try.f63) [.v (.sl 1 (ah bY p0)), .clo 122 []] [] = some (.v (.b r), []) := by
  revert hF
  unfold sCSclCReply_fn1
  refine az fun x1 h1 => ?_
  have g1 := bK (k_sISclCReply_fn1 p0 _ h1)
  try simp only [ak] at g1
  rintro ⟨⟩
  all_goals (rw [bk]; show cC _ _ _ (aH _ _ _ _ (Code.seq _ _) _) = _; simp (maxSteps := 4000000) only [*, res63, n63k, n63K, ↓RP, RB, enter, be, bf, aJ, Mx.bl, opnd, Mx.bI, Nat.reduceBEq, bQ, Mx.fit, co, aN, aA, Mx.put, ofConst, ofCell, Mx.prune, killB, killBs, aK, putDst, aw, List.map, cz, cB, aC, bu, bx, cA, bS, bJ, aM, lowC, forceAll, lend, lendA, aS, aB, bR, bare, bW, ax, newB, cw, cy, cx, ↓ao, ↓aa, ty4])
def n89K : List (Nat × List Nat) := [(0, [1]), (1, [1, 10]), (2, [2]), (3, [1, 20]), (4, [2]), (5, [1, 23]), (6, [2]), (7, [31]), (8, [2]), (9, [2])]
def n89A : List (Nat × List Nat × List Nat) := [(10, [], [1]), (20, [], [1]), (23, [], [1]), (31, [], [])]
def n89 : cL where
  keep := ax n89K
  ro := fun t => t == 1
  mv := fun _ => false
  give := fun _ => false
  free := fun _ => []
  alive := av n89A
theorem n89a (t : Nat) (x : Bool) (e : Env) (S : bH) : cK n89 t x ⟨e, S⟩ = atO (av n89A t x) e S := cF rfl t x e S
theorem n89k (i : Nat) : n89.keep i = ax n89K i := rfl
theorem n89ro (t : Nat) : n89.ro t = (t == 1) := rfl
theorem n89mv (t : Nat) : n89.mv t = (false) := rfl
theorem res89 : Try.f89.results.toList = [.tmp 2] := rfl
noncomputable def b89 : Code := aU Try.f89
theorem r_clCReply (C : aj) (k_sCSclCReply_fn1 : K_sCSclCReply_fn1 C) (p0 : GReply) (r : Int) (hF : clCReply p0 = some r) : cR TT C.wide (evW TT C.wide n89 b89) n89 Try.f89.results.toList (aU Try.f89) [.agg [.v (.i .i64 p0.fCode), .v (.s p0.fText), .v (.i .i64 p0.fN), .v (.sl 1 (ah bY p0.fList))]] [] = some (.v (.i .i64 r), []) := by
  revert hF
  unfold clCReply
  refine aX (fun h1 => ?_) (fun h1 => ?_)
  focus
    rintro ⟨⟩
  rotate_left 1
  unfold clCReply_c0
  refine aX (fun h2 => ?_) (fun h2 => ?_)
  focus
    rintro ⟨⟩
  rotate_left 1
  refine aX (fun h3 => ?_) (fun h3 => ?_)
  focus
    rintro ⟨⟩
  rotate_left 1
  refine aX (fun h4 => ?_) (fun h4 => ?_)
  focus
    rintro ⟨⟩
  rotate_left 1
  refine az fun x1 h5 => ?_
  have g1 := bK (k_sCSclCReply_fn1 p0.fList _ h5)
  try simp only [ak] at g1
  refine aX (fun h6 => ?_) (fun h6 => ?_)
  focus
    rintro ⟨⟩
  rotate_left 1
  refine aX (fun h7 => ?_) (fun h7 => ?_)
  focus
    rintro ⟨⟩
  rotate_left 1
  refine aX (fun h8 => ?_) (fun h8 => ?_)
  focus
    rintro ⟨⟩
  rotate_left 1
  rintro ⟨⟩
  all_goals (rw [bk]; show cC _ _ _ (aH _ _ _ _ (Code.seq _ _) _) = _; simp (maxSteps := 4000000) only [*, res89, n89a, n89A, n89k, n89K, n89ro, n89mv, ↓RP, RB, enter, aQ, aD, be, bf, aJ, Mx.bl, opnd, Mx.bI, Nat.reduceBEq, bQ, Mx.fit, bP, co, toVs, cellsOf, toV, aN, aA, ay, Mx.put, ofConst, ofCell, Mx.prune, killB, aK, putDst, aw, aE, loadAt, bT, List.map, cz, cB, cu, aC, bu, bx, cA, bS, bJ, aM, lowC, forceAll, lend, lendA, aS, aB, bR, bare, bW, Int.reduceNeg, ax, av, atO, newB, cw, cy, cx, ↓ao, ↓am, ↓aa, bh, ty3, ty9, ty25, ty50, ty128])
def n40K : List (Nat × List Nat) := [(0, [1]), (1, [1, 24]), (2, [2]), (3, [1, 26, 27, 28]), (4, [1, 26, 27, 28, 29]), (5, [1, 3, 4, 26, 27, 28]), (6, [1, 4, 26, 27, 28, 58]), (7, [2]), (8, [1, 26, 27, 28, 85]), (9, [2]), (10, [1, 26, 27, 28]), (11, [2])]
def n40A : List (Nat × List Nat × List Nat) := [(24, [], [1]), (29, [1, 26, 27, 28], []), (58, [], [1, 4, 26, 27, 28]), (85, [], [1, 26, 27, 28])]
def n40 : cL where
  keep := ax n40K
  ro := fun t => t == 1
  mv := fun _ => false
  give := fun _ => false
  free := fun i => match i with | 6 => [(4, 6), (5, 6), (4, 7), (5, 7), (14, 16), (15, 16), (14, 17), (15, 17), (14, 21), (15, 21), (16, 21), (17, 21), (18, 21), (19, 21), (20, 21), (14, 22), (15, 22), (16, 22), (17, 22), (18, 22), (19, 22), (20, 22)] | _ => []
  alive := av n40A
theorem n40a (t : Nat) (x : Bool) (e : Env) (S : bH) : cK n40 t x ⟨e, S⟩ = atO (av n40A t x) e S := cF rfl t x e S
theorem n40k (i : Nat) : n40.keep i = ax n40K i := rfl
theorem n40ro (t : Nat) : n40.ro t = (t == 1) := rfl
theorem n40mv (t : Nat) : n40.mv t = (false) := rfl
theorem n40f6 : n40.free 6 = [(4, 6), (5, 6), (4, 7), (5, 7), (14, 16), (15, 16), (14, 17), (15, 17), (14, 21), (15, 21), (16, 21), (17, 21), (18, 21), (19, 21), (20, 21), (14, 22), (15, 22), (16, 22), (17, 22), (18, 22), (19, 22), (20, 22)] := rfl
theorem res40 : Try.f40.results.toList = [.tmp 2] := rfl
noncomputable def b40 : Code := aU Try.f40
noncomputable def c40_0 : Code := (bE 0 (aU Try.f40)).getD .skip
theorem fl40_0 : bE 0 b40 = some c40_0 := rfl
theorem rg_clC_k1 (C : aj) (k_store_Check : K_store_Check C) (p0 : GMachine) (c : Code) (ho : cD 0 1 b40 = some c) (r : Bool) (hF : ck_clC_k1 p0 = some r) : @cV TT C.wide (evW TT C.wide n40 b40) n40 0 1 ⟨[(1, .rp [.i .i64 p0.fStore.fNow, .sl 8 (ah GEntry.row p0.fStore.fEntries), .i .i64 p0.fNext, .sl 7 (ah GClient.row p0.fClients)])], []⟩ ⟨c⟩ = some (.normal, ⟨[(1, .rp [.i .i64 p0.fStore.fNow, .sl 8 (ah GEntry.row p0.fStore.fEntries), .i .i64 p0.fNext, .sl 7 (ah GClient.row p0.fClients)]), (24, .v (.b r))], []⟩) := by
  have e := Option.some.inj (ho.symm.trans (rfl : cD 0 1 b40 = some _))
  subst e
  clear ho
  show aH _ _ _ _ _ _ = _
  revert hF
  unfold ck_clC_k1
  refine az fun x1 h1 => ?_
  have g1 := bK (k_store_Check p0.fStore _ h1)
  try simp only [ak] at g1
  refine bF (fun h2 => ?_) (fun h2 => ?_)
  focus
    rintro ⟨⟩
  rotate_left 1
  refine aX (fun h3 => ?_) (fun h3 => ?_)
  focus
    rintro ⟨⟩
  rotate_left 1
  refine aX (fun h4 => ?_) (fun h4 => ?_)
  focus
    rintro ⟨⟩
  rotate_left 1
  rintro ⟨⟩
  all_goals (simp (maxSteps := 4000000) only [*, n40k, n40K, n40mv, ↓RP, RB, aQ, aD, be, Mx.bl, opnd, Mx.bI, Nat.reduceBEq, bQ, aN, aA, ay, Mx.put, ofConst, ofCell, Mx.prune, killB, aK, putDst, aw, aE, loadAt, bT, List.map, Nat.reduceAdd, cz, cB, cu, forceAll, lend, lendA, aS, aB, bR, bare, bW, ax, newB, cw, cy, cx, bne, bh, ty3, ty63, ty71, ty73, ↓aa _ _ _ _ 1])
theorem rg_clC_k6v2 (C : aj)  (p0 : GMachine) (p1 : Int) (p2 : List GClient) (p3 : Int) (p4 : GClient) (c : Code) (ho : cD 0 6 b40 = some c) (r : Bool) (hF : ck_clC_k6v2 p0 p1 p2 p3 p4 = some r) : @cV TT C.wide (evW TT C.wide n40 b40) n40 0 6 ⟨[(1, .rp [.i .i64 p0.fStore.fNow, .sl 8 (ah GEntry.row p0.fStore.fEntries), .i .i64 p0.fNext, .sl 7 (ah GClient.row p0.fClients)]), (3, .v (.i .i64 p1)), (4, .ptr 0 0), (26, .v (.sl 7 (ah GClient.row p2))), (27, .v (.i .i64 p3)), (28, .v (.i .i64 p1))], [[.v (.i .i64 p4.fId), .v (.i .i64 p4.fSeq), .v (.i .i64 p4.fTime), .v (.i .i64 p4.fReply.fCode), .v (.s p4.fReply.fText), .v (.i .i64 p4.fReply.fN), .v (.sl 1 (ah bY p4.fReply.fList))]]⟩ ⟨c⟩ = some (.normal, ⟨[(1, .rp [.i .i64 p0.fStore.fNow, .sl 8 (ah GEntry.row p0.fStore.fEntries), .i .i64 p0.fNext, .sl 7 (ah GClient.row p0.fClients)]), (4, .ptr 0 0), (26, .v (.sl 7 (ah GClient.row p2))), (27, .v (.i .i64 p3)), (28, .v (.i .i64 p1)), (58, .v (.b r))], [[.v (.i .i64 p4.fId), .v (.i .i64 p4.fSeq), .v (.i .i64 p4.fTime), .v (.i .i64 p4.fReply.fCode), .v (.s p4.fReply.fText), .v (.i .i64 p4.fReply.fN), .v (.sl 1 (ah bY p4.fReply.fList))]]⟩) := by
  have e := Option.some.inj (ho.symm.trans (rfl : cD 0 6 b40 = some _))
  subst e
  clear ho
  show aH _ _ _ _ _ _ = _
  revert hF
  unfold ck_clC_k6v2
  refine aX (fun h1 => ?_) (fun h1 => ?_)
  focus
    rintro ⟨⟩
  rotate_left 1
  refine aX (fun h2 => ?_) (fun h2 => ?_)
  focus
    rintro ⟨⟩
  rotate_left 1
  refine bF (fun h3 => ?_) (fun h3 => ?_)
  focus
    rintro ⟨⟩
  rotate_left 1
  refine az fun x1 h4 => ?_
  have g1 : decide (0 ≤ (IntKind.i64.wrap (p1 - 1))) = true := (cp h4).1
  have g2 : (ah GClient.row p0.fClients)[((IntKind.i64.wrap (p1 - 1)) : Int).toNat]? = some [.i .i64 x1.fId, .i .i64 x1.fSeq, .i .i64 x1.fTime, .i .i64 x1.fReply.fCode, .s x1.fReply.fText, .i .i64 x1.fReply.fN, .sl 1 (ah bY x1.fReply.fList)] := cn _ h4
  rintro ⟨⟩
  all_goals (simp (maxSteps := 4000000) only [*, n40k, n40K, n40f6, n40mv, ↓RP, RB, aQ, aD, be, Mx.bl, opnd, Mx.bI, Nat.reduceBEq, bQ, aN, aA, ay, Mx.put, ofConst, ofCell, Mx.prune, killB, aK, putDst, aw, aE, loadAt, bT, List.map, cz, cB, bj, bG, Nat.reduceSub, cd, aI, aY, cm, bL, cv, ch, bo, aL, bm, Op.operands, ax, cy, cx, bh, br, ty3, ty71, ty73, ty130, ↓aq _ _ _ _ 6])
theorem rg_clC_k8v2 (C : aj) (k_clCReply : K_clCReply C) (p0 : GMachine) (p1 : List GClient) (p2 : Int) (p3 : Int) (p4 : GClient) (c : Code) (ho : cD 0 8 b40 = some c) (r : Bool) (hF : ck_clC_k8v2 p0 p1 p2 p3 p4 = some r) : @cV TT C.wide (evW TT C.wide n40 b40) n40 0 8 ⟨[(1, .rp [.i .i64 p0.fStore.fNow, .sl 8 (ah GEntry.row p0.fStore.fEntries), .i .i64 p0.fNext, .sl 7 (ah GClient.row p0.fClients)]), (4, .ptr 0 0), (26, .v (.sl 7 (ah GClient.row p1))), (27, .v (.i .i64 p2)), (28, .v (.i .i64 p3))], [[.v (.i .i64 p4.fId), .v (.i .i64 p4.fSeq), .v (.i .i64 p4.fTime), .v (.i .i64 p4.fReply.fCode), .v (.s p4.fReply.fText), .v (.i .i64 p4.fReply.fN), .v (.sl 1 (ah bY p4.fReply.fList))]]⟩ ⟨c⟩ = some (.normal, ⟨[(1, .rp [.i .i64 p0.fStore.fNow, .sl 8 (ah GEntry.row p0.fStore.fEntries), .i .i64 p0.fNext, .sl 7 (ah GClient.row p0.fClients)]), (26, .v (.sl 7 (ah GClient.row p1))), (27, .v (.i .i64 p2)), (28, .v (.i .i64 p3)), (85, .v (.b r))], [[.v (.i .i64 p4.fId), .v (.i .i64 p4.fSeq), .v (.i .i64 p4.fTime), .v (.i .i64 p4.fReply.fCode), .v (.s p4.fReply.fText), .v (.i .i64 p4.fReply.fN), .v (.sl 1 (ah bY p4.fReply.fList))]]⟩) := by
  have e := Option.some.inj (ho.symm.trans (rfl : cD 0 8 b40 = some _))
  subst e
  clear ho
  show aH _ _ _ _ _ _ = _
  revert hF
  unfold ck_clC_k8v2
  refine aX (fun h1 => ?_) (fun h1 => ?_)
  focus
    rintro ⟨⟩
  rotate_left 1
  refine aX (fun h2 => ?_) (fun h2 => ?_)
  focus
    rintro ⟨⟩
  rotate_left 1
  refine aX (fun h3 => ?_) (fun h3 => ?_)
  focus
    rintro ⟨⟩
  rotate_left 1
  refine aX (fun h4 => ?_) (fun h4 => ?_)
  focus
    rintro ⟨⟩
  rotate_left 1
  refine az fun x1 h5 => ?_
  have g1 := bK (k_clCReply p4.fReply _ h5)
  try simp only [ak] at g1
  rintro ⟨⟩
  all_goals (simp (maxSteps := 4000000) only [*, n40k, n40K, n40mv, ↓RP, RB, aQ, aD, be, Mx.bl, opnd, Mx.bI, Nat.reduceBEq, bQ, aN, aA, ay, Mx.put, ofConst, ofCell, Mx.prune, killB, aK, putDst, aw, aE, loadAt, bT, List.map, Nat.reduceAdd, cz, cB, forceAll, lend, lendA, aS, aB, bR, bare, bW, ax, newB, cw, cy, cx, bne, bh, aP, ty3, ty63, ty73, ty128, ty130, ↓aa _ _ _ _ 8])
def hd_clC_0 (p0 : GMachine) (p1 : List GClient) (p2 : Int) (s : Int) : St := ⟨[(1, .rp [.i .i64 p0.fStore.fNow, .sl 8 (ah GEntry.row p0.fStore.fEntries), .i .i64 p0.fNext, .sl 7 (ah GClient.row p0.fClients)]), (26, .v (.sl 7 (ah GClient.row p1))), (27, .v (.i .i64 p2)), (28, .v (.i .i64 s))], []⟩
def ou_clC_0 (p0 : GMachine) (p1 : List GClient) (p2 : Int) (r : GClient ⊕ Unit) : Option (Ex × St) := match r with
  | .inl r => some (.ret, ⟨[(2, .v (.i .i64 13))], [[.v (.i .i64 r.fId), .v (.i .i64 r.fSeq), .v (.i .i64 r.fTime), .v (.i .i64 r.fReply.fCode), .v (.s r.fReply.fText), .v (.i .i64 r.fReply.fN), .v (.sl 1 (ah bY r.fReply.fList))]]⟩)
  | .inr r => some (.normal, ⟨[], []⟩)
theorem sl_clC_0 (C : aj) (k_clCReply : K_clCReply C) (p0 : GMachine) (p1 : List GClient) (p2 : Int) (p3 : Int) (o : Int ⊕ (GClient ⊕ Unit)) (hF : st_clC_0 p0 p1 p2 p3 = some o) : evW TT C.wide n40 b40 0 (hd_clC_0 p0 p1 p2 p3) = Sum.elim (fun s => evW TT C.wide n40 b40 0 (hd_clC_0 p0 p1 p2 s)) (fun r => ou_clC_0 p0 p1 p2 r) o := by
  rw [cG TT n40 fl40_0]
  revert hF
  unfold st_clC_0
  try dsimp only
  refine bF (fun h1 => ?_) (fun h1 => ?_)
  focus
    rintro ⟨⟩
  rotate_left 1
  refine az fun x1 h2 => ?_
  have g1 : decide (0 ≤ p3) = true := (cp h2).1
  have g2 : (ah GClient.row p1)[(p3 : Int).toNat]? = some [.i .i64 x1.fId, .i .i64 x1.fSeq, .i .i64 x1.fTime, .i .i64 x1.fReply.fCode, .s x1.fReply.fText, .i .i64 x1.fReply.fN, .sl 1 (ah bY x1.fReply.fList)] := cn _ h2
  refine az fun x2 h3 => ?_
  have g3 := rg_clC_k6v2 C p0 p3 p1 p2 x1 _ rfl _ h3
  try simp only [ak] at g3
  refine aX (fun h4 => ?_) (fun h4 => ?_)
  focus
    rintro ⟨⟩
  rotate_left 1
  refine az fun x3 h5 => ?_
  have g4 := rg_clC_k8v2 C k_clCReply p0 p1 p2 p3 x1 _ rfl _ h5
  try simp only [ak] at g4
  refine aX (fun h6 => ?_) (fun h6 => ?_)
  focus
    rintro ⟨⟩
  rotate_left 1
  rintro ⟨⟩
  all_goals (show cN _ _ _ (aH _ _ _ _ (Code.seq _ _) _) = _; simp (maxSteps := 4000000) only [*, hd_clC_0, ou_clC_0, n40a, n40A, n40k, n40K, n40mv, ↓RP, RB, ↓ai, be, bf, aJ, Mx.bl, opnd, Mx.bI, Nat.reduceBEq, bQ, Mx.fit, bP, co, cellsOf, aN, aA, ay, Mx.put, ofConst, ofCell, Mx.prune, killB, killBs, aK, putDst, aw, loadAt, bT, List.map, Nat.reduceAdd, cz, cB, bJ, aM, lowC, bj, kill, bG, setCells, Nat.reduceLeDiff, lowA, bn, ax, av, atO, cy, cx, bne, ↓ao, ↓am, ty3, ty25, ty71, ty130, ↓aa _ _ _ _ 4, ↓aa _ _ _ _ 5, ↓bg _ _ _ _ 6, ↓aa _ _ _ _ 7, ↓bg _ _ _ _ 8, ↓aa _ _ _ _ 9, ↓aa _ _ _ _ 10])
theorem r_clC (C : aj) (k_store_Check : K_store_Check C) (k_clCReply : K_clCReply C) (p0 : GMachine) (r : Int) (hF : clC p0 = some r) : cR TT C.wide (evW TT C.wide n40 b40) n40 Try.f40.results.toList (aU Try.f40) [.agg [.v (.i .i64 p0.fStore.fNow), .v (.sl 8 (ah GEntry.row p0.fStore.fEntries)), .v (.i .i64 p0.fNext), .v (.sl 7 (ah GClient.row p0.fClients))]] [] = some (.v (.i .i64 r), []) := by
  revert hF
  unfold clC
  refine az fun x1 h1 => ?_
  have g1 := rg_clC_k1 C k_store_Check p0 _ rfl _ h1
  try simp only [ak] at g1
  refine aX (fun h2 => ?_) (fun h2 => ?_)
  focus
    rintro ⟨⟩
  rotate_left 1
  refine az ?_
  rintro (x2 | _) h3
  focus
    dsimp only
    have g2 := cH _ _ (sl_clC_0 C k_clCReply p0 p0.fClients (p0.fClients.length : Int)) h3
    try simp only [hd_clC_0, ou_clC_0] at g2
    rintro ⟨⟩
  rotate_left 1
  dsimp only
  have g3 := cH _ _ (sl_clC_0 C k_clCReply p0 p0.fClients (p0.fClients.length : Int)) h3
  try simp only [hd_clC_0, ou_clC_0] at g3
  rintro ⟨⟩
  all_goals (rw [bk]; show cC _ _ _ (aH _ _ _ _ (Code.seq _ _) _) = _; simp (maxSteps := 4000000) only [*, res40, n40a, n40A, n40k, n40K, n40ro, n40mv, ↓RP, RB, enter, be, bf, aJ, Mx.bl, opnd, Mx.bI, Nat.reduceBEq, bQ, Mx.fit, bP, co, toVs, cellsOf, toV, aN, aA, ay, Mx.put, ofConst, ofCell, Mx.prune, killB, aK, putDst, aw, aE, loadAt, bT, List.map, cu, aC, bu, bx, cA, bS, bJ, aM, lowC, ax, av, atO, ↓ao, ↓am, ty25, ty71, ty73, ↓aa _ _ _ _ 0, ↓bg _ _ _ _ 1, ↓aa _ _ _ _ 2, ↓aa _ _ _ _ 3, ↓aa _ _ _ _ 11])
def n94K : List (Nat × List Nat) := [(0, [0, 4]), (1, [0, 4, 5]), (2, [0, 4, 5, 10]), (3, [0, 4, 5]), (4, [0, 4, 5])]
def n94A : List (Nat × List Nat × List Nat) := [(10, [0, 4, 5], [])]
def n94 : cL where
  keep := ax n94K
  ro := fun _ => false
  mv := fun _ => false
  give := fun _ => false
  free := fun i => match i with | 4 => [(0, 1), (0, 2), (0, 3), (0, 4), (0, 5), (1, 5), (2, 5), (3, 5), (4, 5), (0, 6), (1, 6), (2, 6), (3, 6), (4, 6), (5, 6), (0, 7), (1, 7), (2, 7), (3, 7), (4, 7), (0, 8), (1, 8), (2, 8), (3, 8), (4, 8), (0, 9), (1, 9), (2, 9), (3, 9), (4, 9), (0, 10)] | _ => []
  alive := av n94A
theorem n94a (t : Nat) (x : Bool) (e : Env) (S : bH) : cK n94 t x ⟨e, S⟩ = atO (av n94A t x) e S := cF rfl t x e S
theorem n94k (i : Nat) : n94.keep i = ax n94K i := rfl
theorem n94mv (t : Nat) : n94.mv t = (false) := rfl
theorem n94f4 : n94.free 4 = [(0, 1), (0, 2), (0, 3), (0, 4), (0, 5), (1, 5), (2, 5), (3, 5), (4, 5), (0, 6), (1, 6), (2, 6), (3, 6), (4, 6), (5, 6), (0, 7), (1, 7), (2, 7), (3, 7), (4, 7), (0, 8), (1, 8), (2, 8), (3, 8), (4, 8), (0, 9), (1, 9), (2, 9), (3, 9), (4, 9), (0, 10)] := rfl
theorem res94 : Try.f94.results.toList = [] := rfl
noncomputable def b94 : Code := aU Try.f94
noncomputable def c94_0 : Code := (bE 0 (aU Try.f94)).getD .skip
theorem fl94_0 : bE 0 b94 = some c94_0 := rfl
def hd_wwnumber_0 (p0 : Int) (s : Int × Gwriter) : St := ⟨[(0, .ptr 0 0), (4, .v (.i .u64 p0)), (5, .v (.i .i64 s.1))], [[.own 1 (ah cE s.2.fb)]]⟩
def ou_wwnumber_0 (p0 : Int) (r : Gwriter) : Option (Ex × St) := some (.normal, ⟨[], [[.own 1 (ah cE r.fb)]]⟩)
theorem sl_wwnumber_0 (C : aj)  (p0 : Int) (s : Int × Gwriter) (o : (Int × Gwriter) ⊕ Gwriter) (hF : st_wwnumber_0 p0 s = some o) : evW TT C.wide n94 b94 0 (hd_wwnumber_0 p0 s) = Sum.elim (fun s => evW TT C.wide n94 b94 0 (hd_wwnumber_0 p0 s)) (fun r => ou_wwnumber_0 p0 r) o := by
  obtain ⟨p1, p2⟩ := s
  rw [cG TT n94 fl94_0]
  revert hF
  unfold st_wwnumber_0
  try dsimp only
  refine bF (fun h1 => ?_) (fun h1 => ?_)
  focus
    rintro ⟨⟩
  rotate_left 1
  refine aX (fun h2 => ?_) (fun _ => nofun)
  rintro ⟨⟩
  all_goals (show cN _ _ _ (aH _ _ _ _ (Code.seq _ _) _) = _; simp (maxSteps := 4000000) only [*, hd_wwnumber_0, ou_wwnumber_0, n94a, n94A, n94k, n94K, n94f4, n94mv, ↓RP, RB, ↓ab, be, bf, aJ, Mx.bl, opnd, Mx.bI, Nat.reduceBEq, bQ, Mx.fit, co, toVs, cellsOf, toV, aN, aA, Mx.put, ofConst, ofCell, Mx.prune, killB, aK, putDst, aw, aE, loadAt, List.map, Nat.reduceMul, cz, cB, aO, bJ, aM, bD, lowC, kill, spendLoc, spendOk, bG, setCells, takeParts, bv, aR, Nat.reduceSub, Nat.reduceLeDiff, bM, cd, au, aI, aY, cm, bL, cv, ch, bo, aL, bm, bp, bd, Op.operands, ax, av, atO, cy, cx, bne, ↓ao, ↓am, ↓aa, ↓aq, br, aF, bN, ty3, ty5, ty39, ty93, ty154])
theorem r_wwnumber (C : aj)  (p0 : Int) (p1 : Gwriter) (r : Gwriter) (hF : wwnumber p0 p1 = some r) : cR TT C.wide (evW TT C.wide n94 b94) n94 Try.f94.results.toList (aU Try.f94) [.ptr 0 0, .v (.i .i64 p0)] [[.own 1 (ah cE p1.fb)]] = some (.tup [], [[.own 1 (ah cE r.fb)]]) := by
  revert hF
  unfold wwnumber
  refine az ?_
  rintro x1 h1
  have g1 := cH _ _ (sl_wwnumber_0 C (IntKind.u64.wrap (IntKind.i64.wrap (p0 + 4611686018427387904)))) h1
  try simp only [hd_wwnumber_0, ou_wwnumber_0] at g1
  rintro ⟨⟩
  all_goals (rw [bk]; show cC _ _ _ (aH _ _ _ _ (Code.seq _ _) _) = _; simp (maxSteps := 4000000) only [*, res94, n94k, n94K, ↓RP, RB, enter, be, bf, aJ, Mx.bl, opnd, Mx.bI, Nat.reduceBEq, bQ, Mx.fit, co, aN, aA, Mx.put, ofConst, ofCell, Mx.prune, killB, aK, putDst, aw, List.map, cz, cB, aC, bu, cA, bJ, aM, lowC, frz, cq, bq, ax, cy, cx, ↓ao, ↓aa, ty3, ty154])
def n95K : List (Nat × List Nat) := [(0, [])]
def n95 : cL where
  keep := ax n95K
  ro := fun _ => false
  mv := fun _ => false
  give := fun _ => false
  free := fun _ => []
theorem n95k (i : Nat) : n95.keep i = ax n95K i := rfl
theorem n95mv (t : Nat) : n95.mv t = (false) := rfl
theorem res95 : Try.f95.results.toList = [] := rfl
noncomputable def b95 : Code := aU Try.f95
theorem r_wwsmall (C : aj)  (p0 : Int) (p1 : Gwriter) (r : Gwriter) (hF : wwsmall p0 p1 = some r) : cR TT C.wide (evW TT C.wide n95 b95) n95 Try.f95.results.toList (aU Try.f95) [.ptr 0 0, .v (.i .i64 p0)] [[.own 1 (ah cE p1.fb)]] = some (.tup [], [[.own 1 (ah cE r.fb)]]) := by
  revert hF
  unfold wwsmall
  refine aX (fun h1 => ?_) (fun _ => nofun)
  rintro ⟨⟩
  all_goals (rw [bk]; show cC _ _ _ (aH _ _ _ _ (Code.region _ _ _) _) = _; simp (maxSteps := 4000000) only [*, res95, n95k, n95K, n95mv, RB, enter, be, bf, aJ, Mx.bl, opnd, Mx.bI, Nat.reduceBEq, bQ, Mx.fit, co, toVs, cellsOf, toV, aN, aA, Mx.put, Mx.prune, killB, aK, putDst, aw, aE, loadAt, List.map, Nat.reduceMul, aO, aC, bu, cA, bJ, aM, bD, lowC, kill, spendLoc, spendOk, frz, cq, bG, setCells, takeParts, bv, aR, Nat.reduceLeDiff, bq, ax, bne, ↓aa, aF, ty3, ty5, ty39, ty93])
def n96K : List (Nat × List Nat) := [(0, [0, 1]), (1, [])]
def n96 : cL where
  keep := ax n96K
  ro := fun _ => false
  mv := fun _ => false
  give := fun _ => false
  free := fun _ => []
theorem n96k (i : Nat) : n96.keep i = ax n96K i := rfl
theorem n96mv (t : Nat) : n96.mv t = (false) := rfl
theorem n96gv (t : Nat) : n96.give t = (false) := rfl
theorem res96 : Try.f96.results.toList = [] := rfl
noncomputable def b96 : Code := aU Try.f96
theorem r_wwtext (C : aj) (k_wwsmall : K_wwsmall C) (p0 : ByteArray) (p1 : Gwriter) (r : Gwriter) (hF : wwtext p0 p1 = some r) : cR TT C.wide (evW TT C.wide n96 b96) n96 Try.f96.results.toList (aU Try.f96) [.ptr 0 0, .v (.s p0)] [[.own 1 (ah cE p1.fb)]] = some (.tup [], [[.own 1 (ah cE r.fb)]]) := by
  revert hF
  unfold wwtext
  refine az fun x1 h1 => ?_
  have g1 : C.wide 95 [.ptr 0 0, .v (.i .i64 (p0.size : Int))] [[.own 1 (ah cE p1.fb)]] = some (.tup [], [[.own 1 (ah cE x1.fb)]]) := cX [0] rfl rfl rfl rfl (k_wwsmall (p0.size : Int) p1 _ h1) rfl rfl
  refine aX (fun h2 => ?_) (fun _ => nofun)
  rintro ⟨⟩
  all_goals (rw [bk]; show cC _ _ _ (aH _ _ _ _ (Code.seq _ _) _) = _; simp (maxSteps := 4000000) only [*, res96, n96k, n96K, n96mv, n96gv, ↓RP, RB, enter, be, bf, aJ, Mx.bl, opnd, Mx.bI, Nat.reduceBEq, bQ, Mx.fit, co, cellsOf, aN, aA, Mx.put, Mx.prune, killB, aK, putDst, aw, ar, aE, loadAt, List.map, cu, aC, bu, cA, bJ, aM, bD, lowC, forceAll, kill, spendLoc, spendOk, lend, lendA, aS, aB, bR, bare, bW, frz, cq, bw, argE, argsE, bG, setCells, Nat.reduceLeDiff, bq, ax, newB, cw, bne, ↓ao, ↓aa, bB, aF, ty5, ty9, ty39, ty93, bB])
def n98K : List (Nat × List Nat) := [(0, [0, 1]), (1, [0, 1, 10, 11, 12]), (2, [0, 1, 10, 11, 12, 13]), (3, [0, 1, 5, 10, 11, 12]), (4, [0, 1, 10, 11, 12]), (5, [0, 1, 10, 11, 12])]
def n98A : List (Nat × List Nat × List Nat) := [(13, [0, 1, 10, 11, 12], [])]
def n98 : cL where
  keep := ax n98K
  ro := fun _ => false
  mv := fun _ => false
  give := fun _ => false
  free := fun _ => []
  alive := av n98A
theorem n98a (t : Nat) (x : Bool) (e : Env) (S : bH) : cK n98 t x ⟨e, S⟩ = atO (av n98A t x) e S := cF rfl t x e S
theorem n98k (i : Nat) : n98.keep i = ax n98K i := rfl
theorem n98mv (t : Nat) : n98.mv t = (false) := rfl
theorem n98gv (t : Nat) : n98.give t = (false) := rfl
theorem res98 : Try.f98.results.toList = [] := rfl
noncomputable def b98 : Code := aU Try.f98
noncomputable def c98_0 : Code := (bE 0 (aU Try.f98)).getD .skip
theorem fl98_0 : bE 0 b98 = some c98_0 := rfl
def hd_wwtexts_0 (p0 : List ByteArray) (p1 : Int) (s : Int × Gwriter) : St := ⟨[(0, .ptr 0 0), (1, .v (.sl 1 (ah bY p0))), (10, .v (.sl 1 (ah bY p0))), (11, .v (.i .i64 p1)), (12, .v (.i .i64 s.1))], [[.own 1 (ah cE s.2.fb)]]⟩
def ou_wwtexts_0 (p0 : List ByteArray) (p1 : Int) (r : Gwriter) : Option (Ex × St) := some (.normal, ⟨[], [[.own 1 (ah cE r.fb)]]⟩)
theorem sl_wwtexts_0 (C : aj) (k_wwtext : K_wwtext C) (p0 : List ByteArray) (p1 : Int) (s : Int × Gwriter) (o : (Int × Gwriter) ⊕ Gwriter) (hF : st_wwtexts_0 p0 p1 s = some o) : evW TT C.wide n98 b98 0 (hd_wwtexts_0 p0 p1 s) = Sum.elim (fun s => evW TT C.wide n98 b98 0 (hd_wwtexts_0 p0 p1 s)) (fun r => ou_wwtexts_0 p0 p1 r) o := by
  obtain ⟨p2, p3⟩ := s
  rw [cG TT n98 fl98_0]
  revert hF
  unfold st_wwtexts_0
  try dsimp only
  refine bF (fun h1 => ?_) (fun h1 => ?_)
  focus
    rintro ⟨⟩
  rotate_left 1
  refine az fun x1 h2 => ?_
  have g1 : decide (0 ≤ p2) = true := (cp h2).1
  have g2 : (ah bY p0)[(p2 : Int).toNat]? = some [.s x1] := cn _ h2
  refine az fun x2 h3 => ?_
  have g3 : C.wide 96 [.ptr 0 0, .v (.s x1)] [[.own 1 (ah cE p3.fb)]] = some (.tup [], [[.own 1 (ah cE x2.fb)]]) := cX [0] rfl rfl rfl rfl (k_wwtext x1 p3 _ h3) rfl rfl
  rintro ⟨⟩
  all_goals (show cN _ _ _ (aH _ _ _ _ (Code.seq _ _) _) = _; simp (maxSteps := 4000000) only [*, hd_wwtexts_0, ou_wwtexts_0, n98a, n98A, n98k, n98K, n98mv, n98gv, ↓RP, RB, ↓ai, be, bf, aJ, Mx.bl, opnd, Mx.bI, Nat.reduceBEq, bQ, Mx.fit, co, aN, aA, ay, Mx.put, ofConst, ofCell, Mx.prune, killB, aK, putDst, aw, ar, loadAt, bT, List.map, cz, cB, bJ, aM, bD, forceAll, bj, kill, lend, lendA, aS, aB, bR, bare, bW, frz, cq, bw, argE, argsE, ax, av, atO, newB, cw, cy, cx, ↓ao, ↓am, ↓aa, ty9, ty50])
theorem r_wwtexts (C : aj) (k_wwsmall : K_wwsmall C) (k_wwtext : K_wwtext C) (p0 : List ByteArray) (p1 : Gwriter) (r : Gwriter) (hF : wwtexts p0 p1 = some r) : cR TT C.wide (evW TT C.wide n98 b98) n98 Try.f98.results.toList (aU Try.f98) [.ptr 0 0, .v (.sl 1 (ah bY p0))] [[.own 1 (ah cE p1.fb)]] = some (.tup [], [[.own 1 (ah cE r.fb)]]) := by
  revert hF
  unfold wwtexts
  refine az fun x1 h1 => ?_
  have g1 : C.wide 95 [.ptr 0 0, .v (.i .i64 (p0.length : Int))] [[.own 1 (ah cE p1.fb)]] = some (.tup [], [[.own 1 (ah cE x1.fb)]]) := cX [0] rfl rfl rfl rfl (k_wwsmall (p0.length : Int) p1 _ h1) rfl rfl
  refine az ?_
  rintro x2 h2
  have g2 := cH _ _ (sl_wwtexts_0 C k_wwtext p0 (p0.length : Int)) h2
  try simp only [hd_wwtexts_0, ou_wwtexts_0] at g2
  rintro ⟨⟩
  all_goals (rw [bk]; show cC _ _ _ (aH _ _ _ _ (Code.seq _ _) _) = _; simp (maxSteps := 4000000) only [*, res98, n98k, n98K, n98gv, ↓RP, RB, enter, be, aJ, Mx.bl, opnd, Mx.bI, Nat.reduceBEq, bQ, aN, aA, Mx.put, ofConst, ofCell, Mx.prune, killB, aK, putDst, aw, ar, List.map, cu, aC, bu, cA, bJ, aM, bD, lowC, forceAll, kill, lend, lendA, aS, aB, bR, bare, bW, frz, cq, bw, argE, argsE, bq, ax, newB, cw, ↓ao, ↓aa, ty50])
def n97K : List (Nat × List Nat) := [(0, [0, 3]), (1, [0, 3]), (2, [0, 3]), (3, [0, 3]), (4, [0, 3]), (5, [0, 3, 26, 27, 28]), (6, [0, 3, 26, 27, 28, 29]), (7, [0, 3, 5, 26, 27, 28]), (8, [0, 3, 5, 26, 27, 28]), (9, [0, 3, 26, 27, 28]), (10, [0, 3, 26, 27, 28]), (11, [0, 3]), (12, [0, 3]), (13, [0, 51, 52, 53]), (14, [0, 51, 52, 53, 54]), (15, [0, 7, 51, 52, 53]), (16, [0, 7, 51, 52, 53]), (17, [0, 51, 52, 53]), (18, [0, 51, 52, 53])]
def n97A : List (Nat × List Nat × List Nat) := [(29, [0, 3, 26, 27, 28], [0, 3]), (54, [0, 51, 52, 53], [])]
def n97 : cL where
  keep := ax n97K
  ro := fun t => t == 3
  mv := fun _ => false
  give := fun _ => false
  free := fun _ => []
  alive := av n97A
theorem n97a (t : Nat) (x : Bool) (e : Env) (S : bH) : cK n97 t x ⟨e, S⟩ = atO (av n97A t x) e S := cF rfl t x e S
theorem n97k (i : Nat) : n97.keep i = ax n97K i := rfl
theorem n97ro (t : Nat) : n97.ro t = (t == 3) := rfl
theorem n97mv (t : Nat) : n97.mv t = (false) := rfl
theorem n97gv (t : Nat) : n97.give t = (false) := rfl
theorem res97 : Try.f97.results.toList = [] := rfl
noncomputable def b97 : Code := aU Try.f97
noncomputable def c97_0 : Code := (bE 0 (aU Try.f97)).getD .skip
theorem fl97_0 : bE 0 b97 = some c97_0 := rfl
noncomputable def c97_2 : Code := (bE 2 (aU Try.f97)).getD .skip
theorem fl97_2 : bE 2 b97 = some c97_2 := rfl
def hd_wwvalue_0 (p0 : GValue) (p1 : List GPair) (p2 : Int) (s : Int × Gwriter) : St := ⟨[(0, .ptr 0 0), (3, .rp [.i .i64 p0.fKind, .s p0.fText, .i .i64 p0.fCount, .sl 2 (ah GPair.row p0.fPairs), .sl 1 (ah bY p0.fItems), .sl 2 (ah GScore.row p0.fScores)]), (26, .v (.sl 2 (ah GPair.row p1))), (27, .v (.i .i64 p2)), (28, .v (.i .i64 s.1))], [[.own 1 (ah cE s.2.fb)]]⟩
def ou_wwvalue_0 (p0 : GValue) (p1 : List GPair) (p2 : Int) (r : Gwriter) : Option (Ex × St) := some (.normal, ⟨[(0, .ptr 0 0), (3, .rp [.i .i64 p0.fKind, .s p0.fText, .i .i64 p0.fCount, .sl 2 (ah GPair.row p0.fPairs), .sl 1 (ah bY p0.fItems), .sl 2 (ah GScore.row p0.fScores)])], [[.own 1 (ah cE r.fb)]]⟩)
theorem sl_wwvalue_0 (C : aj) (k_wwtext : K_wwtext C) (p0 : GValue) (p1 : List GPair) (p2 : Int) (s : Int × Gwriter) (o : (Int × Gwriter) ⊕ Gwriter) (hF : st_wwvalue_0 p0 p1 p2 s = some o) : evW TT C.wide n97 b97 0 (hd_wwvalue_0 p0 p1 p2 s) = Sum.elim (fun s => evW TT C.wide n97 b97 0 (hd_wwvalue_0 p0 p1 p2 s)) (fun r => ou_wwvalue_0 p0 p1 p2 r) o := by
  obtain ⟨p3, p4⟩ := s
  rw [cG TT n97 fl97_0]
  revert hF
  unfold st_wwvalue_0
  try dsimp only
  refine bF (fun h1 => ?_) (fun h1 => ?_)
  focus
    rintro ⟨⟩
  rotate_left 1
  refine az fun x1 h2 => ?_
  have g1 : decide (0 ≤ p3) = true := (cp h2).1
  have g2 : (ah GPair.row p1)[(p3 : Int).toNat]? = some [.s x1.fField, .s x1.fText] := cn _ h2
  refine az fun x2 h3 => ?_
  have g3 : C.wide 96 [.ptr 0 0, .v (.s x1.fField)] [[.own 1 (ah cE p4.fb)], [.v (.s x1.fField), .v (.s x1.fText)]] = some (.tup [], [[.own 1 (ah cE x2.fb)], [.v (.s x1.fField), .v (.s x1.fText)]]) := cX [0] rfl rfl rfl rfl (k_wwtext x1.fField p4 _ h3) rfl rfl
  refine az fun x3 h4 => ?_
  have g4 : C.wide 96 [.ptr 0 0, .v (.s x1.fText)] [[.own 1 (ah cE x2.fb)], [.v (.s x1.fField), .v (.s x1.fText)]] = some (.tup [], [[.own 1 (ah cE x3.fb)], [.v (.s x1.fField), .v (.s x1.fText)]]) := cX [0] rfl rfl rfl rfl (k_wwtext x1.fText x2 _ h4) rfl rfl
  rintro ⟨⟩
  all_goals (show cN _ _ _ (aH _ _ _ _ (Code.seq _ _) _) = _; simp (maxSteps := 4000000) only [*, hd_wwvalue_0, ou_wwvalue_0, n97a, n97A, n97k, n97K, n97mv, n97gv, ↓RP, RB, ↓ai, be, bf, aJ, Mx.bl, opnd, Mx.bI, Nat.reduceBEq, bQ, Mx.fit, bP, co, cellsOf, aN, aA, ay, Mx.put, ofConst, ofCell, Mx.prune, killB, killBs, aK, putDst, aw, ar, aE, loadAt, bT, List.map, Nat.reduceAdd, cz, cB, bJ, aM, bD, lowC, forceAll, bj, kill, lend, lendA, aS, aB, bR, bare, bW, frz, cq, bw, argE, argsE, bG, setCells, Nat.reduceLT, Nat.reduceLeDiff, lowA, bn, ax, av, atO, newB, cw, cy, cx, bne, ↓ao, ↓am, ↓aa, ty9, ty49, ty101])
def hd_wwvalue_2 (p0 : List GScore) (p1 : Int) (s : Int × Gwriter) : St := ⟨[(0, .ptr 0 0), (51, .v (.sl 2 (ah GScore.row p0))), (52, .v (.i .i64 p1)), (53, .v (.i .i64 s.1))], [[.own 1 (ah cE s.2.fb)]]⟩
def ou_wwvalue_2 (p0 : List GScore) (p1 : Int) (r : Gwriter) : Option (Ex × St) := some (.normal, ⟨[], [[.own 1 (ah cE r.fb)]]⟩)
theorem sl_wwvalue_2 (C : aj) (k_wwtext : K_wwtext C) (k_wwnumber : K_wwnumber C) (p0 : List GScore) (p1 : Int) (s : Int × Gwriter) (o : (Int × Gwriter) ⊕ Gwriter) (hF : st_wwvalue_2 p0 p1 s = some o) : evW TT C.wide n97 b97 2 (hd_wwvalue_2 p0 p1 s) = Sum.elim (fun s => evW TT C.wide n97 b97 2 (hd_wwvalue_2 p0 p1 s)) (fun r => ou_wwvalue_2 p0 p1 r) o := by
  obtain ⟨p2, p3⟩ := s
  rw [cG TT n97 fl97_2]
  revert hF
  unfold st_wwvalue_2
  try dsimp only
  refine bF (fun h1 => ?_) (fun h1 => ?_)
  focus
    rintro ⟨⟩
  rotate_left 1
  refine az fun x1 h2 => ?_
  have g1 : decide (0 ≤ p2) = true := (cp h2).1
  have g2 : (ah GScore.row p0)[(p2 : Int).toNat]? = some [.s x1.fMember, .i .i64 x1.fN] := cn _ h2
  refine az fun x2 h3 => ?_
  have g3 : C.wide 96 [.ptr 0 0, .v (.s x1.fMember)] [[.own 1 (ah cE p3.fb)], [.v (.s x1.fMember), .v (.i .i64 x1.fN)]] = some (.tup [], [[.own 1 (ah cE x2.fb)], [.v (.s x1.fMember), .v (.i .i64 x1.fN)]]) := cX [0] rfl rfl rfl rfl (k_wwtext x1.fMember p3 _ h3) rfl rfl
  refine az fun x3 h4 => ?_
  have g4 : C.wide 94 [.ptr 0 0, .v (.i .i64 x1.fN)] [[.own 1 (ah cE x2.fb)], [.v (.s x1.fMember), .v (.i .i64 x1.fN)]] = some (.tup [], [[.own 1 (ah cE x3.fb)], [.v (.s x1.fMember), .v (.i .i64 x1.fN)]]) := cX [0] rfl rfl rfl rfl (k_wwnumber x1.fN x2 _ h4) rfl rfl
  rintro ⟨⟩
  all_goals (show cN _ _ _ (aH _ _ _ _ (Code.seq _ _) _) = _; simp (maxSteps := 4000000) only [*, hd_wwvalue_2, ou_wwvalue_2, n97a, n97A, n97k, n97K, n97mv, n97gv, ↓RP, RB, ↓ai, be, bf, aJ, Mx.bl, opnd, Mx.bI, Nat.reduceBEq, bQ, Mx.fit, bP, co, cellsOf, aN, aA, ay, Mx.put, ofConst, ofCell, Mx.prune, killB, killBs, aK, putDst, aw, ar, aE, loadAt, bT, List.map, Nat.reduceAdd, cz, cB, bJ, aM, bD, lowC, forceAll, bj, kill, lend, lendA, aS, aB, bR, bare, bW, frz, cq, bw, argE, argsE, bG, setCells, Nat.reduceLT, Nat.reduceLeDiff, lowA, bn, ax, av, atO, newB, cw, cy, cx, bne, ↓ao, ↓am, ↓aa, ty3, ty9, ty51, ty105])
theorem r_wwvalue (C : aj) (k_wwsmall : K_wwsmall C) (k_wwtext : K_wwtext C) (k_wwnumber : K_wwnumber C) (k_wwtexts : K_wwtexts C) (p0 : GValue) (p1 : Gwriter) (r : Gwriter) (hF : wwvalue p0 p1 = some r) : cR TT C.wide (evW TT C.wide n97 b97) n97 Try.f97.results.toList (aU Try.f97) [.ptr 0 0, .agg [.v (.i .i64 p0.fKind), .v (.s p0.fText), .v (.i .i64 p0.fCount), .v (.sl 2 (ah GPair.row p0.fPairs)), .v (.sl 1 (ah bY p0.fItems)), .v (.sl 2 (ah GScore.row p0.fScores))]] [[.own 1 (ah cE p1.fb)]] = some (.tup [], [[.own 1 (ah cE r.fb)]]) := by
  revert hF
  unfold wwvalue
  refine az fun x1 h1 => ?_
  have g1 : C.wide 95 [.ptr 0 0, .v (.i .i64 p0.fKind)] [[.own 1 (ah cE p1.fb)]] = some (.tup [], [[.own 1 (ah cE x1.fb)]]) := cX [0] rfl rfl rfl rfl (k_wwsmall p0.fKind p1 _ h1) rfl rfl
  refine az fun x2 h2 => ?_
  have g2 : C.wide 96 [.ptr 0 0, .v (.s p0.fText)] [[.own 1 (ah cE x1.fb)]] = some (.tup [], [[.own 1 (ah cE x2.fb)]]) := cX [0] rfl rfl rfl rfl (k_wwtext p0.fText x1 _ h2) rfl rfl
  refine az fun x3 h3 => ?_
  have g3 : C.wide 94 [.ptr 0 0, .v (.i .i64 p0.fCount)] [[.own 1 (ah cE x2.fb)]] = some (.tup [], [[.own 1 (ah cE x3.fb)]]) := cX [0] rfl rfl rfl rfl (k_wwnumber p0.fCount x2 _ h3) rfl rfl
  refine az fun x4 h4 => ?_
  have g4 : C.wide 95 [.ptr 0 0, .v (.i .i64 (p0.fPairs.length : Int))] [[.own 1 (ah cE x3.fb)]] = some (.tup [], [[.own 1 (ah cE x4.fb)]]) := cX [0] rfl rfl rfl rfl (k_wwsmall (p0.fPairs.length : Int) x3 _ h4) rfl rfl
  refine az ?_
  rintro x5 h5
  unfold wwvalue_c0
  have g5 := cH _ _ (sl_wwvalue_0 C k_wwtext p0 p0.fPairs (p0.fPairs.length : Int)) h5
  try simp only [hd_wwvalue_0, ou_wwvalue_0] at g5
  refine az fun x6 h6 => ?_
  have g6 : C.wide 98 [.ptr 0 0, .v (.sl 1 (ah bY p0.fItems))] [[.own 1 (ah cE x5.fb)]] = some (.tup [], [[.own 1 (ah cE x6.fb)]]) := cX [0] rfl rfl rfl rfl (k_wwtexts p0.fItems x5 _ h6) rfl rfl
  refine az fun x7 h7 => ?_
  have g7 : C.wide 95 [.ptr 0 0, .v (.i .i64 (p0.fScores.length : Int))] [[.own 1 (ah cE x6.fb)]] = some (.tup [], [[.own 1 (ah cE x7.fb)]]) := cX [0] rfl rfl rfl rfl (k_wwsmall (p0.fScores.length : Int) x6 _ h7) rfl rfl
  refine az ?_
  rintro x8 h8
  have g8 := cH _ _ (sl_wwvalue_2 C k_wwtext k_wwnumber p0.fScores (p0.fScores.length : Int)) h8
  try simp only [hd_wwvalue_2, ou_wwvalue_2] at g8
  rintro ⟨⟩
  all_goals (rw [bk]; show cC _ _ _ (aH _ _ _ _ (Code.seq _ _) _) = _; simp (maxSteps := 4000000) only [*, res97, n97k, n97K, n97ro, n97mv, n97gv, ↓RP, RB, enter, be, bf, aJ, Mx.bl, opnd, Mx.bI, Nat.reduceBEq, bQ, Mx.fit, bP, co, toVs, cellsOf, toV, aN, aA, ay, Mx.put, ofConst, ofCell, Mx.prune, killB, aK, putDst, aw, ar, aE, loadAt, bT, List.map, cu, aC, bu, cA, bJ, aM, bD, lowC, forceAll, kill, lend, lendA, aS, aB, bR, bare, bW, frz, cq, bw, argE, argsE, bq, ax, newB, cw, ↓ao, ↓aa, ty3, ty9, ty49, ty50, ty51, ty53])
end Go.Proofs.Ytnjkmbogbfjffaa
