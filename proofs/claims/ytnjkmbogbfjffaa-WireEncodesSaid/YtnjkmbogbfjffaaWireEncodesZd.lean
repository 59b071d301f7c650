/- The code of these functions, run by the machine Mx, gives what the plain functions say, if their callees do (part 4). -/
import Derived.Test.YtnjkmbogbfjffaaWTy
import Derived.Test.YtnjkmbogbfjffaaWireEncodesD
set_option linter.unusedSimpArgs false
set_option linter.unusedVariables false
set_option linter.constructorNameAsVariable false
set_option linter.unnecessarySimpa false
set_option maxRecDepth 100000
set_option maxHeartbeats 40000000
namespace Go.Proofs.Ytnjkmbogbfjffaa
open Go Go.Mx Go.Proofs
def n123K : List (Nat × List Nat) := [(0, [1]), (1, [1, 3, 13, 18, 25, 41, 50, 55, 62, 78, 87]), (2, [1, 3, 13, 18, 25, 41, 50, 55, 62, 78, 87]), (3, [1, 3, 13, 18, 25, 41, 50, 55, 62, 78, 87]), (4, [1, 3, 4, 13, 18, 25, 41, 50, 55, 62, 78, 87]), (5, [1, 3, 4, 13, 18, 25, 30, 41, 50, 55, 62, 78, 87]), (6, [1, 3, 4, 13, 18, 25, 41, 50, 55, 62, 78, 87]), (7, [1, 3, 4, 13, 18, 25, 41, 50, 55, 62, 78, 87]), (8, [1, 3, 4, 13, 18, 25, 41, 50, 55, 62, 78, 87]), (9, [1, 3, 13, 18, 25, 41, 50, 55, 62, 78, 87]), (10, [1, 3, 13, 18, 25, 41, 50, 55, 62, 78, 87]), (11, [1, 3, 5, 13, 18, 25, 41, 50, 55, 62, 78, 87]), (12, [1, 3, 5, 13, 18, 25, 41, 50, 55, 62, 67, 78, 87]), (13, [1, 3, 5, 13, 18, 25, 41, 50, 55, 62, 78, 87]), (14, [1, 3, 5, 13, 18, 25, 41, 50, 55, 62, 78, 87]), (15, [1, 3, 5, 13, 18, 25, 41, 50, 55, 62, 78, 87]), (16, [2, 3, 13, 18, 25, 41, 50, 55, 62, 78, 87, 88])]
def n123A : List (Nat × List Nat × List Nat) := [(30, [1, 3, 4, 13, 18, 25, 41, 50, 55, 62, 78, 87], [1, 3, 13, 18, 25, 41, 50, 55, 62, 78, 87]), (67, [1, 3, 5, 13, 18, 25, 41, 50, 55, 62, 78, 87], [3, 13, 18, 25, 41, 50, 55, 62, 78, 87])]
def n123 : cL where
  keep := ax n123K
  ro := fun t => t == 1
  mv := fun _ => false
  give := fun _ => false
  free := fun i => match i with | 1 => [(0, 4), (1, 4), (2, 4), (3, 4), (0, 5), (1, 5), (2, 5), (3, 5), (0, 6), (1, 6), (2, 6), (3, 6)] | _ => []
  alive := av n123A
theorem n123a (t : Nat) (x : Bool) (e : Env) (S : bH) : cK n123 t x ⟨e, S⟩ = atO (av n123A t x) e S := cF rfl t x e S
theorem n123k (i : Nat) : n123.keep i = ax n123K i := rfl
theorem n123ro (t : Nat) : n123.ro t = (t == 1) := rfl
theorem n123mv (t : Nat) : n123.mv t = (false) := rfl
theorem n123f1 : n123.free 1 = [(0, 4), (1, 4), (2, 4), (3, 4), (0, 5), (1, 5), (2, 5), (3, 5), (0, 6), (1, 6), (2, 6), (3, 6)] := rfl
theorem res123 : Try.f123.results.toList = [.tmp 2] := rfl
noncomputable def b123 : Code := aU Try.f123
noncomputable def c123_0 : Code := (bE 0 (aU Try.f123)).getD .skip
theorem fl123_0 : bE 0 b123 = some c123_0 := rfl
noncomputable def c123_2 : Code := (bE 2 (aU Try.f123)).getD .skip
theorem fl123_2 : bE 2 b123 = some c123_2 := rfl
def hd_rrvalueBytes_0 (p0 : GValue) (s : (List Int) × Int) : St := ⟨[(1, .rp [.i .i64 p0.fKind, .s p0.fText, .i .i64 p0.fCount, .sl 2 (ah GPair.row p0.fPairs), .sl 1 (ah bY p0.fItems), .sl 2 (ah GScore.row p0.fScores)]), (3, .own 1 (ah cE s.1)), (4, .v (.i .i64 s.2)), (13, .bad), (18, .bad), (25, .bad), (41, .bad), (50, .bad), (55, .bad), (62, .bad), (78, .bad), (87, .bad)], []⟩
def ou_rrvalueBytes_0 (p0 : GValue) (r : (List Int)) : Option (Ex × St) := some (.normal, ⟨[(1, .rp [.i .i64 p0.fKind, .s p0.fText, .i .i64 p0.fCount, .sl 2 (ah GPair.row p0.fPairs), .sl 1 (ah bY p0.fItems), .sl 2 (ah GScore.row p0.fScores)]), (3, .own 1 (ah cE r)), (13, .bad), (18, .bad), (25, .bad), (41, .bad), (50, .bad), (55, .bad), (62, .bad), (78, .bad), (87, .bad)], []⟩)
theorem sl_rrvalueBytes_0 (C : aj) (k_rrtextBytes : K_rrtextBytes C) (k_rrjoined : K_rrjoined C) (p0 : GValue) (s : (List Int) × Int) (o : ((List Int) × Int) ⊕ (List Int)) (hF : st_rrvalueBytes_0 p0 s = some o) : evW TT C.wide n123 b123 0 (hd_rrvalueBytes_0 p0 s) = Sum.elim (fun s => evW TT C.wide n123 b123 0 (hd_rrvalueBytes_0 p0 s)) (fun r => ou_rrvalueBytes_0 p0 r) o := by
  obtain ⟨p1, p2⟩ := s
  rw [cG TT n123 fl123_0]
  revert hF
  unfold st_rrvalueBytes_0
  try dsimp only
  refine bF (fun h1 => ?_) (fun h1 => ?_)
  focus
    rintro ⟨⟩
  rotate_left 1
  refine az fun x1 h2 => ?_
  have g1 : decide (0 ≤ p2) = true := (cp h2).1
  have g2 : (ah GPair.row p0.fPairs)[(p2 : Int).toNat]? = some [.s x1.fField, .s x1.fText] := cn _ h2
  refine az fun x2 h3 => ?_
  have g3 := bK (k_rrtextBytes x1.fField _ h3)
  try simp only [ak] at g3
  refine az fun x3 h4 => ?_
  have g4 := bK (k_rrjoined p1 x2 _ h4)
  try simp only [ak] at g4
  refine az fun x4 h5 => ?_
  have g5 := bK (k_rrtextBytes x1.fText _ h5)
  try simp only [ak] at g5
  refine az fun x5 h6 => ?_
  have g6 := bK (k_rrjoined x3 x4 _ h6)
  try simp only [ak] at g6
  rintro ⟨⟩
  all_goals (show cN _ _ _ (aH _ _ _ _ (Code.seq _ _) _) = _; simp (maxSteps := 4000000) only [*, hd_rrvalueBytes_0, ou_rrvalueBytes_0, n123a, n123A, n123k, n123K, n123mv, ↓RP, RB, ↓ai, be, bf, aJ, Mx.bl, opnd, Mx.bI, Nat.reduceBEq, bQ, Mx.fit, co, aN, aA, ay, Mx.put, ofConst, ofCell, Mx.prune, killB, aK, putDst, aw, aE, loadAt, bT, List.map, cz, cB, cu, forceAll, bj, kill, bO, lend, lendA, aS, aB, bare, bW, ax, av, atO, newB, cw, cy, cx, ↓ao, ↓am, ↓aa, ty3, ty9, ty39, ty49, ty53, ty101])
def hd_rrvalueBytes_2 (p0 : GValue) (s : (List Int) × Int) : St := ⟨[(1, .rp [.i .i64 p0.fKind, .s p0.fText, .i .i64 p0.fCount, .sl 2 (ah GPair.row p0.fPairs), .sl 1 (ah bY p0.fItems), .sl 2 (ah GScore.row p0.fScores)]), (3, .own 1 (ah cE s.1)), (5, .v (.i .i64 s.2)), (13, .bad), (18, .bad), (25, .bad), (41, .bad), (50, .bad), (55, .bad), (62, .bad), (78, .bad), (87, .bad)], []⟩
def ou_rrvalueBytes_2 (p0 : GValue) (r : (List Int)) : Option (Ex × St) := some (.normal, ⟨[(3, .own 1 (ah cE r)), (13, .bad), (18, .bad), (25, .bad), (41, .bad), (50, .bad), (55, .bad), (62, .bad), (78, .bad), (87, .bad)], []⟩)
theorem sl_rrvalueBytes_2 (C : aj) (k_rrtextBytes : K_rrtextBytes C) (k_rrjoined : K_rrjoined C) (k_rreight : K_rreight C) (p0 : GValue) (s : (List Int) × Int) (o : ((List Int) × Int) ⊕ (List Int)) (hF : st_rrvalueBytes_2 p0 s = some o) : evW TT C.wide n123 b123 2 (hd_rrvalueBytes_2 p0 s) = Sum.elim (fun s => evW TT C.wide n123 b123 2 (hd_rrvalueBytes_2 p0 s)) (fun r => ou_rrvalueBytes_2 p0 r) o := by
  obtain ⟨p1, p2⟩ := s
  rw [cG TT n123 fl123_2]
  revert hF
  unfold st_rrvalueBytes_2
  try dsimp only
  refine bF (fun h1 => ?_) (fun h1 => ?_)
  focus
    rintro ⟨⟩
  rotate_left 1
  refine az fun x1 h2 => ?_
  have g1 : decide (0 ≤ p2) = true := (cp h2).1
  have g2 : (ah GScore.row p0.fScores)[(p2 : Int).toNat]? = some [.s x1.fMember, .i .i64 x1.fN] := cn _ h2
  refine az fun x2 h3 => ?_
  have g3 := bK (k_rrtextBytes x1.fMember _ h3)
  try simp only [ak] at g3
  refine az fun x3 h4 => ?_
  have g4 := bK (k_rrjoined p1 x2 _ h4)
  try simp only [ak] at g4
  refine az fun x4 h5 => ?_
  have g5 := bK (k_rreight x1.fN _ h5)
  try simp only [ak] at g5
  refine az fun x5 h6 => ?_
  have g6 := bK (k_rrjoined x3 x4 _ h6)
  try simp only [ak] at g6
  rintro ⟨⟩
  all_goals (show cN _ _ _ (aH _ _ _ _ (Code.seq _ _) _) = _; simp (maxSteps := 4000000) only [*, hd_rrvalueBytes_2, ou_rrvalueBytes_2, n123a, n123A, n123k, n123K, n123mv, ↓RP, RB, ↓ai, be, bf, aJ, Mx.bl, opnd, Mx.bI, Nat.reduceBEq, bQ, Mx.fit, co, aN, aA, ay, Mx.put, ofConst, ofCell, Mx.prune, killB, aK, putDst, aw, aE, loadAt, bT, List.map, cz, cB, cu, forceAll, bj, kill, bO, lend, lendA, aS, aB, bare, bW, ax, av, atO, newB, cw, cy, cx, ↓ao, ↓am, ↓aa, ty3, ty9, ty39, ty51, ty53, ty105])
theorem r_rrvalueBytes (C : aj) (k_rrtextBytes : K_rrtextBytes C) (k_rreight : K_rreight C) (k_rrjoined : K_rrjoined C) (k_rrlistBytes : K_rrlistBytes C) (p0 : GValue) (r : (List Int)) (hF : rrvalueBytes p0 = some r) : cR TT C.wide (evW TT C.wide n123 b123) n123 Try.f123.results.toList (aU Try.f123) [.agg [.v (.i .i64 p0.fKind), .v (.s p0.fText), .v (.i .i64 p0.fCount), .v (.sl 2 (ah GPair.row p0.fPairs)), .v (.sl 1 (ah bY p0.fItems)), .v (.sl 2 (ah GScore.row p0.fScores))]] [] = some (.own 1 (ah cE r), []) := by
  revert hF
  unfold rrvalueBytes
  refine az fun x1 h1 => ?_
  have g1 := bK (k_rrtextBytes p0.fText _ h1)
  try simp only [ak] at g1
  refine aX (fun h2 => ?_) (fun _ => nofun)
  refine az fun x2 h3 => ?_
  have g2 := bK (k_rreight p0.fCount _ h3)
  try simp only [ak] at g2
  refine az fun x3 h4 => ?_
  have g3 := bK (k_rrjoined ((IntKind.u8.wrap p0.fKind) :: x1) x2 _ h4)
  try simp only [ak] at g3
  refine aX (fun h5 => ?_) (fun _ => nofun)
  refine az ?_
  rintro x4 h6
  unfold rrvalueBytes_c0
  have g4 := cH _ _ (sl_rrvalueBytes_0 C k_rrtextBytes k_rrjoined p0) h6
  try simp only [hd_rrvalueBytes_0, ou_rrvalueBytes_0] at g4
  refine az fun x5 h7 => ?_
  have g5 := bK (k_rrlistBytes p0.fItems _ h7)
  try simp only [ak] at g5
  refine az fun x6 h8 => ?_
  have g6 := bK (k_rrjoined x4 x5 _ h8)
  try simp only [ak] at g6
  refine aX (fun h9 => ?_) (fun _ => nofun)
  refine az ?_
  rintro x7 h10
  have g7 := cH _ _ (sl_rrvalueBytes_2 C k_rrtextBytes k_rrjoined k_rreight p0) h10
  try simp only [hd_rrvalueBytes_2, ou_rrvalueBytes_2] at g7
  rintro ⟨⟩
  all_goals (rw [bk]; show cC _ _ _ (aH _ _ _ _ (Code.seq _ _) _) = _; simp (maxSteps := 4000000) only [*, res123, n123k, n123K, n123f1, n123ro, n123mv, ↓RP, RB, enter, be, bf, aJ, Mx.bl, opnd, Mx.bI, Nat.reduceBEq, bQ, Mx.fit, bP, co, toVs, cellsOf, toV, aN, aA, ay, Mx.put, ofConst, ofCell, Mx.prune, killB, aK, putDst, aw, aE, loadAt, bT, List.map, Nat.reduceMul, cu, aO, aC, bu, bx, cA, bS, bJ, aM, bD, lowC, forceAll, kill, spendLoc, spendOk, bO, ct, lend, lendA, aS, aB, bare, bW, bG, takeParts, bv, aR, Nat.reduceLeDiff, bM, cd, au, aI, aY, cm, bL, cv, ch, bo, aL, bm, bp, bd, Op.operands, ax, newB, cw, bne, ↓ao, ↓aa, ↓aq, br, aF, bN, Call.operands, ty3, ty5, ty9, ty39, ty49, ty50, ty51, ty53])
def n99K : List (Nat × List Nat) := [(0, [1]), (1, [1, 3, 18, 37, 42, 47, 52, 59, 76, 81, 86, 93, 99, 105, 111]), (2, [1, 3, 4, 18, 37, 42, 47, 52, 59, 76, 81, 86, 93, 99, 105, 111]), (3, [1, 3, 4, 18, 24, 37, 42, 47, 52, 59, 76, 81, 86, 93, 99, 105, 111]), (4, [1, 3, 4, 18, 37, 42, 47, 52, 59, 76, 81, 86, 93, 99, 105, 111]), (5, [1, 3, 4, 5, 18, 37, 42, 47, 52, 59, 76, 81, 86, 93, 99, 105, 111]), (6, [1, 3, 4, 5, 18, 37, 42, 47, 52, 59, 76, 81, 86, 93, 99, 105, 111]), (7, [1, 3, 4, 5, 18, 37, 42, 47, 52, 59, 76, 81, 86, 93, 99, 105, 111]), (8, [1, 3, 4, 18, 37, 42, 47, 52, 59, 76, 81, 86, 93, 99, 105, 111]), (9, [1, 3, 18, 37, 42, 47, 52, 59, 76, 81, 86, 93, 99, 105, 111]), (10, [1, 3, 18, 37, 42, 47, 52, 59, 76, 81, 86, 93, 99, 105, 111]), (11, [1, 3, 6, 18, 37, 42, 47, 52, 59, 76, 81, 86, 93, 99, 105, 111]), (12, [1, 3, 6, 18, 37, 42, 47, 52, 59, 64, 76, 81, 86, 93, 99, 105, 111]), (13, [1, 3, 6, 18, 37, 42, 47, 52, 59, 76, 81, 86, 93, 99, 105, 111]), (14, [1, 3, 6, 7, 18, 37, 42, 47, 52, 59, 76, 81, 86, 93, 99, 105, 111]), (15, [1, 3, 6, 7, 18, 37, 42, 47, 52, 59, 76, 81, 86, 93, 99, 105, 111]), (16, [1, 3, 6, 7, 18, 37, 42, 47, 52, 59, 76, 81, 86, 93, 99, 105, 111]), (17, [1, 3, 6, 7, 18, 37, 42, 47, 52, 59, 76, 81, 86, 93, 99, 105, 111]), (18, [1, 3, 6, 7, 18, 37, 42, 47, 52, 59, 76, 81, 86, 93, 99, 105, 111]), (19, [1, 3, 6, 7, 18, 37, 42, 47, 52, 59, 76, 81, 86, 93, 99, 105, 111]), (20, [1, 3, 6, 7, 18, 37, 42, 47, 52, 59, 76, 81, 86, 93, 99, 105, 111]), (21, [1, 3, 6, 18, 37, 42, 47, 52, 59, 76, 81, 86, 93, 99, 105, 111]), (22, [2, 3, 18, 37, 42, 47, 52, 59, 76, 81, 86, 93, 99, 105, 111, 112])]
def n99A : List (Nat × List Nat × List Nat) := [(24, [1, 3, 4, 18, 37, 42, 47, 52, 59, 76, 81, 86, 93, 99, 105, 111], [1, 3, 18, 37, 42, 47, 52, 59, 76, 81, 86, 93, 99, 105, 111]), (64, [1, 3, 6, 18, 37, 42, 47, 52, 59, 76, 81, 86, 93, 99, 105, 111], [3, 18, 37, 42, 47, 52, 59, 76, 81, 86, 93, 99, 105, 111])]
def n99 : cL where
  keep := ax n99K
  ro := fun t => t == 1
  mv := fun _ => false
  give := fun _ => false
  free := fun i => match i with | 1 => [(0, 4), (1, 4), (2, 4), (3, 4), (0, 5), (1, 5), (2, 5), (3, 5), (0, 6), (1, 6), (2, 6), (3, 6), (0, 7), (1, 7), (2, 7), (3, 7), (0, 8), (1, 8), (2, 8), (3, 8), (0, 9), (1, 9), (2, 9), (3, 9)] | _ => []
  alive := av n99A
theorem n99a (t : Nat) (x : Bool) (e : Env) (S : bH) : cK n99 t x ⟨e, S⟩ = atO (av n99A t x) e S := cF rfl t x e S
theorem n99k (i : Nat) : n99.keep i = ax n99K i := rfl
theorem n99ro (t : Nat) : n99.ro t = (t == 1) := rfl
theorem n99mv (t : Nat) : n99.mv t = (false) := rfl
theorem n99f1 : n99.free 1 = [(0, 4), (1, 4), (2, 4), (3, 4), (0, 5), (1, 5), (2, 5), (3, 5), (0, 6), (1, 6), (2, 6), (3, 6), (0, 7), (1, 7), (2, 7), (3, 7), (0, 8), (1, 8), (2, 8), (3, 8), (0, 9), (1, 9), (2, 9), (3, 9)] := rfl
theorem res99 : Try.f99.results.toList = [.tmp 2] := rfl
noncomputable def b99 : Code := aU Try.f99
noncomputable def c99_0 : Code := (bE 0 (aU Try.f99)).getD .skip
theorem fl99_0 : bE 0 b99 = some c99_0 := rfl
noncomputable def c99_2 : Code := (bE 2 (aU Try.f99)).getD .skip
theorem fl99_2 : bE 2 b99 = some c99_2 := rfl
def hd_rrmachineBytes_0 (p0 : GMachine) (s : (List Int) × Int) : St := ⟨[(1, .rp [.i .i64 p0.fStore.fNow, .sl 8 (ah GEntry.row p0.fStore.fEntries), .i .i64 p0.fNext, .sl 7 (ah GClient.row p0.fClients)]), (3, .own 1 (ah cE s.1)), (4, .v (.i .i64 s.2)), (18, .bad), (37, .bad), (42, .bad), (47, .bad), (52, .bad), (59, .bad), (76, .bad), (81, .bad), (86, .bad), (93, .bad), (99, .bad), (105, .bad), (111, .bad)], []⟩
def ou_rrmachineBytes_0 (p0 : GMachine) (r : (List Int)) : Option (Ex × St) := some (.normal, ⟨[(1, .rp [.i .i64 p0.fStore.fNow, .sl 8 (ah GEntry.row p0.fStore.fEntries), .i .i64 p0.fNext, .sl 7 (ah GClient.row p0.fClients)]), (3, .own 1 (ah cE r)), (18, .bad), (37, .bad), (42, .bad), (47, .bad), (52, .bad), (59, .bad), (76, .bad), (81, .bad), (86, .bad), (93, .bad), (99, .bad), (105, .bad), (111, .bad)], []⟩)
theorem sl_rrmachineBytes_0 (C : aj) (k_rrtextBytes : K_rrtextBytes C) (k_rrjoined : K_rrjoined C) (k_rrvalueBytes : K_rrvalueBytes C) (k_rreight : K_rreight C) (p0 : GMachine) (s : (List Int) × Int) (o : ((List Int) × Int) ⊕ (List Int)) (hF : st_rrmachineBytes_0 p0 s = some o) : evW TT C.wide n99 b99 0 (hd_rrmachineBytes_0 p0 s) = Sum.elim (fun s => evW TT C.wide n99 b99 0 (hd_rrmachineBytes_0 p0 s)) (fun r => ou_rrmachineBytes_0 p0 r) o := by
  obtain ⟨p1, p2⟩ := s
  rw [cG TT n99 fl99_0]
  revert hF
  unfold st_rrmachineBytes_0
  try dsimp only
  refine bF (fun h1 => ?_) (fun h1 => ?_)
  focus
    rintro ⟨⟩
  rotate_left 1
  unfold st_rrmachineBytes_0_c0
  refine az fun x1 h2 => ?_
  have g1 : decide (0 ≤ p2) = true := (cp h2).1
  have g2 : (ah GEntry.row p0.fStore.fEntries)[(p2 : Int).toNat]? = some [.s x1.fKey, .i .i64 x1.fValue.fKind, .s x1.fValue.fText, .i .i64 x1.fValue.fCount, .sl 2 (ah GPair.row x1.fValue.fPairs), .sl 1 (ah bY x1.fValue.fItems), .sl 2 (ah GScore.row x1.fValue.fScores), .i .i64 x1.fUntil] := cn _ h2
  refine az fun x2 h3 => ?_
  have g3 := bK (k_rrtextBytes x1.fKey _ h3)
  try simp only [ak] at g3
  refine az fun x3 h4 => ?_
  have g4 := bK (k_rrjoined p1 x2 _ h4)
  try simp only [ak] at g4
  refine az fun x4 h5 => ?_
  have g5 := bK (k_rrvalueBytes x1.fValue _ h5)
  try simp only [ak] at g5
  refine az fun x5 h6 => ?_
  have g6 := bK (k_rrjoined x3 x4 _ h6)
  try simp only [ak] at g6
  refine az fun x6 h7 => ?_
  have g7 := bK (k_rreight x1.fUntil _ h7)
  try simp only [ak] at g7
  refine az fun x7 h8 => ?_
  have g8 := bK (k_rrjoined x5 x6 _ h8)
  try simp only [ak] at g8
  rintro ⟨⟩
  all_goals (show cN _ _ _ (aH _ _ _ _ (Code.seq _ _) _) = _; simp (maxSteps := 4000000) only [*, hd_rrmachineBytes_0, ou_rrmachineBytes_0, n99a, n99A, n99k, n99K, n99mv, ↓RP, RB, ↓ai, be, bf, aJ, Mx.bl, opnd, Mx.bI, Nat.reduceBEq, bQ, Mx.fit, bP, co, cellsOf, aN, aA, ay, Mx.put, ofConst, ofCell, Mx.prune, killB, killBs, aK, putDst, aw, aE, loadAt, bT, List.map, Nat.reduceAdd, cz, cB, cu, bJ, aM, lowC, forceAll, bj, kill, bO, lend, lendA, aS, aB, bare, bW, bG, setCells, Nat.reduceLeDiff, lowA, bn, ax, av, atO, newB, cw, cy, cx, bne, ↓ao, ↓am, ↓aa, aP, ty3, ty9, ty39, ty53, ty61, ty63, ty73, ty117])
def hd_rrmachineBytes_2 (p0 : GMachine) (s : (List Int) × Int) : St := ⟨[(1, .rp [.i .i64 p0.fStore.fNow, .sl 8 (ah GEntry.row p0.fStore.fEntries), .i .i64 p0.fNext, .sl 7 (ah GClient.row p0.fClients)]), (3, .own 1 (ah cE s.1)), (6, .v (.i .i64 s.2)), (18, .bad), (37, .bad), (42, .bad), (47, .bad), (52, .bad), (59, .bad), (76, .bad), (81, .bad), (86, .bad), (93, .bad), (99, .bad), (105, .bad), (111, .bad)], []⟩
def ou_rrmachineBytes_2 (p0 : GMachine) (r : (List Int)) : Option (Ex × St) := some (.normal, ⟨[(3, .own 1 (ah cE r)), (18, .bad), (37, .bad), (42, .bad), (47, .bad), (52, .bad), (59, .bad), (76, .bad), (81, .bad), (86, .bad), (93, .bad), (99, .bad), (105, .bad), (111, .bad)], []⟩)
theorem sl_rrmachineBytes_2 (C : aj) (k_rreight : K_rreight C) (k_rrjoined : K_rrjoined C) (k_rrtextBytes : K_rrtextBytes C) (k_rrlistBytes : K_rrlistBytes C) (p0 : GMachine) (s : (List Int) × Int) (o : ((List Int) × Int) ⊕ (List Int)) (hF : st_rrmachineBytes_2 p0 s = some o) : evW TT C.wide n99 b99 2 (hd_rrmachineBytes_2 p0 s) = Sum.elim (fun s => evW TT C.wide n99 b99 2 (hd_rrmachineBytes_2 p0 s)) (fun r => ou_rrmachineBytes_2 p0 r) o := by
  obtain ⟨p1, p2⟩ := s
  rw [cG TT n99 fl99_2]
  revert hF
  unfold st_rrmachineBytes_2
  try dsimp only
  refine bF (fun h1 => ?_) (fun h1 => ?_)
  focus
    rintro ⟨⟩
  rotate_left 1
  unfold st_rrmachineBytes_2_c1
  refine az fun x1 h2 => ?_
  have g1 : decide (0 ≤ p2) = true := (cp h2).1
  have g2 : (ah GClient.row p0.fClients)[(p2 : Int).toNat]? = some [.i .i64 x1.fId, .i .i64 x1.fSeq, .i .i64 x1.fTime, .i .i64 x1.fReply.fCode, .s x1.fReply.fText, .i .i64 x1.fReply.fN, .sl 1 (ah bY x1.fReply.fList)] := cn _ h2
  refine az fun x2 h3 => ?_
  have g3 := bK (k_rreight x1.fId _ h3)
  try simp only [ak] at g3
  refine az fun x3 h4 => ?_
  have g4 := bK (k_rrjoined p1 x2 _ h4)
  try simp only [ak] at g4
  refine az fun x4 h5 => ?_
  have g5 := bK (k_rreight x1.fSeq _ h5)
  try simp only [ak] at g5
  refine az fun x5 h6 => ?_
  have g6 := bK (k_rrjoined x3 x4 _ h6)
  try simp only [ak] at g6
  refine az fun x6 h7 => ?_
  have g7 := bK (k_rreight x1.fTime _ h7)
  try simp only [ak] at g7
  refine az fun x7 h8 => ?_
  unfold st_rrmachineBytes_2_c0
  have g8 := bK (k_rrjoined x5 x6 _ h8)
  try simp only [ak] at g8
  refine aX (fun h9 => ?_) (fun _ => nofun)
  refine az fun x8 h10 => ?_
  have g9 := bK (k_rrtextBytes x1.fReply.fText _ h10)
  try simp only [ak] at g9
  refine az fun x9 h11 => ?_
  have g10 := bK (k_rrjoined (x7 ++ [(IntKind.u8.wrap x1.fReply.fCode)]) x8 _ h11)
  try simp only [ak] at g10
  refine az fun x10 h12 => ?_
  have g11 := bK (k_rreight x1.fReply.fN _ h12)
  try simp only [ak] at g11
  refine az fun x11 h13 => ?_
  have g12 := bK (k_rrjoined x9 x10 _ h13)
  try simp only [ak] at g12
  refine az fun x12 h14 => ?_
  have g13 := bK (k_rrlistBytes x1.fReply.fList _ h14)
  try simp only [ak] at g13
  refine az fun x13 h15 => ?_
  have g14 := bK (k_rrjoined x11 x12 _ h15)
  try simp only [ak] at g14
  rintro ⟨⟩
  all_goals (show cN _ _ _ (aH _ _ _ _ (Code.seq _ _) _) = _; simp (maxSteps := 4000000) only [*, hd_rrmachineBytes_2, ou_rrmachineBytes_2, n99a, n99A, n99k, n99K, n99mv, ↓RP, RB, ↓ai, be, bf, aJ, Mx.bl, opnd, Mx.bI, Nat.reduceBEq, bQ, Mx.fit, bP, co, toVs, cellsOf, toV, aN, aA, ay, Mx.put, ofConst, ofCell, Mx.prune, killB, killBs, aK, putDst, aw, aE, loadAt, bT, List.map, Nat.reduceAdd, Nat.reduceMul, cz, cB, cu, aO, bJ, aM, bD, lowC, forceAll, bj, kill, spendLoc, spendOk, bO, lend, lendA, aS, aB, bare, bW, bG, setCells, takeParts, bv, aR, Nat.reduceLeDiff, lowA, bn, ax, av, atO, newB, cw, cy, cx, bne, ↓ao, ↓am, ↓aa, aF, ty3, ty5, ty9, ty25, ty39, ty50, ty71, ty73, ty128, ty130])
theorem r_rrmachineBytes (C : aj) (k_rreight : K_rreight C) (k_rrjoined : K_rrjoined C) (k_rrtextBytes : K_rrtextBytes C) (k_rrvalueBytes : K_rrvalueBytes C) (k_rrlistBytes : K_rrlistBytes C) (p0 : GMachine) (r : (List Int)) (hF : rrmachineBytes p0 = some r) : cR TT C.wide (evW TT C.wide n99 b99) n99 Try.f99.results.toList (aU Try.f99) [.agg [.v (.i .i64 p0.fStore.fNow), .v (.sl 8 (ah GEntry.row p0.fStore.fEntries)), .v (.i .i64 p0.fNext), .v (.sl 7 (ah GClient.row p0.fClients))]] [] = some (.own 1 (ah cE r), []) := by
  revert hF
  unfold rrmachineBytes
  refine az fun x1 h1 => ?_
  have g1 := bK (k_rreight p0.fStore.fNow _ h1)
  try simp only [ak] at g1
  refine aX (fun h2 => ?_) (fun _ => nofun)
  refine az ?_
  rintro x2 h3
  unfold rrmachineBytes_c0
  have g2 := cH _ _ (sl_rrmachineBytes_0 C k_rrtextBytes k_rrjoined k_rrvalueBytes k_rreight p0) h3
  try simp only [hd_rrmachineBytes_0, ou_rrmachineBytes_0] at g2
  refine az fun x3 h4 => ?_
  have g3 := bK (k_rreight p0.fNext _ h4)
  try simp only [ak] at g3
  refine az fun x4 h5 => ?_
  have g4 := bK (k_rrjoined x2 x3 _ h5)
  try simp only [ak] at g4
  refine aX (fun h6 => ?_) (fun _ => nofun)
  refine az ?_
  rintro x5 h7
  have g5 := cH _ _ (sl_rrmachineBytes_2 C k_rreight k_rrjoined k_rrtextBytes k_rrlistBytes p0) h7
  try simp only [hd_rrmachineBytes_2, ou_rrmachineBytes_2] at g5
  rintro ⟨⟩
  all_goals (rw [bk]; show cC _ _ _ (aH _ _ _ _ (Code.seq _ _) _) = _; simp (maxSteps := 4000000) only [*, res99, n99k, n99K, n99f1, n99ro, n99mv, ↓RP, RB, enter, be, bf, aJ, Mx.bl, opnd, Mx.bI, Nat.reduceBEq, bQ, Mx.fit, bP, co, toVs, cellsOf, toV, aN, aA, ay, Mx.put, ofConst, ofCell, Mx.prune, killB, aK, putDst, aw, aE, loadAt, bT, List.map, Nat.reduceMul, cu, aO, aC, bu, bx, cA, bS, bJ, aM, bD, lowC, forceAll, kill, spendLoc, spendOk, bO, ct, lend, lendA, aS, aB, bare, bW, bG, takeParts, bv, aR, Nat.reduceLeDiff, bM, cd, au, aI, aY, cm, bL, cv, ch, bo, aL, bm, bp, bd, Op.operands, ax, newB, cw, bne, ↓ao, ↓aa, ↓aq, br, aF, bN, Call.operands, ty3, ty5, ty39, ty61, ty63, ty71, ty73])
def n47K : List (Nat × List Nat) := [(0, [1]), (1, [1, 4]), (2, [1, 4, 8]), (3, [2, 3, 11]), (4, [2, 3, 11])]
def n47A : List (Nat × List Nat × List Nat) := [(8, [4], [1])]
def n47 : cL where
  keep := ax n47K
  ro := fun t => t == 1
  mv := fun _ => false
  give := fun _ => false
  free := fun _ => []
  alive := av n47A
theorem n47a (t : Nat) (x : Bool) (e : Env) (S : bH) : cK n47 t x ⟨e, S⟩ = atO (av n47A t x) e S := cF rfl t x e S
theorem n47k (i : Nat) : n47.keep i = ax n47K i := rfl
theorem n47ro (t : Nat) : n47.ro t = (t == 1) := rfl
theorem n47mv (t : Nat) : n47.mv t = (false) := rfl
theorem res47 : Try.f47.results.toList = [.tmp 2, .tmp 3] := rfl
noncomputable def b47 : Code := aU Try.f47
theorem r_rrMachineBytes (C : aj) (k_rrMachineFault : K_rrMachineFault C) (k_rrmachineBytes : K_rrmachineBytes C) (p0 : GMachine) (r : (List Int) × Int) (hF : rrMachineBytes p0 = some r) : cR TT C.wide (evW TT C.wide n47 b47) n47 Try.f47.results.toList (aU Try.f47) [.agg [.v (.i .i64 p0.fStore.fNow), .v (.sl 8 (ah GEntry.row p0.fStore.fEntries)), .v (.i .i64 p0.fNext), .v (.sl 7 (ah GClient.row p0.fClients))]] [] = some (.tup [.v (.sl 1 (ah cE r.1)), .v (.i .i64 r.2)], []) := by
  revert hF
  unfold rrMachineBytes
  refine az fun x1 h1 => ?_
  have g1 := bK (k_rrMachineFault p0 _ h1)
  try simp only [ak] at g1
  refine bF (fun h2 => ?_) (fun h2 => ?_)
  focus
    rintro ⟨⟩
  rotate_left 1
  refine az fun x2 h3 => ?_
  have g2 := bK (k_rrmachineBytes p0 _ h3)
  try simp only [ak] at g2
  rintro ⟨⟩
  all_goals (rw [bk]; show cC _ _ _ (aH _ _ _ _ (Code.seq _ _) _) = _; simp (maxSteps := 4000000) only [*, res47, n47a, n47A, n47k, n47K, n47ro, n47mv, ↓RP, RB, enter, be, bf, aJ, Mx.bl, opnd, Mx.bI, Nat.reduceBEq, bQ, Mx.fit, bP, co, toVs, cellsOf, toV, aN, aA, ay, Mx.put, ofConst, ofCell, Mx.prune, killB, killBs, aK, putDst, aw, loadAt, bT, List.map, Nat.reduceAdd, cz, cB, aC, bu, bx, cA, bJ, aM, lowC, forceAll, kill, lend, lendA, aS, aB, bR, bare, bW, frz, cq, bq, ax, av, atO, newB, cw, cy, cx, bne, ↓ao, ↓am, ↓aa, ty25, ty39, ty73])
def n126K : List (Nat × List Nat) := [(0, [0, 1]), (1, [0, 1, 10]), (2, [4]), (3, [0, 1, 5]), (4, [0, 1, 5, 14]), (5, [0, 1, 5]), (6, [0, 1, 5, 25]), (7, [4]), (8, [4])]
def n126A : List (Nat × List Nat × List Nat) := [(10, [], [0, 1]), (14, [0, 1, 5], []), (25, [], [0, 1, 5])]
def n126 : cL where
  keep := ax n126K
  ro := fun _ => false
  mv := fun _ => false
  give := fun _ => false
  free := fun i => match i with | 6 => [(0, 1), (0, 4), (1, 4), (2, 4), (3, 4), (0, 5), (1, 5), (2, 5), (3, 5), (4, 5), (0, 6), (1, 6), (2, 6), (3, 6), (0, 7), (1, 7), (2, 7), (3, 7)] | _ => []
  alive := av n126A
theorem n126a (t : Nat) (x : Bool) (e : Env) (S : bH) : cK n126 t x ⟨e, S⟩ = atO (av n126A t x) e S := cF rfl t x e S
theorem n126k (i : Nat) : n126.keep i = ax n126K i := rfl
theorem n126mv (t : Nat) : n126.mv t = (false) := rfl
theorem n126f6 : n126.free 6 = [(0, 1), (0, 4), (1, 4), (2, 4), (3, 4), (0, 5), (1, 5), (2, 5), (3, 5), (4, 5), (0, 6), (1, 6), (2, 6), (3, 6), (0, 7), (1, 7), (2, 7), (3, 7)] := rfl
theorem res126 : Try.f126.results.toList = [.tmp 4] := rfl
noncomputable def b126 : Code := aU Try.f126
noncomputable def c126_0 : Code := (bE 0 (aU Try.f126)).getD .skip
theorem fl126_0 : bE 0 b126 = some c126_0 := rfl
def hd_rlsameTexts_0 (p0 : List ByteArray) (p1 : List ByteArray) (s : Int) : St := ⟨[(0, .v (.sl 1 (ah bY p0))), (1, .v (.sl 1 (ah bY p1))), (5, .v (.i .i64 s))], []⟩
def ou_rlsameTexts_0 (p0 : List ByteArray) (p1 : List ByteArray) (r : Unit ⊕ Unit) : Option (Ex × St) := match r with
  | .inl r => some (.ret, ⟨[(4, .v (.b false))], []⟩)
  | .inr r => some (.normal, ⟨[], []⟩)
theorem sl_rlsameTexts_0 (C : aj)  (p0 : List ByteArray) (p1 : List ByteArray) (p2 : Int) (o : Int ⊕ (Unit ⊕ Unit)) (hF : st_rlsameTexts_0 p0 p1 p2 = some o) : evW TT C.wide n126 b126 0 (hd_rlsameTexts_0 p0 p1 p2) = Sum.elim (fun s => evW TT C.wide n126 b126 0 (hd_rlsameTexts_0 p0 p1 s)) (fun r => ou_rlsameTexts_0 p0 p1 r) o := by
  rw [cG TT n126 fl126_0]
  revert hF
  unfold st_rlsameTexts_0
  try dsimp only
  refine bF (fun h1 => ?_) (fun h1 => ?_)
  focus
    rintro ⟨⟩
  rotate_left 1
  refine az fun x1 h2 => ?_
  have g1 : decide (0 ≤ p2) = true := (cp h2).1
  have g2 : (ah bY p0)[(p2 : Int).toNat]? = some [.s x1] := cn _ h2
  refine az fun x2 h3 => ?_
  have g3 : (ah bY p1)[(p2 : Int).toNat]? = some [.s x2] := cn _ h3
  refine aX (fun h4 => ?_) (fun h4 => ?_)
  focus
    rintro ⟨⟩
  rotate_left 1
  rintro ⟨⟩
  all_goals (show cN _ _ _ (aH _ _ _ _ (Code.seq _ _) _) = _; simp (maxSteps := 4000000) only [*, hd_rlsameTexts_0, ou_rlsameTexts_0, n126a, n126A, n126k, n126K, n126f6, n126mv, ↓RP, RB, ↓ai, be, bf, aJ, Mx.bl, opnd, Mx.bI, Nat.reduceBEq, bQ, Mx.fit, co, aN, aA, ay, Mx.put, ofConst, ofCell, Mx.prune, killB, aK, putDst, aw, loadAt, bT, List.map, cz, cB, cu, bj, bG, cd, aI, aY, cm, bL, cv, ch, bo, aL, bm, Op.operands, ax, av, atO, cy, cx, ↓ao, ↓am, ↓aa, ↓aq, br, ty3, ty4, ty9, ty50])
theorem r_rlsameTexts (C : aj)  (p0 : List ByteArray) (p1 : List ByteArray) (r : Bool) (hF : rlsameTexts p0 p1 = some r) : cR TT C.wide (evW TT C.wide n126 b126) n126 Try.f126.results.toList (aU Try.f126) [.v (.sl 1 (ah bY p0)), .v (.sl 1 (ah bY p1))] [] = some (.v (.b r), []) := by
  revert hF
  unfold rlsameTexts
  refine bF (fun h1 => ?_) (fun h1 => ?_)
  focus
    rintro ⟨⟩
  rotate_left 1
  refine az ?_
  rintro (_ | _) h2
  focus
    dsimp only
    have g1 := cH _ _ (sl_rlsameTexts_0 C p0 p1) h2
    try simp only [hd_rlsameTexts_0, ou_rlsameTexts_0] at g1
    rintro ⟨⟩
  rotate_left 1
  dsimp only
  have g2 := cH _ _ (sl_rlsameTexts_0 C p0 p1) h2
  try simp only [hd_rlsameTexts_0, ou_rlsameTexts_0] at g2
  rintro ⟨⟩
  all_goals (rw [bk]; show cC _ _ _ (aH _ _ _ _ (Code.seq _ _) _) = _; simp (maxSteps := 4000000) only [*, res126, n126a, n126A, n126k, n126K, ↓RP, RB, enter, be, bf, aJ, Mx.bl, opnd, Mx.bI, Nat.reduceBEq, bQ, Mx.fit, co, aN, aA, Mx.put, ofConst, ofCell, Mx.prune, killB, aK, putDst, aw, List.map, cz, cB, cu, aC, bu, bx, cA, bS, bJ, aM, lowC, ax, av, atO, cy, cx, bne, ↓ao, ↓am, ↓aa, ty3, ty4, ty50])
def n125K : List (Nat × List Nat) := [(0, [2, 3]), (1, [2, 3, 51]), (2, [4]), (3, [2, 3, 5]), (4, [2, 3, 5, 56]), (5, [2, 3, 5]), (6, [2, 3, 5, 69]), (7, [4]), (8, [2, 3, 6]), (9, [2, 3, 6, 74]), (10, [2, 3, 6]), (11, [2, 3, 6, 87]), (12, [4]), (13, [4])]
def n125A : List (Nat × List Nat × List Nat) := [(51, [], [2, 3]), (56, [2, 3, 5], [2, 3]), (69, [], [2, 3, 5]), (74, [2, 3, 6], []), (87, [], [2, 3, 6])]
def n125 : cL where
  keep := ax n125K
  ro := fun t => t == 2 || t == 3
  mv := fun _ => false
  give := fun _ => false
  free := fun i => match i with | 6 => [(0, 2), (1, 2), (0, 5), (1, 5), (2, 5), (3, 5), (4, 5), (0, 6), (1, 6), (2, 6), (3, 6), (4, 6), (0, 7), (1, 7), (2, 7), (3, 7), (4, 7), (5, 7), (6, 7), (0, 8), (1, 8), (2, 8), (3, 8), (4, 8), (0, 9), (1, 9), (2, 9), (3, 9), (4, 9)] | 11 => [(0, 2), (1, 2), (0, 5), (1, 5), (2, 5), (3, 5), (4, 5), (0, 6), (1, 6), (2, 6), (3, 6), (4, 6), (0, 7), (1, 7), (2, 7), (3, 7), (4, 7), (5, 7), (6, 7), (0, 8), (1, 8), (2, 8), (3, 8), (4, 8), (0, 9), (1, 9), (2, 9), (3, 9), (4, 9)] | _ => []
  alive := av n125A
theorem n125a (t : Nat) (x : Bool) (e : Env) (S : bH) : cK n125 t x ⟨e, S⟩ = atO (av n125A t x) e S := cF rfl t x e S
theorem n125k (i : Nat) : n125.keep i = ax n125K i := rfl
theorem n125ro (t : Nat) : n125.ro t = (t == 2 || t == 3) := rfl
theorem n125mv (t : Nat) : n125.mv t = (false) := rfl
theorem n125f6 : n125.free 6 = [(0, 2), (1, 2), (0, 5), (1, 5), (2, 5), (3, 5), (4, 5), (0, 6), (1, 6), (2, 6), (3, 6), (4, 6), (0, 7), (1, 7), (2, 7), (3, 7), (4, 7), (5, 7), (6, 7), (0, 8), (1, 8), (2, 8), (3, 8), (4, 8), (0, 9), (1, 9), (2, 9), (3, 9), (4, 9)] := rfl
theorem n125f11 : n125.free 11 = [(0, 2), (1, 2), (0, 5), (1, 5), (2, 5), (3, 5), (4, 5), (0, 6), (1, 6), (2, 6), (3, 6), (4, 6), (0, 7), (1, 7), (2, 7), (3, 7), (4, 7), (5, 7), (6, 7), (0, 8), (1, 8), (2, 8), (3, 8), (4, 8), (0, 9), (1, 9), (2, 9), (3, 9), (4, 9)] := rfl
theorem res125 : Try.f125.results.toList = [.tmp 4] := rfl
noncomputable def b125 : Code := aU Try.f125
noncomputable def c125_0 : Code := (bE 0 (aU Try.f125)).getD .skip
theorem fl125_0 : bE 0 b125 = some c125_0 := rfl
noncomputable def c125_2 : Code := (bE 2 (aU Try.f125)).getD .skip
theorem fl125_2 : bE 2 b125 = some c125_2 := rfl
theorem rg_rlsameValue_k1 (C : aj) (k_rlsameTexts : K_rlsameTexts C) (p0 : GValue) (p1 : GValue) (c : Code) (ho : cD 0 1 b125 = some c) (r : Bool) (hF : ck_rlsameValue_k1 p0 p1 = some r) : @cV TT C.wide (evW TT C.wide n125 b125) n125 0 1 ⟨[(2, .rp [.i .i64 p0.fKind, .s p0.fText, .i .i64 p0.fCount, .sl 2 (ah GPair.row p0.fPairs), .sl 1 (ah bY p0.fItems), .sl 2 (ah GScore.row p0.fScores)]), (3, .rp [.i .i64 p1.fKind, .s p1.fText, .i .i64 p1.fCount, .sl 2 (ah GPair.row p1.fPairs), .sl 1 (ah bY p1.fItems), .sl 2 (ah GScore.row p1.fScores)])], []⟩ ⟨c⟩ = some (.normal, ⟨[(2, .rp [.i .i64 p0.fKind, .s p0.fText, .i .i64 p0.fCount, .sl 2 (ah GPair.row p0.fPairs), .sl 1 (ah bY p0.fItems), .sl 2 (ah GScore.row p0.fScores)]), (3, .rp [.i .i64 p1.fKind, .s p1.fText, .i .i64 p1.fCount, .sl 2 (ah GPair.row p1.fPairs), .sl 1 (ah bY p1.fItems), .sl 2 (ah GScore.row p1.fScores)]), (51, .v (.b r))], []⟩) := by
  have e := Option.some.inj (ho.symm.trans (rfl : cD 0 1 b125 = some _))
  subst e
  clear ho
  show aH _ _ _ _ _ _ = _
  revert hF
  unfold ck_rlsameValue_k1
  refine bF (fun h1 => ?_) (fun h1 => ?_)
  focus
    rintro ⟨⟩
  rotate_left 1
  refine bF (fun h2 => ?_) (fun h2 => ?_)
  focus
    rintro ⟨⟩
  rotate_left 1
  refine bF (fun h3 => ?_) (fun h3 => ?_)
  focus
    rintro ⟨⟩
  rotate_left 1
  refine bF (fun h4 => ?_) (fun h4 => ?_)
  focus
    rintro ⟨⟩
  rotate_left 1
  refine bF (fun h5 => ?_) (fun h5 => ?_)
  focus
    rintro ⟨⟩
  rotate_left 1
  refine az fun x1 h6 => ?_
  have g1 := bK (k_rlsameTexts p0.fItems p1.fItems _ h6)
  try simp only [ak] at g1
  rintro ⟨⟩
  all_goals (simp (maxSteps := 4000000) only [*, n125k, n125K, n125mv, ↓RP, RB, aQ, aD, be, Mx.bl, opnd, Mx.bI, Nat.reduceBEq, bQ, aN, aA, ay, Mx.put, ofConst, ofCell, Mx.prune, killB, aK, putDst, aw, aE, loadAt, bT, List.map, cz, cB, cu, forceAll, lend, lendA, aS, aB, bR, bare, bW, ax, newB, cw, cy, cx, bne, bh, ty3, ty9, ty49, ty50, ty51, ty53, ↓aa _ _ _ _ 1])
def hd_rlsameValue_0 (p0 : GValue) (p1 : GValue) (s : Int) : St := ⟨[(2, .rp [.i .i64 p0.fKind, .s p0.fText, .i .i64 p0.fCount, .sl 2 (ah GPair.row p0.fPairs), .sl 1 (ah bY p0.fItems), .sl 2 (ah GScore.row p0.fScores)]), (3, .rp [.i .i64 p1.fKind, .s p1.fText, .i .i64 p1.fCount, .sl 2 (ah GPair.row p1.fPairs), .sl 1 (ah bY p1.fItems), .sl 2 (ah GScore.row p1.fScores)]), (5, .v (.i .i64 s))], []⟩
def ou_rlsameValue_0 (p0 : GValue) (p1 : GValue) (r : Unit ⊕ Unit) : Option (Ex × St) := match r with
  | .inl r => some (.ret, ⟨[(4, .v (.b false))], []⟩)
  | .inr r => some (.normal, ⟨[(2, .rp [.i .i64 p0.fKind, .s p0.fText, .i .i64 p0.fCount, .sl 2 (ah GPair.row p0.fPairs), .sl 1 (ah bY p0.fItems), .sl 2 (ah GScore.row p0.fScores)]), (3, .rp [.i .i64 p1.fKind, .s p1.fText, .i .i64 p1.fCount, .sl 2 (ah GPair.row p1.fPairs), .sl 1 (ah bY p1.fItems), .sl 2 (ah GScore.row p1.fScores)])], []⟩)
theorem sl_rlsameValue_0 (C : aj)  (p0 : GValue) (p1 : GValue) (p2 : Int) (o : Int ⊕ (Unit ⊕ Unit)) (hF : st_rlsameValue_0 p0 p1 p2 = some o) : evW TT C.wide n125 b125 0 (hd_rlsameValue_0 p0 p1 p2) = Sum.elim (fun s => evW TT C.wide n125 b125 0 (hd_rlsameValue_0 p0 p1 s)) (fun r => ou_rlsameValue_0 p0 p1 r) o := by
  rw [cG TT n125 fl125_0]
  revert hF
  unfold st_rlsameValue_0
  try dsimp only
  refine bF (fun h1 => ?_) (fun h1 => ?_)
  focus
    rintro ⟨⟩
  rotate_left 1
  refine az fun x1 h2 => ?_
  have g1 : decide (0 ≤ p2) = true := (cp h2).1
  have g2 : (ah GPair.row p0.fPairs)[(p2 : Int).toNat]? = some [.s x1.fField, .s x1.fText] := cn _ h2
  refine az fun x2 h3 => ?_
  have g3 : (ah GPair.row p1.fPairs)[(p2 : Int).toNat]? = some [.s x2.fField, .s x2.fText] := cn _ h3
  refine bF (fun h4 => ?_) (fun h4 => ?_)
  focus
    rintro ⟨⟩
  rotate_left 1
  refine aX (fun h5 => ?_) (fun h5 => ?_)
  focus
    rintro ⟨⟩
  rotate_left 1
  rintro ⟨⟩
  all_goals (show cN _ _ _ (aH _ _ _ _ (Code.seq _ _) _) = _; simp (maxSteps := 4000000) only [*, hd_rlsameValue_0, ou_rlsameValue_0, n125a, n125A, n125k, n125K, n125f6, n125mv, ↓RP, RB, ↓ai, be, bf, aJ, Mx.bl, opnd, Mx.bI, Nat.reduceBEq, bQ, Mx.fit, co, aN, aA, ay, Mx.put, ofConst, ofCell, Mx.prune, killB, aK, putDst, aw, aE, loadAt, bT, List.map, Nat.reduceAdd, cz, cB, aG, eqC, cu, bj, bG, cd, aI, aY, cm, bL, cv, ch, bo, aL, bm, Op.operands, ax, av, atO, cy, cx, ↓ao, ↓am, br, ty3, ty4, ty49, ty53, ty101, ↓aa _ _ _ _ 4, ↓aq _ _ _ _ 6, ↓aa _ _ _ _ 7, ↓aa _ _ _ _ 5])
def hd_rlsameValue_2 (p0 : GValue) (p1 : GValue) (s : Int) : St := ⟨[(2, .rp [.i .i64 p0.fKind, .s p0.fText, .i .i64 p0.fCount, .sl 2 (ah GPair.row p0.fPairs), .sl 1 (ah bY p0.fItems), .sl 2 (ah GScore.row p0.fScores)]), (3, .rp [.i .i64 p1.fKind, .s p1.fText, .i .i64 p1.fCount, .sl 2 (ah GPair.row p1.fPairs), .sl 1 (ah bY p1.fItems), .sl 2 (ah GScore.row p1.fScores)]), (6, .v (.i .i64 s))], []⟩
def ou_rlsameValue_2 (p0 : GValue) (p1 : GValue) (r : Unit ⊕ Unit) : Option (Ex × St) := match r with
  | .inl r => some (.ret, ⟨[(4, .v (.b false))], []⟩)
  | .inr r => some (.normal, ⟨[], []⟩)
theorem sl_rlsameValue_2 (C : aj)  (p0 : GValue) (p1 : GValue) (p2 : Int) (o : Int ⊕ (Unit ⊕ Unit)) (hF : st_rlsameValue_2 p0 p1 p2 = some o) : evW TT C.wide n125 b125 2 (hd_rlsameValue_2 p0 p1 p2) = Sum.elim (fun s => evW TT C.wide n125 b125 2 (hd_rlsameValue_2 p0 p1 s)) (fun r => ou_rlsameValue_2 p0 p1 r) o := by
  rw [cG TT n125 fl125_2]
  revert hF
  unfold st_rlsameValue_2
  try dsimp only
  refine bF (fun h1 => ?_) (fun h1 => ?_)
  focus
    rintro ⟨⟩
  rotate_left 1
  refine az fun x1 h2 => ?_
  have g1 : decide (0 ≤ p2) = true := (cp h2).1
  have g2 : (ah GScore.row p0.fScores)[(p2 : Int).toNat]? = some [.s x1.fMember, .i .i64 x1.fN] := cn _ h2
  refine az fun x2 h3 => ?_
  have g3 : (ah GScore.row p1.fScores)[(p2 : Int).toNat]? = some [.s x2.fMember, .i .i64 x2.fN] := cn _ h3
  refine bF (fun h4 => ?_) (fun h4 => ?_)
  focus
    rintro ⟨⟩
  rotate_left 1
  refine aX (fun h5 => ?_) (fun h5 => ?_)
  focus
    rintro ⟨⟩
  rotate_left 1
  rintro ⟨⟩
  all_goals (show cN _ _ _ (aH _ _ _ _ (Code.seq _ _) _) = _; simp (maxSteps := 4000000) only [*, hd_rlsameValue_2, ou_rlsameValue_2, n125a, n125A, n125k, n125K, n125f11, n125mv, ↓RP, RB, ↓ai, be, bf, aJ, Mx.bl, opnd, Mx.bI, Nat.reduceBEq, bQ, Mx.fit, co, aN, aA, ay, Mx.put, ofConst, ofCell, Mx.prune, killB, aK, putDst, aw, aE, loadAt, bT, List.map, Nat.reduceAdd, cz, cB, aG, eqC, cu, bj, bG, cd, aI, aY, cm, bL, cv, ch, bo, aL, bm, Op.operands, ax, av, atO, cy, cx, ↓ao, ↓am, br, ty3, ty4, ty51, ty53, ty105, ↓aa _ _ _ _ 9, ↓aq _ _ _ _ 11, ↓aa _ _ _ _ 12, ↓aa _ _ _ _ 10])
theorem r_rlsameValue (C : aj) (k_rlsameTexts : K_rlsameTexts C) (p0 : GValue) (p1 : GValue) (r : Bool) (hF : rlsameValue p0 p1 = some r) : cR TT C.wide (evW TT C.wide n125 b125) n125 Try.f125.results.toList (aU Try.f125) [.agg [.v (.i .i64 p0.fKind), .v (.s p0.fText), .v (.i .i64 p0.fCount), .v (.sl 2 (ah GPair.row p0.fPairs)), .v (.sl 1 (ah bY p0.fItems)), .v (.sl 2 (ah GScore.row p0.fScores))], .agg [.v (.i .i64 p1.fKind), .v (.s p1.fText), .v (.i .i64 p1.fCount), .v (.sl 2 (ah GPair.row p1.fPairs)), .v (.sl 1 (ah bY p1.fItems)), .v (.sl 2 (ah GScore.row p1.fScores))]] [] = some (.v (.b r), []) := by
  revert hF
  unfold rlsameValue
  refine az fun x1 h1 => ?_
  have g1 := rg_rlsameValue_k1 C k_rlsameTexts p0 p1 _ rfl _ h1
  try simp only [ak] at g1
  refine aX (fun h2 => ?_) (fun h2 => ?_)
  focus
    rintro ⟨⟩
  rotate_left 1
  refine az ?_
  rintro (_ | _) h3
  focus
    dsimp only
    have g2 := cH _ _ (sl_rlsameValue_0 C p0 p1) h3
    try simp only [hd_rlsameValue_0, ou_rlsameValue_0] at g2
    rintro ⟨⟩
  rotate_left 1
  dsimp only
  unfold rlsameValue_c0
  have g3 := cH _ _ (sl_rlsameValue_0 C p0 p1) h3
  try simp only [hd_rlsameValue_0, ou_rlsameValue_0] at g3
  refine az ?_
  rintro (_ | _) h4
  focus
    dsimp only
    have g4 := cH _ _ (sl_rlsameValue_2 C p0 p1) h4
    try simp only [hd_rlsameValue_2, ou_rlsameValue_2] at g4
    rintro ⟨⟩
  rotate_left 1
  dsimp only
  have g5 := cH _ _ (sl_rlsameValue_2 C p0 p1) h4
  try simp only [hd_rlsameValue_2, ou_rlsameValue_2] at g5
  rintro ⟨⟩
  all_goals (rw [bk]; show cC _ _ _ (aH _ _ _ _ (Code.seq _ _) _) = _; simp (maxSteps := 4000000) only [*, res125, n125a, n125A, n125k, n125K, n125ro, ↓RP, RB, enter, be, bf, aJ, Mx.bl, opnd, Mx.bI, Nat.reduceBEq, bQ, Mx.fit, bP, co, toVs, cellsOf, toV, aN, aA, ay, Mx.put, ofConst, ofCell, Mx.prune, killB, List.map, aC, bu, bx, cA, bS, bJ, aM, lowC, ax, av, atO, ↓ao, ↓am, ty3, ty4, ty53, ↓aa _ _ _ _ 0, ↓bg _ _ _ _ 1, ↓aa _ _ _ _ 2, ↓aa _ _ _ _ 3, ↓aa _ _ _ _ 8, ↓aa _ _ _ _ 13])
def n100K : List (Nat × List Nat) := [(0, [2, 3]), (1, [2, 3, 21]), (2, [4]), (3, [2, 3, 5]), (4, [2, 3, 5, 26]), (5, [2, 3, 5]), (6, [2, 3, 5, 6]), (7, [2, 3, 5, 6, 7]), (8, [2, 3, 5, 58]), (9, [4]), (10, [4])]
def n100A : List (Nat × List Nat × List Nat) := [(21, [], [2, 3]), (26, [2, 3, 5], []), (58, [], [2, 3, 5])]
def n100 : cL where
  keep := ax n100K
  ro := fun t => t == 2 || t == 3
  mv := fun _ => false
  give := fun _ => false
  free := fun _ => []
  alive := av n100A
theorem n100a (t : Nat) (x : Bool) (e : Env) (S : bH) : cK n100 t x ⟨e, S⟩ = atO (av n100A t x) e S := cF rfl t x e S
theorem n100k (i : Nat) : n100.keep i = ax n100K i := rfl
theorem n100ro (t : Nat) : n100.ro t = (t == 2 || t == 3) := rfl
theorem n100mv (t : Nat) : n100.mv t = (false) := rfl
theorem res100 : Try.f100.results.toList = [.tmp 4] := rfl
noncomputable def b100 : Code := aU Try.f100
noncomputable def c100_0 : Code := (bE 0 (aU Try.f100)).getD .skip
theorem fl100_0 : bE 0 b100 = some c100_0 := rfl
theorem rg_rlsameStore_k8v2 (C : aj) (k_rlsameValue : K_rlsameValue C) (p0 : GStore) (p1 : GStore) (p2 : Int) (p3 : GEntry) (p4 : GEntry) (c : Code) (ho : cD 0 8 b100 = some c) (r : Bool) (hF : ck_rlsameStore_k8v2 p0 p1 p2 p3 p4 = some r) : @cV TT C.wide (evW TT C.wide n100 b100) n100 0 8 ⟨[(2, .rp [.i .i64 p0.fNow, .sl 8 (ah GEntry.row p0.fEntries)]), (3, .rp [.i .i64 p1.fNow, .sl 8 (ah GEntry.row p1.fEntries)]), (5, .v (.i .i64 p2)), (6, .ptr 0 0), (7, .ptr 1 0)], [[.v (.s p3.fKey), .v (.i .i64 p3.fValue.fKind), .v (.s p3.fValue.fText), .v (.i .i64 p3.fValue.fCount), .v (.sl 2 (ah GPair.row p3.fValue.fPairs)), .v (.sl 1 (ah bY p3.fValue.fItems)), .v (.sl 2 (ah GScore.row p3.fValue.fScores)), .v (.i .i64 p3.fUntil)], [.v (.s p4.fKey), .v (.i .i64 p4.fValue.fKind), .v (.s p4.fValue.fText), .v (.i .i64 p4.fValue.fCount), .v (.sl 2 (ah GPair.row p4.fValue.fPairs)), .v (.sl 1 (ah bY p4.fValue.fItems)), .v (.sl 2 (ah GScore.row p4.fValue.fScores)), .v (.i .i64 p4.fUntil)]]⟩ ⟨c⟩ = some (.normal, ⟨[(2, .rp [.i .i64 p0.fNow, .sl 8 (ah GEntry.row p0.fEntries)]), (3, .rp [.i .i64 p1.fNow, .sl 8 (ah GEntry.row p1.fEntries)]), (5, .v (.i .i64 p2)), (58, .v (.b r))], [[.v (.s p3.fKey), .v (.i .i64 p3.fValue.fKind), .v (.s p3.fValue.fText), .v (.i .i64 p3.fValue.fCount), .v (.sl 2 (ah GPair.row p3.fValue.fPairs)), .v (.sl 1 (ah bY p3.fValue.fItems)), .v (.sl 2 (ah GScore.row p3.fValue.fScores)), .v (.i .i64 p3.fUntil)], [.v (.s p4.fKey), .v (.i .i64 p4.fValue.fKind), .v (.s p4.fValue.fText), .v (.i .i64 p4.fValue.fCount), .v (.sl 2 (ah GPair.row p4.fValue.fPairs)), .v (.sl 1 (ah bY p4.fValue.fItems)), .v (.sl 2 (ah GScore.row p4.fValue.fScores)), .v (.i .i64 p4.fUntil)]]⟩) := by
  have e := Option.some.inj (ho.symm.trans (rfl : cD 0 8 b100 = some _))
  subst e
  clear ho
  show aH _ _ _ _ _ _ = _
  revert hF
  unfold ck_rlsameStore_k8v2
  refine bF (fun h1 => ?_) (fun h1 => ?_)
  focus
    rintro ⟨⟩
  rotate_left 1
  refine bF (fun h2 => ?_) (fun h2 => ?_)
  focus
    rintro ⟨⟩
  rotate_left 1
  refine az fun x1 h3 => ?_
  have g1 := bK (k_rlsameValue p3.fValue p4.fValue _ h3)
  try simp only [ak] at g1
  rintro ⟨⟩
  all_goals (simp (maxSteps := 4000000) only [*, n100k, n100K, n100mv, ↓RP, RB, aQ, aD, be, Mx.bl, opnd, Mx.bI, Nat.reduceBEq, bQ, aN, aA, ay, Mx.put, ofConst, ofCell, Mx.prune, killB, aK, putDst, aw, aE, loadAt, bT, List.map, Nat.reduceAdd, cz, cB, forceAll, lend, lendA, aS, aB, bR, bare, bW, ax, newB, cw, cy, cx, bne, bh, aP, ty3, ty9, ty53, ty117, ↓aa _ _ _ _ 8])
def hd_rlsameStore_0 (p0 : GStore) (p1 : GStore) (s : Int) : St := ⟨[(2, .rp [.i .i64 p0.fNow, .sl 8 (ah GEntry.row p0.fEntries)]), (3, .rp [.i .i64 p1.fNow, .sl 8 (ah GEntry.row p1.fEntries)]), (5, .v (.i .i64 s))], []⟩
def ou_rlsameStore_0 (p0 : GStore) (p1 : GStore) (r : (GEntry × GEntry) ⊕ Unit) : Option (Ex × St) := match r with
  | .inl r => some (.ret, ⟨[(4, .v (.b false))], [[.v (.s r.1.fKey), .v (.i .i64 r.1.fValue.fKind), .v (.s r.1.fValue.fText), .v (.i .i64 r.1.fValue.fCount), .v (.sl 2 (ah GPair.row r.1.fValue.fPairs)), .v (.sl 1 (ah bY r.1.fValue.fItems)), .v (.sl 2 (ah GScore.row r.1.fValue.fScores)), .v (.i .i64 r.1.fUntil)], [.v (.s r.2.fKey), .v (.i .i64 r.2.fValue.fKind), .v (.s r.2.fValue.fText), .v (.i .i64 r.2.fValue.fCount), .v (.sl 2 (ah GPair.row r.2.fValue.fPairs)), .v (.sl 1 (ah bY r.2.fValue.fItems)), .v (.sl 2 (ah GScore.row r.2.fValue.fScores)), .v (.i .i64 r.2.fUntil)]]⟩)
  | .inr r => some (.normal, ⟨[], []⟩)
theorem sl_rlsameStore_0 (C : aj) (k_rlsameValue : K_rlsameValue C) (p0 : GStore) (p1 : GStore) (p2 : Int) (o : Int ⊕ ((GEntry × GEntry) ⊕ Unit)) (hF : st_rlsameStore_0 p0 p1 p2 = some o) : evW TT C.wide n100 b100 0 (hd_rlsameStore_0 p0 p1 p2) = Sum.elim (fun s => evW TT C.wide n100 b100 0 (hd_rlsameStore_0 p0 p1 s)) (fun r => ou_rlsameStore_0 p0 p1 r) o := by
  rw [cG TT n100 fl100_0]
  revert hF
  unfold st_rlsameStore_0
  try dsimp only
  refine bF (fun h1 => ?_) (fun h1 => ?_)
  focus
    rintro ⟨⟩
  rotate_left 1
  refine az fun x1 h2 => ?_
  have g1 : decide (0 ≤ p2) = true := (cp h2).1
  have g2 : (ah GEntry.row p0.fEntries)[(p2 : Int).toNat]? = some [.s x1.fKey, .i .i64 x1.fValue.fKind, .s x1.fValue.fText, .i .i64 x1.fValue.fCount, .sl 2 (ah GPair.row x1.fValue.fPairs), .sl 1 (ah bY x1.fValue.fItems), .sl 2 (ah GScore.row x1.fValue.fScores), .i .i64 x1.fUntil] := cn _ h2
  refine az fun x2 h3 => ?_
  have g3 : (ah GEntry.row p1.fEntries)[(p2 : Int).toNat]? = some [.s x2.fKey, .i .i64 x2.fValue.fKind, .s x2.fValue.fText, .i .i64 x2.fValue.fCount, .sl 2 (ah GPair.row x2.fValue.fPairs), .sl 1 (ah bY x2.fValue.fItems), .sl 2 (ah GScore.row x2.fValue.fScores), .i .i64 x2.fUntil] := cn _ h3
  refine az fun x3 h4 => ?_
  have g4 := rg_rlsameStore_k8v2 C k_rlsameValue p0 p1 p2 x1 x2 _ rfl _ h4
  try simp only [ak] at g4
  refine aX (fun h5 => ?_) (fun h5 => ?_)
  focus
    rintro ⟨⟩
  rotate_left 1
  rintro ⟨⟩
  all_goals (show cN _ _ _ (aH _ _ _ _ (Code.seq _ _) _) = _; simp (maxSteps := 4000000) only [*, hd_rlsameStore_0, ou_rlsameStore_0, n100a, n100A, n100k, n100K, n100mv, ↓RP, RB, ↓ai, be, bf, aJ, Mx.bl, opnd, Mx.bI, Nat.reduceBEq, bQ, Mx.fit, bP, co, cellsOf, aN, aA, ay, Mx.put, ofConst, ofCell, Mx.prune, killB, killBs, aK, putDst, aw, aE, loadAt, bT, List.map, Nat.reduceAdd, cz, cB, cu, bJ, aM, lowC, bj, kill, bG, setCells, Nat.reduceLeDiff, lowA, bn, ax, av, atO, cy, cx, bne, ↓ao, ↓am, ty3, ty4, ty61, ty63, ty117, ↓aa _ _ _ _ 4, ↓aa _ _ _ _ 6, ↓aa _ _ _ _ 7, ↓bg _ _ _ _ 8, ↓aa _ _ _ _ 9, ↓aa _ _ _ _ 5])
theorem r_rlsameStore (C : aj) (k_rlsameValue : K_rlsameValue C) (p0 : GStore) (p1 : GStore) (r : Bool) (hF : rlsameStore p0 p1 = some r) : cR TT C.wide (evW TT C.wide n100 b100) n100 Try.f100.results.toList (aU Try.f100) [.agg [.v (.i .i64 p0.fNow), .v (.sl 8 (ah GEntry.row p0.fEntries))], .agg [.v (.i .i64 p1.fNow), .v (.sl 8 (ah GEntry.row p1.fEntries))]] [] = some (.v (.b r), []) := by
  revert hF
  unfold rlsameStore
  refine bF (fun h1 => ?_) (fun h1 => ?_)
  focus
    rintro ⟨⟩
  rotate_left 1
  refine bF (fun h2 => ?_) (fun h2 => ?_)
  focus
    rintro ⟨⟩
  rotate_left 1
  refine az ?_
  rintro (⟨x1, x2⟩ | _) h3
  focus
    dsimp only
    have g1 := cH _ _ (sl_rlsameStore_0 C k_rlsameValue p0 p1) h3
    try simp only [hd_rlsameStore_0, ou_rlsameStore_0] at g1
    rintro ⟨⟩
  rotate_left 1
  dsimp only
  have g2 := cH _ _ (sl_rlsameStore_0 C k_rlsameValue p0 p1) h3
  try simp only [hd_rlsameStore_0, ou_rlsameStore_0] at g2
  rintro ⟨⟩
  all_goals (rw [bk]; show cC _ _ _ (aH _ _ _ _ (Code.seq _ _) _) = _; simp (maxSteps := 4000000) only [*, res100, n100a, n100A, n100k, n100K, n100ro, n100mv, ↓RP, RB, enter, aQ, aD, be, bf, aJ, Mx.bl, opnd, Mx.bI, Nat.reduceBEq, bQ, Mx.fit, bP, co, toVs, cellsOf, toV, aN, aA, ay, Mx.put, ofConst, ofCell, Mx.prune, killB, aK, putDst, aw, aE, loadAt, bT, List.map, cz, cB, cu, aC, bu, bx, cA, bS, bJ, aM, lowC, ax, av, atO, cy, cx, bne, ↓ao, ↓am, bh, ty3, ty4, ty61, ty63, ↓aa _ _ _ _ 0, ↓aa _ _ _ _ 1, ↓aa _ _ _ _ 2, ↓aa _ _ _ _ 3, ↓aa _ _ _ _ 10])
def n101K : List (Nat × List Nat) := [(0, [2, 3]), (1, [4])]
def n101 : cL where
  keep := ax n101K
  ro := fun t => t == 2 || t == 3
  mv := fun _ => false
  give := fun _ => false
  free := fun _ => []
theorem n101k (i : Nat) : n101.keep i = ax n101K i := rfl
theorem n101ro (t : Nat) : n101.ro t = (t == 2 || t == 3) := rfl
theorem n101mv (t : Nat) : n101.mv t = (false) := rfl
theorem res101 : Try.f101.results.toList = [.tmp 4] := rfl
noncomputable def b101 : Code := aU Try.f101
theorem rg_rlsameReply_k1 (C : aj) (k_rlsameTexts : K_rlsameTexts C) (p0 : GReply) (p1 : GReply) (c : Code) (ho : cD 0 1 b101 = some c) (r : Bool) (hF : ck_rlsameReply_k1 p0 p1 = some r) : @cV TT C.wide (evW TT C.wide n101 b101) n101 0 1 ⟨[(2, .rp [.i .i64 p0.fCode, .s p0.fText, .i .i64 p0.fN, .sl 1 (ah bY p0.fList)]), (3, .rp [.i .i64 p1.fCode, .s p1.fText, .i .i64 p1.fN, .sl 1 (ah bY p1.fList)])], []⟩ ⟨c⟩ = some (.normal, ⟨[(4, .v (.b r))], []⟩) := by
  have e := Option.some.inj (ho.symm.trans (rfl : cD 0 1 b101 = some _))
  subst e
  clear ho
  show aH _ _ _ _ _ _ = _
  revert hF
  unfold ck_rlsameReply_k1
  refine bF (fun h1 => ?_) (fun h1 => ?_)
  focus
    rintro ⟨⟩
  rotate_left 1
  refine bF (fun h2 => ?_) (fun h2 => ?_)
  focus
    rintro ⟨⟩
  rotate_left 1
  refine bF (fun h3 => ?_) (fun h3 => ?_)
  focus
    rintro ⟨⟩
  rotate_left 1
  refine az fun x1 h4 => ?_
  have g1 := bK (k_rlsameTexts p0.fList p1.fList _ h4)
  try simp only [ak] at g1
  rintro ⟨⟩
  all_goals (simp (maxSteps := 4000000) only [*, n101k, n101K, n101mv, ↓RP, RB, aQ, aD, be, bf, aJ, Mx.bl, opnd, Mx.bI, Nat.reduceBEq, bQ, Mx.fit, co, aN, aA, ay, Mx.put, ofConst, ofCell, Mx.prune, killB, aK, putDst, aw, aE, loadAt, bT, List.map, cz, cB, forceAll, lend, lendA, aS, aB, bR, bare, bW, ax, newB, cw, cy, cx, bh, ty3, ty4, ty9, ty25, ty50, ty128, ↓aa _ _ _ _ 1])
theorem r_rlsameReply (C : aj) (k_rlsameTexts : K_rlsameTexts C) (p0 : GReply) (p1 : GReply) (r : Bool) (hF : rlsameReply p0 p1 = some r) : cR TT C.wide (evW TT C.wide n101 b101) n101 Try.f101.results.toList (aU Try.f101) [.agg [.v (.i .i64 p0.fCode), .v (.s p0.fText), .v (.i .i64 p0.fN), .v (.sl 1 (ah bY p0.fList))], .agg [.v (.i .i64 p1.fCode), .v (.s p1.fText), .v (.i .i64 p1.fN), .v (.sl 1 (ah bY p1.fList))]] [] = some (.v (.b r), []) := by
  revert hF
  unfold rlsameReply
  refine az fun x1 h1 => ?_
  have g1 := rg_rlsameReply_k1 C k_rlsameTexts p0 p1 _ rfl _ h1
  try simp only [ak] at g1
  rintro ⟨⟩
  all_goals (rw [bk]; show cC _ _ _ (aH _ _ _ _ (Code.seq _ _) _) = _; simp (maxSteps := 4000000) only [*, res101, n101k, n101K, n101ro, ↓RP, RB, enter, be, bf, aJ, Mx.bl, opnd, Mx.bI, Nat.reduceBEq, bQ, Mx.fit, bP, co, toVs, cellsOf, toV, aN, aA, ay, Mx.put, ofConst, ofCell, Mx.prune, killB, List.map, aC, bu, bx, cA, bS, bJ, aM, lowC, ax, ↓ao, ty4, ty128, ↓aa _ _ _ _ 0, ↓bg _ _ _ _ 1])
def n48K : List (Nat × List Nat) := [(0, [2, 3]), (1, [2, 3, 29]), (2, [4]), (3, [2, 3, 5]), (4, [2, 3, 5, 34]), (5, [2, 3, 5]), (6, [2, 3, 5, 6]), (7, [2, 3, 5, 6, 7]), (8, [2, 3, 5, 73]), (9, [4]), (10, [4])]
def n48A : List (Nat × List Nat × List Nat) := [(29, [], [2, 3]), (34, [2, 3, 5], []), (73, [], [2, 3, 5])]
def n48 : cL where
  keep := ax n48K
  ro := fun t => t == 2 || t == 3
  mv := fun _ => false
  give := fun _ => false
  free := fun _ => []
  alive := av n48A
theorem n48a (t : Nat) (x : Bool) (e : Env) (S : bH) : cK n48 t x ⟨e, S⟩ = atO (av n48A t x) e S := cF rfl t x e S
theorem n48k (i : Nat) : n48.keep i = ax n48K i := rfl
theorem n48ro (t : Nat) : n48.ro t = (t == 2 || t == 3) := rfl
theorem n48mv (t : Nat) : n48.mv t = (false) := rfl
theorem res48 : Try.f48.results.toList = [.tmp 4] := rfl
noncomputable def b48 : Code := aU Try.f48
noncomputable def c48_0 : Code := (bE 0 (aU Try.f48)).getD .skip
theorem fl48_0 : bE 0 b48 = some c48_0 := rfl
theorem rg_rlsameMachine_k1 (C : aj) (k_rlsameStore : K_rlsameStore C) (p0 : GMachine) (p1 : GMachine) (c : Code) (ho : cD 0 1 b48 = some c) (r : Bool) (hF : ck_rlsameMachine_k1 p0 p1 = some r) : @cV TT C.wide (evW TT C.wide n48 b48) n48 0 1 ⟨[(2, .rp [.i .i64 p0.fStore.fNow, .sl 8 (ah GEntry.row p0.fStore.fEntries), .i .i64 p0.fNext, .sl 7 (ah GClient.row p0.fClients)]), (3, .rp [.i .i64 p1.fStore.fNow, .sl 8 (ah GEntry.row p1.fStore.fEntries), .i .i64 p1.fNext, .sl 7 (ah GClient.row p1.fClients)])], []⟩ ⟨c⟩ = some (.normal, ⟨[(2, .rp [.i .i64 p0.fStore.fNow, .sl 8 (ah GEntry.row p0.fStore.fEntries), .i .i64 p0.fNext, .sl 7 (ah GClient.row p0.fClients)]), (3, .rp [.i .i64 p1.fStore.fNow, .sl 8 (ah GEntry.row p1.fStore.fEntries), .i .i64 p1.fNext, .sl 7 (ah GClient.row p1.fClients)]), (29, .v (.b r))], []⟩) := by
  have e := Option.some.inj (ho.symm.trans (rfl : cD 0 1 b48 = some _))
  subst e
  clear ho
  show aH _ _ _ _ _ _ = _
  revert hF
  unfold ck_rlsameMachine_k1
  refine bF (fun h1 => ?_) (fun h1 => ?_)
  focus
    rintro ⟨⟩
  rotate_left 1
  refine az fun x1 h2 => ?_
  have g1 := bK (k_rlsameStore p0.fStore p1.fStore _ h2)
  try simp only [ak] at g1
  refine aX (fun h3 => ?_) (fun h3 => ?_)
  focus
    rintro ⟨⟩
  rotate_left 1
  rintro ⟨⟩
  all_goals (simp (maxSteps := 4000000) only [*, n48k, n48K, n48mv, ↓RP, RB, aQ, aD, be, Mx.bl, opnd, Mx.bI, Nat.reduceBEq, bQ, aN, aA, ay, Mx.put, ofConst, ofCell, Mx.prune, killB, aK, putDst, aw, aE, loadAt, bT, List.map, Nat.reduceAdd, cz, cB, cu, forceAll, lend, lendA, aS, aB, bR, bare, bW, ax, newB, cw, cy, cx, bne, bh, ty3, ty63, ty71, ty73, ↓aa _ _ _ _ 1])
theorem rg_rlsameMachine_k8v2 (C : aj) (k_rlsameReply : K_rlsameReply C) (p0 : GMachine) (p1 : GMachine) (p2 : Int) (p3 : GClient) (p4 : GClient) (c : Code) (ho : cD 0 8 b48 = some c) (r : Bool) (hF : ck_rlsameMachine_k8v2 p0 p1 p2 p3 p4 = some r) : @cV TT C.wide (evW TT C.wide n48 b48) n48 0 8 ⟨[(2, .rp [.i .i64 p0.fStore.fNow, .sl 8 (ah GEntry.row p0.fStore.fEntries), .i .i64 p0.fNext, .sl 7 (ah GClient.row p0.fClients)]), (3, .rp [.i .i64 p1.fStore.fNow, .sl 8 (ah GEntry.row p1.fStore.fEntries), .i .i64 p1.fNext, .sl 7 (ah GClient.row p1.fClients)]), (5, .v (.i .i64 p2)), (6, .ptr 0 0), (7, .ptr 1 0)], [[.v (.i .i64 p3.fId), .v (.i .i64 p3.fSeq), .v (.i .i64 p3.fTime), .v (.i .i64 p3.fReply.fCode), .v (.s p3.fReply.fText), .v (.i .i64 p3.fReply.fN), .v (.sl 1 (ah bY p3.fReply.fList))], [.v (.i .i64 p4.fId), .v (.i .i64 p4.fSeq), .v (.i .i64 p4.fTime), .v (.i .i64 p4.fReply.fCode), .v (.s p4.fReply.fText), .v (.i .i64 p4.fReply.fN), .v (.sl 1 (ah bY p4.fReply.fList))]]⟩ ⟨c⟩ = some (.normal, ⟨[(2, .rp [.i .i64 p0.fStore.fNow, .sl 8 (ah GEntry.row p0.fStore.fEntries), .i .i64 p0.fNext, .sl 7 (ah GClient.row p0.fClients)]), (3, .rp [.i .i64 p1.fStore.fNow, .sl 8 (ah GEntry.row p1.fStore.fEntries), .i .i64 p1.fNext, .sl 7 (ah GClient.row p1.fClients)]), (5, .v (.i .i64 p2)), (73, .v (.b r))], [[.v (.i .i64 p3.fId), .v (.i .i64 p3.fSeq), .v (.i .i64 p3.fTime), .v (.i .i64 p3.fReply.fCode), .v (.s p3.fReply.fText), .v (.i .i64 p3.fReply.fN), .v (.sl 1 (ah bY p3.fReply.fList))], [.v (.i .i64 p4.fId), .v (.i .i64 p4.fSeq), .v (.i .i64 p4.fTime), .v (.i .i64 p4.fReply.fCode), .v (.s p4.fReply.fText), .v (.i .i64 p4.fReply.fN), .v (.sl 1 (ah bY p4.fReply.fList))]]⟩) := by
  have e := Option.some.inj (ho.symm.trans (rfl : cD 0 8 b48 = some _))
  subst e
  clear ho
  show aH _ _ _ _ _ _ = _
  revert hF
  unfold ck_rlsameMachine_k8v2
  refine bF (fun h1 => ?_) (fun h1 => ?_)
  focus
    rintro ⟨⟩
  rotate_left 1
  refine bF (fun h2 => ?_) (fun h2 => ?_)
  focus
    rintro ⟨⟩
  rotate_left 1
  refine bF (fun h3 => ?_) (fun h3 => ?_)
  focus
    rintro ⟨⟩
  rotate_left 1
  refine az fun x1 h4 => ?_
  have g1 := bK (k_rlsameReply p3.fReply p4.fReply _ h4)
  try simp only [ak] at g1
  rintro ⟨⟩
  all_goals (simp (maxSteps := 4000000) only [*, n48k, n48K, n48mv, ↓RP, RB, aQ, aD, be, Mx.bl, opnd, Mx.bI, Nat.reduceBEq, bQ, aN, aA, ay, Mx.put, ofConst, ofCell, Mx.prune, killB, aK, putDst, aw, aE, loadAt, bT, List.map, Nat.reduceAdd, cz, cB, forceAll, lend, lendA, aS, aB, bR, bare, bW, ax, newB, cw, cy, cx, bne, bh, aP, ty3, ty128, ty130, ↓aa _ _ _ _ 8])
def hd_rlsameMachine_0 (p0 : GMachine) (p1 : GMachine) (s : Int) : St := ⟨[(2, .rp [.i .i64 p0.fStore.fNow, .sl 8 (ah GEntry.row p0.fStore.fEntries), .i .i64 p0.fNext, .sl 7 (ah GClient.row p0.fClients)]), (3, .rp [.i .i64 p1.fStore.fNow, .sl 8 (ah GEntry.row p1.fStore.fEntries), .i .i64 p1.fNext, .sl 7 (ah GClient.row p1.fClients)]), (5, .v (.i .i64 s))], []⟩
def ou_rlsameMachine_0 (p0 : GMachine) (p1 : GMachine) (r : (GClient × GClient) ⊕ Unit) : Option (Ex × St) := match r with
  | .inl r => some (.ret, ⟨[(4, .v (.b false))], [[.v (.i .i64 r.1.fId), .v (.i .i64 r.1.fSeq), .v (.i .i64 r.1.fTime), .v (.i .i64 r.1.fReply.fCode), .v (.s r.1.fReply.fText), .v (.i .i64 r.1.fReply.fN), .v (.sl 1 (ah bY r.1.fReply.fList))], [.v (.i .i64 r.2.fId), .v (.i .i64 r.2.fSeq), .v (.i .i64 r.2.fTime), .v (.i .i64 r.2.fReply.fCode), .v (.s r.2.fReply.fText), .v (.i .i64 r.2.fReply.fN), .v (.sl 1 (ah bY r.2.fReply.fList))]]⟩)
  | .inr r => some (.normal, ⟨[], []⟩)
theorem sl_rlsameMachine_0 (C : aj) (k_rlsameReply : K_rlsameReply C) (p0 : GMachine) (p1 : GMachine) (p2 : Int) (o : Int ⊕ ((GClient × GClient) ⊕ Unit)) (hF : st_rlsameMachine_0 p0 p1 p2 = some o) : evW TT C.wide n48 b48 0 (hd_rlsameMachine_0 p0 p1 p2) = Sum.elim (fun s => evW TT C.wide n48 b48 0 (hd_rlsameMachine_0 p0 p1 s)) (fun r => ou_rlsameMachine_0 p0 p1 r) o := by
  rw [cG TT n48 fl48_0]
  revert hF
  unfold st_rlsameMachine_0
  try dsimp only
  refine bF (fun h1 => ?_) (fun h1 => ?_)
  focus
    rintro ⟨⟩
  rotate_left 1
  refine az fun x1 h2 => ?_
  have g1 : decide (0 ≤ p2) = true := (cp h2).1
  have g2 : (ah GClient.row p0.fClients)[(p2 : Int).toNat]? = some [.i .i64 x1.fId, .i .i64 x1.fSeq, .i .i64 x1.fTime, .i .i64 x1.fReply.fCode, .s x1.fReply.fText, .i .i64 x1.fReply.fN, .sl 1 (ah bY x1.fReply.fList)] := cn _ h2
  refine az fun x2 h3 => ?_
  have g3 : (ah GClient.row p1.fClients)[(p2 : Int).toNat]? = some [.i .i64 x2.fId, .i .i64 x2.fSeq, .i .i64 x2.fTime, .i .i64 x2.fReply.fCode, .s x2.fReply.fText, .i .i64 x2.fReply.fN, .sl 1 (ah bY x2.fReply.fList)] := cn _ h3
  refine az fun x3 h4 => ?_
  have g4 := rg_rlsameMachine_k8v2 C k_rlsameReply p0 p1 p2 x1 x2 _ rfl _ h4
  try simp only [ak] at g4
  refine aX (fun h5 => ?_) (fun h5 => ?_)
  focus
    rintro ⟨⟩
  rotate_left 1
  rintro ⟨⟩
  all_goals (show cN _ _ _ (aH _ _ _ _ (Code.seq _ _) _) = _; simp (maxSteps := 4000000) only [*, hd_rlsameMachine_0, ou_rlsameMachine_0, n48a, n48A, n48k, n48K, n48mv, ↓RP, RB, ↓ai, be, bf, aJ, Mx.bl, opnd, Mx.bI, Nat.reduceBEq, bQ, Mx.fit, bP, co, cellsOf, aN, aA, ay, Mx.put, ofConst, ofCell, Mx.prune, killB, killBs, aK, putDst, aw, aE, loadAt, bT, List.map, Nat.reduceAdd, cz, cB, cu, bJ, aM, lowC, bj, kill, bG, setCells, Nat.reduceLeDiff, lowA, bn, ax, av, atO, cy, cx, bne, ↓ao, ↓am, ty3, ty4, ty71, ty73, ty130, ↓aa _ _ _ _ 4, ↓aa _ _ _ _ 6, ↓aa _ _ _ _ 7, ↓bg _ _ _ _ 8, ↓aa _ _ _ _ 9, ↓aa _ _ _ _ 5])
theorem r_rlsameMachine (C : aj) (k_rlsameStore : K_rlsameStore C) (k_rlsameReply : K_rlsameReply C) (p0 : GMachine) (p1 : GMachine) (r : Bool) (hF : rlsameMachine p0 p1 = some r) : cR TT C.wide (evW TT C.wide n48 b48) n48 Try.f48.results.toList (aU Try.f48) [.agg [.v (.i .i64 p0.fStore.fNow), .v (.sl 8 (ah GEntry.row p0.fStore.fEntries)), .v (.i .i64 p0.fNext), .v (.sl 7 (ah GClient.row p0.fClients))], .agg [.v (.i .i64 p1.fStore.fNow), .v (.sl 8 (ah GEntry.row p1.fStore.fEntries)), .v (.i .i64 p1.fNext), .v (.sl 7 (ah GClient.row p1.fClients))]] [] = some (.v (.b r), []) := by
  revert hF
  unfold rlsameMachine
  refine az fun x1 h1 => ?_
  have g1 := rg_rlsameMachine_k1 C k_rlsameStore p0 p1 _ rfl _ h1
  try simp only [ak] at g1
  refine aX (fun h2 => ?_) (fun h2 => ?_)
  focus
    rintro ⟨⟩
  rotate_left 1
  refine az ?_
  rintro (⟨x2, x3⟩ | _) h3
  focus
    dsimp only
    have g2 := cH _ _ (sl_rlsameMachine_0 C k_rlsameReply p0 p1) h3
    try simp only [hd_rlsameMachine_0, ou_rlsameMachine_0] at g2
    rintro ⟨⟩
  rotate_left 1
  dsimp only
  have g3 := cH _ _ (sl_rlsameMachine_0 C k_rlsameReply p0 p1) h3
  try simp only [hd_rlsameMachine_0, ou_rlsameMachine_0] at g3
  rintro ⟨⟩
  all_goals (rw [bk]; show cC _ _ _ (aH _ _ _ _ (Code.seq _ _) _) = _; simp (maxSteps := 4000000) only [*, res48, n48a, n48A, n48k, n48K, n48ro, ↓RP, RB, enter, be, bf, aJ, Mx.bl, opnd, Mx.bI, Nat.reduceBEq, bQ, Mx.fit, bP, co, toVs, cellsOf, toV, aN, aA, ay, Mx.put, ofConst, ofCell, Mx.prune, killB, List.map, aC, bu, bx, cA, bS, bJ, aM, lowC, ax, av, atO, ↓ao, ↓am, ty3, ty4, ty73, ↓aa _ _ _ _ 0, ↓bg _ _ _ _ 1, ↓aa _ _ _ _ 2, ↓aa _ _ _ _ 3, ↓aa _ _ _ _ 10])
def n14K : List (Nat × List Nat) := [(0, [1]), (1, [1, 3]), (2, [1, 3, 4, 5, 13]), (3, [1, 3, 4, 5, 6, 7, 13, 18]), (4, [2])]
def n14 : cL where
  keep := ax n14K
  ro := fun t => t == 1
  mv := fun _ => false
  give := fun _ => false
  free := fun _ => []
theorem n14k (i : Nat) : n14.keep i = ax n14K i := rfl
theorem n14ro (t : Nat) : n14.ro t = (t == 1) := rfl
theorem n14mv (t : Nat) : n14.mv t = (false) := rfl
theorem res14 : Try.f14.results.toList = [.tmp 2] := rfl
noncomputable def b14 : Code := aU Try.f14
theorem rg_rlWireEncodes_k4 (C : aj) (k_rlsameMachine : K_rlsameMachine C) (p0 : GMachine) (p1 : List Int) (p2 : Int) (p3 : List Int) (p4 : Int) (p5 : GMachine) (c : Code) (ho : cD 0 4 b14 = some c) (r : Bool) (hF : ck_rlWireEncodes_k4 p0 p1 p2 p3 p4 p5 = some r) : @cV TT C.wide (evW TT C.wide n14 b14) n14 0 4 ⟨[(1, .rp [.i .i64 p0.fStore.fNow, .sl 8 (ah GEntry.row p0.fStore.fEntries), .i .i64 p0.fNext, .sl 7 (ah GClient.row p0.fClients)]), (3, .ptr 0 0), (4, .v (.sl 1 (ah cE p1))), (5, .v (.i .i64 p2)), (6, .v (.sl 1 (ah cE p3))), (7, .v (.i .i64 p4)), (13, .v (.sl 1 (ah cE p1))), (18, .v (.sl 1 (ah cE p3)))], [[.v (.i .i64 p5.fStore.fNow), .v (.sl 8 (ah GEntry.row p5.fStore.fEntries)), .v (.i .i64 p5.fNext), .v (.sl 7 (ah GClient.row p5.fClients))]]⟩ ⟨c⟩ = some (.normal, ⟨[(2, .v (.b r))], [[.v (.i .i64 p5.fStore.fNow), .v (.sl 8 (ah GEntry.row p5.fStore.fEntries)), .v (.i .i64 p5.fNext), .v (.sl 7 (ah GClient.row p5.fClients))]]⟩) := by
  have e := Option.some.inj (ho.symm.trans (rfl : cD 0 4 b14 = some _))
  subst e
  clear ho
  show aH _ _ _ _ _ _ = _
  revert hF
  unfold ck_rlWireEncodes_k4
  refine bF (fun h1 => ?_) (fun h1 => ?_)
  focus
    rintro ⟨⟩
  rotate_left 1
  refine aX (fun h2 => ?_) (fun _ => nofun)
  refine aX (fun h3 => ?_) (fun _ => nofun)
  refine bF (fun h4 => ?_) (fun h4 => ?_)
  focus
    rintro ⟨⟩
  rotate_left 1
  refine az fun x1 h5 => ?_
  have g1 := bK (k_rlsameMachine p5 p0 _ h5)
  try simp only [ak] at g1
  rintro ⟨⟩
  all_goals (simp (maxSteps := 4000000) only [*, n14k, n14K, n14mv, ↓RP, RB, aQ, aD, be, bf, aJ, Mx.bl, opnd, Mx.bI, Nat.reduceBEq, bQ, Mx.fit, co, aN, aA, ay, Mx.put, ofConst, ofCell, Mx.prune, killB, aK, putDst, aw, loadAt, bT, List.map, Nat.reduceAdd, cz, cB, aO, forceAll, lend, lendA, aS, aB, bR, bare, bW, ax, newB, cw, cy, cx, bh, aP, ty4, ty5, ty9, ty39, ty73, ↓aa _ _ _ _ 4])
theorem r_rlWireEncodes (C : aj) (k_rrMachineCopy_z : K_rrMachineCopy_z C) (k_wire_Encode : K_wire_Encode C) (k_rrMachineBytes : K_rrMachineBytes C) (k_rlsameMachine : K_rlsameMachine C) (p0 : GMachine) (r : Bool) (hF : rlWireEncodes p0 = some r) : cR TT C.wide (evW TT C.wide n14 b14) n14 Try.f14.results.toList (aU Try.f14) [.agg [.v (.i .i64 p0.fStore.fNow), .v (.sl 8 (ah GEntry.row p0.fStore.fEntries)), .v (.i .i64 p0.fNext), .v (.sl 7 (ah GClient.row p0.fClients))]] [] = some (.v (.b r), []) := by
  revert hF
  unfold rlWireEncodes
  refine az fun x1 h1 => ?_
  have g1 := bK (k_rrMachineCopy_z p0 _ h1)
  try simp only [ak] at g1
  refine az ?_
  rintro ⟨x2, x3⟩ h2
  dsimp only
  have g2 := bK (k_wire_Encode x1 _ h2)
  try simp only [] at g2
  refine az ?_
  rintro ⟨x4, x5⟩ h3
  dsimp only
  have g3 := bK (k_rrMachineBytes p0 _ h3)
  try simp only [] at g3
  refine az fun x6 h4 => ?_
  have g4 := rg_rlWireEncodes_k4 C k_rlsameMachine p0 x2 x3 x4 x5 x1 _ rfl _ h4
  try simp only [ak] at g4
  rintro ⟨⟩
  all_goals (rw [bk]; show cC _ _ _ (aH _ _ _ _ (Code.seq _ _) _) = _; simp (maxSteps := 4000000) only [*, res14, n14k, n14K, n14ro, n14mv, ↓RP, RB, enter, be, bf, aJ, Mx.bl, opnd, Mx.bI, Nat.reduceBEq, bQ, Mx.fit, bP, co, toVs, cellsOf, toV, aN, aA, ay, Mx.put, ofConst, ofCell, Mx.prune, killB, killBs, aK, putDst, aw, loadAt, bT, List.map, Nat.reduceAdd, aC, bu, bx, cA, bS, bJ, aM, lowC, forceAll, kill, lend, lendA, aS, aB, cg, bR, bare, bW, bG, setCells, Nat.reduceLeDiff, ax, newB, cw, bne, ↓ao, aP, ty4, ty25, ty39, ty73, ↓aa _ _ _ _ 0, ↓aa _ _ _ _ 1, ↓aa _ _ _ _ 2, ↓aa _ _ _ _ 3, ↓bg _ _ _ _ 4])
end Go.Proofs.Ytnjkmbogbfjffaa
