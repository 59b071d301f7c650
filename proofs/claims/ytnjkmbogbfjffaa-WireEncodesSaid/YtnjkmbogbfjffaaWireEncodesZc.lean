/- The code of these functions, run by the machine Mx, gives what the plain functions say, if their callees do (part 3). -/
import Derived.Test.YtnjkmbogbfjffaaWTy
import Derived.Test.YtnjkmbogbfjffaaWireEncodesD
set_option linter.unusedSimpArgs false
set_option linter.unusedVariables false
set_option linter.constructorNameAsVariable false
set_option linter.unnecessarySimpa false
set_option maxRecDepth 100000
set_option maxHeartbeats 40000000
namespace Go.Proofs.Ytnjkmbogbfjffaa
open Go Go.Mx Go.Proofs
def n46K : List (Nat × List Nat) := [(0, [1]), (1, [1, 4]), (2, [1, 4, 13]), (3, [2, 3, 101]), (4, [1, 5]), (5, [1, 5]), (6, [1, 5]), (7, [1, 5, 30, 31, 32]), (8, [1, 5, 30, 31, 32, 33]), (9, [1, 5, 7, 30, 31, 32]), (10, [1, 5, 7, 30, 31, 32]), (11, [1, 5, 7, 30, 31, 32]), (12, [1, 5, 30, 31, 32]), (13, [1, 5, 30, 31, 32]), (14, [1, 5]), (15, [1, 5]), (16, [5, 59, 60, 61]), (17, [5, 59, 60, 61, 62]), (18, [5, 9, 59, 60, 61]), (19, [5, 9, 59, 60, 61]), (20, [5, 9, 59, 60, 61]), (21, [5, 9, 59, 60, 61]), (22, [5, 9, 59, 60, 61]), (23, [5, 9, 59, 60, 61]), (24, [5, 9, 59, 60, 61]), (25, [5, 59, 60, 61]), (26, [5, 59, 60, 61]), (27, [2, 3, 101])]
def n46A : List (Nat × List Nat × List Nat) := [(13, [4], [1]), (33, [1, 5, 30, 31, 32], [1, 5]), (62, [5, 59, 60, 61], [5])]
def n46 : cL where
  keep := ax n46K
  ro := fun t => t == 1
  mv := fun t => t == 101
  give := fun _ => false
  free := fun _ => []
  alive := av n46A
theorem n46a (t : Nat) (x : Bool) (e : Env) (S : bH) : cK n46 t x ⟨e, S⟩ = atO (av n46A t x) e S := cF rfl t x e S
theorem n46k (i : Nat) : n46.keep i = ax n46K i := rfl
theorem n46ro (t : Nat) : n46.ro t = (t == 1) := rfl
theorem n46mv (t : Nat) : n46.mv t = (t == 101) := rfl
theorem n46gv (t : Nat) : n46.give t = (false) := rfl
theorem res46 : Try.f46.results.toList = [.tmp 2, .tmp 3] := rfl
noncomputable def b46 : Code := aU Try.f46
noncomputable def c46_0 : Code := (bE 0 (aU Try.f46)).getD .skip
theorem fl46_0 : bE 0 b46 = some c46_0 := rfl
noncomputable def c46_2 : Code := (bE 2 (aU Try.f46)).getD .skip
theorem fl46_2 : bE 2 b46 = some c46_2 := rfl
def hd_wire_Encode_0 (p0 : GMachine) (p1 : List GEntry) (p2 : Int) (s : Int × Gwriter) : St := ⟨[(1, .rp [.i .i64 p0.fStore.fNow, .sl 8 (ah GEntry.row p0.fStore.fEntries), .i .i64 p0.fNext, .sl 7 (ah GClient.row p0.fClients)]), (5, .ptr 0 0), (30, .v (.sl 8 (ah GEntry.row p1))), (31, .v (.i .i64 p2)), (32, .v (.i .i64 s.1))], [[.own 1 (ah cE s.2.fb)]]⟩
def ou_wire_Encode_0 (p0 : GMachine) (p1 : List GEntry) (p2 : Int) (r : Gwriter) : Option (Ex × St) := some (.normal, ⟨[(1, .rp [.i .i64 p0.fStore.fNow, .sl 8 (ah GEntry.row p0.fStore.fEntries), .i .i64 p0.fNext, .sl 7 (ah GClient.row p0.fClients)]), (5, .ptr 0 0)], [[.own 1 (ah cE r.fb)]]⟩)
theorem sl_wire_Encode_0 (C : aj) (k_wwtext : K_wwtext C) (k_wwvalue : K_wwvalue C) (k_wwnumber : K_wwnumber C) (p0 : GMachine) (p1 : List GEntry) (p2 : Int) (s : Int × Gwriter) (o : (Int × Gwriter) ⊕ Gwriter) (hF : st_wire_Encode_0 p0 p1 p2 s = some o) : evW TT C.wide n46 b46 0 (hd_wire_Encode_0 p0 p1 p2 s) = Sum.elim (fun s => evW TT C.wide n46 b46 0 (hd_wire_Encode_0 p0 p1 p2 s)) (fun r => ou_wire_Encode_0 p0 p1 p2 r) o := by
  obtain ⟨p3, p4⟩ := s
  rw [cG TT n46 fl46_0]
  revert hF
  unfold st_wire_Encode_0
  try dsimp only
  refine bF (fun h1 => ?_) (fun h1 => ?_)
  focus
    rintro ⟨⟩
  rotate_left 1
  refine az fun x1 h2 => ?_
  have g1 : decide (0 ≤ p3) = true := (cp h2).1
  have g2 : (ah GEntry.row p1)[(p3 : Int).toNat]? = some [.s x1.fKey, .i .i64 x1.fValue.fKind, .s x1.fValue.fText, .i .i64 x1.fValue.fCount, .sl 2 (ah GPair.row x1.fValue.fPairs), .sl 1 (ah bY x1.fValue.fItems), .sl 2 (ah GScore.row x1.fValue.fScores), .i .i64 x1.fUntil] := cn _ h2
  refine az fun x2 h3 => ?_
  have g3 : C.wide 96 [.ptr 0 0, .v (.s x1.fKey)] [[.own 1 (ah cE p4.fb)], [.v (.s x1.fKey), .v (.i .i64 x1.fValue.fKind), .v (.s x1.fValue.fText), .v (.i .i64 x1.fValue.fCount), .v (.sl 2 (ah GPair.row x1.fValue.fPairs)), .v (.sl 1 (ah bY x1.fValue.fItems)), .v (.sl 2 (ah GScore.row x1.fValue.fScores)), .v (.i .i64 x1.fUntil)]] = some (.tup [], [[.own 1 (ah cE x2.fb)], [.v (.s x1.fKey), .v (.i .i64 x1.fValue.fKind), .v (.s x1.fValue.fText), .v (.i .i64 x1.fValue.fCount), .v (.sl 2 (ah GPair.row x1.fValue.fPairs)), .v (.sl 1 (ah bY x1.fValue.fItems)), .v (.sl 2 (ah GScore.row x1.fValue.fScores)), .v (.i .i64 x1.fUntil)]]) := cX [0] rfl rfl rfl rfl (k_wwtext x1.fKey p4 _ h3) rfl rfl
  refine az fun x3 h4 => ?_
  have g4 : C.wide 97 [.ptr 0 0, .agg [.v (.i .i64 x1.fValue.fKind), .v (.s x1.fValue.fText), .v (.i .i64 x1.fValue.fCount), .v (.sl 2 (ah GPair.row x1.fValue.fPairs)), .v (.sl 1 (ah bY x1.fValue.fItems)), .v (.sl 2 (ah GScore.row x1.fValue.fScores))]] [[.own 1 (ah cE x2.fb)], [.v (.s x1.fKey), .v (.i .i64 x1.fValue.fKind), .v (.s x1.fValue.fText), .v (.i .i64 x1.fValue.fCount), .v (.sl 2 (ah GPair.row x1.fValue.fPairs)), .v (.sl 1 (ah bY x1.fValue.fItems)), .v (.sl 2 (ah GScore.row x1.fValue.fScores)), .v (.i .i64 x1.fUntil)]] = some (.tup [], [[.own 1 (ah cE x3.fb)], [.v (.s x1.fKey), .v (.i .i64 x1.fValue.fKind), .v (.s x1.fValue.fText), .v (.i .i64 x1.fValue.fCount), .v (.sl 2 (ah GPair.row x1.fValue.fPairs)), .v (.sl 1 (ah bY x1.fValue.fItems)), .v (.sl 2 (ah GScore.row x1.fValue.fScores)), .v (.i .i64 x1.fUntil)]]) := cX [0] rfl rfl rfl rfl (k_wwvalue x1.fValue x2 _ h4) rfl rfl
  refine az fun x4 h5 => ?_
  have g5 : C.wide 94 [.ptr 0 0, .v (.i .i64 x1.fUntil)] [[.own 1 (ah cE x3.fb)], [.v (.s x1.fKey), .v (.i .i64 x1.fValue.fKind), .v (.s x1.fValue.fText), .v (.i .i64 x1.fValue.fCount), .v (.sl 2 (ah GPair.row x1.fValue.fPairs)), .v (.sl 1 (ah bY x1.fValue.fItems)), .v (.sl 2 (ah GScore.row x1.fValue.fScores)), .v (.i .i64 x1.fUntil)]] = some (.tup [], [[.own 1 (ah cE x4.fb)], [.v (.s x1.fKey), .v (.i .i64 x1.fValue.fKind), .v (.s x1.fValue.fText), .v (.i .i64 x1.fValue.fCount), .v (.sl 2 (ah GPair.row x1.fValue.fPairs)), .v (.sl 1 (ah bY x1.fValue.fItems)), .v (.sl 2 (ah GScore.row x1.fValue.fScores)), .v (.i .i64 x1.fUntil)]]) := cX [0] rfl rfl rfl rfl (k_wwnumber x1.fUntil x3 _ h5) rfl rfl
  rintro ⟨⟩
  all_goals (show cN _ _ _ (aH _ _ _ _ (Code.seq _ _) _) = _; simp (maxSteps := 4000000) only [*, hd_wire_Encode_0, ou_wire_Encode_0, n46a, n46A, n46k, n46K, n46mv, n46gv, ↓RP, RB, ↓ai, be, bf, aJ, Mx.bl, opnd, Mx.bI, Nat.reduceBEq, bQ, Mx.fit, bP, co, cellsOf, aN, aA, ay, Mx.put, ofConst, ofCell, Mx.prune, killB, killBs, aK, putDst, aw, ar, aE, loadAt, bT, List.map, Nat.reduceAdd, cz, cB, bJ, aM, bD, lowC, forceAll, bj, kill, lend, lendA, aS, aB, bR, bare, bW, frz, cq, bw, argE, argsE, bG, setCells, Nat.reduceLT, Nat.reduceLeDiff, lowA, bn, ax, av, atO, newB, cw, cy, cx, bne, ↓ao, ↓am, ↓aa, aP, ty3, ty9, ty53, ty61, ty117])
def hd_wire_Encode_2 (p0 : List GClient) (p1 : Int) (s : Int × Gwriter) : St := ⟨[(5, .ptr 0 0), (59, .v (.sl 7 (ah GClient.row p0))), (60, .v (.i .i64 p1)), (61, .v (.i .i64 s.1))], [[.own 1 (ah cE s.2.fb)]]⟩
def ou_wire_Encode_2 (p0 : List GClient) (p1 : Int) (r : Gwriter) : Option (Ex × St) := some (.normal, ⟨[(5, .ptr 0 0)], [[.own 1 (ah cE r.fb)]]⟩)
theorem sl_wire_Encode_2 (C : aj) (k_wwnumber : K_wwnumber C) (k_wwsmall : K_wwsmall C) (k_wwtext : K_wwtext C) (k_wwtexts : K_wwtexts C) (p0 : List GClient) (p1 : Int) (s : Int × Gwriter) (o : (Int × Gwriter) ⊕ Gwriter) (hF : st_wire_Encode_2 p0 p1 s = some o) : evW TT C.wide n46 b46 2 (hd_wire_Encode_2 p0 p1 s) = Sum.elim (fun s => evW TT C.wide n46 b46 2 (hd_wire_Encode_2 p0 p1 s)) (fun r => ou_wire_Encode_2 p0 p1 r) o := by
  obtain ⟨p2, p3⟩ := s
  rw [cG TT n46 fl46_2]
  revert hF
  unfold st_wire_Encode_2
  try dsimp only
  refine bF (fun h1 => ?_) (fun h1 => ?_)
  focus
    rintro ⟨⟩
  rotate_left 1
  refine az fun x1 h2 => ?_
  unfold st_wire_Encode_2_c0
  have g1 : decide (0 ≤ p2) = true := (cp h2).1
  have g2 : (ah GClient.row p0)[(p2 : Int).toNat]? = some [.i .i64 x1.fId, .i .i64 x1.fSeq, .i .i64 x1.fTime, .i .i64 x1.fReply.fCode, .s x1.fReply.fText, .i .i64 x1.fReply.fN, .sl 1 (ah bY x1.fReply.fList)] := cn _ h2
  refine az fun x2 h3 => ?_
  have g3 : C.wide 94 [.ptr 0 0, .v (.i .i64 x1.fId)] [[.own 1 (ah cE p3.fb)], [.v (.i .i64 x1.fId), .v (.i .i64 x1.fSeq), .v (.i .i64 x1.fTime), .v (.i .i64 x1.fReply.fCode), .v (.s x1.fReply.fText), .v (.i .i64 x1.fReply.fN), .v (.sl 1 (ah bY x1.fReply.fList))]] = some (.tup [], [[.own 1 (ah cE x2.fb)], [.v (.i .i64 x1.fId), .v (.i .i64 x1.fSeq), .v (.i .i64 x1.fTime), .v (.i .i64 x1.fReply.fCode), .v (.s x1.fReply.fText), .v (.i .i64 x1.fReply.fN), .v (.sl 1 (ah bY x1.fReply.fList))]]) := cX [0] rfl rfl rfl rfl (k_wwnumber x1.fId p3 _ h3) rfl rfl
  refine az fun x3 h4 => ?_
  have g4 : C.wide 94 [.ptr 0 0, .v (.i .i64 x1.fSeq)] [[.own 1 (ah cE x2.fb)], [.v (.i .i64 x1.fId), .v (.i .i64 x1.fSeq), .v (.i .i64 x1.fTime), .v (.i .i64 x1.fReply.fCode), .v (.s x1.fReply.fText), .v (.i .i64 x1.fReply.fN), .v (.sl 1 (ah bY x1.fReply.fList))]] = some (.tup [], [[.own 1 (ah cE x3.fb)], [.v (.i .i64 x1.fId), .v (.i .i64 x1.fSeq), .v (.i .i64 x1.fTime), .v (.i .i64 x1.fReply.fCode), .v (.s x1.fReply.fText), .v (.i .i64 x1.fReply.fN), .v (.sl 1 (ah bY x1.fReply.fList))]]) := cX [0] rfl rfl rfl rfl (k_wwnumber x1.fSeq x2 _ h4) rfl rfl
  refine az fun x4 h5 => ?_
  have g5 : C.wide 94 [.ptr 0 0, .v (.i .i64 x1.fTime)] [[.own 1 (ah cE x3.fb)], [.v (.i .i64 x1.fId), .v (.i .i64 x1.fSeq), .v (.i .i64 x1.fTime), .v (.i .i64 x1.fReply.fCode), .v (.s x1.fReply.fText), .v (.i .i64 x1.fReply.fN), .v (.sl 1 (ah bY x1.fReply.fList))]] = some (.tup [], [[.own 1 (ah cE x4.fb)], [.v (.i .i64 x1.fId), .v (.i .i64 x1.fSeq), .v (.i .i64 x1.fTime), .v (.i .i64 x1.fReply.fCode), .v (.s x1.fReply.fText), .v (.i .i64 x1.fReply.fN), .v (.sl 1 (ah bY x1.fReply.fList))]]) := cX [0] rfl rfl rfl rfl (k_wwnumber x1.fTime x3 _ h5) rfl rfl
  refine az fun x5 h6 => ?_
  have g6 : C.wide 95 [.ptr 0 0, .v (.i .i64 x1.fReply.fCode)] [[.own 1 (ah cE x4.fb)], [.v (.i .i64 x1.fId), .v (.i .i64 x1.fSeq), .v (.i .i64 x1.fTime), .v (.i .i64 x1.fReply.fCode), .v (.s x1.fReply.fText), .v (.i .i64 x1.fReply.fN), .v (.sl 1 (ah bY x1.fReply.fList))]] = some (.tup [], [[.own 1 (ah cE x5.fb)], [.v (.i .i64 x1.fId), .v (.i .i64 x1.fSeq), .v (.i .i64 x1.fTime), .v (.i .i64 x1.fReply.fCode), .v (.s x1.fReply.fText), .v (.i .i64 x1.fReply.fN), .v (.sl 1 (ah bY x1.fReply.fList))]]) := cX [0] rfl rfl rfl rfl (k_wwsmall x1.fReply.fCode x4 _ h6) rfl rfl
  refine az fun x6 h7 => ?_
  have g7 : C.wide 96 [.ptr 0 0, .v (.s x1.fReply.fText)] [[.own 1 (ah cE x5.fb)], [.v (.i .i64 x1.fId), .v (.i .i64 x1.fSeq), .v (.i .i64 x1.fTime), .v (.i .i64 x1.fReply.fCode), .v (.s x1.fReply.fText), .v (.i .i64 x1.fReply.fN), .v (.sl 1 (ah bY x1.fReply.fList))]] = some (.tup [], [[.own 1 (ah cE x6.fb)], [.v (.i .i64 x1.fId), .v (.i .i64 x1.fSeq), .v (.i .i64 x1.fTime), .v (.i .i64 x1.fReply.fCode), .v (.s x1.fReply.fText), .v (.i .i64 x1.fReply.fN), .v (.sl 1 (ah bY x1.fReply.fList))]]) := cX [0] rfl rfl rfl rfl (k_wwtext x1.fReply.fText x5 _ h7) rfl rfl
  refine az fun x7 h8 => ?_
  have g8 : C.wide 94 [.ptr 0 0, .v (.i .i64 x1.fReply.fN)] [[.own 1 (ah cE x6.fb)], [.v (.i .i64 x1.fId), .v (.i .i64 x1.fSeq), .v (.i .i64 x1.fTime), .v (.i .i64 x1.fReply.fCode), .v (.s x1.fReply.fText), .v (.i .i64 x1.fReply.fN), .v (.sl 1 (ah bY x1.fReply.fList))]] = some (.tup [], [[.own 1 (ah cE x7.fb)], [.v (.i .i64 x1.fId), .v (.i .i64 x1.fSeq), .v (.i .i64 x1.fTime), .v (.i .i64 x1.fReply.fCode), .v (.s x1.fReply.fText), .v (.i .i64 x1.fReply.fN), .v (.sl 1 (ah bY x1.fReply.fList))]]) := cX [0] rfl rfl rfl rfl (k_wwnumber x1.fReply.fN x6 _ h8) rfl rfl
  refine az fun x8 h9 => ?_
  have g9 : C.wide 98 [.ptr 0 0, .v (.sl 1 (ah bY x1.fReply.fList))] [[.own 1 (ah cE x7.fb)], [.v (.i .i64 x1.fId), .v (.i .i64 x1.fSeq), .v (.i .i64 x1.fTime), .v (.i .i64 x1.fReply.fCode), .v (.s x1.fReply.fText), .v (.i .i64 x1.fReply.fN), .v (.sl 1 (ah bY x1.fReply.fList))]] = some (.tup [], [[.own 1 (ah cE x8.fb)], [.v (.i .i64 x1.fId), .v (.i .i64 x1.fSeq), .v (.i .i64 x1.fTime), .v (.i .i64 x1.fReply.fCode), .v (.s x1.fReply.fText), .v (.i .i64 x1.fReply.fN), .v (.sl 1 (ah bY x1.fReply.fList))]]) := cX [0] rfl rfl rfl rfl (k_wwtexts x1.fReply.fList x7 _ h9) rfl rfl
  rintro ⟨⟩
  all_goals (show cN _ _ _ (aH _ _ _ _ (Code.seq _ _) _) = _; simp (maxSteps := 4000000) only [*, hd_wire_Encode_2, ou_wire_Encode_2, n46a, n46A, n46k, n46K, n46mv, n46gv, ↓RP, RB, ↓ai, be, bf, aJ, Mx.bl, opnd, Mx.bI, Nat.reduceBEq, bQ, Mx.fit, bP, co, cellsOf, aN, aA, ay, Mx.put, ofConst, ofCell, Mx.prune, killB, killBs, aK, putDst, aw, ar, aE, loadAt, bT, List.map, Nat.reduceAdd, cz, cB, bJ, aM, bD, lowC, forceAll, bj, kill, lend, lendA, aS, aB, bR, bare, bW, frz, cq, bw, argE, argsE, bG, setCells, Nat.reduceLT, Nat.reduceLeDiff, lowA, bn, ax, av, atO, newB, cw, cy, cx, bne, ↓ao, ↓am, ↓aa, ty3, ty9, ty25, ty50, ty71, ty128, ty130])
theorem r_wire_Encode (C : aj) (k_clC : K_clC C) (k_wwnumber : K_wwnumber C) (k_wwsmall : K_wwsmall C) (k_wwtext : K_wwtext C) (k_wwvalue : K_wwvalue C) (k_wwtexts : K_wwtexts C) (p0 : GMachine) (r : (List Int) × Int) (hF : wire_Encode p0 = some r) : cR TT C.wide (evW TT C.wide n46 b46) n46 Try.f46.results.toList (aU Try.f46) [.agg [.v (.i .i64 p0.fStore.fNow), .v (.sl 8 (ah GEntry.row p0.fStore.fEntries)), .v (.i .i64 p0.fNext), .v (.sl 7 (ah GClient.row p0.fClients))]] [] = some (.tup [.v (.sl 1 (ah cE r.1)), .v (.i .i64 r.2)], []) := by
  revert hF
  unfold wire_Encode
  refine az fun x1 h1 => ?_
  have g1 := bK (k_clC p0 _ h1)
  try simp only [ak] at g1
  refine bF (fun h2 => ?_) (fun h2 => ?_)
  focus
    rintro ⟨⟩
  rotate_left 1
  refine az fun x2 h3 => ?_
  have g2 : C.wide 94 [.ptr 0 0, .v (.i .i64 p0.fStore.fNow)] [[.own 1 []]] = some (.tup [], [[.own 1 (ah cE x2.fb)]]) := cX [0] rfl rfl rfl rfl (k_wwnumber p0.fStore.fNow (Gwriter.mk []) _ h3) rfl rfl
  refine az fun x3 h4 => ?_
  have g3 : C.wide 95 [.ptr 0 0, .v (.i .i64 (p0.fStore.fEntries.length : Int))] [[.own 1 (ah cE x2.fb)]] = some (.tup [], [[.own 1 (ah cE x3.fb)]]) := cX [0] rfl rfl rfl rfl (k_wwsmall (p0.fStore.fEntries.length : Int) x2 _ h4) rfl rfl
  refine az ?_
  rintro x4 h5
  unfold wire_Encode_c0
  have g4 := cH _ _ (sl_wire_Encode_0 C k_wwtext k_wwvalue k_wwnumber p0 p0.fStore.fEntries (p0.fStore.fEntries.length : Int)) h5
  try simp only [hd_wire_Encode_0, ou_wire_Encode_0] at g4
  refine az fun x5 h6 => ?_
  have g5 : C.wide 94 [.ptr 0 0, .v (.i .i64 p0.fNext)] [[.own 1 (ah cE x4.fb)]] = some (.tup [], [[.own 1 (ah cE x5.fb)]]) := cX [0] rfl rfl rfl rfl (k_wwnumber p0.fNext x4 _ h6) rfl rfl
  refine az fun x6 h7 => ?_
  have g6 : C.wide 95 [.ptr 0 0, .v (.i .i64 (p0.fClients.length : Int))] [[.own 1 (ah cE x5.fb)]] = some (.tup [], [[.own 1 (ah cE x6.fb)]]) := cX [0] rfl rfl rfl rfl (k_wwsmall (p0.fClients.length : Int) x5 _ h7) rfl rfl
  refine az ?_
  rintro x7 h8
  have g7 := cH _ _ (sl_wire_Encode_2 C k_wwnumber k_wwsmall k_wwtext k_wwtexts p0.fClients (p0.fClients.length : Int)) h8
  try simp only [hd_wire_Encode_2, ou_wire_Encode_2] at g7
  rintro ⟨⟩
  all_goals (rw [bk]; show cC _ _ _ (aH _ _ _ _ (Code.seq _ _) _) = _; simp (maxSteps := 4000000) only [*, res46, n46a, n46A, n46k, n46K, n46ro, n46mv, n46gv, ↓RP, RB, enter, be, bf, aJ, Mx.bl, opnd, Mx.bI, Nat.reduceBEq, bQ, Mx.fit, bP, co, toVs, cellsOf, toV, aN, aA, ay, Mx.put, ofConst, ofCell, Mx.prune, killB, killBs, aK, putDst, aw, ar, aE, loadAt, bT, List.map, Nat.reduceAdd, cz, cB, cu, aC, bu, bx, cA, bJ, aM, bD, lowC, forceAll, kill, lend, lendA, aS, aB, bR, bare, bW, frz, cq, bw, argE, argsE, bG, ce, fill, setCells, takeParts, bq, ax, av, atO, newB, cw, cy, cx, bne, ↓ao, ↓am, ↓aa, ty3, ty25, ty39, ty61, ty63, ty71, ty73, ty91, ty93])
def n55K : List (Nat × List Nat) := [(0, [0, 1, 2]), (1, [6])]
def n55 : cL where
  keep := ax n55K
  ro := fun _ => false
  mv := fun _ => false
  give := fun _ => false
  free := fun _ => []
theorem n55k (i : Nat) : n55.keep i = ax n55K i := rfl
theorem res55 : Try.f55.results.toList = [.tmp 6] := rfl
noncomputable def b55 : Code := aU Try.f55
theorem r_rrIn (C : aj)  (p0 : Int) (p1 : Int) (p2 : Int) (r : Bool) (hF : rrIn p0 p1 p2 = some r) : cR TT C.wide (evW TT C.wide n55 b55) n55 Try.f55.results.toList (aU Try.f55) [.v (.i .i64 p0), .v (.i .i64 p1), .v (.i .i64 p2)] [] = some (.v (.b r), []) := by
  revert hF
  unfold rrIn
  refine aX (fun h1 => ?_) (fun h1 => ?_)
  focus
    rintro ⟨⟩
  rotate_left 1
  rintro ⟨⟩
  all_goals (rw [bk]; show cC _ _ _ (aH _ _ _ _ (Code.seq _ _) _) = _; simp (maxSteps := 4000000) only [*, res55, n55k, n55K, ↓RP, RB, enter, aQ, aD, be, bf, aJ, Mx.bl, opnd, Mx.bI, Nat.reduceBEq, bQ, Mx.fit, co, aN, aA, Mx.put, ofConst, ofCell, Mx.prune, killB, aK, putDst, aw, List.map, Nat.reduceAdd, cz, cB, aC, bu, bx, cA, bS, bJ, aM, lowC, ax, cy, cx, ↓ao, ↓aa, bh, ty4])
def n81K : List (Nat × List Nat) := [(0, [0]), (1, [2])]
def n81 : cL where
  keep := ax n81K
  ro := fun _ => false
  mv := fun _ => false
  give := fun _ => false
  free := fun _ => []
theorem n81k (i : Nat) : n81.keep i = ax n81K i := rfl
theorem res81 : Try.f81.results.toList = [.tmp 2] := rfl
noncomputable def b81 : Code := aU Try.f81
theorem r_rrfieldMay (C : aj) (k_rrIn : K_rrIn C) (p0 : ByteArray) (r : Bool) (hF : rrfieldMay p0 = some r) : cR TT C.wide (evW TT C.wide n81 b81) n81 Try.f81.results.toList (aU Try.f81) [.v (.s p0)] [] = some (.v (.b r), []) := by
  revert hF
  unfold rrfieldMay
  have g1 := bK (k_rrIn (p0.size : Int) 1 12 _ (rrIn_t (p0.size : Int) 1 12))
  have g2 : rrIn_v (p0.size : Int) 1 12 = (decide (1 ≤ (p0.size : Int)) && decide ((p0.size : Int) ≤ 12)) := by first | rfl | (simp [rrIn_v]; done) | (simp only [rrIn_v]; decide)
  try simp only [ak] at g1
  rintro ⟨⟩
  all_goals (rw [bk]; show cC _ _ _ (aH _ _ _ _ (Code.seq _ _) _) = _; simp (maxSteps := 4000000) only [*, res81, n81k, n81K, ↓RP, RB, enter, be, bf, aJ, Mx.bl, opnd, Mx.bI, Nat.reduceBEq, bQ, Mx.fit, co, aN, aA, Mx.put, ofConst, ofCell, Mx.prune, killB, aK, putDst, aw, List.map, cu, aC, bu, bx, cA, bS, bJ, aM, lowC, forceAll, lend, lendA, aS, aB, bR, bare, bW, ax, newB, cw, ↓ao, ↓aa, ty4, ty9])
def n79K : List (Nat × List Nat) := [(0, [1]), (1, [2])]
def n79 : cL where
  keep := ax n79K
  ro := fun t => t == 1
  mv := fun _ => false
  give := fun _ => false
  free := fun _ => []
theorem n79k (i : Nat) : n79.keep i = ax n79K i := rfl
theorem n79ro (t : Nat) : n79.ro t = (t == 1) := rfl
theorem n79mv (t : Nat) : n79.mv t = (false) := rfl
theorem res79 : Try.f79.results.toList = [.tmp 2] := rfl
noncomputable def b79 : Code := aU Try.f79
theorem r_rrsizeOf (C : aj)  (p0 : GValue) (r : Int) (hF : rrsizeOf p0 = some r) : cR TT C.wide (evW TT C.wide n79 b79) n79 Try.f79.results.toList (aU Try.f79) [.agg [.v (.i .i64 p0.fKind), .v (.s p0.fText), .v (.i .i64 p0.fCount), .v (.sl 2 (ah GPair.row p0.fPairs)), .v (.sl 1 (ah bY p0.fItems)), .v (.sl 2 (ah GScore.row p0.fScores))]] [] = some (.v (.i .i64 r), []) := by
  revert hF
  unfold rrsizeOf
  rintro ⟨⟩
  all_goals (rw [bk]; show cC _ _ _ (aH _ _ _ _ (Code.seq _ _) _) = _; simp (maxSteps := 4000000) only [*, res79, n79k, n79K, n79ro, n79mv, ↓RP, RB, enter, be, bf, aJ, Mx.bl, opnd, Mx.bI, Nat.reduceBEq, bQ, Mx.fit, bP, co, toVs, cellsOf, toV, aN, aA, ay, Mx.put, ofConst, ofCell, Mx.prune, killB, aK, putDst, aw, aE, loadAt, bT, List.map, cz, cB, cu, aC, bu, bx, cA, bS, bJ, aM, lowC, ax, cy, cx, ↓ao, ↓aa, ty3, ty49, ty50, ty51, ty53])
def n80K : List (Nat × List Nat) := [(0, [0]), (1, [2])]
def n80 : cL where
  keep := ax n80K
  ro := fun _ => false
  mv := fun _ => false
  give := fun _ => false
  free := fun _ => []
theorem n80k (i : Nat) : n80.keep i = ax n80K i := rfl
theorem res80 : Try.f80.results.toList = [.tmp 2] := rfl
noncomputable def b80 : Code := aU Try.f80
theorem r_rrtextMay (C : aj)  (p0 : ByteArray) (r : Bool) (hF : rrtextMay p0 = some r) : cR TT C.wide (evW TT C.wide n80 b80) n80 Try.f80.results.toList (aU Try.f80) [.v (.s p0)] [] = some (.v (.b r), []) := by
  revert hF
  unfold rrtextMay
  rintro ⟨⟩
  all_goals (rw [bk]; show cC _ _ _ (aH _ _ _ _ (Code.seq _ _) _) = _; simp (maxSteps := 4000000) only [*, res80, n80k, n80K, ↓RP, RB, enter, be, bf, aJ, Mx.bl, opnd, Mx.bI, Nat.reduceBEq, bQ, Mx.fit, co, aN, aA, Mx.put, ofConst, ofCell, Mx.prune, killB, aK, putDst, aw, List.map, cz, cB, cu, aC, bu, bx, cA, bS, bJ, aM, lowC, ax, cy, cx, ↓ao, ↓aa, ty4, ty9])
def n82K : List (Nat × List Nat) := [(0, [0]), (1, [2])]
def n82 : cL where
  keep := ax n82K
  ro := fun _ => false
  mv := fun _ => false
  give := fun _ => false
  free := fun _ => []
theorem n82k (i : Nat) : n82.keep i = ax n82K i := rfl
theorem res82 : Try.f82.results.toList = [.tmp 2] := rfl
noncomputable def b82 : Code := aU Try.f82
theorem r_rrcountMay (C : aj) (k_rrIn : K_rrIn C) (p0 : Int) (r : Bool) (hF : rrcountMay p0 = some r) : cR TT C.wide (evW TT C.wide n82 b82) n82 Try.f82.results.toList (aU Try.f82) [.v (.i .i64 p0)] [] = some (.v (.b r), []) := by
  revert hF
  unfold rrcountMay
  have g1 := bK (k_rrIn p0 (-1099511627776) 1099511627776 _ (rrIn_t p0 (-1099511627776) 1099511627776))
  have g2 : rrIn_v p0 (-1099511627776) 1099511627776 = (decide ((-1099511627776) ≤ p0) && decide (p0 ≤ 1099511627776)) := by first | rfl | (simp [rrIn_v]; done) | (simp only [rrIn_v]; decide)
  try simp only [ak] at g1
  rintro ⟨⟩
  all_goals (rw [bk]; show cC _ _ _ (aH _ _ _ _ (Code.seq _ _) _) = _; simp (maxSteps := 4000000) only [*, res82, n82k, n82K, ↓RP, RB, enter, be, bf, aJ, Mx.bl, opnd, Mx.bI, Nat.reduceBEq, bQ, Mx.fit, co, aN, aA, Mx.put, ofConst, ofCell, Mx.prune, killB, aK, putDst, aw, List.map, aC, bu, bx, cA, bS, bJ, aM, lowC, forceAll, lend, lendA, aS, aB, bR, bare, bW, Int.reduceNeg, ax, newB, cw, ↓ao, ↓aa, ty4])
def n83K : List (Nat × List Nat) := [(0, [2, 3]), (1, [2, 3, 9]), (2, [4]), (3, [4])]
def n83A : List (Nat × List Nat × List Nat) := [(9, [2, 3], [2, 3])]
def n83 : cL where
  keep := ax n83K
  ro := fun t => t == 2 || t == 3
  mv := fun _ => false
  give := fun _ => false
  free := fun _ => []
  alive := av n83A
theorem n83a (t : Nat) (x : Bool) (e : Env) (S : bH) : cK n83 t x ⟨e, S⟩ = atO (av n83A t x) e S := cF rfl t x e S
theorem n83k (i : Nat) : n83.keep i = ax n83K i := rfl
theorem n83ro (t : Nat) : n83.ro t = (t == 2 || t == 3) := rfl
theorem n83mv (t : Nat) : n83.mv t = (false) := rfl
theorem res83 : Try.f83.results.toList = [.tmp 4] := rfl
noncomputable def b83 : Code := aU Try.f83
theorem r_rrscoreAhead (C : aj)  (p0 : GScore) (p1 : GScore) (r : Bool) (hF : rrscoreAhead p0 p1 = some r) : cR TT C.wide (evW TT C.wide n83 b83) n83 Try.f83.results.toList (aU Try.f83) [.agg [.v (.s p0.fMember), .v (.i .i64 p0.fN)], .agg [.v (.s p1.fMember), .v (.i .i64 p1.fN)]] [] = some (.v (.b r), []) := by
  revert hF
  unfold rrscoreAhead
  refine aX (fun h1 => ?_) (fun h1 => ?_)
  focus
    rintro ⟨⟩
  rotate_left 1
  rintro ⟨⟩
  all_goals (rw [bk]; show cC _ _ _ (aH _ _ _ _ (Code.seq _ _) _) = _; simp (maxSteps := 4000000) only [*, res83, n83a, n83A, n83k, n83K, n83ro, n83mv, ↓RP, RB, enter, be, bf, aJ, Mx.bl, opnd, Mx.bI, Nat.reduceBEq, bQ, Mx.fit, bP, co, toVs, cellsOf, toV, aN, aA, ay, Mx.put, ofConst, ofCell, Mx.prune, killB, aK, putDst, aw, aE, loadAt, bT, List.map, cz, cB, aC, bu, bx, cA, bS, bJ, aM, lowC, ax, av, atO, cy, cx, bne, ↓ao, ↓am, ↓aa, ty3, ty4, ty9, ty105])
def n84K : List (Nat × List Nat) := [(0, [0, 1]), (1, [0, 1, 5]), (2, [0, 1, 5, 9]), (3, [0, 1, 5]), (4, [0, 1, 5, 18]), (5, [4]), (6, [4])]
def n84A : List (Nat × List Nat × List Nat) := [(9, [0, 1, 5], []), (18, [5], [0, 1, 5])]
def n84 : cL where
  keep := ax n84K
  ro := fun _ => false
  mv := fun _ => false
  give := fun _ => false
  free := fun _ => []
  alive := av n84A
theorem n84a (t : Nat) (x : Bool) (e : Env) (S : bH) : cK n84 t x ⟨e, S⟩ = atO (av n84A t x) e S := cF rfl t x e S
theorem n84k (i : Nat) : n84.keep i = ax n84K i := rfl
theorem n84mv (t : Nat) : n84.mv t = (false) := rfl
theorem res84 : Try.f84.results.toList = [.tmp 4] := rfl
noncomputable def b84 : Code := aU Try.f84
noncomputable def c84_0 : Code := (bE 0 (aU Try.f84)).getD .skip
theorem fl84_0 : bE 0 b84 = some c84_0 := rfl
def hd_rrmemberAt_0 (p0 : List GScore) (p1 : ByteArray) (s : Int) : St := ⟨[(0, .v (.sl 2 (ah GScore.row p0))), (1, .v (.s p1)), (5, .v (.i .i64 s))], []⟩
def ou_rrmemberAt_0 (p0 : List GScore) (p1 : ByteArray) (r : Int ⊕ Unit) : Option (Ex × St) := match r with
  | .inl r => some (.ret, ⟨[(4, .v (.i .i64 r))], []⟩)
  | .inr r => some (.normal, ⟨[], []⟩)
theorem sl_rrmemberAt_0 (C : aj)  (p0 : List GScore) (p1 : ByteArray) (p2 : Int) (o : Int ⊕ (Int ⊕ Unit)) (hF : st_rrmemberAt_0 p0 p1 p2 = some o) : evW TT C.wide n84 b84 0 (hd_rrmemberAt_0 p0 p1 p2) = Sum.elim (fun s => evW TT C.wide n84 b84 0 (hd_rrmemberAt_0 p0 p1 s)) (fun r => ou_rrmemberAt_0 p0 p1 r) o := by
  rw [cG TT n84 fl84_0]
  revert hF
  unfold st_rrmemberAt_0
  try dsimp only
  refine bF (fun h1 => ?_) (fun h1 => ?_)
  focus
    rintro ⟨⟩
  rotate_left 1
  refine az fun x1 h2 => ?_
  have g1 : decide (0 ≤ p2) = true := (cp h2).1
  have g2 : (ah GScore.row p0)[(p2 : Int).toNat]? = some [.s x1.fMember, .i .i64 x1.fN] := cn _ h2
  refine aX (fun h3 => ?_) (fun h3 => ?_)
  focus
    rintro ⟨⟩
  rotate_left 1
  rintro ⟨⟩
  all_goals (show cN _ _ _ (aH _ _ _ _ (Code.seq _ _) _) = _; simp (maxSteps := 4000000) only [*, hd_rrmemberAt_0, ou_rrmemberAt_0, n84a, n84A, n84k, n84K, n84mv, ↓RP, RB, ↓ai, be, bf, aJ, Mx.bl, opnd, Mx.bI, Nat.reduceBEq, bQ, Mx.fit, co, aN, aA, ay, Mx.put, ofConst, ofCell, Mx.prune, killB, aK, putDst, aw, aE, loadAt, bT, List.map, cz, cB, cu, bj, ax, av, atO, cy, cx, ↓ao, ↓am, ↓aa, ty3, ty9, ty51, ty105])
theorem r_rrmemberAt (C : aj)  (p0 : List GScore) (p1 : ByteArray) (r : Int) (hF : rrmemberAt p0 p1 = some r) : cR TT C.wide (evW TT C.wide n84 b84) n84 Try.f84.results.toList (aU Try.f84) [.v (.sl 2 (ah GScore.row p0)), .v (.s p1)] [] = some (.v (.i .i64 r), []) := by
  revert hF
  unfold rrmemberAt
  refine az ?_
  rintro (x1 | _) h1
  focus
    dsimp only
    have g1 := cH _ _ (sl_rrmemberAt_0 C p0 p1) h1
    try simp only [hd_rrmemberAt_0, ou_rrmemberAt_0] at g1
    rintro ⟨⟩
  rotate_left 1
  dsimp only
  have g2 := cH _ _ (sl_rrmemberAt_0 C p0 p1) h1
  try simp only [hd_rrmemberAt_0, ou_rrmemberAt_0] at g2
  rintro ⟨⟩
  all_goals (rw [bk]; show cC _ _ _ (aH _ _ _ _ (Code.seq _ _) _) = _; simp (maxSteps := 4000000) only [*, res84, n84k, n84K, ↓RP, RB, enter, be, bf, aJ, Mx.bl, opnd, Mx.bI, Nat.reduceBEq, bQ, Mx.fit, co, aN, aA, Mx.put, ofConst, ofCell, Mx.prune, killB, List.map, aC, bu, bx, cA, bS, bJ, aM, lowC, Int.reduceNeg, ax, ↓ao, ↓aa, ty3])
def n30K : List (Nat × List Nat) := [(0, [1]), (1, [1, 14]), (2, [2]), (3, [1, 3]), (4, [1, 72]), (5, [2]), (6, [1, 87]), (7, [2]), (8, [1, 4]), (9, [1, 4, 92]), (10, [1, 4]), (11, [1, 4, 101]), (12, [2]), (13, [1, 5]), (14, [1, 5, 106]), (15, [1, 5]), (16, [1, 5, 126]), (17, [2]), (18, [1, 6]), (19, [1, 6, 131]), (20, [1, 6]), (21, [1, 6, 141]), (22, [2]), (23, [1, 145]), (24, [2]), (25, [1, 7]), (26, [1, 7, 150]), (27, [1, 7]), (28, [1, 7, 160]), (29, [2]), (30, [1, 8]), (31, [1, 8, 165]), (32, [1, 8]), (33, [1, 8, 181]), (34, [2]), (35, [1, 9]), (36, [1, 9, 191]), (37, [1, 9]), (38, [1, 9, 205]), (39, [2]), (40, [1, 10]), (41, [1, 10, 210]), (42, [1, 10]), (43, [1, 10, 239]), (44, [2]), (45, [2])]
def n30A : List (Nat × List Nat × List Nat) := [(14, [], [1]), (72, [], [1]), (87, [], [1]), (92, [1, 4], [1]), (101, [], [1, 4]), (106, [1, 5], [1]), (126, [], [1, 5]), (131, [1, 6], [1]), (141, [], [1, 6]), (145, [], [1]), (150, [1, 7], [1]), (160, [], [1, 7]), (165, [1, 8], [1]), (181, [], [1, 8]), (191, [1, 9], [1]), (205, [], [1, 9]), (210, [1, 10], []), (239, [], [1, 10])]
def n30 : cL where
  keep := ax n30K
  ro := fun t => t == 1
  mv := fun _ => false
  give := fun _ => false
  free := fun i => match i with | 33 => [(0, 2), (1, 2), (0, 3), (1, 3), (0, 7), (1, 7), (2, 7), (3, 7), (4, 7), (5, 7), (6, 7), (0, 8), (1, 8), (2, 8), (3, 8), (4, 8), (5, 8), (6, 8), (0, 9), (1, 9), (2, 9), (3, 9), (4, 9), (5, 9), (6, 9), (7, 9), (8, 9), (0, 10), (1, 10), (2, 10), (3, 10), (4, 10), (5, 10), (6, 10), (0, 11), (1, 11), (2, 11), (3, 11), (4, 11), (5, 11), (6, 11), (0, 12), (1, 12), (2, 12), (3, 12), (4, 12), (5, 12), (6, 12)] | 38 => [(0, 2), (1, 2), (0, 3), (1, 3), (0, 6), (1, 6), (2, 6), (3, 6), (4, 6), (5, 6), (0, 7), (1, 7), (2, 7), (3, 7), (4, 7), (5, 7), (0, 8), (1, 8), (2, 8), (3, 8), (4, 8), (5, 8), (6, 8), (7, 8), (0, 9), (1, 9), (2, 9), (3, 9), (4, 9), (5, 9), (0, 10), (1, 10), (2, 10), (3, 10), (4, 10), (5, 10)] | 43 => [(0, 2), (1, 2), (0, 3), (1, 3), (0, 6), (1, 6), (2, 6), (3, 6), (4, 6), (5, 6), (0, 7), (1, 7), (2, 7), (3, 7), (4, 7), (5, 7), (0, 8), (1, 8), (2, 8), (3, 8), (4, 8), (5, 8), (6, 8), (7, 8), (0, 9), (1, 9), (2, 9), (3, 9), (4, 9), (5, 9), (0, 10), (1, 10), (2, 10), (3, 10), (4, 10), (5, 10), (14, 16), (15, 16), (14, 18), (15, 18), (16, 18), (17, 18), (14, 19), (15, 19), (16, 19), (17, 19), (14, 20), (15, 20), (16, 20), (17, 20), (18, 20), (19, 20), (14, 21), (15, 21), (16, 21), (17, 21), (14, 22), (15, 22), (16, 22), (17, 22), (14, 23), (15, 23), (16, 23), (17, 23)] | _ => []
  alive := av n30A
theorem n30a (t : Nat) (x : Bool) (e : Env) (S : bH) : cK n30 t x ⟨e, S⟩ = atO (av n30A t x) e S := cF rfl t x e S
theorem n30k (i : Nat) : n30.keep i = ax n30K i := rfl
theorem n30ro (t : Nat) : n30.ro t = (t == 1) := rfl
theorem n30mv (t : Nat) : n30.mv t = (false) := rfl
theorem n30f33 : n30.free 33 = [(0, 2), (1, 2), (0, 3), (1, 3), (0, 7), (1, 7), (2, 7), (3, 7), (4, 7), (5, 7), (6, 7), (0, 8), (1, 8), (2, 8), (3, 8), (4, 8), (5, 8), (6, 8), (0, 9), (1, 9), (2, 9), (3, 9), (4, 9), (5, 9), (6, 9), (7, 9), (8, 9), (0, 10), (1, 10), (2, 10), (3, 10), (4, 10), (5, 10), (6, 10), (0, 11), (1, 11), (2, 11), (3, 11), (4, 11), (5, 11), (6, 11), (0, 12), (1, 12), (2, 12), (3, 12), (4, 12), (5, 12), (6, 12)] := rfl
theorem n30f38 : n30.free 38 = [(0, 2), (1, 2), (0, 3), (1, 3), (0, 6), (1, 6), (2, 6), (3, 6), (4, 6), (5, 6), (0, 7), (1, 7), (2, 7), (3, 7), (4, 7), (5, 7), (0, 8), (1, 8), (2, 8), (3, 8), (4, 8), (5, 8), (6, 8), (7, 8), (0, 9), (1, 9), (2, 9), (3, 9), (4, 9), (5, 9), (0, 10), (1, 10), (2, 10), (3, 10), (4, 10), (5, 10)] := rfl
theorem n30f43 : n30.free 43 = [(0, 2), (1, 2), (0, 3), (1, 3), (0, 6), (1, 6), (2, 6), (3, 6), (4, 6), (5, 6), (0, 7), (1, 7), (2, 7), (3, 7), (4, 7), (5, 7), (0, 8), (1, 8), (2, 8), (3, 8), (4, 8), (5, 8), (6, 8), (7, 8), (0, 9), (1, 9), (2, 9), (3, 9), (4, 9), (5, 9), (0, 10), (1, 10), (2, 10), (3, 10), (4, 10), (5, 10), (14, 16), (15, 16), (14, 18), (15, 18), (16, 18), (17, 18), (14, 19), (15, 19), (16, 19), (17, 19), (14, 20), (15, 20), (16, 20), (17, 20), (18, 20), (19, 20), (14, 21), (15, 21), (16, 21), (17, 21), (14, 22), (15, 22), (16, 22), (17, 22), (14, 23), (15, 23), (16, 23), (17, 23)] := rfl
theorem res30 : Try.f30.results.toList = [.tmp 2] := rfl
noncomputable def b30 : Code := aU Try.f30
noncomputable def c30_0 : Code := (bE 0 (aU Try.f30)).getD .skip
theorem fl30_0 : bE 0 b30 = some c30_0 := rfl
noncomputable def c30_2 : Code := (bE 2 (aU Try.f30)).getD .skip
theorem fl30_2 : bE 2 b30 = some c30_2 := rfl
noncomputable def c30_4 : Code := (bE 4 (aU Try.f30)).getD .skip
theorem fl30_4 : bE 4 b30 = some c30_4 := rfl
noncomputable def c30_6 : Code := (bE 6 (aU Try.f30)).getD .skip
theorem fl30_6 : bE 6 b30 = some c30_6 := rfl
noncomputable def c30_8 : Code := (bE 8 (aU Try.f30)).getD .skip
theorem fl30_8 : bE 8 b30 = some c30_8 := rfl
noncomputable def c30_10 : Code := (bE 10 (aU Try.f30)).getD .skip
theorem fl30_10 : bE 10 b30 = some c30_10 := rfl
noncomputable def c30_12 : Code := (bE 12 (aU Try.f30)).getD .skip
theorem fl30_12 : bE 12 b30 = some c30_12 := rfl
theorem rg_rrValueFault_k4 (C : aj)  (p0 : GValue) (c : Code) (ho : cD 0 4 b30 = some c) (r : Bool) (hF : ck_rrValueFault_k4 p0 = some r) : @cV TT C.wide (evW TT C.wide n30 b30) n30 0 4 ⟨[(1, .rp [.i .i64 p0.fKind, .s p0.fText, .i .i64 p0.fCount, .sl 2 (ah GPair.row p0.fPairs), .sl 1 (ah bY p0.fItems), .sl 2 (ah GScore.row p0.fScores)]), (3, .v (.b true))], []⟩ ⟨c⟩ = some (.normal, ⟨[(1, .rp [.i .i64 p0.fKind, .s p0.fText, .i .i64 p0.fCount, .sl 2 (ah GPair.row p0.fPairs), .sl 1 (ah bY p0.fItems), .sl 2 (ah GScore.row p0.fScores)]), (72, .v (.b r))], []⟩) := by
  have e := Option.some.inj (ho.symm.trans (rfl : cD 0 4 b30 = some _))
  subst e
  clear ho
  show aH _ _ _ _ _ _ = _
  revert hF
  unfold ck_rrValueFault_k4
  refine aX (fun h1 => ?_) (fun h1 => ?_)
  focus
    refine aX (fun h2 => ?_) (fun h2 => ?_)
    focus
      refine aX (fun h3 => ?_) (fun h3 => ?_)
      focus
        refine aX (fun h4 => ?_) (fun h4 => ?_)
        focus
          rintro ⟨⟩
        rotate_left 1
        rintro ⟨⟩
      rotate_left 2
      refine aX (fun h4 => ?_) (fun h4 => ?_)
      focus
        rintro ⟨⟩
      rotate_left 1
      refine aX (fun h5 => ?_) (fun h5 => ?_)
      focus
        rintro ⟨⟩
      rotate_left 1
      rintro ⟨⟩
    rotate_left 5
    unfold ck_rrValueFault_k4_c0
    refine bF (fun h3 => ?_) (fun h3 => ?_)
    focus
      rintro ⟨⟩
    rotate_left 1
    refine aX (fun h4 => ?_) (fun h4 => ?_)
    focus
      refine aX (fun h5 => ?_) (fun h5 => ?_)
      focus
        rintro ⟨⟩
      rotate_left 1
      rintro ⟨⟩
    rotate_left 2
    refine aX (fun h5 => ?_) (fun h5 => ?_)
    focus
      rintro ⟨⟩
    rotate_left 1
    refine aX (fun h6 => ?_) (fun h6 => ?_)
    focus
      rintro ⟨⟩
    rotate_left 1
    rintro ⟨⟩
  rotate_left 11
  unfold ck_rrValueFault_k4_c2
  refine bF (fun h2 => ?_) (fun h2 => ?_)
  focus
    rintro ⟨⟩
  rotate_left 1
  refine aX (fun h3 => ?_) (fun h3 => ?_)
  focus
    refine aX (fun h4 => ?_) (fun h4 => ?_)
    focus
      refine aX (fun h5 => ?_) (fun h5 => ?_)
      focus
        rintro ⟨⟩
      rotate_left 1
      rintro ⟨⟩
    rotate_left 2
    refine aX (fun h5 => ?_) (fun h5 => ?_)
    focus
      rintro ⟨⟩
    rotate_left 1
    refine aX (fun h6 => ?_) (fun h6 => ?_)
    focus
      rintro ⟨⟩
    rotate_left 1
    rintro ⟨⟩
  rotate_left 5
  unfold ck_rrValueFault_k4_c1
  refine bF (fun h4 => ?_) (fun h4 => ?_)
  focus
    rintro ⟨⟩
  rotate_left 1
  refine aX (fun h5 => ?_) (fun h5 => ?_)
  focus
    refine aX (fun h6 => ?_) (fun h6 => ?_)
    focus
      rintro ⟨⟩
    rotate_left 1
    rintro ⟨⟩
  rotate_left 2
  refine aX (fun h6 => ?_) (fun h6 => ?_)
  focus
    rintro ⟨⟩
  rotate_left 1
  refine aX (fun h7 => ?_) (fun h7 => ?_)
  focus
    rintro ⟨⟩
  rotate_left 1
  rintro ⟨⟩
  all_goals (simp (maxSteps := 4000000) only [*, n30k, n30K, n30mv, ↓RP, RB, aQ, aD, be, Mx.bl, opnd, Mx.bI, Nat.reduceBEq, bQ, aN, aA, ay, Mx.put, ofConst, ofCell, Mx.prune, killB, aK, putDst, aw, aE, loadAt, bT, List.map, cz, cB, cu, ax, cy, cx, bne, bh, ty3, ty9, ty49, ty51, ty53, ↓aa _ _ _ _ 4])
theorem rg_rrValueFault_k6 (C : aj) (k_rrsizeOf : K_rrsizeOf C) (k_rrIn : K_rrIn C) (k_rrtextMay : K_rrtextMay C) (p0 : GValue) (c : Code) (ho : cD 0 6 b30 = some c) (r : Bool) (hF : ck_rrValueFault_k6 p0 = some r) : @cV TT C.wide (evW TT C.wide n30 b30) n30 0 6 ⟨[(1, .rp [.i .i64 p0.fKind, .s p0.fText, .i .i64 p0.fCount, .sl 2 (ah GPair.row p0.fPairs), .sl 1 (ah bY p0.fItems), .sl 2 (ah GScore.row p0.fScores)])], []⟩ ⟨c⟩ = some (.normal, ⟨[(1, .rp [.i .i64 p0.fKind, .s p0.fText, .i .i64 p0.fCount, .sl 2 (ah GPair.row p0.fPairs), .sl 1 (ah bY p0.fItems), .sl 2 (ah GScore.row p0.fScores)]), (87, .v (.b r))], []⟩) := by
  have e := Option.some.inj (ho.symm.trans (rfl : cD 0 6 b30 = some _))
  subst e
  clear ho
  show aH _ _ _ _ _ _ = _
  revert hF
  unfold ck_rrValueFault_k6
  refine bF (fun h1 => ?_) (fun h1 => ?_)
  focus
    have g1 := bK (k_rrtextMay p0.fText _ (rrtextMay_t p0.fText))
    try simp only [ak] at g1
    rintro ⟨⟩
  rotate_left 1
  have g2 := bK (k_rrsizeOf p0 _ (rrsizeOf_t p0))
  have g3 := bK (k_rrIn (rrsizeOf_v p0) 1 20 _ (rrIn_t (rrsizeOf_v p0) 1 20))
  have g4 : rrIn_v (rrsizeOf_v p0) 1 20 = (decide (1 ≤ (rrsizeOf_v p0)) && decide ((rrsizeOf_v p0) ≤ 20)) := by first | rfl | (simp [rrIn_v]; done) | (simp only [rrIn_v]; decide)
  try simp only [ak] at g2 g3
  refine bF (fun h2 => ?_) (fun h2 => ?_)
  focus
    rintro ⟨⟩
  rotate_left 1
  refine aX (fun h3 => ?_) (fun h3 => ?_)
  focus
    have g1 := bK (k_rrtextMay p0.fText _ (rrtextMay_t p0.fText))
    try simp only [ak] at g1
    rintro ⟨⟩
  rotate_left 1
  rintro ⟨⟩
  all_goals (simp (maxSteps := 4000000) only [*, n30k, n30K, n30mv, ↓RP, RB, aQ, aD, be, Mx.bl, opnd, Mx.bI, Nat.reduceBEq, bQ, aN, aA, ay, Mx.put, ofConst, ofCell, Mx.prune, killB, aK, putDst, aw, aE, loadAt, bT, List.map, Nat.reduceAdd, cz, cB, forceAll, lend, lendA, aS, aB, bR, bare, bW, ax, newB, cw, cy, cx, bh, ty3, ty9, ty53, ↓aa _ _ _ _ 6])
def hd_rrValueFault_0 (p0 : GValue) (s : Int) : St := ⟨[(1, .rp [.i .i64 p0.fKind, .s p0.fText, .i .i64 p0.fCount, .sl 2 (ah GPair.row p0.fPairs), .sl 1 (ah bY p0.fItems), .sl 2 (ah GScore.row p0.fScores)]), (4, .v (.i .i64 s))], []⟩
def ou_rrValueFault_0 (p0 : GValue) (r : Unit ⊕ Unit) : Option (Ex × St) := match r with
  | .inl r => some (.ret, ⟨[(2, .v (.i .i64 1))], []⟩)
  | .inr r => some (.normal, ⟨[(1, .rp [.i .i64 p0.fKind, .s p0.fText, .i .i64 p0.fCount, .sl 2 (ah GPair.row p0.fPairs), .sl 1 (ah bY p0.fItems), .sl 2 (ah GScore.row p0.fScores)])], []⟩)
theorem sl_rrValueFault_0 (C : aj) (k_rrtextMay : K_rrtextMay C) (p0 : GValue) (p1 : Int) (o : Int ⊕ (Unit ⊕ Unit)) (hF : st_rrValueFault_0 p0 p1 = some o) : evW TT C.wide n30 b30 0 (hd_rrValueFault_0 p0 p1) = Sum.elim (fun s => evW TT C.wide n30 b30 0 (hd_rrValueFault_0 p0 s)) (fun r => ou_rrValueFault_0 p0 r) o := by
  rw [cG TT n30 fl30_0]
  revert hF
  unfold st_rrValueFault_0
  try dsimp only
  refine bF (fun h1 => ?_) (fun h1 => ?_)
  focus
    rintro ⟨⟩
  rotate_left 1
  refine az fun x1 h2 => ?_
  have g1 : decide (0 ≤ p1) = true := (cp h2).1
  have g2 : (ah bY p0.fItems)[(p1 : Int).toNat]? = some [.s x1] := cn _ h2
  have g3 := bK (k_rrtextMay x1 _ (rrtextMay_t x1))
  try simp only [ak] at g3
  refine aX (fun h3 => ?_) (fun h3 => ?_)
  focus
    rintro ⟨⟩
  rotate_left 1
  rintro ⟨⟩
  all_goals (show cN _ _ _ (aH _ _ _ _ (Code.seq _ _) _) = _; simp (maxSteps := 4000000) only [*, hd_rrValueFault_0, ou_rrValueFault_0, n30a, n30A, n30k, n30K, n30mv, ↓RP, RB, ↓ai, be, bf, aJ, Mx.bl, opnd, Mx.bI, Nat.reduceBEq, bQ, Mx.fit, co, aN, aA, ay, Mx.put, ofConst, ofCell, Mx.prune, killB, aK, putDst, aw, aE, loadAt, bT, List.map, cz, cB, cu, forceAll, bj, lend, lendA, aS, aB, bR, bare, bW, ax, av, atO, newB, cw, cy, cx, ↓ao, ↓am, ty3, ty9, ty25, ty50, ty53, ↓aa _ _ _ _ 9, ↓aa _ _ _ _ 11, ↓aa _ _ _ _ 12, ↓aa _ _ _ _ 10])
def hd_rrValueFault_2 (p0 : GValue) (s : Int) : St := ⟨[(1, .rp [.i .i64 p0.fKind, .s p0.fText, .i .i64 p0.fCount, .sl 2 (ah GPair.row p0.fPairs), .sl 1 (ah bY p0.fItems), .sl 2 (ah GScore.row p0.fScores)]), (5, .v (.i .i64 s))], []⟩
def ou_rrValueFault_2 (p0 : GValue) (r : Unit ⊕ Unit) : Option (Ex × St) := match r with
  | .inl r => some (.ret, ⟨[(2, .v (.i .i64 1))], []⟩)
  | .inr r => some (.normal, ⟨[(1, .rp [.i .i64 p0.fKind, .s p0.fText, .i .i64 p0.fCount, .sl 2 (ah GPair.row p0.fPairs), .sl 1 (ah bY p0.fItems), .sl 2 (ah GScore.row p0.fScores)])], []⟩)
theorem sl_rrValueFault_2 (C : aj) (k_rrfieldMay : K_rrfieldMay C) (k_rrtextMay : K_rrtextMay C) (p0 : GValue) (p1 : Int) (o : Int ⊕ (Unit ⊕ Unit)) (hF : st_rrValueFault_2 p0 p1 = some o) : evW TT C.wide n30 b30 2 (hd_rrValueFault_2 p0 p1) = Sum.elim (fun s => evW TT C.wide n30 b30 2 (hd_rrValueFault_2 p0 s)) (fun r => ou_rrValueFault_2 p0 r) o := by
  rw [cG TT n30 fl30_2]
  revert hF
  unfold st_rrValueFault_2
  try dsimp only
  refine bF (fun h1 => ?_) (fun h1 => ?_)
  focus
    rintro ⟨⟩
  rotate_left 1
  refine az fun x1 h2 => ?_
  have g1 : decide (0 ≤ p1) = true := (cp h2).1
  have g2 : (ah GPair.row p0.fPairs)[(p1 : Int).toNat]? = some [.s x1.fField, .s x1.fText] := cn _ h2
  have g3 := bK (k_rrfieldMay x1.fField _ (rrfieldMay_t x1.fField))
  try simp only [ak] at g3
  refine bF (fun h3 => ?_) (fun h3 => ?_)
  focus
    rintro ⟨⟩
  rotate_left 1
  have g4 := bK (k_rrtextMay x1.fText _ (rrtextMay_t x1.fText))
  try simp only [ak] at g4
  refine aX (fun h4 => ?_) (fun h4 => ?_)
  focus
    rintro ⟨⟩
  rotate_left 1
  rintro ⟨⟩
  all_goals (show cN _ _ _ (aH _ _ _ _ (Code.seq _ _) _) = _; simp (maxSteps := 4000000) only [*, hd_rrValueFault_2, ou_rrValueFault_2, n30a, n30A, n30k, n30K, n30mv, ↓RP, RB, ↓ai, aQ, aD, be, bf, aJ, Mx.bl, opnd, Mx.bI, Nat.reduceBEq, bQ, Mx.fit, co, aN, aA, ay, Mx.put, ofConst, ofCell, Mx.prune, killB, aK, putDst, aw, aE, loadAt, bT, List.map, cz, cB, cu, forceAll, bj, lend, lendA, aS, aB, bR, bare, bW, ax, av, atO, newB, cw, cy, cx, ↓ao, ↓am, bh, ty3, ty9, ty25, ty49, ty53, ty101, ↓aa _ _ _ _ 14, ↓aa _ _ _ _ 16, ↓aa _ _ _ _ 17, ↓aa _ _ _ _ 15])
def hd_rrValueFault_4 (p0 : GValue) (s : Int) : St := ⟨[(1, .rp [.i .i64 p0.fKind, .s p0.fText, .i .i64 p0.fCount, .sl 2 (ah GPair.row p0.fPairs), .sl 1 (ah bY p0.fItems), .sl 2 (ah GScore.row p0.fScores)]), (6, .v (.i .i64 s))], []⟩
def ou_rrValueFault_4 (p0 : GValue) (r : Unit ⊕ Unit) : Option (Ex × St) := match r with
  | .inl r => some (.ret, ⟨[(2, .v (.i .i64 1))], []⟩)
  | .inr r => some (.normal, ⟨[(1, .rp [.i .i64 p0.fKind, .s p0.fText, .i .i64 p0.fCount, .sl 2 (ah GPair.row p0.fPairs), .sl 1 (ah bY p0.fItems), .sl 2 (ah GScore.row p0.fScores)])], []⟩)
theorem sl_rrValueFault_4 (C : aj) (k_rrtextMay : K_rrtextMay C) (p0 : GValue) (p1 : Int) (o : Int ⊕ (Unit ⊕ Unit)) (hF : st_rrValueFault_4 p0 p1 = some o) : evW TT C.wide n30 b30 4 (hd_rrValueFault_4 p0 p1) = Sum.elim (fun s => evW TT C.wide n30 b30 4 (hd_rrValueFault_4 p0 s)) (fun r => ou_rrValueFault_4 p0 r) o := by
  rw [cG TT n30 fl30_4]
  revert hF
  unfold st_rrValueFault_4
  try dsimp only
  refine bF (fun h1 => ?_) (fun h1 => ?_)
  focus
    rintro ⟨⟩
  rotate_left 1
  refine az fun x1 h2 => ?_
  have g1 : decide (0 ≤ p1) = true := (cp h2).1
  have g2 : (ah GScore.row p0.fScores)[(p1 : Int).toNat]? = some [.s x1.fMember, .i .i64 x1.fN] := cn _ h2
  have g3 := bK (k_rrtextMay x1.fMember _ (rrtextMay_t x1.fMember))
  try simp only [ak] at g3
  refine aX (fun h3 => ?_) (fun h3 => ?_)
  focus
    rintro ⟨⟩
  rotate_left 1
  rintro ⟨⟩
  all_goals (show cN _ _ _ (aH _ _ _ _ (Code.seq _ _) _) = _; simp (maxSteps := 4000000) only [*, hd_rrValueFault_4, ou_rrValueFault_4, n30a, n30A, n30k, n30K, n30mv, ↓RP, RB, ↓ai, be, bf, aJ, Mx.bl, opnd, Mx.bI, Nat.reduceBEq, bQ, Mx.fit, co, aN, aA, ay, Mx.put, ofConst, ofCell, Mx.prune, killB, aK, putDst, aw, aE, loadAt, bT, List.map, cz, cB, cu, forceAll, bj, lend, lendA, aS, aB, bR, bare, bW, ax, av, atO, newB, cw, cy, cx, ↓ao, ↓am, ty3, ty9, ty25, ty51, ty53, ty105, ↓aa _ _ _ _ 19, ↓aa _ _ _ _ 21, ↓aa _ _ _ _ 22, ↓aa _ _ _ _ 20])
def hd_rrValueFault_6 (p0 : GValue) (s : Int) : St := ⟨[(1, .rp [.i .i64 p0.fKind, .s p0.fText, .i .i64 p0.fCount, .sl 2 (ah GPair.row p0.fPairs), .sl 1 (ah bY p0.fItems), .sl 2 (ah GScore.row p0.fScores)]), (7, .v (.i .i64 s))], []⟩
def ou_rrValueFault_6 (p0 : GValue) (r : Unit ⊕ Unit) : Option (Ex × St) := match r with
  | .inl r => some (.ret, ⟨[(2, .v (.i .i64 2))], []⟩)
  | .inr r => some (.normal, ⟨[(1, .rp [.i .i64 p0.fKind, .s p0.fText, .i .i64 p0.fCount, .sl 2 (ah GPair.row p0.fPairs), .sl 1 (ah bY p0.fItems), .sl 2 (ah GScore.row p0.fScores)])], []⟩)
theorem sl_rrValueFault_6 (C : aj) (k_rrcountMay : K_rrcountMay C) (p0 : GValue) (p1 : Int) (o : Int ⊕ (Unit ⊕ Unit)) (hF : st_rrValueFault_6 p0 p1 = some o) : evW TT C.wide n30 b30 6 (hd_rrValueFault_6 p0 p1) = Sum.elim (fun s => evW TT C.wide n30 b30 6 (hd_rrValueFault_6 p0 s)) (fun r => ou_rrValueFault_6 p0 r) o := by
  rw [cG TT n30 fl30_6]
  revert hF
  unfold st_rrValueFault_6
  try dsimp only
  refine bF (fun h1 => ?_) (fun h1 => ?_)
  focus
    rintro ⟨⟩
  rotate_left 1
  refine az fun x1 h2 => ?_
  have g1 : decide (0 ≤ p1) = true := (cp h2).1
  have g2 : (ah GScore.row p0.fScores)[(p1 : Int).toNat]? = some [.s x1.fMember, .i .i64 x1.fN] := cn _ h2
  have g3 := bK (k_rrcountMay x1.fN _ (rrcountMay_t x1.fN))
  try simp only [ak] at g3
  refine aX (fun h3 => ?_) (fun h3 => ?_)
  focus
    rintro ⟨⟩
  rotate_left 1
  rintro ⟨⟩
  all_goals (show cN _ _ _ (aH _ _ _ _ (Code.seq _ _) _) = _; simp (maxSteps := 4000000) only [*, hd_rrValueFault_6, ou_rrValueFault_6, n30a, n30A, n30k, n30K, n30mv, ↓RP, RB, ↓ai, be, bf, aJ, Mx.bl, opnd, Mx.bI, Nat.reduceBEq, bQ, Mx.fit, co, aN, aA, ay, Mx.put, ofConst, ofCell, Mx.prune, killB, aK, putDst, aw, aE, loadAt, bT, List.map, cz, cB, cu, forceAll, bj, lend, lendA, aS, aB, bR, bare, bW, ax, av, atO, newB, cw, cy, cx, ↓ao, ↓am, ty3, ty25, ty51, ty53, ty105, ↓aa _ _ _ _ 26, ↓aa _ _ _ _ 28, ↓aa _ _ _ _ 29, ↓aa _ _ _ _ 27])
def hd_rrValueFault_8 (p0 : GValue) (s : Int) : St := ⟨[(1, .rp [.i .i64 p0.fKind, .s p0.fText, .i .i64 p0.fCount, .sl 2 (ah GPair.row p0.fPairs), .sl 1 (ah bY p0.fItems), .sl 2 (ah GScore.row p0.fScores)]), (8, .v (.i .i64 s))], []⟩
def ou_rrValueFault_8 (p0 : GValue) (r : Unit ⊕ Unit) : Option (Ex × St) := match r with
  | .inl r => some (.ret, ⟨[(2, .v (.i .i64 10))], []⟩)
  | .inr r => some (.normal, ⟨[(1, .rp [.i .i64 p0.fKind, .s p0.fText, .i .i64 p0.fCount, .sl 2 (ah GPair.row p0.fPairs), .sl 1 (ah bY p0.fItems), .sl 2 (ah GScore.row p0.fScores)])], []⟩)
theorem sl_rrValueFault_8 (C : aj)  (p0 : GValue) (p1 : Int) (o : Int ⊕ (Unit ⊕ Unit)) (hF : st_rrValueFault_8 p0 p1 = some o) : evW TT C.wide n30 b30 8 (hd_rrValueFault_8 p0 p1) = Sum.elim (fun s => evW TT C.wide n30 b30 8 (hd_rrValueFault_8 p0 s)) (fun r => ou_rrValueFault_8 p0 r) o := by
  rw [cG TT n30 fl30_8]
  revert hF
  unfold st_rrValueFault_8
  try dsimp only
  refine bF (fun h1 => ?_) (fun h1 => ?_)
  focus
    rintro ⟨⟩
  rotate_left 1
  refine az fun x1 h2 => ?_
  have g1 : decide (0 ≤ (IntKind.i64.wrap (p1 - 1))) = true := (cp h2).1
  have g2 : (ah GPair.row p0.fPairs)[((IntKind.i64.wrap (p1 - 1)) : Int).toNat]? = some [.s x1.fField, .s x1.fText] := cn _ h2
  refine az fun x2 h3 => ?_
  have g3 : decide (0 ≤ p1) = true := (cp h3).1
  have g4 : (ah GPair.row p0.fPairs)[(p1 : Int).toNat]? = some [.s x2.fField, .s x2.fText] := cn _ h3
  refine aX (fun h4 => ?_) (fun h4 => ?_)
  focus
    rintro ⟨⟩
  rotate_left 1
  rintro ⟨⟩
  all_goals (show cN _ _ _ (aH _ _ _ _ (Code.seq _ _) _) = _; simp (maxSteps := 4000000) only [*, hd_rrValueFault_8, ou_rrValueFault_8, n30a, n30A, n30k, n30K, n30f33, n30mv, ↓RP, RB, ↓ai, be, bf, aJ, Mx.bl, opnd, Mx.bI, Nat.reduceBEq, bQ, Mx.fit, co, aN, aA, ay, Mx.put, ofConst, ofCell, Mx.prune, killB, aK, putDst, aw, aE, loadAt, bT, List.map, cz, cB, cu, bj, bG, cd, aI, aY, cm, bL, cv, ch, bo, aL, bm, Op.operands, ax, av, atO, cy, cx, ↓ao, ↓am, br, ty3, ty9, ty25, ty49, ty53, ty101, ↓aa _ _ _ _ 31, ↓aq _ _ _ _ 33, ↓aa _ _ _ _ 34, ↓aa _ _ _ _ 32])
def hd_rrValueFault_10 (p0 : GValue) (s : Int) : St := ⟨[(1, .rp [.i .i64 p0.fKind, .s p0.fText, .i .i64 p0.fCount, .sl 2 (ah GPair.row p0.fPairs), .sl 1 (ah bY p0.fItems), .sl 2 (ah GScore.row p0.fScores)]), (9, .v (.i .i64 s))], []⟩
def ou_rrValueFault_10 (p0 : GValue) (r : Unit ⊕ Unit) : Option (Ex × St) := match r with
  | .inl r => some (.ret, ⟨[(2, .v (.i .i64 10))], []⟩)
  | .inr r => some (.normal, ⟨[(1, .rp [.i .i64 p0.fKind, .s p0.fText, .i .i64 p0.fCount, .sl 2 (ah GPair.row p0.fPairs), .sl 1 (ah bY p0.fItems), .sl 2 (ah GScore.row p0.fScores)])], []⟩)
theorem sl_rrValueFault_10 (C : aj)  (p0 : GValue) (p1 : Int) (o : Int ⊕ (Unit ⊕ Unit)) (hF : st_rrValueFault_10 p0 p1 = some o) : evW TT C.wide n30 b30 10 (hd_rrValueFault_10 p0 p1) = Sum.elim (fun s => evW TT C.wide n30 b30 10 (hd_rrValueFault_10 p0 s)) (fun r => ou_rrValueFault_10 p0 r) o := by
  rw [cG TT n30 fl30_10]
  revert hF
  unfold st_rrValueFault_10
  try dsimp only
  refine bF (fun h1 => ?_) (fun h1 => ?_)
  focus
    rintro ⟨⟩
  rotate_left 1
  refine bF (fun h2 => ?_) (fun h2 => ?_)
  focus
    rintro ⟨⟩
  rotate_left 1
  refine az fun x1 h3 => ?_
  have g1 : decide (0 ≤ (IntKind.i64.wrap (p1 - 1))) = true := (cp h3).1
  have g2 : (ah bY p0.fItems)[((IntKind.i64.wrap (p1 - 1)) : Int).toNat]? = some [.s x1] := cn _ h3
  refine az fun x2 h4 => ?_
  have g3 : decide (0 ≤ p1) = true := (cp h4).1
  have g4 : (ah bY p0.fItems)[(p1 : Int).toNat]? = some [.s x2] := cn _ h4
  refine aX (fun h5 => ?_) (fun h5 => ?_)
  focus
    rintro ⟨⟩
  rotate_left 1
  rintro ⟨⟩
  all_goals (show cN _ _ _ (aH _ _ _ _ (Code.seq _ _) _) = _; simp (maxSteps := 4000000) only [*, hd_rrValueFault_10, ou_rrValueFault_10, n30a, n30A, n30k, n30K, n30f38, n30mv, ↓RP, RB, ↓ai, aQ, aD, be, bf, aJ, Mx.bl, opnd, Mx.bI, Nat.reduceBEq, bQ, Mx.fit, co, aN, aA, ay, Mx.put, ofConst, ofCell, Mx.prune, killB, aK, putDst, aw, aE, loadAt, bT, List.map, cz, cB, cu, bj, bG, cd, aI, aY, cm, bL, cv, ch, bo, aL, bm, Op.operands, ax, av, atO, cy, cx, ↓ao, ↓am, bh, br, ty3, ty9, ty25, ty50, ty53, ↓aa _ _ _ _ 36, ↓aq _ _ _ _ 38, ↓aa _ _ _ _ 39, ↓aa _ _ _ _ 37])
def hd_rrValueFault_12 (p0 : GValue) (s : Int) : St := ⟨[(1, .rp [.i .i64 p0.fKind, .s p0.fText, .i .i64 p0.fCount, .sl 2 (ah GPair.row p0.fPairs), .sl 1 (ah bY p0.fItems), .sl 2 (ah GScore.row p0.fScores)]), (10, .v (.i .i64 s))], []⟩
def ou_rrValueFault_12 (p0 : GValue) (r : Unit ⊕ Unit) : Option (Ex × St) := match r with
  | .inl r => some (.ret, ⟨[(2, .v (.i .i64 10))], []⟩)
  | .inr r => some (.normal, ⟨[], []⟩)
theorem sl_rrValueFault_12 (C : aj) (k_rrscoreAhead : K_rrscoreAhead C) (k_rrmemberAt : K_rrmemberAt C) (p0 : GValue) (p1 : Int) (o : Int ⊕ (Unit ⊕ Unit)) (hF : st_rrValueFault_12 p0 p1 = some o) : evW TT C.wide n30 b30 12 (hd_rrValueFault_12 p0 p1) = Sum.elim (fun s => evW TT C.wide n30 b30 12 (hd_rrValueFault_12 p0 s)) (fun r => ou_rrValueFault_12 p0 r) o := by
  rw [cG TT n30 fl30_12]
  revert hF
  unfold st_rrValueFault_12
  try dsimp only
  refine bF (fun h1 => ?_) (fun h1 => ?_)
  focus
    rintro ⟨⟩
  rotate_left 1
  refine az fun x1 h2 => ?_
  have g1 : decide (0 ≤ (IntKind.i64.wrap (p1 - 1))) = true := (cp h2).1
  have g2 : (ah GScore.row p0.fScores)[((IntKind.i64.wrap (p1 - 1)) : Int).toNat]? = some [.s x1.fMember, .i .i64 x1.fN] := cn _ h2
  refine az fun x2 h3 => ?_
  have g3 : decide (0 ≤ p1) = true := (cp h3).1
  have g4 : (ah GScore.row p0.fScores)[(p1 : Int).toNat]? = some [.s x2.fMember, .i .i64 x2.fN] := cn _ h3
  have g5 := bK (k_rrscoreAhead x1 x2 _ (rrscoreAhead_t x1 x2))
  try simp only [ak] at g5
  refine bF (fun h4 => ?_) (fun h4 => ?_)
  focus
    rintro ⟨⟩
  rotate_left 1
  refine aX (fun h5 => ?_) (fun _ => nofun)
  refine az fun x3 h6 => ?_
  have g6 := bK (k_rrmemberAt (dm p0.fScores 0 p1) x2.fMember _ h6)
  try simp only [ak] at g6
  refine aX (fun h7 => ?_) (fun h7 => ?_)
  focus
    rintro ⟨⟩
  rotate_left 1
  rintro ⟨⟩
  all_goals (show cN _ _ _ (aH _ _ _ _ (Code.seq _ _) _) = _; simp (maxSteps := 4000000) only [*, hd_rrValueFault_12, ou_rrValueFault_12, n30a, n30A, n30k, n30K, n30f43, n30mv, ↓RP, RB, ↓ai, aQ, aD, be, bf, aJ, Mx.bl, opnd, Mx.bI, Nat.reduceBEq, bQ, Mx.fit, co, aN, aA, ay, Mx.put, ofConst, ofCell, Mx.prune, killB, aK, putDst, aw, aE, loadAt, bT, List.map, Nat.reduceAdd, cz, cB, cu, forceAll, bound, ci, bj, bA, lend, lendA, aS, aB, bR, bare, bW, bG, cd, aI, aY, cm, bL, cv, ch, bo, aL, bm, Op.operands, ax, av, atO, newB, cw, cy, cx, ↓ao, ↓am, bh, br, Call.operands, ty3, ty9, ty25, ty51, ty53, ty105, ↓aa _ _ _ _ 41, ↓aq _ _ _ _ 43, ↓aa _ _ _ _ 44, ↓aa _ _ _ _ 42])
theorem rg_rrValueFault_k4v2 (C : aj)  (p0 : GValue) (p1 : Bool) (c : Code) (ho : cD 0 4 b30 = some c) (r : Bool) (hF : ck_rrValueFault_k4v2 p0 p1 = some r) : @cV TT C.wide (evW TT C.wide n30 b30) n30 0 4 ⟨[(1, .rp [.i .i64 p0.fKind, .s p0.fText, .i .i64 p0.fCount, .sl 2 (ah GPair.row p0.fPairs), .sl 1 (ah bY p0.fItems), .sl 2 (ah GScore.row p0.fScores)]), (3, .v (.b p1))], []⟩ ⟨c⟩ = some (.normal, ⟨[(1, .rp [.i .i64 p0.fKind, .s p0.fText, .i .i64 p0.fCount, .sl 2 (ah GPair.row p0.fPairs), .sl 1 (ah bY p0.fItems), .sl 2 (ah GScore.row p0.fScores)]), (72, .v (.b r))], []⟩) := by
  have e := Option.some.inj (ho.symm.trans (rfl : cD 0 4 b30 = some _))
  subst e
  clear ho
  show aH _ _ _ _ _ _ = _
  revert hF
  unfold ck_rrValueFault_k4v2
  refine aX (fun h1 => ?_) (fun h1 => ?_)
  focus
    refine aX (fun h2 => ?_) (fun h2 => ?_)
    focus
      refine aX (fun h3 => ?_) (fun h3 => ?_)
      focus
        refine aX (fun h4 => ?_) (fun h4 => ?_)
        focus
          refine aX (fun h5 => ?_) (fun h5 => ?_)
          focus
            rintro ⟨⟩
          rotate_left 1
          rintro ⟨⟩
        rotate_left 2
        refine aX (fun h5 => ?_) (fun h5 => ?_)
        focus
          rintro ⟨⟩
        rotate_left 1
        refine aX (fun h6 => ?_) (fun h6 => ?_)
        focus
          rintro ⟨⟩
        rotate_left 1
        rintro ⟨⟩
      rotate_left 5
      unfold ck_rrValueFault_k4v2_c0
      refine aX (fun h4 => ?_) (fun h4 => ?_)
      focus
        rintro ⟨⟩
      rotate_left 1
      refine aX (fun h5 => ?_) (fun h5 => ?_)
      focus
        refine aX (fun h6 => ?_) (fun h6 => ?_)
        focus
          rintro ⟨⟩
        rotate_left 1
        rintro ⟨⟩
      rotate_left 2
      refine aX (fun h6 => ?_) (fun h6 => ?_)
      focus
        rintro ⟨⟩
      rotate_left 1
      refine aX (fun h7 => ?_) (fun h7 => ?_)
      focus
        rintro ⟨⟩
      rotate_left 1
      rintro ⟨⟩
    rotate_left 11
    unfold ck_rrValueFault_k4v2_c2
    refine bF (fun h3 => ?_) (fun h3 => ?_)
    focus
      rintro ⟨⟩
    rotate_left 1
    refine aX (fun h4 => ?_) (fun h4 => ?_)
    focus
      refine aX (fun h5 => ?_) (fun h5 => ?_)
      focus
        refine aX (fun h6 => ?_) (fun h6 => ?_)
        focus
          rintro ⟨⟩
        rotate_left 1
        rintro ⟨⟩
      rotate_left 2
      refine aX (fun h6 => ?_) (fun h6 => ?_)
      focus
        rintro ⟨⟩
      rotate_left 1
      refine aX (fun h7 => ?_) (fun h7 => ?_)
      focus
        rintro ⟨⟩
      rotate_left 1
      rintro ⟨⟩
    rotate_left 5
    unfold ck_rrValueFault_k4v2_c1
    refine aX (fun h5 => ?_) (fun h5 => ?_)
    focus
      rintro ⟨⟩
    rotate_left 1
    refine aX (fun h6 => ?_) (fun h6 => ?_)
    focus
      refine aX (fun h7 => ?_) (fun h7 => ?_)
      focus
        rintro ⟨⟩
      rotate_left 1
      rintro ⟨⟩
    rotate_left 2
    refine aX (fun h7 => ?_) (fun h7 => ?_)
    focus
      rintro ⟨⟩
    rotate_left 1
    refine aX (fun h8 => ?_) (fun h8 => ?_)
    focus
      rintro ⟨⟩
    rotate_left 1
    rintro ⟨⟩
  rotate_left 23
  unfold ck_rrValueFault_k4v2_c6
  refine bF (fun h2 => ?_) (fun h2 => ?_)
  focus
    rintro ⟨⟩
  rotate_left 1
  refine aX (fun h3 => ?_) (fun h3 => ?_)
  focus
    refine aX (fun h4 => ?_) (fun h4 => ?_)
    focus
      refine aX (fun h5 => ?_) (fun h5 => ?_)
      focus
        refine aX (fun h6 => ?_) (fun h6 => ?_)
        focus
          rintro ⟨⟩
        rotate_left 1
        rintro ⟨⟩
      rotate_left 2
      refine aX (fun h6 => ?_) (fun h6 => ?_)
      focus
        rintro ⟨⟩
      rotate_left 1
      refine aX (fun h7 => ?_) (fun h7 => ?_)
      focus
        rintro ⟨⟩
      rotate_left 1
      rintro ⟨⟩
    rotate_left 5
    unfold ck_rrValueFault_k4v2_c3
    refine aX (fun h5 => ?_) (fun h5 => ?_)
    focus
      rintro ⟨⟩
    rotate_left 1
    refine aX (fun h6 => ?_) (fun h6 => ?_)
    focus
      refine aX (fun h7 => ?_) (fun h7 => ?_)
      focus
        rintro ⟨⟩
      rotate_left 1
      rintro ⟨⟩
    rotate_left 2
    refine aX (fun h7 => ?_) (fun h7 => ?_)
    focus
      rintro ⟨⟩
    rotate_left 1
    refine aX (fun h8 => ?_) (fun h8 => ?_)
    focus
      rintro ⟨⟩
    rotate_left 1
    rintro ⟨⟩
  rotate_left 11
  unfold ck_rrValueFault_k4v2_c5
  refine bF (fun h4 => ?_) (fun h4 => ?_)
  focus
    rintro ⟨⟩
  rotate_left 1
  refine aX (fun h5 => ?_) (fun h5 => ?_)
  focus
    refine aX (fun h6 => ?_) (fun h6 => ?_)
    focus
      refine aX (fun h7 => ?_) (fun h7 => ?_)
      focus
        rintro ⟨⟩
      rotate_left 1
      rintro ⟨⟩
    rotate_left 2
    refine aX (fun h7 => ?_) (fun h7 => ?_)
    focus
      rintro ⟨⟩
    rotate_left 1
    refine aX (fun h8 => ?_) (fun h8 => ?_)
    focus
      rintro ⟨⟩
    rotate_left 1
    rintro ⟨⟩
  rotate_left 5
  unfold ck_rrValueFault_k4v2_c4
  refine aX (fun h6 => ?_) (fun h6 => ?_)
  focus
    rintro ⟨⟩
  rotate_left 1
  refine aX (fun h7 => ?_) (fun h7 => ?_)
  focus
    refine aX (fun h8 => ?_) (fun h8 => ?_)
    focus
      rintro ⟨⟩
    rotate_left 1
    rintro ⟨⟩
  rotate_left 2
  refine aX (fun h8 => ?_) (fun h8 => ?_)
  focus
    rintro ⟨⟩
  rotate_left 1
  refine aX (fun h9 => ?_) (fun h9 => ?_)
  focus
    rintro ⟨⟩
  rotate_left 1
  rintro ⟨⟩
  all_goals (simp (maxSteps := 4000000) only [*, n30k, n30K, n30mv, ↓RP, RB, aQ, aD, be, Mx.bl, opnd, Mx.bI, Nat.reduceBEq, bQ, aN, aA, ay, Mx.put, ofConst, ofCell, Mx.prune, killB, aK, putDst, aw, aE, loadAt, bT, List.map, cz, cB, cu, ax, cy, cx, bne, bh, ty3, ty9, ty49, ty50, ty51, ty53, ↓aa _ _ _ _ 4])
theorem r_rrValueFault (C : aj) (k_rrIn : K_rrIn C) (k_rrsizeOf : K_rrsizeOf C) (k_rrtextMay : K_rrtextMay C) (k_rrcountMay : K_rrcountMay C) (k_rrfieldMay : K_rrfieldMay C) (k_rrscoreAhead : K_rrscoreAhead C) (k_rrmemberAt : K_rrmemberAt C) (p0 : GValue) (r : Int) (hF : rrValueFault p0 = some r) : cR TT C.wide (evW TT C.wide n30 b30) n30 Try.f30.results.toList (aU Try.f30) [.agg [.v (.i .i64 p0.fKind), .v (.s p0.fText), .v (.i .i64 p0.fCount), .v (.sl 2 (ah GPair.row p0.fPairs)), .v (.sl 1 (ah bY p0.fItems)), .v (.sl 2 (ah GScore.row p0.fScores))]] [] = some (.v (.i .i64 r), []) := by
  revert hF
  unfold rrValueFault
  have g1 := bK (k_rrIn p0.fKind 1 6 _ (rrIn_t p0.fKind 1 6))
  have g2 : rrIn_v p0.fKind 1 6 = (decide (1 ≤ p0.fKind) && decide (p0.fKind ≤ 6)) := by first | rfl | (simp [rrIn_v]; done) | (simp only [rrIn_v]; decide)
  try simp only [ak] at g1
  refine bF (fun h1 => ?_) (fun h1 => ?_)
  focus
    rintro ⟨⟩
  rotate_left 1
  refine bF (fun h2 => ?_) (fun h2 => ?_)
  focus
    rintro ⟨⟩
  rotate_left 1
  refine aX (fun h3 => ?_) (fun h3 => ?_)
  focus
    unfold rrValueFault_c12
    have g3 := rg_rrValueFault_k4 C p0 _ rfl (ck_rrValueFault_k4_v p0) (ck_rrValueFault_k4_t p0)
    try simp only [ak] at g3
    refine aX (fun h4 => ?_) (fun h4 => ?_)
    focus
      rintro ⟨⟩
    rotate_left 1
    have g4 := rg_rrValueFault_k6 C k_rrsizeOf k_rrIn k_rrtextMay p0 _ rfl (ck_rrValueFault_k6_v p0) (ck_rrValueFault_k6_t p0)
    try simp only [ak] at g4
    refine aX (fun h5 => ?_) (fun h5 => ?_)
    focus
      rintro ⟨⟩
    rotate_left 1
    refine az ?_
    rintro (_ | _) h6
    focus
      dsimp only
      have g5 := cH _ _ (sl_rrValueFault_0 C k_rrtextMay p0) h6
      try simp only [hd_rrValueFault_0, ou_rrValueFault_0] at g5
      rintro ⟨⟩
    rotate_left 1
    dsimp only
    unfold rrValueFault_c5
    have g6 := cH _ _ (sl_rrValueFault_0 C k_rrtextMay p0) h6
    try simp only [hd_rrValueFault_0, ou_rrValueFault_0] at g6
    refine az ?_
    rintro (_ | _) h7
    focus
      dsimp only
      have g7 := cH _ _ (sl_rrValueFault_2 C k_rrfieldMay k_rrtextMay p0) h7
      try simp only [hd_rrValueFault_2, ou_rrValueFault_2] at g7
      rintro ⟨⟩
    rotate_left 1
    dsimp only
    unfold rrValueFault_c4
    have g8 := cH _ _ (sl_rrValueFault_2 C k_rrfieldMay k_rrtextMay p0) h7
    try simp only [hd_rrValueFault_2, ou_rrValueFault_2] at g8
    refine az ?_
    rintro (_ | _) h8
    focus
      dsimp only
      have g9 := cH _ _ (sl_rrValueFault_4 C k_rrtextMay p0) h8
      try simp only [hd_rrValueFault_4, ou_rrValueFault_4] at g9
      rintro ⟨⟩
    rotate_left 1
    dsimp only
    unfold rrValueFault_c3
    have g10 := cH _ _ (sl_rrValueFault_4 C k_rrtextMay p0) h8
    have g11 := bK (k_rrcountMay p0.fCount _ (rrcountMay_t p0.fCount))
    try simp only [hd_rrValueFault_4, ou_rrValueFault_4] at g10 g11
    refine bF (fun h9 => ?_) (fun h9 => ?_)
    focus
      rintro ⟨⟩
    rotate_left 1
    refine az ?_
    rintro (_ | _) h10
    focus
      dsimp only
      have g12 := cH _ _ (sl_rrValueFault_6 C k_rrcountMay p0) h10
      try simp only [hd_rrValueFault_6, ou_rrValueFault_6] at g12
      rintro ⟨⟩
    rotate_left 1
    dsimp only
    unfold rrValueFault_c2
    have g13 := cH _ _ (sl_rrValueFault_6 C k_rrcountMay p0) h10
    try simp only [hd_rrValueFault_6, ou_rrValueFault_6] at g13
    refine az ?_
    rintro (_ | _) h11
    focus
      dsimp only
      have g14 := cH _ _ (sl_rrValueFault_8 C p0) h11
      try simp only [hd_rrValueFault_8, ou_rrValueFault_8] at g14
      rintro ⟨⟩
    rotate_left 1
    dsimp only
    unfold rrValueFault_c1
    have g15 := cH _ _ (sl_rrValueFault_8 C p0) h11
    try simp only [hd_rrValueFault_8, ou_rrValueFault_8] at g15
    refine az ?_
    rintro (_ | _) h12
    focus
      dsimp only
      have g16 := cH _ _ (sl_rrValueFault_10 C p0) h12
      try simp only [hd_rrValueFault_10, ou_rrValueFault_10] at g16
      rintro ⟨⟩
    rotate_left 1
    dsimp only
    unfold rrValueFault_c0
    have g17 := cH _ _ (sl_rrValueFault_10 C p0) h12
    try simp only [hd_rrValueFault_10, ou_rrValueFault_10] at g17
    refine az ?_
    rintro (_ | _) h13
    focus
      dsimp only
      have g18 := cH _ _ (sl_rrValueFault_12 C k_rrscoreAhead k_rrmemberAt p0) h13
      try simp only [hd_rrValueFault_12, ou_rrValueFault_12] at g18
      rintro ⟨⟩
    rotate_left 1
    dsimp only
    have g19 := cH _ _ (sl_rrValueFault_12 C k_rrscoreAhead k_rrmemberAt p0) h13
    try simp only [hd_rrValueFault_12, ou_rrValueFault_12] at g19
    rintro ⟨⟩
  rotate_left 11
  have g20 := rg_rrValueFault_k4v2 C p0 (p0.fKind == 5) _ rfl (ck_rrValueFault_k4v2_v p0 (p0.fKind == 5)) (ck_rrValueFault_k4v2_t p0 (p0.fKind == 5))
  try simp only [ak] at g20
  refine aX (fun h4 => ?_) (fun h4 => ?_)
  focus
    rintro ⟨⟩
  rotate_left 1
  have g4 := rg_rrValueFault_k6 C k_rrsizeOf k_rrIn k_rrtextMay p0 _ rfl (ck_rrValueFault_k6_v p0) (ck_rrValueFault_k6_t p0)
  try simp only [ak] at g4
  refine aX (fun h5 => ?_) (fun h5 => ?_)
  focus
    rintro ⟨⟩
  rotate_left 1
  refine az ?_
  rintro (_ | _) h6
  focus
    dsimp only
    have g5 := cH _ _ (sl_rrValueFault_0 C k_rrtextMay p0) h6
    try simp only [hd_rrValueFault_0, ou_rrValueFault_0] at g5
    rintro ⟨⟩
  rotate_left 1
  dsimp only
  unfold rrValueFault_c11
  have g6 := cH _ _ (sl_rrValueFault_0 C k_rrtextMay p0) h6
  try simp only [hd_rrValueFault_0, ou_rrValueFault_0] at g6
  refine az ?_
  rintro (_ | _) h7
  focus
    dsimp only
    have g7 := cH _ _ (sl_rrValueFault_2 C k_rrfieldMay k_rrtextMay p0) h7
    try simp only [hd_rrValueFault_2, ou_rrValueFault_2] at g7
    rintro ⟨⟩
  rotate_left 1
  dsimp only
  unfold rrValueFault_c10
  have g8 := cH _ _ (sl_rrValueFault_2 C k_rrfieldMay k_rrtextMay p0) h7
  try simp only [hd_rrValueFault_2, ou_rrValueFault_2] at g8
  refine az ?_
  rintro (_ | _) h8
  focus
    dsimp only
    have g9 := cH _ _ (sl_rrValueFault_4 C k_rrtextMay p0) h8
    try simp only [hd_rrValueFault_4, ou_rrValueFault_4] at g9
    rintro ⟨⟩
  rotate_left 1
  dsimp only
  unfold rrValueFault_c9
  have g10 := cH _ _ (sl_rrValueFault_4 C k_rrtextMay p0) h8
  have g11 := bK (k_rrcountMay p0.fCount _ (rrcountMay_t p0.fCount))
  try simp only [hd_rrValueFault_4, ou_rrValueFault_4] at g10 g11
  refine bF (fun h9 => ?_) (fun h9 => ?_)
  focus
    rintro ⟨⟩
  rotate_left 1
  refine az ?_
  rintro (_ | _) h10
  focus
    dsimp only
    have g12 := cH _ _ (sl_rrValueFault_6 C k_rrcountMay p0) h10
    try simp only [hd_rrValueFault_6, ou_rrValueFault_6] at g12
    rintro ⟨⟩
  rotate_left 1
  dsimp only
  unfold rrValueFault_c8
  have g13 := cH _ _ (sl_rrValueFault_6 C k_rrcountMay p0) h10
  try simp only [hd_rrValueFault_6, ou_rrValueFault_6] at g13
  refine az ?_
  rintro (_ | _) h11
  focus
    dsimp only
    have g14 := cH _ _ (sl_rrValueFault_8 C p0) h11
    try simp only [hd_rrValueFault_8, ou_rrValueFault_8] at g14
    rintro ⟨⟩
  rotate_left 1
  dsimp only
  unfold rrValueFault_c7
  have g15 := cH _ _ (sl_rrValueFault_8 C p0) h11
  try simp only [hd_rrValueFault_8, ou_rrValueFault_8] at g15
  refine az ?_
  rintro (_ | _) h12
  focus
    dsimp only
    have g16 := cH _ _ (sl_rrValueFault_10 C p0) h12
    try simp only [hd_rrValueFault_10, ou_rrValueFault_10] at g16
    rintro ⟨⟩
  rotate_left 1
  dsimp only
  unfold rrValueFault_c6
  have g17 := cH _ _ (sl_rrValueFault_10 C p0) h12
  try simp only [hd_rrValueFault_10, ou_rrValueFault_10] at g17
  refine az ?_
  rintro (_ | _) h13
  focus
    dsimp only
    have g18 := cH _ _ (sl_rrValueFault_12 C k_rrscoreAhead k_rrmemberAt p0) h13
    try simp only [hd_rrValueFault_12, ou_rrValueFault_12] at g18
    rintro ⟨⟩
  rotate_left 1
  dsimp only
  have g19 := cH _ _ (sl_rrValueFault_12 C k_rrscoreAhead k_rrmemberAt p0) h13
  try simp only [hd_rrValueFault_12, ou_rrValueFault_12] at g19
  rintro ⟨⟩
  all_goals (rw [bk]; show cC _ _ _ (aH _ _ _ _ (Code.seq _ _) _) = _; simp (maxSteps := 4000000) only [*, res30, n30a, n30A, n30k, n30K, n30ro, n30mv, ↓RP, RB, enter, aQ, aD, be, bf, aJ, Mx.bl, opnd, Mx.bI, Nat.reduceBEq, bQ, Mx.fit, bP, co, toVs, cellsOf, toV, aN, aA, ay, Mx.put, ofConst, ofCell, Mx.prune, killB, aK, putDst, aw, aE, loadAt, bT, List.map, cz, cB, aC, bu, bx, cA, bS, bJ, aM, lowC, forceAll, lend, lendA, aS, aB, bR, bare, bW, ax, av, atO, newB, cw, cy, cx, ↓ao, ↓am, bh, ty3, ty4, ty25, ty53, ↓aa _ _ _ _ 0, ↓aa _ _ _ _ 1, ↓aa _ _ _ _ 2, ↓aa _ _ _ _ 3, ↓bg _ _ _ _ 4, ↓aa _ _ _ _ 5, ↓bg _ _ _ _ 6, ↓aa _ _ _ _ 7, ↓aa _ _ _ _ 8, ↓aa _ _ _ _ 13, ↓aa _ _ _ _ 18, ↓aa _ _ _ _ 23, ↓aa _ _ _ _ 24, ↓aa _ _ _ _ 25, ↓aa _ _ _ _ 30, ↓aa _ _ _ _ 35, ↓aa _ _ _ _ 40, ↓aa _ _ _ _ 45])
def n36K : List (Nat × List Nat) := [(0, [1]), (1, [1, 14]), (2, [2]), (3, [1, 3]), (4, [1, 3, 19]), (5, [1, 3]), (6, [1, 3, 4]), (7, [1, 3, 4, 52]), (8, [2]), (9, [1, 3, 68]), (10, [2]), (11, [2])]
def n36A : List (Nat × List Nat × List Nat) := [(14, [], [1]), (19, [1, 3], []), (52, [], [1, 3, 4]), (68, [], [1, 3])]
def n36 : cL where
  keep := ax n36K
  ro := fun t => t == 1
  mv := fun _ => false
  give := fun _ => false
  free := fun i => match i with | 7 => [(14, 16), (15, 16), (14, 17), (15, 17), (14, 21), (15, 21), (16, 21), (17, 21), (18, 21), (19, 21), (20, 21), (14, 22), (15, 22), (16, 22), (17, 22), (18, 22), (19, 22), (20, 22)] | _ => []
  alive := av n36A
theorem n36a (t : Nat) (x : Bool) (e : Env) (S : bH) : cK n36 t x ⟨e, S⟩ = atO (av n36A t x) e S := cF rfl t x e S
theorem n36k (i : Nat) : n36.keep i = ax n36K i := rfl
theorem n36ro (t : Nat) : n36.ro t = (t == 1) := rfl
theorem n36mv (t : Nat) : n36.mv t = (false) := rfl
theorem n36f7 : n36.free 7 = [(14, 16), (15, 16), (14, 17), (15, 17), (14, 21), (15, 21), (16, 21), (17, 21), (18, 21), (19, 21), (20, 21), (14, 22), (15, 22), (16, 22), (17, 22), (18, 22), (19, 22), (20, 22)] := rfl
theorem res36 : Try.f36.results.toList = [.tmp 2] := rfl
noncomputable def b36 : Code := aU Try.f36
noncomputable def c36_0 : Code := (bE 0 (aU Try.f36)).getD .skip
theorem fl36_0 : bE 0 b36 = some c36_0 := rfl
theorem rg_rrStoreFault_k1 (C : aj) (k_rrIn : K_rrIn C) (p0 : GStore) (c : Code) (ho : cD 0 1 b36 = some c) (r : Bool) (hF : ck_rrStoreFault_k1 p0 = some r) : @cV TT C.wide (evW TT C.wide n36 b36) n36 0 1 ⟨[(1, .rp [.i .i64 p0.fNow, .sl 8 (ah GEntry.row p0.fEntries)])], []⟩ ⟨c⟩ = some (.normal, ⟨[(1, .rp [.i .i64 p0.fNow, .sl 8 (ah GEntry.row p0.fEntries)]), (14, .v (.b r))], []⟩) := by
  have e := Option.some.inj (ho.symm.trans (rfl : cD 0 1 b36 = some _))
  subst e
  clear ho
  show aH _ _ _ _ _ _ = _
  revert hF
  unfold ck_rrStoreFault_k1
  have g1 := bK (k_rrIn p0.fNow 0 1073741824 _ (rrIn_t p0.fNow 0 1073741824))
  have g2 : rrIn_v p0.fNow 0 1073741824 = (decide (0 ≤ p0.fNow) && decide (p0.fNow ≤ 1073741824)) := by first | rfl | (simp [rrIn_v]; done) | (simp only [rrIn_v]; decide)
  try simp only [ak] at g1
  refine bF (fun h1 => ?_) (fun h1 => ?_)
  focus
    rintro ⟨⟩
  rotate_left 1
  refine aX (fun h2 => ?_) (fun h2 => ?_)
  focus
    rintro ⟨⟩
  rotate_left 1
  rintro ⟨⟩
  all_goals (simp (maxSteps := 4000000) only [*, n36k, n36K, n36mv, ↓RP, RB, aQ, aD, be, Mx.bl, opnd, Mx.bI, Nat.reduceBEq, bQ, aN, aA, ay, Mx.put, ofConst, ofCell, Mx.prune, killB, aK, putDst, aw, aE, loadAt, bT, List.map, cz, cB, cu, forceAll, lend, lendA, aS, aB, bR, bare, bW, ax, newB, cw, cy, cx, bh, ty3, ty61, ty63, ↓aa _ _ _ _ 1])
theorem rg_rrStoreFault_k7v2 (C : aj) (k_rrfieldMay : K_rrfieldMay C) (k_rrValueFault : K_rrValueFault C) (p0 : GStore) (p1 : Int) (p2 : GEntry) (c : Code) (ho : cD 0 7 b36 = some c) (r : Bool) (hF : ck_rrStoreFault_k7v2 p0 p1 p2 = some r) : @cV TT C.wide (evW TT C.wide n36 b36) n36 0 7 ⟨[(1, .rp [.i .i64 p0.fNow, .sl 8 (ah GEntry.row p0.fEntries)]), (3, .v (.i .i64 p1)), (4, .ptr 0 0)], [[.v (.s p2.fKey), .v (.i .i64 p2.fValue.fKind), .v (.s p2.fValue.fText), .v (.i .i64 p2.fValue.fCount), .v (.sl 2 (ah GPair.row p2.fValue.fPairs)), .v (.sl 1 (ah bY p2.fValue.fItems)), .v (.sl 2 (ah GScore.row p2.fValue.fScores)), .v (.i .i64 p2.fUntil)]]⟩ ⟨c⟩ = some (.normal, ⟨[(1, .rp [.i .i64 p0.fNow, .sl 8 (ah GEntry.row p0.fEntries)]), (3, .v (.i .i64 p1)), (4, .ptr 0 0), (52, .v (.b r))], [[.v (.s p2.fKey), .v (.i .i64 p2.fValue.fKind), .v (.s p2.fValue.fText), .v (.i .i64 p2.fValue.fCount), .v (.sl 2 (ah GPair.row p2.fValue.fPairs)), .v (.sl 1 (ah bY p2.fValue.fItems)), .v (.sl 2 (ah GScore.row p2.fValue.fScores)), .v (.i .i64 p2.fUntil)]]⟩) := by
  have e := Option.some.inj (ho.symm.trans (rfl : cD 0 7 b36 = some _))
  subst e
  clear ho
  show aH _ _ _ _ _ _ = _
  revert hF
  unfold ck_rrStoreFault_k7v2
  have g1 := bK (k_rrfieldMay p2.fKey _ (rrfieldMay_t p2.fKey))
  try simp only [ak] at g1
  refine bF (fun h1 => ?_) (fun h1 => ?_)
  focus
    rintro ⟨⟩
  rotate_left 1
  refine az fun x1 h2 => ?_
  have g2 := bK (k_rrValueFault p2.fValue _ h2)
  try simp only [ak] at g2
  refine bF (fun h3 => ?_) (fun h3 => ?_)
  focus
    rintro ⟨⟩
  rotate_left 1
  refine bF (fun h4 => ?_) (fun h4 => ?_)
  focus
    rintro ⟨⟩
  rotate_left 1
  refine az fun x2 h5 => ?_
  have g3 : decide (0 ≤ (IntKind.i64.wrap (p1 - 1))) = true := (cp h5).1
  have g4 : (ah GEntry.row p0.fEntries)[((IntKind.i64.wrap (p1 - 1)) : Int).toNat]? = some [.s x2.fKey, .i .i64 x2.fValue.fKind, .s x2.fValue.fText, .i .i64 x2.fValue.fCount, .sl 2 (ah GPair.row x2.fValue.fPairs), .sl 1 (ah bY x2.fValue.fItems), .sl 2 (ah GScore.row x2.fValue.fScores), .i .i64 x2.fUntil] := cn _ h5
  rintro ⟨⟩
  all_goals (simp (maxSteps := 4000000) only [*, n36k, n36K, n36f7, n36mv, ↓RP, RB, aQ, aD, be, Mx.bl, opnd, Mx.bI, Nat.reduceBEq, bQ, aN, aA, ay, Mx.put, ofConst, ofCell, Mx.prune, killB, aK, putDst, aw, aE, loadAt, bT, List.map, Nat.reduceAdd, cz, cB, forceAll, bj, lend, lendA, aS, aB, bR, bare, bW, bG, Nat.reduceSub, cd, aI, aY, cm, bL, cv, ch, bo, aL, bm, Op.operands, ax, newB, cw, cy, cx, bne, bh, aP, br, Call.operands, ty9, ty53, ty61, ty63, ty117, ↓aq _ _ _ _ 7])
theorem rg_rrStoreFault_k9v2 (C : aj) (k_rrIn : K_rrIn C) (p0 : GStore) (p1 : Int) (p2 : GEntry) (c : Code) (ho : cD 0 9 b36 = some c) (r : Bool) (hF : ck_rrStoreFault_k9v2 p0 p1 p2 = some r) : @cV TT C.wide (evW TT C.wide n36 b36) n36 0 9 ⟨[(1, .rp [.i .i64 p0.fNow, .sl 8 (ah GEntry.row p0.fEntries)]), (3, .v (.i .i64 p1)), (4, .ptr 0 0)], [[.v (.s p2.fKey), .v (.i .i64 p2.fValue.fKind), .v (.s p2.fValue.fText), .v (.i .i64 p2.fValue.fCount), .v (.sl 2 (ah GPair.row p2.fValue.fPairs)), .v (.sl 1 (ah bY p2.fValue.fItems)), .v (.sl 2 (ah GScore.row p2.fValue.fScores)), .v (.i .i64 p2.fUntil)]]⟩ ⟨c⟩ = some (.normal, ⟨[(1, .rp [.i .i64 p0.fNow, .sl 8 (ah GEntry.row p0.fEntries)]), (3, .v (.i .i64 p1)), (68, .v (.b r))], [[.v (.s p2.fKey), .v (.i .i64 p2.fValue.fKind), .v (.s p2.fValue.fText), .v (.i .i64 p2.fValue.fCount), .v (.sl 2 (ah GPair.row p2.fValue.fPairs)), .v (.sl 1 (ah bY p2.fValue.fItems)), .v (.sl 2 (ah GScore.row p2.fValue.fScores)), .v (.i .i64 p2.fUntil)]]⟩) := by
  have e := Option.some.inj (ho.symm.trans (rfl : cD 0 9 b36 = some _))
  subst e
  clear ho
  show aH _ _ _ _ _ _ = _
  revert hF
  unfold ck_rrStoreFault_k9v2
  refine aX (fun h1 => ?_) (fun h1 => ?_)
  focus
    rintro ⟨⟩
  rotate_left 1
  have g1 := bK (k_rrIn p2.fUntil 0 1073741824 _ (rrIn_t p2.fUntil 0 1073741824))
  have g2 : rrIn_v p2.fUntil 0 1073741824 = (decide (0 ≤ p2.fUntil) && decide (p2.fUntil ≤ 1073741824)) := by first | rfl | (simp [rrIn_v]; done) | (simp only [rrIn_v]; decide)
  try simp only [ak] at g1
  refine bF (fun h2 => ?_) (fun h2 => ?_)
  focus
    rintro ⟨⟩
  rotate_left 1
  refine aX (fun h3 => ?_) (fun h3 => ?_)
  focus
    rintro ⟨⟩
  rotate_left 1
  rintro ⟨⟩
  all_goals (simp (maxSteps := 4000000) only [*, n36k, n36K, n36mv, ↓RP, RB, aQ, aD, be, Mx.bl, opnd, Mx.bI, Nat.reduceBEq, bQ, aN, aA, ay, Mx.put, ofConst, ofCell, Mx.prune, killB, aK, putDst, aw, aE, loadAt, bT, List.map, cz, cB, forceAll, lend, lendA, aS, aB, bR, bare, bW, ax, newB, cw, cy, cx, bne, bh, ty3, ty63, ty117, ↓aa _ _ _ _ 9])
def hd_rrStoreFault_0 (p0 : GStore) (s : Int) : St := ⟨[(1, .rp [.i .i64 p0.fNow, .sl 8 (ah GEntry.row p0.fEntries)]), (3, .v (.i .i64 s))], []⟩
def ou_rrStoreFault_0 (p0 : GStore) (r : GEntry ⊕ Unit) : Option (Ex × St) := match r with
  | .inl r => some (.ret, ⟨[(2, .v (.i .i64 13))], [[.v (.s r.fKey), .v (.i .i64 r.fValue.fKind), .v (.s r.fValue.fText), .v (.i .i64 r.fValue.fCount), .v (.sl 2 (ah GPair.row r.fValue.fPairs)), .v (.sl 1 (ah bY r.fValue.fItems)), .v (.sl 2 (ah GScore.row r.fValue.fScores)), .v (.i .i64 r.fUntil)]]⟩)
  | .inr r => some (.normal, ⟨[], []⟩)
theorem sl_rrStoreFault_0 (C : aj) (k_rrfieldMay : K_rrfieldMay C) (k_rrValueFault : K_rrValueFault C) (k_rrIn : K_rrIn C) (p0 : GStore) (p1 : Int) (o : Int ⊕ (GEntry ⊕ Unit)) (hF : st_rrStoreFault_0 p0 p1 = some o) : evW TT C.wide n36 b36 0 (hd_rrStoreFault_0 p0 p1) = Sum.elim (fun s => evW TT C.wide n36 b36 0 (hd_rrStoreFault_0 p0 s)) (fun r => ou_rrStoreFault_0 p0 r) o := by
  rw [cG TT n36 fl36_0]
  revert hF
  unfold st_rrStoreFault_0
  try dsimp only
  refine bF (fun h1 => ?_) (fun h1 => ?_)
  focus
    rintro ⟨⟩
  rotate_left 1
  refine az fun x1 h2 => ?_
  have g1 : decide (0 ≤ p1) = true := (cp h2).1
  have g2 : (ah GEntry.row p0.fEntries)[(p1 : Int).toNat]? = some [.s x1.fKey, .i .i64 x1.fValue.fKind, .s x1.fValue.fText, .i .i64 x1.fValue.fCount, .sl 2 (ah GPair.row x1.fValue.fPairs), .sl 1 (ah bY x1.fValue.fItems), .sl 2 (ah GScore.row x1.fValue.fScores), .i .i64 x1.fUntil] := cn _ h2
  refine az fun x2 h3 => ?_
  have g3 := rg_rrStoreFault_k7v2 C k_rrfieldMay k_rrValueFault p0 p1 x1 _ rfl _ h3
  try simp only [ak] at g3
  refine aX (fun h4 => ?_) (fun h4 => ?_)
  focus
    rintro ⟨⟩
  rotate_left 1
  have g4 := rg_rrStoreFault_k9v2 C k_rrIn p0 p1 x1 _ rfl (ck_rrStoreFault_k9v2_v p0 p1 x1) (ck_rrStoreFault_k9v2_t p0 p1 x1)
  try simp only [ak] at g4
  refine aX (fun h5 => ?_) (fun h5 => ?_)
  focus
    rintro ⟨⟩
  rotate_left 1
  rintro ⟨⟩
  all_goals (show cN _ _ _ (aH _ _ _ _ (Code.seq _ _) _) = _; simp (maxSteps := 4000000) only [*, hd_rrStoreFault_0, ou_rrStoreFault_0, n36a, n36A, n36k, n36K, n36mv, ↓RP, RB, ↓ai, be, bf, aJ, Mx.bl, opnd, Mx.bI, Nat.reduceBEq, bQ, Mx.fit, bP, co, cellsOf, aN, aA, ay, Mx.put, ofConst, ofCell, Mx.prune, killB, killBs, aK, putDst, aw, aE, loadAt, bT, List.map, Nat.reduceAdd, cz, cB, cu, bJ, aM, lowC, bj, kill, bG, setCells, Nat.reduceLeDiff, lowA, bn, ax, av, atO, cy, cx, bne, ↓ao, ↓am, ty3, ty25, ty61, ty63, ty117, ↓aa _ _ _ _ 4, ↓aa _ _ _ _ 6, ↓bg _ _ _ _ 7, ↓aa _ _ _ _ 8, ↓bg _ _ _ _ 9, ↓aa _ _ _ _ 10, ↓aa _ _ _ _ 5])
theorem r_rrStoreFault (C : aj) (k_rrIn : K_rrIn C) (k_rrfieldMay : K_rrfieldMay C) (k_rrValueFault : K_rrValueFault C) (p0 : GStore) (r : Int) (hF : rrStoreFault p0 = some r) : cR TT C.wide (evW TT C.wide n36 b36) n36 Try.f36.results.toList (aU Try.f36) [.agg [.v (.i .i64 p0.fNow), .v (.sl 8 (ah GEntry.row p0.fEntries))]] [] = some (.v (.i .i64 r), []) := by
  revert hF
  unfold rrStoreFault
  have g1 := rg_rrStoreFault_k1 C k_rrIn p0 _ rfl (ck_rrStoreFault_k1_v p0) (ck_rrStoreFault_k1_t p0)
  try simp only [ak] at g1
  refine aX (fun h1 => ?_) (fun h1 => ?_)
  focus
    rintro ⟨⟩
  rotate_left 1
  refine az ?_
  rintro (x1 | _) h2
  focus
    dsimp only
    have g2 := cH _ _ (sl_rrStoreFault_0 C k_rrfieldMay k_rrValueFault k_rrIn p0) h2
    try simp only [hd_rrStoreFault_0, ou_rrStoreFault_0] at g2
    rintro ⟨⟩
  rotate_left 1
  dsimp only
  have g3 := cH _ _ (sl_rrStoreFault_0 C k_rrfieldMay k_rrValueFault k_rrIn p0) h2
  try simp only [hd_rrStoreFault_0, ou_rrStoreFault_0] at g3
  rintro ⟨⟩
  all_goals (rw [bk]; show cC _ _ _ (aH _ _ _ _ (Code.seq _ _) _) = _; simp (maxSteps := 4000000) only [*, res36, n36a, n36A, n36k, n36K, n36ro, ↓RP, RB, enter, be, bf, aJ, Mx.bl, opnd, Mx.bI, Nat.reduceBEq, bQ, Mx.fit, bP, co, toVs, cellsOf, toV, aN, aA, ay, Mx.put, ofConst, ofCell, Mx.prune, killB, List.map, aC, bu, bx, cA, bS, bJ, aM, lowC, ax, av, atO, ↓ao, ↓am, ty3, ty25, ty63, ↓aa _ _ _ _ 0, ↓bg _ _ _ _ 1, ↓aa _ _ _ _ 2, ↓aa _ _ _ _ 3, ↓aa _ _ _ _ 11])
def n91K : List (Nat × List Nat) := [(0, [0]), (1, [2])]
def n91 : cL where
  keep := ax n91K
  ro := fun _ => false
  mv := fun _ => false
  give := fun _ => false
  free := fun _ => []
theorem n91k (i : Nat) : n91.keep i = ax n91K i := rfl
theorem res91 : Try.f91.results.toList = [.tmp 2] := rfl
noncomputable def b91 : Code := aU Try.f91
theorem r_rrnumberMay (C : aj) (k_rrIn : K_rrIn C) (p0 : Int) (r : Bool) (hF : rrnumberMay p0 = some r) : cR TT C.wide (evW TT C.wide n91 b91) n91 Try.f91.results.toList (aU Try.f91) [.v (.i .i64 p0)] [] = some (.v (.b r), []) := by
  revert hF
  unfold rrnumberMay
  have g1 := bK (k_rrIn p0 1 1048576 _ (rrIn_t p0 1 1048576))
  have g2 : rrIn_v p0 1 1048576 = (decide (1 ≤ p0) && decide (p0 ≤ 1048576)) := by first | rfl | (simp [rrIn_v]; done) | (simp only [rrIn_v]; decide)
  try simp only [ak] at g1
  rintro ⟨⟩
  all_goals (rw [bk]; show cC _ _ _ (aH _ _ _ _ (Code.seq _ _) _) = _; simp (maxSteps := 4000000) only [*, res91, n91k, n91K, ↓RP, RB, enter, be, bf, aJ, Mx.bl, opnd, Mx.bI, Nat.reduceBEq, bQ, Mx.fit, co, aN, aA, Mx.put, ofConst, ofCell, Mx.prune, killB, aK, putDst, aw, List.map, aC, bu, bx, cA, bS, bJ, aM, lowC, forceAll, lend, lendA, aS, aB, bR, bare, bW, ax, newB, cw, ↓ao, ↓aa, ty4])
def n92K : List (Nat × List Nat) := [(0, [1]), (1, [1, 7]), (2, [2]), (3, [1, 17]), (4, [2]), (5, [1, 3]), (6, [1, 3, 22]), (7, [1, 3]), (8, [1, 3, 31]), (9, [2]), (10, [35]), (11, [2]), (12, [2])]
def n92A : List (Nat × List Nat × List Nat) := [(7, [], [1]), (17, [], [1]), (22, [1, 3], [1]), (31, [], [1, 3]), (35, [], [])]
def n92 : cL where
  keep := ax n92K
  ro := fun t => t == 1
  mv := fun _ => false
  give := fun _ => false
  free := fun _ => []
  alive := av n92A
theorem n92a (t : Nat) (x : Bool) (e : Env) (S : bH) : cK n92 t x ⟨e, S⟩ = atO (av n92A t x) e S := cF rfl t x e S
theorem n92k (i : Nat) : n92.keep i = ax n92K i := rfl
theorem n92ro (t : Nat) : n92.ro t = (t == 1) := rfl
theorem n92mv (t : Nat) : n92.mv t = (false) := rfl
theorem res92 : Try.f92.results.toList = [.tmp 2] := rfl
noncomputable def b92 : Code := aU Try.f92
noncomputable def c92_0 : Code := (bE 0 (aU Try.f92)).getD .skip
theorem fl92_0 : bE 0 b92 = some c92_0 := rfl
def hd_rrReplyFault_0 (p0 : GReply) (s : Int) : St := ⟨[(1, .rp [.i .i64 p0.fCode, .s p0.fText, .i .i64 p0.fN, .sl 1 (ah bY p0.fList)]), (3, .v (.i .i64 s))], []⟩
def ou_rrReplyFault_0 (p0 : GReply) (r : Unit ⊕ Unit) : Option (Ex × St) := match r with
  | .inl r => some (.ret, ⟨[(2, .v (.i .i64 1))], []⟩)
  | .inr r => some (.normal, ⟨[(1, .rp [.i .i64 p0.fCode, .s p0.fText, .i .i64 p0.fN, .sl 1 (ah bY p0.fList)])], []⟩)
theorem sl_rrReplyFault_0 (C : aj) (k_rrtextMay : K_rrtextMay C) (p0 : GReply) (p1 : Int) (o : Int ⊕ (Unit ⊕ Unit)) (hF : st_rrReplyFault_0 p0 p1 = some o) : evW TT C.wide n92 b92 0 (hd_rrReplyFault_0 p0 p1) = Sum.elim (fun s => evW TT C.wide n92 b92 0 (hd_rrReplyFault_0 p0 s)) (fun r => ou_rrReplyFault_0 p0 r) o := by
  rw [cG TT n92 fl92_0]
  revert hF
  unfold st_rrReplyFault_0
  try dsimp only
  refine bF (fun h1 => ?_) (fun h1 => ?_)
  focus
    rintro ⟨⟩
  rotate_left 1
  refine az fun x1 h2 => ?_
  have g1 : decide (0 ≤ p1) = true := (cp h2).1
  have g2 : (ah bY p0.fList)[(p1 : Int).toNat]? = some [.s x1] := cn _ h2
  have g3 := bK (k_rrtextMay x1 _ (rrtextMay_t x1))
  try simp only [ak] at g3
  refine aX (fun h3 => ?_) (fun h3 => ?_)
  focus
    rintro ⟨⟩
  rotate_left 1
  rintro ⟨⟩
  all_goals (show cN _ _ _ (aH _ _ _ _ (Code.seq _ _) _) = _; simp (maxSteps := 4000000) only [*, hd_rrReplyFault_0, ou_rrReplyFault_0, n92a, n92A, n92k, n92K, n92mv, ↓RP, RB, ↓ai, be, bf, aJ, Mx.bl, opnd, Mx.bI, Nat.reduceBEq, bQ, Mx.fit, co, aN, aA, ay, Mx.put, ofConst, ofCell, Mx.prune, killB, aK, putDst, aw, aE, loadAt, bT, List.map, cz, cB, cu, forceAll, bj, lend, lendA, aS, aB, bR, bare, bW, ax, av, atO, newB, cw, cy, cx, ↓ao, ↓am, ↓aa, ty3, ty9, ty25, ty50, ty128])
theorem r_rrReplyFault (C : aj) (k_rrIn : K_rrIn C) (k_rrtextMay : K_rrtextMay C) (k_rrcountMay : K_rrcountMay C) (p0 : GReply) (r : Int) (hF : rrReplyFault p0 = some r) : cR TT C.wide (evW TT C.wide n92 b92) n92 Try.f92.results.toList (aU Try.f92) [.agg [.v (.i .i64 p0.fCode), .v (.s p0.fText), .v (.i .i64 p0.fN), .v (.sl 1 (ah bY p0.fList))]] [] = some (.v (.i .i64 r), []) := by
  revert hF
  unfold rrReplyFault
  have g1 := bK (k_rrIn p0.fCode 0 13 _ (rrIn_t p0.fCode 0 13))
  have g2 : rrIn_v p0.fCode 0 13 = (decide (0 ≤ p0.fCode) && decide (p0.fCode ≤ 13)) := by first | rfl | (simp [rrIn_v]; done) | (simp only [rrIn_v]; decide)
  try simp only [ak] at g1
  refine bF (fun h1 => ?_) (fun h1 => ?_)
  focus
    rintro ⟨⟩
  rotate_left 1
  refine bF (fun h2 => ?_) (fun h2 => ?_)
  focus
    rintro ⟨⟩
  rotate_left 1
  have g3 := bK (k_rrtextMay p0.fText _ (rrtextMay_t p0.fText))
  try simp only [ak] at g3
  refine bF (fun h3 => ?_) (fun h3 => ?_)
  focus
    rintro ⟨⟩
  rotate_left 1
  refine aX (fun h4 => ?_) (fun h4 => ?_)
  focus
    rintro ⟨⟩
  rotate_left 1
  refine az ?_
  rintro (_ | _) h5
  focus
    dsimp only
    have g4 := cH _ _ (sl_rrReplyFault_0 C k_rrtextMay p0) h5
    try simp only [hd_rrReplyFault_0, ou_rrReplyFault_0] at g4
    rintro ⟨⟩
  rotate_left 1
  dsimp only
  have g5 := cH _ _ (sl_rrReplyFault_0 C k_rrtextMay p0) h5
  have g6 := bK (k_rrcountMay p0.fN _ (rrcountMay_t p0.fN))
  try simp only [hd_rrReplyFault_0, ou_rrReplyFault_0] at g5 g6
  refine aX (fun h6 => ?_) (fun h6 => ?_)
  focus
    rintro ⟨⟩
  rotate_left 1
  rintro ⟨⟩
  all_goals (rw [bk]; show cC _ _ _ (aH _ _ _ _ (Code.seq _ _) _) = _; simp (maxSteps := 4000000) only [*, res92, n92a, n92A, n92k, n92K, n92ro, n92mv, ↓RP, RB, enter, aQ, aD, be, bf, aJ, Mx.bl, opnd, Mx.bI, Nat.reduceBEq, bQ, Mx.fit, bP, co, toVs, cellsOf, toV, aN, aA, ay, Mx.put, ofConst, ofCell, Mx.prune, killB, aK, putDst, aw, aE, loadAt, bT, List.map, cz, cB, cu, aC, bu, bx, cA, bS, bJ, aM, lowC, forceAll, lend, lendA, aS, aB, bR, bare, bW, ax, av, atO, newB, cw, cy, cx, ↓ao, ↓am, ↓aa, bh, ty3, ty9, ty25, ty50, ty128])
def n42K : List (Nat × List Nat) := [(0, [1]), (1, [1, 20]), (2, [2]), (3, [1, 3]), (4, [1, 3, 25]), (5, [1, 3]), (6, [1, 3, 4]), (7, [1, 3, 80]), (8, [2]), (9, [2])]
def n42A : List (Nat × List Nat × List Nat) := [(20, [], [1]), (25, [1, 3], []), (80, [], [1, 3])]
def n42 : cL where
  keep := ax n42K
  ro := fun t => t == 1
  mv := fun _ => false
  give := fun _ => false
  free := fun i => match i with | 7 => [(5, 7), (6, 7), (5, 8), (6, 8), (15, 17), (16, 17), (15, 18), (16, 18), (15, 22), (16, 22), (17, 22), (18, 22), (19, 22), (20, 22), (21, 22), (15, 23), (16, 23), (17, 23), (18, 23), (19, 23), (20, 23), (21, 23), (34, 36), (35, 36), (34, 37), (35, 37), (34, 38), (35, 38)] | _ => []
  alive := av n42A
theorem n42a (t : Nat) (x : Bool) (e : Env) (S : bH) : cK n42 t x ⟨e, S⟩ = atO (av n42A t x) e S := cF rfl t x e S
theorem n42k (i : Nat) : n42.keep i = ax n42K i := rfl
theorem n42ro (t : Nat) : n42.ro t = (t == 1) := rfl
theorem n42mv (t : Nat) : n42.mv t = (false) := rfl
theorem n42f7 : n42.free 7 = [(5, 7), (6, 7), (5, 8), (6, 8), (15, 17), (16, 17), (15, 18), (16, 18), (15, 22), (16, 22), (17, 22), (18, 22), (19, 22), (20, 22), (21, 22), (15, 23), (16, 23), (17, 23), (18, 23), (19, 23), (20, 23), (21, 23), (34, 36), (35, 36), (34, 37), (35, 37), (34, 38), (35, 38)] := rfl
theorem res42 : Try.f42.results.toList = [.tmp 2] := rfl
noncomputable def b42 : Code := aU Try.f42
noncomputable def c42_0 : Code := (bE 0 (aU Try.f42)).getD .skip
theorem fl42_0 : bE 0 b42 = some c42_0 := rfl
theorem rg_rrMachineFault_k1 (C : aj) (k_rrStoreFault : K_rrStoreFault C) (k_rrIn : K_rrIn C) (p0 : GMachine) (c : Code) (ho : cD 0 1 b42 = some c) (r : Bool) (hF : ck_rrMachineFault_k1 p0 = some r) : @cV TT C.wide (evW TT C.wide n42 b42) n42 0 1 ⟨[(1, .rp [.i .i64 p0.fStore.fNow, .sl 8 (ah GEntry.row p0.fStore.fEntries), .i .i64 p0.fNext, .sl 7 (ah GClient.row p0.fClients)])], []⟩ ⟨c⟩ = some (.normal, ⟨[(1, .rp [.i .i64 p0.fStore.fNow, .sl 8 (ah GEntry.row p0.fStore.fEntries), .i .i64 p0.fNext, .sl 7 (ah GClient.row p0.fClients)]), (20, .v (.b r))], []⟩) := by
  have e := Option.some.inj (ho.symm.trans (rfl : cD 0 1 b42 = some _))
  subst e
  clear ho
  show aH _ _ _ _ _ _ = _
  revert hF
  unfold ck_rrMachineFault_k1
  refine az fun x1 h1 => ?_
  have g1 := bK (k_rrStoreFault p0.fStore _ h1)
  try simp only [ak] at g1
  refine bF (fun h2 => ?_) (fun h2 => ?_)
  focus
    rintro ⟨⟩
  rotate_left 1
  have g2 := bK (k_rrIn p0.fNext 1 1048577 _ (rrIn_t p0.fNext 1 1048577))
  have g3 : rrIn_v p0.fNext 1 1048577 = (decide (1 ≤ p0.fNext) && decide (p0.fNext ≤ 1048577)) := by first | rfl | (simp [rrIn_v]; done) | (simp only [rrIn_v]; decide)
  try simp only [ak] at g2
  refine bF (fun h3 => ?_) (fun h3 => ?_)
  focus
    rintro ⟨⟩
  rotate_left 1
  refine aX (fun h4 => ?_) (fun h4 => ?_)
  focus
    rintro ⟨⟩
  rotate_left 1
  rintro ⟨⟩
  all_goals (simp (maxSteps := 4000000) only [*, n42k, n42K, n42mv, ↓RP, RB, aQ, aD, be, Mx.bl, opnd, Mx.bI, Nat.reduceBEq, bQ, aN, aA, ay, Mx.put, ofConst, ofCell, Mx.prune, killB, aK, putDst, aw, aE, loadAt, bT, List.map, Nat.reduceAdd, cz, cB, cu, forceAll, lend, lendA, aS, aB, bR, bare, bW, ax, newB, cw, cy, cx, bne, bh, ty3, ty63, ty71, ty73, ↓aa _ _ _ _ 1])
theorem rg_rrMachineFault_k7v2 (C : aj) (k_rrnumberMay : K_rrnumberMay C) (k_rrIn : K_rrIn C) (k_rrReplyFault : K_rrReplyFault C) (p0 : GMachine) (p1 : Int) (p2 : GClient) (c : Code) (ho : cD 0 7 b42 = some c) (r : Bool) (hF : ck_rrMachineFault_k7v2 p0 p1 p2 = some r) : @cV TT C.wide (evW TT C.wide n42 b42) n42 0 7 ⟨[(1, .rp [.i .i64 p0.fStore.fNow, .sl 8 (ah GEntry.row p0.fStore.fEntries), .i .i64 p0.fNext, .sl 7 (ah GClient.row p0.fClients)]), (3, .v (.i .i64 p1)), (4, .ptr 0 0)], [[.v (.i .i64 p2.fId), .v (.i .i64 p2.fSeq), .v (.i .i64 p2.fTime), .v (.i .i64 p2.fReply.fCode), .v (.s p2.fReply.fText), .v (.i .i64 p2.fReply.fN), .v (.sl 1 (ah bY p2.fReply.fList))]]⟩ ⟨c⟩ = some (.normal, ⟨[(1, .rp [.i .i64 p0.fStore.fNow, .sl 8 (ah GEntry.row p0.fStore.fEntries), .i .i64 p0.fNext, .sl 7 (ah GClient.row p0.fClients)]), (3, .v (.i .i64 p1)), (80, .v (.b r))], [[.v (.i .i64 p2.fId), .v (.i .i64 p2.fSeq), .v (.i .i64 p2.fTime), .v (.i .i64 p2.fReply.fCode), .v (.s p2.fReply.fText), .v (.i .i64 p2.fReply.fN), .v (.sl 1 (ah bY p2.fReply.fList))]]⟩) := by
  have e := Option.some.inj (ho.symm.trans (rfl : cD 0 7 b42 = some _))
  subst e
  clear ho
  show aH _ _ _ _ _ _ = _
  revert hF
  unfold ck_rrMachineFault_k7v2
  have g1 := bK (k_rrnumberMay p2.fId _ (rrnumberMay_t p2.fId))
  try simp only [ak] at g1
  refine bF (fun h1 => ?_) (fun h1 => ?_)
  focus
    rintro ⟨⟩
  rotate_left 1
  unfold ck_rrMachineFault_k7v2_c1
  refine aX (fun h2 => ?_) (fun h2 => ?_)
  focus
    rintro ⟨⟩
  rotate_left 1
  refine bF (fun h3 => ?_) (fun h3 => ?_)
  focus
    have g2 := bK (k_rrIn p2.fSeq 0 1048576 _ (rrIn_t p2.fSeq 0 1048576))
    have g3 : rrIn_v p2.fSeq 0 1048576 = (decide (0 ≤ p2.fSeq) && decide (p2.fSeq ≤ 1048576)) := by first | rfl | (simp [rrIn_v]; done) | (simp only [rrIn_v]; decide)
    try simp only [ak] at g2
    refine bF (fun h4 => ?_) (fun h4 => ?_)
    focus
      rintro ⟨⟩
    rotate_left 1
    refine bF (fun h5 => ?_) (fun h5 => ?_)
    focus
      rintro ⟨⟩
    rotate_left 1
    have g4 := bK (k_rrIn p2.fTime 0 p0.fStore.fNow _ (rrIn_t p2.fTime 0 p0.fStore.fNow))
    have g5 : rrIn_v p2.fTime 0 p0.fStore.fNow = (decide (0 ≤ p2.fTime) && decide (p2.fTime ≤ p0.fStore.fNow)) := by first | rfl | (simp [rrIn_v]; done) | (simp only [rrIn_v]; decide)
    try simp only [ak] at g4
    refine bF (fun h6 => ?_) (fun h6 => ?_)
    focus
      rintro ⟨⟩
    rotate_left 1
    refine bF (fun h7 => ?_) (fun h7 => ?_)
    focus
      rintro ⟨⟩
    rotate_left 1
    refine az fun x1 h8 => ?_
    have g6 := bK (k_rrReplyFault p2.fReply _ h8)
    try simp only [ak] at g6
    rintro ⟨⟩
  rotate_left 5
  unfold ck_rrMachineFault_k7v2_c0
  refine az fun x1 h4 => ?_
  have g7 : decide (0 ≤ (IntKind.i64.wrap (p1 - 1))) = true := (cp h4).1
  have g8 : (ah GClient.row p0.fClients)[((IntKind.i64.wrap (p1 - 1)) : Int).toNat]? = some [.i .i64 x1.fId, .i .i64 x1.fSeq, .i .i64 x1.fTime, .i .i64 x1.fReply.fCode, .s x1.fReply.fText, .i .i64 x1.fReply.fN, .sl 1 (ah bY x1.fReply.fList)] := cn _ h4
  refine aX (fun h5 => ?_) (fun h5 => ?_)
  focus
    rintro ⟨⟩
  rotate_left 1
  have g2 := bK (k_rrIn p2.fSeq 0 1048576 _ (rrIn_t p2.fSeq 0 1048576))
  have g3 : rrIn_v p2.fSeq 0 1048576 = (decide (0 ≤ p2.fSeq) && decide (p2.fSeq ≤ 1048576)) := by first | rfl | (simp [rrIn_v]; done) | (simp only [rrIn_v]; decide)
  try simp only [ak] at g2
  refine bF (fun h6 => ?_) (fun h6 => ?_)
  focus
    rintro ⟨⟩
  rotate_left 1
  refine bF (fun h7 => ?_) (fun h7 => ?_)
  focus
    rintro ⟨⟩
  rotate_left 1
  have g4 := bK (k_rrIn p2.fTime 0 p0.fStore.fNow _ (rrIn_t p2.fTime 0 p0.fStore.fNow))
  have g5 : rrIn_v p2.fTime 0 p0.fStore.fNow = (decide (0 ≤ p2.fTime) && decide (p2.fTime ≤ p0.fStore.fNow)) := by first | rfl | (simp [rrIn_v]; done) | (simp only [rrIn_v]; decide)
  try simp only [ak] at g4
  refine bF (fun h8 => ?_) (fun h8 => ?_)
  focus
    rintro ⟨⟩
  rotate_left 1
  refine bF (fun h9 => ?_) (fun h9 => ?_)
  focus
    rintro ⟨⟩
  rotate_left 1
  refine az fun x2 h10 => ?_
  have g9 := bK (k_rrReplyFault p2.fReply _ h10)
  try simp only [ak] at g9
  rintro ⟨⟩
  all_goals (simp (maxSteps := 4000000) only [*, n42k, n42K, n42f7, n42mv, ↓RP, RB, aQ, aD, be, Mx.bl, opnd, Mx.bI, Nat.reduceBEq, bQ, aN, aA, ay, Mx.put, ofConst, ofCell, Mx.prune, killB, aK, putDst, aw, aE, loadAt, bT, List.map, Nat.reduceAdd, cz, cB, forceAll, bj, lend, lendA, aS, aB, bR, bare, bW, bG, Nat.reduceSub, cd, aI, aY, cm, bL, cv, ch, bo, aL, bm, Op.operands, ax, newB, cw, cy, cx, bne, bh, aP, br, Call.operands, ty3, ty63, ty71, ty73, ty128, ty130, ↓aq _ _ _ _ 7])
def hd_rrMachineFault_0 (p0 : GMachine) (s : Int) : St := ⟨[(1, .rp [.i .i64 p0.fStore.fNow, .sl 8 (ah GEntry.row p0.fStore.fEntries), .i .i64 p0.fNext, .sl 7 (ah GClient.row p0.fClients)]), (3, .v (.i .i64 s))], []⟩
def ou_rrMachineFault_0 (p0 : GMachine) (r : GClient ⊕ Unit) : Option (Ex × St) := match r with
  | .inl r => some (.ret, ⟨[(2, .v (.i .i64 13))], [[.v (.i .i64 r.fId), .v (.i .i64 r.fSeq), .v (.i .i64 r.fTime), .v (.i .i64 r.fReply.fCode), .v (.s r.fReply.fText), .v (.i .i64 r.fReply.fN), .v (.sl 1 (ah bY r.fReply.fList))]]⟩)
  | .inr r => some (.normal, ⟨[], []⟩)
theorem sl_rrMachineFault_0 (C : aj) (k_rrnumberMay : K_rrnumberMay C) (k_rrIn : K_rrIn C) (k_rrReplyFault : K_rrReplyFault C) (p0 : GMachine) (p1 : Int) (o : Int ⊕ (GClient ⊕ Unit)) (hF : st_rrMachineFault_0 p0 p1 = some o) : evW TT C.wide n42 b42 0 (hd_rrMachineFault_0 p0 p1) = Sum.elim (fun s => evW TT C.wide n42 b42 0 (hd_rrMachineFault_0 p0 s)) (fun r => ou_rrMachineFault_0 p0 r) o := by
  rw [cG TT n42 fl42_0]
  revert hF
  unfold st_rrMachineFault_0
  try dsimp only
  refine bF (fun h1 => ?_) (fun h1 => ?_)
  focus
    rintro ⟨⟩
  rotate_left 1
  refine az fun x1 h2 => ?_
  have g1 : decide (0 ≤ p1) = true := (cp h2).1
  have g2 : (ah GClient.row p0.fClients)[(p1 : Int).toNat]? = some [.i .i64 x1.fId, .i .i64 x1.fSeq, .i .i64 x1.fTime, .i .i64 x1.fReply.fCode, .s x1.fReply.fText, .i .i64 x1.fReply.fN, .sl 1 (ah bY x1.fReply.fList)] := cn _ h2
  refine az fun x2 h3 => ?_
  have g3 := rg_rrMachineFault_k7v2 C k_rrnumberMay k_rrIn k_rrReplyFault p0 p1 x1 _ rfl _ h3
  try simp only [ak] at g3
  refine aX (fun h4 => ?_) (fun h4 => ?_)
  focus
    rintro ⟨⟩
  rotate_left 1
  rintro ⟨⟩
  all_goals (show cN _ _ _ (aH _ _ _ _ (Code.seq _ _) _) = _; simp (maxSteps := 4000000) only [*, hd_rrMachineFault_0, ou_rrMachineFault_0, n42a, n42A, n42k, n42K, n42mv, ↓RP, RB, ↓ai, be, bf, aJ, Mx.bl, opnd, Mx.bI, Nat.reduceBEq, bQ, Mx.fit, bP, co, cellsOf, aN, aA, ay, Mx.put, ofConst, ofCell, Mx.prune, killB, killBs, aK, putDst, aw, aE, loadAt, bT, List.map, Nat.reduceAdd, cz, cB, cu, bJ, aM, lowC, bj, kill, bG, setCells, Nat.reduceLeDiff, lowA, bn, ax, av, atO, cy, cx, bne, ↓ao, ↓am, ty3, ty25, ty71, ty73, ty130, ↓aa _ _ _ _ 4, ↓aa _ _ _ _ 6, ↓bg _ _ _ _ 7, ↓aa _ _ _ _ 8, ↓aa _ _ _ _ 5])
theorem r_rrMachineFault (C : aj) (k_rrStoreFault : K_rrStoreFault C) (k_rrIn : K_rrIn C) (k_rrnumberMay : K_rrnumberMay C) (k_rrReplyFault : K_rrReplyFault C) (p0 : GMachine) (r : Int) (hF : rrMachineFault p0 = some r) : cR TT C.wide (evW TT C.wide n42 b42) n42 Try.f42.results.toList (aU Try.f42) [.agg [.v (.i .i64 p0.fStore.fNow), .v (.sl 8 (ah GEntry.row p0.fStore.fEntries)), .v (.i .i64 p0.fNext), .v (.sl 7 (ah GClient.row p0.fClients))]] [] = some (.v (.i .i64 r), []) := by
  revert hF
  unfold rrMachineFault
  refine az fun x1 h1 => ?_
  have g1 := rg_rrMachineFault_k1 C k_rrStoreFault k_rrIn p0 _ rfl _ h1
  try simp only [ak] at g1
  refine aX (fun h2 => ?_) (fun h2 => ?_)
  focus
    rintro ⟨⟩
  rotate_left 1
  refine az ?_
  rintro (x2 | _) h3
  focus
    dsimp only
    have g2 := cH _ _ (sl_rrMachineFault_0 C k_rrnumberMay k_rrIn k_rrReplyFault p0) h3
    try simp only [hd_rrMachineFault_0, ou_rrMachineFault_0] at g2
    rintro ⟨⟩
  rotate_left 1
  dsimp only
  have g3 := cH _ _ (sl_rrMachineFault_0 C k_rrnumberMay k_rrIn k_rrReplyFault p0) h3
  try simp only [hd_rrMachineFault_0, ou_rrMachineFault_0] at g3
  rintro ⟨⟩
  all_goals (rw [bk]; show cC _ _ _ (aH _ _ _ _ (Code.seq _ _) _) = _; simp (maxSteps := 4000000) only [*, res42, n42a, n42A, n42k, n42K, n42ro, ↓RP, RB, enter, be, bf, aJ, Mx.bl, opnd, Mx.bI, Nat.reduceBEq, bQ, Mx.fit, bP, co, toVs, cellsOf, toV, aN, aA, ay, Mx.put, ofConst, ofCell, Mx.prune, killB, List.map, aC, bu, bx, cA, bS, bJ, aM, lowC, ax, av, atO, ↓ao, ↓am, ty3, ty25, ty73, ↓aa _ _ _ _ 0, ↓bg _ _ _ _ 1, ↓aa _ _ _ _ 2, ↓aa _ _ _ _ 3, ↓aa _ _ _ _ 9])
def n106K : List (Nat × List Nat) := [(0, [0]), (1, [0, 3, 5]), (2, [0, 3, 5]), (3, [0, 3, 4, 5]), (4, [0, 3, 4, 5, 9]), (5, [0, 3, 4, 5]), (6, [0, 3, 4, 5]), (7, [0, 3, 4, 5]), (8, [2, 3, 5, 20])]
def n106A : List (Nat × List Nat × List Nat) := [(9, [0, 3, 4, 5], [3, 5])]
def n106 : cL where
  keep := ax n106K
  ro := fun _ => false
  mv := fun _ => false
  give := fun _ => false
  free := fun _ => []
  alive := av n106A
theorem n106a (t : Nat) (x : Bool) (e : Env) (S : bH) : cK n106 t x ⟨e, S⟩ = atO (av n106A t x) e S := cF rfl t x e S
theorem n106k (i : Nat) : n106.keep i = ax n106K i := rfl
theorem res106 : Try.f106.results.toList = [.tmp 2] := rfl
noncomputable def b106 : Code := aU Try.f106
noncomputable def c106_0 : Code := (bE 0 (aU Try.f106)).getD .skip
theorem fl106_0 : bE 0 b106 = some c106_0 := rfl
def hd_rreight_0  (s : Int × (List Int) × Int) : St := ⟨[(0, .v (.i .i64 s.1)), (3, .own 1 (ah cE s.2.1)), (4, .v (.i .i64 s.2.2)), (5, .bad)], []⟩
def ou_rreight_0  (r : (List Int)) : Option (Ex × St) := some (.normal, ⟨[(3, .own 1 (ah cE r)), (5, .bad)], []⟩)
theorem sl_rreight_0 (C : aj)   (s : Int × (List Int) × Int) (o : (Int × (List Int) × Int) ⊕ (List Int)) (hF : st_rreight_0  s = some o) : evW TT C.wide n106 b106 0 (hd_rreight_0  s) = Sum.elim (fun s => evW TT C.wide n106 b106 0 (hd_rreight_0  s)) (fun r => ou_rreight_0  r) o := by
  obtain ⟨p0, p1, p2⟩ := s
  rw [cG TT n106 fl106_0]
  revert hF
  unfold st_rreight_0
  try dsimp only
  refine bF (fun h1 => ?_) (fun h1 => ?_)
  focus
    rintro ⟨⟩
  rotate_left 1
  refine aX (fun h2 => ?_) (fun _ => nofun)
  refine az fun x1 h3 => ?_
  have g1 : decide (0 ≤ p2) = true := (cp h3).1
  have g2 : (ah cE p1)[(p2 : Int).toNat]? = some [.i .u8 x1] := cn _ h3
  rintro ⟨⟩
  all_goals (show cN _ _ _ (aH _ _ _ _ (Code.seq _ _) _) = _; simp (maxSteps := 4000000) only [*, hd_rreight_0, ou_rreight_0, n106a, n106A, n106k, n106K, ↓RP, RB, ↓ai, be, bf, aJ, Mx.bl, opnd, Mx.bI, Nat.reduceBEq, bQ, Mx.fit, co, toVs, cellsOf, toV, aN, aA, Mx.put, ofConst, ofCell, Mx.prune, killB, aK, putDst, aw, List.map, cz, cB, bj, setOwn, dropAl, bX, ownAt, Nat.reduceLeDiff, Int.reduceBEq, ax, av, atO, cy, cx, ↓ao, ↓am, ↓aa, ty3, ty5, ty39])
theorem r_rreight (C : aj)  (p0 : Int) (r : (List Int)) (hF : rreight p0 = some r) : cR TT C.wide (evW TT C.wide n106 b106) n106 Try.f106.results.toList (aU Try.f106) [.v (.i .i64 p0)] [] = some (.own 1 (ah cE r), []) := by
  revert hF
  unfold rreight
  have g1 : makeB 8 1 = true := by decide
  refine az ?_
  rintro x1 h1
  have g2 := cH _ _ (sl_rreight_0 C) h1
  try simp only [hd_rreight_0, ou_rreight_0] at g2
  rintro ⟨⟩
  all_goals (rw [bk]; show cC _ _ _ (aH _ _ _ _ (Code.seq _ _) _) = _; simp (maxSteps := 4000000) only [*, res106, n106k, n106K, ↓RP, RB, enter, be, bf, aJ, Mx.bl, opnd, Mx.bI, Nat.reduceBEq, bQ, Mx.fit, co, toVs, toV, aN, aA, Mx.put, ofConst, ofCell, Mx.prune, killB, aK, putDst, aw, List.map, cz, cB, aC, bu, bx, cA, bS, aM, lowC, aT, kill, ct, bG, ax, cy, cx, bne, ↓ao, ↓aa, ty3, ty5, ty39])
def n105K : List (Nat × List Nat) := [(0, [0, 1]), (1, [0, 1, 5, 20, 33]), (2, [0, 1, 5, 6, 20, 33]), (3, [0, 1, 5, 6, 11, 20, 33]), (4, [0, 1, 5, 6, 20, 33]), (5, [0, 1, 5, 6, 20, 33]), (6, [1, 5, 7, 20, 33]), (7, [1, 5, 7, 20, 24, 33]), (8, [1, 5, 7, 20, 33]), (9, [1, 5, 7, 20, 33]), (10, [4, 5, 20, 33, 34])]
def n105A : List (Nat × List Nat × List Nat) := [(11, [0, 1, 5, 6, 20, 33], [1, 5, 20, 33]), (24, [1, 5, 7, 20, 33], [5, 20, 33])]
def n105 : cL where
  keep := ax n105K
  ro := fun _ => false
  mv := fun _ => false
  give := fun _ => false
  free := fun _ => []
  alive := av n105A
theorem n105a (t : Nat) (x : Bool) (e : Env) (S : bH) : cK n105 t x ⟨e, S⟩ = atO (av n105A t x) e S := cF rfl t x e S
theorem n105k (i : Nat) : n105.keep i = ax n105K i := rfl
theorem n105mv (t : Nat) : n105.mv t = (false) := rfl
theorem res105 : Try.f105.results.toList = [.tmp 4] := rfl
noncomputable def b105 : Code := aU Try.f105
noncomputable def c105_0 : Code := (bE 0 (aU Try.f105)).getD .skip
theorem fl105_0 : bE 0 b105 = some c105_0 := rfl
noncomputable def c105_2 : Code := (bE 2 (aU Try.f105)).getD .skip
theorem fl105_2 : bE 2 b105 = some c105_2 := rfl
def hd_rrjoined_0 (p0 : List Int) (p1 : List Int) (s : (List Int) × Int) : St := ⟨[(0, .v (.sl 1 (ah cE p0))), (1, .v (.sl 1 (ah cE p1))), (5, .own 1 (ah cE s.1)), (6, .v (.i .i64 s.2)), (20, .bad), (33, .bad)], []⟩
def ou_rrjoined_0 (p0 : List Int) (p1 : List Int) (r : (List Int)) : Option (Ex × St) := some (.normal, ⟨[(1, .v (.sl 1 (ah cE p1))), (5, .own 1 (ah cE r)), (20, .bad), (33, .bad)], []⟩)
theorem sl_rrjoined_0 (C : aj)  (p0 : List Int) (p1 : List Int) (s : (List Int) × Int) (o : ((List Int) × Int) ⊕ (List Int)) (hF : st_rrjoined_0 p0 p1 s = some o) : evW TT C.wide n105 b105 0 (hd_rrjoined_0 p0 p1 s) = Sum.elim (fun s => evW TT C.wide n105 b105 0 (hd_rrjoined_0 p0 p1 s)) (fun r => ou_rrjoined_0 p0 p1 r) o := by
  obtain ⟨p2, p3⟩ := s
  rw [cG TT n105 fl105_0]
  revert hF
  unfold st_rrjoined_0
  try dsimp only
  refine bF (fun h1 => ?_) (fun h1 => ?_)
  focus
    rintro ⟨⟩
  rotate_left 1
  refine az fun x1 h2 => ?_
  have g1 : decide (0 ≤ p3) = true := (cp h2).1
  have g2 : (ah cE p0)[(p3 : Int).toNat]? = some [.i .u8 x1] := cn _ h2
  refine aX (fun h3 => ?_) (fun _ => nofun)
  rintro ⟨⟩
  all_goals (show cN _ _ _ (aH _ _ _ _ (Code.seq _ _) _) = _; simp (maxSteps := 4000000) only [*, hd_rrjoined_0, ou_rrjoined_0, n105a, n105A, n105k, n105K, n105mv, ↓RP, RB, ↓ab, be, bf, aJ, Mx.bl, opnd, Mx.bI, Nat.reduceBEq, bQ, Mx.fit, co, toVs, cellsOf, toV, aN, aA, ay, Mx.put, ofConst, ofCell, Mx.prune, killB, aK, putDst, aw, loadAt, bT, List.map, Nat.reduceMul, cz, cB, cu, aO, bJ, aM, bD, bj, kill, spendLoc, spendOk, bO, bG, takeParts, bv, aR, Nat.reduceLeDiff, ax, av, atO, cy, cx, bne, ↓ao, ↓am, ↓aa, aF, ty3, ty5, ty39])
def hd_rrjoined_2 (p0 : List Int) (s : (List Int) × Int) : St := ⟨[(1, .v (.sl 1 (ah cE p0))), (5, .own 1 (ah cE s.1)), (7, .v (.i .i64 s.2)), (20, .bad), (33, .bad)], []⟩
def ou_rrjoined_2 (p0 : List Int) (r : (List Int)) : Option (Ex × St) := some (.normal, ⟨[(5, .own 1 (ah cE r)), (20, .bad), (33, .bad)], []⟩)
theorem sl_rrjoined_2 (C : aj)  (p0 : List Int) (s : (List Int) × Int) (o : ((List Int) × Int) ⊕ (List Int)) (hF : st_rrjoined_2 p0 s = some o) : evW TT C.wide n105 b105 2 (hd_rrjoined_2 p0 s) = Sum.elim (fun s => evW TT C.wide n105 b105 2 (hd_rrjoined_2 p0 s)) (fun r => ou_rrjoined_2 p0 r) o := by
  obtain ⟨p1, p2⟩ := s
  rw [cG TT n105 fl105_2]
  revert hF
  unfold st_rrjoined_2
  try dsimp only
  refine bF (fun h1 => ?_) (fun h1 => ?_)
  focus
    rintro ⟨⟩
  rotate_left 1
  refine az fun x1 h2 => ?_
  have g1 : decide (0 ≤ p2) = true := (cp h2).1
  have g2 : (ah cE p0)[(p2 : Int).toNat]? = some [.i .u8 x1] := cn _ h2
  refine aX (fun h3 => ?_) (fun _ => nofun)
  rintro ⟨⟩
  all_goals (show cN _ _ _ (aH _ _ _ _ (Code.seq _ _) _) = _; simp (maxSteps := 4000000) only [*, hd_rrjoined_2, ou_rrjoined_2, n105a, n105A, n105k, n105K, n105mv, ↓RP, RB, ↓ab, be, bf, aJ, Mx.bl, opnd, Mx.bI, Nat.reduceBEq, bQ, Mx.fit, co, toVs, cellsOf, toV, aN, aA, ay, Mx.put, ofConst, ofCell, Mx.prune, killB, aK, putDst, aw, loadAt, bT, List.map, Nat.reduceMul, cz, cB, cu, aO, bJ, aM, bD, bj, kill, spendLoc, spendOk, bO, bG, takeParts, bv, aR, Nat.reduceLeDiff, ax, av, atO, cy, cx, bne, ↓ao, ↓am, ↓aa, aF, ty3, ty5, ty39])
theorem r_rrjoined (C : aj)  (p0 : List Int) (p1 : List Int) (r : (List Int)) (hF : rrjoined p0 p1 = some r) : cR TT C.wide (evW TT C.wide n105 b105) n105 Try.f105.results.toList (aU Try.f105) [.v (.sl 1 (ah cE p0)), .v (.sl 1 (ah cE p1))] [] = some (.own 1 (ah cE r), []) := by
  revert hF
  unfold rrjoined
  refine az ?_
  rintro x1 h1
  have g1 := cH _ _ (sl_rrjoined_0 C p0 p1) h1
  try simp only [ak, hd_rrjoined_0, ou_rrjoined_0] at g1
  refine az ?_
  rintro x2 h2
  have g2 := cH _ _ (sl_rrjoined_2 C p1) h2
  try simp only [hd_rrjoined_2, ou_rrjoined_2] at g2
  rintro ⟨⟩
  all_goals (rw [bk]; show cC _ _ _ (aH _ _ _ _ (Code.seq _ _) _) = _; simp (maxSteps := 4000000) only [*, res105, n105k, n105K, ↓RP, RB, enter, be, bf, aJ, Mx.bl, opnd, Mx.bI, Nat.reduceBEq, bQ, Mx.fit, co, aN, aA, Mx.put, ofConst, ofCell, Mx.prune, killB, aK, putDst, aw, List.map, aC, bu, bx, cA, bS, aM, lowC, ct, bG, ax, ↓ao, ↓aa, ty3, ty39])
def n107K : List (Nat × List Nat) := [(0, [0]), (1, [2, 9])]
def n107 : cL where
  keep := ax n107K
  ro := fun _ => false
  mv := fun _ => false
  give := fun _ => false
  free := fun _ => []
theorem n107k (i : Nat) : n107.keep i = ax n107K i := rfl
theorem res107 : Try.f107.results.toList = [.tmp 2] := rfl
noncomputable def b107 : Code := aU Try.f107
theorem r_rrtextBytes (C : aj) (k_rrjoined : K_rrjoined C) (p0 : ByteArray) (r : (List Int)) (hF : rrtextBytes p0 = some r) : cR TT C.wide (evW TT C.wide n107 b107) n107 Try.f107.results.toList (aU Try.f107) [.v (.s p0)] [] = some (.own 1 (ah cE r), []) := by
  revert hF
  unfold rrtextBytes
  refine az fun x1 h1 => ?_
  have g1 := bK (k_rrjoined [(IntKind.u8.wrap (p0.size : Int))] (byL p0) _ h1)
  try simp only [ak] at g1
  rintro ⟨⟩
  all_goals (rw [bk]; show cC _ _ _ (aH _ _ _ _ (Code.seq _ _) _) = _; simp (maxSteps := 4000000) only [*, res107, n107k, n107K, ↓RP, RB, enter, be, bf, aJ, Mx.bl, opnd, Mx.bI, Nat.reduceBEq, bQ, Mx.fit, co, toVs, cellsOf, toV, aN, aA, Mx.put, ofConst, ofCell, Mx.prune, killB, aK, putDst, aw, List.map, Nat.reduceMul, cu, aC, bu, bx, cA, bS, bJ, aM, bD, lowC, forceAll, bC, kill, lend, lendA, aS, aB, bare, bW, takeParts, bv, aR, Nat.reduceLeDiff, ax, newB, cw, bne, ↓ao, ↓aa, ty3, ty5, ty9, ty39])
def n124K : List (Nat × List Nat) := [(0, [0]), (1, [0, 3, 8, 21]), (2, [0, 3, 4, 8, 21]), (3, [0, 3, 4, 8, 12, 21]), (4, [0, 3, 4, 8, 21]), (5, [0, 3, 4, 8, 21]), (6, [2, 3, 8, 21, 22])]
def n124A : List (Nat × List Nat × List Nat) := [(12, [0, 3, 4, 8, 21], [3, 8, 21])]
def n124 : cL where
  keep := ax n124K
  ro := fun _ => false
  mv := fun _ => false
  give := fun _ => false
  free := fun _ => []
  alive := av n124A
theorem n124a (t : Nat) (x : Bool) (e : Env) (S : bH) : cK n124 t x ⟨e, S⟩ = atO (av n124A t x) e S := cF rfl t x e S
theorem n124k (i : Nat) : n124.keep i = ax n124K i := rfl
theorem n124mv (t : Nat) : n124.mv t = (false) := rfl
theorem res124 : Try.f124.results.toList = [.tmp 2] := rfl
noncomputable def b124 : Code := aU Try.f124
noncomputable def c124_0 : Code := (bE 0 (aU Try.f124)).getD .skip
theorem fl124_0 : bE 0 b124 = some c124_0 := rfl
def hd_rrlistBytes_0 (p0 : List ByteArray) (s : (List Int) × Int) : St := ⟨[(0, .v (.sl 1 (ah bY p0))), (3, .own 1 (ah cE s.1)), (4, .v (.i .i64 s.2)), (8, .bad), (21, .bad)], []⟩
def ou_rrlistBytes_0 (p0 : List ByteArray) (r : (List Int)) : Option (Ex × St) := some (.normal, ⟨[(3, .own 1 (ah cE r)), (8, .bad), (21, .bad)], []⟩)
theorem sl_rrlistBytes_0 (C : aj) (k_rrtextBytes : K_rrtextBytes C) (k_rrjoined : K_rrjoined C) (p0 : List ByteArray) (s : (List Int) × Int) (o : ((List Int) × Int) ⊕ (List Int)) (hF : st_rrlistBytes_0 p0 s = some o) : evW TT C.wide n124 b124 0 (hd_rrlistBytes_0 p0 s) = Sum.elim (fun s => evW TT C.wide n124 b124 0 (hd_rrlistBytes_0 p0 s)) (fun r => ou_rrlistBytes_0 p0 r) o := by
  obtain ⟨p1, p2⟩ := s
  rw [cG TT n124 fl124_0]
  revert hF
  unfold st_rrlistBytes_0
  try dsimp only
  refine bF (fun h1 => ?_) (fun h1 => ?_)
  focus
    rintro ⟨⟩
  rotate_left 1
  refine az fun x1 h2 => ?_
  have g1 : decide (0 ≤ p2) = true := (cp h2).1
  have g2 : (ah bY p0)[(p2 : Int).toNat]? = some [.s x1] := cn _ h2
  refine az fun x2 h3 => ?_
  have g3 := bK (k_rrtextBytes x1 _ h3)
  try simp only [ak] at g3
  refine az fun x3 h4 => ?_
  have g4 := bK (k_rrjoined p1 x2 _ h4)
  try simp only [ak] at g4
  rintro ⟨⟩
  all_goals (show cN _ _ _ (aH _ _ _ _ (Code.seq _ _) _) = _; simp (maxSteps := 4000000) only [*, hd_rrlistBytes_0, ou_rrlistBytes_0, n124a, n124A, n124k, n124K, n124mv, ↓RP, RB, ↓ab, be, bf, aJ, Mx.bl, opnd, Mx.bI, Nat.reduceBEq, bQ, Mx.fit, co, aN, aA, ay, Mx.put, ofConst, ofCell, Mx.prune, killB, aK, putDst, aw, loadAt, bT, List.map, cz, cB, cu, forceAll, bj, kill, bO, lend, lendA, aS, aB, bare, bW, ax, av, atO, newB, cw, cy, cx, ↓ao, ↓am, ↓aa, ty3, ty9, ty39, ty50])
theorem r_rrlistBytes (C : aj) (k_rrtextBytes : K_rrtextBytes C) (k_rrjoined : K_rrjoined C) (p0 : List ByteArray) (r : (List Int)) (hF : rrlistBytes p0 = some r) : cR TT C.wide (evW TT C.wide n124 b124) n124 Try.f124.results.toList (aU Try.f124) [.v (.sl 1 (ah bY p0))] [] = some (.own 1 (ah cE r), []) := by
  revert hF
  unfold rrlistBytes
  refine az ?_
  rintro x1 h1
  have g1 := cH _ _ (sl_rrlistBytes_0 C k_rrtextBytes k_rrjoined p0) h1
  try simp only [hd_rrlistBytes_0, ou_rrlistBytes_0] at g1
  rintro ⟨⟩
  all_goals (rw [bk]; show cC _ _ _ (aH _ _ _ _ (Code.seq _ _) _) = _; simp (maxSteps := 4000000) only [*, res124, n124k, n124K, ↓RP, RB, enter, be, bf, aJ, Mx.bl, opnd, Mx.bI, Nat.reduceBEq, bQ, Mx.fit, co, toVs, cellsOf, toV, aN, aA, Mx.put, ofConst, ofCell, Mx.prune, killB, aK, putDst, aw, List.map, Nat.reduceMul, cu, aC, bu, bx, cA, bS, bJ, aM, bD, lowC, kill, ct, bG, takeParts, bv, aR, Nat.reduceLeDiff, ax, bne, ↓ao, ↓aa, ty3, ty5, ty39, ty50])
end Go.Proofs.Ytnjkmbogbfjffaa
