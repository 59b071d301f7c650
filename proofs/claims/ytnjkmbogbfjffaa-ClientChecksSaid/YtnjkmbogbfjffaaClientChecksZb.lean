/- The code of these functions, run by the machine Mx, gives what the plain functions say, if their callees do (part 2). -/
import Derived.Test.YtnjkmbogbfjffaaWTy
import Derived.Test.YtnjkmbogbfjffaaClientChecksD
import Derived.Test.YtnjkmbogbfjffaaClientChecksZa
set_option linter.unusedSimpArgs false
set_option linter.unusedVariables false
set_option linter.constructorNameAsVariable false
set_option linter.unnecessarySimpa false
set_option maxRecDepth 100000
set_option maxHeartbeats 40000000
namespace Go.Proofs.Ytnjkmbogbfjffaa
open Go Go.Mx Go.Proofs
def n28 : cC where
  keep := fun i => match i with
    | 0 => [1]
    | 1 => [1, 14]
    | 2 => [2]
    | 3 => [1, 3]
    | 4 => [1, 3, 17]
    | 5 => [1, 3]
    | 6 => [1, 3, 17, 19]
    | 7 => [1, 3]
    | 8 => [1, 3, 17, 22]
    | 9 => [1, 3]
    | 10 => [1, 3, 17, 25]
    | 11 => [1, 3]
    | 12 => [1, 3, 28]
    | 13 => [1, 3]
    | 14 => [1, 43]
    | 15 => [2]
    | 16 => [1, 56]
    | 17 => [2]
    | 18 => [1, 65]
    | 19 => [2]
    | 20 => [1, 68]
    | 21 => [2]
    | 22 => [1, 71]
    | 23 => [2]
    | 24 => [1, 80]
    | 25 => [2]
    | 26 => [1, 4]
    | 27 => [1, 4, 100, 101, 102]
    | 28 => [1, 4, 100, 101, 102, 103]
    | 29 => [1, 4, 5, 6, 100, 101, 102]
    | 30 => [1, 4, 100, 101, 102]
    | 31 => [1, 4, 100, 101, 102]
    | 32 => [120]
    | 33 => [2]
    | 34 => [2]
    | _ => []
  ro := fun t => t == 1
  mv := fun _ => false
  give := fun _ => false
  free := fun i => match i with | 30 => [(2, 4), (3, 4), (2, 6), (3, 6), (4, 6), (5, 6), (2, 7), (3, 7), (4, 7), (5, 7)] | _ => []
  alive := fun i x => match i, x with
    | 14, true => some []
    | 14, false => some [1]
    | 19, true => some [1, 3]
    | 19, false => some [1, 3, 17]
    | 22, true => some [1, 3]
    | 22, false => some [1, 3, 17]
    | 25, true => some [1, 3]
    | 25, false => some [1, 3, 17]
    | 28, true => some [1, 3]
    | 28, false => some [1, 3]
    | 43, true => some []
    | 43, false => some [1]
    | 56, true => some []
    | 56, false => some [1]
    | 65, true => some []
    | 65, false => some [1]
    | 68, true => some []
    | 68, false => some [1]
    | 71, true => some []
    | 71, false => some [1]
    | 80, true => some []
    | 80, false => some [1]
    | 103, true => some [1, 4, 100, 101, 102]
    | 103, false => some [4]
    | 120, true => some []
    | 120, false => some []
    | _, _ => none
theorem n28a14t (e : Env) (S : aA) : aw n28 14 true ⟨e, S⟩ = ⟨prune [] e, S⟩ := rfl
theorem n28a14f (e : Env) (S : aA) : aw n28 14 false ⟨e, S⟩ = ⟨prune [1] e, S⟩ := rfl
theorem n28a19t (e : Env) (S : aA) : aw n28 19 true ⟨e, S⟩ = ⟨prune [1, 3] e, S⟩ := rfl
theorem n28a19f (e : Env) (S : aA) : aw n28 19 false ⟨e, S⟩ = ⟨prune [1, 3, 17] e, S⟩ := rfl
theorem n28a22t (e : Env) (S : aA) : aw n28 22 true ⟨e, S⟩ = ⟨prune [1, 3] e, S⟩ := rfl
theorem n28a22f (e : Env) (S : aA) : aw n28 22 false ⟨e, S⟩ = ⟨prune [1, 3, 17] e, S⟩ := rfl
theorem n28a25t (e : Env) (S : aA) : aw n28 25 true ⟨e, S⟩ = ⟨prune [1, 3] e, S⟩ := rfl
theorem n28a25f (e : Env) (S : aA) : aw n28 25 false ⟨e, S⟩ = ⟨prune [1, 3, 17] e, S⟩ := rfl
theorem n28a28t (e : Env) (S : aA) : aw n28 28 true ⟨e, S⟩ = ⟨prune [1, 3] e, S⟩ := rfl
theorem n28a28f (e : Env) (S : aA) : aw n28 28 false ⟨e, S⟩ = ⟨prune [1, 3] e, S⟩ := rfl
theorem n28a43t (e : Env) (S : aA) : aw n28 43 true ⟨e, S⟩ = ⟨prune [] e, S⟩ := rfl
theorem n28a43f (e : Env) (S : aA) : aw n28 43 false ⟨e, S⟩ = ⟨prune [1] e, S⟩ := rfl
theorem n28a56t (e : Env) (S : aA) : aw n28 56 true ⟨e, S⟩ = ⟨prune [] e, S⟩ := rfl
theorem n28a56f (e : Env) (S : aA) : aw n28 56 false ⟨e, S⟩ = ⟨prune [1] e, S⟩ := rfl
theorem n28a65t (e : Env) (S : aA) : aw n28 65 true ⟨e, S⟩ = ⟨prune [] e, S⟩ := rfl
theorem n28a65f (e : Env) (S : aA) : aw n28 65 false ⟨e, S⟩ = ⟨prune [1] e, S⟩ := rfl
theorem n28a68t (e : Env) (S : aA) : aw n28 68 true ⟨e, S⟩ = ⟨prune [] e, S⟩ := rfl
theorem n28a68f (e : Env) (S : aA) : aw n28 68 false ⟨e, S⟩ = ⟨prune [1] e, S⟩ := rfl
theorem n28a71t (e : Env) (S : aA) : aw n28 71 true ⟨e, S⟩ = ⟨prune [] e, S⟩ := rfl
theorem n28a71f (e : Env) (S : aA) : aw n28 71 false ⟨e, S⟩ = ⟨prune [1] e, S⟩ := rfl
theorem n28a80t (e : Env) (S : aA) : aw n28 80 true ⟨e, S⟩ = ⟨prune [] e, S⟩ := rfl
theorem n28a80f (e : Env) (S : aA) : aw n28 80 false ⟨e, S⟩ = ⟨prune [1] e, S⟩ := rfl
theorem n28a103t (e : Env) (S : aA) : aw n28 103 true ⟨e, S⟩ = ⟨prune [1, 4, 100, 101, 102] e, S⟩ := rfl
theorem n28a103f (e : Env) (S : aA) : aw n28 103 false ⟨e, S⟩ = ⟨prune [4] e, S⟩ := rfl
theorem n28a120t (e : Env) (S : aA) : aw n28 120 true ⟨e, S⟩ = ⟨prune [] e, S⟩ := rfl
theorem n28a120f (e : Env) (S : aA) : aw n28 120 false ⟨e, S⟩ = ⟨prune [] e, S⟩ := rfl
theorem n28k0 : n28.keep 0 = [1] := rfl
theorem n28k1 : n28.keep 1 = [1, 14] := rfl
theorem n28k2 : n28.keep 2 = [2] := rfl
theorem n28k3 : n28.keep 3 = [1, 3] := rfl
theorem n28k4 : n28.keep 4 = [1, 3, 17] := rfl
theorem n28k5 : n28.keep 5 = [1, 3] := rfl
theorem n28k6 : n28.keep 6 = [1, 3, 17, 19] := rfl
theorem n28k7 : n28.keep 7 = [1, 3] := rfl
theorem n28k8 : n28.keep 8 = [1, 3, 17, 22] := rfl
theorem n28k9 : n28.keep 9 = [1, 3] := rfl
theorem n28k10 : n28.keep 10 = [1, 3, 17, 25] := rfl
theorem n28k11 : n28.keep 11 = [1, 3] := rfl
theorem n28k12 : n28.keep 12 = [1, 3, 28] := rfl
theorem n28k13 : n28.keep 13 = [1, 3] := rfl
theorem n28k14 : n28.keep 14 = [1, 43] := rfl
theorem n28k15 : n28.keep 15 = [2] := rfl
theorem n28k16 : n28.keep 16 = [1, 56] := rfl
theorem n28k17 : n28.keep 17 = [2] := rfl
theorem n28k18 : n28.keep 18 = [1, 65] := rfl
theorem n28k19 : n28.keep 19 = [2] := rfl
theorem n28k20 : n28.keep 20 = [1, 68] := rfl
theorem n28k21 : n28.keep 21 = [2] := rfl
theorem n28k22 : n28.keep 22 = [1, 71] := rfl
theorem n28k23 : n28.keep 23 = [2] := rfl
theorem n28k24 : n28.keep 24 = [1, 80] := rfl
theorem n28k25 : n28.keep 25 = [2] := rfl
theorem n28k26 : n28.keep 26 = [1, 4] := rfl
theorem n28k27 : n28.keep 27 = [1, 4, 100, 101, 102] := rfl
theorem n28k28 : n28.keep 28 = [1, 4, 100, 101, 102, 103] := rfl
theorem n28k29 : n28.keep 29 = [1, 4, 5, 6, 100, 101, 102] := rfl
theorem n28k30 : n28.keep 30 = [1, 4, 100, 101, 102] := rfl
theorem n28k31 : n28.keep 31 = [1, 4, 100, 101, 102] := rfl
theorem n28k32 : n28.keep 32 = [120] := rfl
theorem n28k33 : n28.keep 33 = [2] := rfl
theorem n28k34 : n28.keep 34 = [2] := rfl
theorem n28ro (t : Nat) : n28.ro t = (t == 1) := rfl
theorem n28mv (t : Nat) : n28.mv t = (false) := rfl
theorem n28f30 : n28.free 30 = [(2, 4), (3, 4), (2, 6), (3, 6), (4, 6), (5, 6), (2, 7), (3, 7), (4, 7), (5, 7)] := rfl
theorem res28 : Try.f28.results.toList = [.tmp 2] := rfl
noncomputable def b28 : Code := aQ Try.f28
noncomputable def c28_1 : Code := (bz 1 (aQ Try.f28)).getD .skip
theorem fl28_1 : bz 1 b28 = some c28_1 := rfl
theorem rg_value_Check_k16 (C : ak) (k_value_elements : K_value_elements C) (p0 : GValue) (p1 : Int) (p2 : Int) (p3 : List GPair) (p4 : List ByteArray) (p5 : List GScore) (c : Code) (ho : cr 0 16 b28 = some c) (r : Bool) (hF : ck_value_Check_k16 p0 p1 p2 p3 p4 p5 = some r) : aH TT C.wide (evW TT C.wide n28 b28) n28 c ⟨[(1, .rp [.i .i64 p0.fKind, .s p0.fText, .i .i64 p0.fCount, .sl 2 (ab GPair.row p0.fPairs), .sl 1 (ab aY p0.fItems), .sl 2 (ab GScore.row p0.fScores)])], [[.v (.i .i64 p1), .v (.s ByteArray.empty), .v (.i .i64 p2), .v (.sl 2 (ab GPair.row p3)), .v (.sl 1 (ab aY p4)), .v (.sl 2 (ab GScore.row p5))]]⟩ = some (.normal, ⟨[(1, .rp [.i .i64 p0.fKind, .s p0.fText, .i .i64 p0.fCount, .sl 2 (ab GPair.row p0.fPairs), .sl 1 (ab aY p0.fItems), .sl 2 (ab GScore.row p0.fScores)]), (56, .v (.b r))], [[.v (.i .i64 p1), .v (.s ByteArray.empty), .v (.i .i64 p2), .v (.sl 2 (ab GPair.row p3)), .v (.sl 1 (ab aY p4)), .v (.sl 2 (ab GScore.row p5))]]⟩) := by
  have e := Option.some.inj (ho.symm.trans (rfl : cr 0 16 b28 = some _))
  subst e
  clear ho
  unfold ck_value_Check_k16 at hF
  refine aT (decide (3 ≤ p0.fKind)) ?_ ?_
  focus
    intro h1
    replace hF := ar h1 hF
    cases hF
  rotate_left 1
  intro h1
  replace hF := aq h1 hF
  have g1 : C.wide 61 [.agg [.v (.i .i64 p0.fKind), .v (.s p0.fText), .v (.i .i64 p0.fCount), .v (.sl 2 (ab GPair.row p0.fPairs)), .v (.sl 1 (ab aY p0.fItems)), .v (.sl 2 (ab GScore.row p0.fScores))]] [] = some (.v (.i .i64 (value_elements_v p0)), []) := k_value_elements p0 _ (value_elements_t p0)
  refine aG (decide ((value_elements_v p0) < 1)) ?_ ?_
  focus
    intro h2
    replace hF := aq h2 hF
    cases hF
  rotate_left 1
  intro h2
  replace hF := ar h2 hF
  cases hF
  all_goals (simp (maxSteps := 4000000) only [*, n28k16, n28mv, ↓RP, RB, aW, aC, aZ, Mx.bw, opnd, Mx.bF, Nat.reduceBEq, bK, aO, aB, ax, Mx.put, ofConst, ofCell, Mx.prune, killB, aK, putDst, au, aD, loadAt, bM, List.map, Nat.reduceAdd, cm, cn, forceAll, lend, lendA, aS, ay, bL, bare, bQ, newB, ch, ck, cj, bc, ty3, ty53, ↓aa _ _ _ _ 16])
theorem rg_value_Check_k26 (C : ak) (k_value_rising_Pair_value_byField : K_value_rising_Pair_value_byField C) (k_value_rising_Score_value_byScore : K_value_rising_Score_value_byScore C) (k_value_rising_string_strings_Compare : K_value_rising_string_strings_Compare C) (p0 : GValue) (p1 : Int) (p2 : Int) (p3 : List GPair) (p4 : List ByteArray) (p5 : List GScore) (c : Code) (ho : cr 0 26 b28 = some c) (r : Bool) (hF : ck_value_Check_k26 p0 p1 p2 p3 p4 p5 = some r) : aH TT C.wide (evW TT C.wide n28 b28) n28 c ⟨[(1, .rp [.i .i64 p0.fKind, .s p0.fText, .i .i64 p0.fCount, .sl 2 (ab GPair.row p0.fPairs), .sl 1 (ab aY p0.fItems), .sl 2 (ab GScore.row p0.fScores)])], [[.v (.i .i64 p1), .v (.s ByteArray.empty), .v (.i .i64 p2), .v (.sl 2 (ab GPair.row p3)), .v (.sl 1 (ab aY p4)), .v (.sl 2 (ab GScore.row p5))]]⟩ = some (.normal, ⟨[(1, .rp [.i .i64 p0.fKind, .s p0.fText, .i .i64 p0.fCount, .sl 2 (ab GPair.row p0.fPairs), .sl 1 (ab aY p0.fItems), .sl 2 (ab GScore.row p0.fScores)]), (4, .v (.b r))], [[.v (.i .i64 p1), .v (.s ByteArray.empty), .v (.i .i64 p2), .v (.sl 2 (ab GPair.row p3)), .v (.sl 1 (ab aY p4)), .v (.sl 2 (ab GScore.row p5))]]⟩) := by
  have e := Option.some.inj (ho.symm.trans (rfl : cr 0 26 b28 = some _))
  subst e
  clear ho
  unfold ck_value_Check_k26 at hF
  revert hF
  cases h1 : value_rising_Pair_value_byField p0.fPairs
  focus
    intro hF
    cases hF
  rename_i x1
  intro hF
  try dsimp only at hF
  have g1 : C.wide 72 [.v (.sl 2 (ab GPair.row p0.fPairs)), .clo 73 []] [] = some (.v (.b x1), []) := k_value_rising_Pair_value_byField p0.fPairs _ h1
  refine aT x1 ?_ ?_
  focus
    intro h2
    replace hF := ar h2 hF
    cases hF
  rotate_left 1
  intro h2
  replace hF := aq h2 hF
  revert hF
  cases h3 : value_rising_Score_value_byScore p0.fScores
  focus
    intro hF
    cases hF
  rename_i x2
  intro hF
  try dsimp only at hF
  have g2 : C.wide 74 [.v (.sl 2 (ab GScore.row p0.fScores)), .clo 75 []] [] = some (.v (.b x2), []) := k_value_rising_Score_value_byScore p0.fScores _ h3
  refine aT x2 ?_ ?_
  focus
    intro h4
    replace hF := ar h4 hF
    cases hF
  rotate_left 1
  intro h4
  replace hF := aq h4 hF
  refine aT (p0.fKind == 5) ?_ ?_
  focus
    intro h5
    replace hF := ar h5 hF
    cases hF
  rotate_left 1
  intro h5
  replace hF := aq h5 hF
  revert hF
  cases h6 : value_rising_string_strings_Compare p0.fItems
  focus
    intro hF
    cases hF
  rename_i x3
  intro hF
  try dsimp only at hF
  have g3 : C.wide 76 [.v (.sl 1 (ab aY p0.fItems)), .clo 77 []] [] = some (.v (.b x3), []) := k_value_rising_string_strings_Compare p0.fItems _ h6
  cases hF
  all_goals (simp (maxSteps := 4000000) only [*, n28k26, n28mv, ↓RP, RB, aW, aC, aZ, be, aM, Mx.bw, opnd, Mx.bF, Nat.reduceBEq, bK, Mx.fit, bY, aO, aB, ax, Mx.put, ofConst, ofCell, Mx.prune, killB, aK, putDst, au, aD, loadAt, bM, List.map, cm, cn, forceAll, lend, lendA, aS, ay, bL, bare, bQ, newB, ch, ck, cj, bne, bc, ty3, ty4, ty49, ty50, ty51, ty53, ↓aa _ _ _ _ 26])
def hd_value_Check_1 (p0 : GValue) (p2 : List GScore) (p3 : Int) (p5 : Int) (p6 : Int) (p7 : List GPair) (p8 : List ByteArray) (s : Bool × Int) : St := ⟨[(1, .rp [.i .i64 p0.fKind, .s p0.fText, .i .i64 p0.fCount, .sl 2 (ab GPair.row p0.fPairs), .sl 1 (ab aY p0.fItems), .sl 2 (ab GScore.row p0.fScores)]), (4, .v (.b s.1)), (100, .v (.sl 2 (ab GScore.row p2))), (101, .v (.i .i64 p3)), (102, .v (.i .i64 s.2))], [[.v (.i .i64 p5), .v (.s ByteArray.empty), .v (.i .i64 p6), .v (.sl 2 (ab GPair.row p7)), .v (.sl 1 (ab aY p8)), .v (.sl 2 (ab GScore.row p2))]]⟩
def ou_value_Check_1 (p0 : GValue) (p2 : List GScore) (p3 : Int) (p5 : Int) (p6 : Int) (p7 : List GPair) (p8 : List ByteArray) (r : Bool) : Option (Ex × St) := some (.normal, ⟨[(4, .v (.b r))], [[.v (.i .i64 p5), .v (.s ByteArray.empty), .v (.i .i64 p6), .v (.sl 2 (ab GPair.row p7)), .v (.sl 1 (ab aY p8)), .v (.sl 2 (ab GScore.row p2))]]⟩)
theorem sl_value_Check_1 (C : ak) (k_value_rank : K_value_rank C) (p0 : GValue) (p2 : List GScore) (p3 : Int) (p5 : Int) (p6 : Int) (p7 : List GPair) (p8 : List ByteArray) (s : Bool × Int) (o : (Bool × Int) ⊕ Bool) (hF : st_value_Check_1 p0 p2 p3 p5 p6 p7 p8 s = some o) : evW TT C.wide n28 b28 1 (hd_value_Check_1 p0 p2 p3 p5 p6 p7 p8 s) = Sum.elim (fun s => evW TT C.wide n28 b28 1 (hd_value_Check_1 p0 p2 p3 p5 p6 p7 p8 s)) (fun r => ou_value_Check_1 p0 p2 p3 p5 p6 p7 p8 r) o := by
  obtain ⟨p1, p4⟩ := s
  unfold st_value_Check_1 at hF
  try dsimp only at hF
  rw [ct TT n28 fl28_1]
  refine aT (decide (p4 < p3)) ?_ ?_
  focus
    intro h1
    replace hF := ar h1 hF
    cases hF
  rotate_left 1
  intro h1
  replace hF := aq h1 hF
  revert hF
  cases h2 : idx p2 p4
  focus
    intro hF
    cases hF
  rename_i x1
  intro hF
  try dsimp only at hF
  have g1 : decide (0 ≤ p4) = true := (cc h2).1
  have g2 : (ab GScore.row p2)[(p4 : Int).toNat]? = some [.s x1.fMember, .i .i64 x1.fN] := ca _ h2
  refine aT p1 ?_ ?_
  focus
    intro h3
    replace hF := ar h3 hF
    cases hF
  rotate_left 1
  intro h3
  replace hF := aq h3 hF
  refine aT (rngB 0 p4 (p0.fScores.length : Int)) ?_ ?_
  focus
    intro h4
    replace hF := ar h4 hF
    cases hF
  intro h4
  replace hF := aq h4 hF
  revert hF
  cases h5 : value_rank (cI p0.fScores 0 p4) x1.fMember
  focus
    intro hF
    cases hF
  rename_i x2
  intro hF
  try dsimp only at hF
  have g3 : C.wide 78 [.v (.sl 2 (ab GScore.row (cI p0.fScores 0 p4))), .v (.s x1.fMember)] [] = some (.v (.i .i64 x2), []) := k_value_rank (cI p0.fScores 0 p4) x1.fMember _ h5
  cases hF
  all_goals (show cD _ _ _ (aH _ _ _ _ (Code.seq _ _) _) = _; simp (maxSteps := 4000000) only [*, hd_value_Check_1, ou_value_Check_1, n28a103t, n28a103f, n28k28, n28k29, n28k30, n28k31, n28f30, n28mv, ↓RP, RB, ↓ah, aW, aC, aZ, be, aM, Mx.bw, opnd, Mx.bF, Nat.reduceBEq, bK, Mx.fit, bI, bY, cellsOf, aO, aB, ax, Mx.put, ofConst, ofCell, Mx.prune, killB, killBs, aK, putDst, au, aD, loadAt, bM, List.map, Nat.reduceAdd, cm, cn, cg, bD, aL, lowC, forceAll, bound, bW, bg, br, kill, lend, lendA, aS, ay, bL, bare, bQ, bB, setCells, Nat.reduceSub, Nat.reduceLeDiff, lowA, bi, bJ, fineK, av, aJ, aX, bX, bE, ce, bV, bk, aI, bh, bj, bf, Op.operands, newB, ch, ck, cj, bne, ↓aj, ↓ai, bc, bm, bH, Call.operands, ty3, ty4, ty9, ty51, ty53, ty105, ↓aa _ _ _ _ 28, ↓aa _ _ _ _ 29, ↓am _ _ _ _ 30, ↓aa _ _ _ _ 31])
theorem rg_value_Check_k16v2 (C : ak) (k_value_elements : K_value_elements C) (p0 : GValue) (p1 : Int) (p2 : ByteArray) (p3 : List GPair) (p4 : List ByteArray) (p5 : List GScore) (c : Code) (ho : cr 0 16 b28 = some c) (r : Bool) (hF : ck_value_Check_k16v2 p0 p1 p2 p3 p4 p5 = some r) : aH TT C.wide (evW TT C.wide n28 b28) n28 c ⟨[(1, .rp [.i .i64 p0.fKind, .s p0.fText, .i .i64 p0.fCount, .sl 2 (ab GPair.row p0.fPairs), .sl 1 (ab aY p0.fItems), .sl 2 (ab GScore.row p0.fScores)])], [[.v (.i .i64 p1), .v (.s p2), .v (.i .i64 0), .v (.sl 2 (ab GPair.row p3)), .v (.sl 1 (ab aY p4)), .v (.sl 2 (ab GScore.row p5))]]⟩ = some (.normal, ⟨[(1, .rp [.i .i64 p0.fKind, .s p0.fText, .i .i64 p0.fCount, .sl 2 (ab GPair.row p0.fPairs), .sl 1 (ab aY p0.fItems), .sl 2 (ab GScore.row p0.fScores)]), (56, .v (.b r))], [[.v (.i .i64 p1), .v (.s p2), .v (.i .i64 0), .v (.sl 2 (ab GPair.row p3)), .v (.sl 1 (ab aY p4)), .v (.sl 2 (ab GScore.row p5))]]⟩) := by
  have e := Option.some.inj (ho.symm.trans (rfl : cr 0 16 b28 = some _))
  subst e
  clear ho
  unfold ck_value_Check_k16v2 at hF
  refine aT (decide (3 ≤ p0.fKind)) ?_ ?_
  focus
    intro h1
    replace hF := ar h1 hF
    cases hF
  rotate_left 1
  intro h1
  replace hF := aq h1 hF
  have g1 : C.wide 61 [.agg [.v (.i .i64 p0.fKind), .v (.s p0.fText), .v (.i .i64 p0.fCount), .v (.sl 2 (ab GPair.row p0.fPairs)), .v (.sl 1 (ab aY p0.fItems)), .v (.sl 2 (ab GScore.row p0.fScores))]] [] = some (.v (.i .i64 (value_elements_v p0)), []) := k_value_elements p0 _ (value_elements_t p0)
  refine aG (decide ((value_elements_v p0) < 1)) ?_ ?_
  focus
    intro h2
    replace hF := aq h2 hF
    cases hF
  rotate_left 1
  intro h2
  replace hF := ar h2 hF
  cases hF
  all_goals (simp (maxSteps := 4000000) only [*, n28k16, n28mv, ↓RP, RB, aW, aC, aZ, Mx.bw, opnd, Mx.bF, Nat.reduceBEq, bK, aO, aB, ax, Mx.put, ofConst, ofCell, Mx.prune, killB, aK, putDst, au, aD, loadAt, bM, List.map, Nat.reduceAdd, cm, cn, forceAll, lend, lendA, aS, ay, bL, bare, bQ, newB, ch, ck, cj, bc, ty3, ty53, ↓aa _ _ _ _ 16])
theorem rg_value_Check_k26v2 (C : ak) (k_value_rising_Pair_value_byField : K_value_rising_Pair_value_byField C) (k_value_rising_Score_value_byScore : K_value_rising_Score_value_byScore C) (k_value_rising_string_strings_Compare : K_value_rising_string_strings_Compare C) (p0 : GValue) (p1 : Int) (p2 : ByteArray) (p3 : List GPair) (p4 : List ByteArray) (p5 : List GScore) (c : Code) (ho : cr 0 26 b28 = some c) (r : Bool) (hF : ck_value_Check_k26v2 p0 p1 p2 p3 p4 p5 = some r) : aH TT C.wide (evW TT C.wide n28 b28) n28 c ⟨[(1, .rp [.i .i64 p0.fKind, .s p0.fText, .i .i64 p0.fCount, .sl 2 (ab GPair.row p0.fPairs), .sl 1 (ab aY p0.fItems), .sl 2 (ab GScore.row p0.fScores)])], [[.v (.i .i64 p1), .v (.s p2), .v (.i .i64 0), .v (.sl 2 (ab GPair.row p3)), .v (.sl 1 (ab aY p4)), .v (.sl 2 (ab GScore.row p5))]]⟩ = some (.normal, ⟨[(1, .rp [.i .i64 p0.fKind, .s p0.fText, .i .i64 p0.fCount, .sl 2 (ab GPair.row p0.fPairs), .sl 1 (ab aY p0.fItems), .sl 2 (ab GScore.row p0.fScores)]), (4, .v (.b r))], [[.v (.i .i64 p1), .v (.s p2), .v (.i .i64 0), .v (.sl 2 (ab GPair.row p3)), .v (.sl 1 (ab aY p4)), .v (.sl 2 (ab GScore.row p5))]]⟩) := by
  have e := Option.some.inj (ho.symm.trans (rfl : cr 0 26 b28 = some _))
  subst e
  clear ho
  unfold ck_value_Check_k26v2 at hF
  revert hF
  cases h1 : value_rising_Pair_value_byField p0.fPairs
  focus
    intro hF
    cases hF
  rename_i x1
  intro hF
  try dsimp only at hF
  have g1 : C.wide 72 [.v (.sl 2 (ab GPair.row p0.fPairs)), .clo 73 []] [] = some (.v (.b x1), []) := k_value_rising_Pair_value_byField p0.fPairs _ h1
  refine aT x1 ?_ ?_
  focus
    intro h2
    replace hF := ar h2 hF
    cases hF
  rotate_left 1
  intro h2
  replace hF := aq h2 hF
  revert hF
  cases h3 : value_rising_Score_value_byScore p0.fScores
  focus
    intro hF
    cases hF
  rename_i x2
  intro hF
  try dsimp only at hF
  have g2 : C.wide 74 [.v (.sl 2 (ab GScore.row p0.fScores)), .clo 75 []] [] = some (.v (.b x2), []) := k_value_rising_Score_value_byScore p0.fScores _ h3
  refine aT x2 ?_ ?_
  focus
    intro h4
    replace hF := ar h4 hF
    cases hF
  rotate_left 1
  intro h4
  replace hF := aq h4 hF
  refine aT (p0.fKind == 5) ?_ ?_
  focus
    intro h5
    replace hF := ar h5 hF
    cases hF
  rotate_left 1
  intro h5
  replace hF := aq h5 hF
  revert hF
  cases h6 : value_rising_string_strings_Compare p0.fItems
  focus
    intro hF
    cases hF
  rename_i x3
  intro hF
  try dsimp only at hF
  have g3 : C.wide 76 [.v (.sl 1 (ab aY p0.fItems)), .clo 77 []] [] = some (.v (.b x3), []) := k_value_rising_string_strings_Compare p0.fItems _ h6
  cases hF
  all_goals (simp (maxSteps := 4000000) only [*, n28k26, n28mv, ↓RP, RB, aW, aC, aZ, be, aM, Mx.bw, opnd, Mx.bF, Nat.reduceBEq, bK, Mx.fit, bY, aO, aB, ax, Mx.put, ofConst, ofCell, Mx.prune, killB, aK, putDst, au, aD, loadAt, bM, List.map, cm, cn, forceAll, lend, lendA, aS, ay, bL, bare, bQ, newB, ch, ck, cj, bne, bc, ty3, ty4, ty49, ty50, ty51, ty53, ↓aa _ _ _ _ 26])
def hd_value_Check_1v2 (p0 : GValue) (p2 : List GScore) (p3 : Int) (p5 : Int) (p6 : ByteArray) (p7 : List GPair) (p8 : List ByteArray) (s : Bool × Int) : St := ⟨[(1, .rp [.i .i64 p0.fKind, .s p0.fText, .i .i64 p0.fCount, .sl 2 (ab GPair.row p0.fPairs), .sl 1 (ab aY p0.fItems), .sl 2 (ab GScore.row p0.fScores)]), (4, .v (.b s.1)), (100, .v (.sl 2 (ab GScore.row p2))), (101, .v (.i .i64 p3)), (102, .v (.i .i64 s.2))], [[.v (.i .i64 p5), .v (.s p6), .v (.i .i64 0), .v (.sl 2 (ab GPair.row p7)), .v (.sl 1 (ab aY p8)), .v (.sl 2 (ab GScore.row p2))]]⟩
def ou_value_Check_1v2 (p0 : GValue) (p2 : List GScore) (p3 : Int) (p5 : Int) (p6 : ByteArray) (p7 : List GPair) (p8 : List ByteArray) (r : Bool) : Option (Ex × St) := some (.normal, ⟨[(4, .v (.b r))], [[.v (.i .i64 p5), .v (.s p6), .v (.i .i64 0), .v (.sl 2 (ab GPair.row p7)), .v (.sl 1 (ab aY p8)), .v (.sl 2 (ab GScore.row p2))]]⟩)
theorem sl_value_Check_1v2 (C : ak) (k_value_rank : K_value_rank C) (p0 : GValue) (p2 : List GScore) (p3 : Int) (p5 : Int) (p6 : ByteArray) (p7 : List GPair) (p8 : List ByteArray) (s : Bool × Int) (o : (Bool × Int) ⊕ Bool) (hF : st_value_Check_1v2 p0 p2 p3 p5 p6 p7 p8 s = some o) : evW TT C.wide n28 b28 1 (hd_value_Check_1v2 p0 p2 p3 p5 p6 p7 p8 s) = Sum.elim (fun s => evW TT C.wide n28 b28 1 (hd_value_Check_1v2 p0 p2 p3 p5 p6 p7 p8 s)) (fun r => ou_value_Check_1v2 p0 p2 p3 p5 p6 p7 p8 r) o := by
  obtain ⟨p1, p4⟩ := s
  unfold st_value_Check_1v2 at hF
  try dsimp only at hF
  rw [ct TT n28 fl28_1]
  refine aT (decide (p4 < p3)) ?_ ?_
  focus
    intro h1
    replace hF := ar h1 hF
    cases hF
  rotate_left 1
  intro h1
  replace hF := aq h1 hF
  revert hF
  cases h2 : idx p2 p4
  focus
    intro hF
    cases hF
  rename_i x1
  intro hF
  try dsimp only at hF
  have g1 : decide (0 ≤ p4) = true := (cc h2).1
  have g2 : (ab GScore.row p2)[(p4 : Int).toNat]? = some [.s x1.fMember, .i .i64 x1.fN] := ca _ h2
  refine aT p1 ?_ ?_
  focus
    intro h3
    replace hF := ar h3 hF
    cases hF
  rotate_left 1
  intro h3
  replace hF := aq h3 hF
  refine aT (rngB 0 p4 (p0.fScores.length : Int)) ?_ ?_
  focus
    intro h4
    replace hF := ar h4 hF
    cases hF
  intro h4
  replace hF := aq h4 hF
  revert hF
  cases h5 : value_rank (cI p0.fScores 0 p4) x1.fMember
  focus
    intro hF
    cases hF
  rename_i x2
  intro hF
  try dsimp only at hF
  have g3 : C.wide 78 [.v (.sl 2 (ab GScore.row (cI p0.fScores 0 p4))), .v (.s x1.fMember)] [] = some (.v (.i .i64 x2), []) := k_value_rank (cI p0.fScores 0 p4) x1.fMember _ h5
  cases hF
  all_goals (show cD _ _ _ (aH _ _ _ _ (Code.seq _ _) _) = _; simp (maxSteps := 4000000) only [*, hd_value_Check_1v2, ou_value_Check_1v2, n28a103t, n28a103f, n28k28, n28k29, n28k30, n28k31, n28f30, n28mv, ↓RP, RB, ↓ah, aW, aC, aZ, be, aM, Mx.bw, opnd, Mx.bF, Nat.reduceBEq, bK, Mx.fit, bI, bY, cellsOf, aO, aB, ax, Mx.put, ofConst, ofCell, Mx.prune, killB, killBs, aK, putDst, au, aD, loadAt, bM, List.map, Nat.reduceAdd, cm, cn, cg, bD, aL, lowC, forceAll, bound, bW, bg, br, kill, lend, lendA, aS, ay, bL, bare, bQ, bB, setCells, Nat.reduceSub, Nat.reduceLeDiff, lowA, bi, bJ, fineK, av, aJ, aX, bX, bE, ce, bV, bk, aI, bh, bj, bf, Op.operands, newB, ch, ck, cj, bne, ↓aj, ↓ai, bc, bm, bH, Call.operands, ty3, ty4, ty9, ty51, ty53, ty105, ↓aa _ _ _ _ 28, ↓aa _ _ _ _ 29, ↓am _ _ _ _ 30, ↓aa _ _ _ _ 31])
theorem rg_value_Check_k16v3 (C : ak) (k_value_elements : K_value_elements C) (p0 : GValue) (p1 : Int) (p2 : ByteArray) (p3 : Int) (p4 : List ByteArray) (p5 : List GScore) (c : Code) (ho : cr 0 16 b28 = some c) (r : Bool) (hF : ck_value_Check_k16v3 p0 p1 p2 p3 p4 p5 = some r) : aH TT C.wide (evW TT C.wide n28 b28) n28 c ⟨[(1, .rp [.i .i64 p0.fKind, .s p0.fText, .i .i64 p0.fCount, .sl 2 (ab GPair.row p0.fPairs), .sl 1 (ab aY p0.fItems), .sl 2 (ab GScore.row p0.fScores)])], [[.v (.i .i64 p1), .v (.s p2), .v (.i .i64 p3), .own 2 [], .v (.sl 1 (ab aY p4)), .v (.sl 2 (ab GScore.row p5))]]⟩ = some (.normal, ⟨[(1, .rp [.i .i64 p0.fKind, .s p0.fText, .i .i64 p0.fCount, .sl 2 (ab GPair.row p0.fPairs), .sl 1 (ab aY p0.fItems), .sl 2 (ab GScore.row p0.fScores)]), (56, .v (.b r))], [[.v (.i .i64 p1), .v (.s p2), .v (.i .i64 p3), .own 2 [], .v (.sl 1 (ab aY p4)), .v (.sl 2 (ab GScore.row p5))]]⟩) := by
  have e := Option.some.inj (ho.symm.trans (rfl : cr 0 16 b28 = some _))
  subst e
  clear ho
  unfold ck_value_Check_k16v3 at hF
  refine aT (decide (3 ≤ p0.fKind)) ?_ ?_
  focus
    intro h1
    replace hF := ar h1 hF
    cases hF
  rotate_left 1
  intro h1
  replace hF := aq h1 hF
  have g1 : C.wide 61 [.agg [.v (.i .i64 p0.fKind), .v (.s p0.fText), .v (.i .i64 p0.fCount), .v (.sl 2 (ab GPair.row p0.fPairs)), .v (.sl 1 (ab aY p0.fItems)), .v (.sl 2 (ab GScore.row p0.fScores))]] [] = some (.v (.i .i64 (value_elements_v p0)), []) := k_value_elements p0 _ (value_elements_t p0)
  refine aG (decide ((value_elements_v p0) < 1)) ?_ ?_
  focus
    intro h2
    replace hF := aq h2 hF
    cases hF
  rotate_left 1
  intro h2
  replace hF := ar h2 hF
  cases hF
  all_goals (simp (maxSteps := 4000000) only [*, n28k16, n28mv, ↓RP, RB, aW, aC, aZ, Mx.bw, opnd, Mx.bF, Nat.reduceBEq, bK, aO, aB, ax, Mx.put, ofConst, ofCell, Mx.prune, killB, aK, putDst, au, aD, loadAt, bM, List.map, Nat.reduceAdd, cm, cn, forceAll, lend, lendA, aS, ay, bL, bare, bQ, newB, ch, ck, cj, bc, ty3, ty53, ↓aa _ _ _ _ 16])
theorem rg_value_Check_k26v3 (C : ak) (k_value_rising_Pair_value_byField : K_value_rising_Pair_value_byField C) (k_value_rising_Score_value_byScore : K_value_rising_Score_value_byScore C) (k_value_rising_string_strings_Compare : K_value_rising_string_strings_Compare C) (p0 : GValue) (p1 : Int) (p2 : ByteArray) (p3 : Int) (p4 : List ByteArray) (p5 : List GScore) (c : Code) (ho : cr 0 26 b28 = some c) (r : Bool) (hF : ck_value_Check_k26v3 p0 p1 p2 p3 p4 p5 = some r) : aH TT C.wide (evW TT C.wide n28 b28) n28 c ⟨[(1, .rp [.i .i64 p0.fKind, .s p0.fText, .i .i64 p0.fCount, .sl 2 (ab GPair.row p0.fPairs), .sl 1 (ab aY p0.fItems), .sl 2 (ab GScore.row p0.fScores)])], [[.v (.i .i64 p1), .v (.s p2), .v (.i .i64 p3), .own 2 [], .v (.sl 1 (ab aY p4)), .v (.sl 2 (ab GScore.row p5))]]⟩ = some (.normal, ⟨[(1, .rp [.i .i64 p0.fKind, .s p0.fText, .i .i64 p0.fCount, .sl 2 (ab GPair.row p0.fPairs), .sl 1 (ab aY p0.fItems), .sl 2 (ab GScore.row p0.fScores)]), (4, .v (.b r))], [[.v (.i .i64 p1), .v (.s p2), .v (.i .i64 p3), .own 2 [], .v (.sl 1 (ab aY p4)), .v (.sl 2 (ab GScore.row p5))]]⟩) := by
  have e := Option.some.inj (ho.symm.trans (rfl : cr 0 26 b28 = some _))
  subst e
  clear ho
  unfold ck_value_Check_k26v3 at hF
  revert hF
  cases h1 : value_rising_Pair_value_byField p0.fPairs
  focus
    intro hF
    cases hF
  rename_i x1
  intro hF
  try dsimp only at hF
  have g1 : C.wide 72 [.v (.sl 2 (ab GPair.row p0.fPairs)), .clo 73 []] [] = some (.v (.b x1), []) := k_value_rising_Pair_value_byField p0.fPairs _ h1
  refine aT x1 ?_ ?_
  focus
    intro h2
    replace hF := ar h2 hF
    cases hF
  rotate_left 1
  intro h2
  replace hF := aq h2 hF
  revert hF
  cases h3 : value_rising_Score_value_byScore p0.fScores
  focus
    intro hF
    cases hF
  rename_i x2
  intro hF
  try dsimp only at hF
  have g2 : C.wide 74 [.v (.sl 2 (ab GScore.row p0.fScores)), .clo 75 []] [] = some (.v (.b x2), []) := k_value_rising_Score_value_byScore p0.fScores _ h3
  refine aT x2 ?_ ?_
  focus
    intro h4
    replace hF := ar h4 hF
    cases hF
  rotate_left 1
  intro h4
  replace hF := aq h4 hF
  refine aT (p0.fKind == 5) ?_ ?_
  focus
    intro h5
    replace hF := ar h5 hF
    cases hF
  rotate_left 1
  intro h5
  replace hF := aq h5 hF
  revert hF
  cases h6 : value_rising_string_strings_Compare p0.fItems
  focus
    intro hF
    cases hF
  rename_i x3
  intro hF
  try dsimp only at hF
  have g3 : C.wide 76 [.v (.sl 1 (ab aY p0.fItems)), .clo 77 []] [] = some (.v (.b x3), []) := k_value_rising_string_strings_Compare p0.fItems _ h6
  cases hF
  all_goals (simp (maxSteps := 4000000) only [*, n28k26, n28mv, ↓RP, RB, aW, aC, aZ, be, aM, Mx.bw, opnd, Mx.bF, Nat.reduceBEq, bK, Mx.fit, bY, aO, aB, ax, Mx.put, ofConst, ofCell, Mx.prune, killB, aK, putDst, au, aD, loadAt, bM, List.map, cm, cn, forceAll, lend, lendA, aS, ay, bL, bare, bQ, newB, ch, ck, cj, bne, bc, ty3, ty4, ty49, ty50, ty51, ty53, ↓aa _ _ _ _ 26])
def hd_value_Check_1v3 (p0 : GValue) (p2 : List GScore) (p3 : Int) (p5 : Int) (p6 : ByteArray) (p7 : Int) (p8 : List ByteArray) (s : Bool × Int) : St := ⟨[(1, .rp [.i .i64 p0.fKind, .s p0.fText, .i .i64 p0.fCount, .sl 2 (ab GPair.row p0.fPairs), .sl 1 (ab aY p0.fItems), .sl 2 (ab GScore.row p0.fScores)]), (4, .v (.b s.1)), (100, .v (.sl 2 (ab GScore.row p2))), (101, .v (.i .i64 p3)), (102, .v (.i .i64 s.2))], [[.v (.i .i64 p5), .v (.s p6), .v (.i .i64 p7), .own 2 [], .v (.sl 1 (ab aY p8)), .v (.sl 2 (ab GScore.row p2))]]⟩
def ou_value_Check_1v3 (p0 : GValue) (p2 : List GScore) (p3 : Int) (p5 : Int) (p6 : ByteArray) (p7 : Int) (p8 : List ByteArray) (r : Bool) : Option (Ex × St) := some (.normal, ⟨[(4, .v (.b r))], [[.v (.i .i64 p5), .v (.s p6), .v (.i .i64 p7), .own 2 [], .v (.sl 1 (ab aY p8)), .v (.sl 2 (ab GScore.row p2))]]⟩)
theorem sl_value_Check_1v3 (C : ak) (k_value_rank : K_value_rank C) (p0 : GValue) (p2 : List GScore) (p3 : Int) (p5 : Int) (p6 : ByteArray) (p7 : Int) (p8 : List ByteArray) (s : Bool × Int) (o : (Bool × Int) ⊕ Bool) (hF : st_value_Check_1v3 p0 p2 p3 p5 p6 p7 p8 s = some o) : evW TT C.wide n28 b28 1 (hd_value_Check_1v3 p0 p2 p3 p5 p6 p7 p8 s) = Sum.elim (fun s => evW TT C.wide n28 b28 1 (hd_value_Check_1v3 p0 p2 p3 p5 p6 p7 p8 s)) (fun r => ou_value_Check_1v3 p0 p2 p3 p5 p6 p7 p8 r) o := by
  obtain ⟨p1, p4⟩ := s
  unfold st_value_Check_1v3 at hF
  try dsimp only at hF
  rw [ct TT n28 fl28_1]
  refine aT (decide (p4 < p3)) ?_ ?_
  focus
    intro h1
    replace hF := ar h1 hF
    cases hF
  rotate_left 1
  intro h1
  replace hF := aq h1 hF
  revert hF
  cases h2 : idx p2 p4
  focus
    intro hF
    cases hF
  rename_i x1
  intro hF
  try dsimp only at hF
  have g1 : decide (0 ≤ p4) = true := (cc h2).1
  have g2 : (ab GScore.row p2)[(p4 : Int).toNat]? = some [.s x1.fMember, .i .i64 x1.fN] := ca _ h2
  refine aT p1 ?_ ?_
  focus
    intro h3
    replace hF := ar h3 hF
    cases hF
  rotate_left 1
  intro h3
  replace hF := aq h3 hF
  refine aT (rngB 0 p4 (p0.fScores.length : Int)) ?_ ?_
  focus
    intro h4
    replace hF := ar h4 hF
    cases hF
  intro h4
  replace hF := aq h4 hF
  revert hF
  cases h5 : value_rank (cI p0.fScores 0 p4) x1.fMember
  focus
    intro hF
    cases hF
  rename_i x2
  intro hF
  try dsimp only at hF
  have g3 : C.wide 78 [.v (.sl 2 (ab GScore.row (cI p0.fScores 0 p4))), .v (.s x1.fMember)] [] = some (.v (.i .i64 x2), []) := k_value_rank (cI p0.fScores 0 p4) x1.fMember _ h5
  cases hF
  all_goals (show cD _ _ _ (aH _ _ _ _ (Code.seq _ _) _) = _; simp (maxSteps := 4000000) only [*, hd_value_Check_1v3, ou_value_Check_1v3, n28a103t, n28a103f, n28k28, n28k29, n28k30, n28k31, n28f30, n28mv, ↓RP, RB, ↓ah, aW, aC, aZ, be, aM, Mx.bw, opnd, Mx.bF, Nat.reduceBEq, bK, Mx.fit, bI, bY, cellsOf, aO, aB, ax, Mx.put, ofConst, ofCell, Mx.prune, killB, killBs, aK, putDst, au, aD, loadAt, bM, List.map, Nat.reduceAdd, cm, cn, cg, bD, aL, lowC, forceAll, bound, bW, bg, br, kill, lend, lendA, aS, ay, bL, bare, bQ, bB, setCells, Nat.reduceSub, Nat.reduceLeDiff, lowA, bi, bJ, fineK, av, aJ, aX, bX, bE, ce, bV, bk, aI, bh, bj, bf, Op.operands, newB, ch, ck, cj, bne, ↓aj, ↓ai, bc, bm, bH, Call.operands, ty3, ty4, ty9, ty51, ty53, ty105, ↓aa _ _ _ _ 28, ↓aa _ _ _ _ 29, ↓am _ _ _ _ 30, ↓aa _ _ _ _ 31])
theorem rg_value_Check_k16v4 (C : ak) (k_value_elements : K_value_elements C) (p0 : GValue) (p1 : Int) (p2 : ByteArray) (p3 : Int) (p4 : List GPair) (p5 : List ByteArray) (c : Code) (ho : cr 0 16 b28 = some c) (r : Bool) (hF : ck_value_Check_k16v4 p0 p1 p2 p3 p4 p5 = some r) : aH TT C.wide (evW TT C.wide n28 b28) n28 c ⟨[(1, .rp [.i .i64 p0.fKind, .s p0.fText, .i .i64 p0.fCount, .sl 2 (ab GPair.row p0.fPairs), .sl 1 (ab aY p0.fItems), .sl 2 (ab GScore.row p0.fScores)])], [[.v (.i .i64 p1), .v (.s p2), .v (.i .i64 p3), .v (.sl 2 (ab GPair.row p4)), .v (.sl 1 (ab aY p5)), .own 2 []]]⟩ = some (.normal, ⟨[(1, .rp [.i .i64 p0.fKind, .s p0.fText, .i .i64 p0.fCount, .sl 2 (ab GPair.row p0.fPairs), .sl 1 (ab aY p0.fItems), .sl 2 (ab GScore.row p0.fScores)]), (56, .v (.b r))], [[.v (.i .i64 p1), .v (.s p2), .v (.i .i64 p3), .v (.sl 2 (ab GPair.row p4)), .v (.sl 1 (ab aY p5)), .own 2 []]]⟩) := by
  have e := Option.some.inj (ho.symm.trans (rfl : cr 0 16 b28 = some _))
  subst e
  clear ho
  unfold ck_value_Check_k16v4 at hF
  refine aT (decide (3 ≤ p0.fKind)) ?_ ?_
  focus
    intro h1
    replace hF := ar h1 hF
    cases hF
  rotate_left 1
  intro h1
  replace hF := aq h1 hF
  have g1 : C.wide 61 [.agg [.v (.i .i64 p0.fKind), .v (.s p0.fText), .v (.i .i64 p0.fCount), .v (.sl 2 (ab GPair.row p0.fPairs)), .v (.sl 1 (ab aY p0.fItems)), .v (.sl 2 (ab GScore.row p0.fScores))]] [] = some (.v (.i .i64 (value_elements_v p0)), []) := k_value_elements p0 _ (value_elements_t p0)
  refine aG (decide ((value_elements_v p0) < 1)) ?_ ?_
  focus
    intro h2
    replace hF := aq h2 hF
    cases hF
  rotate_left 1
  intro h2
  replace hF := ar h2 hF
  cases hF
  all_goals (simp (maxSteps := 4000000) only [*, n28k16, n28mv, ↓RP, RB, aW, aC, aZ, Mx.bw, opnd, Mx.bF, Nat.reduceBEq, bK, aO, aB, ax, Mx.put, ofConst, ofCell, Mx.prune, killB, aK, putDst, au, aD, loadAt, bM, List.map, Nat.reduceAdd, cm, cn, forceAll, lend, lendA, aS, ay, bL, bare, bQ, newB, ch, ck, cj, bc, ty3, ty53, ↓aa _ _ _ _ 16])
theorem rg_value_Check_k26v4 (C : ak) (k_value_rising_Pair_value_byField : K_value_rising_Pair_value_byField C) (k_value_rising_Score_value_byScore : K_value_rising_Score_value_byScore C) (k_value_rising_string_strings_Compare : K_value_rising_string_strings_Compare C) (p0 : GValue) (p1 : Int) (p2 : ByteArray) (p3 : Int) (p4 : List GPair) (p5 : List ByteArray) (c : Code) (ho : cr 0 26 b28 = some c) (r : Bool) (hF : ck_value_Check_k26v4 p0 p1 p2 p3 p4 p5 = some r) : aH TT C.wide (evW TT C.wide n28 b28) n28 c ⟨[(1, .rp [.i .i64 p0.fKind, .s p0.fText, .i .i64 p0.fCount, .sl 2 (ab GPair.row p0.fPairs), .sl 1 (ab aY p0.fItems), .sl 2 (ab GScore.row p0.fScores)])], [[.v (.i .i64 p1), .v (.s p2), .v (.i .i64 p3), .v (.sl 2 (ab GPair.row p4)), .v (.sl 1 (ab aY p5)), .own 2 []]]⟩ = some (.normal, ⟨[(1, .rp [.i .i64 p0.fKind, .s p0.fText, .i .i64 p0.fCount, .sl 2 (ab GPair.row p0.fPairs), .sl 1 (ab aY p0.fItems), .sl 2 (ab GScore.row p0.fScores)]), (4, .v (.b r))], [[.v (.i .i64 p1), .v (.s p2), .v (.i .i64 p3), .v (.sl 2 (ab GPair.row p4)), .v (.sl 1 (ab aY p5)), .own 2 []]]⟩) := by
  have e := Option.some.inj (ho.symm.trans (rfl : cr 0 26 b28 = some _))
  subst e
  clear ho
  unfold ck_value_Check_k26v4 at hF
  revert hF
  cases h1 : value_rising_Pair_value_byField p0.fPairs
  focus
    intro hF
    cases hF
  rename_i x1
  intro hF
  try dsimp only at hF
  have g1 : C.wide 72 [.v (.sl 2 (ab GPair.row p0.fPairs)), .clo 73 []] [] = some (.v (.b x1), []) := k_value_rising_Pair_value_byField p0.fPairs _ h1
  refine aT x1 ?_ ?_
  focus
    intro h2
    replace hF := ar h2 hF
    cases hF
  rotate_left 1
  intro h2
  replace hF := aq h2 hF
  revert hF
  cases h3 : value_rising_Score_value_byScore p0.fScores
  focus
    intro hF
    cases hF
  rename_i x2
  intro hF
  try dsimp only at hF
  have g2 : C.wide 74 [.v (.sl 2 (ab GScore.row p0.fScores)), .clo 75 []] [] = some (.v (.b x2), []) := k_value_rising_Score_value_byScore p0.fScores _ h3
  refine aT x2 ?_ ?_
  focus
    intro h4
    replace hF := ar h4 hF
    cases hF
  rotate_left 1
  intro h4
  replace hF := aq h4 hF
  refine aT (p0.fKind == 5) ?_ ?_
  focus
    intro h5
    replace hF := ar h5 hF
    cases hF
  rotate_left 1
  intro h5
  replace hF := aq h5 hF
  revert hF
  cases h6 : value_rising_string_strings_Compare p0.fItems
  focus
    intro hF
    cases hF
  rename_i x3
  intro hF
  try dsimp only at hF
  have g3 : C.wide 76 [.v (.sl 1 (ab aY p0.fItems)), .clo 77 []] [] = some (.v (.b x3), []) := k_value_rising_string_strings_Compare p0.fItems _ h6
  cases hF
  all_goals (simp (maxSteps := 4000000) only [*, n28k26, n28mv, ↓RP, RB, aW, aC, aZ, be, aM, Mx.bw, opnd, Mx.bF, Nat.reduceBEq, bK, Mx.fit, bY, aO, aB, ax, Mx.put, ofConst, ofCell, Mx.prune, killB, aK, putDst, au, aD, loadAt, bM, List.map, cm, cn, forceAll, lend, lendA, aS, ay, bL, bare, bQ, newB, ch, ck, cj, bne, bc, ty3, ty4, ty49, ty50, ty51, ty53, ↓aa _ _ _ _ 26])
def hd_value_Check_1v4 (p0 : GValue) (p2 : List GScore) (p3 : Int) (p5 : Int) (p6 : ByteArray) (p7 : Int) (p8 : List GPair) (p9 : List ByteArray) (s : Bool × Int) : St := ⟨[(1, .rp [.i .i64 p0.fKind, .s p0.fText, .i .i64 p0.fCount, .sl 2 (ab GPair.row p0.fPairs), .sl 1 (ab aY p0.fItems), .sl 2 (ab GScore.row p0.fScores)]), (4, .v (.b s.1)), (100, .v (.sl 2 (ab GScore.row p2))), (101, .v (.i .i64 p3)), (102, .v (.i .i64 s.2))], [[.v (.i .i64 p5), .v (.s p6), .v (.i .i64 p7), .v (.sl 2 (ab GPair.row p8)), .v (.sl 1 (ab aY p9)), .own 2 []]]⟩
def ou_value_Check_1v4 (p0 : GValue) (p2 : List GScore) (p3 : Int) (p5 : Int) (p6 : ByteArray) (p7 : Int) (p8 : List GPair) (p9 : List ByteArray) (r : Bool) : Option (Ex × St) := some (.normal, ⟨[(4, .v (.b r))], [[.v (.i .i64 p5), .v (.s p6), .v (.i .i64 p7), .v (.sl 2 (ab GPair.row p8)), .v (.sl 1 (ab aY p9)), .own 2 []]]⟩)
theorem sl_value_Check_1v4 (C : ak) (k_value_rank : K_value_rank C) (p0 : GValue) (p2 : List GScore) (p3 : Int) (p5 : Int) (p6 : ByteArray) (p7 : Int) (p8 : List GPair) (p9 : List ByteArray) (s : Bool × Int) (o : (Bool × Int) ⊕ Bool) (hF : st_value_Check_1v4 p0 p2 p3 p5 p6 p7 p8 p9 s = some o) : evW TT C.wide n28 b28 1 (hd_value_Check_1v4 p0 p2 p3 p5 p6 p7 p8 p9 s) = Sum.elim (fun s => evW TT C.wide n28 b28 1 (hd_value_Check_1v4 p0 p2 p3 p5 p6 p7 p8 p9 s)) (fun r => ou_value_Check_1v4 p0 p2 p3 p5 p6 p7 p8 p9 r) o := by
  obtain ⟨p1, p4⟩ := s
  unfold st_value_Check_1v4 at hF
  try dsimp only at hF
  rw [ct TT n28 fl28_1]
  refine aT (decide (p4 < p3)) ?_ ?_
  focus
    intro h1
    replace hF := ar h1 hF
    cases hF
  rotate_left 1
  intro h1
  replace hF := aq h1 hF
  revert hF
  cases h2 : idx p2 p4
  focus
    intro hF
    cases hF
  rename_i x1
  intro hF
  try dsimp only at hF
  have g1 : decide (0 ≤ p4) = true := (cc h2).1
  have g2 : (ab GScore.row p2)[(p4 : Int).toNat]? = some [.s x1.fMember, .i .i64 x1.fN] := ca _ h2
  refine aT p1 ?_ ?_
  focus
    intro h3
    replace hF := ar h3 hF
    cases hF
  rotate_left 1
  intro h3
  replace hF := aq h3 hF
  refine aT (rngB 0 p4 (p0.fScores.length : Int)) ?_ ?_
  focus
    intro h4
    replace hF := ar h4 hF
    cases hF
  intro h4
  replace hF := aq h4 hF
  revert hF
  cases h5 : value_rank (cI p0.fScores 0 p4) x1.fMember
  focus
    intro hF
    cases hF
  rename_i x2
  intro hF
  try dsimp only at hF
  have g3 : C.wide 78 [.v (.sl 2 (ab GScore.row (cI p0.fScores 0 p4))), .v (.s x1.fMember)] [] = some (.v (.i .i64 x2), []) := k_value_rank (cI p0.fScores 0 p4) x1.fMember _ h5
  cases hF
  all_goals (show cD _ _ _ (aH _ _ _ _ (Code.seq _ _) _) = _; simp (maxSteps := 4000000) only [*, hd_value_Check_1v4, ou_value_Check_1v4, n28a103t, n28a103f, n28k28, n28k29, n28k30, n28k31, n28f30, n28mv, ↓RP, RB, ↓ah, aW, aC, aZ, be, aM, Mx.bw, opnd, Mx.bF, Nat.reduceBEq, bK, Mx.fit, bI, bY, cellsOf, aO, aB, ax, Mx.put, ofConst, ofCell, Mx.prune, killB, killBs, aK, putDst, au, aD, loadAt, bM, List.map, Nat.reduceAdd, cm, cn, cg, bD, aL, lowC, forceAll, bound, bW, bg, br, kill, lend, lendA, aS, ay, bL, bare, bQ, bB, setCells, Nat.reduceSub, Nat.reduceLeDiff, lowA, bi, bJ, fineK, av, aJ, aX, bX, bE, ce, bV, bk, aI, bh, bj, bf, Op.operands, newB, ch, ck, cj, bne, ↓aj, ↓ai, bc, bm, bH, Call.operands, ty3, ty4, ty9, ty51, ty53, ty105, ↓aa _ _ _ _ 28, ↓aa _ _ _ _ 29, ↓am _ _ _ _ 30, ↓aa _ _ _ _ 31])
theorem rg_value_Check_k16v5 (C : ak) (k_value_elements : K_value_elements C) (p0 : GValue) (p1 : Int) (p2 : ByteArray) (p3 : Int) (p4 : List GPair) (p5 : List GScore) (c : Code) (ho : cr 0 16 b28 = some c) (r : Bool) (hF : ck_value_Check_k16v5 p0 p1 p2 p3 p4 p5 = some r) : aH TT C.wide (evW TT C.wide n28 b28) n28 c ⟨[(1, .rp [.i .i64 p0.fKind, .s p0.fText, .i .i64 p0.fCount, .sl 2 (ab GPair.row p0.fPairs), .sl 1 (ab aY p0.fItems), .sl 2 (ab GScore.row p0.fScores)])], [[.v (.i .i64 p1), .v (.s p2), .v (.i .i64 p3), .v (.sl 2 (ab GPair.row p4)), .own 1 [], .v (.sl 2 (ab GScore.row p5))]]⟩ = some (.normal, ⟨[(1, .rp [.i .i64 p0.fKind, .s p0.fText, .i .i64 p0.fCount, .sl 2 (ab GPair.row p0.fPairs), .sl 1 (ab aY p0.fItems), .sl 2 (ab GScore.row p0.fScores)]), (56, .v (.b r))], [[.v (.i .i64 p1), .v (.s p2), .v (.i .i64 p3), .v (.sl 2 (ab GPair.row p4)), .own 1 [], .v (.sl 2 (ab GScore.row p5))]]⟩) := by
  have e := Option.some.inj (ho.symm.trans (rfl : cr 0 16 b28 = some _))
  subst e
  clear ho
  unfold ck_value_Check_k16v5 at hF
  refine aT (decide (3 ≤ p0.fKind)) ?_ ?_
  focus
    intro h1
    replace hF := ar h1 hF
    cases hF
  rotate_left 1
  intro h1
  replace hF := aq h1 hF
  have g1 : C.wide 61 [.agg [.v (.i .i64 p0.fKind), .v (.s p0.fText), .v (.i .i64 p0.fCount), .v (.sl 2 (ab GPair.row p0.fPairs)), .v (.sl 1 (ab aY p0.fItems)), .v (.sl 2 (ab GScore.row p0.fScores))]] [] = some (.v (.i .i64 (value_elements_v p0)), []) := k_value_elements p0 _ (value_elements_t p0)
  refine aG (decide ((value_elements_v p0) < 1)) ?_ ?_
  focus
    intro h2
    replace hF := aq h2 hF
    cases hF
  rotate_left 1
  intro h2
  replace hF := ar h2 hF
  cases hF
  all_goals (simp (maxSteps := 4000000) only [*, n28k16, n28mv, ↓RP, RB, aW, aC, aZ, Mx.bw, opnd, Mx.bF, Nat.reduceBEq, bK, aO, aB, ax, Mx.put, ofConst, ofCell, Mx.prune, killB, aK, putDst, au, aD, loadAt, bM, List.map, Nat.reduceAdd, cm, cn, forceAll, lend, lendA, aS, ay, bL, bare, bQ, newB, ch, ck, cj, bc, ty3, ty53, ↓aa _ _ _ _ 16])
theorem rg_value_Check_k26v5 (C : ak) (k_value_rising_Pair_value_byField : K_value_rising_Pair_value_byField C) (k_value_rising_Score_value_byScore : K_value_rising_Score_value_byScore C) (k_value_rising_string_strings_Compare : K_value_rising_string_strings_Compare C) (p0 : GValue) (p1 : Int) (p2 : ByteArray) (p3 : Int) (p4 : List GPair) (p5 : List GScore) (c : Code) (ho : cr 0 26 b28 = some c) (r : Bool) (hF : ck_value_Check_k26v5 p0 p1 p2 p3 p4 p5 = some r) : aH TT C.wide (evW TT C.wide n28 b28) n28 c ⟨[(1, .rp [.i .i64 p0.fKind, .s p0.fText, .i .i64 p0.fCount, .sl 2 (ab GPair.row p0.fPairs), .sl 1 (ab aY p0.fItems), .sl 2 (ab GScore.row p0.fScores)])], [[.v (.i .i64 p1), .v (.s p2), .v (.i .i64 p3), .v (.sl 2 (ab GPair.row p4)), .own 1 [], .v (.sl 2 (ab GScore.row p5))]]⟩ = some (.normal, ⟨[(1, .rp [.i .i64 p0.fKind, .s p0.fText, .i .i64 p0.fCount, .sl 2 (ab GPair.row p0.fPairs), .sl 1 (ab aY p0.fItems), .sl 2 (ab GScore.row p0.fScores)]), (4, .v (.b r))], [[.v (.i .i64 p1), .v (.s p2), .v (.i .i64 p3), .v (.sl 2 (ab GPair.row p4)), .own 1 [], .v (.sl 2 (ab GScore.row p5))]]⟩) := by
  have e := Option.some.inj (ho.symm.trans (rfl : cr 0 26 b28 = some _))
  subst e
  clear ho
  unfold ck_value_Check_k26v5 at hF
  revert hF
  cases h1 : value_rising_Pair_value_byField p0.fPairs
  focus
    intro hF
    cases hF
  rename_i x1
  intro hF
  try dsimp only at hF
  have g1 : C.wide 72 [.v (.sl 2 (ab GPair.row p0.fPairs)), .clo 73 []] [] = some (.v (.b x1), []) := k_value_rising_Pair_value_byField p0.fPairs _ h1
  refine aT x1 ?_ ?_
  focus
    intro h2
    replace hF := ar h2 hF
    cases hF
  rotate_left 1
  intro h2
  replace hF := aq h2 hF
  revert hF
  cases h3 : value_rising_Score_value_byScore p0.fScores
  focus
    intro hF
    cases hF
  rename_i x2
  intro hF
  try dsimp only at hF
  have g2 : C.wide 74 [.v (.sl 2 (ab GScore.row p0.fScores)), .clo 75 []] [] = some (.v (.b x2), []) := k_value_rising_Score_value_byScore p0.fScores _ h3
  refine aT x2 ?_ ?_
  focus
    intro h4
    replace hF := ar h4 hF
    cases hF
  rotate_left 1
  intro h4
  replace hF := aq h4 hF
  refine aT (p0.fKind == 5) ?_ ?_
  focus
    intro h5
    replace hF := ar h5 hF
    cases hF
  rotate_left 1
  intro h5
  replace hF := aq h5 hF
  revert hF
  cases h6 : value_rising_string_strings_Compare p0.fItems
  focus
    intro hF
    cases hF
  rename_i x3
  intro hF
  try dsimp only at hF
  have g3 : C.wide 76 [.v (.sl 1 (ab aY p0.fItems)), .clo 77 []] [] = some (.v (.b x3), []) := k_value_rising_string_strings_Compare p0.fItems _ h6
  cases hF
  all_goals (simp (maxSteps := 4000000) only [*, n28k26, n28mv, ↓RP, RB, aW, aC, aZ, be, aM, Mx.bw, opnd, Mx.bF, Nat.reduceBEq, bK, Mx.fit, bY, aO, aB, ax, Mx.put, ofConst, ofCell, Mx.prune, killB, aK, putDst, au, aD, loadAt, bM, List.map, cm, cn, forceAll, lend, lendA, aS, ay, bL, bare, bQ, newB, ch, ck, cj, bne, bc, ty3, ty4, ty49, ty50, ty51, ty53, ↓aa _ _ _ _ 26])
def hd_value_Check_1v5 (p0 : GValue) (p2 : List GScore) (p3 : Int) (p5 : Int) (p6 : ByteArray) (p7 : Int) (p8 : List GPair) (s : Bool × Int) : St := ⟨[(1, .rp [.i .i64 p0.fKind, .s p0.fText, .i .i64 p0.fCount, .sl 2 (ab GPair.row p0.fPairs), .sl 1 (ab aY p0.fItems), .sl 2 (ab GScore.row p0.fScores)]), (4, .v (.b s.1)), (100, .v (.sl 2 (ab GScore.row p2))), (101, .v (.i .i64 p3)), (102, .v (.i .i64 s.2))], [[.v (.i .i64 p5), .v (.s p6), .v (.i .i64 p7), .v (.sl 2 (ab GPair.row p8)), .own 1 [], .v (.sl 2 (ab GScore.row p2))]]⟩
def ou_value_Check_1v5 (p0 : GValue) (p2 : List GScore) (p3 : Int) (p5 : Int) (p6 : ByteArray) (p7 : Int) (p8 : List GPair) (r : Bool) : Option (Ex × St) := some (.normal, ⟨[(4, .v (.b r))], [[.v (.i .i64 p5), .v (.s p6), .v (.i .i64 p7), .v (.sl 2 (ab GPair.row p8)), .own 1 [], .v (.sl 2 (ab GScore.row p2))]]⟩)
theorem sl_value_Check_1v5 (C : ak) (k_value_rank : K_value_rank C) (p0 : GValue) (p2 : List GScore) (p3 : Int) (p5 : Int) (p6 : ByteArray) (p7 : Int) (p8 : List GPair) (s : Bool × Int) (o : (Bool × Int) ⊕ Bool) (hF : st_value_Check_1v5 p0 p2 p3 p5 p6 p7 p8 s = some o) : evW TT C.wide n28 b28 1 (hd_value_Check_1v5 p0 p2 p3 p5 p6 p7 p8 s) = Sum.elim (fun s => evW TT C.wide n28 b28 1 (hd_value_Check_1v5 p0 p2 p3 p5 p6 p7 p8 s)) (fun r => ou_value_Check_1v5 p0 p2 p3 p5 p6 p7 p8 r) o := by
  obtain ⟨p1, p4⟩ := s
  unfold st_value_Check_1v5 at hF
  try dsimp only at hF
  rw [ct TT n28 fl28_1]
  refine aT (decide (p4 < p3)) ?_ ?_
  focus
    intro h1
    replace hF := ar h1 hF
    cases hF
  rotate_left 1
  intro h1
  replace hF := aq h1 hF
  revert hF
  cases h2 : idx p2 p4
  focus
    intro hF
    cases hF
  rename_i x1
  intro hF
  try dsimp only at hF
  have g1 : decide (0 ≤ p4) = true := (cc h2).1
  have g2 : (ab GScore.row p2)[(p4 : Int).toNat]? = some [.s x1.fMember, .i .i64 x1.fN] := ca _ h2
  refine aT p1 ?_ ?_
  focus
    intro h3
    replace hF := ar h3 hF
    cases hF
  rotate_left 1
  intro h3
  replace hF := aq h3 hF
  refine aT (rngB 0 p4 (p0.fScores.length : Int)) ?_ ?_
  focus
    intro h4
    replace hF := ar h4 hF
    cases hF
  intro h4
  replace hF := aq h4 hF
  revert hF
  cases h5 : value_rank (cI p0.fScores 0 p4) x1.fMember
  focus
    intro hF
    cases hF
  rename_i x2
  intro hF
  try dsimp only at hF
  have g3 : C.wide 78 [.v (.sl 2 (ab GScore.row (cI p0.fScores 0 p4))), .v (.s x1.fMember)] [] = some (.v (.i .i64 x2), []) := k_value_rank (cI p0.fScores 0 p4) x1.fMember _ h5
  cases hF
  all_goals (show cD _ _ _ (aH _ _ _ _ (Code.seq _ _) _) = _; simp (maxSteps := 4000000) only [*, hd_value_Check_1v5, ou_value_Check_1v5, n28a103t, n28a103f, n28k28, n28k29, n28k30, n28k31, n28f30, n28mv, ↓RP, RB, ↓ah, aW, aC, aZ, be, aM, Mx.bw, opnd, Mx.bF, Nat.reduceBEq, bK, Mx.fit, bI, bY, cellsOf, aO, aB, ax, Mx.put, ofConst, ofCell, Mx.prune, killB, killBs, aK, putDst, au, aD, loadAt, bM, List.map, Nat.reduceAdd, cm, cn, cg, bD, aL, lowC, forceAll, bound, bW, bg, br, kill, lend, lendA, aS, ay, bL, bare, bQ, bB, setCells, Nat.reduceSub, Nat.reduceLeDiff, lowA, bi, bJ, fineK, av, aJ, aX, bX, bE, ce, bV, bk, aI, bh, bj, bf, Op.operands, newB, ch, ck, cj, bne, ↓aj, ↓ai, bc, bm, bH, Call.operands, ty3, ty4, ty9, ty51, ty53, ty105, ↓aa _ _ _ _ 28, ↓aa _ _ _ _ 29, ↓am _ _ _ _ 30, ↓aa _ _ _ _ 31])
theorem r_value_Check (C : ak) (k_value_elements : K_value_elements C) (k_value_text : K_value_text C) (k_slices_ContainsFunc_string_string_value_Check_fn1 : K_slices_ContainsFunc_string_string_value_Check_fn1 C) (k_slices_ContainsFunc_Pair_Pair_value_Check_fn2 : K_slices_ContainsFunc_Pair_Pair_value_Check_fn2 C) (k_slices_ContainsFunc_Score_Score_value_Check_fn3 : K_slices_ContainsFunc_Score_Score_value_Check_fn3 C) (k_value_count : K_value_count C) (k_slices_ContainsFunc_Score_Score_value_Check_fn4 : K_slices_ContainsFunc_Score_Score_value_Check_fn4 C) (k_value_rising_Pair_value_byField : K_value_rising_Pair_value_byField C) (k_value_rising_Score_value_byScore : K_value_rising_Score_value_byScore C) (k_value_rising_string_strings_Compare : K_value_rising_string_strings_Compare C) (k_value_rank : K_value_rank C) (p0 : GValue) (r : Int) (hF : value_Check p0 = some r) : cF TT C.wide (evW TT C.wide n28 b28) n28 Try.f28.results.toList (aQ Try.f28) [.agg [.v (.i .i64 p0.fKind), .v (.s p0.fText), .v (.i .i64 p0.fCount), .v (.sl 2 (ab GPair.row p0.fPairs)), .v (.sl 1 (ab aY p0.fItems)), .v (.sl 2 (ab GScore.row p0.fScores))]] [] = some (.v (.i .i64 r), []) := by
  unfold value_Check at hF
  refine aG (decide (p0.fKind < 1)) ?_ ?_
  focus
    intro h1
    replace hF := aq h1 hF
    have hR := Option.some.inj hF
    clear hF
    subst hR
  rotate_left 1
  intro h1
  replace hF := ar h1 hF
  refine aG (decide (6 < p0.fKind)) ?_ ?_
  focus
    intro h2
    replace hF := aq h2 hF
    have hR := Option.some.inj hF
    clear hF
    subst hR
  rotate_left 1
  intro h2
  replace hF := ar h2 hF
  refine aG (p0.fKind == 1) ?_ ?_
  focus
    intro h3
    replace hF := aq h3 hF
    refine aT (p0.fCount == 0) ?_ ?_
    focus
      intro h4
      replace hF := ar h4 hF
      have hR := Option.some.inj hF
      clear hF
      subst hR
    rotate_left 1
    intro h4
    replace hF := aq h4 hF
    have g1 : C.wide 61 [.agg [.v (.i .i64 p0.fKind), .v (.s ByteArray.empty), .v (.i .i64 p0.fCount), .v (.sl 2 (ab GPair.row p0.fPairs)), .v (.sl 1 (ab aY p0.fItems)), .v (.sl 2 (ab GScore.row p0.fScores))]] [] = some (.v (.i .i64 (value_elements_v (GValue.mk p0.fKind ByteArray.empty p0.fCount p0.fPairs p0.fItems p0.fScores))), []) := k_value_elements (GValue.mk p0.fKind ByteArray.empty p0.fCount p0.fPairs p0.fItems p0.fScores) _ (value_elements_t (GValue.mk p0.fKind ByteArray.empty p0.fCount p0.fPairs p0.fItems p0.fScores))
    refine aG (decide (0 < (value_elements_v (GValue.mk p0.fKind ByteArray.empty p0.fCount p0.fPairs p0.fItems p0.fScores)))) ?_ ?_
    focus
      intro h5
      replace hF := aq h5 hF
      have hR := Option.some.inj hF
      clear hF
      subst hR
    rotate_left 1
    intro h5
    replace hF := ar h5 hF
    unfold value_Check_c1 at hF
    have g2 : @cR TT C.wide (evW TT C.wide n28 b28) n28 0 16 ⟨[(1, .rp [.i .i64 p0.fKind, .s p0.fText, .i .i64 p0.fCount, .sl 2 (ab GPair.row p0.fPairs), .sl 1 (ab aY p0.fItems), .sl 2 (ab GScore.row p0.fScores)])], [[.v (.i .i64 p0.fKind), .v (.s ByteArray.empty), .v (.i .i64 p0.fCount), .v (.sl 2 (ab GPair.row p0.fPairs)), .v (.sl 1 (ab aY p0.fItems)), .v (.sl 2 (ab GScore.row p0.fScores))]]⟩ ⟨_⟩ = some (.normal, ⟨[(1, .rp [.i .i64 p0.fKind, .s p0.fText, .i .i64 p0.fCount, .sl 2 (ab GPair.row p0.fPairs), .sl 1 (ab aY p0.fItems), .sl 2 (ab GScore.row p0.fScores)]), (56, .v (.b (ck_value_Check_k16_v p0 p0.fKind p0.fCount p0.fPairs p0.fItems p0.fScores)))], [[.v (.i .i64 p0.fKind), .v (.s ByteArray.empty), .v (.i .i64 p0.fCount), .v (.sl 2 (ab GPair.row p0.fPairs)), .v (.sl 1 (ab aY p0.fItems)), .v (.sl 2 (ab GScore.row p0.fScores))]]⟩) := rg_value_Check_k16 C k_value_elements p0 p0.fKind p0.fCount p0.fPairs p0.fItems p0.fScores _ rfl (ck_value_Check_k16_v p0 p0.fKind p0.fCount p0.fPairs p0.fItems p0.fScores) (ck_value_Check_k16_t p0 p0.fKind p0.fCount p0.fPairs p0.fItems p0.fScores)
    refine aG (ck_value_Check_k16_v p0 p0.fKind p0.fCount p0.fPairs p0.fItems p0.fScores) ?_ ?_
    focus
      intro h6
      replace hF := aq h6 hF
      have hR := Option.some.inj hF
      clear hF
      subst hR
    rotate_left 1
    intro h6
    replace hF := ar h6 hF
    have g3 : C.wide 62 [.v (.s p0.fText)] [] = some (.v (.b (value_text_v p0.fText)), []) := k_value_text p0.fText _ (value_text_t p0.fText)
    refine aT (value_text_v p0.fText) ?_ ?_
    focus
      intro h7
      replace hF := ar h7 hF
      have hR := Option.some.inj hF
      clear hF
      subst hR
    rotate_left 1
    intro h7
    replace hF := aq h7 hF
    revert hF
    cases h8 : slices_ContainsFunc_string_string_value_Check_fn1 p0.fItems
    focus
      intro hF
      cases hF
    rename_i x1
    intro hF
    try dsimp only at hF
    have g4 : C.wide 63 [.v (.sl 1 (ab aY p0.fItems)), .clo 64 []] [] = some (.v (.b x1), []) := k_slices_ContainsFunc_string_string_value_Check_fn1 p0.fItems _ h8
    refine aG x1 ?_ ?_
    focus
      intro h9
      replace hF := aq h9 hF
      have hR := Option.some.inj hF
      clear hF
      subst hR
    rotate_left 1
    intro h9
    replace hF := ar h9 hF
    revert hF
    cases h10 : slices_ContainsFunc_Pair_Pair_value_Check_fn2 p0.fPairs
    focus
      intro hF
      cases hF
    rename_i x2
    intro hF
    try dsimp only at hF
    have g5 : C.wide 65 [.v (.sl 2 (ab GPair.row p0.fPairs)), .clo 66 []] [] = some (.v (.b x2), []) := k_slices_ContainsFunc_Pair_Pair_value_Check_fn2 p0.fPairs _ h10
    refine aG x2 ?_ ?_
    focus
      intro h11
      replace hF := aq h11 hF
      have hR := Option.some.inj hF
      clear hF
      subst hR
    rotate_left 1
    intro h11
    replace hF := ar h11 hF
    revert hF
    cases h12 : slices_ContainsFunc_Score_Score_value_Check_fn3 p0.fScores
    focus
      intro hF
      cases hF
    rename_i x3
    intro hF
    try dsimp only at hF
    unfold value_Check_c0 at hF
    have g6 : C.wide 68 [.v (.sl 2 (ab GScore.row p0.fScores)), .clo 69 []] [] = some (.v (.b x3), []) := k_slices_ContainsFunc_Score_Score_value_Check_fn3 p0.fScores _ h12
    refine aG x3 ?_ ?_
    focus
      intro h13
      replace hF := aq h13 hF
      have hR := Option.some.inj hF
      clear hF
      subst hR
    rotate_left 1
    intro h13
    replace hF := ar h13 hF
    have g7 : C.wide 70 [.v (.i .i64 p0.fCount)] [] = some (.v (.b (value_count_v p0.fCount)), []) := k_value_count p0.fCount _ (value_count_t p0.fCount)
    refine aT (value_count_v p0.fCount) ?_ ?_
    focus
      intro h14
      replace hF := ar h14 hF
      have hR := Option.some.inj hF
      clear hF
      subst hR
    rotate_left 1
    intro h14
    replace hF := aq h14 hF
    revert hF
    cases h15 : slices_ContainsFunc_Score_Score_value_Check_fn4 p0.fScores
    focus
      intro hF
      cases hF
    rename_i x4
    intro hF
    try dsimp only at hF
    have g8 : C.wide 68 [.v (.sl 2 (ab GScore.row p0.fScores)), .clo 71 []] [] = some (.v (.b x4), []) := k_slices_ContainsFunc_Score_Score_value_Check_fn4 p0.fScores _ h15
    refine aG x4 ?_ ?_
    focus
      intro h16
      replace hF := aq h16 hF
      have hR := Option.some.inj hF
      clear hF
      subst hR
    rotate_left 1
    intro h16
    replace hF := ar h16 hF
    revert hF
    cases h17 : ck_value_Check_k26 p0 p0.fKind p0.fCount p0.fPairs p0.fItems p0.fScores
    focus
      intro hF
      cases hF
    rename_i x5
    intro hF
    try dsimp only at hF
    have g9 : @cR TT C.wide (evW TT C.wide n28 b28) n28 0 26 ⟨[(1, .rp [.i .i64 p0.fKind, .s p0.fText, .i .i64 p0.fCount, .sl 2 (ab GPair.row p0.fPairs), .sl 1 (ab aY p0.fItems), .sl 2 (ab GScore.row p0.fScores)])], [[.v (.i .i64 p0.fKind), .v (.s ByteArray.empty), .v (.i .i64 p0.fCount), .v (.sl 2 (ab GPair.row p0.fPairs)), .v (.sl 1 (ab aY p0.fItems)), .v (.sl 2 (ab GScore.row p0.fScores))]]⟩ ⟨_⟩ = some (.normal, ⟨[(1, .rp [.i .i64 p0.fKind, .s p0.fText, .i .i64 p0.fCount, .sl 2 (ab GPair.row p0.fPairs), .sl 1 (ab aY p0.fItems), .sl 2 (ab GScore.row p0.fScores)]), (4, .v (.b x5))], [[.v (.i .i64 p0.fKind), .v (.s ByteArray.empty), .v (.i .i64 p0.fCount), .v (.sl 2 (ab GPair.row p0.fPairs)), .v (.sl 1 (ab aY p0.fItems)), .v (.sl 2 (ab GScore.row p0.fScores))]]⟩) := rg_value_Check_k26 C k_value_rising_Pair_value_byField k_value_rising_Score_value_byScore k_value_rising_string_strings_Compare p0 p0.fKind p0.fCount p0.fPairs p0.fItems p0.fScores _ rfl _ h17
    revert hF
    cases h18 : ci (st_value_Check_1 p0 p0.fScores (p0.fScores.length : Int) p0.fKind p0.fCount p0.fPairs p0.fItems) (x5, 0)
    focus
      intro hF
      cases hF
    rename_i qh18
    revert qh18
    intro x6 h18
    intro hF
    try dsimp only at hF
    have g10 : evW TT C.wide n28 b28 1 ⟨[(1, .rp [.i .i64 p0.fKind, .s p0.fText, .i .i64 p0.fCount, .sl 2 (ab GPair.row p0.fPairs), .sl 1 (ab aY p0.fItems), .sl 2 (ab GScore.row p0.fScores)]), (4, .v (.b x5)), (100, .v (.sl 2 (ab GScore.row p0.fScores))), (101, .v (.i .i64 (p0.fScores.length : Int))), (102, .v (.i .i64 0))], [[.v (.i .i64 p0.fKind), .v (.s ByteArray.empty), .v (.i .i64 p0.fCount), .v (.sl 2 (ab GPair.row p0.fPairs)), .v (.sl 1 (ab aY p0.fItems)), .v (.sl 2 (ab GScore.row p0.fScores))]]⟩ = some (.normal, ⟨[(4, .v (.b x6))], [[.v (.i .i64 p0.fKind), .v (.s ByteArray.empty), .v (.i .i64 p0.fCount), .v (.sl 2 (ab GPair.row p0.fPairs)), .v (.sl 1 (ab aY p0.fItems)), .v (.sl 2 (ab GScore.row p0.fScores))]]⟩) := cy (hd_value_Check_1 p0 p0.fScores (p0.fScores.length : Int) p0.fKind p0.fCount p0.fPairs p0.fItems) (ou_value_Check_1 p0 p0.fScores (p0.fScores.length : Int) p0.fKind p0.fCount p0.fPairs p0.fItems) (fun s o hs => sl_value_Check_1 C k_value_rank p0 p0.fScores (p0.fScores.length : Int) p0.fKind p0.fCount p0.fPairs p0.fItems s o hs) h18
    refine aG x6 ?_ ?_
    focus
      intro h19
      replace hF := aq h19 hF
      have hR := Option.some.inj hF
      clear hF
      subst hR
    rotate_left 1
    intro h19
    replace hF := ar h19 hF
    have hR := Option.some.inj hF
    clear hF
    subst hR
  rotate_left 11
  intro h3
  replace hF := ar h3 hF
  unfold value_Check_c11 at hF
  refine aG (p0.fKind == 2) ?_ ?_
  focus
    intro h4
    replace hF := aq h4 hF
    refine aT (cJ p0.fText ByteArray.empty) ?_ ?_
    focus
      intro h5
      replace hF := ar h5 hF
      have hR := Option.some.inj hF
      clear hF
      subst hR
    rotate_left 1
    intro h5
    replace hF := aq h5 hF
    have g11 : C.wide 61 [.agg [.v (.i .i64 p0.fKind), .v (.s p0.fText), .v (.i .i64 0), .v (.sl 2 (ab GPair.row p0.fPairs)), .v (.sl 1 (ab aY p0.fItems)), .v (.sl 2 (ab GScore.row p0.fScores))]] [] = some (.v (.i .i64 (value_elements_v (GValue.mk p0.fKind p0.fText 0 p0.fPairs p0.fItems p0.fScores))), []) := k_value_elements (GValue.mk p0.fKind p0.fText 0 p0.fPairs p0.fItems p0.fScores) _ (value_elements_t (GValue.mk p0.fKind p0.fText 0 p0.fPairs p0.fItems p0.fScores))
    refine aG (decide (0 < (value_elements_v (GValue.mk p0.fKind p0.fText 0 p0.fPairs p0.fItems p0.fScores)))) ?_ ?_
    focus
      intro h6
      replace hF := aq h6 hF
      have hR := Option.some.inj hF
      clear hF
      subst hR
    rotate_left 1
    intro h6
    replace hF := ar h6 hF
    unfold value_Check_c3 at hF
    have g12 : @cR TT C.wide (evW TT C.wide n28 b28) n28 0 16 ⟨[(1, .rp [.i .i64 p0.fKind, .s p0.fText, .i .i64 p0.fCount, .sl 2 (ab GPair.row p0.fPairs), .sl 1 (ab aY p0.fItems), .sl 2 (ab GScore.row p0.fScores)])], [[.v (.i .i64 p0.fKind), .v (.s p0.fText), .v (.i .i64 0), .v (.sl 2 (ab GPair.row p0.fPairs)), .v (.sl 1 (ab aY p0.fItems)), .v (.sl 2 (ab GScore.row p0.fScores))]]⟩ ⟨_⟩ = some (.normal, ⟨[(1, .rp [.i .i64 p0.fKind, .s p0.fText, .i .i64 p0.fCount, .sl 2 (ab GPair.row p0.fPairs), .sl 1 (ab aY p0.fItems), .sl 2 (ab GScore.row p0.fScores)]), (56, .v (.b (ck_value_Check_k16v2_v p0 p0.fKind p0.fText p0.fPairs p0.fItems p0.fScores)))], [[.v (.i .i64 p0.fKind), .v (.s p0.fText), .v (.i .i64 0), .v (.sl 2 (ab GPair.row p0.fPairs)), .v (.sl 1 (ab aY p0.fItems)), .v (.sl 2 (ab GScore.row p0.fScores))]]⟩) := rg_value_Check_k16v2 C k_value_elements p0 p0.fKind p0.fText p0.fPairs p0.fItems p0.fScores _ rfl (ck_value_Check_k16v2_v p0 p0.fKind p0.fText p0.fPairs p0.fItems p0.fScores) (ck_value_Check_k16v2_t p0 p0.fKind p0.fText p0.fPairs p0.fItems p0.fScores)
    refine aG (ck_value_Check_k16v2_v p0 p0.fKind p0.fText p0.fPairs p0.fItems p0.fScores) ?_ ?_
    focus
      intro h7
      replace hF := aq h7 hF
      have hR := Option.some.inj hF
      clear hF
      subst hR
    rotate_left 1
    intro h7
    replace hF := ar h7 hF
    have g3 : C.wide 62 [.v (.s p0.fText)] [] = some (.v (.b (value_text_v p0.fText)), []) := k_value_text p0.fText _ (value_text_t p0.fText)
    refine aT (value_text_v p0.fText) ?_ ?_
    focus
      intro h8
      replace hF := ar h8 hF
      have hR := Option.some.inj hF
      clear hF
      subst hR
    rotate_left 1
    intro h8
    replace hF := aq h8 hF
    revert hF
    cases h9 : slices_ContainsFunc_string_string_value_Check_fn1 p0.fItems
    focus
      intro hF
      cases hF
    rename_i x1
    intro hF
    try dsimp only at hF
    have g4 : C.wide 63 [.v (.sl 1 (ab aY p0.fItems)), .clo 64 []] [] = some (.v (.b x1), []) := k_slices_ContainsFunc_string_string_value_Check_fn1 p0.fItems _ h9
    refine aG x1 ?_ ?_
    focus
      intro h10
      replace hF := aq h10 hF
      have hR := Option.some.inj hF
      clear hF
      subst hR
    rotate_left 1
    intro h10
    replace hF := ar h10 hF
    revert hF
    cases h11 : slices_ContainsFunc_Pair_Pair_value_Check_fn2 p0.fPairs
    focus
      intro hF
      cases hF
    rename_i x2
    intro hF
    try dsimp only at hF
    have g5 : C.wide 65 [.v (.sl 2 (ab GPair.row p0.fPairs)), .clo 66 []] [] = some (.v (.b x2), []) := k_slices_ContainsFunc_Pair_Pair_value_Check_fn2 p0.fPairs _ h11
    refine aG x2 ?_ ?_
    focus
      intro h12
      replace hF := aq h12 hF
      have hR := Option.some.inj hF
      clear hF
      subst hR
    rotate_left 1
    intro h12
    replace hF := ar h12 hF
    revert hF
    cases h13 : slices_ContainsFunc_Score_Score_value_Check_fn3 p0.fScores
    focus
      intro hF
      cases hF
    rename_i x3
    intro hF
    try dsimp only at hF
    unfold value_Check_c2 at hF
    have g6 : C.wide 68 [.v (.sl 2 (ab GScore.row p0.fScores)), .clo 69 []] [] = some (.v (.b x3), []) := k_slices_ContainsFunc_Score_Score_value_Check_fn3 p0.fScores _ h13
    refine aG x3 ?_ ?_
    focus
      intro h14
      replace hF := aq h14 hF
      have hR := Option.some.inj hF
      clear hF
      subst hR
    rotate_left 1
    intro h14
    replace hF := ar h14 hF
    have g7 : C.wide 70 [.v (.i .i64 p0.fCount)] [] = some (.v (.b (value_count_v p0.fCount)), []) := k_value_count p0.fCount _ (value_count_t p0.fCount)
    refine aT (value_count_v p0.fCount) ?_ ?_
    focus
      intro h15
      replace hF := ar h15 hF
      have hR := Option.some.inj hF
      clear hF
      subst hR
    rotate_left 1
    intro h15
    replace hF := aq h15 hF
    revert hF
    cases h16 : slices_ContainsFunc_Score_Score_value_Check_fn4 p0.fScores
    focus
      intro hF
      cases hF
    rename_i x4
    intro hF
    try dsimp only at hF
    have g8 : C.wide 68 [.v (.sl 2 (ab GScore.row p0.fScores)), .clo 71 []] [] = some (.v (.b x4), []) := k_slices_ContainsFunc_Score_Score_value_Check_fn4 p0.fScores _ h16
    refine aG x4 ?_ ?_
    focus
      intro h17
      replace hF := aq h17 hF
      have hR := Option.some.inj hF
      clear hF
      subst hR
    rotate_left 1
    intro h17
    replace hF := ar h17 hF
    revert hF
    cases h18 : ck_value_Check_k26v2 p0 p0.fKind p0.fText p0.fPairs p0.fItems p0.fScores
    focus
      intro hF
      cases hF
    rename_i x5
    intro hF
    try dsimp only at hF
    have g13 : @cR TT C.wide (evW TT C.wide n28 b28) n28 0 26 ⟨[(1, .rp [.i .i64 p0.fKind, .s p0.fText, .i .i64 p0.fCount, .sl 2 (ab GPair.row p0.fPairs), .sl 1 (ab aY p0.fItems), .sl 2 (ab GScore.row p0.fScores)])], [[.v (.i .i64 p0.fKind), .v (.s p0.fText), .v (.i .i64 0), .v (.sl 2 (ab GPair.row p0.fPairs)), .v (.sl 1 (ab aY p0.fItems)), .v (.sl 2 (ab GScore.row p0.fScores))]]⟩ ⟨_⟩ = some (.normal, ⟨[(1, .rp [.i .i64 p0.fKind, .s p0.fText, .i .i64 p0.fCount, .sl 2 (ab GPair.row p0.fPairs), .sl 1 (ab aY p0.fItems), .sl 2 (ab GScore.row p0.fScores)]), (4, .v (.b x5))], [[.v (.i .i64 p0.fKind), .v (.s p0.fText), .v (.i .i64 0), .v (.sl 2 (ab GPair.row p0.fPairs)), .v (.sl 1 (ab aY p0.fItems)), .v (.sl 2 (ab GScore.row p0.fScores))]]⟩) := rg_value_Check_k26v2 C k_value_rising_Pair_value_byField k_value_rising_Score_value_byScore k_value_rising_string_strings_Compare p0 p0.fKind p0.fText p0.fPairs p0.fItems p0.fScores _ rfl _ h18
    revert hF
    cases h19 : ci (st_value_Check_1v2 p0 p0.fScores (p0.fScores.length : Int) p0.fKind p0.fText p0.fPairs p0.fItems) (x5, 0)
    focus
      intro hF
      cases hF
    rename_i qh19
    revert qh19
    intro x6 h19
    intro hF
    try dsimp only at hF
    have g14 : evW TT C.wide n28 b28 1 ⟨[(1, .rp [.i .i64 p0.fKind, .s p0.fText, .i .i64 p0.fCount, .sl 2 (ab GPair.row p0.fPairs), .sl 1 (ab aY p0.fItems), .sl 2 (ab GScore.row p0.fScores)]), (4, .v (.b x5)), (100, .v (.sl 2 (ab GScore.row p0.fScores))), (101, .v (.i .i64 (p0.fScores.length : Int))), (102, .v (.i .i64 0))], [[.v (.i .i64 p0.fKind), .v (.s p0.fText), .v (.i .i64 0), .v (.sl 2 (ab GPair.row p0.fPairs)), .v (.sl 1 (ab aY p0.fItems)), .v (.sl 2 (ab GScore.row p0.fScores))]]⟩ = some (.normal, ⟨[(4, .v (.b x6))], [[.v (.i .i64 p0.fKind), .v (.s p0.fText), .v (.i .i64 0), .v (.sl 2 (ab GPair.row p0.fPairs)), .v (.sl 1 (ab aY p0.fItems)), .v (.sl 2 (ab GScore.row p0.fScores))]]⟩) := cy (hd_value_Check_1v2 p0 p0.fScores (p0.fScores.length : Int) p0.fKind p0.fText p0.fPairs p0.fItems) (ou_value_Check_1v2 p0 p0.fScores (p0.fScores.length : Int) p0.fKind p0.fText p0.fPairs p0.fItems) (fun s o hs => sl_value_Check_1v2 C k_value_rank p0 p0.fScores (p0.fScores.length : Int) p0.fKind p0.fText p0.fPairs p0.fItems s o hs) h19
    refine aG x6 ?_ ?_
    focus
      intro h20
      replace hF := aq h20 hF
      have hR := Option.some.inj hF
      clear hF
      subst hR
    rotate_left 1
    intro h20
    replace hF := ar h20 hF
    have hR := Option.some.inj hF
    clear hF
    subst hR
  rotate_left 11
  intro h4
  replace hF := ar h4 hF
  refine aG (p0.fKind == 3) ?_ ?_
  focus
    intro h5
    replace hF := aq h5 hF
    refine aT (cJ p0.fText ByteArray.empty) ?_ ?_
    focus
      intro h6
      replace hF := ar h6 hF
      have hR := Option.some.inj hF
      clear hF
      subst hR
    rotate_left 1
    intro h6
    replace hF := aq h6 hF
    refine aT (p0.fCount == 0) ?_ ?_
    focus
      intro h7
      replace hF := ar h7 hF
      have hR := Option.some.inj hF
      clear hF
      subst hR
    rotate_left 1
    intro h7
    replace hF := aq h7 hF
    have g15 : C.wide 61 [.agg [.v (.i .i64 p0.fKind), .v (.s p0.fText), .v (.i .i64 p0.fCount), .v (.sl 2 []), .v (.sl 1 (ab aY p0.fItems)), .v (.sl 2 (ab GScore.row p0.fScores))]] [] = some (.v (.i .i64 (value_elements_v (GValue.mk p0.fKind p0.fText p0.fCount [] p0.fItems p0.fScores))), []) := k_value_elements (GValue.mk p0.fKind p0.fText p0.fCount [] p0.fItems p0.fScores) _ (value_elements_t (GValue.mk p0.fKind p0.fText p0.fCount [] p0.fItems p0.fScores))
    refine aG (decide (0 < (value_elements_v (GValue.mk p0.fKind p0.fText p0.fCount [] p0.fItems p0.fScores)))) ?_ ?_
    focus
      intro h8
      replace hF := aq h8 hF
      have hR := Option.some.inj hF
      clear hF
      subst hR
    rotate_left 1
    intro h8
    replace hF := ar h8 hF
    unfold value_Check_c5 at hF
    have g16 : @cR TT C.wide (evW TT C.wide n28 b28) n28 0 16 ⟨[(1, .rp [.i .i64 p0.fKind, .s p0.fText, .i .i64 p0.fCount, .sl 2 (ab GPair.row p0.fPairs), .sl 1 (ab aY p0.fItems), .sl 2 (ab GScore.row p0.fScores)])], [[.v (.i .i64 p0.fKind), .v (.s p0.fText), .v (.i .i64 p0.fCount), .own 2 [], .v (.sl 1 (ab aY p0.fItems)), .v (.sl 2 (ab GScore.row p0.fScores))]]⟩ ⟨_⟩ = some (.normal, ⟨[(1, .rp [.i .i64 p0.fKind, .s p0.fText, .i .i64 p0.fCount, .sl 2 (ab GPair.row p0.fPairs), .sl 1 (ab aY p0.fItems), .sl 2 (ab GScore.row p0.fScores)]), (56, .v (.b (ck_value_Check_k16v3_v p0 p0.fKind p0.fText p0.fCount p0.fItems p0.fScores)))], [[.v (.i .i64 p0.fKind), .v (.s p0.fText), .v (.i .i64 p0.fCount), .own 2 [], .v (.sl 1 (ab aY p0.fItems)), .v (.sl 2 (ab GScore.row p0.fScores))]]⟩) := rg_value_Check_k16v3 C k_value_elements p0 p0.fKind p0.fText p0.fCount p0.fItems p0.fScores _ rfl (ck_value_Check_k16v3_v p0 p0.fKind p0.fText p0.fCount p0.fItems p0.fScores) (ck_value_Check_k16v3_t p0 p0.fKind p0.fText p0.fCount p0.fItems p0.fScores)
    refine aG (ck_value_Check_k16v3_v p0 p0.fKind p0.fText p0.fCount p0.fItems p0.fScores) ?_ ?_
    focus
      intro h9
      replace hF := aq h9 hF
      have hR := Option.some.inj hF
      clear hF
      subst hR
    rotate_left 1
    intro h9
    replace hF := ar h9 hF
    have g3 : C.wide 62 [.v (.s p0.fText)] [] = some (.v (.b (value_text_v p0.fText)), []) := k_value_text p0.fText _ (value_text_t p0.fText)
    refine aT (value_text_v p0.fText) ?_ ?_
    focus
      intro h10
      replace hF := ar h10 hF
      have hR := Option.some.inj hF
      clear hF
      subst hR
    rotate_left 1
    intro h10
    replace hF := aq h10 hF
    revert hF
    cases h11 : slices_ContainsFunc_string_string_value_Check_fn1 p0.fItems
    focus
      intro hF
      cases hF
    rename_i x1
    intro hF
    try dsimp only at hF
    have g4 : C.wide 63 [.v (.sl 1 (ab aY p0.fItems)), .clo 64 []] [] = some (.v (.b x1), []) := k_slices_ContainsFunc_string_string_value_Check_fn1 p0.fItems _ h11
    refine aG x1 ?_ ?_
    focus
      intro h12
      replace hF := aq h12 hF
      have hR := Option.some.inj hF
      clear hF
      subst hR
    rotate_left 1
    intro h12
    replace hF := ar h12 hF
    revert hF
    cases h13 : slices_ContainsFunc_Pair_Pair_value_Check_fn2 p0.fPairs
    focus
      intro hF
      cases hF
    rename_i x2
    intro hF
    try dsimp only at hF
    have g5 : C.wide 65 [.v (.sl 2 (ab GPair.row p0.fPairs)), .clo 66 []] [] = some (.v (.b x2), []) := k_slices_ContainsFunc_Pair_Pair_value_Check_fn2 p0.fPairs _ h13
    refine aG x2 ?_ ?_
    focus
      intro h14
      replace hF := aq h14 hF
      have hR := Option.some.inj hF
      clear hF
      subst hR
    rotate_left 1
    intro h14
    replace hF := ar h14 hF
    revert hF
    cases h15 : slices_ContainsFunc_Score_Score_value_Check_fn3 p0.fScores
    focus
      intro hF
      cases hF
    rename_i x3
    intro hF
    try dsimp only at hF
    unfold value_Check_c4 at hF
    have g6 : C.wide 68 [.v (.sl 2 (ab GScore.row p0.fScores)), .clo 69 []] [] = some (.v (.b x3), []) := k_slices_ContainsFunc_Score_Score_value_Check_fn3 p0.fScores _ h15
    refine aG x3 ?_ ?_
    focus
      intro h16
      replace hF := aq h16 hF
      have hR := Option.some.inj hF
      clear hF
      subst hR
    rotate_left 1
    intro h16
    replace hF := ar h16 hF
    have g7 : C.wide 70 [.v (.i .i64 p0.fCount)] [] = some (.v (.b (value_count_v p0.fCount)), []) := k_value_count p0.fCount _ (value_count_t p0.fCount)
    refine aT (value_count_v p0.fCount) ?_ ?_
    focus
      intro h17
      replace hF := ar h17 hF
      have hR := Option.some.inj hF
      clear hF
      subst hR
    rotate_left 1
    intro h17
    replace hF := aq h17 hF
    revert hF
    cases h18 : slices_ContainsFunc_Score_Score_value_Check_fn4 p0.fScores
    focus
      intro hF
      cases hF
    rename_i x4
    intro hF
    try dsimp only at hF
    have g8 : C.wide 68 [.v (.sl 2 (ab GScore.row p0.fScores)), .clo 71 []] [] = some (.v (.b x4), []) := k_slices_ContainsFunc_Score_Score_value_Check_fn4 p0.fScores _ h18
    refine aG x4 ?_ ?_
    focus
      intro h19
      replace hF := aq h19 hF
      have hR := Option.some.inj hF
      clear hF
      subst hR
    rotate_left 1
    intro h19
    replace hF := ar h19 hF
    revert hF
    cases h20 : ck_value_Check_k26v3 p0 p0.fKind p0.fText p0.fCount p0.fItems p0.fScores
    focus
      intro hF
      cases hF
    rename_i x5
    intro hF
    try dsimp only at hF
    have g17 : @cR TT C.wide (evW TT C.wide n28 b28) n28 0 26 ⟨[(1, .rp [.i .i64 p0.fKind, .s p0.fText, .i .i64 p0.fCount, .sl 2 (ab GPair.row p0.fPairs), .sl 1 (ab aY p0.fItems), .sl 2 (ab GScore.row p0.fScores)])], [[.v (.i .i64 p0.fKind), .v (.s p0.fText), .v (.i .i64 p0.fCount), .own 2 [], .v (.sl 1 (ab aY p0.fItems)), .v (.sl 2 (ab GScore.row p0.fScores))]]⟩ ⟨_⟩ = some (.normal, ⟨[(1, .rp [.i .i64 p0.fKind, .s p0.fText, .i .i64 p0.fCount, .sl 2 (ab GPair.row p0.fPairs), .sl 1 (ab aY p0.fItems), .sl 2 (ab GScore.row p0.fScores)]), (4, .v (.b x5))], [[.v (.i .i64 p0.fKind), .v (.s p0.fText), .v (.i .i64 p0.fCount), .own 2 [], .v (.sl 1 (ab aY p0.fItems)), .v (.sl 2 (ab GScore.row p0.fScores))]]⟩) := rg_value_Check_k26v3 C k_value_rising_Pair_value_byField k_value_rising_Score_value_byScore k_value_rising_string_strings_Compare p0 p0.fKind p0.fText p0.fCount p0.fItems p0.fScores _ rfl _ h20
    revert hF
    cases h21 : ci (st_value_Check_1v3 p0 p0.fScores (p0.fScores.length : Int) p0.fKind p0.fText p0.fCount p0.fItems) (x5, 0)
    focus
      intro hF
      cases hF
    rename_i qh21
    revert qh21
    intro x6 h21
    intro hF
    try dsimp only at hF
    have g18 : evW TT C.wide n28 b28 1 ⟨[(1, .rp [.i .i64 p0.fKind, .s p0.fText, .i .i64 p0.fCount, .sl 2 (ab GPair.row p0.fPairs), .sl 1 (ab aY p0.fItems), .sl 2 (ab GScore.row p0.fScores)]), (4, .v (.b x5)), (100, .v (.sl 2 (ab GScore.row p0.fScores))), (101, .v (.i .i64 (p0.fScores.length : Int))), (102, .v (.i .i64 0))], [[.v (.i .i64 p0.fKind), .v (.s p0.fText), .v (.i .i64 p0.fCount), .own 2 [], .v (.sl 1 (ab aY p0.fItems)), .v (.sl 2 (ab GScore.row p0.fScores))]]⟩ = some (.normal, ⟨[(4, .v (.b x6))], [[.v (.i .i64 p0.fKind), .v (.s p0.fText), .v (.i .i64 p0.fCount), .own 2 [], .v (.sl 1 (ab aY p0.fItems)), .v (.sl 2 (ab GScore.row p0.fScores))]]⟩) := cy (hd_value_Check_1v3 p0 p0.fScores (p0.fScores.length : Int) p0.fKind p0.fText p0.fCount p0.fItems) (ou_value_Check_1v3 p0 p0.fScores (p0.fScores.length : Int) p0.fKind p0.fText p0.fCount p0.fItems) (fun s o hs => sl_value_Check_1v3 C k_value_rank p0 p0.fScores (p0.fScores.length : Int) p0.fKind p0.fText p0.fCount p0.fItems s o hs) h21
    refine aG x6 ?_ ?_
    focus
      intro h22
      replace hF := aq h22 hF
      have hR := Option.some.inj hF
      clear hF
      subst hR
    rotate_left 1
    intro h22
    replace hF := ar h22 hF
    have hR := Option.some.inj hF
    clear hF
    subst hR
  rotate_left 12
  intro h5
  replace hF := ar h5 hF
  unfold value_Check_c10 at hF
  refine aG (p0.fKind == 6) ?_ ?_
  focus
    intro h6
    replace hF := aq h6 hF
    refine aT (cJ p0.fText ByteArray.empty) ?_ ?_
    focus
      intro h7
      replace hF := ar h7 hF
      have hR := Option.some.inj hF
      clear hF
      subst hR
    rotate_left 1
    intro h7
    replace hF := aq h7 hF
    refine aT (p0.fCount == 0) ?_ ?_
    focus
      intro h8
      replace hF := ar h8 hF
      have hR := Option.some.inj hF
      clear hF
      subst hR
    rotate_left 1
    intro h8
    replace hF := aq h8 hF
    have g19 : C.wide 61 [.agg [.v (.i .i64 p0.fKind), .v (.s p0.fText), .v (.i .i64 p0.fCount), .v (.sl 2 (ab GPair.row p0.fPairs)), .v (.sl 1 (ab aY p0.fItems)), .v (.sl 2 [])]] [] = some (.v (.i .i64 (value_elements_v (GValue.mk p0.fKind p0.fText p0.fCount p0.fPairs p0.fItems []))), []) := k_value_elements (GValue.mk p0.fKind p0.fText p0.fCount p0.fPairs p0.fItems []) _ (value_elements_t (GValue.mk p0.fKind p0.fText p0.fCount p0.fPairs p0.fItems []))
    refine aG (decide (0 < (value_elements_v (GValue.mk p0.fKind p0.fText p0.fCount p0.fPairs p0.fItems [])))) ?_ ?_
    focus
      intro h9
      replace hF := aq h9 hF
      have hR := Option.some.inj hF
      clear hF
      subst hR
    rotate_left 1
    intro h9
    replace hF := ar h9 hF
    unfold value_Check_c7 at hF
    have g20 : @cR TT C.wide (evW TT C.wide n28 b28) n28 0 16 ⟨[(1, .rp [.i .i64 p0.fKind, .s p0.fText, .i .i64 p0.fCount, .sl 2 (ab GPair.row p0.fPairs), .sl 1 (ab aY p0.fItems), .sl 2 (ab GScore.row p0.fScores)])], [[.v (.i .i64 p0.fKind), .v (.s p0.fText), .v (.i .i64 p0.fCount), .v (.sl 2 (ab GPair.row p0.fPairs)), .v (.sl 1 (ab aY p0.fItems)), .own 2 []]]⟩ ⟨_⟩ = some (.normal, ⟨[(1, .rp [.i .i64 p0.fKind, .s p0.fText, .i .i64 p0.fCount, .sl 2 (ab GPair.row p0.fPairs), .sl 1 (ab aY p0.fItems), .sl 2 (ab GScore.row p0.fScores)]), (56, .v (.b (ck_value_Check_k16v4_v p0 p0.fKind p0.fText p0.fCount p0.fPairs p0.fItems)))], [[.v (.i .i64 p0.fKind), .v (.s p0.fText), .v (.i .i64 p0.fCount), .v (.sl 2 (ab GPair.row p0.fPairs)), .v (.sl 1 (ab aY p0.fItems)), .own 2 []]]⟩) := rg_value_Check_k16v4 C k_value_elements p0 p0.fKind p0.fText p0.fCount p0.fPairs p0.fItems _ rfl (ck_value_Check_k16v4_v p0 p0.fKind p0.fText p0.fCount p0.fPairs p0.fItems) (ck_value_Check_k16v4_t p0 p0.fKind p0.fText p0.fCount p0.fPairs p0.fItems)
    refine aG (ck_value_Check_k16v4_v p0 p0.fKind p0.fText p0.fCount p0.fPairs p0.fItems) ?_ ?_
    focus
      intro h10
      replace hF := aq h10 hF
      have hR := Option.some.inj hF
      clear hF
      subst hR
    rotate_left 1
    intro h10
    replace hF := ar h10 hF
    have g3 : C.wide 62 [.v (.s p0.fText)] [] = some (.v (.b (value_text_v p0.fText)), []) := k_value_text p0.fText _ (value_text_t p0.fText)
    refine aT (value_text_v p0.fText) ?_ ?_
    focus
      intro h11
      replace hF := ar h11 hF
      have hR := Option.some.inj hF
      clear hF
      subst hR
    rotate_left 1
    intro h11
    replace hF := aq h11 hF
    revert hF
    cases h12 : slices_ContainsFunc_string_string_value_Check_fn1 p0.fItems
    focus
      intro hF
      cases hF
    rename_i x1
    intro hF
    try dsimp only at hF
    have g4 : C.wide 63 [.v (.sl 1 (ab aY p0.fItems)), .clo 64 []] [] = some (.v (.b x1), []) := k_slices_ContainsFunc_string_string_value_Check_fn1 p0.fItems _ h12
    refine aG x1 ?_ ?_
    focus
      intro h13
      replace hF := aq h13 hF
      have hR := Option.some.inj hF
      clear hF
      subst hR
    rotate_left 1
    intro h13
    replace hF := ar h13 hF
    revert hF
    cases h14 : slices_ContainsFunc_Pair_Pair_value_Check_fn2 p0.fPairs
    focus
      intro hF
      cases hF
    rename_i x2
    intro hF
    try dsimp only at hF
    have g5 : C.wide 65 [.v (.sl 2 (ab GPair.row p0.fPairs)), .clo 66 []] [] = some (.v (.b x2), []) := k_slices_ContainsFunc_Pair_Pair_value_Check_fn2 p0.fPairs _ h14
    refine aG x2 ?_ ?_
    focus
      intro h15
      replace hF := aq h15 hF
      have hR := Option.some.inj hF
      clear hF
      subst hR
    rotate_left 1
    intro h15
    replace hF := ar h15 hF
    revert hF
    cases h16 : slices_ContainsFunc_Score_Score_value_Check_fn3 p0.fScores
    focus
      intro hF
      cases hF
    rename_i x3
    intro hF
    try dsimp only at hF
    unfold value_Check_c6 at hF
    have g6 : C.wide 68 [.v (.sl 2 (ab GScore.row p0.fScores)), .clo 69 []] [] = some (.v (.b x3), []) := k_slices_ContainsFunc_Score_Score_value_Check_fn3 p0.fScores _ h16
    refine aG x3 ?_ ?_
    focus
      intro h17
      replace hF := aq h17 hF
      have hR := Option.some.inj hF
      clear hF
      subst hR
    rotate_left 1
    intro h17
    replace hF := ar h17 hF
    have g7 : C.wide 70 [.v (.i .i64 p0.fCount)] [] = some (.v (.b (value_count_v p0.fCount)), []) := k_value_count p0.fCount _ (value_count_t p0.fCount)
    refine aT (value_count_v p0.fCount) ?_ ?_
    focus
      intro h18
      replace hF := ar h18 hF
      have hR := Option.some.inj hF
      clear hF
      subst hR
    rotate_left 1
    intro h18
    replace hF := aq h18 hF
    revert hF
    cases h19 : slices_ContainsFunc_Score_Score_value_Check_fn4 p0.fScores
    focus
      intro hF
      cases hF
    rename_i x4
    intro hF
    try dsimp only at hF
    have g8 : C.wide 68 [.v (.sl 2 (ab GScore.row p0.fScores)), .clo 71 []] [] = some (.v (.b x4), []) := k_slices_ContainsFunc_Score_Score_value_Check_fn4 p0.fScores _ h19
    refine aG x4 ?_ ?_
    focus
      intro h20
      replace hF := aq h20 hF
      have hR := Option.some.inj hF
      clear hF
      subst hR
    rotate_left 1
    intro h20
    replace hF := ar h20 hF
    revert hF
    cases h21 : ck_value_Check_k26v4 p0 p0.fKind p0.fText p0.fCount p0.fPairs p0.fItems
    focus
      intro hF
      cases hF
    rename_i x5
    intro hF
    try dsimp only at hF
    have g21 : @cR TT C.wide (evW TT C.wide n28 b28) n28 0 26 ⟨[(1, .rp [.i .i64 p0.fKind, .s p0.fText, .i .i64 p0.fCount, .sl 2 (ab GPair.row p0.fPairs), .sl 1 (ab aY p0.fItems), .sl 2 (ab GScore.row p0.fScores)])], [[.v (.i .i64 p0.fKind), .v (.s p0.fText), .v (.i .i64 p0.fCount), .v (.sl 2 (ab GPair.row p0.fPairs)), .v (.sl 1 (ab aY p0.fItems)), .own 2 []]]⟩ ⟨_⟩ = some (.normal, ⟨[(1, .rp [.i .i64 p0.fKind, .s p0.fText, .i .i64 p0.fCount, .sl 2 (ab GPair.row p0.fPairs), .sl 1 (ab aY p0.fItems), .sl 2 (ab GScore.row p0.fScores)]), (4, .v (.b x5))], [[.v (.i .i64 p0.fKind), .v (.s p0.fText), .v (.i .i64 p0.fCount), .v (.sl 2 (ab GPair.row p0.fPairs)), .v (.sl 1 (ab aY p0.fItems)), .own 2 []]]⟩) := rg_value_Check_k26v4 C k_value_rising_Pair_value_byField k_value_rising_Score_value_byScore k_value_rising_string_strings_Compare p0 p0.fKind p0.fText p0.fCount p0.fPairs p0.fItems _ rfl _ h21
    revert hF
    cases h22 : ci (st_value_Check_1v4 p0 p0.fScores (p0.fScores.length : Int) p0.fKind p0.fText p0.fCount p0.fPairs p0.fItems) (x5, 0)
    focus
      intro hF
      cases hF
    rename_i qh22
    revert qh22
    intro x6 h22
    intro hF
    try dsimp only at hF
    have g22 : evW TT C.wide n28 b28 1 ⟨[(1, .rp [.i .i64 p0.fKind, .s p0.fText, .i .i64 p0.fCount, .sl 2 (ab GPair.row p0.fPairs), .sl 1 (ab aY p0.fItems), .sl 2 (ab GScore.row p0.fScores)]), (4, .v (.b x5)), (100, .v (.sl 2 (ab GScore.row p0.fScores))), (101, .v (.i .i64 (p0.fScores.length : Int))), (102, .v (.i .i64 0))], [[.v (.i .i64 p0.fKind), .v (.s p0.fText), .v (.i .i64 p0.fCount), .v (.sl 2 (ab GPair.row p0.fPairs)), .v (.sl 1 (ab aY p0.fItems)), .own 2 []]]⟩ = some (.normal, ⟨[(4, .v (.b x6))], [[.v (.i .i64 p0.fKind), .v (.s p0.fText), .v (.i .i64 p0.fCount), .v (.sl 2 (ab GPair.row p0.fPairs)), .v (.sl 1 (ab aY p0.fItems)), .own 2 []]]⟩) := cy (hd_value_Check_1v4 p0 p0.fScores (p0.fScores.length : Int) p0.fKind p0.fText p0.fCount p0.fPairs p0.fItems) (ou_value_Check_1v4 p0 p0.fScores (p0.fScores.length : Int) p0.fKind p0.fText p0.fCount p0.fPairs p0.fItems) (fun s o hs => sl_value_Check_1v4 C k_value_rank p0 p0.fScores (p0.fScores.length : Int) p0.fKind p0.fText p0.fCount p0.fPairs p0.fItems s o hs) h22
    refine aG x6 ?_ ?_
    focus
      intro h23
      replace hF := aq h23 hF
      have hR := Option.some.inj hF
      clear hF
      subst hR
    rotate_left 1
    intro h23
    replace hF := ar h23 hF
    have hR := Option.some.inj hF
    clear hF
    subst hR
  rotate_left 12
  intro h6
  replace hF := ar h6 hF
  refine aT (cJ p0.fText ByteArray.empty) ?_ ?_
  focus
    intro h7
    replace hF := ar h7 hF
    have hR := Option.some.inj hF
    clear hF
    subst hR
  rotate_left 1
  intro h7
  replace hF := aq h7 hF
  refine aT (p0.fCount == 0) ?_ ?_
  focus
    intro h8
    replace hF := ar h8 hF
    have hR := Option.some.inj hF
    clear hF
    subst hR
  rotate_left 1
  intro h8
  replace hF := aq h8 hF
  have g23 : C.wide 61 [.agg [.v (.i .i64 p0.fKind), .v (.s p0.fText), .v (.i .i64 p0.fCount), .v (.sl 2 (ab GPair.row p0.fPairs)), .v (.sl 1 []), .v (.sl 2 (ab GScore.row p0.fScores))]] [] = some (.v (.i .i64 (value_elements_v (GValue.mk p0.fKind p0.fText p0.fCount p0.fPairs [] p0.fScores))), []) := k_value_elements (GValue.mk p0.fKind p0.fText p0.fCount p0.fPairs [] p0.fScores) _ (value_elements_t (GValue.mk p0.fKind p0.fText p0.fCount p0.fPairs [] p0.fScores))
  refine aG (decide (0 < (value_elements_v (GValue.mk p0.fKind p0.fText p0.fCount p0.fPairs [] p0.fScores)))) ?_ ?_
  focus
    intro h9
    replace hF := aq h9 hF
    have hR := Option.some.inj hF
    clear hF
    subst hR
  rotate_left 1
  intro h9
  replace hF := ar h9 hF
  unfold value_Check_c9 at hF
  have g24 : @cR TT C.wide (evW TT C.wide n28 b28) n28 0 16 ⟨[(1, .rp [.i .i64 p0.fKind, .s p0.fText, .i .i64 p0.fCount, .sl 2 (ab GPair.row p0.fPairs), .sl 1 (ab aY p0.fItems), .sl 2 (ab GScore.row p0.fScores)])], [[.v (.i .i64 p0.fKind), .v (.s p0.fText), .v (.i .i64 p0.fCount), .v (.sl 2 (ab GPair.row p0.fPairs)), .own 1 [], .v (.sl 2 (ab GScore.row p0.fScores))]]⟩ ⟨_⟩ = some (.normal, ⟨[(1, .rp [.i .i64 p0.fKind, .s p0.fText, .i .i64 p0.fCount, .sl 2 (ab GPair.row p0.fPairs), .sl 1 (ab aY p0.fItems), .sl 2 (ab GScore.row p0.fScores)]), (56, .v (.b (ck_value_Check_k16v5_v p0 p0.fKind p0.fText p0.fCount p0.fPairs p0.fScores)))], [[.v (.i .i64 p0.fKind), .v (.s p0.fText), .v (.i .i64 p0.fCount), .v (.sl 2 (ab GPair.row p0.fPairs)), .own 1 [], .v (.sl 2 (ab GScore.row p0.fScores))]]⟩) := rg_value_Check_k16v5 C k_value_elements p0 p0.fKind p0.fText p0.fCount p0.fPairs p0.fScores _ rfl (ck_value_Check_k16v5_v p0 p0.fKind p0.fText p0.fCount p0.fPairs p0.fScores) (ck_value_Check_k16v5_t p0 p0.fKind p0.fText p0.fCount p0.fPairs p0.fScores)
  refine aG (ck_value_Check_k16v5_v p0 p0.fKind p0.fText p0.fCount p0.fPairs p0.fScores) ?_ ?_
  focus
    intro h10
    replace hF := aq h10 hF
    have hR := Option.some.inj hF
    clear hF
    subst hR
  rotate_left 1
  intro h10
  replace hF := ar h10 hF
  have g3 : C.wide 62 [.v (.s p0.fText)] [] = some (.v (.b (value_text_v p0.fText)), []) := k_value_text p0.fText _ (value_text_t p0.fText)
  refine aT (value_text_v p0.fText) ?_ ?_
  focus
    intro h11
    replace hF := ar h11 hF
    have hR := Option.some.inj hF
    clear hF
    subst hR
  rotate_left 1
  intro h11
  replace hF := aq h11 hF
  revert hF
  cases h12 : slices_ContainsFunc_string_string_value_Check_fn1 p0.fItems
  focus
    intro hF
    cases hF
  rename_i x1
  intro hF
  try dsimp only at hF
  have g4 : C.wide 63 [.v (.sl 1 (ab aY p0.fItems)), .clo 64 []] [] = some (.v (.b x1), []) := k_slices_ContainsFunc_string_string_value_Check_fn1 p0.fItems _ h12
  refine aG x1 ?_ ?_
  focus
    intro h13
    replace hF := aq h13 hF
    have hR := Option.some.inj hF
    clear hF
    subst hR
  rotate_left 1
  intro h13
  replace hF := ar h13 hF
  revert hF
  cases h14 : slices_ContainsFunc_Pair_Pair_value_Check_fn2 p0.fPairs
  focus
    intro hF
    cases hF
  rename_i x2
  intro hF
  try dsimp only at hF
  have g5 : C.wide 65 [.v (.sl 2 (ab GPair.row p0.fPairs)), .clo 66 []] [] = some (.v (.b x2), []) := k_slices_ContainsFunc_Pair_Pair_value_Check_fn2 p0.fPairs _ h14
  refine aG x2 ?_ ?_
  focus
    intro h15
    replace hF := aq h15 hF
    have hR := Option.some.inj hF
    clear hF
    subst hR
  rotate_left 1
  intro h15
  replace hF := ar h15 hF
  revert hF
  cases h16 : slices_ContainsFunc_Score_Score_value_Check_fn3 p0.fScores
  focus
    intro hF
    cases hF
  rename_i x3
  intro hF
  try dsimp only at hF
  unfold value_Check_c8 at hF
  have g6 : C.wide 68 [.v (.sl 2 (ab GScore.row p0.fScores)), .clo 69 []] [] = some (.v (.b x3), []) := k_slices_ContainsFunc_Score_Score_value_Check_fn3 p0.fScores _ h16
  refine aG x3 ?_ ?_
  focus
    intro h17
    replace hF := aq h17 hF
    have hR := Option.some.inj hF
    clear hF
    subst hR
  rotate_left 1
  intro h17
  replace hF := ar h17 hF
  have g7 : C.wide 70 [.v (.i .i64 p0.fCount)] [] = some (.v (.b (value_count_v p0.fCount)), []) := k_value_count p0.fCount _ (value_count_t p0.fCount)
  refine aT (value_count_v p0.fCount) ?_ ?_
  focus
    intro h18
    replace hF := ar h18 hF
    have hR := Option.some.inj hF
    clear hF
    subst hR
  rotate_left 1
  intro h18
  replace hF := aq h18 hF
  revert hF
  cases h19 : slices_ContainsFunc_Score_Score_value_Check_fn4 p0.fScores
  focus
    intro hF
    cases hF
  rename_i x4
  intro hF
  try dsimp only at hF
  have g8 : C.wide 68 [.v (.sl 2 (ab GScore.row p0.fScores)), .clo 71 []] [] = some (.v (.b x4), []) := k_slices_ContainsFunc_Score_Score_value_Check_fn4 p0.fScores _ h19
  refine aG x4 ?_ ?_
  focus
    intro h20
    replace hF := aq h20 hF
    have hR := Option.some.inj hF
    clear hF
    subst hR
  rotate_left 1
  intro h20
  replace hF := ar h20 hF
  revert hF
  cases h21 : ck_value_Check_k26v5 p0 p0.fKind p0.fText p0.fCount p0.fPairs p0.fScores
  focus
    intro hF
    cases hF
  rename_i x5
  intro hF
  try dsimp only at hF
  have g25 : @cR TT C.wide (evW TT C.wide n28 b28) n28 0 26 ⟨[(1, .rp [.i .i64 p0.fKind, .s p0.fText, .i .i64 p0.fCount, .sl 2 (ab GPair.row p0.fPairs), .sl 1 (ab aY p0.fItems), .sl 2 (ab GScore.row p0.fScores)])], [[.v (.i .i64 p0.fKind), .v (.s p0.fText), .v (.i .i64 p0.fCount), .v (.sl 2 (ab GPair.row p0.fPairs)), .own 1 [], .v (.sl 2 (ab GScore.row p0.fScores))]]⟩ ⟨_⟩ = some (.normal, ⟨[(1, .rp [.i .i64 p0.fKind, .s p0.fText, .i .i64 p0.fCount, .sl 2 (ab GPair.row p0.fPairs), .sl 1 (ab aY p0.fItems), .sl 2 (ab GScore.row p0.fScores)]), (4, .v (.b x5))], [[.v (.i .i64 p0.fKind), .v (.s p0.fText), .v (.i .i64 p0.fCount), .v (.sl 2 (ab GPair.row p0.fPairs)), .own 1 [], .v (.sl 2 (ab GScore.row p0.fScores))]]⟩) := rg_value_Check_k26v5 C k_value_rising_Pair_value_byField k_value_rising_Score_value_byScore k_value_rising_string_strings_Compare p0 p0.fKind p0.fText p0.fCount p0.fPairs p0.fScores _ rfl _ h21
  revert hF
  cases h22 : ci (st_value_Check_1v5 p0 p0.fScores (p0.fScores.length : Int) p0.fKind p0.fText p0.fCount p0.fPairs) (x5, 0)
  focus
    intro hF
    cases hF
  rename_i qh22
  revert qh22
  intro x6 h22
  intro hF
  try dsimp only at hF
  have g26 : evW TT C.wide n28 b28 1 ⟨[(1, .rp [.i .i64 p0.fKind, .s p0.fText, .i .i64 p0.fCount, .sl 2 (ab GPair.row p0.fPairs), .sl 1 (ab aY p0.fItems), .sl 2 (ab GScore.row p0.fScores)]), (4, .v (.b x5)), (100, .v (.sl 2 (ab GScore.row p0.fScores))), (101, .v (.i .i64 (p0.fScores.length : Int))), (102, .v (.i .i64 0))], [[.v (.i .i64 p0.fKind), .v (.s p0.fText), .v (.i .i64 p0.fCount), .v (.sl 2 (ab GPair.row p0.fPairs)), .own 1 [], .v (.sl 2 (ab GScore.row p0.fScores))]]⟩ = some (.normal, ⟨[(4, .v (.b x6))], [[.v (.i .i64 p0.fKind), .v (.s p0.fText), .v (.i .i64 p0.fCount), .v (.sl 2 (ab GPair.row p0.fPairs)), .own 1 [], .v (.sl 2 (ab GScore.row p0.fScores))]]⟩) := cy (hd_value_Check_1v5 p0 p0.fScores (p0.fScores.length : Int) p0.fKind p0.fText p0.fCount p0.fPairs) (ou_value_Check_1v5 p0 p0.fScores (p0.fScores.length : Int) p0.fKind p0.fText p0.fCount p0.fPairs) (fun s o hs => sl_value_Check_1v5 C k_value_rank p0 p0.fScores (p0.fScores.length : Int) p0.fKind p0.fText p0.fCount p0.fPairs s o hs) h22
  refine aG x6 ?_ ?_
  focus
    intro h23
    replace hF := aq h23 hF
    have hR := Option.some.inj hF
    clear hF
    subst hR
  rotate_left 1
  intro h23
  replace hF := ar h23 hF
  have hR := Option.some.inj hF
  clear hF
  subst hR
  all_goals (rw [ba]; show cp _ _ _ (aH _ _ _ _ (Code.seq _ _) _) = _; simp (maxSteps := 4000000) only [*, res28, n28a14t, n28a14f, n28a19t, n28a19f, n28a22t, n28a22f, n28a25t, n28a25f, n28a28t, n28a28f, n28a43t, n28a43f, n28a56t, n28a56f, n28a65t, n28a65f, n28a68t, n28a68f, n28a71t, n28a71f, n28a80t, n28a80f, n28a120t, n28a120f, n28k0, n28k1, n28k2, n28k3, n28k4, n28k5, n28k6, n28k7, n28k8, n28k9, n28k10, n28k11, n28k12, n28k13, n28k14, n28k15, n28k17, n28k18, n28k19, n28k20, n28k21, n28k22, n28k23, n28k24, n28k25, n28k27, n28k32, n28k33, n28k34, n28ro, n28mv, ↓RP, RB, ↓ah, enter, aW, aC, aZ, be, aM, Mx.bw, opnd, Mx.bF, Nat.reduceBEq, bK, Mx.fit, bI, bY, toVs, cellsOf, toV, aO, aB, ax, Mx.put, ofConst, ofCell, Mx.prune, killB, killBs, aK, putDst, au, aD, loadAt, bM, List.map, Nat.reduceAdd, cm, cn, cg, az, bn, bq, co, bN, bD, aL, lowC, forceAll, kill, lend, lendA, aS, ay, bL, bare, bQ, bB, setCells, Nat.reduceLeDiff, newB, ch, ck, cj, bne, ↓aj, ↓ai, bc, aP, ty3, ty4, ty9, ty25, ty49, ty50, ty51, ty53, ↓aa _ _ _ _ 0, ↓aa _ _ _ _ 1, ↓aa _ _ _ _ 2, ↓aa _ _ _ _ 3, ↓aa _ _ _ _ 4, ↓aa _ _ _ _ 6, ↓aa _ _ _ _ 7, ↓aa _ _ _ _ 8, ↓aa _ _ _ _ 9, ↓aa _ _ _ _ 10, ↓aa _ _ _ _ 11, ↓aa _ _ _ _ 12, ↓aa _ _ _ _ 13, ↓aa _ _ _ _ 5, ↓aa _ _ _ _ 14, ↓aa _ _ _ _ 15, ↓bC _ _ _ _ 16, ↓aa _ _ _ _ 17, ↓aa _ _ _ _ 18, ↓aa _ _ _ _ 19, ↓aa _ _ _ _ 20, ↓aa _ _ _ _ 21, ↓aa _ _ _ _ 22, ↓aa _ _ _ _ 23, ↓aa _ _ _ _ 24, ↓aa _ _ _ _ 25, ↓bC _ _ _ _ 26, ↓aa _ _ _ _ 27, ↓aa _ _ _ _ 32, ↓aa _ _ _ _ 33, ↓aa _ _ _ _ 34])
def n34 : cC where
  keep := fun i => match i with
    | 0 => [1]
    | 1 => [1, 18]
    | 2 => [2]
    | 3 => [1, 20, 21, 22]
    | 4 => [1, 20, 21, 22, 23]
    | 5 => [1, 3, 4, 20, 21, 22]
    | 6 => [1, 4, 20, 21, 22, 58]
    | 7 => [2]
    | 8 => [1, 20, 21, 22, 73]
    | 9 => [2]
    | 10 => [1, 20, 21, 22]
    | 11 => [2]
    | _ => []
  ro := fun t => t == 1
  mv := fun _ => false
  give := fun _ => false
  free := fun i => match i with | 6 => [(20, 22), (21, 22), (20, 23), (21, 23), (20, 27), (21, 27), (22, 27), (23, 27), (24, 27), (25, 27), (26, 27), (20, 28), (21, 28), (22, 28), (23, 28), (24, 28), (25, 28), (26, 28)] | _ => []
  alive := fun i x => match i, x with
    | 18, true => some []
    | 18, false => some [1]
    | 23, true => some [1, 20, 21, 22]
    | 23, false => some []
    | 58, true => some []
    | 58, false => some [1, 4, 20, 21, 22]
    | 73, true => some []
    | 73, false => some [1, 20, 21, 22]
    | _, _ => none
theorem n34a18t (e : Env) (S : aA) : aw n34 18 true ⟨e, S⟩ = ⟨prune [] e, S⟩ := rfl
theorem n34a18f (e : Env) (S : aA) : aw n34 18 false ⟨e, S⟩ = ⟨prune [1] e, S⟩ := rfl
theorem n34a23t (e : Env) (S : aA) : aw n34 23 true ⟨e, S⟩ = ⟨prune [1, 20, 21, 22] e, S⟩ := rfl
theorem n34a23f (e : Env) (S : aA) : aw n34 23 false ⟨e, S⟩ = ⟨prune [] e, S⟩ := rfl
theorem n34a58t (e : Env) (S : aA) : aw n34 58 true ⟨e, S⟩ = ⟨prune [] e, S⟩ := rfl
theorem n34a58f (e : Env) (S : aA) : aw n34 58 false ⟨e, S⟩ = ⟨prune [1, 4, 20, 21, 22] e, S⟩ := rfl
theorem n34a73t (e : Env) (S : aA) : aw n34 73 true ⟨e, S⟩ = ⟨prune [] e, S⟩ := rfl
theorem n34a73f (e : Env) (S : aA) : aw n34 73 false ⟨e, S⟩ = ⟨prune [1, 20, 21, 22] e, S⟩ := rfl
theorem n34k0 : n34.keep 0 = [1] := rfl
theorem n34k1 : n34.keep 1 = [1, 18] := rfl
theorem n34k2 : n34.keep 2 = [2] := rfl
theorem n34k3 : n34.keep 3 = [1, 20, 21, 22] := rfl
theorem n34k4 : n34.keep 4 = [1, 20, 21, 22, 23] := rfl
theorem n34k5 : n34.keep 5 = [1, 3, 4, 20, 21, 22] := rfl
theorem n34k6 : n34.keep 6 = [1, 4, 20, 21, 22, 58] := rfl
theorem n34k7 : n34.keep 7 = [2] := rfl
theorem n34k8 : n34.keep 8 = [1, 20, 21, 22, 73] := rfl
theorem n34k9 : n34.keep 9 = [2] := rfl
theorem n34k10 : n34.keep 10 = [1, 20, 21, 22] := rfl
theorem n34k11 : n34.keep 11 = [2] := rfl
theorem n34ro (t : Nat) : n34.ro t = (t == 1) := rfl
theorem n34mv (t : Nat) : n34.mv t = (false) := rfl
theorem n34f6 : n34.free 6 = [(20, 22), (21, 22), (20, 23), (21, 23), (20, 27), (21, 27), (22, 27), (23, 27), (24, 27), (25, 27), (26, 27), (20, 28), (21, 28), (22, 28), (23, 28), (24, 28), (25, 28), (26, 28)] := rfl
theorem res34 : Try.f34.results.toList = [.tmp 2] := rfl
noncomputable def b34 : Code := aQ Try.f34
noncomputable def c34_0 : Code := (bz 0 (aQ Try.f34)).getD .skip
theorem fl34_0 : bz 0 b34 = some c34_0 := rfl
theorem rg_store_Check_k1 (C : ak)  (p0 : GStore) (c : Code) (ho : cr 0 1 b34 = some c) (r : Bool) (hF : ck_store_Check_k1 p0 = some r) : aH TT C.wide (evW TT C.wide n34 b34) n34 c ⟨[(1, .rp [.i .i64 p0.fNow, .sl 8 (ab GEntry.row p0.fEntries)])], []⟩ = some (.normal, ⟨[(1, .rp [.i .i64 p0.fNow, .sl 8 (ab GEntry.row p0.fEntries)]), (18, .v (.b r))], []⟩) := by
  have e := Option.some.inj (ho.symm.trans (rfl : cr 0 1 b34 = some _))
  subst e
  clear ho
  unfold ck_store_Check_k1 at hF
  refine aG (decide (p0.fNow < 0)) ?_ ?_
  focus
    intro h1
    replace hF := aq h1 hF
    cases hF
  rotate_left 1
  intro h1
  replace hF := ar h1 hF
  refine aG (decide (1073741824 < p0.fNow)) ?_ ?_
  focus
    intro h2
    replace hF := aq h2 hF
    cases hF
  rotate_left 1
  intro h2
  replace hF := ar h2 hF
  cases hF
  all_goals (simp (maxSteps := 4000000) only [*, n34k1, n34mv, ↓RP, RB, aW, aC, aZ, Mx.bw, opnd, Mx.bF, Nat.reduceBEq, bK, aO, aB, ax, Mx.put, ofConst, ofCell, Mx.prune, killB, aK, putDst, au, aD, loadAt, bM, List.map, cm, cn, cg, ck, cj, bc, ty3, ty61, ty63, ↓aa _ _ _ _ 1])
theorem rg_store_Check_k6v2 (C : ak) (k_value_Check : K_value_Check C) (p0 : GStore) (p1 : Int) (p2 : List GEntry) (p3 : Int) (p4 : GEntry) (c : Code) (ho : cr 0 6 b34 = some c) (r : Bool) (hF : ck_store_Check_k6v2 p0 p1 p2 p3 p4 = some r) : aH TT C.wide (evW TT C.wide n34 b34) n34 c ⟨[(1, .rp [.i .i64 p0.fNow, .sl 8 (ab GEntry.row p0.fEntries)]), (3, .v (.i .i64 p1)), (4, .ptr 0 0), (20, .v (.sl 8 (ab GEntry.row p2))), (21, .v (.i .i64 p3)), (22, .v (.i .i64 p1))], [[.v (.s p4.fKey), .v (.i .i64 p4.fValue.fKind), .v (.s p4.fValue.fText), .v (.i .i64 p4.fValue.fCount), .v (.sl 2 (ab GPair.row p4.fValue.fPairs)), .v (.sl 1 (ab aY p4.fValue.fItems)), .v (.sl 2 (ab GScore.row p4.fValue.fScores)), .v (.i .i64 p4.fUntil)]]⟩ = some (.normal, ⟨[(1, .rp [.i .i64 p0.fNow, .sl 8 (ab GEntry.row p0.fEntries)]), (4, .ptr 0 0), (20, .v (.sl 8 (ab GEntry.row p2))), (21, .v (.i .i64 p3)), (22, .v (.i .i64 p1)), (58, .v (.b r))], [[.v (.s p4.fKey), .v (.i .i64 p4.fValue.fKind), .v (.s p4.fValue.fText), .v (.i .i64 p4.fValue.fCount), .v (.sl 2 (ab GPair.row p4.fValue.fPairs)), .v (.sl 1 (ab aY p4.fValue.fItems)), .v (.sl 2 (ab GScore.row p4.fValue.fScores)), .v (.i .i64 p4.fUntil)]]⟩) := by
  have e := Option.some.inj (ho.symm.trans (rfl : cr 0 6 b34 = some _))
  subst e
  clear ho
  unfold ck_store_Check_k6v2 at hF
  refine aG (decide ((p4.fKey.size : Int) < 1)) ?_ ?_
  focus
    intro h1
    replace hF := aq h1 hF
    cases hF
  rotate_left 1
  intro h1
  replace hF := ar h1 hF
  refine aG (decide (12 < (p4.fKey.size : Int))) ?_ ?_
  focus
    intro h2
    replace hF := aq h2 hF
    cases hF
  rotate_left 1
  intro h2
  replace hF := ar h2 hF
  revert hF
  cases h3 : value_Check p4.fValue
  focus
    intro hF
    cases hF
  rename_i x1
  intro hF
  try dsimp only at hF
  have g1 : C.wide 28 [.agg [.v (.i .i64 p4.fValue.fKind), .v (.s p4.fValue.fText), .v (.i .i64 p4.fValue.fCount), .v (.sl 2 (ab GPair.row p4.fValue.fPairs)), .v (.sl 1 (ab aY p4.fValue.fItems)), .v (.sl 2 (ab GScore.row p4.fValue.fScores))]] [] = some (.v (.i .i64 x1), []) := k_value_Check p4.fValue _ h3
  refine aT (x1 == 0) ?_ ?_
  focus
    intro h4
    replace hF := ar h4 hF
    cases hF
  rotate_left 1
  intro h4
  replace hF := aq h4 hF
  refine aT (decide (0 < p1)) ?_ ?_
  focus
    intro h5
    replace hF := ar h5 hF
    cases hF
  rotate_left 1
  intro h5
  replace hF := aq h5 hF
  revert hF
  cases h6 : idx p0.fEntries (IntKind.i64.wrap (p1 - 1))
  focus
    intro hF
    cases hF
  rename_i x2
  intro hF
  try dsimp only at hF
  have g2 : decide (0 ≤ (IntKind.i64.wrap (p1 - 1))) = true := (cc h6).1
  have g3 : (ab GEntry.row p0.fEntries)[((IntKind.i64.wrap (p1 - 1)) : Int).toNat]? = some [.s x2.fKey, .i .i64 x2.fValue.fKind, .s x2.fValue.fText, .i .i64 x2.fValue.fCount, .sl 2 (ab GPair.row x2.fValue.fPairs), .sl 1 (ab aY x2.fValue.fItems), .sl 2 (ab GScore.row x2.fValue.fScores), .i .i64 x2.fUntil] := ca _ h6
  cases hF
  all_goals (simp (maxSteps := 4000000) only [*, n34k6, n34f6, n34mv, ↓RP, RB, aW, aC, aZ, Mx.bw, opnd, Mx.bF, Nat.reduceBEq, bK, aO, aB, ax, Mx.put, ofConst, ofCell, Mx.prune, killB, aK, putDst, au, aD, loadAt, bM, List.map, Nat.reduceAdd, cm, cn, cg, forceAll, bg, lend, lendA, aS, ay, bL, bare, bQ, bB, Nat.reduceSub, fineK, aJ, aX, bX, bE, ce, bV, bk, aI, bh, Op.operands, newB, ch, ck, cj, bne, bc, aP, bm, Call.operands, ty9, ty53, ty61, ty63, ty117, ↓am _ _ _ _ 6])
theorem rg_store_Check_k8v2 (C : ak)  (p0 : GStore) (p1 : List GEntry) (p2 : Int) (p3 : Int) (p4 : GEntry) (c : Code) (ho : cr 0 8 b34 = some c) (r : Bool) (hF : ck_store_Check_k8v2 p0 p1 p2 p3 p4 = some r) : aH TT C.wide (evW TT C.wide n34 b34) n34 c ⟨[(1, .rp [.i .i64 p0.fNow, .sl 8 (ab GEntry.row p0.fEntries)]), (4, .ptr 0 0), (20, .v (.sl 8 (ab GEntry.row p1))), (21, .v (.i .i64 p2)), (22, .v (.i .i64 p3))], [[.v (.s p4.fKey), .v (.i .i64 p4.fValue.fKind), .v (.s p4.fValue.fText), .v (.i .i64 p4.fValue.fCount), .v (.sl 2 (ab GPair.row p4.fValue.fPairs)), .v (.sl 1 (ab aY p4.fValue.fItems)), .v (.sl 2 (ab GScore.row p4.fValue.fScores)), .v (.i .i64 p4.fUntil)]]⟩ = some (.normal, ⟨[(1, .rp [.i .i64 p0.fNow, .sl 8 (ab GEntry.row p0.fEntries)]), (20, .v (.sl 8 (ab GEntry.row p1))), (21, .v (.i .i64 p2)), (22, .v (.i .i64 p3)), (73, .v (.b r))], [[.v (.s p4.fKey), .v (.i .i64 p4.fValue.fKind), .v (.s p4.fValue.fText), .v (.i .i64 p4.fValue.fCount), .v (.sl 2 (ab GPair.row p4.fValue.fPairs)), .v (.sl 1 (ab aY p4.fValue.fItems)), .v (.sl 2 (ab GScore.row p4.fValue.fScores)), .v (.i .i64 p4.fUntil)]]⟩) := by
  have e := Option.some.inj (ho.symm.trans (rfl : cr 0 8 b34 = some _))
  subst e
  clear ho
  unfold ck_store_Check_k8v2 at hF
  refine aG (p4.fUntil == 0) ?_ ?_
  focus
    intro h1
    replace hF := aq h1 hF
    cases hF
  rotate_left 1
  intro h1
  replace hF := ar h1 hF
  refine aG (decide (p4.fUntil ≤ p0.fNow)) ?_ ?_
  focus
    intro h2
    replace hF := aq h2 hF
    cases hF
  rotate_left 1
  intro h2
  replace hF := ar h2 hF
  cases hF
  all_goals (simp (maxSteps := 4000000) only [*, n34k8, n34mv, ↓RP, RB, aW, aC, aZ, Mx.bw, opnd, Mx.bF, Nat.reduceBEq, bK, aO, aB, ax, Mx.put, ofConst, ofCell, Mx.prune, killB, aK, putDst, au, aD, loadAt, bM, List.map, cm, cn, ck, cj, bne, bc, ty3, ty63, ty117, ↓aa _ _ _ _ 8])
def hd_store_Check_0 (p0 : GStore) (p1 : List GEntry) (p2 : Int) (s : Int) : St := ⟨[(1, .rp [.i .i64 p0.fNow, .sl 8 (ab GEntry.row p0.fEntries)]), (20, .v (.sl 8 (ab GEntry.row p1))), (21, .v (.i .i64 p2)), (22, .v (.i .i64 s))], []⟩
def ou_store_Check_0 (p0 : GStore) (p1 : List GEntry) (p2 : Int) (r : GEntry ⊕ Unit) : Option (Ex × St) := match r with
  | .inl r => some (.ret, ⟨[(2, .v (.i .i64 13))], [[.v (.s r.fKey), .v (.i .i64 r.fValue.fKind), .v (.s r.fValue.fText), .v (.i .i64 r.fValue.fCount), .v (.sl 2 (ab GPair.row r.fValue.fPairs)), .v (.sl 1 (ab aY r.fValue.fItems)), .v (.sl 2 (ab GScore.row r.fValue.fScores)), .v (.i .i64 r.fUntil)]]⟩)
  | .inr r => some (.normal, ⟨[], []⟩)
theorem sl_store_Check_0 (C : ak) (k_value_Check : K_value_Check C) (p0 : GStore) (p1 : List GEntry) (p2 : Int) (p3 : Int) (o : Int ⊕ (GEntry ⊕ Unit)) (hF : st_store_Check_0 p0 p1 p2 p3 = some o) : evW TT C.wide n34 b34 0 (hd_store_Check_0 p0 p1 p2 p3) = Sum.elim (fun s => evW TT C.wide n34 b34 0 (hd_store_Check_0 p0 p1 p2 s)) (fun r => ou_store_Check_0 p0 p1 p2 r) o := by
  unfold st_store_Check_0 at hF
  try dsimp only at hF
  rw [ct TT n34 fl34_0]
  refine aT (decide (p3 < p2)) ?_ ?_
  focus
    intro h1
    replace hF := ar h1 hF
    cases hF
  rotate_left 1
  intro h1
  replace hF := aq h1 hF
  revert hF
  cases h2 : idx p1 p3
  focus
    intro hF
    cases hF
  rename_i x1
  intro hF
  try dsimp only at hF
  have g1 : decide (0 ≤ p3) = true := (cc h2).1
  have g2 : (ab GEntry.row p1)[(p3 : Int).toNat]? = some [.s x1.fKey, .i .i64 x1.fValue.fKind, .s x1.fValue.fText, .i .i64 x1.fValue.fCount, .sl 2 (ab GPair.row x1.fValue.fPairs), .sl 1 (ab aY x1.fValue.fItems), .sl 2 (ab GScore.row x1.fValue.fScores), .i .i64 x1.fUntil] := ca _ h2
  revert hF
  cases h3 : ck_store_Check_k6v2 p0 p3 p1 p2 x1
  focus
    intro hF
    cases hF
  rename_i x2
  intro hF
  try dsimp only at hF
  have g3 : @cR TT C.wide (evW TT C.wide n34 b34) n34 0 6 ⟨[(1, .rp [.i .i64 p0.fNow, .sl 8 (ab GEntry.row p0.fEntries)]), (3, .v (.i .i64 p3)), (4, .ptr 0 0), (20, .v (.sl 8 (ab GEntry.row p1))), (21, .v (.i .i64 p2)), (22, .v (.i .i64 p3))], [[.v (.s x1.fKey), .v (.i .i64 x1.fValue.fKind), .v (.s x1.fValue.fText), .v (.i .i64 x1.fValue.fCount), .v (.sl 2 (ab GPair.row x1.fValue.fPairs)), .v (.sl 1 (ab aY x1.fValue.fItems)), .v (.sl 2 (ab GScore.row x1.fValue.fScores)), .v (.i .i64 x1.fUntil)]]⟩ ⟨_⟩ = some (.normal, ⟨[(1, .rp [.i .i64 p0.fNow, .sl 8 (ab GEntry.row p0.fEntries)]), (4, .ptr 0 0), (20, .v (.sl 8 (ab GEntry.row p1))), (21, .v (.i .i64 p2)), (22, .v (.i .i64 p3)), (58, .v (.b x2))], [[.v (.s x1.fKey), .v (.i .i64 x1.fValue.fKind), .v (.s x1.fValue.fText), .v (.i .i64 x1.fValue.fCount), .v (.sl 2 (ab GPair.row x1.fValue.fPairs)), .v (.sl 1 (ab aY x1.fValue.fItems)), .v (.sl 2 (ab GScore.row x1.fValue.fScores)), .v (.i .i64 x1.fUntil)]]⟩) := rg_store_Check_k6v2 C k_value_Check p0 p3 p1 p2 x1 _ rfl _ h3
  refine aG x2 ?_ ?_
  focus
    intro h4
    replace hF := aq h4 hF
    cases hF
  rotate_left 1
  intro h4
  replace hF := ar h4 hF
  have g4 : @cR TT C.wide (evW TT C.wide n34 b34) n34 0 8 ⟨[(1, .rp [.i .i64 p0.fNow, .sl 8 (ab GEntry.row p0.fEntries)]), (4, .ptr 0 0), (20, .v (.sl 8 (ab GEntry.row p1))), (21, .v (.i .i64 p2)), (22, .v (.i .i64 p3))], [[.v (.s x1.fKey), .v (.i .i64 x1.fValue.fKind), .v (.s x1.fValue.fText), .v (.i .i64 x1.fValue.fCount), .v (.sl 2 (ab GPair.row x1.fValue.fPairs)), .v (.sl 1 (ab aY x1.fValue.fItems)), .v (.sl 2 (ab GScore.row x1.fValue.fScores)), .v (.i .i64 x1.fUntil)]]⟩ ⟨_⟩ = some (.normal, ⟨[(1, .rp [.i .i64 p0.fNow, .sl 8 (ab GEntry.row p0.fEntries)]), (20, .v (.sl 8 (ab GEntry.row p1))), (21, .v (.i .i64 p2)), (22, .v (.i .i64 p3)), (73, .v (.b (ck_store_Check_k8v2_v p0 p1 p2 p3 x1)))], [[.v (.s x1.fKey), .v (.i .i64 x1.fValue.fKind), .v (.s x1.fValue.fText), .v (.i .i64 x1.fValue.fCount), .v (.sl 2 (ab GPair.row x1.fValue.fPairs)), .v (.sl 1 (ab aY x1.fValue.fItems)), .v (.sl 2 (ab GScore.row x1.fValue.fScores)), .v (.i .i64 x1.fUntil)]]⟩) := rg_store_Check_k8v2 C p0 p1 p2 p3 x1 _ rfl (ck_store_Check_k8v2_v p0 p1 p2 p3 x1) (ck_store_Check_k8v2_t p0 p1 p2 p3 x1)
  refine aG (ck_store_Check_k8v2_v p0 p1 p2 p3 x1) ?_ ?_
  focus
    intro h5
    replace hF := aq h5 hF
    cases hF
  rotate_left 1
  intro h5
  replace hF := ar h5 hF
  cases hF
  all_goals (show cD _ _ _ (aH _ _ _ _ (Code.seq _ _) _) = _; simp (maxSteps := 4000000) only [*, hd_store_Check_0, ou_store_Check_0, n34a23t, n34a23f, n34a58t, n34a58f, n34a73t, n34a73f, n34k4, n34k5, n34k7, n34k9, n34k10, n34mv, ↓RP, RB, ↓ah, aZ, be, aM, Mx.bw, opnd, Mx.bF, Nat.reduceBEq, bK, Mx.fit, bI, bY, cellsOf, aO, aB, ax, Mx.put, ofConst, ofCell, Mx.prune, killB, killBs, aK, putDst, au, loadAt, bM, List.map, Nat.reduceAdd, cm, cn, bD, aL, lowC, bg, kill, bB, setCells, Nat.reduceLeDiff, lowA, bi, ck, cj, bne, ↓aj, ↓ai, ty3, ty25, ty61, ty117, ↓aa _ _ _ _ 4, ↓aa _ _ _ _ 5, ↓bC _ _ _ _ 6, ↓aa _ _ _ _ 7, ↓bC _ _ _ _ 8, ↓aa _ _ _ _ 9, ↓aa _ _ _ _ 10])
theorem r_store_Check (C : ak) (k_value_Check : K_value_Check C) (p0 : GStore) (r : Int) (hF : store_Check p0 = some r) : cF TT C.wide (evW TT C.wide n34 b34) n34 Try.f34.results.toList (aQ Try.f34) [.agg [.v (.i .i64 p0.fNow), .v (.sl 8 (ab GEntry.row p0.fEntries))]] [] = some (.v (.i .i64 r), []) := by
  unfold store_Check at hF
  have g1 : @cR TT C.wide (evW TT C.wide n34 b34) n34 0 1 ⟨[(1, .rp [.i .i64 p0.fNow, .sl 8 (ab GEntry.row p0.fEntries)])], []⟩ ⟨_⟩ = some (.normal, ⟨[(1, .rp [.i .i64 p0.fNow, .sl 8 (ab GEntry.row p0.fEntries)]), (18, .v (.b (ck_store_Check_k1_v p0)))], []⟩) := rg_store_Check_k1 C p0 _ rfl (ck_store_Check_k1_v p0) (ck_store_Check_k1_t p0)
  refine aG (ck_store_Check_k1_v p0) ?_ ?_
  focus
    intro h1
    replace hF := aq h1 hF
    have hR := Option.some.inj hF
    clear hF
    subst hR
  rotate_left 1
  intro h1
  replace hF := ar h1 hF
  revert hF
  cases h2 : ci (st_store_Check_0 p0 p0.fEntries (p0.fEntries.length : Int)) 0
  focus
    intro hF
    cases hF
  rename_i qh2
  cases qh2
  focus
    rename_i z0h2
    revert z0h2
    intro x1 h2
    intro hF
    try dsimp only at hF
    have g2 : evW TT C.wide n34 b34 0 ⟨[(1, .rp [.i .i64 p0.fNow, .sl 8 (ab GEntry.row p0.fEntries)]), (20, .v (.sl 8 (ab GEntry.row p0.fEntries))), (21, .v (.i .i64 (p0.fEntries.length : Int))), (22, .v (.i .i64 0))], []⟩ = some (.ret, ⟨[(2, .v (.i .i64 13))], [[.v (.s x1.fKey), .v (.i .i64 x1.fValue.fKind), .v (.s x1.fValue.fText), .v (.i .i64 x1.fValue.fCount), .v (.sl 2 (ab GPair.row x1.fValue.fPairs)), .v (.sl 1 (ab aY x1.fValue.fItems)), .v (.sl 2 (ab GScore.row x1.fValue.fScores)), .v (.i .i64 x1.fUntil)]]⟩) := cy (hd_store_Check_0 p0 p0.fEntries (p0.fEntries.length : Int)) (ou_store_Check_0 p0 p0.fEntries (p0.fEntries.length : Int)) (fun s o hs => sl_store_Check_0 C k_value_Check p0 p0.fEntries (p0.fEntries.length : Int) s o hs) h2
    have hR := Option.some.inj hF
    clear hF
    subst hR
  rotate_left 1
  rename_i y0h2
  intro hF
  try dsimp only at hF
  have g3 : evW TT C.wide n34 b34 0 ⟨[(1, .rp [.i .i64 p0.fNow, .sl 8 (ab GEntry.row p0.fEntries)]), (20, .v (.sl 8 (ab GEntry.row p0.fEntries))), (21, .v (.i .i64 (p0.fEntries.length : Int))), (22, .v (.i .i64 0))], []⟩ = some (.normal, ⟨[], []⟩) := cy (hd_store_Check_0 p0 p0.fEntries (p0.fEntries.length : Int)) (ou_store_Check_0 p0 p0.fEntries (p0.fEntries.length : Int)) (fun s o hs => sl_store_Check_0 C k_value_Check p0 p0.fEntries (p0.fEntries.length : Int) s o hs) h2
  have hR := Option.some.inj hF
  clear hF
  subst hR
  all_goals (rw [ba]; show cp _ _ _ (aH _ _ _ _ (Code.seq _ _) _) = _; simp (maxSteps := 4000000) only [*, res34, n34a18t, n34a18f, n34k0, n34k2, n34k3, n34k11, n34ro, n34mv, ↓RP, RB, enter, aZ, be, aM, Mx.bw, opnd, Mx.bF, Nat.reduceBEq, bK, Mx.fit, bI, bY, toVs, cellsOf, toV, aO, aB, ax, Mx.put, ofConst, ofCell, Mx.prune, killB, aK, putDst, au, aD, loadAt, bM, List.map, cg, az, bn, bq, co, bN, bD, aL, lowC, ↓aj, ↓ai, ty25, ty61, ty63, ↓aa _ _ _ _ 0, ↓bC _ _ _ _ 1, ↓aa _ _ _ _ 2, ↓aa _ _ _ _ 3, ↓aa _ _ _ _ 11])
def n122 : cC where
  keep := fun i => match i with
    | 0 => [0]
    | 1 => [2]
    | _ => []
  ro := fun _ => false
  mv := fun _ => false
  give := fun _ => false
  free := fun _ => []
theorem n122k0 : n122.keep 0 = [0] := rfl
theorem n122k1 : n122.keep 1 = [2] := rfl
theorem res122 : Try.f122.results.toList = [.tmp 2] := rfl
noncomputable def b122 : Code := aQ Try.f122
theorem r_client_CheckReply_fn1 (C : ak)  (p0 : ByteArray) (r : Bool) (hF : client_CheckReply_fn1 p0 = some r) : cF TT C.wide (evW TT C.wide n122 b122) n122 Try.f122.results.toList (aQ Try.f122) [.v (.s p0)] [] = some (.v (.b r), []) := by
  unfold client_CheckReply_fn1 at hF
  have hR := Option.some.inj hF
  clear hF
  subst hR
  all_goals (rw [ba]; show cp _ _ _ (aH _ _ _ _ (Code.seq _ _) _) = _; simp (maxSteps := 4000000) only [*, res122, n122k0, n122k1, ↓RP, RB, enter, aZ, be, aM, Mx.bw, opnd, Mx.bF, Nat.reduceBEq, bK, Mx.fit, bY, aO, aB, Mx.put, ofConst, ofCell, Mx.prune, killB, aK, putDst, au, List.map, cm, cn, cg, az, bn, bq, co, bN, bD, aL, lowC, ck, cj, ↓aj, ↓aa, ty4, ty9])
def hd_slices_IndexFunc_string_string_client_CheckReply_fn1_0 (p0 : List ByteArray) (p1 : Int) (s : Int) : St := ⟨[(0, .v (.sl 1 (ab aY p0))), (1, .clo 122 []), (7, .v (.i .i64 p1)), (8, .v (.i .i64 s))], []⟩
def ou_slices_IndexFunc_string_string_client_CheckReply_fn1_0 (p0 : List ByteArray) (p1 : Int) (r : Int ⊕ Unit) : Option (Ex × St) := match r with
  | .inl r => some (.ret, ⟨[(4, .v (.i .i64 r))], []⟩)
  | .inr r => some (.normal, ⟨[], []⟩)
theorem sl_slices_IndexFunc_string_string_client_CheckReply_fn1_0 (C : ak) (k_client_CheckReply_fn1 : K_client_CheckReply_fn1 C) (p0 : List ByteArray) (p1 : Int) (p2 : Int) (o : Int ⊕ (Int ⊕ Unit)) (hF : st_slices_IndexFunc_string_string_client_CheckReply_fn1_0 p0 p1 p2 = some o) : evW TT C.wide n108 b108 0 (hd_slices_IndexFunc_string_string_client_CheckReply_fn1_0 p0 p1 p2) = Sum.elim (fun s => evW TT C.wide n108 b108 0 (hd_slices_IndexFunc_string_string_client_CheckReply_fn1_0 p0 p1 s)) (fun r => ou_slices_IndexFunc_string_string_client_CheckReply_fn1_0 p0 p1 r) o := by
  unfold st_slices_IndexFunc_string_string_client_CheckReply_fn1_0 at hF
  try dsimp only at hF
  rw [ct TT n108 fl108_0]
  refine aT (decide (p2 < p1)) ?_ ?_
  focus
    intro h1
    replace hF := ar h1 hF
    cases hF
  rotate_left 1
  intro h1
  replace hF := aq h1 hF
  revert hF
  cases h2 : idx p0 p2
  focus
    intro hF
    cases hF
  rename_i x1
  intro hF
  try dsimp only at hF
  have g1 : decide (0 ≤ p2) = true := (cc h2).1
  have g2 : (ab aY p0)[(p2 : Int).toNat]? = some [.s x1] := ca _ h2
  have g3 : C.wide 122 [.v (.s x1)] [] = some (.v (.b (client_CheckReply_fn1_v x1)), []) := k_client_CheckReply_fn1 x1 _ (client_CheckReply_fn1_t x1)
  refine aG (client_CheckReply_fn1_v x1) ?_ ?_
  focus
    intro h3
    replace hF := aq h3 hF
    cases hF
  rotate_left 1
  intro h3
  replace hF := ar h3 hF
  cases hF
  all_goals (show cD _ _ _ (aH _ _ _ _ (Code.seq _ _) _) = _; simp (maxSteps := 4000000) only [*, hd_slices_IndexFunc_string_string_client_CheckReply_fn1_0, ou_slices_IndexFunc_string_string_client_CheckReply_fn1_0, n108a9t, n108a9f, n108a16t, n108a16f, n108k2, n108k3, n108k4, n108k5, n108k6, n108mv, n108gv, ↓RP, RB, ↓ah, aZ, be, aM, Mx.bw, opnd, Mx.bF, Nat.reduceBEq, bK, Mx.fit, bY, aO, aB, ax, Mx.put, ofConst, ofCell, Mx.prune, killB, killBs, aK, putDst, au, loadAt, bM, List.map, cm, cn, bD, aL, bx, bg, kill, frz, bZ, bo, argE, argsE, ck, cj, ↓aj, ↓ai, ↓aa, ty3, ty9, ty50])
theorem r_slices_IndexFunc_string_string_client_CheckReply_fn1 (C : ak) (k_client_CheckReply_fn1 : K_client_CheckReply_fn1 C) (p0 : List ByteArray) (r : Int) (hF : slices_IndexFunc_string_string_client_CheckReply_fn1 p0 = some r) : cF TT C.wide (evW TT C.wide n108 b108) n108 Try.f108.results.toList (aQ Try.f108) [.v (.sl 1 (ab aY p0)), .clo 122 []] [] = some (.v (.i .i64 r), []) := by
  unfold slices_IndexFunc_string_string_client_CheckReply_fn1 at hF
  revert hF
  cases h1 : ci (st_slices_IndexFunc_string_string_client_CheckReply_fn1_0 p0 (p0.length : Int)) 0
  focus
    intro hF
    cases hF
  rename_i qh1
  cases qh1
  focus
    rename_i z0h1
    revert z0h1
    intro x1 h1
    intro hF
    try dsimp only at hF
    have g1 : evW TT C.wide n108 b108 0 ⟨[(0, .v (.sl 1 (ab aY p0))), (1, .clo 122 []), (7, .v (.i .i64 (p0.length : Int))), (8, .v (.i .i64 0))], []⟩ = some (.ret, ⟨[(4, .v (.i .i64 x1))], []⟩) := cy (hd_slices_IndexFunc_string_string_client_CheckReply_fn1_0 p0 (p0.length : Int)) (ou_slices_IndexFunc_string_string_client_CheckReply_fn1_0 p0 (p0.length : Int)) (fun s o hs => sl_slices_IndexFunc_string_string_client_CheckReply_fn1_0 C k_client_CheckReply_fn1 p0 (p0.length : Int) s o hs) h1
    have hR := Option.some.inj hF
    clear hF
    subst hR
  rotate_left 1
  rename_i y0h1
  intro hF
  try dsimp only at hF
  have g2 : evW TT C.wide n108 b108 0 ⟨[(0, .v (.sl 1 (ab aY p0))), (1, .clo 122 []), (7, .v (.i .i64 (p0.length : Int))), (8, .v (.i .i64 0))], []⟩ = some (.normal, ⟨[], []⟩) := cy (hd_slices_IndexFunc_string_string_client_CheckReply_fn1_0 p0 (p0.length : Int)) (ou_slices_IndexFunc_string_string_client_CheckReply_fn1_0 p0 (p0.length : Int)) (fun s o hs => sl_slices_IndexFunc_string_string_client_CheckReply_fn1_0 C k_client_CheckReply_fn1 p0 (p0.length : Int) s o hs) h1
  have hR := Option.some.inj hF
  clear hF
  subst hR
  all_goals (rw [ba]; show cp _ _ _ (aH _ _ _ _ (Code.seq _ _) _) = _; simp (maxSteps := 4000000) only [*, res108, n108k0, n108k1, n108k7, ↓RP, RB, enter, aZ, be, aM, Mx.bw, opnd, Mx.bF, Nat.reduceBEq, bK, Mx.fit, bY, aO, aB, Mx.put, ofConst, ofCell, Mx.prune, killB, killBs, aK, putDst, au, List.map, cg, az, bn, bq, co, bN, bD, aL, lowC, Int.reduceNeg, ↓aj, ↓aa, ty3, ty50])
theorem r_slices_ContainsFunc_string_string_client_CheckReply_fn1 (C : ak) (k_slices_IndexFunc_string_string_client_CheckReply_fn1 : K_slices_IndexFunc_string_string_client_CheckReply_fn1 C) (p0 : List ByteArray) (r : Bool) (hF : slices_ContainsFunc_string_string_client_CheckReply_fn1 p0 = some r) : cF TT C.wide (evW TT C.wide n63 b63) n63 Try.f63.results.toList (aQ Try.f63) [.v (.sl 1 (ab aY p0)), .clo 122 []] [] = some (.v (.b r), []) := by
  unfold slices_ContainsFunc_string_string_client_CheckReply_fn1 at hF
  revert hF
  cases h1 : slices_IndexFunc_string_string_client_CheckReply_fn1 p0
  focus
    intro hF
    cases hF
  rename_i x1
  intro hF
  try dsimp only at hF
  have g1 : C.wide 108 [.v (.sl 1 (ab aY p0)), .clo 122 []] [] = some (.v (.i .i64 x1), []) := k_slices_IndexFunc_string_string_client_CheckReply_fn1 p0 _ h1
  have hR := Option.some.inj hF
  clear hF
  subst hR
  all_goals (rw [ba]; show cp _ _ _ (aH _ _ _ _ (Code.seq _ _) _) = _; simp (maxSteps := 4000000) only [*, res63, n63k0, n63k1, ↓RP, RB, enter, aZ, be, aM, Mx.bw, opnd, Mx.bF, Nat.reduceBEq, bK, Mx.fit, bY, aO, aB, Mx.put, ofConst, ofCell, Mx.prune, killB, killBs, aK, putDst, au, List.map, cm, cn, az, bn, bq, co, bN, bD, aL, lowC, forceAll, lend, lendA, aS, ay, bL, bare, bQ, newB, ch, ck, cj, ↓aj, ↓aa, ty4])
def n89 : cC where
  keep := fun i => match i with
    | 0 => [1]
    | 1 => [1, 10]
    | 2 => [2]
    | 3 => [1, 20]
    | 4 => [2]
    | 5 => [1, 23]
    | 6 => [2]
    | 7 => [31]
    | 8 => [2]
    | 9 => [2]
    | _ => []
  ro := fun t => t == 1
  mv := fun _ => false
  give := fun _ => false
  free := fun _ => []
  alive := fun i x => match i, x with
    | 10, true => some []
    | 10, false => some [1]
    | 20, true => some []
    | 20, false => some [1]
    | 23, true => some []
    | 23, false => some [1]
    | 31, true => some []
    | 31, false => some []
    | _, _ => none
theorem n89a10t (e : Env) (S : aA) : aw n89 10 true ⟨e, S⟩ = ⟨prune [] e, S⟩ := rfl
theorem n89a10f (e : Env) (S : aA) : aw n89 10 false ⟨e, S⟩ = ⟨prune [1] e, S⟩ := rfl
theorem n89a20t (e : Env) (S : aA) : aw n89 20 true ⟨e, S⟩ = ⟨prune [] e, S⟩ := rfl
theorem n89a20f (e : Env) (S : aA) : aw n89 20 false ⟨e, S⟩ = ⟨prune [1] e, S⟩ := rfl
theorem n89a23t (e : Env) (S : aA) : aw n89 23 true ⟨e, S⟩ = ⟨prune [] e, S⟩ := rfl
theorem n89a23f (e : Env) (S : aA) : aw n89 23 false ⟨e, S⟩ = ⟨prune [1] e, S⟩ := rfl
theorem n89a31t (e : Env) (S : aA) : aw n89 31 true ⟨e, S⟩ = ⟨prune [] e, S⟩ := rfl
theorem n89a31f (e : Env) (S : aA) : aw n89 31 false ⟨e, S⟩ = ⟨prune [] e, S⟩ := rfl
theorem n89k0 : n89.keep 0 = [1] := rfl
theorem n89k1 : n89.keep 1 = [1, 10] := rfl
theorem n89k2 : n89.keep 2 = [2] := rfl
theorem n89k3 : n89.keep 3 = [1, 20] := rfl
theorem n89k4 : n89.keep 4 = [2] := rfl
theorem n89k5 : n89.keep 5 = [1, 23] := rfl
theorem n89k6 : n89.keep 6 = [2] := rfl
theorem n89k7 : n89.keep 7 = [31] := rfl
theorem n89k8 : n89.keep 8 = [2] := rfl
theorem n89k9 : n89.keep 9 = [2] := rfl
theorem n89ro (t : Nat) : n89.ro t = (t == 1) := rfl
theorem n89mv (t : Nat) : n89.mv t = (false) := rfl
theorem res89 : Try.f89.results.toList = [.tmp 2] := rfl
noncomputable def b89 : Code := aQ Try.f89
theorem r_client_CheckReply (C : ak) (k_slices_ContainsFunc_string_string_client_CheckReply_fn1 : K_slices_ContainsFunc_string_string_client_CheckReply_fn1 C) (p0 : GReply) (r : Int) (hF : client_CheckReply p0 = some r) : cF TT C.wide (evW TT C.wide n89 b89) n89 Try.f89.results.toList (aQ Try.f89) [.agg [.v (.i .i64 p0.fCode), .v (.s p0.fText), .v (.i .i64 p0.fN), .v (.sl 1 (ab aY p0.fList))]] [] = some (.v (.i .i64 r), []) := by
  unfold client_CheckReply at hF
  refine aG (decide (p0.fCode < 0)) ?_ ?_
  focus
    intro h1
    replace hF := aq h1 hF
    have hR := Option.some.inj hF
    clear hF
    subst hR
  rotate_left 1
  intro h1
  replace hF := ar h1 hF
  unfold client_CheckReply_c0 at hF
  refine aG (decide (13 < p0.fCode)) ?_ ?_
  focus
    intro h2
    replace hF := aq h2 hF
    have hR := Option.some.inj hF
    clear hF
    subst hR
  rotate_left 1
  intro h2
  replace hF := ar h2 hF
  refine aG (decide (20 < (p0.fText.size : Int))) ?_ ?_
  focus
    intro h3
    replace hF := aq h3 hF
    have hR := Option.some.inj hF
    clear hF
    subst hR
  rotate_left 1
  intro h3
  replace hF := ar h3 hF
  refine aG (decide (20 < (p0.fList.length : Int))) ?_ ?_
  focus
    intro h4
    replace hF := aq h4 hF
    have hR := Option.some.inj hF
    clear hF
    subst hR
  rotate_left 1
  intro h4
  replace hF := ar h4 hF
  revert hF
  cases h5 : slices_ContainsFunc_string_string_client_CheckReply_fn1 p0.fList
  focus
    intro hF
    cases hF
  rename_i x1
  intro hF
  try dsimp only at hF
  have g1 : C.wide 63 [.v (.sl 1 (ab aY p0.fList)), .clo 122 []] [] = some (.v (.b x1), []) := k_slices_ContainsFunc_string_string_client_CheckReply_fn1 p0.fList _ h5
  refine aG x1 ?_ ?_
  focus
    intro h6
    replace hF := aq h6 hF
    have hR := Option.some.inj hF
    clear hF
    subst hR
  rotate_left 1
  intro h6
  replace hF := ar h6 hF
  refine aG (decide (p0.fN < (-1099511627776))) ?_ ?_
  focus
    intro h7
    replace hF := aq h7 hF
    have hR := Option.some.inj hF
    clear hF
    subst hR
  rotate_left 1
  intro h7
  replace hF := ar h7 hF
  refine aG (decide (1099511627776 < p0.fN)) ?_ ?_
  focus
    intro h8
    replace hF := aq h8 hF
    have hR := Option.some.inj hF
    clear hF
    subst hR
  rotate_left 1
  intro h8
  replace hF := ar h8 hF
  have hR := Option.some.inj hF
  clear hF
  subst hR
  all_goals (rw [ba]; show cp _ _ _ (aH _ _ _ _ (Code.seq _ _) _) = _; simp (maxSteps := 4000000) only [*, res89, n89a10t, n89a10f, n89a20t, n89a20f, n89a23t, n89a23f, n89a31t, n89a31f, n89k0, n89k1, n89k2, n89k3, n89k4, n89k5, n89k6, n89k7, n89k8, n89k9, n89ro, n89mv, ↓RP, RB, enter, aW, aC, aZ, be, aM, Mx.bw, opnd, Mx.bF, Nat.reduceBEq, bK, Mx.fit, bI, bY, toVs, cellsOf, toV, aO, aB, ax, Mx.put, ofConst, ofCell, Mx.prune, killB, aK, putDst, au, aD, loadAt, bM, List.map, cm, cn, cg, az, bn, bq, co, bN, bD, aL, lowC, forceAll, lend, lendA, aS, ay, bL, bare, bQ, Int.reduceNeg, newB, ch, ck, cj, ↓aj, ↓ai, ↓aa, bc, ty3, ty9, ty25, ty50, ty128])
def n40 : cC where
  keep := fun i => match i with
    | 0 => [1]
    | 1 => [1, 24]
    | 2 => [2]
    | 3 => [1, 26, 27, 28]
    | 4 => [1, 26, 27, 28, 29]
    | 5 => [1, 3, 4, 26, 27, 28]
    | 6 => [1, 4, 26, 27, 28, 58]
    | 7 => [2]
    | 8 => [1, 26, 27, 28, 85]
    | 9 => [2]
    | 10 => [1, 26, 27, 28]
    | 11 => [2]
    | _ => []
  ro := fun t => t == 1
  mv := fun _ => false
  give := fun _ => false
  free := fun i => match i with | 6 => [(4, 6), (5, 6), (4, 7), (5, 7), (14, 16), (15, 16), (14, 17), (15, 17), (14, 21), (15, 21), (16, 21), (17, 21), (18, 21), (19, 21), (20, 21), (14, 22), (15, 22), (16, 22), (17, 22), (18, 22), (19, 22), (20, 22)] | _ => []
  alive := fun i x => match i, x with
    | 24, true => some []
    | 24, false => some [1]
    | 29, true => some [1, 26, 27, 28]
    | 29, false => some []
    | 58, true => some []
    | 58, false => some [1, 4, 26, 27, 28]
    | 85, true => some []
    | 85, false => some [1, 26, 27, 28]
    | _, _ => none
theorem n40a24t (e : Env) (S : aA) : aw n40 24 true ⟨e, S⟩ = ⟨prune [] e, S⟩ := rfl
theorem n40a24f (e : Env) (S : aA) : aw n40 24 false ⟨e, S⟩ = ⟨prune [1] e, S⟩ := rfl
theorem n40a29t (e : Env) (S : aA) : aw n40 29 true ⟨e, S⟩ = ⟨prune [1, 26, 27, 28] e, S⟩ := rfl
theorem n40a29f (e : Env) (S : aA) : aw n40 29 false ⟨e, S⟩ = ⟨prune [] e, S⟩ := rfl
theorem n40a58t (e : Env) (S : aA) : aw n40 58 true ⟨e, S⟩ = ⟨prune [] e, S⟩ := rfl
theorem n40a58f (e : Env) (S : aA) : aw n40 58 false ⟨e, S⟩ = ⟨prune [1, 4, 26, 27, 28] e, S⟩ := rfl
theorem n40a85t (e : Env) (S : aA) : aw n40 85 true ⟨e, S⟩ = ⟨prune [] e, S⟩ := rfl
theorem n40a85f (e : Env) (S : aA) : aw n40 85 false ⟨e, S⟩ = ⟨prune [1, 26, 27, 28] e, S⟩ := rfl
theorem n40k0 : n40.keep 0 = [1] := rfl
theorem n40k1 : n40.keep 1 = [1, 24] := rfl
theorem n40k2 : n40.keep 2 = [2] := rfl
theorem n40k3 : n40.keep 3 = [1, 26, 27, 28] := rfl
theorem n40k4 : n40.keep 4 = [1, 26, 27, 28, 29] := rfl
theorem n40k5 : n40.keep 5 = [1, 3, 4, 26, 27, 28] := rfl
theorem n40k6 : n40.keep 6 = [1, 4, 26, 27, 28, 58] := rfl
theorem n40k7 : n40.keep 7 = [2] := rfl
theorem n40k8 : n40.keep 8 = [1, 26, 27, 28, 85] := rfl
theorem n40k9 : n40.keep 9 = [2] := rfl
theorem n40k10 : n40.keep 10 = [1, 26, 27, 28] := rfl
theorem n40k11 : n40.keep 11 = [2] := rfl
theorem n40ro (t : Nat) : n40.ro t = (t == 1) := rfl
theorem n40mv (t : Nat) : n40.mv t = (false) := rfl
theorem n40f6 : n40.free 6 = [(4, 6), (5, 6), (4, 7), (5, 7), (14, 16), (15, 16), (14, 17), (15, 17), (14, 21), (15, 21), (16, 21), (17, 21), (18, 21), (19, 21), (20, 21), (14, 22), (15, 22), (16, 22), (17, 22), (18, 22), (19, 22), (20, 22)] := rfl
theorem res40 : Try.f40.results.toList = [.tmp 2] := rfl
noncomputable def b40 : Code := aQ Try.f40
noncomputable def c40_0 : Code := (bz 0 (aQ Try.f40)).getD .skip
theorem fl40_0 : bz 0 b40 = some c40_0 := rfl
theorem rg_client_Check_k1 (C : ak) (k_store_Check : K_store_Check C) (p0 : GMachine) (c : Code) (ho : cr 0 1 b40 = some c) (r : Bool) (hF : ck_client_Check_k1 p0 = some r) : aH TT C.wide (evW TT C.wide n40 b40) n40 c ⟨[(1, .rp [.i .i64 p0.fStore.fNow, .sl 8 (ab GEntry.row p0.fStore.fEntries), .i .i64 p0.fNext, .sl 7 (ab GClient.row p0.fClients)])], []⟩ = some (.normal, ⟨[(1, .rp [.i .i64 p0.fStore.fNow, .sl 8 (ab GEntry.row p0.fStore.fEntries), .i .i64 p0.fNext, .sl 7 (ab GClient.row p0.fClients)]), (24, .v (.b r))], []⟩) := by
  have e := Option.some.inj (ho.symm.trans (rfl : cr 0 1 b40 = some _))
  subst e
  clear ho
  unfold ck_client_Check_k1 at hF
  revert hF
  cases h1 : store_Check p0.fStore
  focus
    intro hF
    cases hF
  rename_i x1
  intro hF
  try dsimp only at hF
  have g1 : C.wide 34 [.agg [.v (.i .i64 p0.fStore.fNow), .v (.sl 8 (ab GEntry.row p0.fStore.fEntries))]] [] = some (.v (.i .i64 x1), []) := k_store_Check p0.fStore _ h1
  refine aT (x1 == 0) ?_ ?_
  focus
    intro h2
    replace hF := ar h2 hF
    cases hF
  rotate_left 1
  intro h2
  replace hF := aq h2 hF
  refine aG (decide (p0.fNext < 1)) ?_ ?_
  focus
    intro h3
    replace hF := aq h3 hF
    cases hF
  rotate_left 1
  intro h3
  replace hF := ar h3 hF
  refine aG (decide (1048577 < p0.fNext)) ?_ ?_
  focus
    intro h4
    replace hF := aq h4 hF
    cases hF
  rotate_left 1
  intro h4
  replace hF := ar h4 hF
  cases hF
  all_goals (simp (maxSteps := 4000000) only [*, n40k1, n40mv, ↓RP, RB, aW, aC, aZ, Mx.bw, opnd, Mx.bF, Nat.reduceBEq, bK, aO, aB, ax, Mx.put, ofConst, ofCell, Mx.prune, killB, aK, putDst, au, aD, loadAt, bM, List.map, Nat.reduceAdd, cm, cn, cg, forceAll, lend, lendA, aS, ay, bL, bare, bQ, newB, ch, ck, cj, bne, bc, ty3, ty63, ty71, ty73, ↓aa _ _ _ _ 1])
theorem rg_client_Check_k6v2 (C : ak)  (p0 : GMachine) (p1 : Int) (p2 : List GClient) (p3 : Int) (p4 : GClient) (c : Code) (ho : cr 0 6 b40 = some c) (r : Bool) (hF : ck_client_Check_k6v2 p0 p1 p2 p3 p4 = some r) : aH TT C.wide (evW TT C.wide n40 b40) n40 c ⟨[(1, .rp [.i .i64 p0.fStore.fNow, .sl 8 (ab GEntry.row p0.fStore.fEntries), .i .i64 p0.fNext, .sl 7 (ab GClient.row p0.fClients)]), (3, .v (.i .i64 p1)), (4, .ptr 0 0), (26, .v (.sl 7 (ab GClient.row p2))), (27, .v (.i .i64 p3)), (28, .v (.i .i64 p1))], [[.v (.i .i64 p4.fId), .v (.i .i64 p4.fSeq), .v (.i .i64 p4.fTime), .v (.i .i64 p4.fReply.fCode), .v (.s p4.fReply.fText), .v (.i .i64 p4.fReply.fN), .v (.sl 1 (ab aY p4.fReply.fList))]]⟩ = some (.normal, ⟨[(1, .rp [.i .i64 p0.fStore.fNow, .sl 8 (ab GEntry.row p0.fStore.fEntries), .i .i64 p0.fNext, .sl 7 (ab GClient.row p0.fClients)]), (4, .ptr 0 0), (26, .v (.sl 7 (ab GClient.row p2))), (27, .v (.i .i64 p3)), (28, .v (.i .i64 p1)), (58, .v (.b r))], [[.v (.i .i64 p4.fId), .v (.i .i64 p4.fSeq), .v (.i .i64 p4.fTime), .v (.i .i64 p4.fReply.fCode), .v (.s p4.fReply.fText), .v (.i .i64 p4.fReply.fN), .v (.sl 1 (ab aY p4.fReply.fList))]]⟩) := by
  have e := Option.some.inj (ho.symm.trans (rfl : cr 0 6 b40 = some _))
  subst e
  clear ho
  unfold ck_client_Check_k6v2 at hF
  refine aG (decide (p4.fId < 1)) ?_ ?_
  focus
    intro h1
    replace hF := aq h1 hF
    cases hF
  rotate_left 1
  intro h1
  replace hF := ar h1 hF
  refine aG (decide (p0.fNext ≤ p4.fId)) ?_ ?_
  focus
    intro h2
    replace hF := aq h2 hF
    cases hF
  rotate_left 1
  intro h2
  replace hF := ar h2 hF
  refine aT (decide (0 < p1)) ?_ ?_
  focus
    intro h3
    replace hF := ar h3 hF
    cases hF
  rotate_left 1
  intro h3
  replace hF := aq h3 hF
  revert hF
  cases h4 : idx p0.fClients (IntKind.i64.wrap (p1 - 1))
  focus
    intro hF
    cases hF
  rename_i x1
  intro hF
  try dsimp only at hF
  have g1 : decide (0 ≤ (IntKind.i64.wrap (p1 - 1))) = true := (cc h4).1
  have g2 : (ab GClient.row p0.fClients)[((IntKind.i64.wrap (p1 - 1)) : Int).toNat]? = some [.i .i64 x1.fId, .i .i64 x1.fSeq, .i .i64 x1.fTime, .i .i64 x1.fReply.fCode, .s x1.fReply.fText, .i .i64 x1.fReply.fN, .sl 1 (ab aY x1.fReply.fList)] := ca _ h4
  cases hF
  all_goals (simp (maxSteps := 4000000) only [*, n40k6, n40f6, n40mv, ↓RP, RB, aW, aC, aZ, Mx.bw, opnd, Mx.bF, Nat.reduceBEq, bK, aO, aB, ax, Mx.put, ofConst, ofCell, Mx.prune, killB, aK, putDst, au, aD, loadAt, bM, List.map, cm, cn, bg, bB, Nat.reduceSub, fineK, aJ, aX, bX, bE, ce, bV, bk, aI, bh, Op.operands, ck, cj, bc, bm, ty3, ty71, ty73, ty130, ↓am _ _ _ _ 6])
theorem rg_client_Check_k8v2 (C : ak) (k_client_CheckReply : K_client_CheckReply C) (p0 : GMachine) (p1 : List GClient) (p2 : Int) (p3 : Int) (p4 : GClient) (c : Code) (ho : cr 0 8 b40 = some c) (r : Bool) (hF : ck_client_Check_k8v2 p0 p1 p2 p3 p4 = some r) : aH TT C.wide (evW TT C.wide n40 b40) n40 c ⟨[(1, .rp [.i .i64 p0.fStore.fNow, .sl 8 (ab GEntry.row p0.fStore.fEntries), .i .i64 p0.fNext, .sl 7 (ab GClient.row p0.fClients)]), (4, .ptr 0 0), (26, .v (.sl 7 (ab GClient.row p1))), (27, .v (.i .i64 p2)), (28, .v (.i .i64 p3))], [[.v (.i .i64 p4.fId), .v (.i .i64 p4.fSeq), .v (.i .i64 p4.fTime), .v (.i .i64 p4.fReply.fCode), .v (.s p4.fReply.fText), .v (.i .i64 p4.fReply.fN), .v (.sl 1 (ab aY p4.fReply.fList))]]⟩ = some (.normal, ⟨[(1, .rp [.i .i64 p0.fStore.fNow, .sl 8 (ab GEntry.row p0.fStore.fEntries), .i .i64 p0.fNext, .sl 7 (ab GClient.row p0.fClients)]), (26, .v (.sl 7 (ab GClient.row p1))), (27, .v (.i .i64 p2)), (28, .v (.i .i64 p3)), (85, .v (.b r))], [[.v (.i .i64 p4.fId), .v (.i .i64 p4.fSeq), .v (.i .i64 p4.fTime), .v (.i .i64 p4.fReply.fCode), .v (.s p4.fReply.fText), .v (.i .i64 p4.fReply.fN), .v (.sl 1 (ab aY p4.fReply.fList))]]⟩) := by
  have e := Option.some.inj (ho.symm.trans (rfl : cr 0 8 b40 = some _))
  subst e
  clear ho
  unfold ck_client_Check_k8v2 at hF
  refine aG (decide (p4.fSeq < 0)) ?_ ?_
  focus
    intro h1
    replace hF := aq h1 hF
    cases hF
  rotate_left 1
  intro h1
  replace hF := ar h1 hF
  refine aG (decide (1048576 < p4.fSeq)) ?_ ?_
  focus
    intro h2
    replace hF := aq h2 hF
    cases hF
  rotate_left 1
  intro h2
  replace hF := ar h2 hF
  refine aG (decide (p4.fTime < 0)) ?_ ?_
  focus
    intro h3
    replace hF := aq h3 hF
    cases hF
  rotate_left 1
  intro h3
  replace hF := ar h3 hF
  refine aG (decide (p0.fStore.fNow < p4.fTime)) ?_ ?_
  focus
    intro h4
    replace hF := aq h4 hF
    cases hF
  rotate_left 1
  intro h4
  replace hF := ar h4 hF
  revert hF
  cases h5 : client_CheckReply p4.fReply
  focus
    intro hF
    cases hF
  rename_i x1
  intro hF
  try dsimp only at hF
  have g1 : C.wide 89 [.agg [.v (.i .i64 p4.fReply.fCode), .v (.s p4.fReply.fText), .v (.i .i64 p4.fReply.fN), .v (.sl 1 (ab aY p4.fReply.fList))]] [] = some (.v (.i .i64 x1), []) := k_client_CheckReply p4.fReply _ h5
  cases hF
  all_goals (simp (maxSteps := 4000000) only [*, n40k8, n40mv, ↓RP, RB, aW, aC, aZ, Mx.bw, opnd, Mx.bF, Nat.reduceBEq, bK, aO, aB, ax, Mx.put, ofConst, ofCell, Mx.prune, killB, aK, putDst, au, aD, loadAt, bM, List.map, Nat.reduceAdd, cm, cn, forceAll, lend, lendA, aS, ay, bL, bare, bQ, newB, ch, ck, cj, bne, bc, aP, ty3, ty63, ty73, ty128, ty130, ↓aa _ _ _ _ 8])
def hd_client_Check_0 (p0 : GMachine) (p1 : List GClient) (p2 : Int) (s : Int) : St := ⟨[(1, .rp [.i .i64 p0.fStore.fNow, .sl 8 (ab GEntry.row p0.fStore.fEntries), .i .i64 p0.fNext, .sl 7 (ab GClient.row p0.fClients)]), (26, .v (.sl 7 (ab GClient.row p1))), (27, .v (.i .i64 p2)), (28, .v (.i .i64 s))], []⟩
def ou_client_Check_0 (p0 : GMachine) (p1 : List GClient) (p2 : Int) (r : GClient ⊕ Unit) : Option (Ex × St) := match r with
  | .inl r => some (.ret, ⟨[(2, .v (.i .i64 13))], [[.v (.i .i64 r.fId), .v (.i .i64 r.fSeq), .v (.i .i64 r.fTime), .v (.i .i64 r.fReply.fCode), .v (.s r.fReply.fText), .v (.i .i64 r.fReply.fN), .v (.sl 1 (ab aY r.fReply.fList))]]⟩)
  | .inr r => some (.normal, ⟨[], []⟩)
theorem sl_client_Check_0 (C : ak) (k_client_CheckReply : K_client_CheckReply C) (p0 : GMachine) (p1 : List GClient) (p2 : Int) (p3 : Int) (o : Int ⊕ (GClient ⊕ Unit)) (hF : st_client_Check_0 p0 p1 p2 p3 = some o) : evW TT C.wide n40 b40 0 (hd_client_Check_0 p0 p1 p2 p3) = Sum.elim (fun s => evW TT C.wide n40 b40 0 (hd_client_Check_0 p0 p1 p2 s)) (fun r => ou_client_Check_0 p0 p1 p2 r) o := by
  unfold st_client_Check_0 at hF
  try dsimp only at hF
  rw [ct TT n40 fl40_0]
  refine aT (decide (p3 < p2)) ?_ ?_
  focus
    intro h1
    replace hF := ar h1 hF
    cases hF
  rotate_left 1
  intro h1
  replace hF := aq h1 hF
  revert hF
  cases h2 : idx p1 p3
  focus
    intro hF
    cases hF
  rename_i x1
  intro hF
  try dsimp only at hF
  have g1 : decide (0 ≤ p3) = true := (cc h2).1
  have g2 : (ab GClient.row p1)[(p3 : Int).toNat]? = some [.i .i64 x1.fId, .i .i64 x1.fSeq, .i .i64 x1.fTime, .i .i64 x1.fReply.fCode, .s x1.fReply.fText, .i .i64 x1.fReply.fN, .sl 1 (ab aY x1.fReply.fList)] := ca _ h2
  revert hF
  cases h3 : ck_client_Check_k6v2 p0 p3 p1 p2 x1
  focus
    intro hF
    cases hF
  rename_i x2
  intro hF
  try dsimp only at hF
  have g3 : @cR TT C.wide (evW TT C.wide n40 b40) n40 0 6 ⟨[(1, .rp [.i .i64 p0.fStore.fNow, .sl 8 (ab GEntry.row p0.fStore.fEntries), .i .i64 p0.fNext, .sl 7 (ab GClient.row p0.fClients)]), (3, .v (.i .i64 p3)), (4, .ptr 0 0), (26, .v (.sl 7 (ab GClient.row p1))), (27, .v (.i .i64 p2)), (28, .v (.i .i64 p3))], [[.v (.i .i64 x1.fId), .v (.i .i64 x1.fSeq), .v (.i .i64 x1.fTime), .v (.i .i64 x1.fReply.fCode), .v (.s x1.fReply.fText), .v (.i .i64 x1.fReply.fN), .v (.sl 1 (ab aY x1.fReply.fList))]]⟩ ⟨_⟩ = some (.normal, ⟨[(1, .rp [.i .i64 p0.fStore.fNow, .sl 8 (ab GEntry.row p0.fStore.fEntries), .i .i64 p0.fNext, .sl 7 (ab GClient.row p0.fClients)]), (4, .ptr 0 0), (26, .v (.sl 7 (ab GClient.row p1))), (27, .v (.i .i64 p2)), (28, .v (.i .i64 p3)), (58, .v (.b x2))], [[.v (.i .i64 x1.fId), .v (.i .i64 x1.fSeq), .v (.i .i64 x1.fTime), .v (.i .i64 x1.fReply.fCode), .v (.s x1.fReply.fText), .v (.i .i64 x1.fReply.fN), .v (.sl 1 (ab aY x1.fReply.fList))]]⟩) := rg_client_Check_k6v2 C p0 p3 p1 p2 x1 _ rfl _ h3
  refine aG x2 ?_ ?_
  focus
    intro h4
    replace hF := aq h4 hF
    cases hF
  rotate_left 1
  intro h4
  replace hF := ar h4 hF
  revert hF
  cases h5 : ck_client_Check_k8v2 p0 p1 p2 p3 x1
  focus
    intro hF
    cases hF
  rename_i x3
  intro hF
  try dsimp only at hF
  have g4 : @cR TT C.wide (evW TT C.wide n40 b40) n40 0 8 ⟨[(1, .rp [.i .i64 p0.fStore.fNow, .sl 8 (ab GEntry.row p0.fStore.fEntries), .i .i64 p0.fNext, .sl 7 (ab GClient.row p0.fClients)]), (4, .ptr 0 0), (26, .v (.sl 7 (ab GClient.row p1))), (27, .v (.i .i64 p2)), (28, .v (.i .i64 p3))], [[.v (.i .i64 x1.fId), .v (.i .i64 x1.fSeq), .v (.i .i64 x1.fTime), .v (.i .i64 x1.fReply.fCode), .v (.s x1.fReply.fText), .v (.i .i64 x1.fReply.fN), .v (.sl 1 (ab aY x1.fReply.fList))]]⟩ ⟨_⟩ = some (.normal, ⟨[(1, .rp [.i .i64 p0.fStore.fNow, .sl 8 (ab GEntry.row p0.fStore.fEntries), .i .i64 p0.fNext, .sl 7 (ab GClient.row p0.fClients)]), (26, .v (.sl 7 (ab GClient.row p1))), (27, .v (.i .i64 p2)), (28, .v (.i .i64 p3)), (85, .v (.b x3))], [[.v (.i .i64 x1.fId), .v (.i .i64 x1.fSeq), .v (.i .i64 x1.fTime), .v (.i .i64 x1.fReply.fCode), .v (.s x1.fReply.fText), .v (.i .i64 x1.fReply.fN), .v (.sl 1 (ab aY x1.fReply.fList))]]⟩) := rg_client_Check_k8v2 C k_client_CheckReply p0 p1 p2 p3 x1 _ rfl _ h5
  refine aG x3 ?_ ?_
  focus
    intro h6
    replace hF := aq h6 hF
    cases hF
  rotate_left 1
  intro h6
  replace hF := ar h6 hF
  cases hF
  all_goals (show cD _ _ _ (aH _ _ _ _ (Code.seq _ _) _) = _; simp (maxSteps := 4000000) only [*, hd_client_Check_0, ou_client_Check_0, n40a29t, n40a29f, n40a58t, n40a58f, n40a85t, n40a85f, n40k4, n40k5, n40k7, n40k9, n40k10, n40mv, ↓RP, RB, ↓ah, aZ, be, aM, Mx.bw, opnd, Mx.bF, Nat.reduceBEq, bK, Mx.fit, bI, bY, cellsOf, aO, aB, ax, Mx.put, ofConst, ofCell, Mx.prune, killB, killBs, aK, putDst, au, loadAt, bM, List.map, Nat.reduceAdd, cm, cn, bD, aL, lowC, bg, kill, bB, setCells, Nat.reduceLeDiff, lowA, bi, ck, cj, bne, ↓aj, ↓ai, ty3, ty25, ty71, ty130, ↓aa _ _ _ _ 4, ↓aa _ _ _ _ 5, ↓bC _ _ _ _ 6, ↓aa _ _ _ _ 7, ↓bC _ _ _ _ 8, ↓aa _ _ _ _ 9, ↓aa _ _ _ _ 10])
theorem r_client_Check (C : ak) (k_store_Check : K_store_Check C) (k_client_CheckReply : K_client_CheckReply C) (p0 : GMachine) (r : Int) (hF : client_Check p0 = some r) : cF TT C.wide (evW TT C.wide n40 b40) n40 Try.f40.results.toList (aQ Try.f40) [.agg [.v (.i .i64 p0.fStore.fNow), .v (.sl 8 (ab GEntry.row p0.fStore.fEntries)), .v (.i .i64 p0.fNext), .v (.sl 7 (ab GClient.row p0.fClients))]] [] = some (.v (.i .i64 r), []) := by
  unfold client_Check at hF
  revert hF
  cases h1 : ck_client_Check_k1 p0
  focus
    intro hF
    cases hF
  rename_i x1
  intro hF
  try dsimp only at hF
  have g1 : @cR TT C.wide (evW TT C.wide n40 b40) n40 0 1 ⟨[(1, .rp [.i .i64 p0.fStore.fNow, .sl 8 (ab GEntry.row p0.fStore.fEntries), .i .i64 p0.fNext, .sl 7 (ab GClient.row p0.fClients)])], []⟩ ⟨_⟩ = some (.normal, ⟨[(1, .rp [.i .i64 p0.fStore.fNow, .sl 8 (ab GEntry.row p0.fStore.fEntries), .i .i64 p0.fNext, .sl 7 (ab GClient.row p0.fClients)]), (24, .v (.b x1))], []⟩) := rg_client_Check_k1 C k_store_Check p0 _ rfl _ h1
  refine aG x1 ?_ ?_
  focus
    intro h2
    replace hF := aq h2 hF
    have hR := Option.some.inj hF
    clear hF
    subst hR
  rotate_left 1
  intro h2
  replace hF := ar h2 hF
  revert hF
  cases h3 : ci (st_client_Check_0 p0 p0.fClients (p0.fClients.length : Int)) 0
  focus
    intro hF
    cases hF
  rename_i qh3
  cases qh3
  focus
    rename_i z0h3
    revert z0h3
    intro x2 h3
    intro hF
    try dsimp only at hF
    have g2 : evW TT C.wide n40 b40 0 ⟨[(1, .rp [.i .i64 p0.fStore.fNow, .sl 8 (ab GEntry.row p0.fStore.fEntries), .i .i64 p0.fNext, .sl 7 (ab GClient.row p0.fClients)]), (26, .v (.sl 7 (ab GClient.row p0.fClients))), (27, .v (.i .i64 (p0.fClients.length : Int))), (28, .v (.i .i64 0))], []⟩ = some (.ret, ⟨[(2, .v (.i .i64 13))], [[.v (.i .i64 x2.fId), .v (.i .i64 x2.fSeq), .v (.i .i64 x2.fTime), .v (.i .i64 x2.fReply.fCode), .v (.s x2.fReply.fText), .v (.i .i64 x2.fReply.fN), .v (.sl 1 (ab aY x2.fReply.fList))]]⟩) := cy (hd_client_Check_0 p0 p0.fClients (p0.fClients.length : Int)) (ou_client_Check_0 p0 p0.fClients (p0.fClients.length : Int)) (fun s o hs => sl_client_Check_0 C k_client_CheckReply p0 p0.fClients (p0.fClients.length : Int) s o hs) h3
    have hR := Option.some.inj hF
    clear hF
    subst hR
  rotate_left 1
  rename_i y0h3
  intro hF
  try dsimp only at hF
  have g3 : evW TT C.wide n40 b40 0 ⟨[(1, .rp [.i .i64 p0.fStore.fNow, .sl 8 (ab GEntry.row p0.fStore.fEntries), .i .i64 p0.fNext, .sl 7 (ab GClient.row p0.fClients)]), (26, .v (.sl 7 (ab GClient.row p0.fClients))), (27, .v (.i .i64 (p0.fClients.length : Int))), (28, .v (.i .i64 0))], []⟩ = some (.normal, ⟨[], []⟩) := cy (hd_client_Check_0 p0 p0.fClients (p0.fClients.length : Int)) (ou_client_Check_0 p0 p0.fClients (p0.fClients.length : Int)) (fun s o hs => sl_client_Check_0 C k_client_CheckReply p0 p0.fClients (p0.fClients.length : Int) s o hs) h3
  have hR := Option.some.inj hF
  clear hF
  subst hR
  all_goals (rw [ba]; show cp _ _ _ (aH _ _ _ _ (Code.seq _ _) _) = _; simp (maxSteps := 4000000) only [*, res40, n40a24t, n40a24f, n40k0, n40k2, n40k3, n40k11, n40ro, n40mv, ↓RP, RB, enter, aZ, be, aM, Mx.bw, opnd, Mx.bF, Nat.reduceBEq, bK, Mx.fit, bI, bY, toVs, cellsOf, toV, aO, aB, ax, Mx.put, ofConst, ofCell, Mx.prune, killB, aK, putDst, au, aD, loadAt, bM, List.map, cg, az, bn, bq, co, bN, bD, aL, lowC, ↓aj, ↓ai, ty25, ty71, ty73, ↓aa _ _ _ _ 0, ↓bC _ _ _ _ 1, ↓aa _ _ _ _ 2, ↓aa _ _ _ _ 3, ↓aa _ _ _ _ 11])
def n55 : cC where
  keep := fun i => match i with
    | 0 => [0, 1, 2]
    | 1 => [6]
    | _ => []
  ro := fun _ => false
  mv := fun _ => false
  give := fun _ => false
  free := fun _ => []
theorem n55k0 : n55.keep 0 = [0, 1, 2] := rfl
theorem n55k1 : n55.keep 1 = [6] := rfl
theorem res55 : Try.f55.results.toList = [.tmp 6] := rfl
noncomputable def b55 : Code := aQ Try.f55
theorem r_rostrumref_In (C : ak)  (p0 : Int) (p1 : Int) (p2 : Int) (r : Bool) (hF : rostrumref_In p0 p1 p2 = some r) : cF TT C.wide (evW TT C.wide n55 b55) n55 Try.f55.results.toList (aQ Try.f55) [.v (.i .i64 p0), .v (.i .i64 p1), .v (.i .i64 p2)] [] = some (.v (.b r), []) := by
  unfold rostrumref_In at hF
  refine aG (decide (p1 ≤ p0)) ?_ ?_
  focus
    intro h1
    replace hF := aq h1 hF
    have hR := Option.some.inj hF
    clear hF
    subst hR
  rotate_left 1
  intro h1
  replace hF := ar h1 hF
  have hR := Option.some.inj hF
  clear hF
  subst hR
  all_goals (rw [ba]; show cp _ _ _ (aH _ _ _ _ (Code.seq _ _) _) = _; simp (maxSteps := 4000000) only [*, res55, n55k0, n55k1, ↓RP, RB, enter, aW, aC, aZ, be, aM, Mx.bw, opnd, Mx.bF, Nat.reduceBEq, bK, Mx.fit, bY, aO, aB, Mx.put, ofConst, ofCell, Mx.prune, killB, aK, putDst, au, List.map, Nat.reduceAdd, cm, cn, az, bn, bq, co, bN, bD, aL, lowC, ck, cj, ↓aj, ↓aa, bc, ty4])
def n81 : cC where
  keep := fun i => match i with
    | 0 => [0]
    | 1 => [2]
    | _ => []
  ro := fun _ => false
  mv := fun _ => false
  give := fun _ => false
  free := fun _ => []
theorem n81k0 : n81.keep 0 = [0] := rfl
theorem n81k1 : n81.keep 1 = [2] := rfl
theorem res81 : Try.f81.results.toList = [.tmp 2] := rfl
noncomputable def b81 : Code := aQ Try.f81
theorem r_rostrumref_fieldMay (C : ak) (k_rostrumref_In : K_rostrumref_In C) (p0 : ByteArray) (r : Bool) (hF : rostrumref_fieldMay p0 = some r) : cF TT C.wide (evW TT C.wide n81 b81) n81 Try.f81.results.toList (aQ Try.f81) [.v (.s p0)] [] = some (.v (.b r), []) := by
  unfold rostrumref_fieldMay at hF
  have g1 : C.wide 55 [.v (.i .i64 (p0.size : Int)), .v (.i .i64 1), .v (.i .i64 12)] [] = some (.v (.b (rostrumref_In_v (p0.size : Int) 1 12)), []) := k_rostrumref_In (p0.size : Int) 1 12 _ (rostrumref_In_t (p0.size : Int) 1 12)
  have g2 : rostrumref_In_v (p0.size : Int) 1 12 = (decide (1 ≤ (p0.size : Int)) && decide ((p0.size : Int) ≤ 12)) := by first | rfl | (simp [rostrumref_In_v]; done) | (simp only [rostrumref_In_v]; decide)
  have hR := Option.some.inj hF
  clear hF
  subst hR
  all_goals (rw [ba]; show cp _ _ _ (aH _ _ _ _ (Code.seq _ _) _) = _; simp (maxSteps := 4000000) only [*, res81, n81k0, n81k1, ↓RP, RB, enter, aZ, be, aM, Mx.bw, opnd, Mx.bF, Nat.reduceBEq, bK, Mx.fit, bY, aO, aB, Mx.put, ofConst, ofCell, Mx.prune, killB, aK, putDst, au, List.map, cg, az, bn, bq, co, bN, bD, aL, lowC, forceAll, lend, lendA, aS, ay, bL, bare, bQ, newB, ch, ↓aj, ↓aa, ty4, ty9])
def n79 : cC where
  keep := fun i => match i with
    | 0 => [1]
    | 1 => [2]
    | _ => []
  ro := fun t => t == 1
  mv := fun _ => false
  give := fun _ => false
  free := fun _ => []
theorem n79k0 : n79.keep 0 = [1] := rfl
theorem n79k1 : n79.keep 1 = [2] := rfl
theorem n79ro (t : Nat) : n79.ro t = (t == 1) := rfl
theorem n79mv (t : Nat) : n79.mv t = (false) := rfl
theorem res79 : Try.f79.results.toList = [.tmp 2] := rfl
noncomputable def b79 : Code := aQ Try.f79
theorem r_rostrumref_sizeOf (C : ak)  (p0 : GValue) (r : Int) (hF : rostrumref_sizeOf p0 = some r) : cF TT C.wide (evW TT C.wide n79 b79) n79 Try.f79.results.toList (aQ Try.f79) [.agg [.v (.i .i64 p0.fKind), .v (.s p0.fText), .v (.i .i64 p0.fCount), .v (.sl 2 (ab GPair.row p0.fPairs)), .v (.sl 1 (ab aY p0.fItems)), .v (.sl 2 (ab GScore.row p0.fScores))]] [] = some (.v (.i .i64 r), []) := by
  unfold rostrumref_sizeOf at hF
  have hR := Option.some.inj hF
  clear hF
  subst hR
  all_goals (rw [ba]; show cp _ _ _ (aH _ _ _ _ (Code.seq _ _) _) = _; simp (maxSteps := 4000000) only [*, res79, n79k0, n79k1, n79ro, n79mv, ↓RP, RB, enter, aZ, be, aM, Mx.bw, opnd, Mx.bF, Nat.reduceBEq, bK, Mx.fit, bI, bY, toVs, cellsOf, toV, aO, aB, ax, Mx.put, ofConst, ofCell, Mx.prune, killB, aK, putDst, au, aD, loadAt, bM, List.map, cm, cn, cg, az, bn, bq, co, bN, bD, aL, lowC, ck, cj, ↓aj, ↓aa, ty3, ty49, ty50, ty51, ty53])
def n80 : cC where
  keep := fun i => match i with
    | 0 => [0]
    | 1 => [2]
    | _ => []
  ro := fun _ => false
  mv := fun _ => false
  give := fun _ => false
  free := fun _ => []
theorem n80k0 : n80.keep 0 = [0] := rfl
theorem n80k1 : n80.keep 1 = [2] := rfl
theorem res80 : Try.f80.results.toList = [.tmp 2] := rfl
noncomputable def b80 : Code := aQ Try.f80
theorem r_rostrumref_textMay (C : ak)  (p0 : ByteArray) (r : Bool) (hF : rostrumref_textMay p0 = some r) : cF TT C.wide (evW TT C.wide n80 b80) n80 Try.f80.results.toList (aQ Try.f80) [.v (.s p0)] [] = some (.v (.b r), []) := by
  unfold rostrumref_textMay at hF
  have hR := Option.some.inj hF
  clear hF
  subst hR
  all_goals (rw [ba]; show cp _ _ _ (aH _ _ _ _ (Code.seq _ _) _) = _; simp (maxSteps := 4000000) only [*, res80, n80k0, n80k1, ↓RP, RB, enter, aZ, be, aM, Mx.bw, opnd, Mx.bF, Nat.reduceBEq, bK, Mx.fit, bY, aO, aB, Mx.put, ofConst, ofCell, Mx.prune, killB, aK, putDst, au, List.map, cm, cn, cg, az, bn, bq, co, bN, bD, aL, lowC, ck, cj, ↓aj, ↓aa, ty4, ty9])
def n82 : cC where
  keep := fun i => match i with
    | 0 => [0]
    | 1 => [2]
    | _ => []
  ro := fun _ => false
  mv := fun _ => false
  give := fun _ => false
  free := fun _ => []
theorem n82k0 : n82.keep 0 = [0] := rfl
theorem n82k1 : n82.keep 1 = [2] := rfl
theorem res82 : Try.f82.results.toList = [.tmp 2] := rfl
noncomputable def b82 : Code := aQ Try.f82
theorem r_rostrumref_countMay (C : ak) (k_rostrumref_In : K_rostrumref_In C) (p0 : Int) (r : Bool) (hF : rostrumref_countMay p0 = some r) : cF TT C.wide (evW TT C.wide n82 b82) n82 Try.f82.results.toList (aQ Try.f82) [.v (.i .i64 p0)] [] = some (.v (.b r), []) := by
  unfold rostrumref_countMay at hF
  have g1 : C.wide 55 [.v (.i .i64 p0), .v (.i .i64 (-1099511627776)), .v (.i .i64 1099511627776)] [] = some (.v (.b (rostrumref_In_v p0 (-1099511627776) 1099511627776)), []) := k_rostrumref_In p0 (-1099511627776) 1099511627776 _ (rostrumref_In_t p0 (-1099511627776) 1099511627776)
  have g2 : rostrumref_In_v p0 (-1099511627776) 1099511627776 = (decide ((-1099511627776) ≤ p0) && decide (p0 ≤ 1099511627776)) := by first | rfl | (simp [rostrumref_In_v]; done) | (simp only [rostrumref_In_v]; decide)
  have hR := Option.some.inj hF
  clear hF
  subst hR
  all_goals (rw [ba]; show cp _ _ _ (aH _ _ _ _ (Code.seq _ _) _) = _; simp (maxSteps := 4000000) only [*, res82, n82k0, n82k1, ↓RP, RB, enter, aZ, be, aM, Mx.bw, opnd, Mx.bF, Nat.reduceBEq, bK, Mx.fit, bY, aO, aB, Mx.put, ofConst, ofCell, Mx.prune, killB, aK, putDst, au, List.map, az, bn, bq, co, bN, bD, aL, lowC, forceAll, lend, lendA, aS, ay, bL, bare, bQ, Int.reduceNeg, newB, ch, ↓aj, ↓aa, ty4])
def n83 : cC where
  keep := fun i => match i with
    | 0 => [2, 3]
    | 1 => [2, 3, 9]
    | 2 => [4]
    | 3 => [4]
    | _ => []
  ro := fun t => t == 2 || t == 3
  mv := fun _ => false
  give := fun _ => false
  free := fun _ => []
  alive := fun i x => match i, x with
    | 9, true => some [2, 3]
    | 9, false => some [2, 3]
    | _, _ => none
theorem n83a9t (e : Env) (S : aA) : aw n83 9 true ⟨e, S⟩ = ⟨prune [2, 3] e, S⟩ := rfl
theorem n83a9f (e : Env) (S : aA) : aw n83 9 false ⟨e, S⟩ = ⟨prune [2, 3] e, S⟩ := rfl
theorem n83k0 : n83.keep 0 = [2, 3] := rfl
theorem n83k1 : n83.keep 1 = [2, 3, 9] := rfl
theorem n83k2 : n83.keep 2 = [4] := rfl
theorem n83k3 : n83.keep 3 = [4] := rfl
theorem n83ro (t : Nat) : n83.ro t = (t == 2 || t == 3) := rfl
theorem n83mv (t : Nat) : n83.mv t = (false) := rfl
theorem res83 : Try.f83.results.toList = [.tmp 4] := rfl
noncomputable def b83 : Code := aQ Try.f83
theorem r_rostrumref_scoreAhead (C : ak)  (p0 : GScore) (p1 : GScore) (r : Bool) (hF : rostrumref_scoreAhead p0 p1 = some r) : cF TT C.wide (evW TT C.wide n83 b83) n83 Try.f83.results.toList (aQ Try.f83) [.agg [.v (.s p0.fMember), .v (.i .i64 p0.fN)], .agg [.v (.s p1.fMember), .v (.i .i64 p1.fN)]] [] = some (.v (.b r), []) := by
  unfold rostrumref_scoreAhead at hF
  refine aG (p0.fN == p1.fN) ?_ ?_
  focus
    intro h1
    replace hF := aq h1 hF
    have hR := Option.some.inj hF
    clear hF
    subst hR
  rotate_left 1
  intro h1
  replace hF := ar h1 hF
  have hR := Option.some.inj hF
  clear hF
  subst hR
  all_goals (rw [ba]; show cp _ _ _ (aH _ _ _ _ (Code.seq _ _) _) = _; simp (maxSteps := 4000000) only [*, res83, n83a9t, n83a9f, n83k0, n83k1, n83k2, n83k3, n83ro, n83mv, ↓RP, RB, enter, aZ, be, aM, Mx.bw, opnd, Mx.bF, Nat.reduceBEq, bK, Mx.fit, bI, bY, toVs, cellsOf, toV, aO, aB, ax, Mx.put, ofConst, ofCell, Mx.prune, killB, aK, putDst, au, aD, loadAt, bM, List.map, cm, cn, az, bn, bq, co, bN, bD, aL, lowC, ck, cj, bne, ↓aj, ↓ai, ↓aa, ty3, ty4, ty9, ty105])
def n84 : cC where
  keep := fun i => match i with
    | 0 => [0, 1]
    | 1 => [0, 1, 5]
    | 2 => [0, 1, 5, 9]
    | 3 => [0, 1, 5]
    | 4 => [0, 1, 5, 18]
    | 5 => [4]
    | 6 => [4]
    | _ => []
  ro := fun _ => false
  mv := fun _ => false
  give := fun _ => false
  free := fun _ => []
  alive := fun i x => match i, x with
    | 9, true => some [0, 1, 5]
    | 9, false => some []
    | 18, true => some [5]
    | 18, false => some [0, 1, 5]
    | _, _ => none
theorem n84a9t (e : Env) (S : aA) : aw n84 9 true ⟨e, S⟩ = ⟨prune [0, 1, 5] e, S⟩ := rfl
theorem n84a9f (e : Env) (S : aA) : aw n84 9 false ⟨e, S⟩ = ⟨prune [] e, S⟩ := rfl
theorem n84a18t (e : Env) (S : aA) : aw n84 18 true ⟨e, S⟩ = ⟨prune [5] e, S⟩ := rfl
theorem n84a18f (e : Env) (S : aA) : aw n84 18 false ⟨e, S⟩ = ⟨prune [0, 1, 5] e, S⟩ := rfl
theorem n84k0 : n84.keep 0 = [0, 1] := rfl
theorem n84k1 : n84.keep 1 = [0, 1, 5] := rfl
theorem n84k2 : n84.keep 2 = [0, 1, 5, 9] := rfl
theorem n84k3 : n84.keep 3 = [0, 1, 5] := rfl
theorem n84k4 : n84.keep 4 = [0, 1, 5, 18] := rfl
theorem n84k5 : n84.keep 5 = [4] := rfl
theorem n84k6 : n84.keep 6 = [4] := rfl
theorem n84mv (t : Nat) : n84.mv t = (false) := rfl
theorem res84 : Try.f84.results.toList = [.tmp 4] := rfl
noncomputable def b84 : Code := aQ Try.f84
noncomputable def c84_0 : Code := (bz 0 (aQ Try.f84)).getD .skip
theorem fl84_0 : bz 0 b84 = some c84_0 := rfl
def hd_rostrumref_memberAt_0 (p0 : List GScore) (p1 : ByteArray) (s : Int) : St := ⟨[(0, .v (.sl 2 (ab GScore.row p0))), (1, .v (.s p1)), (5, .v (.i .i64 s))], []⟩
def ou_rostrumref_memberAt_0 (p0 : List GScore) (p1 : ByteArray) (r : Int ⊕ Unit) : Option (Ex × St) := match r with
  | .inl r => some (.ret, ⟨[(4, .v (.i .i64 r))], []⟩)
  | .inr r => some (.normal, ⟨[], []⟩)
theorem sl_rostrumref_memberAt_0 (C : ak)  (p0 : List GScore) (p1 : ByteArray) (p2 : Int) (o : Int ⊕ (Int ⊕ Unit)) (hF : st_rostrumref_memberAt_0 p0 p1 p2 = some o) : evW TT C.wide n84 b84 0 (hd_rostrumref_memberAt_0 p0 p1 p2) = Sum.elim (fun s => evW TT C.wide n84 b84 0 (hd_rostrumref_memberAt_0 p0 p1 s)) (fun r => ou_rostrumref_memberAt_0 p0 p1 r) o := by
  unfold st_rostrumref_memberAt_0 at hF
  try dsimp only at hF
  rw [ct TT n84 fl84_0]
  refine aT (decide (p2 < (p0.length : Int))) ?_ ?_
  focus
    intro h1
    replace hF := ar h1 hF
    cases hF
  rotate_left 1
  intro h1
  replace hF := aq h1 hF
  revert hF
  cases h2 : idx p0 p2
  focus
    intro hF
    cases hF
  rename_i x1
  intro hF
  try dsimp only at hF
  have g1 : decide (0 ≤ p2) = true := (cc h2).1
  have g2 : (ab GScore.row p0)[(p2 : Int).toNat]? = some [.s x1.fMember, .i .i64 x1.fN] := ca _ h2
  refine aG (cJ x1.fMember p1) ?_ ?_
  focus
    intro h3
    replace hF := aq h3 hF
    cases hF
  rotate_left 1
  intro h3
  replace hF := ar h3 hF
  cases hF
  all_goals (show cD _ _ _ (aH _ _ _ _ (Code.seq _ _) _) = _; simp (maxSteps := 4000000) only [*, hd_rostrumref_memberAt_0, ou_rostrumref_memberAt_0, n84a9t, n84a9f, n84a18t, n84a18f, n84k2, n84k3, n84k4, n84k5, n84mv, ↓RP, RB, ↓ah, aZ, be, aM, Mx.bw, opnd, Mx.bF, Nat.reduceBEq, bK, Mx.fit, bY, aO, aB, ax, Mx.put, ofConst, ofCell, Mx.prune, killB, aK, putDst, au, aD, loadAt, bM, List.map, cm, cn, cg, bg, ck, cj, ↓aj, ↓ai, ↓aa, ty3, ty9, ty51, ty105])
theorem r_rostrumref_memberAt (C : ak)  (p0 : List GScore) (p1 : ByteArray) (r : Int) (hF : rostrumref_memberAt p0 p1 = some r) : cF TT C.wide (evW TT C.wide n84 b84) n84 Try.f84.results.toList (aQ Try.f84) [.v (.sl 2 (ab GScore.row p0)), .v (.s p1)] [] = some (.v (.i .i64 r), []) := by
  unfold rostrumref_memberAt at hF
  revert hF
  cases h1 : ci (st_rostrumref_memberAt_0 p0 p1) 0
  focus
    intro hF
    cases hF
  rename_i qh1
  cases qh1
  focus
    rename_i z0h1
    revert z0h1
    intro x1 h1
    intro hF
    try dsimp only at hF
    have g1 : evW TT C.wide n84 b84 0 ⟨[(0, .v (.sl 2 (ab GScore.row p0))), (1, .v (.s p1)), (5, .v (.i .i64 0))], []⟩ = some (.ret, ⟨[(4, .v (.i .i64 x1))], []⟩) := cy (hd_rostrumref_memberAt_0 p0 p1) (ou_rostrumref_memberAt_0 p0 p1) (fun s o hs => sl_rostrumref_memberAt_0 C p0 p1 s o hs) h1
    have hR := Option.some.inj hF
    clear hF
    subst hR
  rotate_left 1
  rename_i y0h1
  intro hF
  try dsimp only at hF
  have g2 : evW TT C.wide n84 b84 0 ⟨[(0, .v (.sl 2 (ab GScore.row p0))), (1, .v (.s p1)), (5, .v (.i .i64 0))], []⟩ = some (.normal, ⟨[], []⟩) := cy (hd_rostrumref_memberAt_0 p0 p1) (ou_rostrumref_memberAt_0 p0 p1) (fun s o hs => sl_rostrumref_memberAt_0 C p0 p1 s o hs) h1
  have hR := Option.some.inj hF
  clear hF
  subst hR
  all_goals (rw [ba]; show cp _ _ _ (aH _ _ _ _ (Code.seq _ _) _) = _; simp (maxSteps := 4000000) only [*, res84, n84k0, n84k1, n84k6, ↓RP, RB, enter, aZ, be, aM, Mx.bw, opnd, Mx.bF, Nat.reduceBEq, bK, Mx.fit, bY, aO, aB, Mx.put, ofConst, ofCell, Mx.prune, killB, List.map, az, bn, bq, co, bN, bD, aL, lowC, Int.reduceNeg, ↓aj, ↓aa, ty3])
end Go.Proofs.Ytnjkmbogbfjffaa
