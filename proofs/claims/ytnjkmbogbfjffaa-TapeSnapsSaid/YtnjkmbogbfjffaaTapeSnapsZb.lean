/- The code of these functions, run by the machine Mx, gives what the plain functions say, if their callees do (part 2). -/
import Derived.Test.YtnjkmbogbfjffaaWTy
import Derived.Test.YtnjkmbogbfjffaaTapeSnapsD
set_option linter.unusedSimpArgs false
set_option linter.unusedVariables false
set_option linter.constructorNameAsVariable false
set_option linter.unnecessarySimpa false
set_option maxRecDepth 100000
set_option maxHeartbeats 40000000
namespace Go.Proofs.Ytnjkmbogbfjffaa
open Go Go.Mx Go.Proofs
def n84K : List (Nat × List Nat) := [(0, [0, 1]), (1, [0, 1, 5]), (2, [0, 1, 5, 9]), (3, [0, 1, 5]), (4, [0, 1, 5, 18]), (5, [4]), (6, [4])]
def n84A : List (Nat × List Nat × List Nat) := [(9, [0, 1, 5], []), (18, [5], [0, 1, 5])]
def n84 : cC where
  keep := keepOf n84K
  ro := fun _ => false
  mv := fun _ => false
  give := fun _ => false
  free := fun _ => []
  alive := aliveOf n84A
theorem n84a (t : Nat) (x : Bool) (e : Env) (S : aA) : aw n84 t x ⟨e, S⟩ = atO (aliveOf n84A t x) e S := atCond_of rfl t x e S
theorem n84k (i : Nat) : n84.keep i = keepOf n84K i := rfl
theorem n84mv (t : Nat) : n84.mv t = (false) := rfl
theorem res84 : Try.f84.results.toList = [.tmp 4] := rfl
noncomputable def b84 : Code := aQ Try.f84
noncomputable def c84_0 : Code := (bz 0 (aQ Try.f84)).getD .skip
theorem fl84_0 : bz 0 b84 = some c84_0 := rfl
def hd_rostrumref_memberAt_0 (p0 : List GScore) (p1 : ByteArray) (s : Int) : St := ⟨[(0, .v (.sl 2 (ab GScore.row p0))), (1, .v (.s p1)), (5, .v (.i .i64 s))], []⟩
def ou_rostrumref_memberAt_0 (p0 : List GScore) (p1 : ByteArray) (r : Int ⊕ Unit) : Option (Ex × St) := match r with
  | .inl r => some (.ret, ⟨[(4, .v (.i .i64 r))], []⟩)
  | .inr r => some (.normal, ⟨[], []⟩)
theorem sl_rostrumref_memberAt_0 (C : ak)  (p0 : List GScore) (p1 : ByteArray) (p2 : Int) (o : Int ⊕ (Int ⊕ Unit)) (hF : st_rostrumref_memberAt_0 p0 p1 p2 = some o) : evW TT C.wide n84 b84 0 (hd_rostrumref_memberAt_0 p0 p1 p2) = Sum.elim (fun s => evW TT C.wide n84 b84 0 (hd_rostrumref_memberAt_0 p0 p1 s)) (fun r => ou_rostrumref_memberAt_0 p0 p1 r) o := by
  rw [ct TT n84 fl84_0]
  revert hF
  unfold st_rostrumref_memberAt_0
  try dsimp only
  refine boolY (fun h1 => ?_) (fun h1 => ?_)
  focus
    rintro ⟨⟩
  rotate_left 1
  refine matchX fun x1 h2 => ?_
  have g1 : decide (0 ≤ p2) = true := (cc h2).1
  have g2 : (ab GScore.row p0)[(p2 : Int).toNat]? = some [.s x1.fMember, .i .i64 x1.fN] := ca _ h2
  refine boolX (fun h3 => ?_) (fun h3 => ?_)
  focus
    rintro ⟨⟩
  rotate_left 1
  rintro ⟨⟩
  all_goals (show cD _ _ _ (aH _ _ _ _ (Code.seq _ _) _) = _; simp (maxSteps := 4000000) only [*, hd_rostrumref_memberAt_0, ou_rostrumref_memberAt_0, n84a, n84A, n84k, n84K, n84mv, ↓RP, RB, ↓ah, aZ, be, aM, Mx.bw, opnd, Mx.bF, Nat.reduceBEq, bK, Mx.fit, bY, aO, aB, ax, Mx.put, ofConst, ofCell, Mx.prune, killB, aK, putDst, au, aD, loadAt, bM, List.map, cm, cn, cg, bg, keepOf, aliveOf, atO, ck, cj, ↓aj, ↓ai, ↓aa, ty3, ty9, ty51, ty105])
theorem r_rostrumref_memberAt (C : ak)  (p0 : List GScore) (p1 : ByteArray) (r : Int) (hF : rostrumref_memberAt p0 p1 = some r) : cF TT C.wide (evW TT C.wide n84 b84) n84 Try.f84.results.toList (aQ Try.f84) [.v (.sl 2 (ab GScore.row p0)), .v (.s p1)] [] = some (.v (.i .i64 r), []) := by
  revert hF
  unfold rostrumref_memberAt
  refine matchX ?_
  rintro (x1 | _) h1
  focus
    dsimp only
    have g1 := cy _ _ (sl_rostrumref_memberAt_0 C p0 p1) h1
    try simp only [hd_rostrumref_memberAt_0, ou_rostrumref_memberAt_0] at g1
    rintro ⟨⟩
  rotate_left 1
  dsimp only
  have g2 := cy _ _ (sl_rostrumref_memberAt_0 C p0 p1) h1
  try simp only [hd_rostrumref_memberAt_0, ou_rostrumref_memberAt_0] at g2
  rintro ⟨⟩
  all_goals (rw [ba]; show cp _ _ _ (aH _ _ _ _ (Code.seq _ _) _) = _; simp (maxSteps := 4000000) only [*, res84, n84k, n84K, ↓RP, RB, enter, aZ, be, aM, Mx.bw, opnd, Mx.bF, Nat.reduceBEq, bK, Mx.fit, bY, aO, aB, Mx.put, ofConst, ofCell, Mx.prune, killB, List.map, az, bn, bq, co, bN, bD, aL, lowC, Int.reduceNeg, keepOf, ↓aj, ↓aa, ty3])
def n30K : List (Nat × List Nat) := [(0, [1]), (1, [1, 14]), (2, [2]), (3, [1, 3]), (4, [1, 72]), (5, [2]), (6, [1, 87]), (7, [2]), (8, [1, 4]), (9, [1, 4, 92]), (10, [1, 4]), (11, [1, 4, 101]), (12, [2]), (13, [1, 5]), (14, [1, 5, 106]), (15, [1, 5]), (16, [1, 5, 126]), (17, [2]), (18, [1, 6]), (19, [1, 6, 131]), (20, [1, 6]), (21, [1, 6, 141]), (22, [2]), (23, [1, 145]), (24, [2]), (25, [1, 7]), (26, [1, 7, 150]), (27, [1, 7]), (28, [1, 7, 160]), (29, [2]), (30, [1, 8]), (31, [1, 8, 165]), (32, [1, 8]), (33, [1, 8, 181]), (34, [2]), (35, [1, 9]), (36, [1, 9, 191]), (37, [1, 9]), (38, [1, 9, 205]), (39, [2]), (40, [1, 10]), (41, [1, 10, 210]), (42, [1, 10]), (43, [1, 10, 239]), (44, [2]), (45, [2])]
def n30A : List (Nat × List Nat × List Nat) := [(14, [], [1]), (72, [], [1]), (87, [], [1]), (92, [1, 4], [1]), (101, [], [1, 4]), (106, [1, 5], [1]), (126, [], [1, 5]), (131, [1, 6], [1]), (141, [], [1, 6]), (145, [], [1]), (150, [1, 7], [1]), (160, [], [1, 7]), (165, [1, 8], [1]), (181, [], [1, 8]), (191, [1, 9], [1]), (205, [], [1, 9]), (210, [1, 10], []), (239, [], [1, 10])]
def n30 : cC where
  keep := keepOf n30K
  ro := fun t => t == 1
  mv := fun _ => false
  give := fun _ => false
  free := fun i => match i with | 33 => [(0, 2), (1, 2), (0, 3), (1, 3), (0, 7), (1, 7), (2, 7), (3, 7), (4, 7), (5, 7), (6, 7), (0, 8), (1, 8), (2, 8), (3, 8), (4, 8), (5, 8), (6, 8), (0, 9), (1, 9), (2, 9), (3, 9), (4, 9), (5, 9), (6, 9), (7, 9), (8, 9), (0, 10), (1, 10), (2, 10), (3, 10), (4, 10), (5, 10), (6, 10), (0, 11), (1, 11), (2, 11), (3, 11), (4, 11), (5, 11), (6, 11), (0, 12), (1, 12), (2, 12), (3, 12), (4, 12), (5, 12), (6, 12)] | 38 => [(0, 2), (1, 2), (0, 3), (1, 3), (0, 6), (1, 6), (2, 6), (3, 6), (4, 6), (5, 6), (0, 7), (1, 7), (2, 7), (3, 7), (4, 7), (5, 7), (0, 8), (1, 8), (2, 8), (3, 8), (4, 8), (5, 8), (6, 8), (7, 8), (0, 9), (1, 9), (2, 9), (3, 9), (4, 9), (5, 9), (0, 10), (1, 10), (2, 10), (3, 10), (4, 10), (5, 10)] | 43 => [(0, 2), (1, 2), (0, 3), (1, 3), (0, 6), (1, 6), (2, 6), (3, 6), (4, 6), (5, 6), (0, 7), (1, 7), (2, 7), (3, 7), (4, 7), (5, 7), (0, 8), (1, 8), (2, 8), (3, 8), (4, 8), (5, 8), (6, 8), (7, 8), (0, 9), (1, 9), (2, 9), (3, 9), (4, 9), (5, 9), (0, 10), (1, 10), (2, 10), (3, 10), (4, 10), (5, 10), (14, 16), (15, 16), (14, 18), (15, 18), (16, 18), (17, 18), (14, 19), (15, 19), (16, 19), (17, 19), (14, 20), (15, 20), (16, 20), (17, 20), (18, 20), (19, 20), (14, 21), (15, 21), (16, 21), (17, 21), (14, 22), (15, 22), (16, 22), (17, 22), (14, 23), (15, 23), (16, 23), (17, 23)] | _ => []
  alive := aliveOf n30A
theorem n30a (t : Nat) (x : Bool) (e : Env) (S : aA) : aw n30 t x ⟨e, S⟩ = atO (aliveOf n30A t x) e S := atCond_of rfl t x e S
theorem n30k (i : Nat) : n30.keep i = keepOf n30K i := rfl
theorem n30ro (t : Nat) : n30.ro t = (t == 1) := rfl
theorem n30mv (t : Nat) : n30.mv t = (false) := rfl
theorem n30f33 : n30.free 33 = [(0, 2), (1, 2), (0, 3), (1, 3), (0, 7), (1, 7), (2, 7), (3, 7), (4, 7), (5, 7), (6, 7), (0, 8), (1, 8), (2, 8), (3, 8), (4, 8), (5, 8), (6, 8), (0, 9), (1, 9), (2, 9), (3, 9), (4, 9), (5, 9), (6, 9), (7, 9), (8, 9), (0, 10), (1, 10), (2, 10), (3, 10), (4, 10), (5, 10), (6, 10), (0, 11), (1, 11), (2, 11), (3, 11), (4, 11), (5, 11), (6, 11), (0, 12), (1, 12), (2, 12), (3, 12), (4, 12), (5, 12), (6, 12)] := rfl
theorem n30f38 : n30.free 38 = [(0, 2), (1, 2), (0, 3), (1, 3), (0, 6), (1, 6), (2, 6), (3, 6), (4, 6), (5, 6), (0, 7), (1, 7), (2, 7), (3, 7), (4, 7), (5, 7), (0, 8), (1, 8), (2, 8), (3, 8), (4, 8), (5, 8), (6, 8), (7, 8), (0, 9), (1, 9), (2, 9), (3, 9), (4, 9), (5, 9), (0, 10), (1, 10), (2, 10), (3, 10), (4, 10), (5, 10)] := rfl
theorem n30f43 : n30.free 43 = [(0, 2), (1, 2), (0, 3), (1, 3), (0, 6), (1, 6), (2, 6), (3, 6), (4, 6), (5, 6), (0, 7), (1, 7), (2, 7), (3, 7), (4, 7), (5, 7), (0, 8), (1, 8), (2, 8), (3, 8), (4, 8), (5, 8), (6, 8), (7, 8), (0, 9), (1, 9), (2, 9), (3, 9), (4, 9), (5, 9), (0, 10), (1, 10), (2, 10), (3, 10), (4, 10), (5, 10), (14, 16), (15, 16), (14, 18), (15, 18), (16, 18), (17, 18), (14, 19), (15, 19), (16, 19), (17, 19), (14, 20), (15, 20), (16, 20), (17, 20), (18, 20), (19, 20), (14, 21), (15, 21), (16, 21), (17, 21), (14, 22), (15, 22), (16, 22), (17, 22), (14, 23), (15, 23), (16, 23), (17, 23)] := rfl
theorem res30 : Try.f30.results.toList = [.tmp 2] := rfl
noncomputable def b30 : Code := aQ Try.f30
noncomputable def c30_0 : Code := (bz 0 (aQ Try.f30)).getD .skip
theorem fl30_0 : bz 0 b30 = some c30_0 := rfl
noncomputable def c30_2 : Code := (bz 2 (aQ Try.f30)).getD .skip
theorem fl30_2 : bz 2 b30 = some c30_2 := rfl
noncomputable def c30_4 : Code := (bz 4 (aQ Try.f30)).getD .skip
theorem fl30_4 : bz 4 b30 = some c30_4 := rfl
noncomputable def c30_6 : Code := (bz 6 (aQ Try.f30)).getD .skip
theorem fl30_6 : bz 6 b30 = some c30_6 := rfl
noncomputable def c30_8 : Code := (bz 8 (aQ Try.f30)).getD .skip
theorem fl30_8 : bz 8 b30 = some c30_8 := rfl
noncomputable def c30_10 : Code := (bz 10 (aQ Try.f30)).getD .skip
theorem fl30_10 : bz 10 b30 = some c30_10 := rfl
noncomputable def c30_12 : Code := (bz 12 (aQ Try.f30)).getD .skip
theorem fl30_12 : bz 12 b30 = some c30_12 := rfl
theorem rg_rostrumref_ValueFault_k4 (C : ak)  (p0 : GValue) (c : Code) (ho : cr 0 4 b30 = some c) (r : Bool) (hF : ck_rostrumref_ValueFault_k4 p0 = some r) : @cR TT C.wide (evW TT C.wide n30 b30) n30 0 4 ⟨[(1, .rp [.i .i64 p0.fKind, .s p0.fText, .i .i64 p0.fCount, .sl 2 (ab GPair.row p0.fPairs), .sl 1 (ab aY p0.fItems), .sl 2 (ab GScore.row p0.fScores)]), (3, .v (.b true))], []⟩ ⟨c⟩ = some (.normal, ⟨[(1, .rp [.i .i64 p0.fKind, .s p0.fText, .i .i64 p0.fCount, .sl 2 (ab GPair.row p0.fPairs), .sl 1 (ab aY p0.fItems), .sl 2 (ab GScore.row p0.fScores)]), (72, .v (.b r))], []⟩) := by
  have e := Option.some.inj (ho.symm.trans (rfl : cr 0 4 b30 = some _))
  subst e
  clear ho
  show aH _ _ _ _ _ _ = _
  revert hF
  unfold ck_rostrumref_ValueFault_k4
  refine boolX (fun h1 => ?_) (fun h1 => ?_)
  focus
    refine boolX (fun h2 => ?_) (fun h2 => ?_)
    focus
      refine boolX (fun h3 => ?_) (fun h3 => ?_)
      focus
        refine boolX (fun h4 => ?_) (fun h4 => ?_)
        focus
          rintro ⟨⟩
        rotate_left 1
        rintro ⟨⟩
      rotate_left 2
      refine boolX (fun h4 => ?_) (fun h4 => ?_)
      focus
        rintro ⟨⟩
      rotate_left 1
      refine boolX (fun h5 => ?_) (fun h5 => ?_)
      focus
        rintro ⟨⟩
      rotate_left 1
      rintro ⟨⟩
    rotate_left 5
    unfold ck_rostrumref_ValueFault_k4_c0
    refine boolY (fun h3 => ?_) (fun h3 => ?_)
    focus
      rintro ⟨⟩
    rotate_left 1
    refine boolX (fun h4 => ?_) (fun h4 => ?_)
    focus
      refine boolX (fun h5 => ?_) (fun h5 => ?_)
      focus
        rintro ⟨⟩
      rotate_left 1
      rintro ⟨⟩
    rotate_left 2
    refine boolX (fun h5 => ?_) (fun h5 => ?_)
    focus
      rintro ⟨⟩
    rotate_left 1
    refine boolX (fun h6 => ?_) (fun h6 => ?_)
    focus
      rintro ⟨⟩
    rotate_left 1
    rintro ⟨⟩
  rotate_left 11
  unfold ck_rostrumref_ValueFault_k4_c2
  refine boolY (fun h2 => ?_) (fun h2 => ?_)
  focus
    rintro ⟨⟩
  rotate_left 1
  refine boolX (fun h3 => ?_) (fun h3 => ?_)
  focus
    refine boolX (fun h4 => ?_) (fun h4 => ?_)
    focus
      refine boolX (fun h5 => ?_) (fun h5 => ?_)
      focus
        rintro ⟨⟩
      rotate_left 1
      rintro ⟨⟩
    rotate_left 2
    refine boolX (fun h5 => ?_) (fun h5 => ?_)
    focus
      rintro ⟨⟩
    rotate_left 1
    refine boolX (fun h6 => ?_) (fun h6 => ?_)
    focus
      rintro ⟨⟩
    rotate_left 1
    rintro ⟨⟩
  rotate_left 5
  unfold ck_rostrumref_ValueFault_k4_c1
  refine boolY (fun h4 => ?_) (fun h4 => ?_)
  focus
    rintro ⟨⟩
  rotate_left 1
  refine boolX (fun h5 => ?_) (fun h5 => ?_)
  focus
    refine boolX (fun h6 => ?_) (fun h6 => ?_)
    focus
      rintro ⟨⟩
    rotate_left 1
    rintro ⟨⟩
  rotate_left 2
  refine boolX (fun h6 => ?_) (fun h6 => ?_)
  focus
    rintro ⟨⟩
  rotate_left 1
  refine boolX (fun h7 => ?_) (fun h7 => ?_)
  focus
    rintro ⟨⟩
  rotate_left 1
  rintro ⟨⟩
  all_goals (simp (maxSteps := 4000000) only [*, n30k, n30K, n30mv, ↓RP, RB, aW, aC, aZ, Mx.bw, opnd, Mx.bF, Nat.reduceBEq, bK, aO, aB, ax, Mx.put, ofConst, ofCell, Mx.prune, killB, aK, putDst, au, aD, loadAt, bM, List.map, cm, cn, cg, keepOf, ck, cj, bne, bc, ty3, ty9, ty49, ty51, ty53, ↓aa _ _ _ _ 4])
theorem rg_rostrumref_ValueFault_k6 (C : ak) (k_rostrumref_sizeOf : K_rostrumref_sizeOf C) (k_rostrumref_In : K_rostrumref_In C) (k_rostrumref_textMay : K_rostrumref_textMay C) (p0 : GValue) (c : Code) (ho : cr 0 6 b30 = some c) (r : Bool) (hF : ck_rostrumref_ValueFault_k6 p0 = some r) : @cR TT C.wide (evW TT C.wide n30 b30) n30 0 6 ⟨[(1, .rp [.i .i64 p0.fKind, .s p0.fText, .i .i64 p0.fCount, .sl 2 (ab GPair.row p0.fPairs), .sl 1 (ab aY p0.fItems), .sl 2 (ab GScore.row p0.fScores)])], []⟩ ⟨c⟩ = some (.normal, ⟨[(1, .rp [.i .i64 p0.fKind, .s p0.fText, .i .i64 p0.fCount, .sl 2 (ab GPair.row p0.fPairs), .sl 1 (ab aY p0.fItems), .sl 2 (ab GScore.row p0.fScores)]), (87, .v (.b r))], []⟩) := by
  have e := Option.some.inj (ho.symm.trans (rfl : cr 0 6 b30 = some _))
  subst e
  clear ho
  show aH _ _ _ _ _ _ = _
  revert hF
  unfold ck_rostrumref_ValueFault_k6
  refine boolY (fun h1 => ?_) (fun h1 => ?_)
  focus
    have g1 := wide0 (k_rostrumref_textMay p0.fText _ (rostrumref_textMay_t p0.fText))
    try simp only [mapR_nil] at g1
    rintro ⟨⟩
  rotate_left 1
  have g2 := wide0 (k_rostrumref_sizeOf p0 _ (rostrumref_sizeOf_t p0))
  have g3 := wide0 (k_rostrumref_In (rostrumref_sizeOf_v p0) 1 20 _ (rostrumref_In_t (rostrumref_sizeOf_v p0) 1 20))
  have g4 : rostrumref_In_v (rostrumref_sizeOf_v p0) 1 20 = (decide (1 ≤ (rostrumref_sizeOf_v p0)) && decide ((rostrumref_sizeOf_v p0) ≤ 20)) := by first | rfl | (simp [rostrumref_In_v]; done) | (simp only [rostrumref_In_v]; decide)
  try simp only [mapR_nil] at g2 g3
  refine boolY (fun h2 => ?_) (fun h2 => ?_)
  focus
    rintro ⟨⟩
  rotate_left 1
  refine boolX (fun h3 => ?_) (fun h3 => ?_)
  focus
    have g1 := wide0 (k_rostrumref_textMay p0.fText _ (rostrumref_textMay_t p0.fText))
    try simp only [mapR_nil] at g1
    rintro ⟨⟩
  rotate_left 1
  rintro ⟨⟩
  all_goals (simp (maxSteps := 4000000) only [*, n30k, n30K, n30mv, ↓RP, RB, aW, aC, aZ, Mx.bw, opnd, Mx.bF, Nat.reduceBEq, bK, aO, aB, ax, Mx.put, ofConst, ofCell, Mx.prune, killB, aK, putDst, au, aD, loadAt, bM, List.map, Nat.reduceAdd, cm, cn, forceAll, lend, lendA, aS, ay, bL, bare, bQ, keepOf, newB, ch, ck, cj, bc, ty3, ty9, ty53, ↓aa _ _ _ _ 6])
def hd_rostrumref_ValueFault_0 (p0 : GValue) (s : Int) : St := ⟨[(1, .rp [.i .i64 p0.fKind, .s p0.fText, .i .i64 p0.fCount, .sl 2 (ab GPair.row p0.fPairs), .sl 1 (ab aY p0.fItems), .sl 2 (ab GScore.row p0.fScores)]), (4, .v (.i .i64 s))], []⟩
def ou_rostrumref_ValueFault_0 (p0 : GValue) (r : Unit ⊕ Unit) : Option (Ex × St) := match r with
  | .inl r => some (.ret, ⟨[(2, .v (.i .i64 1))], []⟩)
  | .inr r => some (.normal, ⟨[(1, .rp [.i .i64 p0.fKind, .s p0.fText, .i .i64 p0.fCount, .sl 2 (ab GPair.row p0.fPairs), .sl 1 (ab aY p0.fItems), .sl 2 (ab GScore.row p0.fScores)])], []⟩)
theorem sl_rostrumref_ValueFault_0 (C : ak) (k_rostrumref_textMay : K_rostrumref_textMay C) (p0 : GValue) (p1 : Int) (o : Int ⊕ (Unit ⊕ Unit)) (hF : st_rostrumref_ValueFault_0 p0 p1 = some o) : evW TT C.wide n30 b30 0 (hd_rostrumref_ValueFault_0 p0 p1) = Sum.elim (fun s => evW TT C.wide n30 b30 0 (hd_rostrumref_ValueFault_0 p0 s)) (fun r => ou_rostrumref_ValueFault_0 p0 r) o := by
  rw [ct TT n30 fl30_0]
  revert hF
  unfold st_rostrumref_ValueFault_0
  try dsimp only
  refine boolY (fun h1 => ?_) (fun h1 => ?_)
  focus
    rintro ⟨⟩
  rotate_left 1
  refine matchX fun x1 h2 => ?_
  have g1 : decide (0 ≤ p1) = true := (cc h2).1
  have g2 : (ab aY p0.fItems)[(p1 : Int).toNat]? = some [.s x1] := ca _ h2
  have g3 := wide0 (k_rostrumref_textMay x1 _ (rostrumref_textMay_t x1))
  try simp only [mapR_nil] at g3
  refine boolX (fun h3 => ?_) (fun h3 => ?_)
  focus
    rintro ⟨⟩
  rotate_left 1
  rintro ⟨⟩
  all_goals (show cD _ _ _ (aH _ _ _ _ (Code.seq _ _) _) = _; simp (maxSteps := 4000000) only [*, hd_rostrumref_ValueFault_0, ou_rostrumref_ValueFault_0, n30a, n30A, n30k, n30K, n30mv, ↓RP, RB, ↓ah, aZ, be, aM, Mx.bw, opnd, Mx.bF, Nat.reduceBEq, bK, Mx.fit, bY, aO, aB, ax, Mx.put, ofConst, ofCell, Mx.prune, killB, aK, putDst, au, aD, loadAt, bM, List.map, cm, cn, cg, forceAll, bg, lend, lendA, aS, ay, bL, bare, bQ, keepOf, aliveOf, atO, newB, ch, ck, cj, ↓aj, ↓ai, ty3, ty9, ty25, ty50, ty53, ↓aa _ _ _ _ 9, ↓aa _ _ _ _ 11, ↓aa _ _ _ _ 12, ↓aa _ _ _ _ 10])
def hd_rostrumref_ValueFault_2 (p0 : GValue) (s : Int) : St := ⟨[(1, .rp [.i .i64 p0.fKind, .s p0.fText, .i .i64 p0.fCount, .sl 2 (ab GPair.row p0.fPairs), .sl 1 (ab aY p0.fItems), .sl 2 (ab GScore.row p0.fScores)]), (5, .v (.i .i64 s))], []⟩
def ou_rostrumref_ValueFault_2 (p0 : GValue) (r : Unit ⊕ Unit) : Option (Ex × St) := match r with
  | .inl r => some (.ret, ⟨[(2, .v (.i .i64 1))], []⟩)
  | .inr r => some (.normal, ⟨[(1, .rp [.i .i64 p0.fKind, .s p0.fText, .i .i64 p0.fCount, .sl 2 (ab GPair.row p0.fPairs), .sl 1 (ab aY p0.fItems), .sl 2 (ab GScore.row p0.fScores)])], []⟩)
theorem sl_rostrumref_ValueFault_2 (C : ak) (k_rostrumref_fieldMay : K_rostrumref_fieldMay C) (k_rostrumref_textMay : K_rostrumref_textMay C) (p0 : GValue) (p1 : Int) (o : Int ⊕ (Unit ⊕ Unit)) (hF : st_rostrumref_ValueFault_2 p0 p1 = some o) : evW TT C.wide n30 b30 2 (hd_rostrumref_ValueFault_2 p0 p1) = Sum.elim (fun s => evW TT C.wide n30 b30 2 (hd_rostrumref_ValueFault_2 p0 s)) (fun r => ou_rostrumref_ValueFault_2 p0 r) o := by
  rw [ct TT n30 fl30_2]
  revert hF
  unfold st_rostrumref_ValueFault_2
  try dsimp only
  refine boolY (fun h1 => ?_) (fun h1 => ?_)
  focus
    rintro ⟨⟩
  rotate_left 1
  refine matchX fun x1 h2 => ?_
  have g1 : decide (0 ≤ p1) = true := (cc h2).1
  have g2 : (ab GPair.row p0.fPairs)[(p1 : Int).toNat]? = some [.s x1.fField, .s x1.fText] := ca _ h2
  have g3 := wide0 (k_rostrumref_fieldMay x1.fField _ (rostrumref_fieldMay_t x1.fField))
  try simp only [mapR_nil] at g3
  refine boolY (fun h3 => ?_) (fun h3 => ?_)
  focus
    rintro ⟨⟩
  rotate_left 1
  have g4 := wide0 (k_rostrumref_textMay x1.fText _ (rostrumref_textMay_t x1.fText))
  try simp only [mapR_nil] at g4
  refine boolX (fun h4 => ?_) (fun h4 => ?_)
  focus
    rintro ⟨⟩
  rotate_left 1
  rintro ⟨⟩
  all_goals (show cD _ _ _ (aH _ _ _ _ (Code.seq _ _) _) = _; simp (maxSteps := 4000000) only [*, hd_rostrumref_ValueFault_2, ou_rostrumref_ValueFault_2, n30a, n30A, n30k, n30K, n30mv, ↓RP, RB, ↓ah, aW, aC, aZ, be, aM, Mx.bw, opnd, Mx.bF, Nat.reduceBEq, bK, Mx.fit, bY, aO, aB, ax, Mx.put, ofConst, ofCell, Mx.prune, killB, aK, putDst, au, aD, loadAt, bM, List.map, cm, cn, cg, forceAll, bg, lend, lendA, aS, ay, bL, bare, bQ, keepOf, aliveOf, atO, newB, ch, ck, cj, ↓aj, ↓ai, bc, ty3, ty9, ty25, ty49, ty53, ty101, ↓aa _ _ _ _ 14, ↓aa _ _ _ _ 16, ↓aa _ _ _ _ 17, ↓aa _ _ _ _ 15])
def hd_rostrumref_ValueFault_4 (p0 : GValue) (s : Int) : St := ⟨[(1, .rp [.i .i64 p0.fKind, .s p0.fText, .i .i64 p0.fCount, .sl 2 (ab GPair.row p0.fPairs), .sl 1 (ab aY p0.fItems), .sl 2 (ab GScore.row p0.fScores)]), (6, .v (.i .i64 s))], []⟩
def ou_rostrumref_ValueFault_4 (p0 : GValue) (r : Unit ⊕ Unit) : Option (Ex × St) := match r with
  | .inl r => some (.ret, ⟨[(2, .v (.i .i64 1))], []⟩)
  | .inr r => some (.normal, ⟨[(1, .rp [.i .i64 p0.fKind, .s p0.fText, .i .i64 p0.fCount, .sl 2 (ab GPair.row p0.fPairs), .sl 1 (ab aY p0.fItems), .sl 2 (ab GScore.row p0.fScores)])], []⟩)
theorem sl_rostrumref_ValueFault_4 (C : ak) (k_rostrumref_textMay : K_rostrumref_textMay C) (p0 : GValue) (p1 : Int) (o : Int ⊕ (Unit ⊕ Unit)) (hF : st_rostrumref_ValueFault_4 p0 p1 = some o) : evW TT C.wide n30 b30 4 (hd_rostrumref_ValueFault_4 p0 p1) = Sum.elim (fun s => evW TT C.wide n30 b30 4 (hd_rostrumref_ValueFault_4 p0 s)) (fun r => ou_rostrumref_ValueFault_4 p0 r) o := by
  rw [ct TT n30 fl30_4]
  revert hF
  unfold st_rostrumref_ValueFault_4
  try dsimp only
  refine boolY (fun h1 => ?_) (fun h1 => ?_)
  focus
    rintro ⟨⟩
  rotate_left 1
  refine matchX fun x1 h2 => ?_
  have g1 : decide (0 ≤ p1) = true := (cc h2).1
  have g2 : (ab GScore.row p0.fScores)[(p1 : Int).toNat]? = some [.s x1.fMember, .i .i64 x1.fN] := ca _ h2
  have g3 := wide0 (k_rostrumref_textMay x1.fMember _ (rostrumref_textMay_t x1.fMember))
  try simp only [mapR_nil] at g3
  refine boolX (fun h3 => ?_) (fun h3 => ?_)
  focus
    rintro ⟨⟩
  rotate_left 1
  rintro ⟨⟩
  all_goals (show cD _ _ _ (aH _ _ _ _ (Code.seq _ _) _) = _; simp (maxSteps := 4000000) only [*, hd_rostrumref_ValueFault_4, ou_rostrumref_ValueFault_4, n30a, n30A, n30k, n30K, n30mv, ↓RP, RB, ↓ah, aZ, be, aM, Mx.bw, opnd, Mx.bF, Nat.reduceBEq, bK, Mx.fit, bY, aO, aB, ax, Mx.put, ofConst, ofCell, Mx.prune, killB, aK, putDst, au, aD, loadAt, bM, List.map, cm, cn, cg, forceAll, bg, lend, lendA, aS, ay, bL, bare, bQ, keepOf, aliveOf, atO, newB, ch, ck, cj, ↓aj, ↓ai, ty3, ty9, ty25, ty51, ty53, ty105, ↓aa _ _ _ _ 19, ↓aa _ _ _ _ 21, ↓aa _ _ _ _ 22, ↓aa _ _ _ _ 20])
def hd_rostrumref_ValueFault_6 (p0 : GValue) (s : Int) : St := ⟨[(1, .rp [.i .i64 p0.fKind, .s p0.fText, .i .i64 p0.fCount, .sl 2 (ab GPair.row p0.fPairs), .sl 1 (ab aY p0.fItems), .sl 2 (ab GScore.row p0.fScores)]), (7, .v (.i .i64 s))], []⟩
def ou_rostrumref_ValueFault_6 (p0 : GValue) (r : Unit ⊕ Unit) : Option (Ex × St) := match r with
  | .inl r => some (.ret, ⟨[(2, .v (.i .i64 2))], []⟩)
  | .inr r => some (.normal, ⟨[(1, .rp [.i .i64 p0.fKind, .s p0.fText, .i .i64 p0.fCount, .sl 2 (ab GPair.row p0.fPairs), .sl 1 (ab aY p0.fItems), .sl 2 (ab GScore.row p0.fScores)])], []⟩)
theorem sl_rostrumref_ValueFault_6 (C : ak) (k_rostrumref_countMay : K_rostrumref_countMay C) (p0 : GValue) (p1 : Int) (o : Int ⊕ (Unit ⊕ Unit)) (hF : st_rostrumref_ValueFault_6 p0 p1 = some o) : evW TT C.wide n30 b30 6 (hd_rostrumref_ValueFault_6 p0 p1) = Sum.elim (fun s => evW TT C.wide n30 b30 6 (hd_rostrumref_ValueFault_6 p0 s)) (fun r => ou_rostrumref_ValueFault_6 p0 r) o := by
  rw [ct TT n30 fl30_6]
  revert hF
  unfold st_rostrumref_ValueFault_6
  try dsimp only
  refine boolY (fun h1 => ?_) (fun h1 => ?_)
  focus
    rintro ⟨⟩
  rotate_left 1
  refine matchX fun x1 h2 => ?_
  have g1 : decide (0 ≤ p1) = true := (cc h2).1
  have g2 : (ab GScore.row p0.fScores)[(p1 : Int).toNat]? = some [.s x1.fMember, .i .i64 x1.fN] := ca _ h2
  have g3 := wide0 (k_rostrumref_countMay x1.fN _ (rostrumref_countMay_t x1.fN))
  try simp only [mapR_nil] at g3
  refine boolX (fun h3 => ?_) (fun h3 => ?_)
  focus
    rintro ⟨⟩
  rotate_left 1
  rintro ⟨⟩
  all_goals (show cD _ _ _ (aH _ _ _ _ (Code.seq _ _) _) = _; simp (maxSteps := 4000000) only [*, hd_rostrumref_ValueFault_6, ou_rostrumref_ValueFault_6, n30a, n30A, n30k, n30K, n30mv, ↓RP, RB, ↓ah, aZ, be, aM, Mx.bw, opnd, Mx.bF, Nat.reduceBEq, bK, Mx.fit, bY, aO, aB, ax, Mx.put, ofConst, ofCell, Mx.prune, killB, aK, putDst, au, aD, loadAt, bM, List.map, cm, cn, cg, forceAll, bg, lend, lendA, aS, ay, bL, bare, bQ, keepOf, aliveOf, atO, newB, ch, ck, cj, ↓aj, ↓ai, ty3, ty25, ty51, ty53, ty105, ↓aa _ _ _ _ 26, ↓aa _ _ _ _ 28, ↓aa _ _ _ _ 29, ↓aa _ _ _ _ 27])
def hd_rostrumref_ValueFault_8 (p0 : GValue) (s : Int) : St := ⟨[(1, .rp [.i .i64 p0.fKind, .s p0.fText, .i .i64 p0.fCount, .sl 2 (ab GPair.row p0.fPairs), .sl 1 (ab aY p0.fItems), .sl 2 (ab GScore.row p0.fScores)]), (8, .v (.i .i64 s))], []⟩
def ou_rostrumref_ValueFault_8 (p0 : GValue) (r : Unit ⊕ Unit) : Option (Ex × St) := match r with
  | .inl r => some (.ret, ⟨[(2, .v (.i .i64 10))], []⟩)
  | .inr r => some (.normal, ⟨[(1, .rp [.i .i64 p0.fKind, .s p0.fText, .i .i64 p0.fCount, .sl 2 (ab GPair.row p0.fPairs), .sl 1 (ab aY p0.fItems), .sl 2 (ab GScore.row p0.fScores)])], []⟩)
theorem sl_rostrumref_ValueFault_8 (C : ak)  (p0 : GValue) (p1 : Int) (o : Int ⊕ (Unit ⊕ Unit)) (hF : st_rostrumref_ValueFault_8 p0 p1 = some o) : evW TT C.wide n30 b30 8 (hd_rostrumref_ValueFault_8 p0 p1) = Sum.elim (fun s => evW TT C.wide n30 b30 8 (hd_rostrumref_ValueFault_8 p0 s)) (fun r => ou_rostrumref_ValueFault_8 p0 r) o := by
  rw [ct TT n30 fl30_8]
  revert hF
  unfold st_rostrumref_ValueFault_8
  try dsimp only
  refine boolY (fun h1 => ?_) (fun h1 => ?_)
  focus
    rintro ⟨⟩
  rotate_left 1
  refine matchX fun x1 h2 => ?_
  have g1 : decide (0 ≤ (IntKind.i64.wrap (p1 - 1))) = true := (cc h2).1
  have g2 : (ab GPair.row p0.fPairs)[((IntKind.i64.wrap (p1 - 1)) : Int).toNat]? = some [.s x1.fField, .s x1.fText] := ca _ h2
  refine matchX fun x2 h3 => ?_
  have g3 : decide (0 ≤ p1) = true := (cc h3).1
  have g4 : (ab GPair.row p0.fPairs)[(p1 : Int).toNat]? = some [.s x2.fField, .s x2.fText] := ca _ h3
  refine boolX (fun h4 => ?_) (fun h4 => ?_)
  focus
    rintro ⟨⟩
  rotate_left 1
  rintro ⟨⟩
  all_goals (show cD _ _ _ (aH _ _ _ _ (Code.seq _ _) _) = _; simp (maxSteps := 4000000) only [*, hd_rostrumref_ValueFault_8, ou_rostrumref_ValueFault_8, n30a, n30A, n30k, n30K, n30f33, n30mv, ↓RP, RB, ↓ah, aZ, be, aM, Mx.bw, opnd, Mx.bF, Nat.reduceBEq, bK, Mx.fit, bY, aO, aB, ax, Mx.put, ofConst, ofCell, Mx.prune, killB, aK, putDst, au, aD, loadAt, bM, List.map, cm, cn, cg, bg, bB, fineK, aJ, aX, bX, bE, ce, bV, bk, aI, bh, Op.operands, keepOf, aliveOf, atO, ck, cj, ↓aj, ↓ai, bm, ty3, ty9, ty25, ty49, ty53, ty101, ↓aa _ _ _ _ 31, ↓am _ _ _ _ 33, ↓aa _ _ _ _ 34, ↓aa _ _ _ _ 32])
def hd_rostrumref_ValueFault_10 (p0 : GValue) (s : Int) : St := ⟨[(1, .rp [.i .i64 p0.fKind, .s p0.fText, .i .i64 p0.fCount, .sl 2 (ab GPair.row p0.fPairs), .sl 1 (ab aY p0.fItems), .sl 2 (ab GScore.row p0.fScores)]), (9, .v (.i .i64 s))], []⟩
def ou_rostrumref_ValueFault_10 (p0 : GValue) (r : Unit ⊕ Unit) : Option (Ex × St) := match r with
  | .inl r => some (.ret, ⟨[(2, .v (.i .i64 10))], []⟩)
  | .inr r => some (.normal, ⟨[(1, .rp [.i .i64 p0.fKind, .s p0.fText, .i .i64 p0.fCount, .sl 2 (ab GPair.row p0.fPairs), .sl 1 (ab aY p0.fItems), .sl 2 (ab GScore.row p0.fScores)])], []⟩)
theorem sl_rostrumref_ValueFault_10 (C : ak)  (p0 : GValue) (p1 : Int) (o : Int ⊕ (Unit ⊕ Unit)) (hF : st_rostrumref_ValueFault_10 p0 p1 = some o) : evW TT C.wide n30 b30 10 (hd_rostrumref_ValueFault_10 p0 p1) = Sum.elim (fun s => evW TT C.wide n30 b30 10 (hd_rostrumref_ValueFault_10 p0 s)) (fun r => ou_rostrumref_ValueFault_10 p0 r) o := by
  rw [ct TT n30 fl30_10]
  revert hF
  unfold st_rostrumref_ValueFault_10
  try dsimp only
  refine boolY (fun h1 => ?_) (fun h1 => ?_)
  focus
    rintro ⟨⟩
  rotate_left 1
  refine boolY (fun h2 => ?_) (fun h2 => ?_)
  focus
    rintro ⟨⟩
  rotate_left 1
  refine matchX fun x1 h3 => ?_
  have g1 : decide (0 ≤ (IntKind.i64.wrap (p1 - 1))) = true := (cc h3).1
  have g2 : (ab aY p0.fItems)[((IntKind.i64.wrap (p1 - 1)) : Int).toNat]? = some [.s x1] := ca _ h3
  refine matchX fun x2 h4 => ?_
  have g3 : decide (0 ≤ p1) = true := (cc h4).1
  have g4 : (ab aY p0.fItems)[(p1 : Int).toNat]? = some [.s x2] := ca _ h4
  refine boolX (fun h5 => ?_) (fun h5 => ?_)
  focus
    rintro ⟨⟩
  rotate_left 1
  rintro ⟨⟩
  all_goals (show cD _ _ _ (aH _ _ _ _ (Code.seq _ _) _) = _; simp (maxSteps := 4000000) only [*, hd_rostrumref_ValueFault_10, ou_rostrumref_ValueFault_10, n30a, n30A, n30k, n30K, n30f38, n30mv, ↓RP, RB, ↓ah, aW, aC, aZ, be, aM, Mx.bw, opnd, Mx.bF, Nat.reduceBEq, bK, Mx.fit, bY, aO, aB, ax, Mx.put, ofConst, ofCell, Mx.prune, killB, aK, putDst, au, aD, loadAt, bM, List.map, cm, cn, cg, bg, bB, fineK, aJ, aX, bX, bE, ce, bV, bk, aI, bh, Op.operands, keepOf, aliveOf, atO, ck, cj, ↓aj, ↓ai, bc, bm, ty3, ty9, ty25, ty50, ty53, ↓aa _ _ _ _ 36, ↓am _ _ _ _ 38, ↓aa _ _ _ _ 39, ↓aa _ _ _ _ 37])
def hd_rostrumref_ValueFault_12 (p0 : GValue) (s : Int) : St := ⟨[(1, .rp [.i .i64 p0.fKind, .s p0.fText, .i .i64 p0.fCount, .sl 2 (ab GPair.row p0.fPairs), .sl 1 (ab aY p0.fItems), .sl 2 (ab GScore.row p0.fScores)]), (10, .v (.i .i64 s))], []⟩
def ou_rostrumref_ValueFault_12 (p0 : GValue) (r : Unit ⊕ Unit) : Option (Ex × St) := match r with
  | .inl r => some (.ret, ⟨[(2, .v (.i .i64 10))], []⟩)
  | .inr r => some (.normal, ⟨[], []⟩)
theorem sl_rostrumref_ValueFault_12 (C : ak) (k_rostrumref_scoreAhead : K_rostrumref_scoreAhead C) (k_rostrumref_memberAt : K_rostrumref_memberAt C) (p0 : GValue) (p1 : Int) (o : Int ⊕ (Unit ⊕ Unit)) (hF : st_rostrumref_ValueFault_12 p0 p1 = some o) : evW TT C.wide n30 b30 12 (hd_rostrumref_ValueFault_12 p0 p1) = Sum.elim (fun s => evW TT C.wide n30 b30 12 (hd_rostrumref_ValueFault_12 p0 s)) (fun r => ou_rostrumref_ValueFault_12 p0 r) o := by
  rw [ct TT n30 fl30_12]
  revert hF
  unfold st_rostrumref_ValueFault_12
  try dsimp only
  refine boolY (fun h1 => ?_) (fun h1 => ?_)
  focus
    rintro ⟨⟩
  rotate_left 1
  refine matchX fun x1 h2 => ?_
  have g1 : decide (0 ≤ (IntKind.i64.wrap (p1 - 1))) = true := (cc h2).1
  have g2 : (ab GScore.row p0.fScores)[((IntKind.i64.wrap (p1 - 1)) : Int).toNat]? = some [.s x1.fMember, .i .i64 x1.fN] := ca _ h2
  refine matchX fun x2 h3 => ?_
  have g3 : decide (0 ≤ p1) = true := (cc h3).1
  have g4 : (ab GScore.row p0.fScores)[(p1 : Int).toNat]? = some [.s x2.fMember, .i .i64 x2.fN] := ca _ h3
  have g5 := wide0 (k_rostrumref_scoreAhead x1 x2 _ (rostrumref_scoreAhead_t x1 x2))
  try simp only [mapR_nil] at g5
  refine boolY (fun h4 => ?_) (fun h4 => ?_)
  focus
    rintro ⟨⟩
  rotate_left 1
  refine boolX (fun h5 => ?_) (fun _ => nofun)
  refine matchX fun x3 h6 => ?_
  have g6 := wide0 (k_rostrumref_memberAt (cI p0.fScores 0 p1) x2.fMember _ h6)
  try simp only [mapR_nil] at g6
  refine boolX (fun h7 => ?_) (fun h7 => ?_)
  focus
    rintro ⟨⟩
  rotate_left 1
  rintro ⟨⟩
  all_goals (show cD _ _ _ (aH _ _ _ _ (Code.seq _ _) _) = _; simp (maxSteps := 4000000) only [*, hd_rostrumref_ValueFault_12, ou_rostrumref_ValueFault_12, n30a, n30A, n30k, n30K, n30f43, n30mv, ↓RP, RB, ↓ah, aW, aC, aZ, be, aM, Mx.bw, opnd, Mx.bF, Nat.reduceBEq, bK, Mx.fit, bY, aO, aB, ax, Mx.put, ofConst, ofCell, Mx.prune, killB, aK, putDst, au, aD, loadAt, bM, List.map, Nat.reduceAdd, cm, cn, cg, forceAll, bound, bW, bg, br, lend, lendA, aS, ay, bL, bare, bQ, bB, fineK, aJ, aX, bX, bE, ce, bV, bk, aI, bh, Op.operands, keepOf, aliveOf, atO, newB, ch, ck, cj, ↓aj, ↓ai, bc, bm, Call.operands, ty3, ty9, ty25, ty51, ty53, ty105, ↓aa _ _ _ _ 41, ↓am _ _ _ _ 43, ↓aa _ _ _ _ 44, ↓aa _ _ _ _ 42])
theorem rg_rostrumref_ValueFault_k4v2 (C : ak)  (p0 : GValue) (p1 : Bool) (c : Code) (ho : cr 0 4 b30 = some c) (r : Bool) (hF : ck_rostrumref_ValueFault_k4v2 p0 p1 = some r) : @cR TT C.wide (evW TT C.wide n30 b30) n30 0 4 ⟨[(1, .rp [.i .i64 p0.fKind, .s p0.fText, .i .i64 p0.fCount, .sl 2 (ab GPair.row p0.fPairs), .sl 1 (ab aY p0.fItems), .sl 2 (ab GScore.row p0.fScores)]), (3, .v (.b p1))], []⟩ ⟨c⟩ = some (.normal, ⟨[(1, .rp [.i .i64 p0.fKind, .s p0.fText, .i .i64 p0.fCount, .sl 2 (ab GPair.row p0.fPairs), .sl 1 (ab aY p0.fItems), .sl 2 (ab GScore.row p0.fScores)]), (72, .v (.b r))], []⟩) := by
  have e := Option.some.inj (ho.symm.trans (rfl : cr 0 4 b30 = some _))
  subst e
  clear ho
  show aH _ _ _ _ _ _ = _
  revert hF
  unfold ck_rostrumref_ValueFault_k4v2
  refine boolX (fun h1 => ?_) (fun h1 => ?_)
  focus
    refine boolX (fun h2 => ?_) (fun h2 => ?_)
    focus
      refine boolX (fun h3 => ?_) (fun h3 => ?_)
      focus
        refine boolX (fun h4 => ?_) (fun h4 => ?_)
        focus
          refine boolX (fun h5 => ?_) (fun h5 => ?_)
          focus
            rintro ⟨⟩
          rotate_left 1
          rintro ⟨⟩
        rotate_left 2
        refine boolX (fun h5 => ?_) (fun h5 => ?_)
        focus
          rintro ⟨⟩
        rotate_left 1
        refine boolX (fun h6 => ?_) (fun h6 => ?_)
        focus
          rintro ⟨⟩
        rotate_left 1
        rintro ⟨⟩
      rotate_left 5
      unfold ck_rostrumref_ValueFault_k4v2_c0
      refine boolX (fun h4 => ?_) (fun h4 => ?_)
      focus
        rintro ⟨⟩
      rotate_left 1
      refine boolX (fun h5 => ?_) (fun h5 => ?_)
      focus
        refine boolX (fun h6 => ?_) (fun h6 => ?_)
        focus
          rintro ⟨⟩
        rotate_left 1
        rintro ⟨⟩
      rotate_left 2
      refine boolX (fun h6 => ?_) (fun h6 => ?_)
      focus
        rintro ⟨⟩
      rotate_left 1
      refine boolX (fun h7 => ?_) (fun h7 => ?_)
      focus
        rintro ⟨⟩
      rotate_left 1
      rintro ⟨⟩
    rotate_left 11
    unfold ck_rostrumref_ValueFault_k4v2_c2
    refine boolY (fun h3 => ?_) (fun h3 => ?_)
    focus
      rintro ⟨⟩
    rotate_left 1
    refine boolX (fun h4 => ?_) (fun h4 => ?_)
    focus
      refine boolX (fun h5 => ?_) (fun h5 => ?_)
      focus
        refine boolX (fun h6 => ?_) (fun h6 => ?_)
        focus
          rintro ⟨⟩
        rotate_left 1
        rintro ⟨⟩
      rotate_left 2
      refine boolX (fun h6 => ?_) (fun h6 => ?_)
      focus
        rintro ⟨⟩
      rotate_left 1
      refine boolX (fun h7 => ?_) (fun h7 => ?_)
      focus
        rintro ⟨⟩
      rotate_left 1
      rintro ⟨⟩
    rotate_left 5
    unfold ck_rostrumref_ValueFault_k4v2_c1
    refine boolX (fun h5 => ?_) (fun h5 => ?_)
    focus
      rintro ⟨⟩
    rotate_left 1
    refine boolX (fun h6 => ?_) (fun h6 => ?_)
    focus
      refine boolX (fun h7 => ?_) (fun h7 => ?_)
      focus
        rintro ⟨⟩
      rotate_left 1
      rintro ⟨⟩
    rotate_left 2
    refine boolX (fun h7 => ?_) (fun h7 => ?_)
    focus
      rintro ⟨⟩
    rotate_left 1
    refine boolX (fun h8 => ?_) (fun h8 => ?_)
    focus
      rintro ⟨⟩
    rotate_left 1
    rintro ⟨⟩
  rotate_left 23
  unfold ck_rostrumref_ValueFault_k4v2_c6
  refine boolY (fun h2 => ?_) (fun h2 => ?_)
  focus
    rintro ⟨⟩
  rotate_left 1
  refine boolX (fun h3 => ?_) (fun h3 => ?_)
  focus
    refine boolX (fun h4 => ?_) (fun h4 => ?_)
    focus
      refine boolX (fun h5 => ?_) (fun h5 => ?_)
      focus
        refine boolX (fun h6 => ?_) (fun h6 => ?_)
        focus
          rintro ⟨⟩
        rotate_left 1
        rintro ⟨⟩
      rotate_left 2
      refine boolX (fun h6 => ?_) (fun h6 => ?_)
      focus
        rintro ⟨⟩
      rotate_left 1
      refine boolX (fun h7 => ?_) (fun h7 => ?_)
      focus
        rintro ⟨⟩
      rotate_left 1
      rintro ⟨⟩
    rotate_left 5
    unfold ck_rostrumref_ValueFault_k4v2_c3
    refine boolX (fun h5 => ?_) (fun h5 => ?_)
    focus
      rintro ⟨⟩
    rotate_left 1
    refine boolX (fun h6 => ?_) (fun h6 => ?_)
    focus
      refine boolX (fun h7 => ?_) (fun h7 => ?_)
      focus
        rintro ⟨⟩
      rotate_left 1
      rintro ⟨⟩
    rotate_left 2
    refine boolX (fun h7 => ?_) (fun h7 => ?_)
    focus
      rintro ⟨⟩
    rotate_left 1
    refine boolX (fun h8 => ?_) (fun h8 => ?_)
    focus
      rintro ⟨⟩
    rotate_left 1
    rintro ⟨⟩
  rotate_left 11
  unfold ck_rostrumref_ValueFault_k4v2_c5
  refine boolY (fun h4 => ?_) (fun h4 => ?_)
  focus
    rintro ⟨⟩
  rotate_left 1
  refine boolX (fun h5 => ?_) (fun h5 => ?_)
  focus
    refine boolX (fun h6 => ?_) (fun h6 => ?_)
    focus
      refine boolX (fun h7 => ?_) (fun h7 => ?_)
      focus
        rintro ⟨⟩
      rotate_left 1
      rintro ⟨⟩
    rotate_left 2
    refine boolX (fun h7 => ?_) (fun h7 => ?_)
    focus
      rintro ⟨⟩
    rotate_left 1
    refine boolX (fun h8 => ?_) (fun h8 => ?_)
    focus
      rintro ⟨⟩
    rotate_left 1
    rintro ⟨⟩
  rotate_left 5
  unfold ck_rostrumref_ValueFault_k4v2_c4
  refine boolX (fun h6 => ?_) (fun h6 => ?_)
  focus
    rintro ⟨⟩
  rotate_left 1
  refine boolX (fun h7 => ?_) (fun h7 => ?_)
  focus
    refine boolX (fun h8 => ?_) (fun h8 => ?_)
    focus
      rintro ⟨⟩
    rotate_left 1
    rintro ⟨⟩
  rotate_left 2
  refine boolX (fun h8 => ?_) (fun h8 => ?_)
  focus
    rintro ⟨⟩
  rotate_left 1
  refine boolX (fun h9 => ?_) (fun h9 => ?_)
  focus
    rintro ⟨⟩
  rotate_left 1
  rintro ⟨⟩
  all_goals (simp (maxSteps := 4000000) only [*, n30k, n30K, n30mv, ↓RP, RB, aW, aC, aZ, Mx.bw, opnd, Mx.bF, Nat.reduceBEq, bK, aO, aB, ax, Mx.put, ofConst, ofCell, Mx.prune, killB, aK, putDst, au, aD, loadAt, bM, List.map, cm, cn, cg, keepOf, ck, cj, bne, bc, ty3, ty9, ty49, ty50, ty51, ty53, ↓aa _ _ _ _ 4])
theorem r_rostrumref_ValueFault (C : ak) (k_rostrumref_In : K_rostrumref_In C) (k_rostrumref_sizeOf : K_rostrumref_sizeOf C) (k_rostrumref_textMay : K_rostrumref_textMay C) (k_rostrumref_countMay : K_rostrumref_countMay C) (k_rostrumref_fieldMay : K_rostrumref_fieldMay C) (k_rostrumref_scoreAhead : K_rostrumref_scoreAhead C) (k_rostrumref_memberAt : K_rostrumref_memberAt C) (p0 : GValue) (r : Int) (hF : rostrumref_ValueFault p0 = some r) : cF TT C.wide (evW TT C.wide n30 b30) n30 Try.f30.results.toList (aQ Try.f30) [.agg [.v (.i .i64 p0.fKind), .v (.s p0.fText), .v (.i .i64 p0.fCount), .v (.sl 2 (ab GPair.row p0.fPairs)), .v (.sl 1 (ab aY p0.fItems)), .v (.sl 2 (ab GScore.row p0.fScores))]] [] = some (.v (.i .i64 r), []) := by
  revert hF
  unfold rostrumref_ValueFault
  have g1 := wide0 (k_rostrumref_In p0.fKind 1 6 _ (rostrumref_In_t p0.fKind 1 6))
  have g2 : rostrumref_In_v p0.fKind 1 6 = (decide (1 ≤ p0.fKind) && decide (p0.fKind ≤ 6)) := by first | rfl | (simp [rostrumref_In_v]; done) | (simp only [rostrumref_In_v]; decide)
  try simp only [mapR_nil] at g1
  refine boolY (fun h1 => ?_) (fun h1 => ?_)
  focus
    rintro ⟨⟩
  rotate_left 1
  refine boolY (fun h2 => ?_) (fun h2 => ?_)
  focus
    rintro ⟨⟩
  rotate_left 1
  refine boolX (fun h3 => ?_) (fun h3 => ?_)
  focus
    unfold rostrumref_ValueFault_c12
    have g3 := rg_rostrumref_ValueFault_k4 C p0 _ rfl (ck_rostrumref_ValueFault_k4_v p0) (ck_rostrumref_ValueFault_k4_t p0)
    try simp only [mapR_nil] at g3
    refine boolX (fun h4 => ?_) (fun h4 => ?_)
    focus
      rintro ⟨⟩
    rotate_left 1
    have g4 := rg_rostrumref_ValueFault_k6 C k_rostrumref_sizeOf k_rostrumref_In k_rostrumref_textMay p0 _ rfl (ck_rostrumref_ValueFault_k6_v p0) (ck_rostrumref_ValueFault_k6_t p0)
    try simp only [mapR_nil] at g4
    refine boolX (fun h5 => ?_) (fun h5 => ?_)
    focus
      rintro ⟨⟩
    rotate_left 1
    refine matchX ?_
    rintro (_ | _) h6
    focus
      dsimp only
      have g5 := cy _ _ (sl_rostrumref_ValueFault_0 C k_rostrumref_textMay p0) h6
      try simp only [hd_rostrumref_ValueFault_0, ou_rostrumref_ValueFault_0] at g5
      rintro ⟨⟩
    rotate_left 1
    dsimp only
    unfold rostrumref_ValueFault_c5
    have g6 := cy _ _ (sl_rostrumref_ValueFault_0 C k_rostrumref_textMay p0) h6
    try simp only [hd_rostrumref_ValueFault_0, ou_rostrumref_ValueFault_0] at g6
    refine matchX ?_
    rintro (_ | _) h7
    focus
      dsimp only
      have g7 := cy _ _ (sl_rostrumref_ValueFault_2 C k_rostrumref_fieldMay k_rostrumref_textMay p0) h7
      try simp only [hd_rostrumref_ValueFault_2, ou_rostrumref_ValueFault_2] at g7
      rintro ⟨⟩
    rotate_left 1
    dsimp only
    unfold rostrumref_ValueFault_c4
    have g8 := cy _ _ (sl_rostrumref_ValueFault_2 C k_rostrumref_fieldMay k_rostrumref_textMay p0) h7
    try simp only [hd_rostrumref_ValueFault_2, ou_rostrumref_ValueFault_2] at g8
    refine matchX ?_
    rintro (_ | _) h8
    focus
      dsimp only
      have g9 := cy _ _ (sl_rostrumref_ValueFault_4 C k_rostrumref_textMay p0) h8
      try simp only [hd_rostrumref_ValueFault_4, ou_rostrumref_ValueFault_4] at g9
      rintro ⟨⟩
    rotate_left 1
    dsimp only
    unfold rostrumref_ValueFault_c3
    have g10 := cy _ _ (sl_rostrumref_ValueFault_4 C k_rostrumref_textMay p0) h8
    have g11 := wide0 (k_rostrumref_countMay p0.fCount _ (rostrumref_countMay_t p0.fCount))
    try simp only [hd_rostrumref_ValueFault_4, ou_rostrumref_ValueFault_4] at g10 g11
    refine boolY (fun h9 => ?_) (fun h9 => ?_)
    focus
      rintro ⟨⟩
    rotate_left 1
    refine matchX ?_
    rintro (_ | _) h10
    focus
      dsimp only
      have g12 := cy _ _ (sl_rostrumref_ValueFault_6 C k_rostrumref_countMay p0) h10
      try simp only [hd_rostrumref_ValueFault_6, ou_rostrumref_ValueFault_6] at g12
      rintro ⟨⟩
    rotate_left 1
    dsimp only
    unfold rostrumref_ValueFault_c2
    have g13 := cy _ _ (sl_rostrumref_ValueFault_6 C k_rostrumref_countMay p0) h10
    try simp only [hd_rostrumref_ValueFault_6, ou_rostrumref_ValueFault_6] at g13
    refine matchX ?_
    rintro (_ | _) h11
    focus
      dsimp only
      have g14 := cy _ _ (sl_rostrumref_ValueFault_8 C p0) h11
      try simp only [hd_rostrumref_ValueFault_8, ou_rostrumref_ValueFault_8] at g14
      rintro ⟨⟩
    rotate_left 1
    dsimp only
    unfold rostrumref_ValueFault_c1
    have g15 := cy _ _ (sl_rostrumref_ValueFault_8 C p0) h11
    try simp only [hd_rostrumref_ValueFault_8, ou_rostrumref_ValueFault_8] at g15
    refine matchX ?_
    rintro (_ | _) h12
    focus
      dsimp only
      have g16 := cy _ _ (sl_rostrumref_ValueFault_10 C p0) h12
      try simp only [hd_rostrumref_ValueFault_10, ou_rostrumref_ValueFault_10] at g16
      rintro ⟨⟩
    rotate_left 1
    dsimp only
    unfold rostrumref_ValueFault_c0
    have g17 := cy _ _ (sl_rostrumref_ValueFault_10 C p0) h12
    try simp only [hd_rostrumref_ValueFault_10, ou_rostrumref_ValueFault_10] at g17
    refine matchX ?_
    rintro (_ | _) h13
    focus
      dsimp only
      have g18 := cy _ _ (sl_rostrumref_ValueFault_12 C k_rostrumref_scoreAhead k_rostrumref_memberAt p0) h13
      try simp only [hd_rostrumref_ValueFault_12, ou_rostrumref_ValueFault_12] at g18
      rintro ⟨⟩
    rotate_left 1
    dsimp only
    have g19 := cy _ _ (sl_rostrumref_ValueFault_12 C k_rostrumref_scoreAhead k_rostrumref_memberAt p0) h13
    try simp only [hd_rostrumref_ValueFault_12, ou_rostrumref_ValueFault_12] at g19
    rintro ⟨⟩
  rotate_left 11
  have g20 := rg_rostrumref_ValueFault_k4v2 C p0 (p0.fKind == 5) _ rfl (ck_rostrumref_ValueFault_k4v2_v p0 (p0.fKind == 5)) (ck_rostrumref_ValueFault_k4v2_t p0 (p0.fKind == 5))
  try simp only [mapR_nil] at g20
  refine boolX (fun h4 => ?_) (fun h4 => ?_)
  focus
    rintro ⟨⟩
  rotate_left 1
  have g4 := rg_rostrumref_ValueFault_k6 C k_rostrumref_sizeOf k_rostrumref_In k_rostrumref_textMay p0 _ rfl (ck_rostrumref_ValueFault_k6_v p0) (ck_rostrumref_ValueFault_k6_t p0)
  try simp only [mapR_nil] at g4
  refine boolX (fun h5 => ?_) (fun h5 => ?_)
  focus
    rintro ⟨⟩
  rotate_left 1
  refine matchX ?_
  rintro (_ | _) h6
  focus
    dsimp only
    have g5 := cy _ _ (sl_rostrumref_ValueFault_0 C k_rostrumref_textMay p0) h6
    try simp only [hd_rostrumref_ValueFault_0, ou_rostrumref_ValueFault_0] at g5
    rintro ⟨⟩
  rotate_left 1
  dsimp only
  unfold rostrumref_ValueFault_c11
  have g6 := cy _ _ (sl_rostrumref_ValueFault_0 C k_rostrumref_textMay p0) h6
  try simp only [hd_rostrumref_ValueFault_0, ou_rostrumref_ValueFault_0] at g6
  refine matchX ?_
  rintro (_ | _) h7
  focus
    dsimp only
    have g7 := cy _ _ (sl_rostrumref_ValueFault_2 C k_rostrumref_fieldMay k_rostrumref_textMay p0) h7
    try simp only [hd_rostrumref_ValueFault_2, ou_rostrumref_ValueFault_2] at g7
    rintro ⟨⟩
  rotate_left 1
  dsimp only
  unfold rostrumref_ValueFault_c10
  have g8 := cy _ _ (sl_rostrumref_ValueFault_2 C k_rostrumref_fieldMay k_rostrumref_textMay p0) h7
  try simp only [hd_rostrumref_ValueFault_2, ou_rostrumref_ValueFault_2] at g8
  refine matchX ?_
  rintro (_ | _) h8
  focus
    dsimp only
    have g9 := cy _ _ (sl_rostrumref_ValueFault_4 C k_rostrumref_textMay p0) h8
    try simp only [hd_rostrumref_ValueFault_4, ou_rostrumref_ValueFault_4] at g9
    rintro ⟨⟩
  rotate_left 1
  dsimp only
  unfold rostrumref_ValueFault_c9
  have g10 := cy _ _ (sl_rostrumref_ValueFault_4 C k_rostrumref_textMay p0) h8
  have g11 := wide0 (k_rostrumref_countMay p0.fCount _ (rostrumref_countMay_t p0.fCount))
  try simp only [hd_rostrumref_ValueFault_4, ou_rostrumref_ValueFault_4] at g10 g11
  refine boolY (fun h9 => ?_) (fun h9 => ?_)
  focus
    rintro ⟨⟩
  rotate_left 1
  refine matchX ?_
  rintro (_ | _) h10
  focus
    dsimp only
    have g12 := cy _ _ (sl_rostrumref_ValueFault_6 C k_rostrumref_countMay p0) h10
    try simp only [hd_rostrumref_ValueFault_6, ou_rostrumref_ValueFault_6] at g12
    rintro ⟨⟩
  rotate_left 1
  dsimp only
  unfold rostrumref_ValueFault_c8
  have g13 := cy _ _ (sl_rostrumref_ValueFault_6 C k_rostrumref_countMay p0) h10
  try simp only [hd_rostrumref_ValueFault_6, ou_rostrumref_ValueFault_6] at g13
  refine matchX ?_
  rintro (_ | _) h11
  focus
    dsimp only
    have g14 := cy _ _ (sl_rostrumref_ValueFault_8 C p0) h11
    try simp only [hd_rostrumref_ValueFault_8, ou_rostrumref_ValueFault_8] at g14
    rintro ⟨⟩
  rotate_left 1
  dsimp only
  unfold rostrumref_ValueFault_c7
  have g15 := cy _ _ (sl_rostrumref_ValueFault_8 C p0) h11
  try simp only [hd_rostrumref_ValueFault_8, ou_rostrumref_ValueFault_8] at g15
  refine matchX ?_
  rintro (_ | _) h12
  focus
    dsimp only
    have g16 := cy _ _ (sl_rostrumref_ValueFault_10 C p0) h12
    try simp only [hd_rostrumref_ValueFault_10, ou_rostrumref_ValueFault_10] at g16
    rintro ⟨⟩
  rotate_left 1
  dsimp only
  unfold rostrumref_ValueFault_c6
  have g17 := cy _ _ (sl_rostrumref_ValueFault_10 C p0) h12
  try simp only [hd_rostrumref_ValueFault_10, ou_rostrumref_ValueFault_10] at g17
  refine matchX ?_
  rintro (_ | _) h13
  focus
    dsimp only
    have g18 := cy _ _ (sl_rostrumref_ValueFault_12 C k_rostrumref_scoreAhead k_rostrumref_memberAt p0) h13
    try simp only [hd_rostrumref_ValueFault_12, ou_rostrumref_ValueFault_12] at g18
    rintro ⟨⟩
  rotate_left 1
  dsimp only
  have g19 := cy _ _ (sl_rostrumref_ValueFault_12 C k_rostrumref_scoreAhead k_rostrumref_memberAt p0) h13
  try simp only [hd_rostrumref_ValueFault_12, ou_rostrumref_ValueFault_12] at g19
  rintro ⟨⟩
  all_goals (rw [ba]; show cp _ _ _ (aH _ _ _ _ (Code.seq _ _) _) = _; simp (maxSteps := 4000000) only [*, res30, n30a, n30A, n30k, n30K, n30ro, n30mv, ↓RP, RB, enter, aW, aC, aZ, be, aM, Mx.bw, opnd, Mx.bF, Nat.reduceBEq, bK, Mx.fit, bI, bY, toVs, cellsOf, toV, aO, aB, ax, Mx.put, ofConst, ofCell, Mx.prune, killB, aK, putDst, au, aD, loadAt, bM, List.map, cm, cn, az, bn, bq, co, bN, bD, aL, lowC, forceAll, lend, lendA, aS, ay, bL, bare, bQ, keepOf, aliveOf, atO, newB, ch, ck, cj, ↓aj, ↓ai, bc, ty3, ty4, ty25, ty53, ↓aa _ _ _ _ 0, ↓aa _ _ _ _ 1, ↓aa _ _ _ _ 2, ↓aa _ _ _ _ 3, ↓bC _ _ _ _ 4, ↓aa _ _ _ _ 5, ↓bC _ _ _ _ 6, ↓aa _ _ _ _ 7, ↓aa _ _ _ _ 8, ↓aa _ _ _ _ 13, ↓aa _ _ _ _ 18, ↓aa _ _ _ _ 23, ↓aa _ _ _ _ 24, ↓aa _ _ _ _ 25, ↓aa _ _ _ _ 30, ↓aa _ _ _ _ 35, ↓aa _ _ _ _ 40, ↓aa _ _ _ _ 45])
def n36K : List (Nat × List Nat) := [(0, [1]), (1, [1, 14]), (2, [2]), (3, [1, 3]), (4, [1, 3, 19]), (5, [1, 3]), (6, [1, 3, 4]), (7, [1, 3, 4, 52]), (8, [2]), (9, [1, 3, 68]), (10, [2]), (11, [2])]
def n36A : List (Nat × List Nat × List Nat) := [(14, [], [1]), (19, [1, 3], []), (52, [], [1, 3, 4]), (68, [], [1, 3])]
def n36 : cC where
  keep := keepOf n36K
  ro := fun t => t == 1
  mv := fun _ => false
  give := fun _ => false
  free := fun i => match i with | 7 => [(14, 16), (15, 16), (14, 17), (15, 17), (14, 21), (15, 21), (16, 21), (17, 21), (18, 21), (19, 21), (20, 21), (14, 22), (15, 22), (16, 22), (17, 22), (18, 22), (19, 22), (20, 22)] | _ => []
  alive := aliveOf n36A
theorem n36a (t : Nat) (x : Bool) (e : Env) (S : aA) : aw n36 t x ⟨e, S⟩ = atO (aliveOf n36A t x) e S := atCond_of rfl t x e S
theorem n36k (i : Nat) : n36.keep i = keepOf n36K i := rfl
theorem n36ro (t : Nat) : n36.ro t = (t == 1) := rfl
theorem n36mv (t : Nat) : n36.mv t = (false) := rfl
theorem n36f7 : n36.free 7 = [(14, 16), (15, 16), (14, 17), (15, 17), (14, 21), (15, 21), (16, 21), (17, 21), (18, 21), (19, 21), (20, 21), (14, 22), (15, 22), (16, 22), (17, 22), (18, 22), (19, 22), (20, 22)] := rfl
theorem res36 : Try.f36.results.toList = [.tmp 2] := rfl
noncomputable def b36 : Code := aQ Try.f36
noncomputable def c36_0 : Code := (bz 0 (aQ Try.f36)).getD .skip
theorem fl36_0 : bz 0 b36 = some c36_0 := rfl
theorem rg_rostrumref_StoreFault_k1 (C : ak) (k_rostrumref_In : K_rostrumref_In C) (p0 : GStore) (c : Code) (ho : cr 0 1 b36 = some c) (r : Bool) (hF : ck_rostrumref_StoreFault_k1 p0 = some r) : @cR TT C.wide (evW TT C.wide n36 b36) n36 0 1 ⟨[(1, .rp [.i .i64 p0.fNow, .sl 8 (ab GEntry.row p0.fEntries)])], []⟩ ⟨c⟩ = some (.normal, ⟨[(1, .rp [.i .i64 p0.fNow, .sl 8 (ab GEntry.row p0.fEntries)]), (14, .v (.b r))], []⟩) := by
  have e := Option.some.inj (ho.symm.trans (rfl : cr 0 1 b36 = some _))
  subst e
  clear ho
  show aH _ _ _ _ _ _ = _
  revert hF
  unfold ck_rostrumref_StoreFault_k1
  have g1 := wide0 (k_rostrumref_In p0.fNow 0 1073741824 _ (rostrumref_In_t p0.fNow 0 1073741824))
  have g2 : rostrumref_In_v p0.fNow 0 1073741824 = (decide (0 ≤ p0.fNow) && decide (p0.fNow ≤ 1073741824)) := by first | rfl | (simp [rostrumref_In_v]; done) | (simp only [rostrumref_In_v]; decide)
  try simp only [mapR_nil] at g1
  refine boolY (fun h1 => ?_) (fun h1 => ?_)
  focus
    rintro ⟨⟩
  rotate_left 1
  refine boolX (fun h2 => ?_) (fun h2 => ?_)
  focus
    rintro ⟨⟩
  rotate_left 1
  rintro ⟨⟩
  all_goals (simp (maxSteps := 4000000) only [*, n36k, n36K, n36mv, ↓RP, RB, aW, aC, aZ, Mx.bw, opnd, Mx.bF, Nat.reduceBEq, bK, aO, aB, ax, Mx.put, ofConst, ofCell, Mx.prune, killB, aK, putDst, au, aD, loadAt, bM, List.map, cm, cn, cg, forceAll, lend, lendA, aS, ay, bL, bare, bQ, keepOf, newB, ch, ck, cj, bc, ty3, ty61, ty63, ↓aa _ _ _ _ 1])
theorem rg_rostrumref_StoreFault_k7v2 (C : ak) (k_rostrumref_fieldMay : K_rostrumref_fieldMay C) (k_rostrumref_ValueFault : K_rostrumref_ValueFault C) (p0 : GStore) (p1 : Int) (p2 : GEntry) (c : Code) (ho : cr 0 7 b36 = some c) (r : Bool) (hF : ck_rostrumref_StoreFault_k7v2 p0 p1 p2 = some r) : @cR TT C.wide (evW TT C.wide n36 b36) n36 0 7 ⟨[(1, .rp [.i .i64 p0.fNow, .sl 8 (ab GEntry.row p0.fEntries)]), (3, .v (.i .i64 p1)), (4, .ptr 0 0)], [[.v (.s p2.fKey), .v (.i .i64 p2.fValue.fKind), .v (.s p2.fValue.fText), .v (.i .i64 p2.fValue.fCount), .v (.sl 2 (ab GPair.row p2.fValue.fPairs)), .v (.sl 1 (ab aY p2.fValue.fItems)), .v (.sl 2 (ab GScore.row p2.fValue.fScores)), .v (.i .i64 p2.fUntil)]]⟩ ⟨c⟩ = some (.normal, ⟨[(1, .rp [.i .i64 p0.fNow, .sl 8 (ab GEntry.row p0.fEntries)]), (3, .v (.i .i64 p1)), (4, .ptr 0 0), (52, .v (.b r))], [[.v (.s p2.fKey), .v (.i .i64 p2.fValue.fKind), .v (.s p2.fValue.fText), .v (.i .i64 p2.fValue.fCount), .v (.sl 2 (ab GPair.row p2.fValue.fPairs)), .v (.sl 1 (ab aY p2.fValue.fItems)), .v (.sl 2 (ab GScore.row p2.fValue.fScores)), .v (.i .i64 p2.fUntil)]]⟩) := by
  have e := Option.some.inj (ho.symm.trans (rfl : cr 0 7 b36 = some _))
  subst e
  clear ho
  show aH _ _ _ _ _ _ = _
  revert hF
  unfold ck_rostrumref_StoreFault_k7v2
  have g1 := wide0 (k_rostrumref_fieldMay p2.fKey _ (rostrumref_fieldMay_t p2.fKey))
  try simp only [mapR_nil] at g1
  refine boolY (fun h1 => ?_) (fun h1 => ?_)
  focus
    rintro ⟨⟩
  rotate_left 1
  refine matchX fun x1 h2 => ?_
  have g2 := wide0 (k_rostrumref_ValueFault p2.fValue _ h2)
  try simp only [mapR_nil] at g2
  refine boolY (fun h3 => ?_) (fun h3 => ?_)
  focus
    rintro ⟨⟩
  rotate_left 1
  refine boolY (fun h4 => ?_) (fun h4 => ?_)
  focus
    rintro ⟨⟩
  rotate_left 1
  refine matchX fun x2 h5 => ?_
  have g3 : decide (0 ≤ (IntKind.i64.wrap (p1 - 1))) = true := (cc h5).1
  have g4 : (ab GEntry.row p0.fEntries)[((IntKind.i64.wrap (p1 - 1)) : Int).toNat]? = some [.s x2.fKey, .i .i64 x2.fValue.fKind, .s x2.fValue.fText, .i .i64 x2.fValue.fCount, .sl 2 (ab GPair.row x2.fValue.fPairs), .sl 1 (ab aY x2.fValue.fItems), .sl 2 (ab GScore.row x2.fValue.fScores), .i .i64 x2.fUntil] := ca _ h5
  rintro ⟨⟩
  all_goals (simp (maxSteps := 4000000) only [*, n36k, n36K, n36f7, n36mv, ↓RP, RB, aW, aC, aZ, Mx.bw, opnd, Mx.bF, Nat.reduceBEq, bK, aO, aB, ax, Mx.put, ofConst, ofCell, Mx.prune, killB, aK, putDst, au, aD, loadAt, bM, List.map, Nat.reduceAdd, cm, cn, forceAll, bg, lend, lendA, aS, ay, bL, bare, bQ, bB, Nat.reduceSub, fineK, aJ, aX, bX, bE, ce, bV, bk, aI, bh, Op.operands, keepOf, newB, ch, ck, cj, bne, bc, aP, bm, Call.operands, ty9, ty53, ty61, ty63, ty117, ↓am _ _ _ _ 7])
theorem rg_rostrumref_StoreFault_k9v2 (C : ak) (k_rostrumref_In : K_rostrumref_In C) (p0 : GStore) (p1 : Int) (p2 : GEntry) (c : Code) (ho : cr 0 9 b36 = some c) (r : Bool) (hF : ck_rostrumref_StoreFault_k9v2 p0 p1 p2 = some r) : @cR TT C.wide (evW TT C.wide n36 b36) n36 0 9 ⟨[(1, .rp [.i .i64 p0.fNow, .sl 8 (ab GEntry.row p0.fEntries)]), (3, .v (.i .i64 p1)), (4, .ptr 0 0)], [[.v (.s p2.fKey), .v (.i .i64 p2.fValue.fKind), .v (.s p2.fValue.fText), .v (.i .i64 p2.fValue.fCount), .v (.sl 2 (ab GPair.row p2.fValue.fPairs)), .v (.sl 1 (ab aY p2.fValue.fItems)), .v (.sl 2 (ab GScore.row p2.fValue.fScores)), .v (.i .i64 p2.fUntil)]]⟩ ⟨c⟩ = some (.normal, ⟨[(1, .rp [.i .i64 p0.fNow, .sl 8 (ab GEntry.row p0.fEntries)]), (3, .v (.i .i64 p1)), (68, .v (.b r))], [[.v (.s p2.fKey), .v (.i .i64 p2.fValue.fKind), .v (.s p2.fValue.fText), .v (.i .i64 p2.fValue.fCount), .v (.sl 2 (ab GPair.row p2.fValue.fPairs)), .v (.sl 1 (ab aY p2.fValue.fItems)), .v (.sl 2 (ab GScore.row p2.fValue.fScores)), .v (.i .i64 p2.fUntil)]]⟩) := by
  have e := Option.some.inj (ho.symm.trans (rfl : cr 0 9 b36 = some _))
  subst e
  clear ho
  show aH _ _ _ _ _ _ = _
  revert hF
  unfold ck_rostrumref_StoreFault_k9v2
  refine boolX (fun h1 => ?_) (fun h1 => ?_)
  focus
    rintro ⟨⟩
  rotate_left 1
  have g1 := wide0 (k_rostrumref_In p2.fUntil 0 1073741824 _ (rostrumref_In_t p2.fUntil 0 1073741824))
  have g2 : rostrumref_In_v p2.fUntil 0 1073741824 = (decide (0 ≤ p2.fUntil) && decide (p2.fUntil ≤ 1073741824)) := by first | rfl | (simp [rostrumref_In_v]; done) | (simp only [rostrumref_In_v]; decide)
  try simp only [mapR_nil] at g1
  refine boolY (fun h2 => ?_) (fun h2 => ?_)
  focus
    rintro ⟨⟩
  rotate_left 1
  refine boolX (fun h3 => ?_) (fun h3 => ?_)
  focus
    rintro ⟨⟩
  rotate_left 1
  rintro ⟨⟩
  all_goals (simp (maxSteps := 4000000) only [*, n36k, n36K, n36mv, ↓RP, RB, aW, aC, aZ, Mx.bw, opnd, Mx.bF, Nat.reduceBEq, bK, aO, aB, ax, Mx.put, ofConst, ofCell, Mx.prune, killB, aK, putDst, au, aD, loadAt, bM, List.map, cm, cn, forceAll, lend, lendA, aS, ay, bL, bare, bQ, keepOf, newB, ch, ck, cj, bne, bc, ty3, ty63, ty117, ↓aa _ _ _ _ 9])
def hd_rostrumref_StoreFault_0 (p0 : GStore) (s : Int) : St := ⟨[(1, .rp [.i .i64 p0.fNow, .sl 8 (ab GEntry.row p0.fEntries)]), (3, .v (.i .i64 s))], []⟩
def ou_rostrumref_StoreFault_0 (p0 : GStore) (r : GEntry ⊕ Unit) : Option (Ex × St) := match r with
  | .inl r => some (.ret, ⟨[(2, .v (.i .i64 13))], [[.v (.s r.fKey), .v (.i .i64 r.fValue.fKind), .v (.s r.fValue.fText), .v (.i .i64 r.fValue.fCount), .v (.sl 2 (ab GPair.row r.fValue.fPairs)), .v (.sl 1 (ab aY r.fValue.fItems)), .v (.sl 2 (ab GScore.row r.fValue.fScores)), .v (.i .i64 r.fUntil)]]⟩)
  | .inr r => some (.normal, ⟨[], []⟩)
theorem sl_rostrumref_StoreFault_0 (C : ak) (k_rostrumref_fieldMay : K_rostrumref_fieldMay C) (k_rostrumref_ValueFault : K_rostrumref_ValueFault C) (k_rostrumref_In : K_rostrumref_In C) (p0 : GStore) (p1 : Int) (o : Int ⊕ (GEntry ⊕ Unit)) (hF : st_rostrumref_StoreFault_0 p0 p1 = some o) : evW TT C.wide n36 b36 0 (hd_rostrumref_StoreFault_0 p0 p1) = Sum.elim (fun s => evW TT C.wide n36 b36 0 (hd_rostrumref_StoreFault_0 p0 s)) (fun r => ou_rostrumref_StoreFault_0 p0 r) o := by
  rw [ct TT n36 fl36_0]
  revert hF
  unfold st_rostrumref_StoreFault_0
  try dsimp only
  refine boolY (fun h1 => ?_) (fun h1 => ?_)
  focus
    rintro ⟨⟩
  rotate_left 1
  refine matchX fun x1 h2 => ?_
  have g1 : decide (0 ≤ p1) = true := (cc h2).1
  have g2 : (ab GEntry.row p0.fEntries)[(p1 : Int).toNat]? = some [.s x1.fKey, .i .i64 x1.fValue.fKind, .s x1.fValue.fText, .i .i64 x1.fValue.fCount, .sl 2 (ab GPair.row x1.fValue.fPairs), .sl 1 (ab aY x1.fValue.fItems), .sl 2 (ab GScore.row x1.fValue.fScores), .i .i64 x1.fUntil] := ca _ h2
  refine matchX fun x2 h3 => ?_
  have g3 := rg_rostrumref_StoreFault_k7v2 C k_rostrumref_fieldMay k_rostrumref_ValueFault p0 p1 x1 _ rfl _ h3
  try simp only [mapR_nil] at g3
  refine boolX (fun h4 => ?_) (fun h4 => ?_)
  focus
    rintro ⟨⟩
  rotate_left 1
  have g4 := rg_rostrumref_StoreFault_k9v2 C k_rostrumref_In p0 p1 x1 _ rfl (ck_rostrumref_StoreFault_k9v2_v p0 p1 x1) (ck_rostrumref_StoreFault_k9v2_t p0 p1 x1)
  try simp only [mapR_nil] at g4
  refine boolX (fun h5 => ?_) (fun h5 => ?_)
  focus
    rintro ⟨⟩
  rotate_left 1
  rintro ⟨⟩
  all_goals (show cD _ _ _ (aH _ _ _ _ (Code.seq _ _) _) = _; simp (maxSteps := 4000000) only [*, hd_rostrumref_StoreFault_0, ou_rostrumref_StoreFault_0, n36a, n36A, n36k, n36K, n36mv, ↓RP, RB, ↓ah, aZ, be, aM, Mx.bw, opnd, Mx.bF, Nat.reduceBEq, bK, Mx.fit, bI, bY, cellsOf, aO, aB, ax, Mx.put, ofConst, ofCell, Mx.prune, killB, killBs, aK, putDst, au, aD, loadAt, bM, List.map, Nat.reduceAdd, cm, cn, cg, bD, aL, lowC, bg, kill, bB, setCells, Nat.reduceLeDiff, lowA, bi, keepOf, aliveOf, atO, ck, cj, bne, ↓aj, ↓ai, ty3, ty25, ty61, ty63, ty117, ↓aa _ _ _ _ 4, ↓aa _ _ _ _ 6, ↓bC _ _ _ _ 7, ↓aa _ _ _ _ 8, ↓bC _ _ _ _ 9, ↓aa _ _ _ _ 10, ↓aa _ _ _ _ 5])
theorem r_rostrumref_StoreFault (C : ak) (k_rostrumref_In : K_rostrumref_In C) (k_rostrumref_fieldMay : K_rostrumref_fieldMay C) (k_rostrumref_ValueFault : K_rostrumref_ValueFault C) (p0 : GStore) (r : Int) (hF : rostrumref_StoreFault p0 = some r) : cF TT C.wide (evW TT C.wide n36 b36) n36 Try.f36.results.toList (aQ Try.f36) [.agg [.v (.i .i64 p0.fNow), .v (.sl 8 (ab GEntry.row p0.fEntries))]] [] = some (.v (.i .i64 r), []) := by
  revert hF
  unfold rostrumref_StoreFault
  have g1 := rg_rostrumref_StoreFault_k1 C k_rostrumref_In p0 _ rfl (ck_rostrumref_StoreFault_k1_v p0) (ck_rostrumref_StoreFault_k1_t p0)
  try simp only [mapR_nil] at g1
  refine boolX (fun h1 => ?_) (fun h1 => ?_)
  focus
    rintro ⟨⟩
  rotate_left 1
  refine matchX ?_
  rintro (x1 | _) h2
  focus
    dsimp only
    have g2 := cy _ _ (sl_rostrumref_StoreFault_0 C k_rostrumref_fieldMay k_rostrumref_ValueFault k_rostrumref_In p0) h2
    try simp only [hd_rostrumref_StoreFault_0, ou_rostrumref_StoreFault_0] at g2
    rintro ⟨⟩
  rotate_left 1
  dsimp only
  have g3 := cy _ _ (sl_rostrumref_StoreFault_0 C k_rostrumref_fieldMay k_rostrumref_ValueFault k_rostrumref_In p0) h2
  try simp only [hd_rostrumref_StoreFault_0, ou_rostrumref_StoreFault_0] at g3
  rintro ⟨⟩
  all_goals (rw [ba]; show cp _ _ _ (aH _ _ _ _ (Code.seq _ _) _) = _; simp (maxSteps := 4000000) only [*, res36, n36a, n36A, n36k, n36K, n36ro, ↓RP, RB, enter, aZ, be, aM, Mx.bw, opnd, Mx.bF, Nat.reduceBEq, bK, Mx.fit, bI, bY, toVs, cellsOf, toV, aO, aB, ax, Mx.put, ofConst, ofCell, Mx.prune, killB, List.map, az, bn, bq, co, bN, bD, aL, lowC, keepOf, aliveOf, atO, ↓aj, ↓ai, ty3, ty25, ty63, ↓aa _ _ _ _ 0, ↓bC _ _ _ _ 1, ↓aa _ _ _ _ 2, ↓aa _ _ _ _ 3, ↓aa _ _ _ _ 11])
def n92K : List (Nat × List Nat) := [(0, [1]), (1, [1, 7]), (2, [2]), (3, [1, 17]), (4, [2]), (5, [1, 3]), (6, [1, 3, 22]), (7, [1, 3]), (8, [1, 3, 31]), (9, [2]), (10, [35]), (11, [2]), (12, [2])]
def n92A : List (Nat × List Nat × List Nat) := [(7, [], [1]), (17, [], [1]), (22, [1, 3], [1]), (31, [], [1, 3]), (35, [], [])]
def n92 : cC where
  keep := keepOf n92K
  ro := fun t => t == 1
  mv := fun _ => false
  give := fun _ => false
  free := fun _ => []
  alive := aliveOf n92A
theorem n92a (t : Nat) (x : Bool) (e : Env) (S : aA) : aw n92 t x ⟨e, S⟩ = atO (aliveOf n92A t x) e S := atCond_of rfl t x e S
theorem n92k (i : Nat) : n92.keep i = keepOf n92K i := rfl
theorem n92ro (t : Nat) : n92.ro t = (t == 1) := rfl
theorem n92mv (t : Nat) : n92.mv t = (false) := rfl
theorem res92 : Try.f92.results.toList = [.tmp 2] := rfl
noncomputable def b92 : Code := aQ Try.f92
noncomputable def c92_0 : Code := (bz 0 (aQ Try.f92)).getD .skip
theorem fl92_0 : bz 0 b92 = some c92_0 := rfl
def hd_rostrumref_ReplyFault_0 (p0 : GReply) (s : Int) : St := ⟨[(1, .rp [.i .i64 p0.fCode, .s p0.fText, .i .i64 p0.fN, .sl 1 (ab aY p0.fList)]), (3, .v (.i .i64 s))], []⟩
def ou_rostrumref_ReplyFault_0 (p0 : GReply) (r : Unit ⊕ Unit) : Option (Ex × St) := match r with
  | .inl r => some (.ret, ⟨[(2, .v (.i .i64 1))], []⟩)
  | .inr r => some (.normal, ⟨[(1, .rp [.i .i64 p0.fCode, .s p0.fText, .i .i64 p0.fN, .sl 1 (ab aY p0.fList)])], []⟩)
theorem sl_rostrumref_ReplyFault_0 (C : ak) (k_rostrumref_textMay : K_rostrumref_textMay C) (p0 : GReply) (p1 : Int) (o : Int ⊕ (Unit ⊕ Unit)) (hF : st_rostrumref_ReplyFault_0 p0 p1 = some o) : evW TT C.wide n92 b92 0 (hd_rostrumref_ReplyFault_0 p0 p1) = Sum.elim (fun s => evW TT C.wide n92 b92 0 (hd_rostrumref_ReplyFault_0 p0 s)) (fun r => ou_rostrumref_ReplyFault_0 p0 r) o := by
  rw [ct TT n92 fl92_0]
  revert hF
  unfold st_rostrumref_ReplyFault_0
  try dsimp only
  refine boolY (fun h1 => ?_) (fun h1 => ?_)
  focus
    rintro ⟨⟩
  rotate_left 1
  refine matchX fun x1 h2 => ?_
  have g1 : decide (0 ≤ p1) = true := (cc h2).1
  have g2 : (ab aY p0.fList)[(p1 : Int).toNat]? = some [.s x1] := ca _ h2
  have g3 := wide0 (k_rostrumref_textMay x1 _ (rostrumref_textMay_t x1))
  try simp only [mapR_nil] at g3
  refine boolX (fun h3 => ?_) (fun h3 => ?_)
  focus
    rintro ⟨⟩
  rotate_left 1
  rintro ⟨⟩
  all_goals (show cD _ _ _ (aH _ _ _ _ (Code.seq _ _) _) = _; simp (maxSteps := 4000000) only [*, hd_rostrumref_ReplyFault_0, ou_rostrumref_ReplyFault_0, n92a, n92A, n92k, n92K, n92mv, ↓RP, RB, ↓ah, aZ, be, aM, Mx.bw, opnd, Mx.bF, Nat.reduceBEq, bK, Mx.fit, bY, aO, aB, ax, Mx.put, ofConst, ofCell, Mx.prune, killB, aK, putDst, au, aD, loadAt, bM, List.map, cm, cn, cg, forceAll, bg, lend, lendA, aS, ay, bL, bare, bQ, keepOf, aliveOf, atO, newB, ch, ck, cj, ↓aj, ↓ai, ↓aa, ty3, ty9, ty25, ty50, ty128])
theorem r_rostrumref_ReplyFault (C : ak) (k_rostrumref_In : K_rostrumref_In C) (k_rostrumref_textMay : K_rostrumref_textMay C) (k_rostrumref_countMay : K_rostrumref_countMay C) (p0 : GReply) (r : Int) (hF : rostrumref_ReplyFault p0 = some r) : cF TT C.wide (evW TT C.wide n92 b92) n92 Try.f92.results.toList (aQ Try.f92) [.agg [.v (.i .i64 p0.fCode), .v (.s p0.fText), .v (.i .i64 p0.fN), .v (.sl 1 (ab aY p0.fList))]] [] = some (.v (.i .i64 r), []) := by
  revert hF
  unfold rostrumref_ReplyFault
  have g1 := wide0 (k_rostrumref_In p0.fCode 0 13 _ (rostrumref_In_t p0.fCode 0 13))
  have g2 : rostrumref_In_v p0.fCode 0 13 = (decide (0 ≤ p0.fCode) && decide (p0.fCode ≤ 13)) := by first | rfl | (simp [rostrumref_In_v]; done) | (simp only [rostrumref_In_v]; decide)
  try simp only [mapR_nil] at g1
  refine boolY (fun h1 => ?_) (fun h1 => ?_)
  focus
    rintro ⟨⟩
  rotate_left 1
  refine boolY (fun h2 => ?_) (fun h2 => ?_)
  focus
    rintro ⟨⟩
  rotate_left 1
  have g3 := wide0 (k_rostrumref_textMay p0.fText _ (rostrumref_textMay_t p0.fText))
  try simp only [mapR_nil] at g3
  refine boolY (fun h3 => ?_) (fun h3 => ?_)
  focus
    rintro ⟨⟩
  rotate_left 1
  refine boolX (fun h4 => ?_) (fun h4 => ?_)
  focus
    rintro ⟨⟩
  rotate_left 1
  refine matchX ?_
  rintro (_ | _) h5
  focus
    dsimp only
    have g4 := cy _ _ (sl_rostrumref_ReplyFault_0 C k_rostrumref_textMay p0) h5
    try simp only [hd_rostrumref_ReplyFault_0, ou_rostrumref_ReplyFault_0] at g4
    rintro ⟨⟩
  rotate_left 1
  dsimp only
  have g5 := cy _ _ (sl_rostrumref_ReplyFault_0 C k_rostrumref_textMay p0) h5
  have g6 := wide0 (k_rostrumref_countMay p0.fN _ (rostrumref_countMay_t p0.fN))
  try simp only [hd_rostrumref_ReplyFault_0, ou_rostrumref_ReplyFault_0] at g5 g6
  refine boolX (fun h6 => ?_) (fun h6 => ?_)
  focus
    rintro ⟨⟩
  rotate_left 1
  rintro ⟨⟩
  all_goals (rw [ba]; show cp _ _ _ (aH _ _ _ _ (Code.seq _ _) _) = _; simp (maxSteps := 4000000) only [*, res92, n92a, n92A, n92k, n92K, n92ro, n92mv, ↓RP, RB, enter, aW, aC, aZ, be, aM, Mx.bw, opnd, Mx.bF, Nat.reduceBEq, bK, Mx.fit, bI, bY, toVs, cellsOf, toV, aO, aB, ax, Mx.put, ofConst, ofCell, Mx.prune, killB, aK, putDst, au, aD, loadAt, bM, List.map, cm, cn, cg, az, bn, bq, co, bN, bD, aL, lowC, forceAll, lend, lendA, aS, ay, bL, bare, bQ, keepOf, aliveOf, atO, newB, ch, ck, cj, ↓aj, ↓ai, ↓aa, bc, ty3, ty9, ty25, ty50, ty128])
def n42K : List (Nat × List Nat) := [(0, [1]), (1, [1, 20]), (2, [2]), (3, [1, 3]), (4, [1, 3, 25]), (5, [1, 3]), (6, [1, 3, 4]), (7, [1, 3, 80]), (8, [2]), (9, [2])]
def n42A : List (Nat × List Nat × List Nat) := [(20, [], [1]), (25, [1, 3], []), (80, [], [1, 3])]
def n42 : cC where
  keep := keepOf n42K
  ro := fun t => t == 1
  mv := fun _ => false
  give := fun _ => false
  free := fun i => match i with | 7 => [(5, 7), (6, 7), (5, 8), (6, 8), (15, 17), (16, 17), (15, 18), (16, 18), (15, 22), (16, 22), (17, 22), (18, 22), (19, 22), (20, 22), (21, 22), (15, 23), (16, 23), (17, 23), (18, 23), (19, 23), (20, 23), (21, 23), (34, 36), (35, 36), (34, 37), (35, 37), (34, 38), (35, 38)] | _ => []
  alive := aliveOf n42A
theorem n42a (t : Nat) (x : Bool) (e : Env) (S : aA) : aw n42 t x ⟨e, S⟩ = atO (aliveOf n42A t x) e S := atCond_of rfl t x e S
theorem n42k (i : Nat) : n42.keep i = keepOf n42K i := rfl
theorem n42ro (t : Nat) : n42.ro t = (t == 1) := rfl
theorem n42mv (t : Nat) : n42.mv t = (false) := rfl
theorem n42f7 : n42.free 7 = [(5, 7), (6, 7), (5, 8), (6, 8), (15, 17), (16, 17), (15, 18), (16, 18), (15, 22), (16, 22), (17, 22), (18, 22), (19, 22), (20, 22), (21, 22), (15, 23), (16, 23), (17, 23), (18, 23), (19, 23), (20, 23), (21, 23), (34, 36), (35, 36), (34, 37), (35, 37), (34, 38), (35, 38)] := rfl
theorem res42 : Try.f42.results.toList = [.tmp 2] := rfl
noncomputable def b42 : Code := aQ Try.f42
noncomputable def c42_0 : Code := (bz 0 (aQ Try.f42)).getD .skip
theorem fl42_0 : bz 0 b42 = some c42_0 := rfl
theorem rg_rostrumref_MachineFault_k1 (C : ak) (k_rostrumref_StoreFault : K_rostrumref_StoreFault C) (k_rostrumref_In : K_rostrumref_In C) (p0 : GMachine) (c : Code) (ho : cr 0 1 b42 = some c) (r : Bool) (hF : ck_rostrumref_MachineFault_k1 p0 = some r) : @cR TT C.wide (evW TT C.wide n42 b42) n42 0 1 ⟨[(1, .rp [.i .i64 p0.fStore.fNow, .sl 8 (ab GEntry.row p0.fStore.fEntries), .i .i64 p0.fNext, .sl 7 (ab GClient.row p0.fClients)])], []⟩ ⟨c⟩ = some (.normal, ⟨[(1, .rp [.i .i64 p0.fStore.fNow, .sl 8 (ab GEntry.row p0.fStore.fEntries), .i .i64 p0.fNext, .sl 7 (ab GClient.row p0.fClients)]), (20, .v (.b r))], []⟩) := by
  have e := Option.some.inj (ho.symm.trans (rfl : cr 0 1 b42 = some _))
  subst e
  clear ho
  show aH _ _ _ _ _ _ = _
  revert hF
  unfold ck_rostrumref_MachineFault_k1
  refine matchX fun x1 h1 => ?_
  have g1 := wide0 (k_rostrumref_StoreFault p0.fStore _ h1)
  try simp only [mapR_nil] at g1
  refine boolY (fun h2 => ?_) (fun h2 => ?_)
  focus
    rintro ⟨⟩
  rotate_left 1
  have g2 := wide0 (k_rostrumref_In p0.fNext 1 1048577 _ (rostrumref_In_t p0.fNext 1 1048577))
  have g3 : rostrumref_In_v p0.fNext 1 1048577 = (decide (1 ≤ p0.fNext) && decide (p0.fNext ≤ 1048577)) := by first | rfl | (simp [rostrumref_In_v]; done) | (simp only [rostrumref_In_v]; decide)
  try simp only [mapR_nil] at g2
  refine boolY (fun h3 => ?_) (fun h3 => ?_)
  focus
    rintro ⟨⟩
  rotate_left 1
  refine boolX (fun h4 => ?_) (fun h4 => ?_)
  focus
    rintro ⟨⟩
  rotate_left 1
  rintro ⟨⟩
  all_goals (simp (maxSteps := 4000000) only [*, n42k, n42K, n42mv, ↓RP, RB, aW, aC, aZ, Mx.bw, opnd, Mx.bF, Nat.reduceBEq, bK, aO, aB, ax, Mx.put, ofConst, ofCell, Mx.prune, killB, aK, putDst, au, aD, loadAt, bM, List.map, Nat.reduceAdd, cm, cn, cg, forceAll, lend, lendA, aS, ay, bL, bare, bQ, keepOf, newB, ch, ck, cj, bne, bc, ty3, ty63, ty71, ty73, ↓aa _ _ _ _ 1])
theorem rg_rostrumref_MachineFault_k7v2 (C : ak) (k_rostrumref_numberMay : K_rostrumref_numberMay C) (k_rostrumref_In : K_rostrumref_In C) (k_rostrumref_ReplyFault : K_rostrumref_ReplyFault C) (p0 : GMachine) (p1 : Int) (p2 : GClient) (c : Code) (ho : cr 0 7 b42 = some c) (r : Bool) (hF : ck_rostrumref_MachineFault_k7v2 p0 p1 p2 = some r) : @cR TT C.wide (evW TT C.wide n42 b42) n42 0 7 ⟨[(1, .rp [.i .i64 p0.fStore.fNow, .sl 8 (ab GEntry.row p0.fStore.fEntries), .i .i64 p0.fNext, .sl 7 (ab GClient.row p0.fClients)]), (3, .v (.i .i64 p1)), (4, .ptr 0 0)], [[.v (.i .i64 p2.fId), .v (.i .i64 p2.fSeq), .v (.i .i64 p2.fTime), .v (.i .i64 p2.fReply.fCode), .v (.s p2.fReply.fText), .v (.i .i64 p2.fReply.fN), .v (.sl 1 (ab aY p2.fReply.fList))]]⟩ ⟨c⟩ = some (.normal, ⟨[(1, .rp [.i .i64 p0.fStore.fNow, .sl 8 (ab GEntry.row p0.fStore.fEntries), .i .i64 p0.fNext, .sl 7 (ab GClient.row p0.fClients)]), (3, .v (.i .i64 p1)), (80, .v (.b r))], [[.v (.i .i64 p2.fId), .v (.i .i64 p2.fSeq), .v (.i .i64 p2.fTime), .v (.i .i64 p2.fReply.fCode), .v (.s p2.fReply.fText), .v (.i .i64 p2.fReply.fN), .v (.sl 1 (ab aY p2.fReply.fList))]]⟩) := by
  have e := Option.some.inj (ho.symm.trans (rfl : cr 0 7 b42 = some _))
  subst e
  clear ho
  show aH _ _ _ _ _ _ = _
  revert hF
  unfold ck_rostrumref_MachineFault_k7v2
  have g1 := wide0 (k_rostrumref_numberMay p2.fId _ (rostrumref_numberMay_t p2.fId))
  try simp only [mapR_nil] at g1
  refine boolY (fun h1 => ?_) (fun h1 => ?_)
  focus
    rintro ⟨⟩
  rotate_left 1
  unfold ck_rostrumref_MachineFault_k7v2_c1
  refine boolX (fun h2 => ?_) (fun h2 => ?_)
  focus
    rintro ⟨⟩
  rotate_left 1
  refine boolY (fun h3 => ?_) (fun h3 => ?_)
  focus
    have g2 := wide0 (k_rostrumref_In p2.fSeq 0 1048576 _ (rostrumref_In_t p2.fSeq 0 1048576))
    have g3 : rostrumref_In_v p2.fSeq 0 1048576 = (decide (0 ≤ p2.fSeq) && decide (p2.fSeq ≤ 1048576)) := by first | rfl | (simp [rostrumref_In_v]; done) | (simp only [rostrumref_In_v]; decide)
    try simp only [mapR_nil] at g2
    refine boolY (fun h4 => ?_) (fun h4 => ?_)
    focus
      rintro ⟨⟩
    rotate_left 1
    refine boolY (fun h5 => ?_) (fun h5 => ?_)
    focus
      rintro ⟨⟩
    rotate_left 1
    have g4 := wide0 (k_rostrumref_In p2.fTime 0 p0.fStore.fNow _ (rostrumref_In_t p2.fTime 0 p0.fStore.fNow))
    have g5 : rostrumref_In_v p2.fTime 0 p0.fStore.fNow = (decide (0 ≤ p2.fTime) && decide (p2.fTime ≤ p0.fStore.fNow)) := by first | rfl | (simp [rostrumref_In_v]; done) | (simp only [rostrumref_In_v]; decide)
    try simp only [mapR_nil] at g4
    refine boolY (fun h6 => ?_) (fun h6 => ?_)
    focus
      rintro ⟨⟩
    rotate_left 1
    refine boolY (fun h7 => ?_) (fun h7 => ?_)
    focus
      rintro ⟨⟩
    rotate_left 1
    refine matchX fun x1 h8 => ?_
    have g6 := wide0 (k_rostrumref_ReplyFault p2.fReply _ h8)
    try simp only [mapR_nil] at g6
    rintro ⟨⟩
  rotate_left 5
  unfold ck_rostrumref_MachineFault_k7v2_c0
  refine matchX fun x1 h4 => ?_
  have g7 : decide (0 ≤ (IntKind.i64.wrap (p1 - 1))) = true := (cc h4).1
  have g8 : (ab GClient.row p0.fClients)[((IntKind.i64.wrap (p1 - 1)) : Int).toNat]? = some [.i .i64 x1.fId, .i .i64 x1.fSeq, .i .i64 x1.fTime, .i .i64 x1.fReply.fCode, .s x1.fReply.fText, .i .i64 x1.fReply.fN, .sl 1 (ab aY x1.fReply.fList)] := ca _ h4
  refine boolX (fun h5 => ?_) (fun h5 => ?_)
  focus
    rintro ⟨⟩
  rotate_left 1
  have g2 := wide0 (k_rostrumref_In p2.fSeq 0 1048576 _ (rostrumref_In_t p2.fSeq 0 1048576))
  have g3 : rostrumref_In_v p2.fSeq 0 1048576 = (decide (0 ≤ p2.fSeq) && decide (p2.fSeq ≤ 1048576)) := by first | rfl | (simp [rostrumref_In_v]; done) | (simp only [rostrumref_In_v]; decide)
  try simp only [mapR_nil] at g2
  refine boolY (fun h6 => ?_) (fun h6 => ?_)
  focus
    rintro ⟨⟩
  rotate_left 1
  refine boolY (fun h7 => ?_) (fun h7 => ?_)
  focus
    rintro ⟨⟩
  rotate_left 1
  have g4 := wide0 (k_rostrumref_In p2.fTime 0 p0.fStore.fNow _ (rostrumref_In_t p2.fTime 0 p0.fStore.fNow))
  have g5 : rostrumref_In_v p2.fTime 0 p0.fStore.fNow = (decide (0 ≤ p2.fTime) && decide (p2.fTime ≤ p0.fStore.fNow)) := by first | rfl | (simp [rostrumref_In_v]; done) | (simp only [rostrumref_In_v]; decide)
  try simp only [mapR_nil] at g4
  refine boolY (fun h8 => ?_) (fun h8 => ?_)
  focus
    rintro ⟨⟩
  rotate_left 1
  refine boolY (fun h9 => ?_) (fun h9 => ?_)
  focus
    rintro ⟨⟩
  rotate_left 1
  refine matchX fun x2 h10 => ?_
  have g9 := wide0 (k_rostrumref_ReplyFault p2.fReply _ h10)
  try simp only [mapR_nil] at g9
  rintro ⟨⟩
  all_goals (simp (maxSteps := 4000000) only [*, n42k, n42K, n42f7, n42mv, ↓RP, RB, aW, aC, aZ, Mx.bw, opnd, Mx.bF, Nat.reduceBEq, bK, aO, aB, ax, Mx.put, ofConst, ofCell, Mx.prune, killB, aK, putDst, au, aD, loadAt, bM, List.map, Nat.reduceAdd, cm, cn, forceAll, bg, lend, lendA, aS, ay, bL, bare, bQ, bB, Nat.reduceSub, fineK, aJ, aX, bX, bE, ce, bV, bk, aI, bh, Op.operands, keepOf, newB, ch, ck, cj, bne, bc, aP, bm, Call.operands, ty3, ty63, ty71, ty73, ty128, ty130, ↓am _ _ _ _ 7])
def hd_rostrumref_MachineFault_0 (p0 : GMachine) (s : Int) : St := ⟨[(1, .rp [.i .i64 p0.fStore.fNow, .sl 8 (ab GEntry.row p0.fStore.fEntries), .i .i64 p0.fNext, .sl 7 (ab GClient.row p0.fClients)]), (3, .v (.i .i64 s))], []⟩
def ou_rostrumref_MachineFault_0 (p0 : GMachine) (r : GClient ⊕ Unit) : Option (Ex × St) := match r with
  | .inl r => some (.ret, ⟨[(2, .v (.i .i64 13))], [[.v (.i .i64 r.fId), .v (.i .i64 r.fSeq), .v (.i .i64 r.fTime), .v (.i .i64 r.fReply.fCode), .v (.s r.fReply.fText), .v (.i .i64 r.fReply.fN), .v (.sl 1 (ab aY r.fReply.fList))]]⟩)
  | .inr r => some (.normal, ⟨[], []⟩)
theorem sl_rostrumref_MachineFault_0 (C : ak) (k_rostrumref_numberMay : K_rostrumref_numberMay C) (k_rostrumref_In : K_rostrumref_In C) (k_rostrumref_ReplyFault : K_rostrumref_ReplyFault C) (p0 : GMachine) (p1 : Int) (o : Int ⊕ (GClient ⊕ Unit)) (hF : st_rostrumref_MachineFault_0 p0 p1 = some o) : evW TT C.wide n42 b42 0 (hd_rostrumref_MachineFault_0 p0 p1) = Sum.elim (fun s => evW TT C.wide n42 b42 0 (hd_rostrumref_MachineFault_0 p0 s)) (fun r => ou_rostrumref_MachineFault_0 p0 r) o := by
  rw [ct TT n42 fl42_0]
  revert hF
  unfold st_rostrumref_MachineFault_0
  try dsimp only
  refine boolY (fun h1 => ?_) (fun h1 => ?_)
  focus
    rintro ⟨⟩
  rotate_left 1
  refine matchX fun x1 h2 => ?_
  have g1 : decide (0 ≤ p1) = true := (cc h2).1
  have g2 : (ab GClient.row p0.fClients)[(p1 : Int).toNat]? = some [.i .i64 x1.fId, .i .i64 x1.fSeq, .i .i64 x1.fTime, .i .i64 x1.fReply.fCode, .s x1.fReply.fText, .i .i64 x1.fReply.fN, .sl 1 (ab aY x1.fReply.fList)] := ca _ h2
  refine matchX fun x2 h3 => ?_
  have g3 := rg_rostrumref_MachineFault_k7v2 C k_rostrumref_numberMay k_rostrumref_In k_rostrumref_ReplyFault p0 p1 x1 _ rfl _ h3
  try simp only [mapR_nil] at g3
  refine boolX (fun h4 => ?_) (fun h4 => ?_)
  focus
    rintro ⟨⟩
  rotate_left 1
  rintro ⟨⟩
  all_goals (show cD _ _ _ (aH _ _ _ _ (Code.seq _ _) _) = _; simp (maxSteps := 4000000) only [*, hd_rostrumref_MachineFault_0, ou_rostrumref_MachineFault_0, n42a, n42A, n42k, n42K, n42mv, ↓RP, RB, ↓ah, aZ, be, aM, Mx.bw, opnd, Mx.bF, Nat.reduceBEq, bK, Mx.fit, bI, bY, cellsOf, aO, aB, ax, Mx.put, ofConst, ofCell, Mx.prune, killB, killBs, aK, putDst, au, aD, loadAt, bM, List.map, Nat.reduceAdd, cm, cn, cg, bD, aL, lowC, bg, kill, bB, setCells, Nat.reduceLeDiff, lowA, bi, keepOf, aliveOf, atO, ck, cj, bne, ↓aj, ↓ai, ty3, ty25, ty71, ty73, ty130, ↓aa _ _ _ _ 4, ↓aa _ _ _ _ 6, ↓bC _ _ _ _ 7, ↓aa _ _ _ _ 8, ↓aa _ _ _ _ 5])
theorem r_rostrumref_MachineFault (C : ak) (k_rostrumref_StoreFault : K_rostrumref_StoreFault C) (k_rostrumref_In : K_rostrumref_In C) (k_rostrumref_numberMay : K_rostrumref_numberMay C) (k_rostrumref_ReplyFault : K_rostrumref_ReplyFault C) (p0 : GMachine) (r : Int) (hF : rostrumref_MachineFault p0 = some r) : cF TT C.wide (evW TT C.wide n42 b42) n42 Try.f42.results.toList (aQ Try.f42) [.agg [.v (.i .i64 p0.fStore.fNow), .v (.sl 8 (ab GEntry.row p0.fStore.fEntries)), .v (.i .i64 p0.fNext), .v (.sl 7 (ab GClient.row p0.fClients))]] [] = some (.v (.i .i64 r), []) := by
  revert hF
  unfold rostrumref_MachineFault
  refine matchX fun x1 h1 => ?_
  have g1 := rg_rostrumref_MachineFault_k1 C k_rostrumref_StoreFault k_rostrumref_In p0 _ rfl _ h1
  try simp only [mapR_nil] at g1
  refine boolX (fun h2 => ?_) (fun h2 => ?_)
  focus
    rintro ⟨⟩
  rotate_left 1
  refine matchX ?_
  rintro (x2 | _) h3
  focus
    dsimp only
    have g2 := cy _ _ (sl_rostrumref_MachineFault_0 C k_rostrumref_numberMay k_rostrumref_In k_rostrumref_ReplyFault p0) h3
    try simp only [hd_rostrumref_MachineFault_0, ou_rostrumref_MachineFault_0] at g2
    rintro ⟨⟩
  rotate_left 1
  dsimp only
  have g3 := cy _ _ (sl_rostrumref_MachineFault_0 C k_rostrumref_numberMay k_rostrumref_In k_rostrumref_ReplyFault p0) h3
  try simp only [hd_rostrumref_MachineFault_0, ou_rostrumref_MachineFault_0] at g3
  rintro ⟨⟩
  all_goals (rw [ba]; show cp _ _ _ (aH _ _ _ _ (Code.seq _ _) _) = _; simp (maxSteps := 4000000) only [*, res42, n42a, n42A, n42k, n42K, n42ro, ↓RP, RB, enter, aZ, be, aM, Mx.bw, opnd, Mx.bF, Nat.reduceBEq, bK, Mx.fit, bI, bY, toVs, cellsOf, toV, aO, aB, ax, Mx.put, ofConst, ofCell, Mx.prune, killB, List.map, az, bn, bq, co, bN, bD, aL, lowC, keepOf, aliveOf, atO, ↓aj, ↓ai, ty3, ty25, ty73, ↓aa _ _ _ _ 0, ↓bC _ _ _ _ 1, ↓aa _ _ _ _ 2, ↓aa _ _ _ _ 3, ↓aa _ _ _ _ 9])
def n45K : List (Nat × List Nat) := [(0, [1]), (1, [1, 12]), (2, [2]), (3, [2])]
def n45A : List (Nat × List Nat × List Nat) := [(12, [], [1])]
def n45 : cC where
  keep := keepOf n45K
  ro := fun t => t == 1
  mv := fun _ => false
  give := fun _ => false
  free := fun _ => []
  alive := aliveOf n45A
theorem n45a (t : Nat) (x : Bool) (e : Env) (S : aA) : aw n45 t x ⟨e, S⟩ = atO (aliveOf n45A t x) e S := atCond_of rfl t x e S
theorem n45k (i : Nat) : n45.keep i = keepOf n45K i := rfl
theorem n45ro (t : Nat) : n45.ro t = (t == 1) := rfl
theorem n45mv (t : Nat) : n45.mv t = (false) := rfl
theorem res45 : Try.f45.results.toList = [.tmp 2] := rfl
noncomputable def b45 : Code := aQ Try.f45
theorem r_rostrumref_SnapFault (C : ak) (k_rostrumref_numberMay : K_rostrumref_numberMay C) (k_rostrumref_MachineFault : K_rostrumref_MachineFault C) (p0 : GSnap) (r : Int) (hF : rostrumref_SnapFault p0 = some r) : cF TT C.wide (evW TT C.wide n45 b45) n45 Try.f45.results.toList (aQ Try.f45) [.agg [.v (.i .i64 p0.fIndex), .v (.i .i64 p0.fTerm), .v (.i .i64 p0.fMachine.fStore.fNow), .v (.sl 8 (ab GEntry.row p0.fMachine.fStore.fEntries)), .v (.i .i64 p0.fMachine.fNext), .v (.sl 7 (ab GClient.row p0.fMachine.fClients))]] [] = some (.v (.i .i64 r), []) := by
  revert hF
  unfold rostrumref_SnapFault
  have g1 := wide0 (k_rostrumref_numberMay p0.fIndex _ (rostrumref_numberMay_t p0.fIndex))
  try simp only [mapR_nil] at g1
  refine boolY (fun h1 => ?_) (fun h1 => ?_)
  focus
    rintro ⟨⟩
  rotate_left 1
  have g2 := wide0 (k_rostrumref_numberMay p0.fTerm _ (rostrumref_numberMay_t p0.fTerm))
  try simp only [mapR_nil] at g2
  refine boolY (fun h2 => ?_) (fun h2 => ?_)
  focus
    rintro ⟨⟩
  rotate_left 1
  refine matchX fun x1 h3 => ?_
  have g3 := wide0 (k_rostrumref_MachineFault p0.fMachine _ h3)
  try simp only [mapR_nil] at g3
  rintro ⟨⟩
  all_goals (rw [ba]; show cp _ _ _ (aH _ _ _ _ (Code.seq _ _) _) = _; simp (maxSteps := 4000000) only [*, res45, n45a, n45A, n45k, n45K, n45ro, n45mv, ↓RP, RB, enter, aW, aC, aZ, be, aM, Mx.bw, opnd, Mx.bF, Nat.reduceBEq, bK, Mx.fit, bI, bY, toVs, cellsOf, toV, aO, aB, ax, Mx.put, ofConst, ofCell, Mx.prune, killB, aK, putDst, au, aD, loadAt, bM, List.map, Nat.reduceAdd, az, bn, bq, co, bN, bD, aL, lowC, forceAll, lend, lendA, aS, ay, bL, bare, bQ, keepOf, aliveOf, atO, newB, ch, ↓aj, ↓ai, ↓aa, bc, ty3, ty25, ty73, ty78])
def n13K : List (Nat × List Nat) := [(0, [1]), (1, [1, 3]), (2, [3, 4]), (3, [2])]
def n13 : cC where
  keep := keepOf n13K
  ro := fun t => t == 1
  mv := fun _ => false
  give := fun _ => false
  free := fun _ => []
theorem n13k (i : Nat) : n13.keep i = keepOf n13K i := rfl
theorem n13ro (t : Nat) : n13.ro t = (t == 1) := rfl
theorem n13mv (t : Nat) : n13.mv t = (false) := rfl
theorem res13 : Try.f13.results.toList = [.tmp 2] := rfl
noncomputable def b13 : Code := aQ Try.f13
theorem r_rostrumlaw_TapeSnaps (C : ak) (k_rostrumlaw_snaps_z : K_rostrumlaw_snaps_z C) (k_tape_CheckSnap : K_tape_CheckSnap C) (k_rostrumref_SnapFault : K_rostrumref_SnapFault C) (p0 : GSnap) (r : Bool) (hF : rostrumlaw_TapeSnaps p0 = some r) : cF TT C.wide (evW TT C.wide n13 b13) n13 Try.f13.results.toList (aQ Try.f13) [.agg [.v (.i .i64 p0.fIndex), .v (.i .i64 p0.fTerm), .v (.i .i64 p0.fMachine.fStore.fNow), .v (.sl 8 (ab GEntry.row p0.fMachine.fStore.fEntries)), .v (.i .i64 p0.fMachine.fNext), .v (.sl 7 (ab GClient.row p0.fMachine.fClients))]] [] = some (.v (.b r), []) := by
  revert hF
  unfold rostrumlaw_TapeSnaps
  refine matchX fun x1 h1 => ?_
  have g1 := wide0 (k_rostrumlaw_snaps_z p0 _ h1)
  try simp only [mapR_nil] at g1
  refine matchX fun x2 h2 => ?_
  have g2 := wide0 (k_tape_CheckSnap x1 _ h2)
  try simp only [mapR_nil] at g2
  refine matchX fun x3 h3 => ?_
  have g3 := wide0 (k_rostrumref_SnapFault p0 _ h3)
  try simp only [mapR_nil] at g3
  rintro ⟨⟩
  all_goals (rw [ba]; show cp _ _ _ (aH _ _ _ _ (Code.seq _ _) _) = _; simp (maxSteps := 4000000) only [*, res13, n13k, n13K, n13ro, n13mv, ↓RP, RB, enter, aZ, be, aM, Mx.bw, opnd, Mx.bF, Nat.reduceBEq, bK, Mx.fit, bI, bY, toVs, cellsOf, toV, aO, aB, ax, Mx.put, ofConst, ofCell, Mx.prune, killB, aK, putDst, au, loadAt, bM, List.map, Nat.reduceAdd, cm, cn, az, bn, bq, co, bN, bD, aL, lowC, forceAll, lend, lendA, aS, ay, bL, bare, bQ, keepOf, newB, ch, ck, cj, ↓aj, ↓aa, ty4, ty25, ty78])
end Go.Proofs.Ytnjkmbogbfjffaa
