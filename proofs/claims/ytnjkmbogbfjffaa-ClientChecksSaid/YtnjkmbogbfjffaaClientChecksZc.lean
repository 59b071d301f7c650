/- The code of these functions, run by the machine Mx, gives what the plain functions say, if their callees do (part 3). -/
import Derived.Test.YtnjkmbogbfjffaaWTy
import Derived.Test.YtnjkmbogbfjffaaClientChecksD
set_option linter.unusedSimpArgs false
set_option linter.unusedVariables false
set_option linter.constructorNameAsVariable false
set_option linter.unnecessarySimpa false
set_option maxRecDepth 100000
set_option maxHeartbeats 40000000
namespace Go.Proofs.Ytnjkmbogbfjffaa
open Go Go.Mx Go.Proofs
def n30 : cC where
  keep := fun i => match i with
    | 0 => [1]
    | 1 => [1, 14]
    | 2 => [2]
    | 3 => [1, 3]
    | 4 => [1, 72]
    | 5 => [2]
    | 6 => [1, 87]
    | 7 => [2]
    | 8 => [1, 4]
    | 9 => [1, 4, 92]
    | 10 => [1, 4]
    | 11 => [1, 4, 101]
    | 12 => [2]
    | 13 => [1, 5]
    | 14 => [1, 5, 106]
    | 15 => [1, 5]
    | 16 => [1, 5, 126]
    | 17 => [2]
    | 18 => [1, 6]
    | 19 => [1, 6, 131]
    | 20 => [1, 6]
    | 21 => [1, 6, 141]
    | 22 => [2]
    | 23 => [1, 145]
    | 24 => [2]
    | 25 => [1, 7]
    | 26 => [1, 7, 150]
    | 27 => [1, 7]
    | 28 => [1, 7, 160]
    | 29 => [2]
    | 30 => [1, 8]
    | 31 => [1, 8, 165]
    | 32 => [1, 8]
    | 33 => [1, 8, 181]
    | 34 => [2]
    | 35 => [1, 9]
    | 36 => [1, 9, 191]
    | 37 => [1, 9]
    | 38 => [1, 9, 205]
    | 39 => [2]
    | 40 => [1, 10]
    | 41 => [1, 10, 210]
    | 42 => [1, 10]
    | 43 => [1, 10, 239]
    | 44 => [2]
    | 45 => [2]
    | _ => []
  ro := fun t => t == 1
  mv := fun _ => false
  give := fun _ => false
  free := fun i => match i with | 33 => [(0, 2), (1, 2), (0, 3), (1, 3), (0, 7), (1, 7), (2, 7), (3, 7), (4, 7), (5, 7), (6, 7), (0, 8), (1, 8), (2, 8), (3, 8), (4, 8), (5, 8), (6, 8), (0, 9), (1, 9), (2, 9), (3, 9), (4, 9), (5, 9), (6, 9), (7, 9), (8, 9), (0, 10), (1, 10), (2, 10), (3, 10), (4, 10), (5, 10), (6, 10), (0, 11), (1, 11), (2, 11), (3, 11), (4, 11), (5, 11), (6, 11), (0, 12), (1, 12), (2, 12), (3, 12), (4, 12), (5, 12), (6, 12)] | 38 => [(0, 2), (1, 2), (0, 3), (1, 3), (0, 6), (1, 6), (2, 6), (3, 6), (4, 6), (5, 6), (0, 7), (1, 7), (2, 7), (3, 7), (4, 7), (5, 7), (0, 8), (1, 8), (2, 8), (3, 8), (4, 8), (5, 8), (6, 8), (7, 8), (0, 9), (1, 9), (2, 9), (3, 9), (4, 9), (5, 9), (0, 10), (1, 10), (2, 10), (3, 10), (4, 10), (5, 10)] | 43 => [(0, 2), (1, 2), (0, 3), (1, 3), (0, 6), (1, 6), (2, 6), (3, 6), (4, 6), (5, 6), (0, 7), (1, 7), (2, 7), (3, 7), (4, 7), (5, 7), (0, 8), (1, 8), (2, 8), (3, 8), (4, 8), (5, 8), (6, 8), (7, 8), (0, 9), (1, 9), (2, 9), (3, 9), (4, 9), (5, 9), (0, 10), (1, 10), (2, 10), (3, 10), (4, 10), (5, 10), (14, 16), (15, 16), (14, 18), (15, 18), (16, 18), (17, 18), (14, 19), (15, 19), (16, 19), (17, 19), (14, 20), (15, 20), (16, 20), (17, 20), (18, 20), (19, 20), (14, 21), (15, 21), (16, 21), (17, 21), (14, 22), (15, 22), (16, 22), (17, 22), (14, 23), (15, 23), (16, 23), (17, 23)] | _ => []
  alive := fun i x => match i, x with
    | 14, true => some []
    | 14, false => some [1]
    | 72, true => some []
    | 72, false => some [1]
    | 87, true => some []
    | 87, false => some [1]
    | 92, true => some [1, 4]
    | 92, false => some [1]
    | 101, true => some []
    | 101, false => some [1, 4]
    | 106, true => some [1, 5]
    | 106, false => some [1]
    | 126, true => some []
    | 126, false => some [1, 5]
    | 131, true => some [1, 6]
    | 131, false => some [1]
    | 141, true => some []
    | 141, false => some [1, 6]
    | 145, true => some []
    | 145, false => some [1]
    | 150, true => some [1, 7]
    | 150, false => some [1]
    | 160, true => some []
    | 160, false => some [1, 7]
    | 165, true => some [1, 8]
    | 165, false => some [1]
    | 181, true => some []
    | 181, false => some [1, 8]
    | 191, true => some [1, 9]
    | 191, false => some [1]
    | 205, true => some []
    | 205, false => some [1, 9]
    | 210, true => some [1, 10]
    | 210, false => some []
    | 239, true => some []
    | 239, false => some [1, 10]
    | _, _ => none
theorem n30a14t (e : Env) (S : aA) : aw n30 14 true ⟨e, S⟩ = ⟨prune [] e, S⟩ := rfl
theorem n30a14f (e : Env) (S : aA) : aw n30 14 false ⟨e, S⟩ = ⟨prune [1] e, S⟩ := rfl
theorem n30a72t (e : Env) (S : aA) : aw n30 72 true ⟨e, S⟩ = ⟨prune [] e, S⟩ := rfl
theorem n30a72f (e : Env) (S : aA) : aw n30 72 false ⟨e, S⟩ = ⟨prune [1] e, S⟩ := rfl
theorem n30a87t (e : Env) (S : aA) : aw n30 87 true ⟨e, S⟩ = ⟨prune [] e, S⟩ := rfl
theorem n30a87f (e : Env) (S : aA) : aw n30 87 false ⟨e, S⟩ = ⟨prune [1] e, S⟩ := rfl
theorem n30a92t (e : Env) (S : aA) : aw n30 92 true ⟨e, S⟩ = ⟨prune [1, 4] e, S⟩ := rfl
theorem n30a92f (e : Env) (S : aA) : aw n30 92 false ⟨e, S⟩ = ⟨prune [1] e, S⟩ := rfl
theorem n30a101t (e : Env) (S : aA) : aw n30 101 true ⟨e, S⟩ = ⟨prune [] e, S⟩ := rfl
theorem n30a101f (e : Env) (S : aA) : aw n30 101 false ⟨e, S⟩ = ⟨prune [1, 4] e, S⟩ := rfl
theorem n30a106t (e : Env) (S : aA) : aw n30 106 true ⟨e, S⟩ = ⟨prune [1, 5] e, S⟩ := rfl
theorem n30a106f (e : Env) (S : aA) : aw n30 106 false ⟨e, S⟩ = ⟨prune [1] e, S⟩ := rfl
theorem n30a126t (e : Env) (S : aA) : aw n30 126 true ⟨e, S⟩ = ⟨prune [] e, S⟩ := rfl
theorem n30a126f (e : Env) (S : aA) : aw n30 126 false ⟨e, S⟩ = ⟨prune [1, 5] e, S⟩ := rfl
theorem n30a131t (e : Env) (S : aA) : aw n30 131 true ⟨e, S⟩ = ⟨prune [1, 6] e, S⟩ := rfl
theorem n30a131f (e : Env) (S : aA) : aw n30 131 false ⟨e, S⟩ = ⟨prune [1] e, S⟩ := rfl
theorem n30a141t (e : Env) (S : aA) : aw n30 141 true ⟨e, S⟩ = ⟨prune [] e, S⟩ := rfl
theorem n30a141f (e : Env) (S : aA) : aw n30 141 false ⟨e, S⟩ = ⟨prune [1, 6] e, S⟩ := rfl
theorem n30a145t (e : Env) (S : aA) : aw n30 145 true ⟨e, S⟩ = ⟨prune [] e, S⟩ := rfl
theorem n30a145f (e : Env) (S : aA) : aw n30 145 false ⟨e, S⟩ = ⟨prune [1] e, S⟩ := rfl
theorem n30a150t (e : Env) (S : aA) : aw n30 150 true ⟨e, S⟩ = ⟨prune [1, 7] e, S⟩ := rfl
theorem n30a150f (e : Env) (S : aA) : aw n30 150 false ⟨e, S⟩ = ⟨prune [1] e, S⟩ := rfl
theorem n30a160t (e : Env) (S : aA) : aw n30 160 true ⟨e, S⟩ = ⟨prune [] e, S⟩ := rfl
theorem n30a160f (e : Env) (S : aA) : aw n30 160 false ⟨e, S⟩ = ⟨prune [1, 7] e, S⟩ := rfl
theorem n30a165t (e : Env) (S : aA) : aw n30 165 true ⟨e, S⟩ = ⟨prune [1, 8] e, S⟩ := rfl
theorem n30a165f (e : Env) (S : aA) : aw n30 165 false ⟨e, S⟩ = ⟨prune [1] e, S⟩ := rfl
theorem n30a181t (e : Env) (S : aA) : aw n30 181 true ⟨e, S⟩ = ⟨prune [] e, S⟩ := rfl
theorem n30a181f (e : Env) (S : aA) : aw n30 181 false ⟨e, S⟩ = ⟨prune [1, 8] e, S⟩ := rfl
theorem n30a191t (e : Env) (S : aA) : aw n30 191 true ⟨e, S⟩ = ⟨prune [1, 9] e, S⟩ := rfl
theorem n30a191f (e : Env) (S : aA) : aw n30 191 false ⟨e, S⟩ = ⟨prune [1] e, S⟩ := rfl
theorem n30a205t (e : Env) (S : aA) : aw n30 205 true ⟨e, S⟩ = ⟨prune [] e, S⟩ := rfl
theorem n30a205f (e : Env) (S : aA) : aw n30 205 false ⟨e, S⟩ = ⟨prune [1, 9] e, S⟩ := rfl
theorem n30a210t (e : Env) (S : aA) : aw n30 210 true ⟨e, S⟩ = ⟨prune [1, 10] e, S⟩ := rfl
theorem n30a210f (e : Env) (S : aA) : aw n30 210 false ⟨e, S⟩ = ⟨prune [] e, S⟩ := rfl
theorem n30a239t (e : Env) (S : aA) : aw n30 239 true ⟨e, S⟩ = ⟨prune [] e, S⟩ := rfl
theorem n30a239f (e : Env) (S : aA) : aw n30 239 false ⟨e, S⟩ = ⟨prune [1, 10] e, S⟩ := rfl
theorem n30k0 : n30.keep 0 = [1] := rfl
theorem n30k1 : n30.keep 1 = [1, 14] := rfl
theorem n30k2 : n30.keep 2 = [2] := rfl
theorem n30k3 : n30.keep 3 = [1, 3] := rfl
theorem n30k4 : n30.keep 4 = [1, 72] := rfl
theorem n30k5 : n30.keep 5 = [2] := rfl
theorem n30k6 : n30.keep 6 = [1, 87] := rfl
theorem n30k7 : n30.keep 7 = [2] := rfl
theorem n30k8 : n30.keep 8 = [1, 4] := rfl
theorem n30k9 : n30.keep 9 = [1, 4, 92] := rfl
theorem n30k10 : n30.keep 10 = [1, 4] := rfl
theorem n30k11 : n30.keep 11 = [1, 4, 101] := rfl
theorem n30k12 : n30.keep 12 = [2] := rfl
theorem n30k13 : n30.keep 13 = [1, 5] := rfl
theorem n30k14 : n30.keep 14 = [1, 5, 106] := rfl
theorem n30k15 : n30.keep 15 = [1, 5] := rfl
theorem n30k16 : n30.keep 16 = [1, 5, 126] := rfl
theorem n30k17 : n30.keep 17 = [2] := rfl
theorem n30k18 : n30.keep 18 = [1, 6] := rfl
theorem n30k19 : n30.keep 19 = [1, 6, 131] := rfl
theorem n30k20 : n30.keep 20 = [1, 6] := rfl
theorem n30k21 : n30.keep 21 = [1, 6, 141] := rfl
theorem n30k22 : n30.keep 22 = [2] := rfl
theorem n30k23 : n30.keep 23 = [1, 145] := rfl
theorem n30k24 : n30.keep 24 = [2] := rfl
theorem n30k25 : n30.keep 25 = [1, 7] := rfl
theorem n30k26 : n30.keep 26 = [1, 7, 150] := rfl
theorem n30k27 : n30.keep 27 = [1, 7] := rfl
theorem n30k28 : n30.keep 28 = [1, 7, 160] := rfl
theorem n30k29 : n30.keep 29 = [2] := rfl
theorem n30k30 : n30.keep 30 = [1, 8] := rfl
theorem n30k31 : n30.keep 31 = [1, 8, 165] := rfl
theorem n30k32 : n30.keep 32 = [1, 8] := rfl
theorem n30k33 : n30.keep 33 = [1, 8, 181] := rfl
theorem n30k34 : n30.keep 34 = [2] := rfl
theorem n30k35 : n30.keep 35 = [1, 9] := rfl
theorem n30k36 : n30.keep 36 = [1, 9, 191] := rfl
theorem n30k37 : n30.keep 37 = [1, 9] := rfl
theorem n30k38 : n30.keep 38 = [1, 9, 205] := rfl
theorem n30k39 : n30.keep 39 = [2] := rfl
theorem n30k40 : n30.keep 40 = [1, 10] := rfl
theorem n30k41 : n30.keep 41 = [1, 10, 210] := rfl
theorem n30k42 : n30.keep 42 = [1, 10] := rfl
theorem n30k43 : n30.keep 43 = [1, 10, 239] := rfl
theorem n30k44 : n30.keep 44 = [2] := rfl
theorem n30k45 : n30.keep 45 = [2] := rfl
theorem n30ro (t : Nat) : n30.ro t = (t == 1) := rfl
theorem n30mv (t : Nat) : n30.mv t = (false) := rfl
theorem n30f33 : n30.free 33 = [(0, 2), (1, 2), (0, 3), (1, 3), (0, 7), (1, 7), (2, 7), (3, 7), (4, 7), (5, 7), (6, 7), (0, 8), (1, 8), (2, 8), (3, 8), (4, 8), (5, 8), (6, 8), (0, 9), (1, 9), (2, 9), (3, 9), (4, 9), (5, 9), (6, 9), (7, 9), (8, 9), (0, 10), (1, 10), (2, 10), (3, 10), (4, 10), (5, 10), (6, 10), (0, 11), (1, 11), (2, 11), (3, 11), (4, 11), (5, 11), (6, 11), (0, 12), (1, 12), (2, 12), (3, 12), (4, 12), (5, 12), (6, 12)] := rfl
theorem n30f38 : n30.free 38 = [(0, 2), (1, 2), (0, 3), (1, 3), (0, 6), (1, 6), (2, 6), (3, 6), (4, 6), (5, 6), (0, 7), (1, 7), (2, 7), (3, 7), (4, 7), (5, 7), (0, 8), (1, 8), (2, 8), (3, 8), (4, 8), (5, 8), (6, 8), (7, 8), (0, 9), (1, 9), (2, 9), (3, 9), (4, 9), (5, 9), (0, 10), (1, 10), (2, 10), (3, 10), (4, 10), (5, 10)] := rfl
theorem n30f43 : n30.free 43 = [(0, 2), (1, 2), (0, 3), (1, 3), (0, 6), (1, 6), (2, 6), (3, 6), (4, 6), (5, 6), (0, 7), (1, 7), (2, 7), (3, 7), (4, 7), (5, 7), (0, 8), (1, 8), (2, 8), (3, 8), (4, 8), (5, 8), (6, 8), (7, 8), (0, 9), (1, 9), (2, 9), (3, 9), (4, 9), (5, 9), (0, 10), (1, 10), (2, 10), (3, 10), (4, 10), (5, 10), (14, 16), (15, 16), (14, 18), (15, 18), (16, 18), (17, 18), (14, 19), (15, 19), (16, 19), (17, 19), (14, 20), (15, 20), (16, 20), (17, 20), (18, 20), (19, 20), (14, 21), (15, 21), (16, 21), (17, 21), (14, 22), (15, 22), (16, 22), (17, 22), (14, 23), (15, 23), (16, 23), (17, 23)] := rfl
theorem res30 : Try.f30.results.toList = [.tmp 2] := rfl
noncomputable def b30 : Code := aQ Try.f30
noncomputable def c30_0 : Code := (bz 0 (aQ Try.f30)).getD .skip
theorem fl30_0 : bz 0 b30 = some c30_0 := rfl
noncomputable def c30_2 : Code := (bz 2 (aQ Try.f30)).getD .skip
theorem fl30_2 : bz 2 b30 = some c30_2 := rfl
noncomputable def c30_4 : Code := (bz 4 (aQ Try.f30)).getD .skip
theorem fl30_4 : bz 4 b30 = some c30_4 := rfl
noncomputable def c30_6 : Code := (bz 6 (aQ Try.f30)).getD .skip
theorem fl30_6 : bz 6 b30 = some c30_6 := rfl
noncomputable def c30_8 : Code := (bz 8 (aQ Try.f30)).getD .skip
theorem fl30_8 : bz 8 b30 = some c30_8 := rfl
noncomputable def c30_10 : Code := (bz 10 (aQ Try.f30)).getD .skip
theorem fl30_10 : bz 10 b30 = some c30_10 := rfl
noncomputable def c30_12 : Code := (bz 12 (aQ Try.f30)).getD .skip
theorem fl30_12 : bz 12 b30 = some c30_12 := rfl
theorem rg_rostrumref_ValueFault_k4 (C : ak)  (p0 : GValue) (c : Code) (ho : cr 0 4 b30 = some c) (r : Bool) (hF : ck_rostrumref_ValueFault_k4 p0 = some r) : aH TT C.wide (evW TT C.wide n30 b30) n30 c ⟨[(1, .rp [.i .i64 p0.fKind, .s p0.fText, .i .i64 p0.fCount, .sl 2 (ab GPair.row p0.fPairs), .sl 1 (ab aY p0.fItems), .sl 2 (ab GScore.row p0.fScores)]), (3, .v (.b true))], []⟩ = some (.normal, ⟨[(1, .rp [.i .i64 p0.fKind, .s p0.fText, .i .i64 p0.fCount, .sl 2 (ab GPair.row p0.fPairs), .sl 1 (ab aY p0.fItems), .sl 2 (ab GScore.row p0.fScores)]), (72, .v (.b r))], []⟩) := by
  have e := Option.some.inj (ho.symm.trans (rfl : cr 0 4 b30 = some _))
  subst e
  clear ho
  unfold ck_rostrumref_ValueFault_k4 at hF
  refine aG (p0.fKind == 1) ?_ ?_
  focus
    intro h1
    replace hF := aq h1 hF
    refine aG (p0.fKind == 2) ?_ ?_
    focus
      intro h2
      replace hF := aq h2 hF
      refine aG (p0.fKind == 3) ?_ ?_
      focus
        intro h3
        replace hF := aq h3 hF
        refine aG (p0.fKind == 6) ?_ ?_
        focus
          intro h4
          replace hF := aq h4 hF
          cases hF
        rotate_left 1
        intro h4
        replace hF := ar h4 hF
        cases hF
      rotate_left 2
      intro h3
      replace hF := ar h3 hF
      refine aG (decide (0 < (p0.fPairs.length : Int))) ?_ ?_
      focus
        intro h4
        replace hF := aq h4 hF
        cases hF
      rotate_left 1
      intro h4
      replace hF := ar h4 hF
      refine aG (p0.fKind == 6) ?_ ?_
      focus
        intro h5
        replace hF := aq h5 hF
        cases hF
      rotate_left 1
      intro h5
      replace hF := ar h5 hF
      cases hF
    rotate_left 5
    intro h2
    replace hF := ar h2 hF
    unfold ck_rostrumref_ValueFault_k4_c0 at hF
    refine aT (p0.fCount == 0) ?_ ?_
    focus
      intro h3
      replace hF := ar h3 hF
      cases hF
    rotate_left 1
    intro h3
    replace hF := aq h3 hF
    refine aG (p0.fKind == 3) ?_ ?_
    focus
      intro h4
      replace hF := aq h4 hF
      refine aG (p0.fKind == 6) ?_ ?_
      focus
        intro h5
        replace hF := aq h5 hF
        cases hF
      rotate_left 1
      intro h5
      replace hF := ar h5 hF
      cases hF
    rotate_left 2
    intro h4
    replace hF := ar h4 hF
    refine aG (decide (0 < (p0.fPairs.length : Int))) ?_ ?_
    focus
      intro h5
      replace hF := aq h5 hF
      cases hF
    rotate_left 1
    intro h5
    replace hF := ar h5 hF
    refine aG (p0.fKind == 6) ?_ ?_
    focus
      intro h6
      replace hF := aq h6 hF
      cases hF
    rotate_left 1
    intro h6
    replace hF := ar h6 hF
    cases hF
  rotate_left 11
  intro h1
  replace hF := ar h1 hF
  unfold ck_rostrumref_ValueFault_k4_c2 at hF
  refine aT (cJ p0.fText ByteArray.empty) ?_ ?_
  focus
    intro h2
    replace hF := ar h2 hF
    cases hF
  rotate_left 1
  intro h2
  replace hF := aq h2 hF
  refine aG (p0.fKind == 2) ?_ ?_
  focus
    intro h3
    replace hF := aq h3 hF
    refine aG (p0.fKind == 3) ?_ ?_
    focus
      intro h4
      replace hF := aq h4 hF
      refine aG (p0.fKind == 6) ?_ ?_
      focus
        intro h5
        replace hF := aq h5 hF
        cases hF
      rotate_left 1
      intro h5
      replace hF := ar h5 hF
      cases hF
    rotate_left 2
    intro h4
    replace hF := ar h4 hF
    refine aG (decide (0 < (p0.fPairs.length : Int))) ?_ ?_
    focus
      intro h5
      replace hF := aq h5 hF
      cases hF
    rotate_left 1
    intro h5
    replace hF := ar h5 hF
    refine aG (p0.fKind == 6) ?_ ?_
    focus
      intro h6
      replace hF := aq h6 hF
      cases hF
    rotate_left 1
    intro h6
    replace hF := ar h6 hF
    cases hF
  rotate_left 5
  intro h3
  replace hF := ar h3 hF
  unfold ck_rostrumref_ValueFault_k4_c1 at hF
  refine aT (p0.fCount == 0) ?_ ?_
  focus
    intro h4
    replace hF := ar h4 hF
    cases hF
  rotate_left 1
  intro h4
  replace hF := aq h4 hF
  refine aG (p0.fKind == 3) ?_ ?_
  focus
    intro h5
    replace hF := aq h5 hF
    refine aG (p0.fKind == 6) ?_ ?_
    focus
      intro h6
      replace hF := aq h6 hF
      cases hF
    rotate_left 1
    intro h6
    replace hF := ar h6 hF
    cases hF
  rotate_left 2
  intro h5
  replace hF := ar h5 hF
  refine aG (decide (0 < (p0.fPairs.length : Int))) ?_ ?_
  focus
    intro h6
    replace hF := aq h6 hF
    cases hF
  rotate_left 1
  intro h6
  replace hF := ar h6 hF
  refine aG (p0.fKind == 6) ?_ ?_
  focus
    intro h7
    replace hF := aq h7 hF
    cases hF
  rotate_left 1
  intro h7
  replace hF := ar h7 hF
  cases hF
  all_goals (simp (maxSteps := 4000000) only [*, n30k4, n30mv, ↓RP, RB, aW, aC, aZ, Mx.bw, opnd, Mx.bF, Nat.reduceBEq, bK, aO, aB, ax, Mx.put, ofConst, ofCell, Mx.prune, killB, aK, putDst, au, aD, loadAt, bM, List.map, cm, cn, cg, ck, cj, bne, bc, ty3, ty9, ty49, ty51, ty53, ↓aa _ _ _ _ 4])
theorem rg_rostrumref_ValueFault_k6 (C : ak) (k_rostrumref_sizeOf : K_rostrumref_sizeOf C) (k_rostrumref_In : K_rostrumref_In C) (k_rostrumref_textMay : K_rostrumref_textMay C) (p0 : GValue) (c : Code) (ho : cr 0 6 b30 = some c) (r : Bool) (hF : ck_rostrumref_ValueFault_k6 p0 = some r) : aH TT C.wide (evW TT C.wide n30 b30) n30 c ⟨[(1, .rp [.i .i64 p0.fKind, .s p0.fText, .i .i64 p0.fCount, .sl 2 (ab GPair.row p0.fPairs), .sl 1 (ab aY p0.fItems), .sl 2 (ab GScore.row p0.fScores)])], []⟩ = some (.normal, ⟨[(1, .rp [.i .i64 p0.fKind, .s p0.fText, .i .i64 p0.fCount, .sl 2 (ab GPair.row p0.fPairs), .sl 1 (ab aY p0.fItems), .sl 2 (ab GScore.row p0.fScores)]), (87, .v (.b r))], []⟩) := by
  have e := Option.some.inj (ho.symm.trans (rfl : cr 0 6 b30 = some _))
  subst e
  clear ho
  unfold ck_rostrumref_ValueFault_k6 at hF
  refine aT (decide (3 ≤ p0.fKind)) ?_ ?_
  focus
    intro h1
    replace hF := ar h1 hF
    have g1 : C.wide 80 [.v (.s p0.fText)] [] = some (.v (.b (rostrumref_textMay_v p0.fText)), []) := k_rostrumref_textMay p0.fText _ (rostrumref_textMay_t p0.fText)
    cases hF
  rotate_left 1
  intro h1
  replace hF := aq h1 hF
  have g2 : C.wide 79 [.agg [.v (.i .i64 p0.fKind), .v (.s p0.fText), .v (.i .i64 p0.fCount), .v (.sl 2 (ab GPair.row p0.fPairs)), .v (.sl 1 (ab aY p0.fItems)), .v (.sl 2 (ab GScore.row p0.fScores))]] [] = some (.v (.i .i64 (rostrumref_sizeOf_v p0)), []) := k_rostrumref_sizeOf p0 _ (rostrumref_sizeOf_t p0)
  have g3 : C.wide 55 [.v (.i .i64 (rostrumref_sizeOf_v p0)), .v (.i .i64 1), .v (.i .i64 20)] [] = some (.v (.b (rostrumref_In_v (rostrumref_sizeOf_v p0) 1 20)), []) := k_rostrumref_In (rostrumref_sizeOf_v p0) 1 20 _ (rostrumref_In_t (rostrumref_sizeOf_v p0) 1 20)
  have g4 : rostrumref_In_v (rostrumref_sizeOf_v p0) 1 20 = (decide (1 ≤ (rostrumref_sizeOf_v p0)) && decide ((rostrumref_sizeOf_v p0) ≤ 20)) := by first | rfl | (simp [rostrumref_In_v]; done) | (simp only [rostrumref_In_v]; decide)
  refine aT (decide (1 ≤ (rostrumref_sizeOf_v p0))) ?_ ?_
  focus
    intro h2
    replace hF := ar h2 hF
    cases hF
  rotate_left 1
  intro h2
  replace hF := aq h2 hF
  refine aG (decide ((rostrumref_sizeOf_v p0) ≤ 20)) ?_ ?_
  focus
    intro h3
    replace hF := aq h3 hF
    have g1 : C.wide 80 [.v (.s p0.fText)] [] = some (.v (.b (rostrumref_textMay_v p0.fText)), []) := k_rostrumref_textMay p0.fText _ (rostrumref_textMay_t p0.fText)
    cases hF
  rotate_left 1
  intro h3
  replace hF := ar h3 hF
  cases hF
  all_goals (simp (maxSteps := 4000000) only [*, n30k6, n30mv, ↓RP, RB, aW, aC, aZ, Mx.bw, opnd, Mx.bF, Nat.reduceBEq, bK, aO, aB, ax, Mx.put, ofConst, ofCell, Mx.prune, killB, aK, putDst, au, aD, loadAt, bM, List.map, Nat.reduceAdd, cm, cn, forceAll, lend, lendA, aS, ay, bL, bare, bQ, newB, ch, ck, cj, bc, ty3, ty9, ty53, ↓aa _ _ _ _ 6])
def hd_rostrumref_ValueFault_0 (p0 : GValue) (s : Int) : St := ⟨[(1, .rp [.i .i64 p0.fKind, .s p0.fText, .i .i64 p0.fCount, .sl 2 (ab GPair.row p0.fPairs), .sl 1 (ab aY p0.fItems), .sl 2 (ab GScore.row p0.fScores)]), (4, .v (.i .i64 s))], []⟩
def ou_rostrumref_ValueFault_0 (p0 : GValue) (r : Unit ⊕ Unit) : Option (Ex × St) := match r with
  | .inl r => some (.ret, ⟨[(2, .v (.i .i64 1))], []⟩)
  | .inr r => some (.normal, ⟨[(1, .rp [.i .i64 p0.fKind, .s p0.fText, .i .i64 p0.fCount, .sl 2 (ab GPair.row p0.fPairs), .sl 1 (ab aY p0.fItems), .sl 2 (ab GScore.row p0.fScores)])], []⟩)
theorem sl_rostrumref_ValueFault_0 (C : ak) (k_rostrumref_textMay : K_rostrumref_textMay C) (p0 : GValue) (p1 : Int) (o : Int ⊕ (Unit ⊕ Unit)) (hF : st_rostrumref_ValueFault_0 p0 p1 = some o) : evW TT C.wide n30 b30 0 (hd_rostrumref_ValueFault_0 p0 p1) = Sum.elim (fun s => evW TT C.wide n30 b30 0 (hd_rostrumref_ValueFault_0 p0 s)) (fun r => ou_rostrumref_ValueFault_0 p0 r) o := by
  unfold st_rostrumref_ValueFault_0 at hF
  try dsimp only at hF
  rw [ct TT n30 fl30_0]
  refine aT (decide (p1 < (p0.fItems.length : Int))) ?_ ?_
  focus
    intro h1
    replace hF := ar h1 hF
    cases hF
  rotate_left 1
  intro h1
  replace hF := aq h1 hF
  revert hF
  cases h2 : idx p0.fItems p1
  focus
    intro hF
    cases hF
  rename_i x1
  intro hF
  try dsimp only at hF
  have g1 : decide (0 ≤ p1) = true := (cc h2).1
  have g2 : (ab aY p0.fItems)[(p1 : Int).toNat]? = some [.s x1] := ca _ h2
  have g3 : C.wide 80 [.v (.s x1)] [] = some (.v (.b (rostrumref_textMay_v x1)), []) := k_rostrumref_textMay x1 _ (rostrumref_textMay_t x1)
  refine aG (rostrumref_textMay_v x1) ?_ ?_
  focus
    intro h3
    replace hF := aq h3 hF
    cases hF
  rotate_left 1
  intro h3
  replace hF := ar h3 hF
  cases hF
  all_goals (show cD _ _ _ (aH _ _ _ _ (Code.seq _ _) _) = _; simp (maxSteps := 4000000) only [*, hd_rostrumref_ValueFault_0, ou_rostrumref_ValueFault_0, n30a92t, n30a92f, n30a101t, n30a101f, n30k9, n30k10, n30k11, n30k12, n30mv, ↓RP, RB, ↓ah, aZ, be, aM, Mx.bw, opnd, Mx.bF, Nat.reduceBEq, bK, Mx.fit, bY, aO, aB, ax, Mx.put, ofConst, ofCell, Mx.prune, killB, aK, putDst, au, aD, loadAt, bM, List.map, cm, cn, cg, forceAll, bg, lend, lendA, aS, ay, bL, bare, bQ, newB, ch, ck, cj, ↓aj, ↓ai, ty3, ty9, ty25, ty50, ty53, ↓aa _ _ _ _ 9, ↓aa _ _ _ _ 11, ↓aa _ _ _ _ 12, ↓aa _ _ _ _ 10])
def hd_rostrumref_ValueFault_2 (p0 : GValue) (s : Int) : St := ⟨[(1, .rp [.i .i64 p0.fKind, .s p0.fText, .i .i64 p0.fCount, .sl 2 (ab GPair.row p0.fPairs), .sl 1 (ab aY p0.fItems), .sl 2 (ab GScore.row p0.fScores)]), (5, .v (.i .i64 s))], []⟩
def ou_rostrumref_ValueFault_2 (p0 : GValue) (r : Unit ⊕ Unit) : Option (Ex × St) := match r with
  | .inl r => some (.ret, ⟨[(2, .v (.i .i64 1))], []⟩)
  | .inr r => some (.normal, ⟨[(1, .rp [.i .i64 p0.fKind, .s p0.fText, .i .i64 p0.fCount, .sl 2 (ab GPair.row p0.fPairs), .sl 1 (ab aY p0.fItems), .sl 2 (ab GScore.row p0.fScores)])], []⟩)
theorem sl_rostrumref_ValueFault_2 (C : ak) (k_rostrumref_fieldMay : K_rostrumref_fieldMay C) (k_rostrumref_textMay : K_rostrumref_textMay C) (p0 : GValue) (p1 : Int) (o : Int ⊕ (Unit ⊕ Unit)) (hF : st_rostrumref_ValueFault_2 p0 p1 = some o) : evW TT C.wide n30 b30 2 (hd_rostrumref_ValueFault_2 p0 p1) = Sum.elim (fun s => evW TT C.wide n30 b30 2 (hd_rostrumref_ValueFault_2 p0 s)) (fun r => ou_rostrumref_ValueFault_2 p0 r) o := by
  unfold st_rostrumref_ValueFault_2 at hF
  try dsimp only at hF
  rw [ct TT n30 fl30_2]
  refine aT (decide (p1 < (p0.fPairs.length : Int))) ?_ ?_
  focus
    intro h1
    replace hF := ar h1 hF
    cases hF
  rotate_left 1
  intro h1
  replace hF := aq h1 hF
  revert hF
  cases h2 : idx p0.fPairs p1
  focus
    intro hF
    cases hF
  rename_i x1
  intro hF
  try dsimp only at hF
  have g1 : decide (0 ≤ p1) = true := (cc h2).1
  have g2 : (ab GPair.row p0.fPairs)[(p1 : Int).toNat]? = some [.s x1.fField, .s x1.fText] := ca _ h2
  have g3 : C.wide 81 [.v (.s x1.fField)] [] = some (.v (.b (rostrumref_fieldMay_v x1.fField)), []) := k_rostrumref_fieldMay x1.fField _ (rostrumref_fieldMay_t x1.fField)
  refine aT (rostrumref_fieldMay_v x1.fField) ?_ ?_
  focus
    intro h3
    replace hF := ar h3 hF
    cases hF
  rotate_left 1
  intro h3
  replace hF := aq h3 hF
  have g4 : C.wide 80 [.v (.s x1.fText)] [] = some (.v (.b (rostrumref_textMay_v x1.fText)), []) := k_rostrumref_textMay x1.fText _ (rostrumref_textMay_t x1.fText)
  refine aG (rostrumref_textMay_v x1.fText) ?_ ?_
  focus
    intro h4
    replace hF := aq h4 hF
    cases hF
  rotate_left 1
  intro h4
  replace hF := ar h4 hF
  cases hF
  all_goals (show cD _ _ _ (aH _ _ _ _ (Code.seq _ _) _) = _; simp (maxSteps := 4000000) only [*, hd_rostrumref_ValueFault_2, ou_rostrumref_ValueFault_2, n30a106t, n30a106f, n30a126t, n30a126f, n30k14, n30k15, n30k16, n30k17, n30mv, ↓RP, RB, ↓ah, aW, aC, aZ, be, aM, Mx.bw, opnd, Mx.bF, Nat.reduceBEq, bK, Mx.fit, bY, aO, aB, ax, Mx.put, ofConst, ofCell, Mx.prune, killB, aK, putDst, au, aD, loadAt, bM, List.map, cm, cn, cg, forceAll, bg, lend, lendA, aS, ay, bL, bare, bQ, newB, ch, ck, cj, ↓aj, ↓ai, bc, ty3, ty9, ty25, ty49, ty53, ty101, ↓aa _ _ _ _ 14, ↓aa _ _ _ _ 16, ↓aa _ _ _ _ 17, ↓aa _ _ _ _ 15])
def hd_rostrumref_ValueFault_4 (p0 : GValue) (s : Int) : St := ⟨[(1, .rp [.i .i64 p0.fKind, .s p0.fText, .i .i64 p0.fCount, .sl 2 (ab GPair.row p0.fPairs), .sl 1 (ab aY p0.fItems), .sl 2 (ab GScore.row p0.fScores)]), (6, .v (.i .i64 s))], []⟩
def ou_rostrumref_ValueFault_4 (p0 : GValue) (r : Unit ⊕ Unit) : Option (Ex × St) := match r with
  | .inl r => some (.ret, ⟨[(2, .v (.i .i64 1))], []⟩)
  | .inr r => some (.normal, ⟨[(1, .rp [.i .i64 p0.fKind, .s p0.fText, .i .i64 p0.fCount, .sl 2 (ab GPair.row p0.fPairs), .sl 1 (ab aY p0.fItems), .sl 2 (ab GScore.row p0.fScores)])], []⟩)
theorem sl_rostrumref_ValueFault_4 (C : ak) (k_rostrumref_textMay : K_rostrumref_textMay C) (p0 : GValue) (p1 : Int) (o : Int ⊕ (Unit ⊕ Unit)) (hF : st_rostrumref_ValueFault_4 p0 p1 = some o) : evW TT C.wide n30 b30 4 (hd_rostrumref_ValueFault_4 p0 p1) = Sum.elim (fun s => evW TT C.wide n30 b30 4 (hd_rostrumref_ValueFault_4 p0 s)) (fun r => ou_rostrumref_ValueFault_4 p0 r) o := by
  unfold st_rostrumref_ValueFault_4 at hF
  try dsimp only at hF
  rw [ct TT n30 fl30_4]
  refine aT (decide (p1 < (p0.fScores.length : Int))) ?_ ?_
  focus
    intro h1
    replace hF := ar h1 hF
    cases hF
  rotate_left 1
  intro h1
  replace hF := aq h1 hF
  revert hF
  cases h2 : idx p0.fScores p1
  focus
    intro hF
    cases hF
  rename_i x1
  intro hF
  try dsimp only at hF
  have g1 : decide (0 ≤ p1) = true := (cc h2).1
  have g2 : (ab GScore.row p0.fScores)[(p1 : Int).toNat]? = some [.s x1.fMember, .i .i64 x1.fN] := ca _ h2
  have g3 : C.wide 80 [.v (.s x1.fMember)] [] = some (.v (.b (rostrumref_textMay_v x1.fMember)), []) := k_rostrumref_textMay x1.fMember _ (rostrumref_textMay_t x1.fMember)
  refine aG (rostrumref_textMay_v x1.fMember) ?_ ?_
  focus
    intro h3
    replace hF := aq h3 hF
    cases hF
  rotate_left 1
  intro h3
  replace hF := ar h3 hF
  cases hF
  all_goals (show cD _ _ _ (aH _ _ _ _ (Code.seq _ _) _) = _; simp (maxSteps := 4000000) only [*, hd_rostrumref_ValueFault_4, ou_rostrumref_ValueFault_4, n30a131t, n30a131f, n30a141t, n30a141f, n30k19, n30k20, n30k21, n30k22, n30mv, ↓RP, RB, ↓ah, aZ, be, aM, Mx.bw, opnd, Mx.bF, Nat.reduceBEq, bK, Mx.fit, bY, aO, aB, ax, Mx.put, ofConst, ofCell, Mx.prune, killB, aK, putDst, au, aD, loadAt, bM, List.map, cm, cn, cg, forceAll, bg, lend, lendA, aS, ay, bL, bare, bQ, newB, ch, ck, cj, ↓aj, ↓ai, ty3, ty9, ty25, ty51, ty53, ty105, ↓aa _ _ _ _ 19, ↓aa _ _ _ _ 21, ↓aa _ _ _ _ 22, ↓aa _ _ _ _ 20])
def hd_rostrumref_ValueFault_6 (p0 : GValue) (s : Int) : St := ⟨[(1, .rp [.i .i64 p0.fKind, .s p0.fText, .i .i64 p0.fCount, .sl 2 (ab GPair.row p0.fPairs), .sl 1 (ab aY p0.fItems), .sl 2 (ab GScore.row p0.fScores)]), (7, .v (.i .i64 s))], []⟩
def ou_rostrumref_ValueFault_6 (p0 : GValue) (r : Unit ⊕ Unit) : Option (Ex × St) := match r with
  | .inl r => some (.ret, ⟨[(2, .v (.i .i64 2))], []⟩)
  | .inr r => some (.normal, ⟨[(1, .rp [.i .i64 p0.fKind, .s p0.fText, .i .i64 p0.fCount, .sl 2 (ab GPair.row p0.fPairs), .sl 1 (ab aY p0.fItems), .sl 2 (ab GScore.row p0.fScores)])], []⟩)
theorem sl_rostrumref_ValueFault_6 (C : ak) (k_rostrumref_countMay : K_rostrumref_countMay C) (p0 : GValue) (p1 : Int) (o : Int ⊕ (Unit ⊕ Unit)) (hF : st_rostrumref_ValueFault_6 p0 p1 = some o) : evW TT C.wide n30 b30 6 (hd_rostrumref_ValueFault_6 p0 p1) = Sum.elim (fun s => evW TT C.wide n30 b30 6 (hd_rostrumref_ValueFault_6 p0 s)) (fun r => ou_rostrumref_ValueFault_6 p0 r) o := by
  unfold st_rostrumref_ValueFault_6 at hF
  try dsimp only at hF
  rw [ct TT n30 fl30_6]
  refine aT (decide (p1 < (p0.fScores.length : Int))) ?_ ?_
  focus
    intro h1
    replace hF := ar h1 hF
    cases hF
  rotate_left 1
  intro h1
  replace hF := aq h1 hF
  revert hF
  cases h2 : idx p0.fScores p1
  focus
    intro hF
    cases hF
  rename_i x1
  intro hF
  try dsimp only at hF
  have g1 : decide (0 ≤ p1) = true := (cc h2).1
  have g2 : (ab GScore.row p0.fScores)[(p1 : Int).toNat]? = some [.s x1.fMember, .i .i64 x1.fN] := ca _ h2
  have g3 : C.wide 82 [.v (.i .i64 x1.fN)] [] = some (.v (.b (rostrumref_countMay_v x1.fN)), []) := k_rostrumref_countMay x1.fN _ (rostrumref_countMay_t x1.fN)
  refine aG (rostrumref_countMay_v x1.fN) ?_ ?_
  focus
    intro h3
    replace hF := aq h3 hF
    cases hF
  rotate_left 1
  intro h3
  replace hF := ar h3 hF
  cases hF
  all_goals (show cD _ _ _ (aH _ _ _ _ (Code.seq _ _) _) = _; simp (maxSteps := 4000000) only [*, hd_rostrumref_ValueFault_6, ou_rostrumref_ValueFault_6, n30a150t, n30a150f, n30a160t, n30a160f, n30k26, n30k27, n30k28, n30k29, n30mv, ↓RP, RB, ↓ah, aZ, be, aM, Mx.bw, opnd, Mx.bF, Nat.reduceBEq, bK, Mx.fit, bY, aO, aB, ax, Mx.put, ofConst, ofCell, Mx.prune, killB, aK, putDst, au, aD, loadAt, bM, List.map, cm, cn, cg, forceAll, bg, lend, lendA, aS, ay, bL, bare, bQ, newB, ch, ck, cj, ↓aj, ↓ai, ty3, ty25, ty51, ty53, ty105, ↓aa _ _ _ _ 26, ↓aa _ _ _ _ 28, ↓aa _ _ _ _ 29, ↓aa _ _ _ _ 27])
def hd_rostrumref_ValueFault_8 (p0 : GValue) (s : Int) : St := ⟨[(1, .rp [.i .i64 p0.fKind, .s p0.fText, .i .i64 p0.fCount, .sl 2 (ab GPair.row p0.fPairs), .sl 1 (ab aY p0.fItems), .sl 2 (ab GScore.row p0.fScores)]), (8, .v (.i .i64 s))], []⟩
def ou_rostrumref_ValueFault_8 (p0 : GValue) (r : Unit ⊕ Unit) : Option (Ex × St) := match r with
  | .inl r => some (.ret, ⟨[(2, .v (.i .i64 10))], []⟩)
  | .inr r => some (.normal, ⟨[(1, .rp [.i .i64 p0.fKind, .s p0.fText, .i .i64 p0.fCount, .sl 2 (ab GPair.row p0.fPairs), .sl 1 (ab aY p0.fItems), .sl 2 (ab GScore.row p0.fScores)])], []⟩)
theorem sl_rostrumref_ValueFault_8 (C : ak)  (p0 : GValue) (p1 : Int) (o : Int ⊕ (Unit ⊕ Unit)) (hF : st_rostrumref_ValueFault_8 p0 p1 = some o) : evW TT C.wide n30 b30 8 (hd_rostrumref_ValueFault_8 p0 p1) = Sum.elim (fun s => evW TT C.wide n30 b30 8 (hd_rostrumref_ValueFault_8 p0 s)) (fun r => ou_rostrumref_ValueFault_8 p0 r) o := by
  unfold st_rostrumref_ValueFault_8 at hF
  try dsimp only at hF
  rw [ct TT n30 fl30_8]
  refine aT (decide (p1 < (p0.fPairs.length : Int))) ?_ ?_
  focus
    intro h1
    replace hF := ar h1 hF
    cases hF
  rotate_left 1
  intro h1
  replace hF := aq h1 hF
  revert hF
  cases h2 : idx p0.fPairs (IntKind.i64.wrap (p1 - 1))
  focus
    intro hF
    cases hF
  rename_i x1
  intro hF
  try dsimp only at hF
  have g1 : decide (0 ≤ (IntKind.i64.wrap (p1 - 1))) = true := (cc h2).1
  have g2 : (ab GPair.row p0.fPairs)[((IntKind.i64.wrap (p1 - 1)) : Int).toNat]? = some [.s x1.fField, .s x1.fText] := ca _ h2
  revert hF
  cases h3 : idx p0.fPairs p1
  focus
    intro hF
    cases hF
  rename_i x2
  intro hF
  try dsimp only at hF
  have g3 : decide (0 ≤ p1) = true := (cc h3).1
  have g4 : (ab GPair.row p0.fPairs)[(p1 : Int).toNat]? = some [.s x2.fField, .s x2.fText] := ca _ h3
  refine aG (sltB x1.fField x2.fField) ?_ ?_
  focus
    intro h4
    replace hF := aq h4 hF
    cases hF
  rotate_left 1
  intro h4
  replace hF := ar h4 hF
  cases hF
  all_goals (show cD _ _ _ (aH _ _ _ _ (Code.seq _ _) _) = _; simp (maxSteps := 4000000) only [*, hd_rostrumref_ValueFault_8, ou_rostrumref_ValueFault_8, n30a165t, n30a165f, n30a181t, n30a181f, n30k31, n30k32, n30k33, n30k34, n30f33, n30mv, ↓RP, RB, ↓ah, aZ, be, aM, Mx.bw, opnd, Mx.bF, Nat.reduceBEq, bK, Mx.fit, bY, aO, aB, ax, Mx.put, ofConst, ofCell, Mx.prune, killB, aK, putDst, au, aD, loadAt, bM, List.map, cm, cn, cg, bg, bB, fineK, aJ, aX, bX, bE, ce, bV, bk, aI, bh, Op.operands, ck, cj, ↓aj, ↓ai, bm, ty3, ty9, ty25, ty49, ty53, ty101, ↓aa _ _ _ _ 31, ↓am _ _ _ _ 33, ↓aa _ _ _ _ 34, ↓aa _ _ _ _ 32])
def hd_rostrumref_ValueFault_10 (p0 : GValue) (s : Int) : St := ⟨[(1, .rp [.i .i64 p0.fKind, .s p0.fText, .i .i64 p0.fCount, .sl 2 (ab GPair.row p0.fPairs), .sl 1 (ab aY p0.fItems), .sl 2 (ab GScore.row p0.fScores)]), (9, .v (.i .i64 s))], []⟩
def ou_rostrumref_ValueFault_10 (p0 : GValue) (r : Unit ⊕ Unit) : Option (Ex × St) := match r with
  | .inl r => some (.ret, ⟨[(2, .v (.i .i64 10))], []⟩)
  | .inr r => some (.normal, ⟨[(1, .rp [.i .i64 p0.fKind, .s p0.fText, .i .i64 p0.fCount, .sl 2 (ab GPair.row p0.fPairs), .sl 1 (ab aY p0.fItems), .sl 2 (ab GScore.row p0.fScores)])], []⟩)
theorem sl_rostrumref_ValueFault_10 (C : ak)  (p0 : GValue) (p1 : Int) (o : Int ⊕ (Unit ⊕ Unit)) (hF : st_rostrumref_ValueFault_10 p0 p1 = some o) : evW TT C.wide n30 b30 10 (hd_rostrumref_ValueFault_10 p0 p1) = Sum.elim (fun s => evW TT C.wide n30 b30 10 (hd_rostrumref_ValueFault_10 p0 s)) (fun r => ou_rostrumref_ValueFault_10 p0 r) o := by
  unfold st_rostrumref_ValueFault_10 at hF
  try dsimp only at hF
  rw [ct TT n30 fl30_10]
  refine aT (decide (p1 < (p0.fItems.length : Int))) ?_ ?_
  focus
    intro h1
    replace hF := ar h1 hF
    cases hF
  rotate_left 1
  intro h1
  replace hF := aq h1 hF
  refine aT (p0.fKind == 5) ?_ ?_
  focus
    intro h2
    replace hF := ar h2 hF
    cases hF
  rotate_left 1
  intro h2
  replace hF := aq h2 hF
  revert hF
  cases h3 : idx p0.fItems (IntKind.i64.wrap (p1 - 1))
  focus
    intro hF
    cases hF
  rename_i x1
  intro hF
  try dsimp only at hF
  have g1 : decide (0 ≤ (IntKind.i64.wrap (p1 - 1))) = true := (cc h3).1
  have g2 : (ab aY p0.fItems)[((IntKind.i64.wrap (p1 - 1)) : Int).toNat]? = some [.s x1] := ca _ h3
  revert hF
  cases h4 : idx p0.fItems p1
  focus
    intro hF
    cases hF
  rename_i x2
  intro hF
  try dsimp only at hF
  have g3 : decide (0 ≤ p1) = true := (cc h4).1
  have g4 : (ab aY p0.fItems)[(p1 : Int).toNat]? = some [.s x2] := ca _ h4
  refine aG (sltB x1 x2) ?_ ?_
  focus
    intro h5
    replace hF := aq h5 hF
    cases hF
  rotate_left 1
  intro h5
  replace hF := ar h5 hF
  cases hF
  all_goals (show cD _ _ _ (aH _ _ _ _ (Code.seq _ _) _) = _; simp (maxSteps := 4000000) only [*, hd_rostrumref_ValueFault_10, ou_rostrumref_ValueFault_10, n30a191t, n30a191f, n30a205t, n30a205f, n30k36, n30k37, n30k38, n30k39, n30f38, n30mv, ↓RP, RB, ↓ah, aW, aC, aZ, be, aM, Mx.bw, opnd, Mx.bF, Nat.reduceBEq, bK, Mx.fit, bY, aO, aB, ax, Mx.put, ofConst, ofCell, Mx.prune, killB, aK, putDst, au, aD, loadAt, bM, List.map, cm, cn, cg, bg, bB, fineK, aJ, aX, bX, bE, ce, bV, bk, aI, bh, Op.operands, ck, cj, ↓aj, ↓ai, bc, bm, ty3, ty9, ty25, ty50, ty53, ↓aa _ _ _ _ 36, ↓am _ _ _ _ 38, ↓aa _ _ _ _ 39, ↓aa _ _ _ _ 37])
def hd_rostrumref_ValueFault_12 (p0 : GValue) (s : Int) : St := ⟨[(1, .rp [.i .i64 p0.fKind, .s p0.fText, .i .i64 p0.fCount, .sl 2 (ab GPair.row p0.fPairs), .sl 1 (ab aY p0.fItems), .sl 2 (ab GScore.row p0.fScores)]), (10, .v (.i .i64 s))], []⟩
def ou_rostrumref_ValueFault_12 (p0 : GValue) (r : Unit ⊕ Unit) : Option (Ex × St) := match r with
  | .inl r => some (.ret, ⟨[(2, .v (.i .i64 10))], []⟩)
  | .inr r => some (.normal, ⟨[], []⟩)
theorem sl_rostrumref_ValueFault_12 (C : ak) (k_rostrumref_scoreAhead : K_rostrumref_scoreAhead C) (k_rostrumref_memberAt : K_rostrumref_memberAt C) (p0 : GValue) (p1 : Int) (o : Int ⊕ (Unit ⊕ Unit)) (hF : st_rostrumref_ValueFault_12 p0 p1 = some o) : evW TT C.wide n30 b30 12 (hd_rostrumref_ValueFault_12 p0 p1) = Sum.elim (fun s => evW TT C.wide n30 b30 12 (hd_rostrumref_ValueFault_12 p0 s)) (fun r => ou_rostrumref_ValueFault_12 p0 r) o := by
  unfold st_rostrumref_ValueFault_12 at hF
  try dsimp only at hF
  rw [ct TT n30 fl30_12]
  refine aT (decide (p1 < (p0.fScores.length : Int))) ?_ ?_
  focus
    intro h1
    replace hF := ar h1 hF
    cases hF
  rotate_left 1
  intro h1
  replace hF := aq h1 hF
  revert hF
  cases h2 : idx p0.fScores (IntKind.i64.wrap (p1 - 1))
  focus
    intro hF
    cases hF
  rename_i x1
  intro hF
  try dsimp only at hF
  have g1 : decide (0 ≤ (IntKind.i64.wrap (p1 - 1))) = true := (cc h2).1
  have g2 : (ab GScore.row p0.fScores)[((IntKind.i64.wrap (p1 - 1)) : Int).toNat]? = some [.s x1.fMember, .i .i64 x1.fN] := ca _ h2
  revert hF
  cases h3 : idx p0.fScores p1
  focus
    intro hF
    cases hF
  rename_i x2
  intro hF
  try dsimp only at hF
  have g3 : decide (0 ≤ p1) = true := (cc h3).1
  have g4 : (ab GScore.row p0.fScores)[(p1 : Int).toNat]? = some [.s x2.fMember, .i .i64 x2.fN] := ca _ h3
  have g5 : C.wide 83 [.agg [.v (.s x1.fMember), .v (.i .i64 x1.fN)], .agg [.v (.s x2.fMember), .v (.i .i64 x2.fN)]] [] = some (.v (.b (rostrumref_scoreAhead_v x1 x2)), []) := k_rostrumref_scoreAhead x1 x2 _ (rostrumref_scoreAhead_t x1 x2)
  refine aT (rostrumref_scoreAhead_v x1 x2) ?_ ?_
  focus
    intro h4
    replace hF := ar h4 hF
    cases hF
  rotate_left 1
  intro h4
  replace hF := aq h4 hF
  refine aT (rngB 0 p1 (p0.fScores.length : Int)) ?_ ?_
  focus
    intro h5
    replace hF := ar h5 hF
    cases hF
  intro h5
  replace hF := aq h5 hF
  revert hF
  cases h6 : rostrumref_memberAt (cI p0.fScores 0 p1) x2.fMember
  focus
    intro hF
    cases hF
  rename_i x3
  intro hF
  try dsimp only at hF
  have g6 : C.wide 84 [.v (.sl 2 (ab GScore.row (cI p0.fScores 0 p1))), .v (.s x2.fMember)] [] = some (.v (.i .i64 x3), []) := k_rostrumref_memberAt (cI p0.fScores 0 p1) x2.fMember _ h6
  refine aG (decide (0 ≤ x3)) ?_ ?_
  focus
    intro h7
    replace hF := aq h7 hF
    cases hF
  rotate_left 1
  intro h7
  replace hF := ar h7 hF
  cases hF
  all_goals (show cD _ _ _ (aH _ _ _ _ (Code.seq _ _) _) = _; simp (maxSteps := 4000000) only [*, hd_rostrumref_ValueFault_12, ou_rostrumref_ValueFault_12, n30a210t, n30a210f, n30a239t, n30a239f, n30k41, n30k42, n30k43, n30k44, n30f43, n30mv, ↓RP, RB, ↓ah, aW, aC, aZ, be, aM, Mx.bw, opnd, Mx.bF, Nat.reduceBEq, bK, Mx.fit, bY, aO, aB, ax, Mx.put, ofConst, ofCell, Mx.prune, killB, aK, putDst, au, aD, loadAt, bM, List.map, Nat.reduceAdd, cm, cn, cg, forceAll, bound, bW, bg, br, lend, lendA, aS, ay, bL, bare, bQ, bB, fineK, aJ, aX, bX, bE, ce, bV, bk, aI, bh, Op.operands, newB, ch, ck, cj, ↓aj, ↓ai, bc, bm, Call.operands, ty3, ty9, ty25, ty51, ty53, ty105, ↓aa _ _ _ _ 41, ↓am _ _ _ _ 43, ↓aa _ _ _ _ 44, ↓aa _ _ _ _ 42])
theorem rg_rostrumref_ValueFault_k4v2 (C : ak)  (p0 : GValue) (p1 : Bool) (c : Code) (ho : cr 0 4 b30 = some c) (r : Bool) (hF : ck_rostrumref_ValueFault_k4v2 p0 p1 = some r) : aH TT C.wide (evW TT C.wide n30 b30) n30 c ⟨[(1, .rp [.i .i64 p0.fKind, .s p0.fText, .i .i64 p0.fCount, .sl 2 (ab GPair.row p0.fPairs), .sl 1 (ab aY p0.fItems), .sl 2 (ab GScore.row p0.fScores)]), (3, .v (.b p1))], []⟩ = some (.normal, ⟨[(1, .rp [.i .i64 p0.fKind, .s p0.fText, .i .i64 p0.fCount, .sl 2 (ab GPair.row p0.fPairs), .sl 1 (ab aY p0.fItems), .sl 2 (ab GScore.row p0.fScores)]), (72, .v (.b r))], []⟩) := by
  have e := Option.some.inj (ho.symm.trans (rfl : cr 0 4 b30 = some _))
  subst e
  clear ho
  unfold ck_rostrumref_ValueFault_k4v2 at hF
  refine aG (p0.fKind == 1) ?_ ?_
  focus
    intro h1
    replace hF := aq h1 hF
    refine aG (p0.fKind == 2) ?_ ?_
    focus
      intro h2
      replace hF := aq h2 hF
      refine aG (p0.fKind == 3) ?_ ?_
      focus
        intro h3
        replace hF := aq h3 hF
        refine aG p1 ?_ ?_
        focus
          intro h4
          replace hF := aq h4 hF
          refine aG (p0.fKind == 6) ?_ ?_
          focus
            intro h5
            replace hF := aq h5 hF
            cases hF
          rotate_left 1
          intro h5
          replace hF := ar h5 hF
          cases hF
        rotate_left 2
        intro h4
        replace hF := ar h4 hF
        refine aG (decide (0 < (p0.fItems.length : Int))) ?_ ?_
        focus
          intro h5
          replace hF := aq h5 hF
          cases hF
        rotate_left 1
        intro h5
        replace hF := ar h5 hF
        refine aG (p0.fKind == 6) ?_ ?_
        focus
          intro h6
          replace hF := aq h6 hF
          cases hF
        rotate_left 1
        intro h6
        replace hF := ar h6 hF
        cases hF
      rotate_left 5
      intro h3
      replace hF := ar h3 hF
      unfold ck_rostrumref_ValueFault_k4v2_c0 at hF
      refine aG (decide (0 < (p0.fPairs.length : Int))) ?_ ?_
      focus
        intro h4
        replace hF := aq h4 hF
        cases hF
      rotate_left 1
      intro h4
      replace hF := ar h4 hF
      refine aG p1 ?_ ?_
      focus
        intro h5
        replace hF := aq h5 hF
        refine aG (p0.fKind == 6) ?_ ?_
        focus
          intro h6
          replace hF := aq h6 hF
          cases hF
        rotate_left 1
        intro h6
        replace hF := ar h6 hF
        cases hF
      rotate_left 2
      intro h5
      replace hF := ar h5 hF
      refine aG (decide (0 < (p0.fItems.length : Int))) ?_ ?_
      focus
        intro h6
        replace hF := aq h6 hF
        cases hF
      rotate_left 1
      intro h6
      replace hF := ar h6 hF
      refine aG (p0.fKind == 6) ?_ ?_
      focus
        intro h7
        replace hF := aq h7 hF
        cases hF
      rotate_left 1
      intro h7
      replace hF := ar h7 hF
      cases hF
    rotate_left 11
    intro h2
    replace hF := ar h2 hF
    unfold ck_rostrumref_ValueFault_k4v2_c2 at hF
    refine aT (p0.fCount == 0) ?_ ?_
    focus
      intro h3
      replace hF := ar h3 hF
      cases hF
    rotate_left 1
    intro h3
    replace hF := aq h3 hF
    refine aG (p0.fKind == 3) ?_ ?_
    focus
      intro h4
      replace hF := aq h4 hF
      refine aG p1 ?_ ?_
      focus
        intro h5
        replace hF := aq h5 hF
        refine aG (p0.fKind == 6) ?_ ?_
        focus
          intro h6
          replace hF := aq h6 hF
          cases hF
        rotate_left 1
        intro h6
        replace hF := ar h6 hF
        cases hF
      rotate_left 2
      intro h5
      replace hF := ar h5 hF
      refine aG (decide (0 < (p0.fItems.length : Int))) ?_ ?_
      focus
        intro h6
        replace hF := aq h6 hF
        cases hF
      rotate_left 1
      intro h6
      replace hF := ar h6 hF
      refine aG (p0.fKind == 6) ?_ ?_
      focus
        intro h7
        replace hF := aq h7 hF
        cases hF
      rotate_left 1
      intro h7
      replace hF := ar h7 hF
      cases hF
    rotate_left 5
    intro h4
    replace hF := ar h4 hF
    unfold ck_rostrumref_ValueFault_k4v2_c1 at hF
    refine aG (decide (0 < (p0.fPairs.length : Int))) ?_ ?_
    focus
      intro h5
      replace hF := aq h5 hF
      cases hF
    rotate_left 1
    intro h5
    replace hF := ar h5 hF
    refine aG p1 ?_ ?_
    focus
      intro h6
      replace hF := aq h6 hF
      refine aG (p0.fKind == 6) ?_ ?_
      focus
        intro h7
        replace hF := aq h7 hF
        cases hF
      rotate_left 1
      intro h7
      replace hF := ar h7 hF
      cases hF
    rotate_left 2
    intro h6
    replace hF := ar h6 hF
    refine aG (decide (0 < (p0.fItems.length : Int))) ?_ ?_
    focus
      intro h7
      replace hF := aq h7 hF
      cases hF
    rotate_left 1
    intro h7
    replace hF := ar h7 hF
    refine aG (p0.fKind == 6) ?_ ?_
    focus
      intro h8
      replace hF := aq h8 hF
      cases hF
    rotate_left 1
    intro h8
    replace hF := ar h8 hF
    cases hF
  rotate_left 23
  intro h1
  replace hF := ar h1 hF
  unfold ck_rostrumref_ValueFault_k4v2_c6 at hF
  refine aT (cJ p0.fText ByteArray.empty) ?_ ?_
  focus
    intro h2
    replace hF := ar h2 hF
    cases hF
  rotate_left 1
  intro h2
  replace hF := aq h2 hF
  refine aG (p0.fKind == 2) ?_ ?_
  focus
    intro h3
    replace hF := aq h3 hF
    refine aG (p0.fKind == 3) ?_ ?_
    focus
      intro h4
      replace hF := aq h4 hF
      refine aG p1 ?_ ?_
      focus
        intro h5
        replace hF := aq h5 hF
        refine aG (p0.fKind == 6) ?_ ?_
        focus
          intro h6
          replace hF := aq h6 hF
          cases hF
        rotate_left 1
        intro h6
        replace hF := ar h6 hF
        cases hF
      rotate_left 2
      intro h5
      replace hF := ar h5 hF
      refine aG (decide (0 < (p0.fItems.length : Int))) ?_ ?_
      focus
        intro h6
        replace hF := aq h6 hF
        cases hF
      rotate_left 1
      intro h6
      replace hF := ar h6 hF
      refine aG (p0.fKind == 6) ?_ ?_
      focus
        intro h7
        replace hF := aq h7 hF
        cases hF
      rotate_left 1
      intro h7
      replace hF := ar h7 hF
      cases hF
    rotate_left 5
    intro h4
    replace hF := ar h4 hF
    unfold ck_rostrumref_ValueFault_k4v2_c3 at hF
    refine aG (decide (0 < (p0.fPairs.length : Int))) ?_ ?_
    focus
      intro h5
      replace hF := aq h5 hF
      cases hF
    rotate_left 1
    intro h5
    replace hF := ar h5 hF
    refine aG p1 ?_ ?_
    focus
      intro h6
      replace hF := aq h6 hF
      refine aG (p0.fKind == 6) ?_ ?_
      focus
        intro h7
        replace hF := aq h7 hF
        cases hF
      rotate_left 1
      intro h7
      replace hF := ar h7 hF
      cases hF
    rotate_left 2
    intro h6
    replace hF := ar h6 hF
    refine aG (decide (0 < (p0.fItems.length : Int))) ?_ ?_
    focus
      intro h7
      replace hF := aq h7 hF
      cases hF
    rotate_left 1
    intro h7
    replace hF := ar h7 hF
    refine aG (p0.fKind == 6) ?_ ?_
    focus
      intro h8
      replace hF := aq h8 hF
      cases hF
    rotate_left 1
    intro h8
    replace hF := ar h8 hF
    cases hF
  rotate_left 11
  intro h3
  replace hF := ar h3 hF
  unfold ck_rostrumref_ValueFault_k4v2_c5 at hF
  refine aT (p0.fCount == 0) ?_ ?_
  focus
    intro h4
    replace hF := ar h4 hF
    cases hF
  rotate_left 1
  intro h4
  replace hF := aq h4 hF
  refine aG (p0.fKind == 3) ?_ ?_
  focus
    intro h5
    replace hF := aq h5 hF
    refine aG p1 ?_ ?_
    focus
      intro h6
      replace hF := aq h6 hF
      refine aG (p0.fKind == 6) ?_ ?_
      focus
        intro h7
        replace hF := aq h7 hF
        cases hF
      rotate_left 1
      intro h7
      replace hF := ar h7 hF
      cases hF
    rotate_left 2
    intro h6
    replace hF := ar h6 hF
    refine aG (decide (0 < (p0.fItems.length : Int))) ?_ ?_
    focus
      intro h7
      replace hF := aq h7 hF
      cases hF
    rotate_left 1
    intro h7
    replace hF := ar h7 hF
    refine aG (p0.fKind == 6) ?_ ?_
    focus
      intro h8
      replace hF := aq h8 hF
      cases hF
    rotate_left 1
    intro h8
    replace hF := ar h8 hF
    cases hF
  rotate_left 5
  intro h5
  replace hF := ar h5 hF
  unfold ck_rostrumref_ValueFault_k4v2_c4 at hF
  refine aG (decide (0 < (p0.fPairs.length : Int))) ?_ ?_
  focus
    intro h6
    replace hF := aq h6 hF
    cases hF
  rotate_left 1
  intro h6
  replace hF := ar h6 hF
  refine aG p1 ?_ ?_
  focus
    intro h7
    replace hF := aq h7 hF
    refine aG (p0.fKind == 6) ?_ ?_
    focus
      intro h8
      replace hF := aq h8 hF
      cases hF
    rotate_left 1
    intro h8
    replace hF := ar h8 hF
    cases hF
  rotate_left 2
  intro h7
  replace hF := ar h7 hF
  refine aG (decide (0 < (p0.fItems.length : Int))) ?_ ?_
  focus
    intro h8
    replace hF := aq h8 hF
    cases hF
  rotate_left 1
  intro h8
  replace hF := ar h8 hF
  refine aG (p0.fKind == 6) ?_ ?_
  focus
    intro h9
    replace hF := aq h9 hF
    cases hF
  rotate_left 1
  intro h9
  replace hF := ar h9 hF
  cases hF
  all_goals (simp (maxSteps := 4000000) only [*, n30k4, n30mv, ↓RP, RB, aW, aC, aZ, Mx.bw, opnd, Mx.bF, Nat.reduceBEq, bK, aO, aB, ax, Mx.put, ofConst, ofCell, Mx.prune, killB, aK, putDst, au, aD, loadAt, bM, List.map, cm, cn, cg, ck, cj, bne, bc, ty3, ty9, ty49, ty50, ty51, ty53, ↓aa _ _ _ _ 4])
theorem r_rostrumref_ValueFault (C : ak) (k_rostrumref_In : K_rostrumref_In C) (k_rostrumref_sizeOf : K_rostrumref_sizeOf C) (k_rostrumref_textMay : K_rostrumref_textMay C) (k_rostrumref_countMay : K_rostrumref_countMay C) (k_rostrumref_fieldMay : K_rostrumref_fieldMay C) (k_rostrumref_scoreAhead : K_rostrumref_scoreAhead C) (k_rostrumref_memberAt : K_rostrumref_memberAt C) (p0 : GValue) (r : Int) (hF : rostrumref_ValueFault p0 = some r) : cF TT C.wide (evW TT C.wide n30 b30) n30 Try.f30.results.toList (aQ Try.f30) [.agg [.v (.i .i64 p0.fKind), .v (.s p0.fText), .v (.i .i64 p0.fCount), .v (.sl 2 (ab GPair.row p0.fPairs)), .v (.sl 1 (ab aY p0.fItems)), .v (.sl 2 (ab GScore.row p0.fScores))]] [] = some (.v (.i .i64 r), []) := by
  unfold rostrumref_ValueFault at hF
  have g1 : C.wide 55 [.v (.i .i64 p0.fKind), .v (.i .i64 1), .v (.i .i64 6)] [] = some (.v (.b (rostrumref_In_v p0.fKind 1 6)), []) := k_rostrumref_In p0.fKind 1 6 _ (rostrumref_In_t p0.fKind 1 6)
  have g2 : rostrumref_In_v p0.fKind 1 6 = (decide (1 ≤ p0.fKind) && decide (p0.fKind ≤ 6)) := by first | rfl | (simp [rostrumref_In_v]; done) | (simp only [rostrumref_In_v]; decide)
  refine aT (decide (1 ≤ p0.fKind)) ?_ ?_
  focus
    intro h1
    replace hF := ar h1 hF
    have hR := Option.some.inj hF
    clear hF
    subst hR
  rotate_left 1
  intro h1
  replace hF := aq h1 hF
  refine aT (decide (p0.fKind ≤ 6)) ?_ ?_
  focus
    intro h2
    replace hF := ar h2 hF
    have hR := Option.some.inj hF
    clear hF
    subst hR
  rotate_left 1
  intro h2
  replace hF := aq h2 hF
  refine aG (p0.fKind == 4) ?_ ?_
  focus
    intro h3
    replace hF := aq h3 hF
    unfold rostrumref_ValueFault_c12 at hF
    have g3 : @cR TT C.wide (evW TT C.wide n30 b30) n30 0 4 ⟨[(1, .rp [.i .i64 p0.fKind, .s p0.fText, .i .i64 p0.fCount, .sl 2 (ab GPair.row p0.fPairs), .sl 1 (ab aY p0.fItems), .sl 2 (ab GScore.row p0.fScores)]), (3, .v (.b true))], []⟩ ⟨_⟩ = some (.normal, ⟨[(1, .rp [.i .i64 p0.fKind, .s p0.fText, .i .i64 p0.fCount, .sl 2 (ab GPair.row p0.fPairs), .sl 1 (ab aY p0.fItems), .sl 2 (ab GScore.row p0.fScores)]), (72, .v (.b (ck_rostrumref_ValueFault_k4_v p0)))], []⟩) := rg_rostrumref_ValueFault_k4 C p0 _ rfl (ck_rostrumref_ValueFault_k4_v p0) (ck_rostrumref_ValueFault_k4_t p0)
    refine aG (ck_rostrumref_ValueFault_k4_v p0) ?_ ?_
    focus
      intro h4
      replace hF := aq h4 hF
      have hR := Option.some.inj hF
      clear hF
      subst hR
    rotate_left 1
    intro h4
    replace hF := ar h4 hF
    have g4 : @cR TT C.wide (evW TT C.wide n30 b30) n30 0 6 ⟨[(1, .rp [.i .i64 p0.fKind, .s p0.fText, .i .i64 p0.fCount, .sl 2 (ab GPair.row p0.fPairs), .sl 1 (ab aY p0.fItems), .sl 2 (ab GScore.row p0.fScores)])], []⟩ ⟨_⟩ = some (.normal, ⟨[(1, .rp [.i .i64 p0.fKind, .s p0.fText, .i .i64 p0.fCount, .sl 2 (ab GPair.row p0.fPairs), .sl 1 (ab aY p0.fItems), .sl 2 (ab GScore.row p0.fScores)]), (87, .v (.b (ck_rostrumref_ValueFault_k6_v p0)))], []⟩) := rg_rostrumref_ValueFault_k6 C k_rostrumref_sizeOf k_rostrumref_In k_rostrumref_textMay p0 _ rfl (ck_rostrumref_ValueFault_k6_v p0) (ck_rostrumref_ValueFault_k6_t p0)
    refine aG (ck_rostrumref_ValueFault_k6_v p0) ?_ ?_
    focus
      intro h5
      replace hF := aq h5 hF
      have hR := Option.some.inj hF
      clear hF
      subst hR
    rotate_left 1
    intro h5
    replace hF := ar h5 hF
    revert hF
    cases h6 : ci (st_rostrumref_ValueFault_0 p0) 0
    focus
      intro hF
      cases hF
    rename_i qh6
    cases qh6
    focus
      rename_i z0h6
      intro hF
      try dsimp only at hF
      have g5 : evW TT C.wide n30 b30 0 ⟨[(1, .rp [.i .i64 p0.fKind, .s p0.fText, .i .i64 p0.fCount, .sl 2 (ab GPair.row p0.fPairs), .sl 1 (ab aY p0.fItems), .sl 2 (ab GScore.row p0.fScores)]), (4, .v (.i .i64 0))], []⟩ = some (.ret, ⟨[(2, .v (.i .i64 1))], []⟩) := cy (hd_rostrumref_ValueFault_0 p0) (ou_rostrumref_ValueFault_0 p0) (fun s o hs => sl_rostrumref_ValueFault_0 C k_rostrumref_textMay p0 s o hs) h6
      have hR := Option.some.inj hF
      clear hF
      subst hR
    rotate_left 1
    rename_i y0h6
    intro hF
    try dsimp only at hF
    unfold rostrumref_ValueFault_c5 at hF
    have g6 : evW TT C.wide n30 b30 0 ⟨[(1, .rp [.i .i64 p0.fKind, .s p0.fText, .i .i64 p0.fCount, .sl 2 (ab GPair.row p0.fPairs), .sl 1 (ab aY p0.fItems), .sl 2 (ab GScore.row p0.fScores)]), (4, .v (.i .i64 0))], []⟩ = some (.normal, ⟨[(1, .rp [.i .i64 p0.fKind, .s p0.fText, .i .i64 p0.fCount, .sl 2 (ab GPair.row p0.fPairs), .sl 1 (ab aY p0.fItems), .sl 2 (ab GScore.row p0.fScores)])], []⟩) := cy (hd_rostrumref_ValueFault_0 p0) (ou_rostrumref_ValueFault_0 p0) (fun s o hs => sl_rostrumref_ValueFault_0 C k_rostrumref_textMay p0 s o hs) h6
    revert hF
    cases h7 : ci (st_rostrumref_ValueFault_2 p0) 0
    focus
      intro hF
      cases hF
    rename_i qh7
    cases qh7
    focus
      rename_i z0h7
      intro hF
      try dsimp only at hF
      have g7 : evW TT C.wide n30 b30 2 ⟨[(1, .rp [.i .i64 p0.fKind, .s p0.fText, .i .i64 p0.fCount, .sl 2 (ab GPair.row p0.fPairs), .sl 1 (ab aY p0.fItems), .sl 2 (ab GScore.row p0.fScores)]), (5, .v (.i .i64 0))], []⟩ = some (.ret, ⟨[(2, .v (.i .i64 1))], []⟩) := cy (hd_rostrumref_ValueFault_2 p0) (ou_rostrumref_ValueFault_2 p0) (fun s o hs => sl_rostrumref_ValueFault_2 C k_rostrumref_fieldMay k_rostrumref_textMay p0 s o hs) h7
      have hR := Option.some.inj hF
      clear hF
      subst hR
    rotate_left 1
    rename_i y0h7
    intro hF
    try dsimp only at hF
    unfold rostrumref_ValueFault_c4 at hF
    have g8 : evW TT C.wide n30 b30 2 ⟨[(1, .rp [.i .i64 p0.fKind, .s p0.fText, .i .i64 p0.fCount, .sl 2 (ab GPair.row p0.fPairs), .sl 1 (ab aY p0.fItems), .sl 2 (ab GScore.row p0.fScores)]), (5, .v (.i .i64 0))], []⟩ = some (.normal, ⟨[(1, .rp [.i .i64 p0.fKind, .s p0.fText, .i .i64 p0.fCount, .sl 2 (ab GPair.row p0.fPairs), .sl 1 (ab aY p0.fItems), .sl 2 (ab GScore.row p0.fScores)])], []⟩) := cy (hd_rostrumref_ValueFault_2 p0) (ou_rostrumref_ValueFault_2 p0) (fun s o hs => sl_rostrumref_ValueFault_2 C k_rostrumref_fieldMay k_rostrumref_textMay p0 s o hs) h7
    revert hF
    cases h8 : ci (st_rostrumref_ValueFault_4 p0) 0
    focus
      intro hF
      cases hF
    rename_i qh8
    cases qh8
    focus
      rename_i z0h8
      intro hF
      try dsimp only at hF
      have g9 : evW TT C.wide n30 b30 4 ⟨[(1, .rp [.i .i64 p0.fKind, .s p0.fText, .i .i64 p0.fCount, .sl 2 (ab GPair.row p0.fPairs), .sl 1 (ab aY p0.fItems), .sl 2 (ab GScore.row p0.fScores)]), (6, .v (.i .i64 0))], []⟩ = some (.ret, ⟨[(2, .v (.i .i64 1))], []⟩) := cy (hd_rostrumref_ValueFault_4 p0) (ou_rostrumref_ValueFault_4 p0) (fun s o hs => sl_rostrumref_ValueFault_4 C k_rostrumref_textMay p0 s o hs) h8
      have hR := Option.some.inj hF
      clear hF
      subst hR
    rotate_left 1
    rename_i y0h8
    intro hF
    try dsimp only at hF
    unfold rostrumref_ValueFault_c3 at hF
    have g10 : evW TT C.wide n30 b30 4 ⟨[(1, .rp [.i .i64 p0.fKind, .s p0.fText, .i .i64 p0.fCount, .sl 2 (ab GPair.row p0.fPairs), .sl 1 (ab aY p0.fItems), .sl 2 (ab GScore.row p0.fScores)]), (6, .v (.i .i64 0))], []⟩ = some (.normal, ⟨[(1, .rp [.i .i64 p0.fKind, .s p0.fText, .i .i64 p0.fCount, .sl 2 (ab GPair.row p0.fPairs), .sl 1 (ab aY p0.fItems), .sl 2 (ab GScore.row p0.fScores)])], []⟩) := cy (hd_rostrumref_ValueFault_4 p0) (ou_rostrumref_ValueFault_4 p0) (fun s o hs => sl_rostrumref_ValueFault_4 C k_rostrumref_textMay p0 s o hs) h8
    have g11 : C.wide 82 [.v (.i .i64 p0.fCount)] [] = some (.v (.b (rostrumref_countMay_v p0.fCount)), []) := k_rostrumref_countMay p0.fCount _ (rostrumref_countMay_t p0.fCount)
    refine aT (rostrumref_countMay_v p0.fCount) ?_ ?_
    focus
      intro h9
      replace hF := ar h9 hF
      have hR := Option.some.inj hF
      clear hF
      subst hR
    rotate_left 1
    intro h9
    replace hF := aq h9 hF
    revert hF
    cases h10 : ci (st_rostrumref_ValueFault_6 p0) 0
    focus
      intro hF
      cases hF
    rename_i qh10
    cases qh10
    focus
      rename_i z0h10
      intro hF
      try dsimp only at hF
      have g12 : evW TT C.wide n30 b30 6 ⟨[(1, .rp [.i .i64 p0.fKind, .s p0.fText, .i .i64 p0.fCount, .sl 2 (ab GPair.row p0.fPairs), .sl 1 (ab aY p0.fItems), .sl 2 (ab GScore.row p0.fScores)]), (7, .v (.i .i64 0))], []⟩ = some (.ret, ⟨[(2, .v (.i .i64 2))], []⟩) := cy (hd_rostrumref_ValueFault_6 p0) (ou_rostrumref_ValueFault_6 p0) (fun s o hs => sl_rostrumref_ValueFault_6 C k_rostrumref_countMay p0 s o hs) h10
      have hR := Option.some.inj hF
      clear hF
      subst hR
    rotate_left 1
    rename_i y0h10
    intro hF
    try dsimp only at hF
    unfold rostrumref_ValueFault_c2 at hF
    have g13 : evW TT C.wide n30 b30 6 ⟨[(1, .rp [.i .i64 p0.fKind, .s p0.fText, .i .i64 p0.fCount, .sl 2 (ab GPair.row p0.fPairs), .sl 1 (ab aY p0.fItems), .sl 2 (ab GScore.row p0.fScores)]), (7, .v (.i .i64 0))], []⟩ = some (.normal, ⟨[(1, .rp [.i .i64 p0.fKind, .s p0.fText, .i .i64 p0.fCount, .sl 2 (ab GPair.row p0.fPairs), .sl 1 (ab aY p0.fItems), .sl 2 (ab GScore.row p0.fScores)])], []⟩) := cy (hd_rostrumref_ValueFault_6 p0) (ou_rostrumref_ValueFault_6 p0) (fun s o hs => sl_rostrumref_ValueFault_6 C k_rostrumref_countMay p0 s o hs) h10
    revert hF
    cases h11 : ci (st_rostrumref_ValueFault_8 p0) 1
    focus
      intro hF
      cases hF
    rename_i qh11
    cases qh11
    focus
      rename_i z0h11
      intro hF
      try dsimp only at hF
      have g14 : evW TT C.wide n30 b30 8 ⟨[(1, .rp [.i .i64 p0.fKind, .s p0.fText, .i .i64 p0.fCount, .sl 2 (ab GPair.row p0.fPairs), .sl 1 (ab aY p0.fItems), .sl 2 (ab GScore.row p0.fScores)]), (8, .v (.i .i64 1))], []⟩ = some (.ret, ⟨[(2, .v (.i .i64 10))], []⟩) := cy (hd_rostrumref_ValueFault_8 p0) (ou_rostrumref_ValueFault_8 p0) (fun s o hs => sl_rostrumref_ValueFault_8 C p0 s o hs) h11
      have hR := Option.some.inj hF
      clear hF
      subst hR
    rotate_left 1
    rename_i y0h11
    intro hF
    try dsimp only at hF
    unfold rostrumref_ValueFault_c1 at hF
    have g15 : evW TT C.wide n30 b30 8 ⟨[(1, .rp [.i .i64 p0.fKind, .s p0.fText, .i .i64 p0.fCount, .sl 2 (ab GPair.row p0.fPairs), .sl 1 (ab aY p0.fItems), .sl 2 (ab GScore.row p0.fScores)]), (8, .v (.i .i64 1))], []⟩ = some (.normal, ⟨[(1, .rp [.i .i64 p0.fKind, .s p0.fText, .i .i64 p0.fCount, .sl 2 (ab GPair.row p0.fPairs), .sl 1 (ab aY p0.fItems), .sl 2 (ab GScore.row p0.fScores)])], []⟩) := cy (hd_rostrumref_ValueFault_8 p0) (ou_rostrumref_ValueFault_8 p0) (fun s o hs => sl_rostrumref_ValueFault_8 C p0 s o hs) h11
    revert hF
    cases h12 : ci (st_rostrumref_ValueFault_10 p0) 1
    focus
      intro hF
      cases hF
    rename_i qh12
    cases qh12
    focus
      rename_i z0h12
      intro hF
      try dsimp only at hF
      have g16 : evW TT C.wide n30 b30 10 ⟨[(1, .rp [.i .i64 p0.fKind, .s p0.fText, .i .i64 p0.fCount, .sl 2 (ab GPair.row p0.fPairs), .sl 1 (ab aY p0.fItems), .sl 2 (ab GScore.row p0.fScores)]), (9, .v (.i .i64 1))], []⟩ = some (.ret, ⟨[(2, .v (.i .i64 10))], []⟩) := cy (hd_rostrumref_ValueFault_10 p0) (ou_rostrumref_ValueFault_10 p0) (fun s o hs => sl_rostrumref_ValueFault_10 C p0 s o hs) h12
      have hR := Option.some.inj hF
      clear hF
      subst hR
    rotate_left 1
    rename_i y0h12
    intro hF
    try dsimp only at hF
    unfold rostrumref_ValueFault_c0 at hF
    have g17 : evW TT C.wide n30 b30 10 ⟨[(1, .rp [.i .i64 p0.fKind, .s p0.fText, .i .i64 p0.fCount, .sl 2 (ab GPair.row p0.fPairs), .sl 1 (ab aY p0.fItems), .sl 2 (ab GScore.row p0.fScores)]), (9, .v (.i .i64 1))], []⟩ = some (.normal, ⟨[(1, .rp [.i .i64 p0.fKind, .s p0.fText, .i .i64 p0.fCount, .sl 2 (ab GPair.row p0.fPairs), .sl 1 (ab aY p0.fItems), .sl 2 (ab GScore.row p0.fScores)])], []⟩) := cy (hd_rostrumref_ValueFault_10 p0) (ou_rostrumref_ValueFault_10 p0) (fun s o hs => sl_rostrumref_ValueFault_10 C p0 s o hs) h12
    revert hF
    cases h13 : ci (st_rostrumref_ValueFault_12 p0) 1
    focus
      intro hF
      cases hF
    rename_i qh13
    cases qh13
    focus
      rename_i z0h13
      intro hF
      try dsimp only at hF
      have g18 : evW TT C.wide n30 b30 12 ⟨[(1, .rp [.i .i64 p0.fKind, .s p0.fText, .i .i64 p0.fCount, .sl 2 (ab GPair.row p0.fPairs), .sl 1 (ab aY p0.fItems), .sl 2 (ab GScore.row p0.fScores)]), (10, .v (.i .i64 1))], []⟩ = some (.ret, ⟨[(2, .v (.i .i64 10))], []⟩) := cy (hd_rostrumref_ValueFault_12 p0) (ou_rostrumref_ValueFault_12 p0) (fun s o hs => sl_rostrumref_ValueFault_12 C k_rostrumref_scoreAhead k_rostrumref_memberAt p0 s o hs) h13
      have hR := Option.some.inj hF
      clear hF
      subst hR
    rotate_left 1
    rename_i y0h13
    intro hF
    try dsimp only at hF
    have g19 : evW TT C.wide n30 b30 12 ⟨[(1, .rp [.i .i64 p0.fKind, .s p0.fText, .i .i64 p0.fCount, .sl 2 (ab GPair.row p0.fPairs), .sl 1 (ab aY p0.fItems), .sl 2 (ab GScore.row p0.fScores)]), (10, .v (.i .i64 1))], []⟩ = some (.normal, ⟨[], []⟩) := cy (hd_rostrumref_ValueFault_12 p0) (ou_rostrumref_ValueFault_12 p0) (fun s o hs => sl_rostrumref_ValueFault_12 C k_rostrumref_scoreAhead k_rostrumref_memberAt p0 s o hs) h13
    have hR := Option.some.inj hF
    clear hF
    subst hR
  rotate_left 11
  intro h3
  replace hF := ar h3 hF
  have g20 : @cR TT C.wide (evW TT C.wide n30 b30) n30 0 4 ⟨[(1, .rp [.i .i64 p0.fKind, .s p0.fText, .i .i64 p0.fCount, .sl 2 (ab GPair.row p0.fPairs), .sl 1 (ab aY p0.fItems), .sl 2 (ab GScore.row p0.fScores)]), (3, .v (.b (p0.fKind == 5)))], []⟩ ⟨_⟩ = some (.normal, ⟨[(1, .rp [.i .i64 p0.fKind, .s p0.fText, .i .i64 p0.fCount, .sl 2 (ab GPair.row p0.fPairs), .sl 1 (ab aY p0.fItems), .sl 2 (ab GScore.row p0.fScores)]), (72, .v (.b (ck_rostrumref_ValueFault_k4v2_v p0 (p0.fKind == 5))))], []⟩) := rg_rostrumref_ValueFault_k4v2 C p0 (p0.fKind == 5) _ rfl (ck_rostrumref_ValueFault_k4v2_v p0 (p0.fKind == 5)) (ck_rostrumref_ValueFault_k4v2_t p0 (p0.fKind == 5))
  refine aG (ck_rostrumref_ValueFault_k4v2_v p0 (p0.fKind == 5)) ?_ ?_
  focus
    intro h4
    replace hF := aq h4 hF
    have hR := Option.some.inj hF
    clear hF
    subst hR
  rotate_left 1
  intro h4
  replace hF := ar h4 hF
  have g4 : @cR TT C.wide (evW TT C.wide n30 b30) n30 0 6 ⟨[(1, .rp [.i .i64 p0.fKind, .s p0.fText, .i .i64 p0.fCount, .sl 2 (ab GPair.row p0.fPairs), .sl 1 (ab aY p0.fItems), .sl 2 (ab GScore.row p0.fScores)])], []⟩ ⟨_⟩ = some (.normal, ⟨[(1, .rp [.i .i64 p0.fKind, .s p0.fText, .i .i64 p0.fCount, .sl 2 (ab GPair.row p0.fPairs), .sl 1 (ab aY p0.fItems), .sl 2 (ab GScore.row p0.fScores)]), (87, .v (.b (ck_rostrumref_ValueFault_k6_v p0)))], []⟩) := rg_rostrumref_ValueFault_k6 C k_rostrumref_sizeOf k_rostrumref_In k_rostrumref_textMay p0 _ rfl (ck_rostrumref_ValueFault_k6_v p0) (ck_rostrumref_ValueFault_k6_t p0)
  refine aG (ck_rostrumref_ValueFault_k6_v p0) ?_ ?_
  focus
    intro h5
    replace hF := aq h5 hF
    have hR := Option.some.inj hF
    clear hF
    subst hR
  rotate_left 1
  intro h5
  replace hF := ar h5 hF
  revert hF
  cases h6 : ci (st_rostrumref_ValueFault_0 p0) 0
  focus
    intro hF
    cases hF
  rename_i qh6
  cases qh6
  focus
    rename_i z0h6
    intro hF
    try dsimp only at hF
    have g5 : evW TT C.wide n30 b30 0 ⟨[(1, .rp [.i .i64 p0.fKind, .s p0.fText, .i .i64 p0.fCount, .sl 2 (ab GPair.row p0.fPairs), .sl 1 (ab aY p0.fItems), .sl 2 (ab GScore.row p0.fScores)]), (4, .v (.i .i64 0))], []⟩ = some (.ret, ⟨[(2, .v (.i .i64 1))], []⟩) := cy (hd_rostrumref_ValueFault_0 p0) (ou_rostrumref_ValueFault_0 p0) (fun s o hs => sl_rostrumref_ValueFault_0 C k_rostrumref_textMay p0 s o hs) h6
    have hR := Option.some.inj hF
    clear hF
    subst hR
  rotate_left 1
  rename_i y0h6
  intro hF
  try dsimp only at hF
  unfold rostrumref_ValueFault_c11 at hF
  have g6 : evW TT C.wide n30 b30 0 ⟨[(1, .rp [.i .i64 p0.fKind, .s p0.fText, .i .i64 p0.fCount, .sl 2 (ab GPair.row p0.fPairs), .sl 1 (ab aY p0.fItems), .sl 2 (ab GScore.row p0.fScores)]), (4, .v (.i .i64 0))], []⟩ = some (.normal, ⟨[(1, .rp [.i .i64 p0.fKind, .s p0.fText, .i .i64 p0.fCount, .sl 2 (ab GPair.row p0.fPairs), .sl 1 (ab aY p0.fItems), .sl 2 (ab GScore.row p0.fScores)])], []⟩) := cy (hd_rostrumref_ValueFault_0 p0) (ou_rostrumref_ValueFault_0 p0) (fun s o hs => sl_rostrumref_ValueFault_0 C k_rostrumref_textMay p0 s o hs) h6
  revert hF
  cases h7 : ci (st_rostrumref_ValueFault_2 p0) 0
  focus
    intro hF
    cases hF
  rename_i qh7
  cases qh7
  focus
    rename_i z0h7
    intro hF
    try dsimp only at hF
    have g7 : evW TT C.wide n30 b30 2 ⟨[(1, .rp [.i .i64 p0.fKind, .s p0.fText, .i .i64 p0.fCount, .sl 2 (ab GPair.row p0.fPairs), .sl 1 (ab aY p0.fItems), .sl 2 (ab GScore.row p0.fScores)]), (5, .v (.i .i64 0))], []⟩ = some (.ret, ⟨[(2, .v (.i .i64 1))], []⟩) := cy (hd_rostrumref_ValueFault_2 p0) (ou_rostrumref_ValueFault_2 p0) (fun s o hs => sl_rostrumref_ValueFault_2 C k_rostrumref_fieldMay k_rostrumref_textMay p0 s o hs) h7
    have hR := Option.some.inj hF
    clear hF
    subst hR
  rotate_left 1
  rename_i y0h7
  intro hF
  try dsimp only at hF
  unfold rostrumref_ValueFault_c10 at hF
  have g8 : evW TT C.wide n30 b30 2 ⟨[(1, .rp [.i .i64 p0.fKind, .s p0.fText, .i .i64 p0.fCount, .sl 2 (ab GPair.row p0.fPairs), .sl 1 (ab aY p0.fItems), .sl 2 (ab GScore.row p0.fScores)]), (5, .v (.i .i64 0))], []⟩ = some (.normal, ⟨[(1, .rp [.i .i64 p0.fKind, .s p0.fText, .i .i64 p0.fCount, .sl 2 (ab GPair.row p0.fPairs), .sl 1 (ab aY p0.fItems), .sl 2 (ab GScore.row p0.fScores)])], []⟩) := cy (hd_rostrumref_ValueFault_2 p0) (ou_rostrumref_ValueFault_2 p0) (fun s o hs => sl_rostrumref_ValueFault_2 C k_rostrumref_fieldMay k_rostrumref_textMay p0 s o hs) h7
  revert hF
  cases h8 : ci (st_rostrumref_ValueFault_4 p0) 0
  focus
    intro hF
    cases hF
  rename_i qh8
  cases qh8
  focus
    rename_i z0h8
    intro hF
    try dsimp only at hF
    have g9 : evW TT C.wide n30 b30 4 ⟨[(1, .rp [.i .i64 p0.fKind, .s p0.fText, .i .i64 p0.fCount, .sl 2 (ab GPair.row p0.fPairs), .sl 1 (ab aY p0.fItems), .sl 2 (ab GScore.row p0.fScores)]), (6, .v (.i .i64 0))], []⟩ = some (.ret, ⟨[(2, .v (.i .i64 1))], []⟩) := cy (hd_rostrumref_ValueFault_4 p0) (ou_rostrumref_ValueFault_4 p0) (fun s o hs => sl_rostrumref_ValueFault_4 C k_rostrumref_textMay p0 s o hs) h8
    have hR := Option.some.inj hF
    clear hF
    subst hR
  rotate_left 1
  rename_i y0h8
  intro hF
  try dsimp only at hF
  unfold rostrumref_ValueFault_c9 at hF
  have g10 : evW TT C.wide n30 b30 4 ⟨[(1, .rp [.i .i64 p0.fKind, .s p0.fText, .i .i64 p0.fCount, .sl 2 (ab GPair.row p0.fPairs), .sl 1 (ab aY p0.fItems), .sl 2 (ab GScore.row p0.fScores)]), (6, .v (.i .i64 0))], []⟩ = some (.normal, ⟨[(1, .rp [.i .i64 p0.fKind, .s p0.fText, .i .i64 p0.fCount, .sl 2 (ab GPair.row p0.fPairs), .sl 1 (ab aY p0.fItems), .sl 2 (ab GScore.row p0.fScores)])], []⟩) := cy (hd_rostrumref_ValueFault_4 p0) (ou_rostrumref_ValueFault_4 p0) (fun s o hs => sl_rostrumref_ValueFault_4 C k_rostrumref_textMay p0 s o hs) h8
  have g11 : C.wide 82 [.v (.i .i64 p0.fCount)] [] = some (.v (.b (rostrumref_countMay_v p0.fCount)), []) := k_rostrumref_countMay p0.fCount _ (rostrumref_countMay_t p0.fCount)
  refine aT (rostrumref_countMay_v p0.fCount) ?_ ?_
  focus
    intro h9
    replace hF := ar h9 hF
    have hR := Option.some.inj hF
    clear hF
    subst hR
  rotate_left 1
  intro h9
  replace hF := aq h9 hF
  revert hF
  cases h10 : ci (st_rostrumref_ValueFault_6 p0) 0
  focus
    intro hF
    cases hF
  rename_i qh10
  cases qh10
  focus
    rename_i z0h10
    intro hF
    try dsimp only at hF
    have g12 : evW TT C.wide n30 b30 6 ⟨[(1, .rp [.i .i64 p0.fKind, .s p0.fText, .i .i64 p0.fCount, .sl 2 (ab GPair.row p0.fPairs), .sl 1 (ab aY p0.fItems), .sl 2 (ab GScore.row p0.fScores)]), (7, .v (.i .i64 0))], []⟩ = some (.ret, ⟨[(2, .v (.i .i64 2))], []⟩) := cy (hd_rostrumref_ValueFault_6 p0) (ou_rostrumref_ValueFault_6 p0) (fun s o hs => sl_rostrumref_ValueFault_6 C k_rostrumref_countMay p0 s o hs) h10
    have hR := Option.some.inj hF
    clear hF
    subst hR
  rotate_left 1
  rename_i y0h10
  intro hF
  try dsimp only at hF
  unfold rostrumref_ValueFault_c8 at hF
  have g13 : evW TT C.wide n30 b30 6 ⟨[(1, .rp [.i .i64 p0.fKind, .s p0.fText, .i .i64 p0.fCount, .sl 2 (ab GPair.row p0.fPairs), .sl 1 (ab aY p0.fItems), .sl 2 (ab GScore.row p0.fScores)]), (7, .v (.i .i64 0))], []⟩ = some (.normal, ⟨[(1, .rp [.i .i64 p0.fKind, .s p0.fText, .i .i64 p0.fCount, .sl 2 (ab GPair.row p0.fPairs), .sl 1 (ab aY p0.fItems), .sl 2 (ab GScore.row p0.fScores)])], []⟩) := cy (hd_rostrumref_ValueFault_6 p0) (ou_rostrumref_ValueFault_6 p0) (fun s o hs => sl_rostrumref_ValueFault_6 C k_rostrumref_countMay p0 s o hs) h10
  revert hF
  cases h11 : ci (st_rostrumref_ValueFault_8 p0) 1
  focus
    intro hF
    cases hF
  rename_i qh11
  cases qh11
  focus
    rename_i z0h11
    intro hF
    try dsimp only at hF
    have g14 : evW TT C.wide n30 b30 8 ⟨[(1, .rp [.i .i64 p0.fKind, .s p0.fText, .i .i64 p0.fCount, .sl 2 (ab GPair.row p0.fPairs), .sl 1 (ab aY p0.fItems), .sl 2 (ab GScore.row p0.fScores)]), (8, .v (.i .i64 1))], []⟩ = some (.ret, ⟨[(2, .v (.i .i64 10))], []⟩) := cy (hd_rostrumref_ValueFault_8 p0) (ou_rostrumref_ValueFault_8 p0) (fun s o hs => sl_rostrumref_ValueFault_8 C p0 s o hs) h11
    have hR := Option.some.inj hF
    clear hF
    subst hR
  rotate_left 1
  rename_i y0h11
  intro hF
  try dsimp only at hF
  unfold rostrumref_ValueFault_c7 at hF
  have g15 : evW TT C.wide n30 b30 8 ⟨[(1, .rp [.i .i64 p0.fKind, .s p0.fText, .i .i64 p0.fCount, .sl 2 (ab GPair.row p0.fPairs), .sl 1 (ab aY p0.fItems), .sl 2 (ab GScore.row p0.fScores)]), (8, .v (.i .i64 1))], []⟩ = some (.normal, ⟨[(1, .rp [.i .i64 p0.fKind, .s p0.fText, .i .i64 p0.fCount, .sl 2 (ab GPair.row p0.fPairs), .sl 1 (ab aY p0.fItems), .sl 2 (ab GScore.row p0.fScores)])], []⟩) := cy (hd_rostrumref_ValueFault_8 p0) (ou_rostrumref_ValueFault_8 p0) (fun s o hs => sl_rostrumref_ValueFault_8 C p0 s o hs) h11
  revert hF
  cases h12 : ci (st_rostrumref_ValueFault_10 p0) 1
  focus
    intro hF
    cases hF
  rename_i qh12
  cases qh12
  focus
    rename_i z0h12
    intro hF
    try dsimp only at hF
    have g16 : evW TT C.wide n30 b30 10 ⟨[(1, .rp [.i .i64 p0.fKind, .s p0.fText, .i .i64 p0.fCount, .sl 2 (ab GPair.row p0.fPairs), .sl 1 (ab aY p0.fItems), .sl 2 (ab GScore.row p0.fScores)]), (9, .v (.i .i64 1))], []⟩ = some (.ret, ⟨[(2, .v (.i .i64 10))], []⟩) := cy (hd_rostrumref_ValueFault_10 p0) (ou_rostrumref_ValueFault_10 p0) (fun s o hs => sl_rostrumref_ValueFault_10 C p0 s o hs) h12
    have hR := Option.some.inj hF
    clear hF
    subst hR
  rotate_left 1
  rename_i y0h12
  intro hF
  try dsimp only at hF
  unfold rostrumref_ValueFault_c6 at hF
  have g17 : evW TT C.wide n30 b30 10 ⟨[(1, .rp [.i .i64 p0.fKind, .s p0.fText, .i .i64 p0.fCount, .sl 2 (ab GPair.row p0.fPairs), .sl 1 (ab aY p0.fItems), .sl 2 (ab GScore.row p0.fScores)]), (9, .v (.i .i64 1))], []⟩ = some (.normal, ⟨[(1, .rp [.i .i64 p0.fKind, .s p0.fText, .i .i64 p0.fCount, .sl 2 (ab GPair.row p0.fPairs), .sl 1 (ab aY p0.fItems), .sl 2 (ab GScore.row p0.fScores)])], []⟩) := cy (hd_rostrumref_ValueFault_10 p0) (ou_rostrumref_ValueFault_10 p0) (fun s o hs => sl_rostrumref_ValueFault_10 C p0 s o hs) h12
  revert hF
  cases h13 : ci (st_rostrumref_ValueFault_12 p0) 1
  focus
    intro hF
    cases hF
  rename_i qh13
  cases qh13
  focus
    rename_i z0h13
    intro hF
    try dsimp only at hF
    have g18 : evW TT C.wide n30 b30 12 ⟨[(1, .rp [.i .i64 p0.fKind, .s p0.fText, .i .i64 p0.fCount, .sl 2 (ab GPair.row p0.fPairs), .sl 1 (ab aY p0.fItems), .sl 2 (ab GScore.row p0.fScores)]), (10, .v (.i .i64 1))], []⟩ = some (.ret, ⟨[(2, .v (.i .i64 10))], []⟩) := cy (hd_rostrumref_ValueFault_12 p0) (ou_rostrumref_ValueFault_12 p0) (fun s o hs => sl_rostrumref_ValueFault_12 C k_rostrumref_scoreAhead k_rostrumref_memberAt p0 s o hs) h13
    have hR := Option.some.inj hF
    clear hF
    subst hR
  rotate_left 1
  rename_i y0h13
  intro hF
  try dsimp only at hF
  have g19 : evW TT C.wide n30 b30 12 ⟨[(1, .rp [.i .i64 p0.fKind, .s p0.fText, .i .i64 p0.fCount, .sl 2 (ab GPair.row p0.fPairs), .sl 1 (ab aY p0.fItems), .sl 2 (ab GScore.row p0.fScores)]), (10, .v (.i .i64 1))], []⟩ = some (.normal, ⟨[], []⟩) := cy (hd_rostrumref_ValueFault_12 p0) (ou_rostrumref_ValueFault_12 p0) (fun s o hs => sl_rostrumref_ValueFault_12 C k_rostrumref_scoreAhead k_rostrumref_memberAt p0 s o hs) h13
  have hR := Option.some.inj hF
  clear hF
  subst hR
  all_goals (rw [ba]; show cp _ _ _ (aH _ _ _ _ (Code.seq _ _) _) = _; simp (maxSteps := 4000000) only [*, res30, n30a14t, n30a14f, n30a72t, n30a72f, n30a87t, n30a87f, n30a145t, n30a145f, n30k0, n30k1, n30k2, n30k3, n30k5, n30k7, n30k8, n30k13, n30k18, n30k23, n30k24, n30k25, n30k30, n30k35, n30k40, n30k45, n30ro, n30mv, ↓RP, RB, enter, aW, aC, aZ, be, aM, Mx.bw, opnd, Mx.bF, Nat.reduceBEq, bK, Mx.fit, bI, bY, toVs, cellsOf, toV, aO, aB, ax, Mx.put, ofConst, ofCell, Mx.prune, killB, aK, putDst, au, aD, loadAt, bM, List.map, cm, cn, az, bn, bq, co, bN, bD, aL, lowC, forceAll, lend, lendA, aS, ay, bL, bare, bQ, newB, ch, ck, cj, ↓aj, ↓ai, bc, ty3, ty4, ty25, ty53, ↓aa _ _ _ _ 0, ↓aa _ _ _ _ 1, ↓aa _ _ _ _ 2, ↓aa _ _ _ _ 3, ↓bC _ _ _ _ 4, ↓aa _ _ _ _ 5, ↓bC _ _ _ _ 6, ↓aa _ _ _ _ 7, ↓aa _ _ _ _ 8, ↓aa _ _ _ _ 13, ↓aa _ _ _ _ 18, ↓aa _ _ _ _ 23, ↓aa _ _ _ _ 24, ↓aa _ _ _ _ 25, ↓aa _ _ _ _ 30, ↓aa _ _ _ _ 35, ↓aa _ _ _ _ 40, ↓aa _ _ _ _ 45])
def n36 : cC where
  keep := fun i => match i with
    | 0 => [1]
    | 1 => [1, 14]
    | 2 => [2]
    | 3 => [1, 3]
    | 4 => [1, 3, 19]
    | 5 => [1, 3]
    | 6 => [1, 3, 4]
    | 7 => [1, 3, 4, 52]
    | 8 => [2]
    | 9 => [1, 3, 68]
    | 10 => [2]
    | 11 => [2]
    | _ => []
  ro := fun t => t == 1
  mv := fun _ => false
  give := fun _ => false
  free := fun i => match i with | 7 => [(14, 16), (15, 16), (14, 17), (15, 17), (14, 21), (15, 21), (16, 21), (17, 21), (18, 21), (19, 21), (20, 21), (14, 22), (15, 22), (16, 22), (17, 22), (18, 22), (19, 22), (20, 22)] | _ => []
  alive := fun i x => match i, x with
    | 14, true => some []
    | 14, false => some [1]
    | 19, true => some [1, 3]
    | 19, false => some []
    | 52, true => some []
    | 52, false => some [1, 3, 4]
    | 68, true => some []
    | 68, false => some [1, 3]
    | _, _ => none
theorem n36a14t (e : Env) (S : aA) : aw n36 14 true ⟨e, S⟩ = ⟨prune [] e, S⟩ := rfl
theorem n36a14f (e : Env) (S : aA) : aw n36 14 false ⟨e, S⟩ = ⟨prune [1] e, S⟩ := rfl
theorem n36a19t (e : Env) (S : aA) : aw n36 19 true ⟨e, S⟩ = ⟨prune [1, 3] e, S⟩ := rfl
theorem n36a19f (e : Env) (S : aA) : aw n36 19 false ⟨e, S⟩ = ⟨prune [] e, S⟩ := rfl
theorem n36a52t (e : Env) (S : aA) : aw n36 52 true ⟨e, S⟩ = ⟨prune [] e, S⟩ := rfl
theorem n36a52f (e : Env) (S : aA) : aw n36 52 false ⟨e, S⟩ = ⟨prune [1, 3, 4] e, S⟩ := rfl
theorem n36a68t (e : Env) (S : aA) : aw n36 68 true ⟨e, S⟩ = ⟨prune [] e, S⟩ := rfl
theorem n36a68f (e : Env) (S : aA) : aw n36 68 false ⟨e, S⟩ = ⟨prune [1, 3] e, S⟩ := rfl
theorem n36k0 : n36.keep 0 = [1] := rfl
theorem n36k1 : n36.keep 1 = [1, 14] := rfl
theorem n36k2 : n36.keep 2 = [2] := rfl
theorem n36k3 : n36.keep 3 = [1, 3] := rfl
theorem n36k4 : n36.keep 4 = [1, 3, 19] := rfl
theorem n36k5 : n36.keep 5 = [1, 3] := rfl
theorem n36k6 : n36.keep 6 = [1, 3, 4] := rfl
theorem n36k7 : n36.keep 7 = [1, 3, 4, 52] := rfl
theorem n36k8 : n36.keep 8 = [2] := rfl
theorem n36k9 : n36.keep 9 = [1, 3, 68] := rfl
theorem n36k10 : n36.keep 10 = [2] := rfl
theorem n36k11 : n36.keep 11 = [2] := rfl
theorem n36ro (t : Nat) : n36.ro t = (t == 1) := rfl
theorem n36mv (t : Nat) : n36.mv t = (false) := rfl
theorem n36f7 : n36.free 7 = [(14, 16), (15, 16), (14, 17), (15, 17), (14, 21), (15, 21), (16, 21), (17, 21), (18, 21), (19, 21), (20, 21), (14, 22), (15, 22), (16, 22), (17, 22), (18, 22), (19, 22), (20, 22)] := rfl
theorem res36 : Try.f36.results.toList = [.tmp 2] := rfl
noncomputable def b36 : Code := aQ Try.f36
noncomputable def c36_0 : Code := (bz 0 (aQ Try.f36)).getD .skip
theorem fl36_0 : bz 0 b36 = some c36_0 := rfl
theorem rg_rostrumref_StoreFault_k1 (C : ak) (k_rostrumref_In : K_rostrumref_In C) (p0 : GStore) (c : Code) (ho : cr 0 1 b36 = some c) (r : Bool) (hF : ck_rostrumref_StoreFault_k1 p0 = some r) : aH TT C.wide (evW TT C.wide n36 b36) n36 c ⟨[(1, .rp [.i .i64 p0.fNow, .sl 8 (ab GEntry.row p0.fEntries)])], []⟩ = some (.normal, ⟨[(1, .rp [.i .i64 p0.fNow, .sl 8 (ab GEntry.row p0.fEntries)]), (14, .v (.b r))], []⟩) := by
  have e := Option.some.inj (ho.symm.trans (rfl : cr 0 1 b36 = some _))
  subst e
  clear ho
  unfold ck_rostrumref_StoreFault_k1 at hF
  have g1 : C.wide 55 [.v (.i .i64 p0.fNow), .v (.i .i64 0), .v (.i .i64 1073741824)] [] = some (.v (.b (rostrumref_In_v p0.fNow 0 1073741824)), []) := k_rostrumref_In p0.fNow 0 1073741824 _ (rostrumref_In_t p0.fNow 0 1073741824)
  have g2 : rostrumref_In_v p0.fNow 0 1073741824 = (decide (0 ≤ p0.fNow) && decide (p0.fNow ≤ 1073741824)) := by first | rfl | (simp [rostrumref_In_v]; done) | (simp only [rostrumref_In_v]; decide)
  refine aT (decide (0 ≤ p0.fNow)) ?_ ?_
  focus
    intro h1
    replace hF := ar h1 hF
    cases hF
  rotate_left 1
  intro h1
  replace hF := aq h1 hF
  refine aG (decide (p0.fNow ≤ 1073741824)) ?_ ?_
  focus
    intro h2
    replace hF := aq h2 hF
    cases hF
  rotate_left 1
  intro h2
  replace hF := ar h2 hF
  cases hF
  all_goals (simp (maxSteps := 4000000) only [*, n36k1, n36mv, ↓RP, RB, aW, aC, aZ, Mx.bw, opnd, Mx.bF, Nat.reduceBEq, bK, aO, aB, ax, Mx.put, ofConst, ofCell, Mx.prune, killB, aK, putDst, au, aD, loadAt, bM, List.map, cm, cn, cg, forceAll, lend, lendA, aS, ay, bL, bare, bQ, newB, ch, ck, cj, bc, ty3, ty61, ty63, ↓aa _ _ _ _ 1])
theorem rg_rostrumref_StoreFault_k7v2 (C : ak) (k_rostrumref_fieldMay : K_rostrumref_fieldMay C) (k_rostrumref_ValueFault : K_rostrumref_ValueFault C) (p0 : GStore) (p1 : Int) (p2 : GEntry) (c : Code) (ho : cr 0 7 b36 = some c) (r : Bool) (hF : ck_rostrumref_StoreFault_k7v2 p0 p1 p2 = some r) : aH TT C.wide (evW TT C.wide n36 b36) n36 c ⟨[(1, .rp [.i .i64 p0.fNow, .sl 8 (ab GEntry.row p0.fEntries)]), (3, .v (.i .i64 p1)), (4, .ptr 0 0)], [[.v (.s p2.fKey), .v (.i .i64 p2.fValue.fKind), .v (.s p2.fValue.fText), .v (.i .i64 p2.fValue.fCount), .v (.sl 2 (ab GPair.row p2.fValue.fPairs)), .v (.sl 1 (ab aY p2.fValue.fItems)), .v (.sl 2 (ab GScore.row p2.fValue.fScores)), .v (.i .i64 p2.fUntil)]]⟩ = some (.normal, ⟨[(1, .rp [.i .i64 p0.fNow, .sl 8 (ab GEntry.row p0.fEntries)]), (3, .v (.i .i64 p1)), (4, .ptr 0 0), (52, .v (.b r))], [[.v (.s p2.fKey), .v (.i .i64 p2.fValue.fKind), .v (.s p2.fValue.fText), .v (.i .i64 p2.fValue.fCount), .v (.sl 2 (ab GPair.row p2.fValue.fPairs)), .v (.sl 1 (ab aY p2.fValue.fItems)), .v (.sl 2 (ab GScore.row p2.fValue.fScores)), .v (.i .i64 p2.fUntil)]]⟩) := by
  have e := Option.some.inj (ho.symm.trans (rfl : cr 0 7 b36 = some _))
  subst e
  clear ho
  unfold ck_rostrumref_StoreFault_k7v2 at hF
  have g1 : C.wide 81 [.v (.s p2.fKey)] [] = some (.v (.b (rostrumref_fieldMay_v p2.fKey)), []) := k_rostrumref_fieldMay p2.fKey _ (rostrumref_fieldMay_t p2.fKey)
  refine aT (rostrumref_fieldMay_v p2.fKey) ?_ ?_
  focus
    intro h1
    replace hF := ar h1 hF
    cases hF
  rotate_left 1
  intro h1
  replace hF := aq h1 hF
  revert hF
  cases h2 : rostrumref_ValueFault p2.fValue
  focus
    intro hF
    cases hF
  rename_i x1
  intro hF
  try dsimp only at hF
  have g2 : C.wide 30 [.agg [.v (.i .i64 p2.fValue.fKind), .v (.s p2.fValue.fText), .v (.i .i64 p2.fValue.fCount), .v (.sl 2 (ab GPair.row p2.fValue.fPairs)), .v (.sl 1 (ab aY p2.fValue.fItems)), .v (.sl 2 (ab GScore.row p2.fValue.fScores))]] [] = some (.v (.i .i64 x1), []) := k_rostrumref_ValueFault p2.fValue _ h2
  refine aT (x1 == 0) ?_ ?_
  focus
    intro h3
    replace hF := ar h3 hF
    cases hF
  rotate_left 1
  intro h3
  replace hF := aq h3 hF
  refine aT (decide (0 < p1)) ?_ ?_
  focus
    intro h4
    replace hF := ar h4 hF
    cases hF
  rotate_left 1
  intro h4
  replace hF := aq h4 hF
  revert hF
  cases h5 : idx p0.fEntries (IntKind.i64.wrap (p1 - 1))
  focus
    intro hF
    cases hF
  rename_i x2
  intro hF
  try dsimp only at hF
  have g3 : decide (0 ≤ (IntKind.i64.wrap (p1 - 1))) = true := (cc h5).1
  have g4 : (ab GEntry.row p0.fEntries)[((IntKind.i64.wrap (p1 - 1)) : Int).toNat]? = some [.s x2.fKey, .i .i64 x2.fValue.fKind, .s x2.fValue.fText, .i .i64 x2.fValue.fCount, .sl 2 (ab GPair.row x2.fValue.fPairs), .sl 1 (ab aY x2.fValue.fItems), .sl 2 (ab GScore.row x2.fValue.fScores), .i .i64 x2.fUntil] := ca _ h5
  cases hF
  all_goals (simp (maxSteps := 4000000) only [*, n36k7, n36f7, n36mv, ↓RP, RB, aW, aC, aZ, Mx.bw, opnd, Mx.bF, Nat.reduceBEq, bK, aO, aB, ax, Mx.put, ofConst, ofCell, Mx.prune, killB, aK, putDst, au, aD, loadAt, bM, List.map, Nat.reduceAdd, cm, cn, forceAll, bg, lend, lendA, aS, ay, bL, bare, bQ, bB, Nat.reduceSub, fineK, aJ, aX, bX, bE, ce, bV, bk, aI, bh, Op.operands, newB, ch, ck, cj, bne, bc, aP, bm, Call.operands, ty9, ty53, ty61, ty63, ty117, ↓am _ _ _ _ 7])
theorem rg_rostrumref_StoreFault_k9v2 (C : ak) (k_rostrumref_In : K_rostrumref_In C) (p0 : GStore) (p1 : Int) (p2 : GEntry) (c : Code) (ho : cr 0 9 b36 = some c) (r : Bool) (hF : ck_rostrumref_StoreFault_k9v2 p0 p1 p2 = some r) : aH TT C.wide (evW TT C.wide n36 b36) n36 c ⟨[(1, .rp [.i .i64 p0.fNow, .sl 8 (ab GEntry.row p0.fEntries)]), (3, .v (.i .i64 p1)), (4, .ptr 0 0)], [[.v (.s p2.fKey), .v (.i .i64 p2.fValue.fKind), .v (.s p2.fValue.fText), .v (.i .i64 p2.fValue.fCount), .v (.sl 2 (ab GPair.row p2.fValue.fPairs)), .v (.sl 1 (ab aY p2.fValue.fItems)), .v (.sl 2 (ab GScore.row p2.fValue.fScores)), .v (.i .i64 p2.fUntil)]]⟩ = some (.normal, ⟨[(1, .rp [.i .i64 p0.fNow, .sl 8 (ab GEntry.row p0.fEntries)]), (3, .v (.i .i64 p1)), (68, .v (.b r))], [[.v (.s p2.fKey), .v (.i .i64 p2.fValue.fKind), .v (.s p2.fValue.fText), .v (.i .i64 p2.fValue.fCount), .v (.sl 2 (ab GPair.row p2.fValue.fPairs)), .v (.sl 1 (ab aY p2.fValue.fItems)), .v (.sl 2 (ab GScore.row p2.fValue.fScores)), .v (.i .i64 p2.fUntil)]]⟩) := by
  have e := Option.some.inj (ho.symm.trans (rfl : cr 0 9 b36 = some _))
  subst e
  clear ho
  unfold ck_rostrumref_StoreFault_k9v2 at hF
  refine aG (p2.fUntil == 0) ?_ ?_
  focus
    intro h1
    replace hF := aq h1 hF
    cases hF
  rotate_left 1
  intro h1
  replace hF := ar h1 hF
  have g1 : C.wide 55 [.v (.i .i64 p2.fUntil), .v (.i .i64 0), .v (.i .i64 1073741824)] [] = some (.v (.b (rostrumref_In_v p2.fUntil 0 1073741824)), []) := k_rostrumref_In p2.fUntil 0 1073741824 _ (rostrumref_In_t p2.fUntil 0 1073741824)
  have g2 : rostrumref_In_v p2.fUntil 0 1073741824 = (decide (0 ≤ p2.fUntil) && decide (p2.fUntil ≤ 1073741824)) := by first | rfl | (simp [rostrumref_In_v]; done) | (simp only [rostrumref_In_v]; decide)
  refine aT (decide (0 ≤ p2.fUntil)) ?_ ?_
  focus
    intro h2
    replace hF := ar h2 hF
    cases hF
  rotate_left 1
  intro h2
  replace hF := aq h2 hF
  refine aG (decide (p2.fUntil ≤ 1073741824)) ?_ ?_
  focus
    intro h3
    replace hF := aq h3 hF
    cases hF
  rotate_left 1
  intro h3
  replace hF := ar h3 hF
  cases hF
  all_goals (simp (maxSteps := 4000000) only [*, n36k9, n36mv, ↓RP, RB, aW, aC, aZ, Mx.bw, opnd, Mx.bF, Nat.reduceBEq, bK, aO, aB, ax, Mx.put, ofConst, ofCell, Mx.prune, killB, aK, putDst, au, aD, loadAt, bM, List.map, cm, cn, forceAll, lend, lendA, aS, ay, bL, bare, bQ, newB, ch, ck, cj, bne, bc, ty3, ty63, ty117, ↓aa _ _ _ _ 9])
def hd_rostrumref_StoreFault_0 (p0 : GStore) (s : Int) : St := ⟨[(1, .rp [.i .i64 p0.fNow, .sl 8 (ab GEntry.row p0.fEntries)]), (3, .v (.i .i64 s))], []⟩
def ou_rostrumref_StoreFault_0 (p0 : GStore) (r : GEntry ⊕ Unit) : Option (Ex × St) := match r with
  | .inl r => some (.ret, ⟨[(2, .v (.i .i64 13))], [[.v (.s r.fKey), .v (.i .i64 r.fValue.fKind), .v (.s r.fValue.fText), .v (.i .i64 r.fValue.fCount), .v (.sl 2 (ab GPair.row r.fValue.fPairs)), .v (.sl 1 (ab aY r.fValue.fItems)), .v (.sl 2 (ab GScore.row r.fValue.fScores)), .v (.i .i64 r.fUntil)]]⟩)
  | .inr r => some (.normal, ⟨[], []⟩)
theorem sl_rostrumref_StoreFault_0 (C : ak) (k_rostrumref_fieldMay : K_rostrumref_fieldMay C) (k_rostrumref_ValueFault : K_rostrumref_ValueFault C) (k_rostrumref_In : K_rostrumref_In C) (p0 : GStore) (p1 : Int) (o : Int ⊕ (GEntry ⊕ Unit)) (hF : st_rostrumref_StoreFault_0 p0 p1 = some o) : evW TT C.wide n36 b36 0 (hd_rostrumref_StoreFault_0 p0 p1) = Sum.elim (fun s => evW TT C.wide n36 b36 0 (hd_rostrumref_StoreFault_0 p0 s)) (fun r => ou_rostrumref_StoreFault_0 p0 r) o := by
  unfold st_rostrumref_StoreFault_0 at hF
  try dsimp only at hF
  rw [ct TT n36 fl36_0]
  refine aT (decide (p1 < (p0.fEntries.length : Int))) ?_ ?_
  focus
    intro h1
    replace hF := ar h1 hF
    cases hF
  rotate_left 1
  intro h1
  replace hF := aq h1 hF
  revert hF
  cases h2 : idx p0.fEntries p1
  focus
    intro hF
    cases hF
  rename_i x1
  intro hF
  try dsimp only at hF
  have g1 : decide (0 ≤ p1) = true := (cc h2).1
  have g2 : (ab GEntry.row p0.fEntries)[(p1 : Int).toNat]? = some [.s x1.fKey, .i .i64 x1.fValue.fKind, .s x1.fValue.fText, .i .i64 x1.fValue.fCount, .sl 2 (ab GPair.row x1.fValue.fPairs), .sl 1 (ab aY x1.fValue.fItems), .sl 2 (ab GScore.row x1.fValue.fScores), .i .i64 x1.fUntil] := ca _ h2
  revert hF
  cases h3 : ck_rostrumref_StoreFault_k7v2 p0 p1 x1
  focus
    intro hF
    cases hF
  rename_i x2
  intro hF
  try dsimp only at hF
  have g3 : @cR TT C.wide (evW TT C.wide n36 b36) n36 0 7 ⟨[(1, .rp [.i .i64 p0.fNow, .sl 8 (ab GEntry.row p0.fEntries)]), (3, .v (.i .i64 p1)), (4, .ptr 0 0)], [[.v (.s x1.fKey), .v (.i .i64 x1.fValue.fKind), .v (.s x1.fValue.fText), .v (.i .i64 x1.fValue.fCount), .v (.sl 2 (ab GPair.row x1.fValue.fPairs)), .v (.sl 1 (ab aY x1.fValue.fItems)), .v (.sl 2 (ab GScore.row x1.fValue.fScores)), .v (.i .i64 x1.fUntil)]]⟩ ⟨_⟩ = some (.normal, ⟨[(1, .rp [.i .i64 p0.fNow, .sl 8 (ab GEntry.row p0.fEntries)]), (3, .v (.i .i64 p1)), (4, .ptr 0 0), (52, .v (.b x2))], [[.v (.s x1.fKey), .v (.i .i64 x1.fValue.fKind), .v (.s x1.fValue.fText), .v (.i .i64 x1.fValue.fCount), .v (.sl 2 (ab GPair.row x1.fValue.fPairs)), .v (.sl 1 (ab aY x1.fValue.fItems)), .v (.sl 2 (ab GScore.row x1.fValue.fScores)), .v (.i .i64 x1.fUntil)]]⟩) := rg_rostrumref_StoreFault_k7v2 C k_rostrumref_fieldMay k_rostrumref_ValueFault p0 p1 x1 _ rfl _ h3
  refine aG x2 ?_ ?_
  focus
    intro h4
    replace hF := aq h4 hF
    cases hF
  rotate_left 1
  intro h4
  replace hF := ar h4 hF
  have g4 : @cR TT C.wide (evW TT C.wide n36 b36) n36 0 9 ⟨[(1, .rp [.i .i64 p0.fNow, .sl 8 (ab GEntry.row p0.fEntries)]), (3, .v (.i .i64 p1)), (4, .ptr 0 0)], [[.v (.s x1.fKey), .v (.i .i64 x1.fValue.fKind), .v (.s x1.fValue.fText), .v (.i .i64 x1.fValue.fCount), .v (.sl 2 (ab GPair.row x1.fValue.fPairs)), .v (.sl 1 (ab aY x1.fValue.fItems)), .v (.sl 2 (ab GScore.row x1.fValue.fScores)), .v (.i .i64 x1.fUntil)]]⟩ ⟨_⟩ = some (.normal, ⟨[(1, .rp [.i .i64 p0.fNow, .sl 8 (ab GEntry.row p0.fEntries)]), (3, .v (.i .i64 p1)), (68, .v (.b (ck_rostrumref_StoreFault_k9v2_v p0 p1 x1)))], [[.v (.s x1.fKey), .v (.i .i64 x1.fValue.fKind), .v (.s x1.fValue.fText), .v (.i .i64 x1.fValue.fCount), .v (.sl 2 (ab GPair.row x1.fValue.fPairs)), .v (.sl 1 (ab aY x1.fValue.fItems)), .v (.sl 2 (ab GScore.row x1.fValue.fScores)), .v (.i .i64 x1.fUntil)]]⟩) := rg_rostrumref_StoreFault_k9v2 C k_rostrumref_In p0 p1 x1 _ rfl (ck_rostrumref_StoreFault_k9v2_v p0 p1 x1) (ck_rostrumref_StoreFault_k9v2_t p0 p1 x1)
  refine aG (ck_rostrumref_StoreFault_k9v2_v p0 p1 x1) ?_ ?_
  focus
    intro h5
    replace hF := aq h5 hF
    cases hF
  rotate_left 1
  intro h5
  replace hF := ar h5 hF
  cases hF
  all_goals (show cD _ _ _ (aH _ _ _ _ (Code.seq _ _) _) = _; simp (maxSteps := 4000000) only [*, hd_rostrumref_StoreFault_0, ou_rostrumref_StoreFault_0, n36a19t, n36a19f, n36a52t, n36a52f, n36a68t, n36a68f, n36k4, n36k5, n36k6, n36k8, n36k10, n36mv, ↓RP, RB, ↓ah, aZ, be, aM, Mx.bw, opnd, Mx.bF, Nat.reduceBEq, bK, Mx.fit, bI, bY, cellsOf, aO, aB, ax, Mx.put, ofConst, ofCell, Mx.prune, killB, killBs, aK, putDst, au, aD, loadAt, bM, List.map, Nat.reduceAdd, cm, cn, cg, bD, aL, lowC, bg, kill, bB, setCells, Nat.reduceLeDiff, lowA, bi, ck, cj, bne, ↓aj, ↓ai, ty3, ty25, ty61, ty63, ty117, ↓aa _ _ _ _ 4, ↓aa _ _ _ _ 6, ↓bC _ _ _ _ 7, ↓aa _ _ _ _ 8, ↓bC _ _ _ _ 9, ↓aa _ _ _ _ 10, ↓aa _ _ _ _ 5])
theorem r_rostrumref_StoreFault (C : ak) (k_rostrumref_In : K_rostrumref_In C) (k_rostrumref_fieldMay : K_rostrumref_fieldMay C) (k_rostrumref_ValueFault : K_rostrumref_ValueFault C) (p0 : GStore) (r : Int) (hF : rostrumref_StoreFault p0 = some r) : cF TT C.wide (evW TT C.wide n36 b36) n36 Try.f36.results.toList (aQ Try.f36) [.agg [.v (.i .i64 p0.fNow), .v (.sl 8 (ab GEntry.row p0.fEntries))]] [] = some (.v (.i .i64 r), []) := by
  unfold rostrumref_StoreFault at hF
  have g1 : @cR TT C.wide (evW TT C.wide n36 b36) n36 0 1 ⟨[(1, .rp [.i .i64 p0.fNow, .sl 8 (ab GEntry.row p0.fEntries)])], []⟩ ⟨_⟩ = some (.normal, ⟨[(1, .rp [.i .i64 p0.fNow, .sl 8 (ab GEntry.row p0.fEntries)]), (14, .v (.b (ck_rostrumref_StoreFault_k1_v p0)))], []⟩) := rg_rostrumref_StoreFault_k1 C k_rostrumref_In p0 _ rfl (ck_rostrumref_StoreFault_k1_v p0) (ck_rostrumref_StoreFault_k1_t p0)
  refine aG (ck_rostrumref_StoreFault_k1_v p0) ?_ ?_
  focus
    intro h1
    replace hF := aq h1 hF
    have hR := Option.some.inj hF
    clear hF
    subst hR
  rotate_left 1
  intro h1
  replace hF := ar h1 hF
  revert hF
  cases h2 : ci (st_rostrumref_StoreFault_0 p0) 0
  focus
    intro hF
    cases hF
  rename_i qh2
  cases qh2
  focus
    rename_i z0h2
    revert z0h2
    intro x1 h2
    intro hF
    try dsimp only at hF
    have g2 : evW TT C.wide n36 b36 0 ⟨[(1, .rp [.i .i64 p0.fNow, .sl 8 (ab GEntry.row p0.fEntries)]), (3, .v (.i .i64 0))], []⟩ = some (.ret, ⟨[(2, .v (.i .i64 13))], [[.v (.s x1.fKey), .v (.i .i64 x1.fValue.fKind), .v (.s x1.fValue.fText), .v (.i .i64 x1.fValue.fCount), .v (.sl 2 (ab GPair.row x1.fValue.fPairs)), .v (.sl 1 (ab aY x1.fValue.fItems)), .v (.sl 2 (ab GScore.row x1.fValue.fScores)), .v (.i .i64 x1.fUntil)]]⟩) := cy (hd_rostrumref_StoreFault_0 p0) (ou_rostrumref_StoreFault_0 p0) (fun s o hs => sl_rostrumref_StoreFault_0 C k_rostrumref_fieldMay k_rostrumref_ValueFault k_rostrumref_In p0 s o hs) h2
    have hR := Option.some.inj hF
    clear hF
    subst hR
  rotate_left 1
  rename_i y0h2
  intro hF
  try dsimp only at hF
  have g3 : evW TT C.wide n36 b36 0 ⟨[(1, .rp [.i .i64 p0.fNow, .sl 8 (ab GEntry.row p0.fEntries)]), (3, .v (.i .i64 0))], []⟩ = some (.normal, ⟨[], []⟩) := cy (hd_rostrumref_StoreFault_0 p0) (ou_rostrumref_StoreFault_0 p0) (fun s o hs => sl_rostrumref_StoreFault_0 C k_rostrumref_fieldMay k_rostrumref_ValueFault k_rostrumref_In p0 s o hs) h2
  have hR := Option.some.inj hF
  clear hF
  subst hR
  all_goals (rw [ba]; show cp _ _ _ (aH _ _ _ _ (Code.seq _ _) _) = _; simp (maxSteps := 4000000) only [*, res36, n36a14t, n36a14f, n36k0, n36k2, n36k3, n36k11, n36ro, ↓RP, RB, enter, aZ, be, aM, Mx.bw, opnd, Mx.bF, Nat.reduceBEq, bK, Mx.fit, bI, bY, toVs, cellsOf, toV, aO, aB, ax, Mx.put, ofConst, ofCell, Mx.prune, killB, List.map, az, bn, bq, co, bN, bD, aL, lowC, ↓aj, ↓ai, ty3, ty25, ty63, ↓aa _ _ _ _ 0, ↓bC _ _ _ _ 1, ↓aa _ _ _ _ 2, ↓aa _ _ _ _ 3, ↓aa _ _ _ _ 11])
def n91 : cC where
  keep := fun i => match i with
    | 0 => [0]
    | 1 => [2]
    | _ => []
  ro := fun _ => false
  mv := fun _ => false
  give := fun _ => false
  free := fun _ => []
theorem n91k0 : n91.keep 0 = [0] := rfl
theorem n91k1 : n91.keep 1 = [2] := rfl
theorem res91 : Try.f91.results.toList = [.tmp 2] := rfl
noncomputable def b91 : Code := aQ Try.f91
theorem r_rostrumref_numberMay (C : ak) (k_rostrumref_In : K_rostrumref_In C) (p0 : Int) (r : Bool) (hF : rostrumref_numberMay p0 = some r) : cF TT C.wide (evW TT C.wide n91 b91) n91 Try.f91.results.toList (aQ Try.f91) [.v (.i .i64 p0)] [] = some (.v (.b r), []) := by
  unfold rostrumref_numberMay at hF
  have g1 : C.wide 55 [.v (.i .i64 p0), .v (.i .i64 1), .v (.i .i64 1048576)] [] = some (.v (.b (rostrumref_In_v p0 1 1048576)), []) := k_rostrumref_In p0 1 1048576 _ (rostrumref_In_t p0 1 1048576)
  have g2 : rostrumref_In_v p0 1 1048576 = (decide (1 ≤ p0) && decide (p0 ≤ 1048576)) := by first | rfl | (simp [rostrumref_In_v]; done) | (simp only [rostrumref_In_v]; decide)
  have hR := Option.some.inj hF
  clear hF
  subst hR
  all_goals (rw [ba]; show cp _ _ _ (aH _ _ _ _ (Code.seq _ _) _) = _; simp (maxSteps := 4000000) only [*, res91, n91k0, n91k1, ↓RP, RB, enter, aZ, be, aM, Mx.bw, opnd, Mx.bF, Nat.reduceBEq, bK, Mx.fit, bY, aO, aB, Mx.put, ofConst, ofCell, Mx.prune, killB, aK, putDst, au, List.map, az, bn, bq, co, bN, bD, aL, lowC, forceAll, lend, lendA, aS, ay, bL, bare, bQ, newB, ch, ↓aj, ↓aa, ty4])
def n92 : cC where
  keep := fun i => match i with
    | 0 => [1]
    | 1 => [1, 7]
    | 2 => [2]
    | 3 => [1, 17]
    | 4 => [2]
    | 5 => [1, 3]
    | 6 => [1, 3, 22]
    | 7 => [1, 3]
    | 8 => [1, 3, 31]
    | 9 => [2]
    | 10 => [35]
    | 11 => [2]
    | 12 => [2]
    | _ => []
  ro := fun t => t == 1
  mv := fun _ => false
  give := fun _ => false
  free := fun _ => []
  alive := fun i x => match i, x with
    | 7, true => some []
    | 7, false => some [1]
    | 17, true => some []
    | 17, false => some [1]
    | 22, true => some [1, 3]
    | 22, false => some [1]
    | 31, true => some []
    | 31, false => some [1, 3]
    | 35, true => some []
    | 35, false => some []
    | _, _ => none
theorem n92a7t (e : Env) (S : aA) : aw n92 7 true ⟨e, S⟩ = ⟨prune [] e, S⟩ := rfl
theorem n92a7f (e : Env) (S : aA) : aw n92 7 false ⟨e, S⟩ = ⟨prune [1] e, S⟩ := rfl
theorem n92a17t (e : Env) (S : aA) : aw n92 17 true ⟨e, S⟩ = ⟨prune [] e, S⟩ := rfl
theorem n92a17f (e : Env) (S : aA) : aw n92 17 false ⟨e, S⟩ = ⟨prune [1] e, S⟩ := rfl
theorem n92a22t (e : Env) (S : aA) : aw n92 22 true ⟨e, S⟩ = ⟨prune [1, 3] e, S⟩ := rfl
theorem n92a22f (e : Env) (S : aA) : aw n92 22 false ⟨e, S⟩ = ⟨prune [1] e, S⟩ := rfl
theorem n92a31t (e : Env) (S : aA) : aw n92 31 true ⟨e, S⟩ = ⟨prune [] e, S⟩ := rfl
theorem n92a31f (e : Env) (S : aA) : aw n92 31 false ⟨e, S⟩ = ⟨prune [1, 3] e, S⟩ := rfl
theorem n92a35t (e : Env) (S : aA) : aw n92 35 true ⟨e, S⟩ = ⟨prune [] e, S⟩ := rfl
theorem n92a35f (e : Env) (S : aA) : aw n92 35 false ⟨e, S⟩ = ⟨prune [] e, S⟩ := rfl
theorem n92k0 : n92.keep 0 = [1] := rfl
theorem n92k1 : n92.keep 1 = [1, 7] := rfl
theorem n92k2 : n92.keep 2 = [2] := rfl
theorem n92k3 : n92.keep 3 = [1, 17] := rfl
theorem n92k4 : n92.keep 4 = [2] := rfl
theorem n92k5 : n92.keep 5 = [1, 3] := rfl
theorem n92k6 : n92.keep 6 = [1, 3, 22] := rfl
theorem n92k7 : n92.keep 7 = [1, 3] := rfl
theorem n92k8 : n92.keep 8 = [1, 3, 31] := rfl
theorem n92k9 : n92.keep 9 = [2] := rfl
theorem n92k10 : n92.keep 10 = [35] := rfl
theorem n92k11 : n92.keep 11 = [2] := rfl
theorem n92k12 : n92.keep 12 = [2] := rfl
theorem n92ro (t : Nat) : n92.ro t = (t == 1) := rfl
theorem n92mv (t : Nat) : n92.mv t = (false) := rfl
theorem res92 : Try.f92.results.toList = [.tmp 2] := rfl
noncomputable def b92 : Code := aQ Try.f92
noncomputable def c92_0 : Code := (bz 0 (aQ Try.f92)).getD .skip
theorem fl92_0 : bz 0 b92 = some c92_0 := rfl
def hd_rostrumref_ReplyFault_0 (p0 : GReply) (s : Int) : St := ⟨[(1, .rp [.i .i64 p0.fCode, .s p0.fText, .i .i64 p0.fN, .sl 1 (ab aY p0.fList)]), (3, .v (.i .i64 s))], []⟩
def ou_rostrumref_ReplyFault_0 (p0 : GReply) (r : Unit ⊕ Unit) : Option (Ex × St) := match r with
  | .inl r => some (.ret, ⟨[(2, .v (.i .i64 1))], []⟩)
  | .inr r => some (.normal, ⟨[(1, .rp [.i .i64 p0.fCode, .s p0.fText, .i .i64 p0.fN, .sl 1 (ab aY p0.fList)])], []⟩)
theorem sl_rostrumref_ReplyFault_0 (C : ak) (k_rostrumref_textMay : K_rostrumref_textMay C) (p0 : GReply) (p1 : Int) (o : Int ⊕ (Unit ⊕ Unit)) (hF : st_rostrumref_ReplyFault_0 p0 p1 = some o) : evW TT C.wide n92 b92 0 (hd_rostrumref_ReplyFault_0 p0 p1) = Sum.elim (fun s => evW TT C.wide n92 b92 0 (hd_rostrumref_ReplyFault_0 p0 s)) (fun r => ou_rostrumref_ReplyFault_0 p0 r) o := by
  unfold st_rostrumref_ReplyFault_0 at hF
  try dsimp only at hF
  rw [ct TT n92 fl92_0]
  refine aT (decide (p1 < (p0.fList.length : Int))) ?_ ?_
  focus
    intro h1
    replace hF := ar h1 hF
    cases hF
  rotate_left 1
  intro h1
  replace hF := aq h1 hF
  revert hF
  cases h2 : idx p0.fList p1
  focus
    intro hF
    cases hF
  rename_i x1
  intro hF
  try dsimp only at hF
  have g1 : decide (0 ≤ p1) = true := (cc h2).1
  have g2 : (ab aY p0.fList)[(p1 : Int).toNat]? = some [.s x1] := ca _ h2
  have g3 : C.wide 80 [.v (.s x1)] [] = some (.v (.b (rostrumref_textMay_v x1)), []) := k_rostrumref_textMay x1 _ (rostrumref_textMay_t x1)
  refine aG (rostrumref_textMay_v x1) ?_ ?_
  focus
    intro h3
    replace hF := aq h3 hF
    cases hF
  rotate_left 1
  intro h3
  replace hF := ar h3 hF
  cases hF
  all_goals (show cD _ _ _ (aH _ _ _ _ (Code.seq _ _) _) = _; simp (maxSteps := 4000000) only [*, hd_rostrumref_ReplyFault_0, ou_rostrumref_ReplyFault_0, n92a22t, n92a22f, n92a31t, n92a31f, n92k6, n92k7, n92k8, n92k9, n92mv, ↓RP, RB, ↓ah, aZ, be, aM, Mx.bw, opnd, Mx.bF, Nat.reduceBEq, bK, Mx.fit, bY, aO, aB, ax, Mx.put, ofConst, ofCell, Mx.prune, killB, aK, putDst, au, aD, loadAt, bM, List.map, cm, cn, cg, forceAll, bg, lend, lendA, aS, ay, bL, bare, bQ, newB, ch, ck, cj, ↓aj, ↓ai, ↓aa, ty3, ty9, ty25, ty50, ty128])
theorem r_rostrumref_ReplyFault (C : ak) (k_rostrumref_In : K_rostrumref_In C) (k_rostrumref_textMay : K_rostrumref_textMay C) (k_rostrumref_countMay : K_rostrumref_countMay C) (p0 : GReply) (r : Int) (hF : rostrumref_ReplyFault p0 = some r) : cF TT C.wide (evW TT C.wide n92 b92) n92 Try.f92.results.toList (aQ Try.f92) [.agg [.v (.i .i64 p0.fCode), .v (.s p0.fText), .v (.i .i64 p0.fN), .v (.sl 1 (ab aY p0.fList))]] [] = some (.v (.i .i64 r), []) := by
  unfold rostrumref_ReplyFault at hF
  have g1 : C.wide 55 [.v (.i .i64 p0.fCode), .v (.i .i64 0), .v (.i .i64 13)] [] = some (.v (.b (rostrumref_In_v p0.fCode 0 13)), []) := k_rostrumref_In p0.fCode 0 13 _ (rostrumref_In_t p0.fCode 0 13)
  have g2 : rostrumref_In_v p0.fCode 0 13 = (decide (0 ≤ p0.fCode) && decide (p0.fCode ≤ 13)) := by first | rfl | (simp [rostrumref_In_v]; done) | (simp only [rostrumref_In_v]; decide)
  refine aT (decide (0 ≤ p0.fCode)) ?_ ?_
  focus
    intro h1
    replace hF := ar h1 hF
    have hR := Option.some.inj hF
    clear hF
    subst hR
  rotate_left 1
  intro h1
  replace hF := aq h1 hF
  refine aT (decide (p0.fCode ≤ 13)) ?_ ?_
  focus
    intro h2
    replace hF := ar h2 hF
    have hR := Option.some.inj hF
    clear hF
    subst hR
  rotate_left 1
  intro h2
  replace hF := aq h2 hF
  have g3 : C.wide 80 [.v (.s p0.fText)] [] = some (.v (.b (rostrumref_textMay_v p0.fText)), []) := k_rostrumref_textMay p0.fText _ (rostrumref_textMay_t p0.fText)
  refine aT (rostrumref_textMay_v p0.fText) ?_ ?_
  focus
    intro h3
    replace hF := ar h3 hF
    have hR := Option.some.inj hF
    clear hF
    subst hR
  rotate_left 1
  intro h3
  replace hF := aq h3 hF
  refine aG (decide (20 < (p0.fList.length : Int))) ?_ ?_
  focus
    intro h4
    replace hF := aq h4 hF
    have hR := Option.some.inj hF
    clear hF
    subst hR
  rotate_left 1
  intro h4
  replace hF := ar h4 hF
  revert hF
  cases h5 : ci (st_rostrumref_ReplyFault_0 p0) 0
  focus
    intro hF
    cases hF
  rename_i qh5
  cases qh5
  focus
    rename_i z0h5
    intro hF
    try dsimp only at hF
    have g4 : evW TT C.wide n92 b92 0 ⟨[(1, .rp [.i .i64 p0.fCode, .s p0.fText, .i .i64 p0.fN, .sl 1 (ab aY p0.fList)]), (3, .v (.i .i64 0))], []⟩ = some (.ret, ⟨[(2, .v (.i .i64 1))], []⟩) := cy (hd_rostrumref_ReplyFault_0 p0) (ou_rostrumref_ReplyFault_0 p0) (fun s o hs => sl_rostrumref_ReplyFault_0 C k_rostrumref_textMay p0 s o hs) h5
    have hR := Option.some.inj hF
    clear hF
    subst hR
  rotate_left 1
  rename_i y0h5
  intro hF
  try dsimp only at hF
  have g5 : evW TT C.wide n92 b92 0 ⟨[(1, .rp [.i .i64 p0.fCode, .s p0.fText, .i .i64 p0.fN, .sl 1 (ab aY p0.fList)]), (3, .v (.i .i64 0))], []⟩ = some (.normal, ⟨[(1, .rp [.i .i64 p0.fCode, .s p0.fText, .i .i64 p0.fN, .sl 1 (ab aY p0.fList)])], []⟩) := cy (hd_rostrumref_ReplyFault_0 p0) (ou_rostrumref_ReplyFault_0 p0) (fun s o hs => sl_rostrumref_ReplyFault_0 C k_rostrumref_textMay p0 s o hs) h5
  have g6 : C.wide 82 [.v (.i .i64 p0.fN)] [] = some (.v (.b (rostrumref_countMay_v p0.fN)), []) := k_rostrumref_countMay p0.fN _ (rostrumref_countMay_t p0.fN)
  refine aG (rostrumref_countMay_v p0.fN) ?_ ?_
  focus
    intro h6
    replace hF := aq h6 hF
    have hR := Option.some.inj hF
    clear hF
    subst hR
  rotate_left 1
  intro h6
  replace hF := ar h6 hF
  have hR := Option.some.inj hF
  clear hF
  subst hR
  all_goals (rw [ba]; show cp _ _ _ (aH _ _ _ _ (Code.seq _ _) _) = _; simp (maxSteps := 4000000) only [*, res92, n92a7t, n92a7f, n92a17t, n92a17f, n92a35t, n92a35f, n92k0, n92k1, n92k2, n92k3, n92k4, n92k5, n92k10, n92k11, n92k12, n92ro, n92mv, ↓RP, RB, enter, aW, aC, aZ, be, aM, Mx.bw, opnd, Mx.bF, Nat.reduceBEq, bK, Mx.fit, bI, bY, toVs, cellsOf, toV, aO, aB, ax, Mx.put, ofConst, ofCell, Mx.prune, killB, aK, putDst, au, aD, loadAt, bM, List.map, cm, cn, cg, az, bn, bq, co, bN, bD, aL, lowC, forceAll, lend, lendA, aS, ay, bL, bare, bQ, newB, ch, ck, cj, ↓aj, ↓ai, ↓aa, bc, ty3, ty9, ty25, ty50, ty128])
def n42 : cC where
  keep := fun i => match i with
    | 0 => [1]
    | 1 => [1, 20]
    | 2 => [2]
    | 3 => [1, 3]
    | 4 => [1, 3, 25]
    | 5 => [1, 3]
    | 6 => [1, 3, 4]
    | 7 => [1, 3, 80]
    | 8 => [2]
    | 9 => [2]
    | _ => []
  ro := fun t => t == 1
  mv := fun _ => false
  give := fun _ => false
  free := fun i => match i with | 7 => [(5, 7), (6, 7), (5, 8), (6, 8), (15, 17), (16, 17), (15, 18), (16, 18), (15, 22), (16, 22), (17, 22), (18, 22), (19, 22), (20, 22), (21, 22), (15, 23), (16, 23), (17, 23), (18, 23), (19, 23), (20, 23), (21, 23), (34, 36), (35, 36), (34, 37), (35, 37), (34, 38), (35, 38)] | _ => []
  alive := fun i x => match i, x with
    | 20, true => some []
    | 20, false => some [1]
    | 25, true => some [1, 3]
    | 25, false => some []
    | 80, true => some []
    | 80, false => some [1, 3]
    | _, _ => none
theorem n42a20t (e : Env) (S : aA) : aw n42 20 true ⟨e, S⟩ = ⟨prune [] e, S⟩ := rfl
theorem n42a20f (e : Env) (S : aA) : aw n42 20 false ⟨e, S⟩ = ⟨prune [1] e, S⟩ := rfl
theorem n42a25t (e : Env) (S : aA) : aw n42 25 true ⟨e, S⟩ = ⟨prune [1, 3] e, S⟩ := rfl
theorem n42a25f (e : Env) (S : aA) : aw n42 25 false ⟨e, S⟩ = ⟨prune [] e, S⟩ := rfl
theorem n42a80t (e : Env) (S : aA) : aw n42 80 true ⟨e, S⟩ = ⟨prune [] e, S⟩ := rfl
theorem n42a80f (e : Env) (S : aA) : aw n42 80 false ⟨e, S⟩ = ⟨prune [1, 3] e, S⟩ := rfl
theorem n42k0 : n42.keep 0 = [1] := rfl
theorem n42k1 : n42.keep 1 = [1, 20] := rfl
theorem n42k2 : n42.keep 2 = [2] := rfl
theorem n42k3 : n42.keep 3 = [1, 3] := rfl
theorem n42k4 : n42.keep 4 = [1, 3, 25] := rfl
theorem n42k5 : n42.keep 5 = [1, 3] := rfl
theorem n42k6 : n42.keep 6 = [1, 3, 4] := rfl
theorem n42k7 : n42.keep 7 = [1, 3, 80] := rfl
theorem n42k8 : n42.keep 8 = [2] := rfl
theorem n42k9 : n42.keep 9 = [2] := rfl
theorem n42ro (t : Nat) : n42.ro t = (t == 1) := rfl
theorem n42mv (t : Nat) : n42.mv t = (false) := rfl
theorem n42f7 : n42.free 7 = [(5, 7), (6, 7), (5, 8), (6, 8), (15, 17), (16, 17), (15, 18), (16, 18), (15, 22), (16, 22), (17, 22), (18, 22), (19, 22), (20, 22), (21, 22), (15, 23), (16, 23), (17, 23), (18, 23), (19, 23), (20, 23), (21, 23), (34, 36), (35, 36), (34, 37), (35, 37), (34, 38), (35, 38)] := rfl
theorem res42 : Try.f42.results.toList = [.tmp 2] := rfl
noncomputable def b42 : Code := aQ Try.f42
noncomputable def c42_0 : Code := (bz 0 (aQ Try.f42)).getD .skip
theorem fl42_0 : bz 0 b42 = some c42_0 := rfl
theorem rg_rostrumref_MachineFault_k1 (C : ak) (k_rostrumref_StoreFault : K_rostrumref_StoreFault C) (k_rostrumref_In : K_rostrumref_In C) (p0 : GMachine) (c : Code) (ho : cr 0 1 b42 = some c) (r : Bool) (hF : ck_rostrumref_MachineFault_k1 p0 = some r) : aH TT C.wide (evW TT C.wide n42 b42) n42 c ⟨[(1, .rp [.i .i64 p0.fStore.fNow, .sl 8 (ab GEntry.row p0.fStore.fEntries), .i .i64 p0.fNext, .sl 7 (ab GClient.row p0.fClients)])], []⟩ = some (.normal, ⟨[(1, .rp [.i .i64 p0.fStore.fNow, .sl 8 (ab GEntry.row p0.fStore.fEntries), .i .i64 p0.fNext, .sl 7 (ab GClient.row p0.fClients)]), (20, .v (.b r))], []⟩) := by
  have e := Option.some.inj (ho.symm.trans (rfl : cr 0 1 b42 = some _))
  subst e
  clear ho
  unfold ck_rostrumref_MachineFault_k1 at hF
  revert hF
  cases h1 : rostrumref_StoreFault p0.fStore
  focus
    intro hF
    cases hF
  rename_i x1
  intro hF
  try dsimp only at hF
  have g1 : C.wide 36 [.agg [.v (.i .i64 p0.fStore.fNow), .v (.sl 8 (ab GEntry.row p0.fStore.fEntries))]] [] = some (.v (.i .i64 x1), []) := k_rostrumref_StoreFault p0.fStore _ h1
  refine aT (x1 == 0) ?_ ?_
  focus
    intro h2
    replace hF := ar h2 hF
    cases hF
  rotate_left 1
  intro h2
  replace hF := aq h2 hF
  have g2 : C.wide 55 [.v (.i .i64 p0.fNext), .v (.i .i64 1), .v (.i .i64 1048577)] [] = some (.v (.b (rostrumref_In_v p0.fNext 1 1048577)), []) := k_rostrumref_In p0.fNext 1 1048577 _ (rostrumref_In_t p0.fNext 1 1048577)
  have g3 : rostrumref_In_v p0.fNext 1 1048577 = (decide (1 ≤ p0.fNext) && decide (p0.fNext ≤ 1048577)) := by first | rfl | (simp [rostrumref_In_v]; done) | (simp only [rostrumref_In_v]; decide)
  refine aT (decide (1 ≤ p0.fNext)) ?_ ?_
  focus
    intro h3
    replace hF := ar h3 hF
    cases hF
  rotate_left 1
  intro h3
  replace hF := aq h3 hF
  refine aG (decide (p0.fNext ≤ 1048577)) ?_ ?_
  focus
    intro h4
    replace hF := aq h4 hF
    cases hF
  rotate_left 1
  intro h4
  replace hF := ar h4 hF
  cases hF
  all_goals (simp (maxSteps := 4000000) only [*, n42k1, n42mv, ↓RP, RB, aW, aC, aZ, Mx.bw, opnd, Mx.bF, Nat.reduceBEq, bK, aO, aB, ax, Mx.put, ofConst, ofCell, Mx.prune, killB, aK, putDst, au, aD, loadAt, bM, List.map, Nat.reduceAdd, cm, cn, cg, forceAll, lend, lendA, aS, ay, bL, bare, bQ, newB, ch, ck, cj, bne, bc, ty3, ty63, ty71, ty73, ↓aa _ _ _ _ 1])
theorem rg_rostrumref_MachineFault_k7v2 (C : ak) (k_rostrumref_numberMay : K_rostrumref_numberMay C) (k_rostrumref_In : K_rostrumref_In C) (k_rostrumref_ReplyFault : K_rostrumref_ReplyFault C) (p0 : GMachine) (p1 : Int) (p2 : GClient) (c : Code) (ho : cr 0 7 b42 = some c) (r : Bool) (hF : ck_rostrumref_MachineFault_k7v2 p0 p1 p2 = some r) : aH TT C.wide (evW TT C.wide n42 b42) n42 c ⟨[(1, .rp [.i .i64 p0.fStore.fNow, .sl 8 (ab GEntry.row p0.fStore.fEntries), .i .i64 p0.fNext, .sl 7 (ab GClient.row p0.fClients)]), (3, .v (.i .i64 p1)), (4, .ptr 0 0)], [[.v (.i .i64 p2.fId), .v (.i .i64 p2.fSeq), .v (.i .i64 p2.fTime), .v (.i .i64 p2.fReply.fCode), .v (.s p2.fReply.fText), .v (.i .i64 p2.fReply.fN), .v (.sl 1 (ab aY p2.fReply.fList))]]⟩ = some (.normal, ⟨[(1, .rp [.i .i64 p0.fStore.fNow, .sl 8 (ab GEntry.row p0.fStore.fEntries), .i .i64 p0.fNext, .sl 7 (ab GClient.row p0.fClients)]), (3, .v (.i .i64 p1)), (80, .v (.b r))], [[.v (.i .i64 p2.fId), .v (.i .i64 p2.fSeq), .v (.i .i64 p2.fTime), .v (.i .i64 p2.fReply.fCode), .v (.s p2.fReply.fText), .v (.i .i64 p2.fReply.fN), .v (.sl 1 (ab aY p2.fReply.fList))]]⟩) := by
  have e := Option.some.inj (ho.symm.trans (rfl : cr 0 7 b42 = some _))
  subst e
  clear ho
  unfold ck_rostrumref_MachineFault_k7v2 at hF
  have g1 : C.wide 91 [.v (.i .i64 p2.fId)] [] = some (.v (.b (rostrumref_numberMay_v p2.fId)), []) := k_rostrumref_numberMay p2.fId _ (rostrumref_numberMay_t p2.fId)
  refine aT (rostrumref_numberMay_v p2.fId) ?_ ?_
  focus
    intro h1
    replace hF := ar h1 hF
    cases hF
  rotate_left 1
  intro h1
  replace hF := aq h1 hF
  unfold ck_rostrumref_MachineFault_k7v2_c1 at hF
  refine aG (decide (p0.fNext ≤ p2.fId)) ?_ ?_
  focus
    intro h2
    replace hF := aq h2 hF
    cases hF
  rotate_left 1
  intro h2
  replace hF := ar h2 hF
  refine aT (decide (0 < p1)) ?_ ?_
  focus
    intro h3
    replace hF := ar h3 hF
    have g2 : C.wide 55 [.v (.i .i64 p2.fSeq), .v (.i .i64 0), .v (.i .i64 1048576)] [] = some (.v (.b (rostrumref_In_v p2.fSeq 0 1048576)), []) := k_rostrumref_In p2.fSeq 0 1048576 _ (rostrumref_In_t p2.fSeq 0 1048576)
    have g3 : rostrumref_In_v p2.fSeq 0 1048576 = (decide (0 ≤ p2.fSeq) && decide (p2.fSeq ≤ 1048576)) := by first | rfl | (simp [rostrumref_In_v]; done) | (simp only [rostrumref_In_v]; decide)
    refine aT (decide (0 ≤ p2.fSeq)) ?_ ?_
    focus
      intro h4
      replace hF := ar h4 hF
      cases hF
    rotate_left 1
    intro h4
    replace hF := aq h4 hF
    refine aT (decide (p2.fSeq ≤ 1048576)) ?_ ?_
    focus
      intro h5
      replace hF := ar h5 hF
      cases hF
    rotate_left 1
    intro h5
    replace hF := aq h5 hF
    have g4 : C.wide 55 [.v (.i .i64 p2.fTime), .v (.i .i64 0), .v (.i .i64 p0.fStore.fNow)] [] = some (.v (.b (rostrumref_In_v p2.fTime 0 p0.fStore.fNow)), []) := k_rostrumref_In p2.fTime 0 p0.fStore.fNow _ (rostrumref_In_t p2.fTime 0 p0.fStore.fNow)
    have g5 : rostrumref_In_v p2.fTime 0 p0.fStore.fNow = (decide (0 ≤ p2.fTime) && decide (p2.fTime ≤ p0.fStore.fNow)) := by first | rfl | (simp [rostrumref_In_v]; done) | (simp only [rostrumref_In_v]; decide)
    refine aT (decide (0 ≤ p2.fTime)) ?_ ?_
    focus
      intro h6
      replace hF := ar h6 hF
      cases hF
    rotate_left 1
    intro h6
    replace hF := aq h6 hF
    refine aT (decide (p2.fTime ≤ p0.fStore.fNow)) ?_ ?_
    focus
      intro h7
      replace hF := ar h7 hF
      cases hF
    rotate_left 1
    intro h7
    replace hF := aq h7 hF
    revert hF
    cases h8 : rostrumref_ReplyFault p2.fReply
    focus
      intro hF
      cases hF
    rename_i x1
    intro hF
    try dsimp only at hF
    have g6 : C.wide 92 [.agg [.v (.i .i64 p2.fReply.fCode), .v (.s p2.fReply.fText), .v (.i .i64 p2.fReply.fN), .v (.sl 1 (ab aY p2.fReply.fList))]] [] = some (.v (.i .i64 x1), []) := k_rostrumref_ReplyFault p2.fReply _ h8
    cases hF
  rotate_left 5
  intro h3
  replace hF := aq h3 hF
  unfold ck_rostrumref_MachineFault_k7v2_c0 at hF
  revert hF
  cases h4 : idx p0.fClients (IntKind.i64.wrap (p1 - 1))
  focus
    intro hF
    cases hF
  rename_i x1
  intro hF
  try dsimp only at hF
  have g7 : decide (0 ≤ (IntKind.i64.wrap (p1 - 1))) = true := (cc h4).1
  have g8 : (ab GClient.row p0.fClients)[((IntKind.i64.wrap (p1 - 1)) : Int).toNat]? = some [.i .i64 x1.fId, .i .i64 x1.fSeq, .i .i64 x1.fTime, .i .i64 x1.fReply.fCode, .s x1.fReply.fText, .i .i64 x1.fReply.fN, .sl 1 (ab aY x1.fReply.fList)] := ca _ h4
  refine aG (decide (p2.fId ≤ x1.fId)) ?_ ?_
  focus
    intro h5
    replace hF := aq h5 hF
    cases hF
  rotate_left 1
  intro h5
  replace hF := ar h5 hF
  have g2 : C.wide 55 [.v (.i .i64 p2.fSeq), .v (.i .i64 0), .v (.i .i64 1048576)] [] = some (.v (.b (rostrumref_In_v p2.fSeq 0 1048576)), []) := k_rostrumref_In p2.fSeq 0 1048576 _ (rostrumref_In_t p2.fSeq 0 1048576)
  have g3 : rostrumref_In_v p2.fSeq 0 1048576 = (decide (0 ≤ p2.fSeq) && decide (p2.fSeq ≤ 1048576)) := by first | rfl | (simp [rostrumref_In_v]; done) | (simp only [rostrumref_In_v]; decide)
  refine aT (decide (0 ≤ p2.fSeq)) ?_ ?_
  focus
    intro h6
    replace hF := ar h6 hF
    cases hF
  rotate_left 1
  intro h6
  replace hF := aq h6 hF
  refine aT (decide (p2.fSeq ≤ 1048576)) ?_ ?_
  focus
    intro h7
    replace hF := ar h7 hF
    cases hF
  rotate_left 1
  intro h7
  replace hF := aq h7 hF
  have g4 : C.wide 55 [.v (.i .i64 p2.fTime), .v (.i .i64 0), .v (.i .i64 p0.fStore.fNow)] [] = some (.v (.b (rostrumref_In_v p2.fTime 0 p0.fStore.fNow)), []) := k_rostrumref_In p2.fTime 0 p0.fStore.fNow _ (rostrumref_In_t p2.fTime 0 p0.fStore.fNow)
  have g5 : rostrumref_In_v p2.fTime 0 p0.fStore.fNow = (decide (0 ≤ p2.fTime) && decide (p2.fTime ≤ p0.fStore.fNow)) := by first | rfl | (simp [rostrumref_In_v]; done) | (simp only [rostrumref_In_v]; decide)
  refine aT (decide (0 ≤ p2.fTime)) ?_ ?_
  focus
    intro h8
    replace hF := ar h8 hF
    cases hF
  rotate_left 1
  intro h8
  replace hF := aq h8 hF
  refine aT (decide (p2.fTime ≤ p0.fStore.fNow)) ?_ ?_
  focus
    intro h9
    replace hF := ar h9 hF
    cases hF
  rotate_left 1
  intro h9
  replace hF := aq h9 hF
  revert hF
  cases h10 : rostrumref_ReplyFault p2.fReply
  focus
    intro hF
    cases hF
  rename_i x2
  intro hF
  try dsimp only at hF
  have g9 : C.wide 92 [.agg [.v (.i .i64 p2.fReply.fCode), .v (.s p2.fReply.fText), .v (.i .i64 p2.fReply.fN), .v (.sl 1 (ab aY p2.fReply.fList))]] [] = some (.v (.i .i64 x2), []) := k_rostrumref_ReplyFault p2.fReply _ h10
  cases hF
  all_goals (simp (maxSteps := 4000000) only [*, n42k7, n42f7, n42mv, ↓RP, RB, aW, aC, aZ, Mx.bw, opnd, Mx.bF, Nat.reduceBEq, bK, aO, aB, ax, Mx.put, ofConst, ofCell, Mx.prune, killB, aK, putDst, au, aD, loadAt, bM, List.map, Nat.reduceAdd, cm, cn, forceAll, bg, lend, lendA, aS, ay, bL, bare, bQ, bB, Nat.reduceSub, fineK, aJ, aX, bX, bE, ce, bV, bk, aI, bh, Op.operands, newB, ch, ck, cj, bne, bc, aP, bm, Call.operands, ty3, ty63, ty71, ty73, ty128, ty130, ↓am _ _ _ _ 7])
def hd_rostrumref_MachineFault_0 (p0 : GMachine) (s : Int) : St := ⟨[(1, .rp [.i .i64 p0.fStore.fNow, .sl 8 (ab GEntry.row p0.fStore.fEntries), .i .i64 p0.fNext, .sl 7 (ab GClient.row p0.fClients)]), (3, .v (.i .i64 s))], []⟩
def ou_rostrumref_MachineFault_0 (p0 : GMachine) (r : GClient ⊕ Unit) : Option (Ex × St) := match r with
  | .inl r => some (.ret, ⟨[(2, .v (.i .i64 13))], [[.v (.i .i64 r.fId), .v (.i .i64 r.fSeq), .v (.i .i64 r.fTime), .v (.i .i64 r.fReply.fCode), .v (.s r.fReply.fText), .v (.i .i64 r.fReply.fN), .v (.sl 1 (ab aY r.fReply.fList))]]⟩)
  | .inr r => some (.normal, ⟨[], []⟩)
theorem sl_rostrumref_MachineFault_0 (C : ak) (k_rostrumref_numberMay : K_rostrumref_numberMay C) (k_rostrumref_In : K_rostrumref_In C) (k_rostrumref_ReplyFault : K_rostrumref_ReplyFault C) (p0 : GMachine) (p1 : Int) (o : Int ⊕ (GClient ⊕ Unit)) (hF : st_rostrumref_MachineFault_0 p0 p1 = some o) : evW TT C.wide n42 b42 0 (hd_rostrumref_MachineFault_0 p0 p1) = Sum.elim (fun s => evW TT C.wide n42 b42 0 (hd_rostrumref_MachineFault_0 p0 s)) (fun r => ou_rostrumref_MachineFault_0 p0 r) o := by
  unfold st_rostrumref_MachineFault_0 at hF
  try dsimp only at hF
  rw [ct TT n42 fl42_0]
  refine aT (decide (p1 < (p0.fClients.length : Int))) ?_ ?_
  focus
    intro h1
    replace hF := ar h1 hF
    cases hF
  rotate_left 1
  intro h1
  replace hF := aq h1 hF
  revert hF
  cases h2 : idx p0.fClients p1
  focus
    intro hF
    cases hF
  rename_i x1
  intro hF
  try dsimp only at hF
  have g1 : decide (0 ≤ p1) = true := (cc h2).1
  have g2 : (ab GClient.row p0.fClients)[(p1 : Int).toNat]? = some [.i .i64 x1.fId, .i .i64 x1.fSeq, .i .i64 x1.fTime, .i .i64 x1.fReply.fCode, .s x1.fReply.fText, .i .i64 x1.fReply.fN, .sl 1 (ab aY x1.fReply.fList)] := ca _ h2
  revert hF
  cases h3 : ck_rostrumref_MachineFault_k7v2 p0 p1 x1
  focus
    intro hF
    cases hF
  rename_i x2
  intro hF
  try dsimp only at hF
  have g3 : @cR TT C.wide (evW TT C.wide n42 b42) n42 0 7 ⟨[(1, .rp [.i .i64 p0.fStore.fNow, .sl 8 (ab GEntry.row p0.fStore.fEntries), .i .i64 p0.fNext, .sl 7 (ab GClient.row p0.fClients)]), (3, .v (.i .i64 p1)), (4, .ptr 0 0)], [[.v (.i .i64 x1.fId), .v (.i .i64 x1.fSeq), .v (.i .i64 x1.fTime), .v (.i .i64 x1.fReply.fCode), .v (.s x1.fReply.fText), .v (.i .i64 x1.fReply.fN), .v (.sl 1 (ab aY x1.fReply.fList))]]⟩ ⟨_⟩ = some (.normal, ⟨[(1, .rp [.i .i64 p0.fStore.fNow, .sl 8 (ab GEntry.row p0.fStore.fEntries), .i .i64 p0.fNext, .sl 7 (ab GClient.row p0.fClients)]), (3, .v (.i .i64 p1)), (80, .v (.b x2))], [[.v (.i .i64 x1.fId), .v (.i .i64 x1.fSeq), .v (.i .i64 x1.fTime), .v (.i .i64 x1.fReply.fCode), .v (.s x1.fReply.fText), .v (.i .i64 x1.fReply.fN), .v (.sl 1 (ab aY x1.fReply.fList))]]⟩) := rg_rostrumref_MachineFault_k7v2 C k_rostrumref_numberMay k_rostrumref_In k_rostrumref_ReplyFault p0 p1 x1 _ rfl _ h3
  refine aG x2 ?_ ?_
  focus
    intro h4
    replace hF := aq h4 hF
    cases hF
  rotate_left 1
  intro h4
  replace hF := ar h4 hF
  cases hF
  all_goals (show cD _ _ _ (aH _ _ _ _ (Code.seq _ _) _) = _; simp (maxSteps := 4000000) only [*, hd_rostrumref_MachineFault_0, ou_rostrumref_MachineFault_0, n42a25t, n42a25f, n42a80t, n42a80f, n42k4, n42k5, n42k6, n42k8, n42mv, ↓RP, RB, ↓ah, aZ, be, aM, Mx.bw, opnd, Mx.bF, Nat.reduceBEq, bK, Mx.fit, bI, bY, cellsOf, aO, aB, ax, Mx.put, ofConst, ofCell, Mx.prune, killB, killBs, aK, putDst, au, aD, loadAt, bM, List.map, Nat.reduceAdd, cm, cn, cg, bD, aL, lowC, bg, kill, bB, setCells, Nat.reduceLeDiff, lowA, bi, ck, cj, bne, ↓aj, ↓ai, ty3, ty25, ty71, ty73, ty130, ↓aa _ _ _ _ 4, ↓aa _ _ _ _ 6, ↓bC _ _ _ _ 7, ↓aa _ _ _ _ 8, ↓aa _ _ _ _ 5])
theorem r_rostrumref_MachineFault (C : ak) (k_rostrumref_StoreFault : K_rostrumref_StoreFault C) (k_rostrumref_In : K_rostrumref_In C) (k_rostrumref_numberMay : K_rostrumref_numberMay C) (k_rostrumref_ReplyFault : K_rostrumref_ReplyFault C) (p0 : GMachine) (r : Int) (hF : rostrumref_MachineFault p0 = some r) : cF TT C.wide (evW TT C.wide n42 b42) n42 Try.f42.results.toList (aQ Try.f42) [.agg [.v (.i .i64 p0.fStore.fNow), .v (.sl 8 (ab GEntry.row p0.fStore.fEntries)), .v (.i .i64 p0.fNext), .v (.sl 7 (ab GClient.row p0.fClients))]] [] = some (.v (.i .i64 r), []) := by
  unfold rostrumref_MachineFault at hF
  revert hF
  cases h1 : ck_rostrumref_MachineFault_k1 p0
  focus
    intro hF
    cases hF
  rename_i x1
  intro hF
  try dsimp only at hF
  have g1 : @cR TT C.wide (evW TT C.wide n42 b42) n42 0 1 ⟨[(1, .rp [.i .i64 p0.fStore.fNow, .sl 8 (ab GEntry.row p0.fStore.fEntries), .i .i64 p0.fNext, .sl 7 (ab GClient.row p0.fClients)])], []⟩ ⟨_⟩ = some (.normal, ⟨[(1, .rp [.i .i64 p0.fStore.fNow, .sl 8 (ab GEntry.row p0.fStore.fEntries), .i .i64 p0.fNext, .sl 7 (ab GClient.row p0.fClients)]), (20, .v (.b x1))], []⟩) := rg_rostrumref_MachineFault_k1 C k_rostrumref_StoreFault k_rostrumref_In p0 _ rfl _ h1
  refine aG x1 ?_ ?_
  focus
    intro h2
    replace hF := aq h2 hF
    have hR := Option.some.inj hF
    clear hF
    subst hR
  rotate_left 1
  intro h2
  replace hF := ar h2 hF
  revert hF
  cases h3 : ci (st_rostrumref_MachineFault_0 p0) 0
  focus
    intro hF
    cases hF
  rename_i qh3
  cases qh3
  focus
    rename_i z0h3
    revert z0h3
    intro x2 h3
    intro hF
    try dsimp only at hF
    have g2 : evW TT C.wide n42 b42 0 ⟨[(1, .rp [.i .i64 p0.fStore.fNow, .sl 8 (ab GEntry.row p0.fStore.fEntries), .i .i64 p0.fNext, .sl 7 (ab GClient.row p0.fClients)]), (3, .v (.i .i64 0))], []⟩ = some (.ret, ⟨[(2, .v (.i .i64 13))], [[.v (.i .i64 x2.fId), .v (.i .i64 x2.fSeq), .v (.i .i64 x2.fTime), .v (.i .i64 x2.fReply.fCode), .v (.s x2.fReply.fText), .v (.i .i64 x2.fReply.fN), .v (.sl 1 (ab aY x2.fReply.fList))]]⟩) := cy (hd_rostrumref_MachineFault_0 p0) (ou_rostrumref_MachineFault_0 p0) (fun s o hs => sl_rostrumref_MachineFault_0 C k_rostrumref_numberMay k_rostrumref_In k_rostrumref_ReplyFault p0 s o hs) h3
    have hR := Option.some.inj hF
    clear hF
    subst hR
  rotate_left 1
  rename_i y0h3
  intro hF
  try dsimp only at hF
  have g3 : evW TT C.wide n42 b42 0 ⟨[(1, .rp [.i .i64 p0.fStore.fNow, .sl 8 (ab GEntry.row p0.fStore.fEntries), .i .i64 p0.fNext, .sl 7 (ab GClient.row p0.fClients)]), (3, .v (.i .i64 0))], []⟩ = some (.normal, ⟨[], []⟩) := cy (hd_rostrumref_MachineFault_0 p0) (ou_rostrumref_MachineFault_0 p0) (fun s o hs => sl_rostrumref_MachineFault_0 C k_rostrumref_numberMay k_rostrumref_In k_rostrumref_ReplyFault p0 s o hs) h3
  have hR := Option.some.inj hF
  clear hF
  subst hR
  all_goals (rw [ba]; show cp _ _ _ (aH _ _ _ _ (Code.seq _ _) _) = _; simp (maxSteps := 4000000) only [*, res42, n42a20t, n42a20f, n42k0, n42k2, n42k3, n42k9, n42ro, ↓RP, RB, enter, aZ, be, aM, Mx.bw, opnd, Mx.bF, Nat.reduceBEq, bK, Mx.fit, bI, bY, toVs, cellsOf, toV, aO, aB, ax, Mx.put, ofConst, ofCell, Mx.prune, killB, List.map, az, bn, bq, co, bN, bD, aL, lowC, ↓aj, ↓ai, ty3, ty25, ty73, ↓aa _ _ _ _ 0, ↓bC _ _ _ _ 1, ↓aa _ _ _ _ 2, ↓aa _ _ _ _ 3, ↓aa _ _ _ _ 9])
def n12 : cC where
  keep := fun i => match i with
    | 0 => [1]
    | 1 => [1, 3]
    | 2 => [3, 4]
    | 3 => [2]
    | _ => []
  ro := fun t => t == 1
  mv := fun _ => false
  give := fun _ => false
  free := fun _ => []
theorem n12k0 : n12.keep 0 = [1] := rfl
theorem n12k1 : n12.keep 1 = [1, 3] := rfl
theorem n12k2 : n12.keep 2 = [3, 4] := rfl
theorem n12k3 : n12.keep 3 = [2] := rfl
theorem n12ro (t : Nat) : n12.ro t = (t == 1) := rfl
theorem n12mv (t : Nat) : n12.mv t = (false) := rfl
theorem res12 : Try.f12.results.toList = [.tmp 2] := rfl
noncomputable def b12 : Code := aQ Try.f12
theorem r_rostrumlaw_ClientChecks (C : ak) (k_rostrumref_MachineCopy_z : K_rostrumref_MachineCopy_z C) (k_client_Check : K_client_Check C) (k_rostrumref_MachineFault : K_rostrumref_MachineFault C) (p0 : GMachine) (r : Bool) (hF : rostrumlaw_ClientChecks p0 = some r) : cF TT C.wide (evW TT C.wide n12 b12) n12 Try.f12.results.toList (aQ Try.f12) [.agg [.v (.i .i64 p0.fStore.fNow), .v (.sl 8 (ab GEntry.row p0.fStore.fEntries)), .v (.i .i64 p0.fNext), .v (.sl 7 (ab GClient.row p0.fClients))]] [] = some (.v (.b r), []) := by
  unfold rostrumlaw_ClientChecks at hF
  revert hF
  cases h1 : rostrumref_MachineCopy_z p0
  focus
    intro hF
    cases hF
  rename_i x1
  intro hF
  try dsimp only at hF
  have g1 : C.wide 41 [.agg [.v (.i .i64 p0.fStore.fNow), .v (.sl 8 (ab GEntry.row p0.fStore.fEntries)), .v (.i .i64 p0.fNext), .v (.sl 7 (ab GClient.row p0.fClients))]] [] = some (.agg [.v (.i .i64 x1.fStore.fNow), .v (.sl 8 (ab GEntry.row x1.fStore.fEntries)), .v (.i .i64 x1.fNext), .v (.sl 7 (ab GClient.row x1.fClients))], []) := k_rostrumref_MachineCopy_z p0 _ h1
  revert hF
  cases h2 : client_Check x1
  focus
    intro hF
    cases hF
  rename_i x2
  intro hF
  try dsimp only at hF
  have g2 : C.wide 40 [.agg [.v (.i .i64 x1.fStore.fNow), .v (.sl 8 (ab GEntry.row x1.fStore.fEntries)), .v (.i .i64 x1.fNext), .v (.sl 7 (ab GClient.row x1.fClients))]] [] = some (.v (.i .i64 x2), []) := k_client_Check x1 _ h2
  revert hF
  cases h3 : rostrumref_MachineFault p0
  focus
    intro hF
    cases hF
  rename_i x3
  intro hF
  try dsimp only at hF
  have g3 : C.wide 42 [.agg [.v (.i .i64 p0.fStore.fNow), .v (.sl 8 (ab GEntry.row p0.fStore.fEntries)), .v (.i .i64 p0.fNext), .v (.sl 7 (ab GClient.row p0.fClients))]] [] = some (.v (.i .i64 x3), []) := k_rostrumref_MachineFault p0 _ h3
  have hR := Option.some.inj hF
  clear hF
  subst hR
  all_goals (rw [ba]; show cp _ _ _ (aH _ _ _ _ (Code.seq _ _) _) = _; simp (maxSteps := 4000000) only [*, res12, n12k0, n12k1, n12k2, n12k3, n12ro, n12mv, ↓RP, RB, enter, aZ, be, aM, Mx.bw, opnd, Mx.bF, Nat.reduceBEq, bK, Mx.fit, bI, bY, toVs, cellsOf, toV, aO, aB, ax, Mx.put, ofConst, ofCell, Mx.prune, killB, aK, putDst, au, loadAt, bM, List.map, Nat.reduceAdd, cm, cn, az, bn, bq, co, bN, bD, aL, lowC, forceAll, lend, lendA, aS, ay, bL, bare, bQ, newB, ch, ck, cj, ↓aj, ↓aa, ty4, ty25, ty73])
end Go.Proofs.Ytnjkmbogbfjffaa
