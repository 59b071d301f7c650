/- The code of these functions, run by the machine Mx, gives what the plain functions say, if their callees do (part 3). -/
import Derived.Test.YtnjkmbogbfjffaaWTy
import Derived.Test.YtnjkmbogbfjffaaValueChecksD
set_option linter.unusedSimpArgs false
set_option linter.unusedVariables false
set_option linter.constructorNameAsVariable false
set_option linter.unnecessarySimpa false
namespace Go.Proofs.Ytnjkmbogbfjffaa
open Go Go.Mx Go.Proofs
/-! ### rostrumref.ValueFault -/
def n30 : cC where
  keep := fun i => match i with
    | 0 => [1]
    | 1 => [1, 14]
    | 2 => [2]
    | 3 => [1, 3]
    | 4 => [1, 72]
    | 5 => [2]
    | 6 => [1, 87]
    | 7 => [2]
    | 8 => [1, 4]
    | 9 => [1, 4, 92]
    | 10 => [1, 4]
    | 11 => [1, 4, 101]
    | 12 => [2]
    | 13 => [1, 5]
    | 14 => [1, 5, 106]
    | 15 => [1, 5]
    | 16 => [1, 5, 126]
    | 17 => [2]
    | 18 => [1, 6]
    | 19 => [1, 6, 131]
    | 20 => [1, 6]
    | 21 => [1, 6, 141]
    | 22 => [2]
    | 23 => [1, 145]
    | 24 => [2]
    | 25 => [1, 7]
    | 26 => [1, 7, 150]
    | 27 => [1, 7]
    | 28 => [1, 7, 160]
    | 29 => [2]
    | 30 => [1, 8]
    | 31 => [1, 8, 165]
    | 32 => [1, 8]
    | 33 => [1, 8, 181]
    | 34 => [2]
    | 35 => [1, 9]
    | 36 => [1, 9, 191]
    | 37 => [1, 9]
    | 38 => [1, 9, 205]
    | 39 => [2]
    | 40 => [1, 10]
    | 41 => [1, 10, 210]
    | 42 => [1, 10]
    | 43 => [1, 10, 239]
    | 44 => [2]
    | 45 => [2]
    | _ => []
  ro := fun t => t == 1
  mv := fun _ => false
  give := fun _ => false
  free := fun i => match i with | 33 => [(0, 2), (1, 2), (0, 3), (1, 3), (0, 7), (1, 7), (2, 7), (3, 7), (4, 7), (5, 7), (6, 7), (0, 8), (1, 8), (2, 8), (3, 8), (4, 8), (5, 8), (6, 8), (0, 9), (1, 9), (2, 9), (3, 9), (4, 9), (5, 9), (6, 9), (7, 9), (8, 9), (0, 10), (1, 10), (2, 10), (3, 10), (4, 10), (5, 10), (6, 10), (0, 11), (1, 11), (2, 11), (3, 11), (4, 11), (5, 11), (6, 11), (0, 12), (1, 12), (2, 12), (3, 12), (4, 12), (5, 12), (6, 12)] | 38 => [(0, 2), (1, 2), (0, 3), (1, 3), (0, 6), (1, 6), (2, 6), (3, 6), (4, 6), (5, 6), (0, 7), (1, 7), (2, 7), (3, 7), (4, 7), (5, 7), (0, 8), (1, 8), (2, 8), (3, 8), (4, 8), (5, 8), (6, 8), (7, 8), (0, 9), (1, 9), (2, 9), (3, 9), (4, 9), (5, 9), (0, 10), (1, 10), (2, 10), (3, 10), (4, 10), (5, 10)] | 43 => [(0, 2), (1, 2), (0, 3), (1, 3), (0, 6), (1, 6), (2, 6), (3, 6), (4, 6), (5, 6), (0, 7), (1, 7), (2, 7), (3, 7), (4, 7), (5, 7), (0, 8), (1, 8), (2, 8), (3, 8), (4, 8), (5, 8), (6, 8), (7, 8), (0, 9), (1, 9), (2, 9), (3, 9), (4, 9), (5, 9), (0, 10), (1, 10), (2, 10), (3, 10), (4, 10), (5, 10), (14, 16), (15, 16), (14, 18), (15, 18), (16, 18), (17, 18), (14, 19), (15, 19), (16, 19), (17, 19), (14, 20), (15, 20), (16, 20), (17, 20), (18, 20), (19, 20), (14, 21), (15, 21), (16, 21), (17, 21), (14, 22), (15, 22), (16, 22), (17, 22), (14, 23), (15, 23), (16, 23), (17, 23)] | _ => []
  alive := fun i x => match i, x with
    | 14, true => some []
    | 14, false => some [1]
    | 72, true => some []
    | 72, false => some [1]
    | 87, true => some []
    | 87, false => some [1]
    | 92, true => some [1, 4]
    | 92, false => some [1]
    | 101, true => some []
    | 101, false => some [1, 4]
    | 106, true => some [1, 5]
    | 106, false => some [1]
    | 126, true => some []
    | 126, false => some [1, 5]
    | 131, true => some [1, 6]
    | 131, false => some [1]
    | 141, true => some []
    | 141, false => some [1, 6]
    | 145, true => some []
    | 145, false => some [1]
    | 150, true => some [1, 7]
    | 150, false => some [1]
    | 160, true => some []
    | 160, false => some [1, 7]
    | 165, true => some [1, 8]
    | 165, false => some [1]
    | 181, true => some []
    | 181, false => some [1, 8]
    | 191, true => some [1, 9]
    | 191, false => some [1]
    | 205, true => some []
    | 205, false => some [1, 9]
    | 210, true => some [1, 10]
    | 210, false => some []
    | 239, true => some []
    | 239, false => some [1, 10]
    | _, _ => none
theorem n30a14t (e : Env) (S : aA) : aw n30 14 true ⟨e, S⟩ = ⟨prune [] e, S⟩ := rfl
theorem n30a14f (e : Env) (S : aA) : aw n30 14 false ⟨e, S⟩ = ⟨prune [1] e, S⟩ := rfl
theorem n30a72t (e : Env) (S : aA) : aw n30 72 true ⟨e, S⟩ = ⟨prune [] e, S⟩ := rfl
theorem n30a72f (e : Env) (S : aA) : aw n30 72 false ⟨e, S⟩ = ⟨prune [1] e, S⟩ := rfl
theorem n30a87t (e : Env) (S : aA) : aw n30 87 true ⟨e, S⟩ = ⟨prune [] e, S⟩ := rfl
theorem n30a87f (e : Env) (S : aA) : aw n30 87 false ⟨e, S⟩ = ⟨prune [1] e, S⟩ := rfl
theorem n30a92t (e : Env) (S : aA) : aw n30 92 true ⟨e, S⟩ = ⟨prune [1, 4] e, S⟩ := rfl
theorem n30a92f (e : Env) (S : aA) : aw n30 92 false ⟨e, S⟩ = ⟨prune [1] e, S⟩ := rfl
theorem n30a101t (e : Env) (S : aA) : aw n30 101 true ⟨e, S⟩ = ⟨prune [] e, S⟩ := rfl
theorem n30a101f (e : Env) (S : aA) : aw n30 101 false ⟨e, S⟩ = ⟨prune [1, 4] e, S⟩ := rfl
theorem n30a106t (e : Env) (S : aA) : aw n30 106 true ⟨e, S⟩ = ⟨prune [1, 5] e, S⟩ := rfl
theorem n30a106f (e : Env) (S : aA) : aw n30 106 false ⟨e, S⟩ = ⟨prune [1] e, S⟩ := rfl
theorem n30a126t (e : Env) (S : aA) : aw n30 126 true ⟨e, S⟩ = ⟨prune [] e, S⟩ := rfl
theorem n30a126f (e : Env) (S : aA) : aw n30 126 false ⟨e, S⟩ = ⟨prune [1, 5] e, S⟩ := rfl
theorem n30a131t (e : Env) (S : aA) : aw n30 131 true ⟨e, S⟩ = ⟨prune [1, 6] e, S⟩ := rfl
theorem n30a131f (e : Env) (S : aA) : aw n30 131 false ⟨e, S⟩ = ⟨prune [1] e, S⟩ := rfl
theorem n30a141t (e : Env) (S : aA) : aw n30 141 true ⟨e, S⟩ = ⟨prune [] e, S⟩ := rfl
theorem n30a141f (e : Env) (S : aA) : aw n30 141 false ⟨e, S⟩ = ⟨prune [1, 6] e, S⟩ := rfl
theorem n30a145t (e : Env) (S : aA) : aw n30 145 true ⟨e, S⟩ = ⟨prune [] e, S⟩ := rfl
theorem n30a145f (e : Env) (S : aA) : aw n30 145 false ⟨e, S⟩ = ⟨prune [1] e, S⟩ := rfl
theorem n30a150t (e : Env) (S : aA) : aw n30 150 true ⟨e, S⟩ = ⟨prune [1, 7] e, S⟩ := rfl
theorem n30a150f (e : Env) (S : aA) : aw n30 150 false ⟨e, S⟩ = ⟨prune [1] e, S⟩ := rfl
theorem n30a160t (e : Env) (S : aA) : aw n30 160 true ⟨e, S⟩ = ⟨prune [] e, S⟩ := rfl
theorem n30a160f (e : Env) (S : aA) : aw n30 160 false ⟨e, S⟩ = ⟨prune [1, 7] e, S⟩ := rfl
theorem n30a165t (e : Env) (S : aA) : aw n30 165 true ⟨e, S⟩ = ⟨prune [1, 8] e, S⟩ := rfl
theorem n30a165f (e : Env) (S : aA) : aw n30 165 false ⟨e, S⟩ = ⟨prune [1] e, S⟩ := rfl
theorem n30a181t (e : Env) (S : aA) : aw n30 181 true ⟨e, S⟩ = ⟨prune [] e, S⟩ := rfl
theorem n30a181f (e : Env) (S : aA) : aw n30 181 false ⟨e, S⟩ = ⟨prune [1, 8] e, S⟩ := rfl
theorem n30a191t (e : Env) (S : aA) : aw n30 191 true ⟨e, S⟩ = ⟨prune [1, 9] e, S⟩ := rfl
theorem n30a191f (e : Env) (S : aA) : aw n30 191 false ⟨e, S⟩ = ⟨prune [1] e, S⟩ := rfl
theorem n30a205t (e : Env) (S : aA) : aw n30 205 true ⟨e, S⟩ = ⟨prune [] e, S⟩ := rfl
theorem n30a205f (e : Env) (S : aA) : aw n30 205 false ⟨e, S⟩ = ⟨prune [1, 9] e, S⟩ := rfl
theorem n30a210t (e : Env) (S : aA) : aw n30 210 true ⟨e, S⟩ = ⟨prune [1, 10] e, S⟩ := rfl
theorem n30a210f (e : Env) (S : aA) : aw n30 210 false ⟨e, S⟩ = ⟨prune [] e, S⟩ := rfl
theorem n30a239t (e : Env) (S : aA) : aw n30 239 true ⟨e, S⟩ = ⟨prune [] e, S⟩ := rfl
theorem n30a239f (e : Env) (S : aA) : aw n30 239 false ⟨e, S⟩ = ⟨prune [1, 10] e, S⟩ := rfl
theorem n30k0 : n30.keep 0 = [1] := rfl
theorem n30k1 : n30.keep 1 = [1, 14] := rfl
theorem n30k2 : n30.keep 2 = [2] := rfl
theorem n30k3 : n30.keep 3 = [1, 3] := rfl
theorem n30k4 : n30.keep 4 = [1, 72] := rfl
theorem n30k5 : n30.keep 5 = [2] := rfl
theorem n30k6 : n30.keep 6 = [1, 87] := rfl
theorem n30k7 : n30.keep 7 = [2] := rfl
theorem n30k8 : n30.keep 8 = [1, 4] := rfl
theorem n30k9 : n30.keep 9 = [1, 4, 92] := rfl
theorem n30k10 : n30.keep 10 = [1, 4] := rfl
theorem n30k11 : n30.keep 11 = [1, 4, 101] := rfl
theorem n30k12 : n30.keep 12 = [2] := rfl
theorem n30k13 : n30.keep 13 = [1, 5] := rfl
theorem n30k14 : n30.keep 14 = [1, 5, 106] := rfl
theorem n30k15 : n30.keep 15 = [1, 5] := rfl
theorem n30k16 : n30.keep 16 = [1, 5, 126] := rfl
theorem n30k17 : n30.keep 17 = [2] := rfl
theorem n30k18 : n30.keep 18 = [1, 6] := rfl
theorem n30k19 : n30.keep 19 = [1, 6, 131] := rfl
theorem n30k20 : n30.keep 20 = [1, 6] := rfl
theorem n30k21 : n30.keep 21 = [1, 6, 141] := rfl
theorem n30k22 : n30.keep 22 = [2] := rfl
theorem n30k23 : n30.keep 23 = [1, 145] := rfl
theorem n30k24 : n30.keep 24 = [2] := rfl
theorem n30k25 : n30.keep 25 = [1, 7] := rfl
theorem n30k26 : n30.keep 26 = [1, 7, 150] := rfl
theorem n30k27 : n30.keep 27 = [1, 7] := rfl
theorem n30k28 : n30.keep 28 = [1, 7, 160] := rfl
theorem n30k29 : n30.keep 29 = [2] := rfl
theorem n30k30 : n30.keep 30 = [1, 8] := rfl
theorem n30k31 : n30.keep 31 = [1, 8, 165] := rfl
theorem n30k32 : n30.keep 32 = [1, 8] := rfl
theorem n30k33 : n30.keep 33 = [1, 8, 181] := rfl
theorem n30k34 : n30.keep 34 = [2] := rfl
theorem n30k35 : n30.keep 35 = [1, 9] := rfl
theorem n30k36 : n30.keep 36 = [1, 9, 191] := rfl
theorem n30k37 : n30.keep 37 = [1, 9] := rfl
theorem n30k38 : n30.keep 38 = [1, 9, 205] := rfl
theorem n30k39 : n30.keep 39 = [2] := rfl
theorem n30k40 : n30.keep 40 = [1, 10] := rfl
theorem n30k41 : n30.keep 41 = [1, 10, 210] := rfl
theorem n30k42 : n30.keep 42 = [1, 10] := rfl
theorem n30k43 : n30.keep 43 = [1, 10, 239] := rfl
theorem n30k44 : n30.keep 44 = [2] := rfl
theorem n30k45 : n30.keep 45 = [2] := rfl
theorem n30ro (t : Nat) : n30.ro t = (t == 1) := rfl
theorem n30mv (t : Nat) : n30.mv t = (false) := rfl
theorem n30gv (t : Nat) : n30.give t = (false) := rfl
theorem n30f33 : n30.free 33 = [(0, 2), (1, 2), (0, 3), (1, 3), (0, 7), (1, 7), (2, 7), (3, 7), (4, 7), (5, 7), (6, 7), (0, 8), (1, 8), (2, 8), (3, 8), (4, 8), (5, 8), (6, 8), (0, 9), (1, 9), (2, 9), (3, 9), (4, 9), (5, 9), (6, 9), (7, 9), (8, 9), (0, 10), (1, 10), (2, 10), (3, 10), (4, 10), (5, 10), (6, 10), (0, 11), (1, 11), (2, 11), (3, 11), (4, 11), (5, 11), (6, 11), (0, 12), (1, 12), (2, 12), (3, 12), (4, 12), (5, 12), (6, 12)] := rfl
theorem n30f38 : n30.free 38 = [(0, 2), (1, 2), (0, 3), (1, 3), (0, 6), (1, 6), (2, 6), (3, 6), (4, 6), (5, 6), (0, 7), (1, 7), (2, 7), (3, 7), (4, 7), (5, 7), (0, 8), (1, 8), (2, 8), (3, 8), (4, 8), (5, 8), (6, 8), (7, 8), (0, 9), (1, 9), (2, 9), (3, 9), (4, 9), (5, 9), (0, 10), (1, 10), (2, 10), (3, 10), (4, 10), (5, 10)] := rfl
theorem n30f43 : n30.free 43 = [(0, 2), (1, 2), (0, 3), (1, 3), (0, 6), (1, 6), (2, 6), (3, 6), (4, 6), (5, 6), (0, 7), (1, 7), (2, 7), (3, 7), (4, 7), (5, 7), (0, 8), (1, 8), (2, 8), (3, 8), (4, 8), (5, 8), (6, 8), (7, 8), (0, 9), (1, 9), (2, 9), (3, 9), (4, 9), (5, 9), (0, 10), (1, 10), (2, 10), (3, 10), (4, 10), (5, 10), (14, 16), (15, 16), (14, 18), (15, 18), (16, 18), (17, 18), (14, 19), (15, 19), (16, 19), (17, 19), (14, 20), (15, 20), (16, 20), (17, 20), (18, 20), (19, 20), (14, 21), (15, 21), (16, 21), (17, 21), (14, 22), (15, 22), (16, 22), (17, 22), (14, 23), (15, 23), (16, 23), (17, 23)] := rfl
theorem res30 : Try.f30.results.toList = [.tmp 2] := rfl
noncomputable def b30 : Code := aQ Try.f30
noncomputable def c30_0 : Code := (bz 0 (aQ Try.f30)).getD .skip
theorem fl30_0 : bz 0 b30 = some c30_0 := rfl
noncomputable def c30_2 : Code := (bz 2 (aQ Try.f30)).getD .skip
theorem fl30_2 : bz 2 b30 = some c30_2 := rfl
noncomputable def c30_4 : Code := (bz 4 (aQ Try.f30)).getD .skip
theorem fl30_4 : bz 4 b30 = some c30_4 := rfl
noncomputable def c30_6 : Code := (bz 6 (aQ Try.f30)).getD .skip
theorem fl30_6 : bz 6 b30 = some c30_6 := rfl
noncomputable def c30_8 : Code := (bz 8 (aQ Try.f30)).getD .skip
theorem fl30_8 : bz 8 b30 = some c30_8 := rfl
noncomputable def c30_10 : Code := (bz 10 (aQ Try.f30)).getD .skip
theorem fl30_10 : bz 10 b30 = some c30_10 := rfl
noncomputable def c30_12 : Code := (bz 12 (aQ Try.f30)).getD .skip
theorem fl30_12 : bz 12 b30 = some c30_12 := rfl
set_option maxRecDepth 100000 in
set_option maxHeartbeats 40000000 in
theorem rg_rostrumref_ValueFault_k4 (C : ak)  (p0 : GValue) (c : Code) (ho : cr 0 4 b30 = some c) (r : Bool) (hF : ck_rostrumref_ValueFault_k4 p0 = some r) : aH TT C.wide (evW TT C.wide n30 b30) n30 c ⟨[(1, .rp [.i .i64 p0.fKind, .s p0.fText, .i .i64 p0.fCount, .sl 2 (ab GPair.row p0.fPairs), .sl 1 (ab aY p0.fItems), .sl 2 (ab GScore.row p0.fScores)]), (3, .v (.b true))], []⟩ = some (.normal, ⟨[(1, .rp [.i .i64 p0.fKind, .s p0.fText, .i .i64 p0.fCount, .sl 2 (ab GPair.row p0.fPairs), .sl 1 (ab aY p0.fItems), .sl 2 (ab GScore.row p0.fScores)]), (72, .v (.b r))], []⟩) := by
  have e := Option.some.inj (ho.symm.trans (rfl : cr 0 4 b30 = some _))
  subst e
  clear ho
  unfold ck_rostrumref_ValueFault_k4 at hF
  refine aG (p0.fKind == 1) ?_ ?_
  focus
    intro h1
    replace hF := aq h1 hF
    refine aG (p0.fKind == 2) ?_ ?_
    focus
      intro h2
      replace hF := aq h2 hF
      refine aG (p0.fKind == 3) ?_ ?_
      focus
        intro h3
        replace hF := aq h3 hF
        refine aG (p0.fKind == 6) ?_ ?_
        focus
          intro h4
          replace hF := aq h4 hF
          have hR := Option.some.inj hF
          clear hF
          subst hR
        rotate_left 1
        intro h4
        replace hF := ar h4 hF
        have hR := Option.some.inj hF
        clear hF
        subst hR
      rotate_left 2
      intro h3
      replace hF := ar h3 hF
      refine aG (decide (0 < (p0.fPairs.length : Int))) ?_ ?_
      focus
        intro h4
        replace hF := aq h4 hF
        have hR := Option.some.inj hF
        clear hF
        subst hR
      rotate_left 1
      intro h4
      replace hF := ar h4 hF
      refine aG (p0.fKind == 6) ?_ ?_
      focus
        intro h5
        replace hF := aq h5 hF
        have hR := Option.some.inj hF
        clear hF
        subst hR
      rotate_left 1
      intro h5
      replace hF := ar h5 hF
      have hR := Option.some.inj hF
      clear hF
      subst hR
    rotate_left 5
    intro h2
    replace hF := ar h2 hF
    unfold ck_rostrumref_ValueFault_k4_c0 at hF
    refine aT (p0.fCount == 0) ?_ ?_
    focus
      intro h3
      replace hF := ar h3 hF
      have hR := Option.some.inj hF
      clear hF
      subst hR
    rotate_left 1
    intro h3
    replace hF := aq h3 hF
    refine aG (p0.fKind == 3) ?_ ?_
    focus
      intro h4
      replace hF := aq h4 hF
      refine aG (p0.fKind == 6) ?_ ?_
      focus
        intro h5
        replace hF := aq h5 hF
        have hR := Option.some.inj hF
        clear hF
        subst hR
      rotate_left 1
      intro h5
      replace hF := ar h5 hF
      have hR := Option.some.inj hF
      clear hF
      subst hR
    rotate_left 2
    intro h4
    replace hF := ar h4 hF
    refine aG (decide (0 < (p0.fPairs.length : Int))) ?_ ?_
    focus
      intro h5
      replace hF := aq h5 hF
      have hR := Option.some.inj hF
      clear hF
      subst hR
    rotate_left 1
    intro h5
    replace hF := ar h5 hF
    refine aG (p0.fKind == 6) ?_ ?_
    focus
      intro h6
      replace hF := aq h6 hF
      have hR := Option.some.inj hF
      clear hF
      subst hR
    rotate_left 1
    intro h6
    replace hF := ar h6 hF
    have hR := Option.some.inj hF
    clear hF
    subst hR
  rotate_left 11
  intro h1
  replace hF := ar h1 hF
  unfold ck_rostrumref_ValueFault_k4_c2 at hF
  refine aT (cJ p0.fText ByteArray.empty) ?_ ?_
  focus
    intro h2
    replace hF := ar h2 hF
    have hR := Option.some.inj hF
    clear hF
    subst hR
  rotate_left 1
  intro h2
  replace hF := aq h2 hF
  refine aG (p0.fKind == 2) ?_ ?_
  focus
    intro h3
    replace hF := aq h3 hF
    refine aG (p0.fKind == 3) ?_ ?_
    focus
      intro h4
      replace hF := aq h4 hF
      refine aG (p0.fKind == 6) ?_ ?_
      focus
        intro h5
        replace hF := aq h5 hF
        have hR := Option.some.inj hF
        clear hF
        subst hR
      rotate_left 1
      intro h5
      replace hF := ar h5 hF
      have hR := Option.some.inj hF
      clear hF
      subst hR
    rotate_left 2
    intro h4
    replace hF := ar h4 hF
    refine aG (decide (0 < (p0.fPairs.length : Int))) ?_ ?_
    focus
      intro h5
      replace hF := aq h5 hF
      have hR := Option.some.inj hF
      clear hF
      subst hR
    rotate_left 1
    intro h5
    replace hF := ar h5 hF
    refine aG (p0.fKind == 6) ?_ ?_
    focus
      intro h6
      replace hF := aq h6 hF
      have hR := Option.some.inj hF
      clear hF
      subst hR
    rotate_left 1
    intro h6
    replace hF := ar h6 hF
    have hR := Option.some.inj hF
    clear hF
    subst hR
  rotate_left 5
  intro h3
  replace hF := ar h3 hF
  unfold ck_rostrumref_ValueFault_k4_c1 at hF
  refine aT (p0.fCount == 0) ?_ ?_
  focus
    intro h4
    replace hF := ar h4 hF
    have hR := Option.some.inj hF
    clear hF
    subst hR
  rotate_left 1
  intro h4
  replace hF := aq h4 hF
  refine aG (p0.fKind == 3) ?_ ?_
  focus
    intro h5
    replace hF := aq h5 hF
    refine aG (p0.fKind == 6) ?_ ?_
    focus
      intro h6
      replace hF := aq h6 hF
      have hR := Option.some.inj hF
      clear hF
      subst hR
    rotate_left 1
    intro h6
    replace hF := ar h6 hF
    have hR := Option.some.inj hF
    clear hF
    subst hR
  rotate_left 2
  intro h5
  replace hF := ar h5 hF
  refine aG (decide (0 < (p0.fPairs.length : Int))) ?_ ?_
  focus
    intro h6
    replace hF := aq h6 hF
    have hR := Option.some.inj hF
    clear hF
    subst hR
  rotate_left 1
  intro h6
  replace hF := ar h6 hF
  refine aG (p0.fKind == 6) ?_ ?_
  focus
    intro h7
    replace hF := aq h7 hF
    have hR := Option.some.inj hF
    clear hF
    subst hR
  rotate_left 1
  intro h7
  replace hF := ar h7 hF
  have hR := Option.some.inj hF
  clear hF
  subst hR
  all_goals (simp (maxSteps := 4000000) only [*, res30, n30a14t, n30a14f, n30a72t, n30a72f, n30a87t, n30a87f, n30a92t, n30a92f, n30a101t, n30a101f, n30a106t, n30a106f, n30a126t, n30a126f, n30a131t, n30a131f, n30a141t, n30a141f, n30a145t, n30a145f, n30a150t, n30a150f, n30a160t, n30a160f, n30a165t, n30a165f, n30a181t, n30a181f, n30a191t, n30a191f, n30a205t, n30a205f, n30a210t, n30a210f, n30a239t, n30a239f, n30k0, n30k1, n30k2, n30k3, n30k4, n30k5, n30k6, n30k7, n30k8, n30k9, n30k10, n30k11, n30k12, n30k13, n30k14, n30k15, n30k16, n30k17, n30k18, n30k19, n30k20, n30k21, n30k22, n30k23, n30k24, n30k25, n30k26, n30k27, n30k28, n30k29, n30k30, n30k31, n30k32, n30k33, n30k34, n30k35, n30k36, n30k37, n30k38, n30k39, n30k40, n30k41, n30k42, n30k43, n30k44, n30k45, n30f33, n30f38, n30f43, n30ro, n30mv, n30gv, ↓RP, RB, ↓ah, ↓ac, ↓af, ↓ad, ↓ae, enter, aW, aC, aZ, be, aM, Mx.bw, opnd, Mx.bF, Nat.reduceBEq, bK, Mx.fit, bI, bY, toVs, cellsOf, toV, aO, aB, ax, Mx.put, ofConst, ofCell, Mx.prune, killB, killBs, aK, putDst, au, ao, aD, loadAt, bM, List.map, Nat.reduceAdd, Nat.reduceMul, cm, cn, aF, eqC, cg, aN, reduceIte, reduceCtorEq, az, bn, bq, co, bN, bD, aL, bx, lowC, lowP, forceAll, bound, bW, bg, bv, aU, br, kill, spendLoc, spendOk, setOwn, dropAl, dropAls, bG, bP, bd, cb, lend, lendA, aS, ay, bU, bL, bare, bQ, frz, bZ, bo, argE, argsE, bB, bT, fill, setCells, bR, takeParts, bp, aR, ownAt, Nat.reduceBNe, Nat.reduceSub, Nat.reduceLT, Nat.reduceLeDiff, lowA, bi, bJ, av, aJ, aX, bX, bO, bE, bS, ce, bV, bk, aI, bh, bj, bf, cd, Op.operands, Int.reduceBEq, Int.reduceLT, Int.reduceLE, Int.reduceNeg, Int.reduceBNe, bl, newB, ch, ck, cj, bne, ↓aj, ↓ai, bc, aP, bm, bu, aE, bH, Call.operands, ty3, ty4, ty9, ty25, ty49, ty50, ty51, ty53, ty101, ty105, ↓aa _ _ _ _ 4])
set_option maxRecDepth 100000 in
set_option maxHeartbeats 40000000 in
theorem rg_rostrumref_ValueFault_k6 (C : ak) (k_rostrumref_sizeOf : K_rostrumref_sizeOf C) (k_rostrumref_In : K_rostrumref_In C) (k_rostrumref_textMay : K_rostrumref_textMay C) (p0 : GValue) (c : Code) (ho : cr 0 6 b30 = some c) (r : Bool) (hF : ck_rostrumref_ValueFault_k6 p0 = some r) : aH TT C.wide (evW TT C.wide n30 b30) n30 c ⟨[(1, .rp [.i .i64 p0.fKind, .s p0.fText, .i .i64 p0.fCount, .sl 2 (ab GPair.row p0.fPairs), .sl 1 (ab aY p0.fItems), .sl 2 (ab GScore.row p0.fScores)])], []⟩ = some (.normal, ⟨[(1, .rp [.i .i64 p0.fKind, .s p0.fText, .i .i64 p0.fCount, .sl 2 (ab GPair.row p0.fPairs), .sl 1 (ab aY p0.fItems), .sl 2 (ab GScore.row p0.fScores)]), (87, .v (.b r))], []⟩) := by
  have e := Option.some.inj (ho.symm.trans (rfl : cr 0 6 b30 = some _))
  subst e
  clear ho
  unfold ck_rostrumref_ValueFault_k6 at hF
  refine aT (decide (3 ≤ p0.fKind)) ?_ ?_
  focus
    intro h1
    replace hF := ar h1 hF
    have g1 : C.wide 80 [.v (.s p0.fText)] [] = some (.v (.b (rostrumref_textMay_v p0.fText)), []) := k_rostrumref_textMay p0.fText _ (rostrumref_textMay_t p0.fText)
    have hR := Option.some.inj hF
    clear hF
    subst hR
  rotate_left 1
  intro h1
  replace hF := aq h1 hF
  have g2 : C.wide 79 [.agg [.v (.i .i64 p0.fKind), .v (.s p0.fText), .v (.i .i64 p0.fCount), .v (.sl 2 (ab GPair.row p0.fPairs)), .v (.sl 1 (ab aY p0.fItems)), .v (.sl 2 (ab GScore.row p0.fScores))]] [] = some (.v (.i .i64 (rostrumref_sizeOf_v p0)), []) := k_rostrumref_sizeOf p0 _ (rostrumref_sizeOf_t p0)
  have g3 : C.wide 55 [.v (.i .i64 (rostrumref_sizeOf_v p0)), .v (.i .i64 1), .v (.i .i64 20)] [] = some (.v (.b (rostrumref_In_v (rostrumref_sizeOf_v p0) 1 20)), []) := k_rostrumref_In (rostrumref_sizeOf_v p0) 1 20 _ (rostrumref_In_t (rostrumref_sizeOf_v p0) 1 20)
  have g4 : rostrumref_In_v (rostrumref_sizeOf_v p0) 1 20 = (decide (1 ≤ (rostrumref_sizeOf_v p0)) && decide ((rostrumref_sizeOf_v p0) ≤ 20)) := by first | rfl | (simp [rostrumref_In_v]; done) | (simp only [rostrumref_In_v]; decide)
  refine aT (decide (1 ≤ (rostrumref_sizeOf_v p0))) ?_ ?_
  focus
    intro h2
    replace hF := ar h2 hF
    have hR := Option.some.inj hF
    clear hF
    subst hR
  rotate_left 1
  intro h2
  replace hF := aq h2 hF
  refine aG (decide ((rostrumref_sizeOf_v p0) ≤ 20)) ?_ ?_
  focus
    intro h3
    replace hF := aq h3 hF
    have g1 : C.wide 80 [.v (.s p0.fText)] [] = some (.v (.b (rostrumref_textMay_v p0.fText)), []) := k_rostrumref_textMay p0.fText _ (rostrumref_textMay_t p0.fText)
    have hR := Option.some.inj hF
    clear hF
    subst hR
  rotate_left 1
  intro h3
  replace hF := ar h3 hF
  have hR := Option.some.inj hF
  clear hF
  subst hR
  all_goals (simp (maxSteps := 4000000) only [*, res30, n30a14t, n30a14f, n30a72t, n30a72f, n30a87t, n30a87f, n30a92t, n30a92f, n30a101t, n30a101f, n30a106t, n30a106f, n30a126t, n30a126f, n30a131t, n30a131f, n30a141t, n30a141f, n30a145t, n30a145f, n30a150t, n30a150f, n30a160t, n30a160f, n30a165t, n30a165f, n30a181t, n30a181f, n30a191t, n30a191f, n30a205t, n30a205f, n30a210t, n30a210f, n30a239t, n30a239f, n30k0, n30k1, n30k2, n30k3, n30k4, n30k5, n30k6, n30k7, n30k8, n30k9, n30k10, n30k11, n30k12, n30k13, n30k14, n30k15, n30k16, n30k17, n30k18, n30k19, n30k20, n30k21, n30k22, n30k23, n30k24, n30k25, n30k26, n30k27, n30k28, n30k29, n30k30, n30k31, n30k32, n30k33, n30k34, n30k35, n30k36, n30k37, n30k38, n30k39, n30k40, n30k41, n30k42, n30k43, n30k44, n30k45, n30f33, n30f38, n30f43, n30ro, n30mv, n30gv, ↓RP, RB, ↓ah, ↓ac, ↓af, ↓ad, ↓ae, enter, aW, aC, aZ, be, aM, Mx.bw, opnd, Mx.bF, Nat.reduceBEq, bK, Mx.fit, bI, bY, toVs, cellsOf, toV, aO, aB, ax, Mx.put, ofConst, ofCell, Mx.prune, killB, killBs, aK, putDst, au, ao, aD, loadAt, bM, List.map, Nat.reduceAdd, Nat.reduceMul, cm, cn, aF, eqC, cg, aN, reduceIte, reduceCtorEq, az, bn, bq, co, bN, bD, aL, bx, lowC, lowP, forceAll, bound, bW, bg, bv, aU, br, kill, spendLoc, spendOk, setOwn, dropAl, dropAls, bG, bP, bd, cb, lend, lendA, aS, ay, bU, bL, bare, bQ, frz, bZ, bo, argE, argsE, bB, bT, fill, setCells, bR, takeParts, bp, aR, ownAt, Nat.reduceBNe, Nat.reduceSub, Nat.reduceLT, Nat.reduceLeDiff, lowA, bi, bJ, av, aJ, aX, bX, bO, bE, bS, ce, bV, bk, aI, bh, bj, bf, cd, Op.operands, Int.reduceBEq, Int.reduceLT, Int.reduceLE, Int.reduceNeg, Int.reduceBNe, bl, newB, ch, ck, cj, bne, ↓aj, ↓ai, bc, aP, bm, bu, aE, bH, Call.operands, ty3, ty4, ty9, ty25, ty49, ty50, ty51, ty53, ty101, ty105, ↓aa _ _ _ _ 6])
def hd_rostrumref_ValueFault_0 (p0 : GValue) (s : Int) : St := ⟨[(1, .rp [.i .i64 p0.fKind, .s p0.fText, .i .i64 p0.fCount, .sl 2 (ab GPair.row p0.fPairs), .sl 1 (ab aY p0.fItems), .sl 2 (ab GScore.row p0.fScores)]), (4, .v (.i .i64 s))], []⟩
def ou_rostrumref_ValueFault_0 (p0 : GValue) (r : Unit ⊕ Unit) : Option (Ex × St) := match r with
  | .inl r => some (.ret, ⟨[(2, .v (.i .i64 1))], []⟩)
  | .inr r => some (.normal, ⟨[(1, .rp [.i .i64 p0.fKind, .s p0.fText, .i .i64 p0.fCount, .sl 2 (ab GPair.row p0.fPairs), .sl 1 (ab aY p0.fItems), .sl 2 (ab GScore.row p0.fScores)])], []⟩)

set_option maxRecDepth 100000 in
set_option maxHeartbeats 40000000 in
theorem sl_rostrumref_ValueFault_0 (C : ak) (k_rostrumref_textMay : K_rostrumref_textMay C) (p0 : GValue) (p1 : Int) (o : Int ⊕ (Unit ⊕ Unit)) (hF : st_rostrumref_ValueFault_0 p0 p1 = some o) : evW TT C.wide n30 b30 0 (hd_rostrumref_ValueFault_0 p0 p1) = Sum.elim (fun s => evW TT C.wide n30 b30 0 (hd_rostrumref_ValueFault_0 p0 s)) (fun r => ou_rostrumref_ValueFault_0 p0 r) o := by
  unfold st_rostrumref_ValueFault_0 at hF
  try dsimp only at hF
  rw [ct TT n30 fl30_0]
  refine aT (decide (p1 < (p0.fItems.length : Int))) ?_ ?_
  focus
    intro h1
    replace hF := ar h1 hF
    have hR := Option.some.inj hF
    clear hF
    subst hR
  rotate_left 1
  intro h1
  replace hF := aq h1 hF
  revert hF
  cases h2 : idx p0.fItems p1
  focus
    intro hF
    cases hF
  rename_i x1
  intro hF
  try dsimp only at hF
  have g1 : decide (0 ≤ p1) = true := (cc h2).1
  have g2 : (ab aY p0.fItems)[(p1 : Int).toNat]? = some [.s x1] := ca _ h2
  have g3 : C.wide 80 [.v (.s x1)] [] = some (.v (.b (rostrumref_textMay_v x1)), []) := k_rostrumref_textMay x1 _ (rostrumref_textMay_t x1)
  refine aG (rostrumref_textMay_v x1) ?_ ?_
  focus
    intro h3
    replace hF := aq h3 hF
    have hR := Option.some.inj hF
    clear hF
    subst hR
  rotate_left 1
  intro h3
  replace hF := ar h3 hF
  have hR := Option.some.inj hF
  clear hF
  subst hR
  all_goals (show cD _ _ _ (aH _ _ _ _ (Code.seq _ _) _) = _; simp (maxSteps := 4000000) only [*, hd_rostrumref_ValueFault_0, ou_rostrumref_ValueFault_0, res30, n30a14t, n30a14f, n30a72t, n30a72f, n30a87t, n30a87f, n30a92t, n30a92f, n30a101t, n30a101f, n30a106t, n30a106f, n30a126t, n30a126f, n30a131t, n30a131f, n30a141t, n30a141f, n30a145t, n30a145f, n30a150t, n30a150f, n30a160t, n30a160f, n30a165t, n30a165f, n30a181t, n30a181f, n30a191t, n30a191f, n30a205t, n30a205f, n30a210t, n30a210f, n30a239t, n30a239f, n30k0, n30k1, n30k2, n30k3, n30k4, n30k5, n30k6, n30k7, n30k8, n30k9, n30k10, n30k11, n30k12, n30k13, n30k14, n30k15, n30k16, n30k17, n30k18, n30k19, n30k20, n30k21, n30k22, n30k23, n30k24, n30k25, n30k26, n30k27, n30k28, n30k29, n30k30, n30k31, n30k32, n30k33, n30k34, n30k35, n30k36, n30k37, n30k38, n30k39, n30k40, n30k41, n30k42, n30k43, n30k44, n30k45, n30f33, n30f38, n30f43, n30ro, n30mv, n30gv, ↓RP, RB, ↓ah, ↓ac, ↓af, ↓ad, ↓ae, enter, aW, aC, aZ, be, aM, Mx.bw, opnd, Mx.bF, Nat.reduceBEq, bK, Mx.fit, bI, bY, toVs, cellsOf, toV, aO, aB, ax, Mx.put, ofConst, ofCell, Mx.prune, killB, killBs, aK, putDst, au, ao, aD, loadAt, bM, List.map, Nat.reduceAdd, Nat.reduceMul, cm, cn, aF, eqC, cg, aN, reduceIte, reduceCtorEq, az, bn, bq, co, bN, bD, aL, bx, lowC, lowP, forceAll, bound, bW, bg, bv, aU, br, kill, spendLoc, spendOk, setOwn, dropAl, dropAls, bG, bP, bd, cb, lend, lendA, aS, ay, bU, bL, bare, bQ, frz, bZ, bo, argE, argsE, bB, bT, fill, setCells, bR, takeParts, bp, aR, ownAt, Nat.reduceBNe, Nat.reduceSub, Nat.reduceLT, Nat.reduceLeDiff, lowA, bi, bJ, av, aJ, aX, bX, bO, bE, bS, ce, bV, bk, aI, bh, bj, bf, cd, Op.operands, Int.reduceBEq, Int.reduceLT, Int.reduceLE, Int.reduceNeg, Int.reduceBNe, bl, newB, ch, ck, cj, bne, ↓aj, ↓ai, bc, aP, bm, bu, aE, bH, Call.operands, ty3, ty4, ty9, ty25, ty49, ty50, ty51, ty53, ty101, ty105, ↓aa _ _ _ _ 0, ↓aa _ _ _ _ 1, ↓aa _ _ _ _ 2, ↓aa _ _ _ _ 3, ↓bC _ _ _ _ 4, ↓aa _ _ _ _ 5, ↓bC _ _ _ _ 6, ↓aa _ _ _ _ 7, ↓aa _ _ _ _ 8, ↓aa _ _ _ _ 9, ↓aa _ _ _ _ 11, ↓aa _ _ _ _ 12, ↓aa _ _ _ _ 10, ↓aa _ _ _ _ 13, ↓aa _ _ _ _ 14, ↓aa _ _ _ _ 16, ↓aa _ _ _ _ 17, ↓aa _ _ _ _ 15, ↓aa _ _ _ _ 18, ↓aa _ _ _ _ 19, ↓aa _ _ _ _ 21, ↓aa _ _ _ _ 22, ↓aa _ _ _ _ 20, ↓aa _ _ _ _ 23, ↓aa _ _ _ _ 24, ↓aa _ _ _ _ 25, ↓aa _ _ _ _ 26, ↓aa _ _ _ _ 28, ↓aa _ _ _ _ 29, ↓aa _ _ _ _ 27, ↓aa _ _ _ _ 30, ↓aa _ _ _ _ 31, ↓am _ _ _ _ 33, ↓aa _ _ _ _ 34, ↓aa _ _ _ _ 32, ↓aa _ _ _ _ 35, ↓aa _ _ _ _ 36, ↓am _ _ _ _ 38, ↓aa _ _ _ _ 39, ↓aa _ _ _ _ 37, ↓aa _ _ _ _ 40, ↓aa _ _ _ _ 41, ↓am _ _ _ _ 43, ↓aa _ _ _ _ 44, ↓aa _ _ _ _ 42, ↓aa _ _ _ _ 45])
def hd_rostrumref_ValueFault_2 (p0 : GValue) (s : Int) : St := ⟨[(1, .rp [.i .i64 p0.fKind, .s p0.fText, .i .i64 p0.fCount, .sl 2 (ab GPair.row p0.fPairs), .sl 1 (ab aY p0.fItems), .sl 2 (ab GScore.row p0.fScores)]), (5, .v (.i .i64 s))], []⟩
def ou_rostrumref_ValueFault_2 (p0 : GValue) (r : Unit ⊕ Unit) : Option (Ex × St) := match r with
  | .inl r => some (.ret, ⟨[(2, .v (.i .i64 1))], []⟩)
  | .inr r => some (.normal, ⟨[(1, .rp [.i .i64 p0.fKind, .s p0.fText, .i .i64 p0.fCount, .sl 2 (ab GPair.row p0.fPairs), .sl 1 (ab aY p0.fItems), .sl 2 (ab GScore.row p0.fScores)])], []⟩)

set_option maxRecDepth 100000 in
set_option maxHeartbeats 40000000 in
theorem sl_rostrumref_ValueFault_2 (C : ak) (k_rostrumref_fieldMay : K_rostrumref_fieldMay C) (k_rostrumref_textMay : K_rostrumref_textMay C) (p0 : GValue) (p1 : Int) (o : Int ⊕ (Unit ⊕ Unit)) (hF : st_rostrumref_ValueFault_2 p0 p1 = some o) : evW TT C.wide n30 b30 2 (hd_rostrumref_ValueFault_2 p0 p1) = Sum.elim (fun s => evW TT C.wide n30 b30 2 (hd_rostrumref_ValueFault_2 p0 s)) (fun r => ou_rostrumref_ValueFault_2 p0 r) o := by
  unfold st_rostrumref_ValueFault_2 at hF
  try dsimp only at hF
  rw [ct TT n30 fl30_2]
  refine aT (decide (p1 < (p0.fPairs.length : Int))) ?_ ?_
  focus
    intro h1
    replace hF := ar h1 hF
    have hR := Option.some.inj hF
    clear hF
    subst hR
  rotate_left 1
  intro h1
  replace hF := aq h1 hF
  revert hF
  cases h2 : idx p0.fPairs p1
  focus
    intro hF
    cases hF
  rename_i x1
  intro hF
  try dsimp only at hF
  have g1 : decide (0 ≤ p1) = true := (cc h2).1
  have g2 : (ab GPair.row p0.fPairs)[(p1 : Int).toNat]? = some [.s x1.fField, .s x1.fText] := ca _ h2
  have g3 : C.wide 81 [.v (.s x1.fField)] [] = some (.v (.b (rostrumref_fieldMay_v x1.fField)), []) := k_rostrumref_fieldMay x1.fField _ (rostrumref_fieldMay_t x1.fField)
  refine aT (rostrumref_fieldMay_v x1.fField) ?_ ?_
  focus
    intro h3
    replace hF := ar h3 hF
    have hR := Option.some.inj hF
    clear hF
    subst hR
  rotate_left 1
  intro h3
  replace hF := aq h3 hF
  have g4 : C.wide 80 [.v (.s x1.fText)] [] = some (.v (.b (rostrumref_textMay_v x1.fText)), []) := k_rostrumref_textMay x1.fText _ (rostrumref_textMay_t x1.fText)
  refine aG (rostrumref_textMay_v x1.fText) ?_ ?_
  focus
    intro h4
    replace hF := aq h4 hF
    have hR := Option.some.inj hF
    clear hF
    subst hR
  rotate_left 1
  intro h4
  replace hF := ar h4 hF
  have hR := Option.some.inj hF
  clear hF
  subst hR
  all_goals (show cD _ _ _ (aH _ _ _ _ (Code.seq _ _) _) = _; simp (maxSteps := 4000000) only [*, hd_rostrumref_ValueFault_2, ou_rostrumref_ValueFault_2, res30, n30a14t, n30a14f, n30a72t, n30a72f, n30a87t, n30a87f, n30a92t, n30a92f, n30a101t, n30a101f, n30a106t, n30a106f, n30a126t, n30a126f, n30a131t, n30a131f, n30a141t, n30a141f, n30a145t, n30a145f, n30a150t, n30a150f, n30a160t, n30a160f, n30a165t, n30a165f, n30a181t, n30a181f, n30a191t, n30a191f, n30a205t, n30a205f, n30a210t, n30a210f, n30a239t, n30a239f, n30k0, n30k1, n30k2, n30k3, n30k4, n30k5, n30k6, n30k7, n30k8, n30k9, n30k10, n30k11, n30k12, n30k13, n30k14, n30k15, n30k16, n30k17, n30k18, n30k19, n30k20, n30k21, n30k22, n30k23, n30k24, n30k25, n30k26, n30k27, n30k28, n30k29, n30k30, n30k31, n30k32, n30k33, n30k34, n30k35, n30k36, n30k37, n30k38, n30k39, n30k40, n30k41, n30k42, n30k43, n30k44, n30k45, n30f33, n30f38, n30f43, n30ro, n30mv, n30gv, ↓RP, RB, ↓ah, ↓ac, ↓af, ↓ad, ↓ae, enter, aW, aC, aZ, be, aM, Mx.bw, opnd, Mx.bF, Nat.reduceBEq, bK, Mx.fit, bI, bY, toVs, cellsOf, toV, aO, aB, ax, Mx.put, ofConst, ofCell, Mx.prune, killB, killBs, aK, putDst, au, ao, aD, loadAt, bM, List.map, Nat.reduceAdd, Nat.reduceMul, cm, cn, aF, eqC, cg, aN, reduceIte, reduceCtorEq, az, bn, bq, co, bN, bD, aL, bx, lowC, lowP, forceAll, bound, bW, bg, bv, aU, br, kill, spendLoc, spendOk, setOwn, dropAl, dropAls, bG, bP, bd, cb, lend, lendA, aS, ay, bU, bL, bare, bQ, frz, bZ, bo, argE, argsE, bB, bT, fill, setCells, bR, takeParts, bp, aR, ownAt, Nat.reduceBNe, Nat.reduceSub, Nat.reduceLT, Nat.reduceLeDiff, lowA, bi, bJ, av, aJ, aX, bX, bO, bE, bS, ce, bV, bk, aI, bh, bj, bf, cd, Op.operands, Int.reduceBEq, Int.reduceLT, Int.reduceLE, Int.reduceNeg, Int.reduceBNe, bl, newB, ch, ck, cj, bne, ↓aj, ↓ai, bc, aP, bm, bu, aE, bH, Call.operands, ty3, ty4, ty9, ty25, ty49, ty50, ty51, ty53, ty101, ty105, ↓aa _ _ _ _ 0, ↓aa _ _ _ _ 1, ↓aa _ _ _ _ 2, ↓aa _ _ _ _ 3, ↓bC _ _ _ _ 4, ↓aa _ _ _ _ 5, ↓bC _ _ _ _ 6, ↓aa _ _ _ _ 7, ↓aa _ _ _ _ 8, ↓aa _ _ _ _ 9, ↓aa _ _ _ _ 11, ↓aa _ _ _ _ 12, ↓aa _ _ _ _ 10, ↓aa _ _ _ _ 13, ↓aa _ _ _ _ 14, ↓aa _ _ _ _ 16, ↓aa _ _ _ _ 17, ↓aa _ _ _ _ 15, ↓aa _ _ _ _ 18, ↓aa _ _ _ _ 19, ↓aa _ _ _ _ 21, ↓aa _ _ _ _ 22, ↓aa _ _ _ _ 20, ↓aa _ _ _ _ 23, ↓aa _ _ _ _ 24, ↓aa _ _ _ _ 25, ↓aa _ _ _ _ 26, ↓aa _ _ _ _ 28, ↓aa _ _ _ _ 29, ↓aa _ _ _ _ 27, ↓aa _ _ _ _ 30, ↓aa _ _ _ _ 31, ↓am _ _ _ _ 33, ↓aa _ _ _ _ 34, ↓aa _ _ _ _ 32, ↓aa _ _ _ _ 35, ↓aa _ _ _ _ 36, ↓am _ _ _ _ 38, ↓aa _ _ _ _ 39, ↓aa _ _ _ _ 37, ↓aa _ _ _ _ 40, ↓aa _ _ _ _ 41, ↓am _ _ _ _ 43, ↓aa _ _ _ _ 44, ↓aa _ _ _ _ 42, ↓aa _ _ _ _ 45])
def hd_rostrumref_ValueFault_4 (p0 : GValue) (s : Int) : St := ⟨[(1, .rp [.i .i64 p0.fKind, .s p0.fText, .i .i64 p0.fCount, .sl 2 (ab GPair.row p0.fPairs), .sl 1 (ab aY p0.fItems), .sl 2 (ab GScore.row p0.fScores)]), (6, .v (.i .i64 s))], []⟩
def ou_rostrumref_ValueFault_4 (p0 : GValue) (r : Unit ⊕ Unit) : Option (Ex × St) := match r with
  | .inl r => some (.ret, ⟨[(2, .v (.i .i64 1))], []⟩)
  | .inr r => some (.normal, ⟨[(1, .rp [.i .i64 p0.fKind, .s p0.fText, .i .i64 p0.fCount, .sl 2 (ab GPair.row p0.fPairs), .sl 1 (ab aY p0.fItems), .sl 2 (ab GScore.row p0.fScores)])], []⟩)

set_option maxRecDepth 100000 in
set_option maxHeartbeats 40000000 in
theorem sl_rostrumref_ValueFault_4 (C : ak) (k_rostrumref_textMay : K_rostrumref_textMay C) (p0 : GValue) (p1 : Int) (o : Int ⊕ (Unit ⊕ Unit)) (hF : st_rostrumref_ValueFault_4 p0 p1 = some o) : evW TT C.wide n30 b30 4 (hd_rostrumref_ValueFault_4 p0 p1) = Sum.elim (fun s => evW TT C.wide n30 b30 4 (hd_rostrumref_ValueFault_4 p0 s)) (fun r => ou_rostrumref_ValueFault_4 p0 r) o := by
  unfold st_rostrumref_ValueFault_4 at hF
  try dsimp only at hF
  rw [ct TT n30 fl30_4]
  refine aT (decide (p1 < (p0.fScores.length : Int))) ?_ ?_
  focus
    intro h1
    replace hF := ar h1 hF
    have hR := Option.some.inj hF
    clear hF
    subst hR
  rotate_left 1
  intro h1
  replace hF := aq h1 hF
  revert hF
  cases h2 : idx p0.fScores p1
  focus
    intro hF
    cases hF
  rename_i x1
  intro hF
  try dsimp only at hF
  have g1 : decide (0 ≤ p1) = true := (cc h2).1
  have g2 : (ab GScore.row p0.fScores)[(p1 : Int).toNat]? = some [.s x1.fMember, .i .i64 x1.fN] := ca _ h2
  have g3 : C.wide 80 [.v (.s x1.fMember)] [] = some (.v (.b (rostrumref_textMay_v x1.fMember)), []) := k_rostrumref_textMay x1.fMember _ (rostrumref_textMay_t x1.fMember)
  refine aG (rostrumref_textMay_v x1.fMember) ?_ ?_
  focus
    intro h3
    replace hF := aq h3 hF
    have hR := Option.some.inj hF
    clear hF
    subst hR
  rotate_left 1
  intro h3
  replace hF := ar h3 hF
  have hR := Option.some.inj hF
  clear hF
  subst hR
  all_goals (show cD _ _ _ (aH _ _ _ _ (Code.seq _ _) _) = _; simp (maxSteps := 4000000) only [*, hd_rostrumref_ValueFault_4, ou_rostrumref_ValueFault_4, res30, n30a14t, n30a14f, n30a72t, n30a72f, n30a87t, n30a87f, n30a92t, n30a92f, n30a101t, n30a101f, n30a106t, n30a106f, n30a126t, n30a126f, n30a131t, n30a131f, n30a141t, n30a141f, n30a145t, n30a145f, n30a150t, n30a150f, n30a160t, n30a160f, n30a165t, n30a165f, n30a181t, n30a181f, n30a191t, n30a191f, n30a205t, n30a205f, n30a210t, n30a210f, n30a239t, n30a239f, n30k0, n30k1, n30k2, n30k3, n30k4, n30k5, n30k6, n30k7, n30k8, n30k9, n30k10, n30k11, n30k12, n30k13, n30k14, n30k15, n30k16, n30k17, n30k18, n30k19, n30k20, n30k21, n30k22, n30k23, n30k24, n30k25, n30k26, n30k27, n30k28, n30k29, n30k30, n30k31, n30k32, n30k33, n30k34, n30k35, n30k36, n30k37, n30k38, n30k39, n30k40, n30k41, n30k42, n30k43, n30k44, n30k45, n30f33, n30f38, n30f43, n30ro, n30mv, n30gv, ↓RP, RB, ↓ah, ↓ac, ↓af, ↓ad, ↓ae, enter, aW, aC, aZ, be, aM, Mx.bw, opnd, Mx.bF, Nat.reduceBEq, bK, Mx.fit, bI, bY, toVs, cellsOf, toV, aO, aB, ax, Mx.put, ofConst, ofCell, Mx.prune, killB, killBs, aK, putDst, au, ao, aD, loadAt, bM, List.map, Nat.reduceAdd, Nat.reduceMul, cm, cn, aF, eqC, cg, aN, reduceIte, reduceCtorEq, az, bn, bq, co, bN, bD, aL, bx, lowC, lowP, forceAll, bound, bW, bg, bv, aU, br, kill, spendLoc, spendOk, setOwn, dropAl, dropAls, bG, bP, bd, cb, lend, lendA, aS, ay, bU, bL, bare, bQ, frz, bZ, bo, argE, argsE, bB, bT, fill, setCells, bR, takeParts, bp, aR, ownAt, Nat.reduceBNe, Nat.reduceSub, Nat.reduceLT, Nat.reduceLeDiff, lowA, bi, bJ, av, aJ, aX, bX, bO, bE, bS, ce, bV, bk, aI, bh, bj, bf, cd, Op.operands, Int.reduceBEq, Int.reduceLT, Int.reduceLE, Int.reduceNeg, Int.reduceBNe, bl, newB, ch, ck, cj, bne, ↓aj, ↓ai, bc, aP, bm, bu, aE, bH, Call.operands, ty3, ty4, ty9, ty25, ty49, ty50, ty51, ty53, ty101, ty105, ↓aa _ _ _ _ 0, ↓aa _ _ _ _ 1, ↓aa _ _ _ _ 2, ↓aa _ _ _ _ 3, ↓bC _ _ _ _ 4, ↓aa _ _ _ _ 5, ↓bC _ _ _ _ 6, ↓aa _ _ _ _ 7, ↓aa _ _ _ _ 8, ↓aa _ _ _ _ 9, ↓aa _ _ _ _ 11, ↓aa _ _ _ _ 12, ↓aa _ _ _ _ 10, ↓aa _ _ _ _ 13, ↓aa _ _ _ _ 14, ↓aa _ _ _ _ 16, ↓aa _ _ _ _ 17, ↓aa _ _ _ _ 15, ↓aa _ _ _ _ 18, ↓aa _ _ _ _ 19, ↓aa _ _ _ _ 21, ↓aa _ _ _ _ 22, ↓aa _ _ _ _ 20, ↓aa _ _ _ _ 23, ↓aa _ _ _ _ 24, ↓aa _ _ _ _ 25, ↓aa _ _ _ _ 26, ↓aa _ _ _ _ 28, ↓aa _ _ _ _ 29, ↓aa _ _ _ _ 27, ↓aa _ _ _ _ 30, ↓aa _ _ _ _ 31, ↓am _ _ _ _ 33, ↓aa _ _ _ _ 34, ↓aa _ _ _ _ 32, ↓aa _ _ _ _ 35, ↓aa _ _ _ _ 36, ↓am _ _ _ _ 38, ↓aa _ _ _ _ 39, ↓aa _ _ _ _ 37, ↓aa _ _ _ _ 40, ↓aa _ _ _ _ 41, ↓am _ _ _ _ 43, ↓aa _ _ _ _ 44, ↓aa _ _ _ _ 42, ↓aa _ _ _ _ 45])
def hd_rostrumref_ValueFault_6 (p0 : GValue) (s : Int) : St := ⟨[(1, .rp [.i .i64 p0.fKind, .s p0.fText, .i .i64 p0.fCount, .sl 2 (ab GPair.row p0.fPairs), .sl 1 (ab aY p0.fItems), .sl 2 (ab GScore.row p0.fScores)]), (7, .v (.i .i64 s))], []⟩
def ou_rostrumref_ValueFault_6 (p0 : GValue) (r : Unit ⊕ Unit) : Option (Ex × St) := match r with
  | .inl r => some (.ret, ⟨[(2, .v (.i .i64 2))], []⟩)
  | .inr r => some (.normal, ⟨[(1, .rp [.i .i64 p0.fKind, .s p0.fText, .i .i64 p0.fCount, .sl 2 (ab GPair.row p0.fPairs), .sl 1 (ab aY p0.fItems), .sl 2 (ab GScore.row p0.fScores)])], []⟩)

set_option maxRecDepth 100000 in
set_option maxHeartbeats 40000000 in
theorem sl_rostrumref_ValueFault_6 (C : ak) (k_rostrumref_countMay : K_rostrumref_countMay C) (p0 : GValue) (p1 : Int) (o : Int ⊕ (Unit ⊕ Unit)) (hF : st_rostrumref_ValueFault_6 p0 p1 = some o) : evW TT C.wide n30 b30 6 (hd_rostrumref_ValueFault_6 p0 p1) = Sum.elim (fun s => evW TT C.wide n30 b30 6 (hd_rostrumref_ValueFault_6 p0 s)) (fun r => ou_rostrumref_ValueFault_6 p0 r) o := by
  unfold st_rostrumref_ValueFault_6 at hF
  try dsimp only at hF
  rw [ct TT n30 fl30_6]
  refine aT (decide (p1 < (p0.fScores.length : Int))) ?_ ?_
  focus
    intro h1
    replace hF := ar h1 hF
    have hR := Option.some.inj hF
    clear hF
    subst hR
  rotate_left 1
  intro h1
  replace hF := aq h1 hF
  revert hF
  cases h2 : idx p0.fScores p1
  focus
    intro hF
    cases hF
  rename_i x1
  intro hF
  try dsimp only at hF
  have g1 : decide (0 ≤ p1) = true := (cc h2).1
  have g2 : (ab GScore.row p0.fScores)[(p1 : Int).toNat]? = some [.s x1.fMember, .i .i64 x1.fN] := ca _ h2
  have g3 : C.wide 82 [.v (.i .i64 x1.fN)] [] = some (.v (.b (rostrumref_countMay_v x1.fN)), []) := k_rostrumref_countMay x1.fN _ (rostrumref_countMay_t x1.fN)
  refine aG (rostrumref_countMay_v x1.fN) ?_ ?_
  focus
    intro h3
    replace hF := aq h3 hF
    have hR := Option.some.inj hF
    clear hF
    subst hR
  rotate_left 1
  intro h3
  replace hF := ar h3 hF
  have hR := Option.some.inj hF
  clear hF
  subst hR
  all_goals (show cD _ _ _ (aH _ _ _ _ (Code.seq _ _) _) = _; simp (maxSteps := 4000000) only [*, hd_rostrumref_ValueFault_6, ou_rostrumref_ValueFault_6, res30, n30a14t, n30a14f, n30a72t, n30a72f, n30a87t, n30a87f, n30a92t, n30a92f, n30a101t, n30a101f, n30a106t, n30a106f, n30a126t, n30a126f, n30a131t, n30a131f, n30a141t, n30a141f, n30a145t, n30a145f, n30a150t, n30a150f, n30a160t, n30a160f, n30a165t, n30a165f, n30a181t, n30a181f, n30a191t, n30a191f, n30a205t, n30a205f, n30a210t, n30a210f, n30a239t, n30a239f, n30k0, n30k1, n30k2, n30k3, n30k4, n30k5, n30k6, n30k7, n30k8, n30k9, n30k10, n30k11, n30k12, n30k13, n30k14, n30k15, n30k16, n30k17, n30k18, n30k19, n30k20, n30k21, n30k22, n30k23, n30k24, n30k25, n30k26, n30k27, n30k28, n30k29, n30k30, n30k31, n30k32, n30k33, n30k34, n30k35, n30k36, n30k37, n30k38, n30k39, n30k40, n30k41, n30k42, n30k43, n30k44, n30k45, n30f33, n30f38, n30f43, n30ro, n30mv, n30gv, ↓RP, RB, ↓ah, ↓ac, ↓af, ↓ad, ↓ae, enter, aW, aC, aZ, be, aM, Mx.bw, opnd, Mx.bF, Nat.reduceBEq, bK, Mx.fit, bI, bY, toVs, cellsOf, toV, aO, aB, ax, Mx.put, ofConst, ofCell, Mx.prune, killB, killBs, aK, putDst, au, ao, aD, loadAt, bM, List.map, Nat.reduceAdd, Nat.reduceMul, cm, cn, aF, eqC, cg, aN, reduceIte, reduceCtorEq, az, bn, bq, co, bN, bD, aL, bx, lowC, lowP, forceAll, bound, bW, bg, bv, aU, br, kill, spendLoc, spendOk, setOwn, dropAl, dropAls, bG, bP, bd, cb, lend, lendA, aS, ay, bU, bL, bare, bQ, frz, bZ, bo, argE, argsE, bB, bT, fill, setCells, bR, takeParts, bp, aR, ownAt, Nat.reduceBNe, Nat.reduceSub, Nat.reduceLT, Nat.reduceLeDiff, lowA, bi, bJ, av, aJ, aX, bX, bO, bE, bS, ce, bV, bk, aI, bh, bj, bf, cd, Op.operands, Int.reduceBEq, Int.reduceLT, Int.reduceLE, Int.reduceNeg, Int.reduceBNe, bl, newB, ch, ck, cj, bne, ↓aj, ↓ai, bc, aP, bm, bu, aE, bH, Call.operands, ty3, ty4, ty9, ty25, ty49, ty50, ty51, ty53, ty101, ty105, ↓aa _ _ _ _ 0, ↓aa _ _ _ _ 1, ↓aa _ _ _ _ 2, ↓aa _ _ _ _ 3, ↓bC _ _ _ _ 4, ↓aa _ _ _ _ 5, ↓bC _ _ _ _ 6, ↓aa _ _ _ _ 7, ↓aa _ _ _ _ 8, ↓aa _ _ _ _ 9, ↓aa _ _ _ _ 11, ↓aa _ _ _ _ 12, ↓aa _ _ _ _ 10, ↓aa _ _ _ _ 13, ↓aa _ _ _ _ 14, ↓aa _ _ _ _ 16, ↓aa _ _ _ _ 17, ↓aa _ _ _ _ 15, ↓aa _ _ _ _ 18, ↓aa _ _ _ _ 19, ↓aa _ _ _ _ 21, ↓aa _ _ _ _ 22, ↓aa _ _ _ _ 20, ↓aa _ _ _ _ 23, ↓aa _ _ _ _ 24, ↓aa _ _ _ _ 25, ↓aa _ _ _ _ 26, ↓aa _ _ _ _ 28, ↓aa _ _ _ _ 29, ↓aa _ _ _ _ 27, ↓aa _ _ _ _ 30, ↓aa _ _ _ _ 31, ↓am _ _ _ _ 33, ↓aa _ _ _ _ 34, ↓aa _ _ _ _ 32, ↓aa _ _ _ _ 35, ↓aa _ _ _ _ 36, ↓am _ _ _ _ 38, ↓aa _ _ _ _ 39, ↓aa _ _ _ _ 37, ↓aa _ _ _ _ 40, ↓aa _ _ _ _ 41, ↓am _ _ _ _ 43, ↓aa _ _ _ _ 44, ↓aa _ _ _ _ 42, ↓aa _ _ _ _ 45])
def hd_rostrumref_ValueFault_8 (p0 : GValue) (s : Int) : St := ⟨[(1, .rp [.i .i64 p0.fKind, .s p0.fText, .i .i64 p0.fCount, .sl 2 (ab GPair.row p0.fPairs), .sl 1 (ab aY p0.fItems), .sl 2 (ab GScore.row p0.fScores)]), (8, .v (.i .i64 s))], []⟩
def ou_rostrumref_ValueFault_8 (p0 : GValue) (r : Unit ⊕ Unit) : Option (Ex × St) := match r with
  | .inl r => some (.ret, ⟨[(2, .v (.i .i64 10))], []⟩)
  | .inr r => some (.normal, ⟨[(1, .rp [.i .i64 p0.fKind, .s p0.fText, .i .i64 p0.fCount, .sl 2 (ab GPair.row p0.fPairs), .sl 1 (ab aY p0.fItems), .sl 2 (ab GScore.row p0.fScores)])], []⟩)

set_option maxRecDepth 100000 in
set_option maxHeartbeats 40000000 in
theorem sl_rostrumref_ValueFault_8 (C : ak)  (p0 : GValue) (p1 : Int) (o : Int ⊕ (Unit ⊕ Unit)) (hF : st_rostrumref_ValueFault_8 p0 p1 = some o) : evW TT C.wide n30 b30 8 (hd_rostrumref_ValueFault_8 p0 p1) = Sum.elim (fun s => evW TT C.wide n30 b30 8 (hd_rostrumref_ValueFault_8 p0 s)) (fun r => ou_rostrumref_ValueFault_8 p0 r) o := by
  unfold st_rostrumref_ValueFault_8 at hF
  try dsimp only at hF
  rw [ct TT n30 fl30_8]
  refine aT (decide (p1 < (p0.fPairs.length : Int))) ?_ ?_
  focus
    intro h1
    replace hF := ar h1 hF
    have hR := Option.some.inj hF
    clear hF
    subst hR
  rotate_left 1
  intro h1
  replace hF := aq h1 hF
  revert hF
  cases h2 : idx p0.fPairs (IntKind.i64.wrap (p1 - 1))
  focus
    intro hF
    cases hF
  rename_i x1
  intro hF
  try dsimp only at hF
  have g1 : decide (0 ≤ (IntKind.i64.wrap (p1 - 1))) = true := (cc h2).1
  have g2 : (ab GPair.row p0.fPairs)[((IntKind.i64.wrap (p1 - 1)) : Int).toNat]? = some [.s x1.fField, .s x1.fText] := ca _ h2
  revert hF
  cases h3 : idx p0.fPairs p1
  focus
    intro hF
    cases hF
  rename_i x2
  intro hF
  try dsimp only at hF
  have g3 : decide (0 ≤ p1) = true := (cc h3).1
  have g4 : (ab GPair.row p0.fPairs)[(p1 : Int).toNat]? = some [.s x2.fField, .s x2.fText] := ca _ h3
  refine aG (sltB x1.fField x2.fField) ?_ ?_
  focus
    intro h4
    replace hF := aq h4 hF
    have hR := Option.some.inj hF
    clear hF
    subst hR
  rotate_left 1
  intro h4
  replace hF := ar h4 hF
  have hR := Option.some.inj hF
  clear hF
  subst hR
  all_goals (show cD _ _ _ (aH _ _ _ _ (Code.seq _ _) _) = _; simp (maxSteps := 4000000) only [*, hd_rostrumref_ValueFault_8, ou_rostrumref_ValueFault_8, res30, n30a14t, n30a14f, n30a72t, n30a72f, n30a87t, n30a87f, n30a92t, n30a92f, n30a101t, n30a101f, n30a106t, n30a106f, n30a126t, n30a126f, n30a131t, n30a131f, n30a141t, n30a141f, n30a145t, n30a145f, n30a150t, n30a150f, n30a160t, n30a160f, n30a165t, n30a165f, n30a181t, n30a181f, n30a191t, n30a191f, n30a205t, n30a205f, n30a210t, n30a210f, n30a239t, n30a239f, n30k0, n30k1, n30k2, n30k3, n30k4, n30k5, n30k6, n30k7, n30k8, n30k9, n30k10, n30k11, n30k12, n30k13, n30k14, n30k15, n30k16, n30k17, n30k18, n30k19, n30k20, n30k21, n30k22, n30k23, n30k24, n30k25, n30k26, n30k27, n30k28, n30k29, n30k30, n30k31, n30k32, n30k33, n30k34, n30k35, n30k36, n30k37, n30k38, n30k39, n30k40, n30k41, n30k42, n30k43, n30k44, n30k45, n30f33, n30f38, n30f43, n30ro, n30mv, n30gv, ↓RP, RB, ↓ah, ↓ac, ↓af, ↓ad, ↓ae, enter, aW, aC, aZ, be, aM, Mx.bw, opnd, Mx.bF, Nat.reduceBEq, bK, Mx.fit, bI, bY, toVs, cellsOf, toV, aO, aB, ax, Mx.put, ofConst, ofCell, Mx.prune, killB, killBs, aK, putDst, au, ao, aD, loadAt, bM, List.map, Nat.reduceAdd, Nat.reduceMul, cm, cn, aF, eqC, cg, aN, reduceIte, reduceCtorEq, az, bn, bq, co, bN, bD, aL, bx, lowC, lowP, forceAll, bound, bW, bg, bv, aU, br, kill, spendLoc, spendOk, setOwn, dropAl, dropAls, bG, bP, bd, cb, lend, lendA, aS, ay, bU, bL, bare, bQ, frz, bZ, bo, argE, argsE, bB, bT, fill, setCells, bR, takeParts, bp, aR, ownAt, Nat.reduceBNe, Nat.reduceSub, Nat.reduceLT, Nat.reduceLeDiff, lowA, bi, bJ, av, aJ, aX, bX, bO, bE, bS, ce, bV, bk, aI, bh, bj, bf, cd, Op.operands, Int.reduceBEq, Int.reduceLT, Int.reduceLE, Int.reduceNeg, Int.reduceBNe, bl, newB, ch, ck, cj, bne, ↓aj, ↓ai, bc, aP, bm, bu, aE, bH, Call.operands, ty3, ty4, ty9, ty25, ty49, ty50, ty51, ty53, ty101, ty105, ↓aa _ _ _ _ 0, ↓aa _ _ _ _ 1, ↓aa _ _ _ _ 2, ↓aa _ _ _ _ 3, ↓bC _ _ _ _ 4, ↓aa _ _ _ _ 5, ↓bC _ _ _ _ 6, ↓aa _ _ _ _ 7, ↓aa _ _ _ _ 8, ↓aa _ _ _ _ 9, ↓aa _ _ _ _ 11, ↓aa _ _ _ _ 12, ↓aa _ _ _ _ 10, ↓aa _ _ _ _ 13, ↓aa _ _ _ _ 14, ↓aa _ _ _ _ 16, ↓aa _ _ _ _ 17, ↓aa _ _ _ _ 15, ↓aa _ _ _ _ 18, ↓aa _ _ _ _ 19, ↓aa _ _ _ _ 21, ↓aa _ _ _ _ 22, ↓aa _ _ _ _ 20, ↓aa _ _ _ _ 23, ↓aa _ _ _ _ 24, ↓aa _ _ _ _ 25, ↓aa _ _ _ _ 26, ↓aa _ _ _ _ 28, ↓aa _ _ _ _ 29, ↓aa _ _ _ _ 27, ↓aa _ _ _ _ 30, ↓aa _ _ _ _ 31, ↓am _ _ _ _ 33, ↓aa _ _ _ _ 34, ↓aa _ _ _ _ 32, ↓aa _ _ _ _ 35, ↓aa _ _ _ _ 36, ↓am _ _ _ _ 38, ↓aa _ _ _ _ 39, ↓aa _ _ _ _ 37, ↓aa _ _ _ _ 40, ↓aa _ _ _ _ 41, ↓am _ _ _ _ 43, ↓aa _ _ _ _ 44, ↓aa _ _ _ _ 42, ↓aa _ _ _ _ 45])
def hd_rostrumref_ValueFault_10 (p0 : GValue) (s : Int) : St := ⟨[(1, .rp [.i .i64 p0.fKind, .s p0.fText, .i .i64 p0.fCount, .sl 2 (ab GPair.row p0.fPairs), .sl 1 (ab aY p0.fItems), .sl 2 (ab GScore.row p0.fScores)]), (9, .v (.i .i64 s))], []⟩
def ou_rostrumref_ValueFault_10 (p0 : GValue) (r : Unit ⊕ Unit) : Option (Ex × St) := match r with
  | .inl r => some (.ret, ⟨[(2, .v (.i .i64 10))], []⟩)
  | .inr r => some (.normal, ⟨[(1, .rp [.i .i64 p0.fKind, .s p0.fText, .i .i64 p0.fCount, .sl 2 (ab GPair.row p0.fPairs), .sl 1 (ab aY p0.fItems), .sl 2 (ab GScore.row p0.fScores)])], []⟩)

set_option maxRecDepth 100000 in
set_option maxHeartbeats 40000000 in
theorem sl_rostrumref_ValueFault_10 (C : ak)  (p0 : GValue) (p1 : Int) (o : Int ⊕ (Unit ⊕ Unit)) (hF : st_rostrumref_ValueFault_10 p0 p1 = some o) : evW TT C.wide n30 b30 10 (hd_rostrumref_ValueFault_10 p0 p1) = Sum.elim (fun s => evW TT C.wide n30 b30 10 (hd_rostrumref_ValueFault_10 p0 s)) (fun r => ou_rostrumref_ValueFault_10 p0 r) o := by
  unfold st_rostrumref_ValueFault_10 at hF
  try dsimp only at hF
  rw [ct TT n30 fl30_10]
  refine aT (decide (p1 < (p0.fItems.length : Int))) ?_ ?_
  focus
    intro h1
    replace hF := ar h1 hF
    have hR := Option.some.inj hF
    clear hF
    subst hR
  rotate_left 1
  intro h1
  replace hF := aq h1 hF
  refine aT (p0.fKind == 5) ?_ ?_
  focus
    intro h2
    replace hF := ar h2 hF
    have hR := Option.some.inj hF
    clear hF
    subst hR
  rotate_left 1
  intro h2
  replace hF := aq h2 hF
  revert hF
  cases h3 : idx p0.fItems (IntKind.i64.wrap (p1 - 1))
  focus
    intro hF
    cases hF
  rename_i x1
  intro hF
  try dsimp only at hF
  have g1 : decide (0 ≤ (IntKind.i64.wrap (p1 - 1))) = true := (cc h3).1
  have g2 : (ab aY p0.fItems)[((IntKind.i64.wrap (p1 - 1)) : Int).toNat]? = some [.s x1] := ca _ h3
  revert hF
  cases h4 : idx p0.fItems p1
  focus
    intro hF
    cases hF
  rename_i x2
  intro hF
  try dsimp only at hF
  have g3 : decide (0 ≤ p1) = true := (cc h4).1
  have g4 : (ab aY p0.fItems)[(p1 : Int).toNat]? = some [.s x2] := ca _ h4
  refine aG (sltB x1 x2) ?_ ?_
  focus
    intro h5
    replace hF := aq h5 hF
    have hR := Option.some.inj hF
    clear hF
    subst hR
  rotate_left 1
  intro h5
  replace hF := ar h5 hF
  have hR := Option.some.inj hF
  clear hF
  subst hR
  all_goals (show cD _ _ _ (aH _ _ _ _ (Code.seq _ _) _) = _; simp (maxSteps := 4000000) only [*, hd_rostrumref_ValueFault_10, ou_rostrumref_ValueFault_10, res30, n30a14t, n30a14f, n30a72t, n30a72f, n30a87t, n30a87f, n30a92t, n30a92f, n30a101t, n30a101f, n30a106t, n30a106f, n30a126t, n30a126f, n30a131t, n30a131f, n30a141t, n30a141f, n30a145t, n30a145f, n30a150t, n30a150f, n30a160t, n30a160f, n30a165t, n30a165f, n30a181t, n30a181f, n30a191t, n30a191f, n30a205t, n30a205f, n30a210t, n30a210f, n30a239t, n30a239f, n30k0, n30k1, n30k2, n30k3, n30k4, n30k5, n30k6, n30k7, n30k8, n30k9, n30k10, n30k11, n30k12, n30k13, n30k14, n30k15, n30k16, n30k17, n30k18, n30k19, n30k20, n30k21, n30k22, n30k23, n30k24, n30k25, n30k26, n30k27, n30k28, n30k29, n30k30, n30k31, n30k32, n30k33, n30k34, n30k35, n30k36, n30k37, n30k38, n30k39, n30k40, n30k41, n30k42, n30k43, n30k44, n30k45, n30f33, n30f38, n30f43, n30ro, n30mv, n30gv, ↓RP, RB, ↓ah, ↓ac, ↓af, ↓ad, ↓ae, enter, aW, aC, aZ, be, aM, Mx.bw, opnd, Mx.bF, Nat.reduceBEq, bK, Mx.fit, bI, bY, toVs, cellsOf, toV, aO, aB, ax, Mx.put, ofConst, ofCell, Mx.prune, killB, killBs, aK, putDst, au, ao, aD, loadAt, bM, List.map, Nat.reduceAdd, Nat.reduceMul, cm, cn, aF, eqC, cg, aN, reduceIte, reduceCtorEq, az, bn, bq, co, bN, bD, aL, bx, lowC, lowP, forceAll, bound, bW, bg, bv, aU, br, kill, spendLoc, spendOk, setOwn, dropAl, dropAls, bG, bP, bd, cb, lend, lendA, aS, ay, bU, bL, bare, bQ, frz, bZ, bo, argE, argsE, bB, bT, fill, setCells, bR, takeParts, bp, aR, ownAt, Nat.reduceBNe, Nat.reduceSub, Nat.reduceLT, Nat.reduceLeDiff, lowA, bi, bJ, av, aJ, aX, bX, bO, bE, bS, ce, bV, bk, aI, bh, bj, bf, cd, Op.operands, Int.reduceBEq, Int.reduceLT, Int.reduceLE, Int.reduceNeg, Int.reduceBNe, bl, newB, ch, ck, cj, bne, ↓aj, ↓ai, bc, aP, bm, bu, aE, bH, Call.operands, ty3, ty4, ty9, ty25, ty49, ty50, ty51, ty53, ty101, ty105, ↓aa _ _ _ _ 0, ↓aa _ _ _ _ 1, ↓aa _ _ _ _ 2, ↓aa _ _ _ _ 3, ↓bC _ _ _ _ 4, ↓aa _ _ _ _ 5, ↓bC _ _ _ _ 6, ↓aa _ _ _ _ 7, ↓aa _ _ _ _ 8, ↓aa _ _ _ _ 9, ↓aa _ _ _ _ 11, ↓aa _ _ _ _ 12, ↓aa _ _ _ _ 10, ↓aa _ _ _ _ 13, ↓aa _ _ _ _ 14, ↓aa _ _ _ _ 16, ↓aa _ _ _ _ 17, ↓aa _ _ _ _ 15, ↓aa _ _ _ _ 18, ↓aa _ _ _ _ 19, ↓aa _ _ _ _ 21, ↓aa _ _ _ _ 22, ↓aa _ _ _ _ 20, ↓aa _ _ _ _ 23, ↓aa _ _ _ _ 24, ↓aa _ _ _ _ 25, ↓aa _ _ _ _ 26, ↓aa _ _ _ _ 28, ↓aa _ _ _ _ 29, ↓aa _ _ _ _ 27, ↓aa _ _ _ _ 30, ↓aa _ _ _ _ 31, ↓am _ _ _ _ 33, ↓aa _ _ _ _ 34, ↓aa _ _ _ _ 32, ↓aa _ _ _ _ 35, ↓aa _ _ _ _ 36, ↓am _ _ _ _ 38, ↓aa _ _ _ _ 39, ↓aa _ _ _ _ 37, ↓aa _ _ _ _ 40, ↓aa _ _ _ _ 41, ↓am _ _ _ _ 43, ↓aa _ _ _ _ 44, ↓aa _ _ _ _ 42, ↓aa _ _ _ _ 45])
def hd_rostrumref_ValueFault_12 (p0 : GValue) (s : Int) : St := ⟨[(1, .rp [.i .i64 p0.fKind, .s p0.fText, .i .i64 p0.fCount, .sl 2 (ab GPair.row p0.fPairs), .sl 1 (ab aY p0.fItems), .sl 2 (ab GScore.row p0.fScores)]), (10, .v (.i .i64 s))], []⟩
def ou_rostrumref_ValueFault_12 (p0 : GValue) (r : Unit ⊕ Unit) : Option (Ex × St) := match r with
  | .inl r => some (.ret, ⟨[(2, .v (.i .i64 10))], []⟩)
  | .inr r => some (.normal, ⟨[], []⟩)

set_option maxRecDepth 100000 in
set_option maxHeartbeats 40000000 in
theorem sl_rostrumref_ValueFault_12 (C : ak) (k_rostrumref_scoreAhead : K_rostrumref_scoreAhead C) (k_rostrumref_memberAt : K_rostrumref_memberAt C) (p0 : GValue) (p1 : Int) (o : Int ⊕ (Unit ⊕ Unit)) (hF : st_rostrumref_ValueFault_12 p0 p1 = some o) : evW TT C.wide n30 b30 12 (hd_rostrumref_ValueFault_12 p0 p1) = Sum.elim (fun s => evW TT C.wide n30 b30 12 (hd_rostrumref_ValueFault_12 p0 s)) (fun r => ou_rostrumref_ValueFault_12 p0 r) o := by
  unfold st_rostrumref_ValueFault_12 at hF
  try dsimp only at hF
  rw [ct TT n30 fl30_12]
  refine aT (decide (p1 < (p0.fScores.length : Int))) ?_ ?_
  focus
    intro h1
    replace hF := ar h1 hF
    have hR := Option.some.inj hF
    clear hF
    subst hR
  rotate_left 1
  intro h1
  replace hF := aq h1 hF
  revert hF
  cases h2 : idx p0.fScores (IntKind.i64.wrap (p1 - 1))
  focus
    intro hF
    cases hF
  rename_i x1
  intro hF
  try dsimp only at hF
  have g1 : decide (0 ≤ (IntKind.i64.wrap (p1 - 1))) = true := (cc h2).1
  have g2 : (ab GScore.row p0.fScores)[((IntKind.i64.wrap (p1 - 1)) : Int).toNat]? = some [.s x1.fMember, .i .i64 x1.fN] := ca _ h2
  revert hF
  cases h3 : idx p0.fScores p1
  focus
    intro hF
    cases hF
  rename_i x2
  intro hF
  try dsimp only at hF
  have g3 : decide (0 ≤ p1) = true := (cc h3).1
  have g4 : (ab GScore.row p0.fScores)[(p1 : Int).toNat]? = some [.s x2.fMember, .i .i64 x2.fN] := ca _ h3
  have g5 : C.wide 83 [.agg [.v (.s x1.fMember), .v (.i .i64 x1.fN)], .agg [.v (.s x2.fMember), .v (.i .i64 x2.fN)]] [] = some (.v (.b (rostrumref_scoreAhead_v x1 x2)), []) := k_rostrumref_scoreAhead x1 x2 _ (rostrumref_scoreAhead_t x1 x2)
  refine aT (rostrumref_scoreAhead_v x1 x2) ?_ ?_
  focus
    intro h4
    replace hF := ar h4 hF
    have hR := Option.some.inj hF
    clear hF
    subst hR
  rotate_left 1
  intro h4
  replace hF := aq h4 hF
  refine aT (rngB 0 p1 (p0.fScores.length : Int)) ?_ ?_
  focus
    intro h5
    replace hF := ar h5 hF
    cases hF
  intro h5
  replace hF := aq h5 hF
  revert hF
  cases h6 : rostrumref_memberAt (cI p0.fScores 0 p1) x2.fMember
  focus
    intro hF
    cases hF
  rename_i x3
  intro hF
  try dsimp only at hF
  have g6 : C.wide 84 [.v (.sl 2 (ab GScore.row (cI p0.fScores 0 p1))), .v (.s x2.fMember)] [] = some (.v (.i .i64 x3), []) := k_rostrumref_memberAt (cI p0.fScores 0 p1) x2.fMember _ h6
  refine aG (decide (0 ≤ x3)) ?_ ?_
  focus
    intro h7
    replace hF := aq h7 hF
    have hR := Option.some.inj hF
    clear hF
    subst hR
  rotate_left 1
  intro h7
  replace hF := ar h7 hF
  have hR := Option.some.inj hF
  clear hF
  subst hR
  all_goals (show cD _ _ _ (aH _ _ _ _ (Code.seq _ _) _) = _; simp (maxSteps := 4000000) only [*, hd_rostrumref_ValueFault_12, ou_rostrumref_ValueFault_12, res30, n30a14t, n30a14f, n30a72t, n30a72f, n30a87t, n30a87f, n30a92t, n30a92f, n30a101t, n30a101f, n30a106t, n30a106f, n30a126t, n30a126f, n30a131t, n30a131f, n30a141t, n30a141f, n30a145t, n30a145f, n30a150t, n30a150f, n30a160t, n30a160f, n30a165t, n30a165f, n30a181t, n30a181f, n30a191t, n30a191f, n30a205t, n30a205f, n30a210t, n30a210f, n30a239t, n30a239f, n30k0, n30k1, n30k2, n30k3, n30k4, n30k5, n30k6, n30k7, n30k8, n30k9, n30k10, n30k11, n30k12, n30k13, n30k14, n30k15, n30k16, n30k17, n30k18, n30k19, n30k20, n30k21, n30k22, n30k23, n30k24, n30k25, n30k26, n30k27, n30k28, n30k29, n30k30, n30k31, n30k32, n30k33, n30k34, n30k35, n30k36, n30k37, n30k38, n30k39, n30k40, n30k41, n30k42, n30k43, n30k44, n30k45, n30f33, n30f38, n30f43, n30ro, n30mv, n30gv, ↓RP, RB, ↓ah, ↓ac, ↓af, ↓ad, ↓ae, enter, aW, aC, aZ, be, aM, Mx.bw, opnd, Mx.bF, Nat.reduceBEq, bK, Mx.fit, bI, bY, toVs, cellsOf, toV, aO, aB, ax, Mx.put, ofConst, ofCell, Mx.prune, killB, killBs, aK, putDst, au, ao, aD, loadAt, bM, List.map, Nat.reduceAdd, Nat.reduceMul, cm, cn, aF, eqC, cg, aN, reduceIte, reduceCtorEq, az, bn, bq, co, bN, bD, aL, bx, lowC, lowP, forceAll, bound, bW, bg, bv, aU, br, kill, spendLoc, spendOk, setOwn, dropAl, dropAls, bG, bP, bd, cb, lend, lendA, aS, ay, bU, bL, bare, bQ, frz, bZ, bo, argE, argsE, bB, bT, fill, setCells, bR, takeParts, bp, aR, ownAt, Nat.reduceBNe, Nat.reduceSub, Nat.reduceLT, Nat.reduceLeDiff, lowA, bi, bJ, av, aJ, aX, bX, bO, bE, bS, ce, bV, bk, aI, bh, bj, bf, cd, Op.operands, Int.reduceBEq, Int.reduceLT, Int.reduceLE, Int.reduceNeg, Int.reduceBNe, bl, newB, ch, ck, cj, bne, ↓aj, ↓ai, bc, aP, bm, bu, aE, bH, Call.operands, ty3, ty4, ty9, ty25, ty49, ty50, ty51, ty53, ty101, ty105, ↓aa _ _ _ _ 0, ↓aa _ _ _ _ 1, ↓aa _ _ _ _ 2, ↓aa _ _ _ _ 3, ↓bC _ _ _ _ 4, ↓aa _ _ _ _ 5, ↓bC _ _ _ _ 6, ↓aa _ _ _ _ 7, ↓aa _ _ _ _ 8, ↓aa _ _ _ _ 9, ↓aa _ _ _ _ 11, ↓aa _ _ _ _ 12, ↓aa _ _ _ _ 10, ↓aa _ _ _ _ 13, ↓aa _ _ _ _ 14, ↓aa _ _ _ _ 16, ↓aa _ _ _ _ 17, ↓aa _ _ _ _ 15, ↓aa _ _ _ _ 18, ↓aa _ _ _ _ 19, ↓aa _ _ _ _ 21, ↓aa _ _ _ _ 22, ↓aa _ _ _ _ 20, ↓aa _ _ _ _ 23, ↓aa _ _ _ _ 24, ↓aa _ _ _ _ 25, ↓aa _ _ _ _ 26, ↓aa _ _ _ _ 28, ↓aa _ _ _ _ 29, ↓aa _ _ _ _ 27, ↓aa _ _ _ _ 30, ↓aa _ _ _ _ 31, ↓am _ _ _ _ 33, ↓aa _ _ _ _ 34, ↓aa _ _ _ _ 32, ↓aa _ _ _ _ 35, ↓aa _ _ _ _ 36, ↓am _ _ _ _ 38, ↓aa _ _ _ _ 39, ↓aa _ _ _ _ 37, ↓aa _ _ _ _ 40, ↓aa _ _ _ _ 41, ↓am _ _ _ _ 43, ↓aa _ _ _ _ 44, ↓aa _ _ _ _ 42, ↓aa _ _ _ _ 45])
set_option maxRecDepth 100000 in
set_option maxHeartbeats 40000000 in
theorem rg_rostrumref_ValueFault_k4v2 (C : ak)  (p0 : GValue) (p1 : Bool) (c : Code) (ho : cr 0 4 b30 = some c) (r : Bool) (hF : ck_rostrumref_ValueFault_k4v2 p0 p1 = some r) : aH TT C.wide (evW TT C.wide n30 b30) n30 c ⟨[(1, .rp [.i .i64 p0.fKind, .s p0.fText, .i .i64 p0.fCount, .sl 2 (ab GPair.row p0.fPairs), .sl 1 (ab aY p0.fItems), .sl 2 (ab GScore.row p0.fScores)]), (3, .v (.b p1))], []⟩ = some (.normal, ⟨[(1, .rp [.i .i64 p0.fKind, .s p0.fText, .i .i64 p0.fCount, .sl 2 (ab GPair.row p0.fPairs), .sl 1 (ab aY p0.fItems), .sl 2 (ab GScore.row p0.fScores)]), (72, .v (.b r))], []⟩) := by
  have e := Option.some.inj (ho.symm.trans (rfl : cr 0 4 b30 = some _))
  subst e
  clear ho
  unfold ck_rostrumref_ValueFault_k4v2 at hF
  refine aG (p0.fKind == 1) ?_ ?_
  focus
    intro h1
    replace hF := aq h1 hF
    refine aG (p0.fKind == 2) ?_ ?_
    focus
      intro h2
      replace hF := aq h2 hF
      refine aG (p0.fKind == 3) ?_ ?_
      focus
        intro h3
        replace hF := aq h3 hF
        refine aG p1 ?_ ?_
        focus
          intro h4
          replace hF := aq h4 hF
          refine aG (p0.fKind == 6) ?_ ?_
          focus
            intro h5
            replace hF := aq h5 hF
            have hR := Option.some.inj hF
            clear hF
            subst hR
          rotate_left 1
          intro h5
          replace hF := ar h5 hF
          have hR := Option.some.inj hF
          clear hF
          subst hR
        rotate_left 2
        intro h4
        replace hF := ar h4 hF
        refine aG (decide (0 < (p0.fItems.length : Int))) ?_ ?_
        focus
          intro h5
          replace hF := aq h5 hF
          have hR := Option.some.inj hF
          clear hF
          subst hR
        rotate_left 1
        intro h5
        replace hF := ar h5 hF
        refine aG (p0.fKind == 6) ?_ ?_
        focus
          intro h6
          replace hF := aq h6 hF
          have hR := Option.some.inj hF
          clear hF
          subst hR
        rotate_left 1
        intro h6
        replace hF := ar h6 hF
        have hR := Option.some.inj hF
        clear hF
        subst hR
      rotate_left 5
      intro h3
      replace hF := ar h3 hF
      unfold ck_rostrumref_ValueFault_k4v2_c0 at hF
      refine aG (decide (0 < (p0.fPairs.length : Int))) ?_ ?_
      focus
        intro h4
        replace hF := aq h4 hF
        have hR := Option.some.inj hF
        clear hF
        subst hR
      rotate_left 1
      intro h4
      replace hF := ar h4 hF
      refine aG p1 ?_ ?_
      focus
        intro h5
        replace hF := aq h5 hF
        refine aG (p0.fKind == 6) ?_ ?_
        focus
          intro h6
          replace hF := aq h6 hF
          have hR := Option.some.inj hF
          clear hF
          subst hR
        rotate_left 1
        intro h6
        replace hF := ar h6 hF
        have hR := Option.some.inj hF
        clear hF
        subst hR
      rotate_left 2
      intro h5
      replace hF := ar h5 hF
      refine aG (decide (0 < (p0.fItems.length : Int))) ?_ ?_
      focus
        intro h6
        replace hF := aq h6 hF
        have hR := Option.some.inj hF
        clear hF
        subst hR
      rotate_left 1
      intro h6
      replace hF := ar h6 hF
      refine aG (p0.fKind == 6) ?_ ?_
      focus
        intro h7
        replace hF := aq h7 hF
        have hR := Option.some.inj hF
        clear hF
        subst hR
      rotate_left 1
      intro h7
      replace hF := ar h7 hF
      have hR := Option.some.inj hF
      clear hF
      subst hR
    rotate_left 11
    intro h2
    replace hF := ar h2 hF
    unfold ck_rostrumref_ValueFault_k4v2_c2 at hF
    refine aT (p0.fCount == 0) ?_ ?_
    focus
      intro h3
      replace hF := ar h3 hF
      have hR := Option.some.inj hF
      clear hF
      subst hR
    rotate_left 1
    intro h3
    replace hF := aq h3 hF
    refine aG (p0.fKind == 3) ?_ ?_
    focus
      intro h4
      replace hF := aq h4 hF
      refine aG p1 ?_ ?_
      focus
        intro h5
        replace hF := aq h5 hF
        refine aG (p0.fKind == 6) ?_ ?_
        focus
          intro h6
          replace hF := aq h6 hF
          have hR := Option.some.inj hF
          clear hF
          subst hR
        rotate_left 1
        intro h6
        replace hF := ar h6 hF
        have hR := Option.some.inj hF
        clear hF
        subst hR
      rotate_left 2
      intro h5
      replace hF := ar h5 hF
      refine aG (decide (0 < (p0.fItems.length : Int))) ?_ ?_
      focus
        intro h6
        replace hF := aq h6 hF
        have hR := Option.some.inj hF
        clear hF
        subst hR
      rotate_left 1
      intro h6
      replace hF := ar h6 hF
      refine aG (p0.fKind == 6) ?_ ?_
      focus
        intro h7
        replace hF := aq h7 hF
        have hR := Option.some.inj hF
        clear hF
        subst hR
      rotate_left 1
      intro h7
      replace hF := ar h7 hF
      have hR := Option.some.inj hF
      clear hF
      subst hR
    rotate_left 5
    intro h4
    replace hF := ar h4 hF
    unfold ck_rostrumref_ValueFault_k4v2_c1 at hF
    refine aG (decide (0 < (p0.fPairs.length : Int))) ?_ ?_
    focus
      intro h5
      replace hF := aq h5 hF
      have hR := Option.some.inj hF
      clear hF
      subst hR
    rotate_left 1
    intro h5
    replace hF := ar h5 hF
    refine aG p1 ?_ ?_
    focus
      intro h6
      replace hF := aq h6 hF
      refine aG (p0.fKind == 6) ?_ ?_
      focus
        intro h7
        replace hF := aq h7 hF
        have hR := Option.some.inj hF
        clear hF
        subst hR
      rotate_left 1
      intro h7
      replace hF := ar h7 hF
      have hR := Option.some.inj hF
      clear hF
      subst hR
    rotate_left 2
    intro h6
    replace hF := ar h6 hF
    refine aG (decide (0 < (p0.fItems.length : Int))) ?_ ?_
    focus
      intro h7
      replace hF := aq h7 hF
      have hR := Option.some.inj hF
      clear hF
      subst hR
    rotate_left 1
    intro h7
    replace hF := ar h7 hF
    refine aG (p0.fKind == 6) ?_ ?_
    focus
      intro h8
      replace hF := aq h8 hF
      have hR := Option.some.inj hF
      clear hF
      subst hR
    rotate_left 1
    intro h8
    replace hF := ar h8 hF
    have hR := Option.some.inj hF
    clear hF
    subst hR
  rotate_left 23
  intro h1
  replace hF := ar h1 hF
  unfold ck_rostrumref_ValueFault_k4v2_c6 at hF
  refine aT (cJ p0.fText ByteArray.empty) ?_ ?_
  focus
    intro h2
    replace hF := ar h2 hF
    have hR := Option.some.inj hF
    clear hF
    subst hR
  rotate_left 1
  intro h2
  replace hF := aq h2 hF
  refine aG (p0.fKind == 2) ?_ ?_
  focus
    intro h3
    replace hF := aq h3 hF
    refine aG (p0.fKind == 3) ?_ ?_
    focus
      intro h4
      replace hF := aq h4 hF
      refine aG p1 ?_ ?_
      focus
        intro h5
        replace hF := aq h5 hF
        refine aG (p0.fKind == 6) ?_ ?_
        focus
          intro h6
          replace hF := aq h6 hF
          have hR := Option.some.inj hF
          clear hF
          subst hR
        rotate_left 1
        intro h6
        replace hF := ar h6 hF
        have hR := Option.some.inj hF
        clear hF
        subst hR
      rotate_left 2
      intro h5
      replace hF := ar h5 hF
      refine aG (decide (0 < (p0.fItems.length : Int))) ?_ ?_
      focus
        intro h6
        replace hF := aq h6 hF
        have hR := Option.some.inj hF
        clear hF
        subst hR
      rotate_left 1
      intro h6
      replace hF := ar h6 hF
      refine aG (p0.fKind == 6) ?_ ?_
      focus
        intro h7
        replace hF := aq h7 hF
        have hR := Option.some.inj hF
        clear hF
        subst hR
      rotate_left 1
      intro h7
      replace hF := ar h7 hF
      have hR := Option.some.inj hF
      clear hF
      subst hR
    rotate_left 5
    intro h4
    replace hF := ar h4 hF
    unfold ck_rostrumref_ValueFault_k4v2_c3 at hF
    refine aG (decide (0 < (p0.fPairs.length : Int))) ?_ ?_
    focus
      intro h5
      replace hF := aq h5 hF
      have hR := Option.some.inj hF
      clear hF
      subst hR
    rotate_left 1
    intro h5
    replace hF := ar h5 hF
    refine aG p1 ?_ ?_
    focus
      intro h6
      replace hF := aq h6 hF
      refine aG (p0.fKind == 6) ?_ ?_
      focus
        intro h7
        replace hF := aq h7 hF
        have hR := Option.some.inj hF
        clear hF
        subst hR
      rotate_left 1
      intro h7
      replace hF := ar h7 hF
      have hR := Option.some.inj hF
      clear hF
      subst hR
    rotate_left 2
    intro h6
    replace hF := ar h6 hF
    refine aG (decide (0 < (p0.fItems.length : Int))) ?_ ?_
    focus
      intro h7
      replace hF := aq h7 hF
      have hR := Option.some.inj hF
      clear hF
      subst hR
    rotate_left 1
    intro h7
    replace hF := ar h7 hF
    refine aG (p0.fKind == 6) ?_ ?_
    focus
      intro h8
      replace hF := aq h8 hF
      have hR := Option.some.inj hF
      clear hF
      subst hR
    rotate_left 1
    intro h8
    replace hF := ar h8 hF
    have hR := Option.some.inj hF
    clear hF
    subst hR
  rotate_left 11
  intro h3
  replace hF := ar h3 hF
  unfold ck_rostrumref_ValueFault_k4v2_c5 at hF
  refine aT (p0.fCount == 0) ?_ ?_
  focus
    intro h4
    replace hF := ar h4 hF
    have hR := Option.some.inj hF
    clear hF
    subst hR
  rotate_left 1
  intro h4
  replace hF := aq h4 hF
  refine aG (p0.fKind == 3) ?_ ?_
  focus
    intro h5
    replace hF := aq h5 hF
    refine aG p1 ?_ ?_
    focus
      intro h6
      replace hF := aq h6 hF
      refine aG (p0.fKind == 6) ?_ ?_
      focus
        intro h7
        replace hF := aq h7 hF
        have hR := Option.some.inj hF
        clear hF
        subst hR
      rotate_left 1
      intro h7
      replace hF := ar h7 hF
      have hR := Option.some.inj hF
      clear hF
      subst hR
    rotate_left 2
    intro h6
    replace hF := ar h6 hF
    refine aG (decide (0 < (p0.fItems.length : Int))) ?_ ?_
    focus
      intro h7
      replace hF := aq h7 hF
      have hR := Option.some.inj hF
      clear hF
      subst hR
    rotate_left 1
    intro h7
    replace hF := ar h7 hF
    refine aG (p0.fKind == 6) ?_ ?_
    focus
      intro h8
      replace hF := aq h8 hF
      have hR := Option.some.inj hF
      clear hF
      subst hR
    rotate_left 1
    intro h8
    replace hF := ar h8 hF
    have hR := Option.some.inj hF
    clear hF
    subst hR
  rotate_left 5
  intro h5
  replace hF := ar h5 hF
  unfold ck_rostrumref_ValueFault_k4v2_c4 at hF
  refine aG (decide (0 < (p0.fPairs.length : Int))) ?_ ?_
  focus
    intro h6
    replace hF := aq h6 hF
    have hR := Option.some.inj hF
    clear hF
    subst hR
  rotate_left 1
  intro h6
  replace hF := ar h6 hF
  refine aG p1 ?_ ?_
  focus
    intro h7
    replace hF := aq h7 hF
    refine aG (p0.fKind == 6) ?_ ?_
    focus
      intro h8
      replace hF := aq h8 hF
      have hR := Option.some.inj hF
      clear hF
      subst hR
    rotate_left 1
    intro h8
    replace hF := ar h8 hF
    have hR := Option.some.inj hF
    clear hF
    subst hR
  rotate_left 2
  intro h7
  replace hF := ar h7 hF
  refine aG (decide (0 < (p0.fItems.length : Int))) ?_ ?_
  focus
    intro h8
    replace hF := aq h8 hF
    have hR := Option.some.inj hF
    clear hF
    subst hR
  rotate_left 1
  intro h8
  replace hF := ar h8 hF
  refine aG (p0.fKind == 6) ?_ ?_
  focus
    intro h9
    replace hF := aq h9 hF
    have hR := Option.some.inj hF
    clear hF
    subst hR
  rotate_left 1
  intro h9
  replace hF := ar h9 hF
  have hR := Option.some.inj hF
  clear hF
  subst hR
  all_goals (simp (maxSteps := 4000000) only [*, res30, n30a14t, n30a14f, n30a72t, n30a72f, n30a87t, n30a87f, n30a92t, n30a92f, n30a101t, n30a101f, n30a106t, n30a106f, n30a126t, n30a126f, n30a131t, n30a131f, n30a141t, n30a141f, n30a145t, n30a145f, n30a150t, n30a150f, n30a160t, n30a160f, n30a165t, n30a165f, n30a181t, n30a181f, n30a191t, n30a191f, n30a205t, n30a205f, n30a210t, n30a210f, n30a239t, n30a239f, n30k0, n30k1, n30k2, n30k3, n30k4, n30k5, n30k6, n30k7, n30k8, n30k9, n30k10, n30k11, n30k12, n30k13, n30k14, n30k15, n30k16, n30k17, n30k18, n30k19, n30k20, n30k21, n30k22, n30k23, n30k24, n30k25, n30k26, n30k27, n30k28, n30k29, n30k30, n30k31, n30k32, n30k33, n30k34, n30k35, n30k36, n30k37, n30k38, n30k39, n30k40, n30k41, n30k42, n30k43, n30k44, n30k45, n30f33, n30f38, n30f43, n30ro, n30mv, n30gv, ↓RP, RB, ↓ah, ↓ac, ↓af, ↓ad, ↓ae, enter, aW, aC, aZ, be, aM, Mx.bw, opnd, Mx.bF, Nat.reduceBEq, bK, Mx.fit, bI, bY, toVs, cellsOf, toV, aO, aB, ax, Mx.put, ofConst, ofCell, Mx.prune, killB, killBs, aK, putDst, au, ao, aD, loadAt, bM, List.map, Nat.reduceAdd, Nat.reduceMul, cm, cn, aF, eqC, cg, aN, reduceIte, reduceCtorEq, az, bn, bq, co, bN, bD, aL, bx, lowC, lowP, forceAll, bound, bW, bg, bv, aU, br, kill, spendLoc, spendOk, setOwn, dropAl, dropAls, bG, bP, bd, cb, lend, lendA, aS, ay, bU, bL, bare, bQ, frz, bZ, bo, argE, argsE, bB, bT, fill, setCells, bR, takeParts, bp, aR, ownAt, Nat.reduceBNe, Nat.reduceSub, Nat.reduceLT, Nat.reduceLeDiff, lowA, bi, bJ, av, aJ, aX, bX, bO, bE, bS, ce, bV, bk, aI, bh, bj, bf, cd, Op.operands, Int.reduceBEq, Int.reduceLT, Int.reduceLE, Int.reduceNeg, Int.reduceBNe, bl, newB, ch, ck, cj, bne, ↓aj, ↓ai, bc, aP, bm, bu, aE, bH, Call.operands, ty3, ty4, ty9, ty25, ty49, ty50, ty51, ty53, ty101, ty105, ↓aa _ _ _ _ 4])
set_option maxRecDepth 100000 in
set_option maxHeartbeats 40000000 in
theorem r_rostrumref_ValueFault (C : ak) (k_rostrumref_In : K_rostrumref_In C) (k_rostrumref_sizeOf : K_rostrumref_sizeOf C) (k_rostrumref_textMay : K_rostrumref_textMay C) (k_rostrumref_countMay : K_rostrumref_countMay C) (k_rostrumref_fieldMay : K_rostrumref_fieldMay C) (k_rostrumref_scoreAhead : K_rostrumref_scoreAhead C) (k_rostrumref_memberAt : K_rostrumref_memberAt C) (p0 : GValue) (r : Int) (hF : rostrumref_ValueFault p0 = some r) : cF TT C.wide (evW TT C.wide n30 b30) n30 Try.f30.results.toList (aQ Try.f30) [.agg [.v (.i .i64 p0.fKind), .v (.s p0.fText), .v (.i .i64 p0.fCount), .v (.sl 2 (ab GPair.row p0.fPairs)), .v (.sl 1 (ab aY p0.fItems)), .v (.sl 2 (ab GScore.row p0.fScores))]] [] = some (.v (.i .i64 r), []) := by
  unfold rostrumref_ValueFault at hF
  have g1 : C.wide 55 [.v (.i .i64 p0.fKind), .v (.i .i64 1), .v (.i .i64 6)] [] = some (.v (.b (rostrumref_In_v p0.fKind 1 6)), []) := k_rostrumref_In p0.fKind 1 6 _ (rostrumref_In_t p0.fKind 1 6)
  have g2 : rostrumref_In_v p0.fKind 1 6 = (decide (1 ≤ p0.fKind) && decide (p0.fKind ≤ 6)) := by first | rfl | (simp [rostrumref_In_v]; done) | (simp only [rostrumref_In_v]; decide)
  refine aT (decide (1 ≤ p0.fKind)) ?_ ?_
  focus
    intro h1
    replace hF := ar h1 hF
    have hR := Option.some.inj hF
    clear hF
    subst hR
  rotate_left 1
  intro h1
  replace hF := aq h1 hF
  refine aT (decide (p0.fKind ≤ 6)) ?_ ?_
  focus
    intro h2
    replace hF := ar h2 hF
    have hR := Option.some.inj hF
    clear hF
    subst hR
  rotate_left 1
  intro h2
  replace hF := aq h2 hF
  refine aG (p0.fKind == 4) ?_ ?_
  focus
    intro h3
    replace hF := aq h3 hF
    unfold rostrumref_ValueFault_c12 at hF
    have g3 : @cR TT C.wide (evW TT C.wide n30 b30) n30 0 4 ⟨[(1, .rp [.i .i64 p0.fKind, .s p0.fText, .i .i64 p0.fCount, .sl 2 (ab GPair.row p0.fPairs), .sl 1 (ab aY p0.fItems), .sl 2 (ab GScore.row p0.fScores)]), (3, .v (.b true))], []⟩ ⟨_⟩ = some (.normal, ⟨[(1, .rp [.i .i64 p0.fKind, .s p0.fText, .i .i64 p0.fCount, .sl 2 (ab GPair.row p0.fPairs), .sl 1 (ab aY p0.fItems), .sl 2 (ab GScore.row p0.fScores)]), (72, .v (.b (ck_rostrumref_ValueFault_k4_v p0)))], []⟩) := rg_rostrumref_ValueFault_k4 C p0 _ rfl (ck_rostrumref_ValueFault_k4_v p0) (ck_rostrumref_ValueFault_k4_t p0)
    refine aG (ck_rostrumref_ValueFault_k4_v p0) ?_ ?_
    focus
      intro h4
      replace hF := aq h4 hF
      have hR := Option.some.inj hF
      clear hF
      subst hR
    rotate_left 1
    intro h4
    replace hF := ar h4 hF
    have g4 : @cR TT C.wide (evW TT C.wide n30 b30) n30 0 6 ⟨[(1, .rp [.i .i64 p0.fKind, .s p0.fText, .i .i64 p0.fCount, .sl 2 (ab GPair.row p0.fPairs), .sl 1 (ab aY p0.fItems), .sl 2 (ab GScore.row p0.fScores)])], []⟩ ⟨_⟩ = some (.normal, ⟨[(1, .rp [.i .i64 p0.fKind, .s p0.fText, .i .i64 p0.fCount, .sl 2 (ab GPair.row p0.fPairs), .sl 1 (ab aY p0.fItems), .sl 2 (ab GScore.row p0.fScores)]), (87, .v (.b (ck_rostrumref_ValueFault_k6_v p0)))], []⟩) := rg_rostrumref_ValueFault_k6 C k_rostrumref_sizeOf k_rostrumref_In k_rostrumref_textMay p0 _ rfl (ck_rostrumref_ValueFault_k6_v p0) (ck_rostrumref_ValueFault_k6_t p0)
    refine aG (ck_rostrumref_ValueFault_k6_v p0) ?_ ?_
    focus
      intro h5
      replace hF := aq h5 hF
      have hR := Option.some.inj hF
      clear hF
      subst hR
    rotate_left 1
    intro h5
    replace hF := ar h5 hF
    revert hF
    cases h6 : ci (st_rostrumref_ValueFault_0 p0) 0
    focus
      intro hF
      cases hF
    rename_i qh6
    cases qh6
    focus
      rename_i z0h6
      intro hF
      try dsimp only at hF
      have g5 : evW TT C.wide n30 b30 0 ⟨[(1, .rp [.i .i64 p0.fKind, .s p0.fText, .i .i64 p0.fCount, .sl 2 (ab GPair.row p0.fPairs), .sl 1 (ab aY p0.fItems), .sl 2 (ab GScore.row p0.fScores)]), (4, .v (.i .i64 0))], []⟩ = some (.ret, ⟨[(2, .v (.i .i64 1))], []⟩) := cy (hd_rostrumref_ValueFault_0 p0) (ou_rostrumref_ValueFault_0 p0) (fun s o hs => sl_rostrumref_ValueFault_0 C k_rostrumref_textMay p0 s o hs) h6
      have hR := Option.some.inj hF
      clear hF
      subst hR
    rotate_left 1
    rename_i y0h6
    intro hF
    try dsimp only at hF
    unfold rostrumref_ValueFault_c5 at hF
    have g6 : evW TT C.wide n30 b30 0 ⟨[(1, .rp [.i .i64 p0.fKind, .s p0.fText, .i .i64 p0.fCount, .sl 2 (ab GPair.row p0.fPairs), .sl 1 (ab aY p0.fItems), .sl 2 (ab GScore.row p0.fScores)]), (4, .v (.i .i64 0))], []⟩ = some (.normal, ⟨[(1, .rp [.i .i64 p0.fKind, .s p0.fText, .i .i64 p0.fCount, .sl 2 (ab GPair.row p0.fPairs), .sl 1 (ab aY p0.fItems), .sl 2 (ab GScore.row p0.fScores)])], []⟩) := cy (hd_rostrumref_ValueFault_0 p0) (ou_rostrumref_ValueFault_0 p0) (fun s o hs => sl_rostrumref_ValueFault_0 C k_rostrumref_textMay p0 s o hs) h6
    revert hF
    cases h7 : ci (st_rostrumref_ValueFault_2 p0) 0
    focus
      intro hF
      cases hF
    rename_i qh7
    cases qh7
    focus
      rename_i z0h7
      intro hF
      try dsimp only at hF
      have g7 : evW TT C.wide n30 b30 2 ⟨[(1, .rp [.i .i64 p0.fKind, .s p0.fText, .i .i64 p0.fCount, .sl 2 (ab GPair.row p0.fPairs), .sl 1 (ab aY p0.fItems), .sl 2 (ab GScore.row p0.fScores)]), (5, .v (.i .i64 0))], []⟩ = some (.ret, ⟨[(2, .v (.i .i64 1))], []⟩) := cy (hd_rostrumref_ValueFault_2 p0) (ou_rostrumref_ValueFault_2 p0) (fun s o hs => sl_rostrumref_ValueFault_2 C k_rostrumref_fieldMay k_rostrumref_textMay p0 s o hs) h7
      have hR := Option.some.inj hF
      clear hF
      subst hR
    rotate_left 1
    rename_i y0h7
    intro hF
    try dsimp only at hF
    unfold rostrumref_ValueFault_c4 at hF
    have g8 : evW TT C.wide n30 b30 2 ⟨[(1, .rp [.i .i64 p0.fKind, .s p0.fText, .i .i64 p0.fCount, .sl 2 (ab GPair.row p0.fPairs), .sl 1 (ab aY p0.fItems), .sl 2 (ab GScore.row p0.fScores)]), (5, .v (.i .i64 0))], []⟩ = some (.normal, ⟨[(1, .rp [.i .i64 p0.fKind, .s p0.fText, .i .i64 p0.fCount, .sl 2 (ab GPair.row p0.fPairs), .sl 1 (ab aY p0.fItems), .sl 2 (ab GScore.row p0.fScores)])], []⟩) := cy (hd_rostrumref_ValueFault_2 p0) (ou_rostrumref_ValueFault_2 p0) (fun s o hs => sl_rostrumref_ValueFault_2 C k_rostrumref_fieldMay k_rostrumref_textMay p0 s o hs) h7
    revert hF
    cases h8 : ci (st_rostrumref_ValueFault_4 p0) 0
    focus
      intro hF
      cases hF
    rename_i qh8
    cases qh8
    focus
      rename_i z0h8
      intro hF
      try dsimp only at hF
      have g9 : evW TT C.wide n30 b30 4 ⟨[(1, .rp [.i .i64 p0.fKind, .s p0.fText, .i .i64 p0.fCount, .sl 2 (ab GPair.row p0.fPairs), .sl 1 (ab aY p0.fItems), .sl 2 (ab GScore.row p0.fScores)]), (6, .v (.i .i64 0))], []⟩ = some (.ret, ⟨[(2, .v (.i .i64 1))], []⟩) := cy (hd_rostrumref_ValueFault_4 p0) (ou_rostrumref_ValueFault_4 p0) (fun s o hs => sl_rostrumref_ValueFault_4 C k_rostrumref_textMay p0 s o hs) h8
      have hR := Option.some.inj hF
      clear hF
      subst hR
    rotate_left 1
    rename_i y0h8
    intro hF
    try dsimp only at hF
    unfold rostrumref_ValueFault_c3 at hF
    have g10 : evW TT C.wide n30 b30 4 ⟨[(1, .rp [.i .i64 p0.fKind, .s p0.fText, .i .i64 p0.fCount, .sl 2 (ab GPair.row p0.fPairs), .sl 1 (ab aY p0.fItems), .sl 2 (ab GScore.row p0.fScores)]), (6, .v (.i .i64 0))], []⟩ = some (.normal, ⟨[(1, .rp [.i .i64 p0.fKind, .s p0.fText, .i .i64 p0.fCount, .sl 2 (ab GPair.row p0.fPairs), .sl 1 (ab aY p0.fItems), .sl 2 (ab GScore.row p0.fScores)])], []⟩) := cy (hd_rostrumref_ValueFault_4 p0) (ou_rostrumref_ValueFault_4 p0) (fun s o hs => sl_rostrumref_ValueFault_4 C k_rostrumref_textMay p0 s o hs) h8
    have g11 : C.wide 82 [.v (.i .i64 p0.fCount)] [] = some (.v (.b (rostrumref_countMay_v p0.fCount)), []) := k_rostrumref_countMay p0.fCount _ (rostrumref_countMay_t p0.fCount)
    refine aT (rostrumref_countMay_v p0.fCount) ?_ ?_
    focus
      intro h9
      replace hF := ar h9 hF
      have hR := Option.some.inj hF
      clear hF
      subst hR
    rotate_left 1
    intro h9
    replace hF := aq h9 hF
    revert hF
    cases h10 : ci (st_rostrumref_ValueFault_6 p0) 0
    focus
      intro hF
      cases hF
    rename_i qh10
    cases qh10
    focus
      rename_i z0h10
      intro hF
      try dsimp only at hF
      have g12 : evW TT C.wide n30 b30 6 ⟨[(1, .rp [.i .i64 p0.fKind, .s p0.fText, .i .i64 p0.fCount, .sl 2 (ab GPair.row p0.fPairs), .sl 1 (ab aY p0.fItems), .sl 2 (ab GScore.row p0.fScores)]), (7, .v (.i .i64 0))], []⟩ = some (.ret, ⟨[(2, .v (.i .i64 2))], []⟩) := cy (hd_rostrumref_ValueFault_6 p0) (ou_rostrumref_ValueFault_6 p0) (fun s o hs => sl_rostrumref_ValueFault_6 C k_rostrumref_countMay p0 s o hs) h10
      have hR := Option.some.inj hF
      clear hF
      subst hR
    rotate_left 1
    rename_i y0h10
    intro hF
    try dsimp only at hF
    unfold rostrumref_ValueFault_c2 at hF
    have g13 : evW TT C.wide n30 b30 6 ⟨[(1, .rp [.i .i64 p0.fKind, .s p0.fText, .i .i64 p0.fCount, .sl 2 (ab GPair.row p0.fPairs), .sl 1 (ab aY p0.fItems), .sl 2 (ab GScore.row p0.fScores)]), (7, .v (.i .i64 0))], []⟩ = some (.normal, ⟨[(1, .rp [.i .i64 p0.fKind, .s p0.fText, .i .i64 p0.fCount, .sl 2 (ab GPair.row p0.fPairs), .sl 1 (ab aY p0.fItems), .sl 2 (ab GScore.row p0.fScores)])], []⟩) := cy (hd_rostrumref_ValueFault_6 p0) (ou_rostrumref_ValueFault_6 p0) (fun s o hs => sl_rostrumref_ValueFault_6 C k_rostrumref_countMay p0 s o hs) h10
    revert hF
    cases h11 : ci (st_rostrumref_ValueFault_8 p0) 1
    focus
      intro hF
      cases hF
    rename_i qh11
    cases qh11
    focus
      rename_i z0h11
      intro hF
      try dsimp only at hF
      have g14 : evW TT C.wide n30 b30 8 ⟨[(1, .rp [.i .i64 p0.fKind, .s p0.fText, .i .i64 p0.fCount, .sl 2 (ab GPair.row p0.fPairs), .sl 1 (ab aY p0.fItems), .sl 2 (ab GScore.row p0.fScores)]), (8, .v (.i .i64 1))], []⟩ = some (.ret, ⟨[(2, .v (.i .i64 10))], []⟩) := cy (hd_rostrumref_ValueFault_8 p0) (ou_rostrumref_ValueFault_8 p0) (fun s o hs => sl_rostrumref_ValueFault_8 C p0 s o hs) h11
      have hR := Option.some.inj hF
      clear hF
      subst hR
    rotate_left 1
    rename_i y0h11
    intro hF
    try dsimp only at hF
    unfold rostrumref_ValueFault_c1 at hF
    have g15 : evW TT C.wide n30 b30 8 ⟨[(1, .rp [.i .i64 p0.fKind, .s p0.fText, .i .i64 p0.fCount, .sl 2 (ab GPair.row p0.fPairs), .sl 1 (ab aY p0.fItems), .sl 2 (ab GScore.row p0.fScores)]), (8, .v (.i .i64 1))], []⟩ = some (.normal, ⟨[(1, .rp [.i .i64 p0.fKind, .s p0.fText, .i .i64 p0.fCount, .sl 2 (ab GPair.row p0.fPairs), .sl 1 (ab aY p0.fItems), .sl 2 (ab GScore.row p0.fScores)])], []⟩) := cy (hd_rostrumref_ValueFault_8 p0) (ou_rostrumref_ValueFault_8 p0) (fun s o hs => sl_rostrumref_ValueFault_8 C p0 s o hs) h11
    revert hF
    cases h12 : ci (st_rostrumref_ValueFault_10 p0) 1
    focus
      intro hF
      cases hF
    rename_i qh12
    cases qh12
    focus
      rename_i z0h12
      intro hF
      try dsimp only at hF
      have g16 : evW TT C.wide n30 b30 10 ⟨[(1, .rp [.i .i64 p0.fKind, .s p0.fText, .i .i64 p0.fCount, .sl 2 (ab GPair.row p0.fPairs), .sl 1 (ab aY p0.fItems), .sl 2 (ab GScore.row p0.fScores)]), (9, .v (.i .i64 1))], []⟩ = some (.ret, ⟨[(2, .v (.i .i64 10))], []⟩) := cy (hd_rostrumref_ValueFault_10 p0) (ou_rostrumref_ValueFault_10 p0) (fun s o hs => sl_rostrumref_ValueFault_10 C p0 s o hs) h12
      have hR := Option.some.inj hF
      clear hF
      subst hR
    rotate_left 1
    rename_i y0h12
    intro hF
    try dsimp only at hF
    unfold rostrumref_ValueFault_c0 at hF
    have g17 : evW TT C.wide n30 b30 10 ⟨[(1, .rp [.i .i64 p0.fKind, .s p0.fText, .i .i64 p0.fCount, .sl 2 (ab GPair.row p0.fPairs), .sl 1 (ab aY p0.fItems), .sl 2 (ab GScore.row p0.fScores)]), (9, .v (.i .i64 1))], []⟩ = some (.normal, ⟨[(1, .rp [.i .i64 p0.fKind, .s p0.fText, .i .i64 p0.fCount, .sl 2 (ab GPair.row p0.fPairs), .sl 1 (ab aY p0.fItems), .sl 2 (ab GScore.row p0.fScores)])], []⟩) := cy (hd_rostrumref_ValueFault_10 p0) (ou_rostrumref_ValueFault_10 p0) (fun s o hs => sl_rostrumref_ValueFault_10 C p0 s o hs) h12
    revert hF
    cases h13 : ci (st_rostrumref_ValueFault_12 p0) 1
    focus
      intro hF
      cases hF
    rename_i qh13
    cases qh13
    focus
      rename_i z0h13
      intro hF
      try dsimp only at hF
      have g18 : evW TT C.wide n30 b30 12 ⟨[(1, .rp [.i .i64 p0.fKind, .s p0.fText, .i .i64 p0.fCount, .sl 2 (ab GPair.row p0.fPairs), .sl 1 (ab aY p0.fItems), .sl 2 (ab GScore.row p0.fScores)]), (10, .v (.i .i64 1))], []⟩ = some (.ret, ⟨[(2, .v (.i .i64 10))], []⟩) := cy (hd_rostrumref_ValueFault_12 p0) (ou_rostrumref_ValueFault_12 p0) (fun s o hs => sl_rostrumref_ValueFault_12 C k_rostrumref_scoreAhead k_rostrumref_memberAt p0 s o hs) h13
      have hR := Option.some.inj hF
      clear hF
      subst hR
    rotate_left 1
    rename_i y0h13
    intro hF
    try dsimp only at hF
    have g19 : evW TT C.wide n30 b30 12 ⟨[(1, .rp [.i .i64 p0.fKind, .s p0.fText, .i .i64 p0.fCount, .sl 2 (ab GPair.row p0.fPairs), .sl 1 (ab aY p0.fItems), .sl 2 (ab GScore.row p0.fScores)]), (10, .v (.i .i64 1))], []⟩ = some (.normal, ⟨[], []⟩) := cy (hd_rostrumref_ValueFault_12 p0) (ou_rostrumref_ValueFault_12 p0) (fun s o hs => sl_rostrumref_ValueFault_12 C k_rostrumref_scoreAhead k_rostrumref_memberAt p0 s o hs) h13
    have hR := Option.some.inj hF
    clear hF
    subst hR
  rotate_left 11
  intro h3
  replace hF := ar h3 hF
  have g20 : @cR TT C.wide (evW TT C.wide n30 b30) n30 0 4 ⟨[(1, .rp [.i .i64 p0.fKind, .s p0.fText, .i .i64 p0.fCount, .sl 2 (ab GPair.row p0.fPairs), .sl 1 (ab aY p0.fItems), .sl 2 (ab GScore.row p0.fScores)]), (3, .v (.b (p0.fKind == 5)))], []⟩ ⟨_⟩ = some (.normal, ⟨[(1, .rp [.i .i64 p0.fKind, .s p0.fText, .i .i64 p0.fCount, .sl 2 (ab GPair.row p0.fPairs), .sl 1 (ab aY p0.fItems), .sl 2 (ab GScore.row p0.fScores)]), (72, .v (.b (ck_rostrumref_ValueFault_k4v2_v p0 (p0.fKind == 5))))], []⟩) := rg_rostrumref_ValueFault_k4v2 C p0 (p0.fKind == 5) _ rfl (ck_rostrumref_ValueFault_k4v2_v p0 (p0.fKind == 5)) (ck_rostrumref_ValueFault_k4v2_t p0 (p0.fKind == 5))
  refine aG (ck_rostrumref_ValueFault_k4v2_v p0 (p0.fKind == 5)) ?_ ?_
  focus
    intro h4
    replace hF := aq h4 hF
    have hR := Option.some.inj hF
    clear hF
    subst hR
  rotate_left 1
  intro h4
  replace hF := ar h4 hF
  have g4 : @cR TT C.wide (evW TT C.wide n30 b30) n30 0 6 ⟨[(1, .rp [.i .i64 p0.fKind, .s p0.fText, .i .i64 p0.fCount, .sl 2 (ab GPair.row p0.fPairs), .sl 1 (ab aY p0.fItems), .sl 2 (ab GScore.row p0.fScores)])], []⟩ ⟨_⟩ = some (.normal, ⟨[(1, .rp [.i .i64 p0.fKind, .s p0.fText, .i .i64 p0.fCount, .sl 2 (ab GPair.row p0.fPairs), .sl 1 (ab aY p0.fItems), .sl 2 (ab GScore.row p0.fScores)]), (87, .v (.b (ck_rostrumref_ValueFault_k6_v p0)))], []⟩) := rg_rostrumref_ValueFault_k6 C k_rostrumref_sizeOf k_rostrumref_In k_rostrumref_textMay p0 _ rfl (ck_rostrumref_ValueFault_k6_v p0) (ck_rostrumref_ValueFault_k6_t p0)
  refine aG (ck_rostrumref_ValueFault_k6_v p0) ?_ ?_
  focus
    intro h5
    replace hF := aq h5 hF
    have hR := Option.some.inj hF
    clear hF
    subst hR
  rotate_left 1
  intro h5
  replace hF := ar h5 hF
  revert hF
  cases h6 : ci (st_rostrumref_ValueFault_0 p0) 0
  focus
    intro hF
    cases hF
  rename_i qh6
  cases qh6
  focus
    rename_i z0h6
    intro hF
    try dsimp only at hF
    have g5 : evW TT C.wide n30 b30 0 ⟨[(1, .rp [.i .i64 p0.fKind, .s p0.fText, .i .i64 p0.fCount, .sl 2 (ab GPair.row p0.fPairs), .sl 1 (ab aY p0.fItems), .sl 2 (ab GScore.row p0.fScores)]), (4, .v (.i .i64 0))], []⟩ = some (.ret, ⟨[(2, .v (.i .i64 1))], []⟩) := cy (hd_rostrumref_ValueFault_0 p0) (ou_rostrumref_ValueFault_0 p0) (fun s o hs => sl_rostrumref_ValueFault_0 C k_rostrumref_textMay p0 s o hs) h6
    have hR := Option.some.inj hF
    clear hF
    subst hR
  rotate_left 1
  rename_i y0h6
  intro hF
  try dsimp only at hF
  unfold rostrumref_ValueFault_c11 at hF
  have g6 : evW TT C.wide n30 b30 0 ⟨[(1, .rp [.i .i64 p0.fKind, .s p0.fText, .i .i64 p0.fCount, .sl 2 (ab GPair.row p0.fPairs), .sl 1 (ab aY p0.fItems), .sl 2 (ab GScore.row p0.fScores)]), (4, .v (.i .i64 0))], []⟩ = some (.normal, ⟨[(1, .rp [.i .i64 p0.fKind, .s p0.fText, .i .i64 p0.fCount, .sl 2 (ab GPair.row p0.fPairs), .sl 1 (ab aY p0.fItems), .sl 2 (ab GScore.row p0.fScores)])], []⟩) := cy (hd_rostrumref_ValueFault_0 p0) (ou_rostrumref_ValueFault_0 p0) (fun s o hs => sl_rostrumref_ValueFault_0 C k_rostrumref_textMay p0 s o hs) h6
  revert hF
  cases h7 : ci (st_rostrumref_ValueFault_2 p0) 0
  focus
    intro hF
    cases hF
  rename_i qh7
  cases qh7
  focus
    rename_i z0h7
    intro hF
    try dsimp only at hF
    have g7 : evW TT C.wide n30 b30 2 ⟨[(1, .rp [.i .i64 p0.fKind, .s p0.fText, .i .i64 p0.fCount, .sl 2 (ab GPair.row p0.fPairs), .sl 1 (ab aY p0.fItems), .sl 2 (ab GScore.row p0.fScores)]), (5, .v (.i .i64 0))], []⟩ = some (.ret, ⟨[(2, .v (.i .i64 1))], []⟩) := cy (hd_rostrumref_ValueFault_2 p0) (ou_rostrumref_ValueFault_2 p0) (fun s o hs => sl_rostrumref_ValueFault_2 C k_rostrumref_fieldMay k_rostrumref_textMay p0 s o hs) h7
    have hR := Option.some.inj hF
    clear hF
    subst hR
  rotate_left 1
  rename_i y0h7
  intro hF
  try dsimp only at hF
  unfold rostrumref_ValueFault_c10 at hF
  have g8 : evW TT C.wide n30 b30 2 ⟨[(1, .rp [.i .i64 p0.fKind, .s p0.fText, .i .i64 p0.fCount, .sl 2 (ab GPair.row p0.fPairs), .sl 1 (ab aY p0.fItems), .sl 2 (ab GScore.row p0.fScores)]), (5, .v (.i .i64 0))], []⟩ = some (.normal, ⟨[(1, .rp [.i .i64 p0.fKind, .s p0.fText, .i .i64 p0.fCount, .sl 2 (ab GPair.row p0.fPairs), .sl 1 (ab aY p0.fItems), .sl 2 (ab GScore.row p0.fScores)])], []⟩) := cy (hd_rostrumref_ValueFault_2 p0) (ou_rostrumref_ValueFault_2 p0) (fun s o hs => sl_rostrumref_ValueFault_2 C k_rostrumref_fieldMay k_rostrumref_textMay p0 s o hs) h7
  revert hF
  cases h8 : ci (st_rostrumref_ValueFault_4 p0) 0
  focus
    intro hF
    cases hF
  rename_i qh8
  cases qh8
  focus
    rename_i z0h8
    intro hF
    try dsimp only at hF
    have g9 : evW TT C.wide n30 b30 4 ⟨[(1, .rp [.i .i64 p0.fKind, .s p0.fText, .i .i64 p0.fCount, .sl 2 (ab GPair.row p0.fPairs), .sl 1 (ab aY p0.fItems), .sl 2 (ab GScore.row p0.fScores)]), (6, .v (.i .i64 0))], []⟩ = some (.ret, ⟨[(2, .v (.i .i64 1))], []⟩) := cy (hd_rostrumref_ValueFault_4 p0) (ou_rostrumref_ValueFault_4 p0) (fun s o hs => sl_rostrumref_ValueFault_4 C k_rostrumref_textMay p0 s o hs) h8
    have hR := Option.some.inj hF
    clear hF
    subst hR
  rotate_left 1
  rename_i y0h8
  intro hF
  try dsimp only at hF
  unfold rostrumref_ValueFault_c9 at hF
  have g10 : evW TT C.wide n30 b30 4 ⟨[(1, .rp [.i .i64 p0.fKind, .s p0.fText, .i .i64 p0.fCount, .sl 2 (ab GPair.row p0.fPairs), .sl 1 (ab aY p0.fItems), .sl 2 (ab GScore.row p0.fScores)]), (6, .v (.i .i64 0))], []⟩ = some (.normal, ⟨[(1, .rp [.i .i64 p0.fKind, .s p0.fText, .i .i64 p0.fCount, .sl 2 (ab GPair.row p0.fPairs), .sl 1 (ab aY p0.fItems), .sl 2 (ab GScore.row p0.fScores)])], []⟩) := cy (hd_rostrumref_ValueFault_4 p0) (ou_rostrumref_ValueFault_4 p0) (fun s o hs => sl_rostrumref_ValueFault_4 C k_rostrumref_textMay p0 s o hs) h8
  have g11 : C.wide 82 [.v (.i .i64 p0.fCount)] [] = some (.v (.b (rostrumref_countMay_v p0.fCount)), []) := k_rostrumref_countMay p0.fCount _ (rostrumref_countMay_t p0.fCount)
  refine aT (rostrumref_countMay_v p0.fCount) ?_ ?_
  focus
    intro h9
    replace hF := ar h9 hF
    have hR := Option.some.inj hF
    clear hF
    subst hR
  rotate_left 1
  intro h9
  replace hF := aq h9 hF
  revert hF
  cases h10 : ci (st_rostrumref_ValueFault_6 p0) 0
  focus
    intro hF
    cases hF
  rename_i qh10
  cases qh10
  focus
    rename_i z0h10
    intro hF
    try dsimp only at hF
    have g12 : evW TT C.wide n30 b30 6 ⟨[(1, .rp [.i .i64 p0.fKind, .s p0.fText, .i .i64 p0.fCount, .sl 2 (ab GPair.row p0.fPairs), .sl 1 (ab aY p0.fItems), .sl 2 (ab GScore.row p0.fScores)]), (7, .v (.i .i64 0))], []⟩ = some (.ret, ⟨[(2, .v (.i .i64 2))], []⟩) := cy (hd_rostrumref_ValueFault_6 p0) (ou_rostrumref_ValueFault_6 p0) (fun s o hs => sl_rostrumref_ValueFault_6 C k_rostrumref_countMay p0 s o hs) h10
    have hR := Option.some.inj hF
    clear hF
    subst hR
  rotate_left 1
  rename_i y0h10
  intro hF
  try dsimp only at hF
  unfold rostrumref_ValueFault_c8 at hF
  have g13 : evW TT C.wide n30 b30 6 ⟨[(1, .rp [.i .i64 p0.fKind, .s p0.fText, .i .i64 p0.fCount, .sl 2 (ab GPair.row p0.fPairs), .sl 1 (ab aY p0.fItems), .sl 2 (ab GScore.row p0.fScores)]), (7, .v (.i .i64 0))], []⟩ = some (.normal, ⟨[(1, .rp [.i .i64 p0.fKind, .s p0.fText, .i .i64 p0.fCount, .sl 2 (ab GPair.row p0.fPairs), .sl 1 (ab aY p0.fItems), .sl 2 (ab GScore.row p0.fScores)])], []⟩) := cy (hd_rostrumref_ValueFault_6 p0) (ou_rostrumref_ValueFault_6 p0) (fun s o hs => sl_rostrumref_ValueFault_6 C k_rostrumref_countMay p0 s o hs) h10
  revert hF
  cases h11 : ci (st_rostrumref_ValueFault_8 p0) 1
  focus
    intro hF
    cases hF
  rename_i qh11
  cases qh11
  focus
    rename_i z0h11
    intro hF
    try dsimp only at hF
    have g14 : evW TT C.wide n30 b30 8 ⟨[(1, .rp [.i .i64 p0.fKind, .s p0.fText, .i .i64 p0.fCount, .sl 2 (ab GPair.row p0.fPairs), .sl 1 (ab aY p0.fItems), .sl 2 (ab GScore.row p0.fScores)]), (8, .v (.i .i64 1))], []⟩ = some (.ret, ⟨[(2, .v (.i .i64 10))], []⟩) := cy (hd_rostrumref_ValueFault_8 p0) (ou_rostrumref_ValueFault_8 p0) (fun s o hs => sl_rostrumref_ValueFault_8 C p0 s o hs) h11
    have hR := Option.some.inj hF
    clear hF
    subst hR
  rotate_left 1
  rename_i y0h11
  intro hF
  try dsimp only at hF
  unfold rostrumref_ValueFault_c7 at hF
  have g15 : evW TT C.wide n30 b30 8 ⟨[(1, .rp [.i .i64 p0.fKind, .s p0.fText, .i .i64 p0.fCount, .sl 2 (ab GPair.row p0.fPairs), .sl 1 (ab aY p0.fItems), .sl 2 (ab GScore.row p0.fScores)]), (8, .v (.i .i64 1))], []⟩ = some (.normal, ⟨[(1, .rp [.i .i64 p0.fKind, .s p0.fText, .i .i64 p0.fCount, .sl 2 (ab GPair.row p0.fPairs), .sl 1 (ab aY p0.fItems), .sl 2 (ab GScore.row p0.fScores)])], []⟩) := cy (hd_rostrumref_ValueFault_8 p0) (ou_rostrumref_ValueFault_8 p0) (fun s o hs => sl_rostrumref_ValueFault_8 C p0 s o hs) h11
  revert hF
  cases h12 : ci (st_rostrumref_ValueFault_10 p0) 1
  focus
    intro hF
    cases hF
  rename_i qh12
  cases qh12
  focus
    rename_i z0h12
    intro hF
    try dsimp only at hF
    have g16 : evW TT C.wide n30 b30 10 ⟨[(1, .rp [.i .i64 p0.fKind, .s p0.fText, .i .i64 p0.fCount, .sl 2 (ab GPair.row p0.fPairs), .sl 1 (ab aY p0.fItems), .sl 2 (ab GScore.row p0.fScores)]), (9, .v (.i .i64 1))], []⟩ = some (.ret, ⟨[(2, .v (.i .i64 10))], []⟩) := cy (hd_rostrumref_ValueFault_10 p0) (ou_rostrumref_ValueFault_10 p0) (fun s o hs => sl_rostrumref_ValueFault_10 C p0 s o hs) h12
    have hR := Option.some.inj hF
    clear hF
    subst hR
  rotate_left 1
  rename_i y0h12
  intro hF
  try dsimp only at hF
  unfold rostrumref_ValueFault_c6 at hF
  have g17 : evW TT C.wide n30 b30 10 ⟨[(1, .rp [.i .i64 p0.fKind, .s p0.fText, .i .i64 p0.fCount, .sl 2 (ab GPair.row p0.fPairs), .sl 1 (ab aY p0.fItems), .sl 2 (ab GScore.row p0.fScores)]), (9, .v (.i .i64 1))], []⟩ = some (.normal, ⟨[(1, .rp [.i .i64 p0.fKind, .s p0.fText, .i .i64 p0.fCount, .sl 2 (ab GPair.row p0.fPairs), .sl 1 (ab aY p0.fItems), .sl 2 (ab GScore.row p0.fScores)])], []⟩) := cy (hd_rostrumref_ValueFault_10 p0) (ou_rostrumref_ValueFault_10 p0) (fun s o hs => sl_rostrumref_ValueFault_10 C p0 s o hs) h12
  revert hF
  cases h13 : ci (st_rostrumref_ValueFault_12 p0) 1
  focus
    intro hF
    cases hF
  rename_i qh13
  cases qh13
  focus
    rename_i z0h13
    intro hF
    try dsimp only at hF
    have g18 : evW TT C.wide n30 b30 12 ⟨[(1, .rp [.i .i64 p0.fKind, .s p0.fText, .i .i64 p0.fCount, .sl 2 (ab GPair.row p0.fPairs), .sl 1 (ab aY p0.fItems), .sl 2 (ab GScore.row p0.fScores)]), (10, .v (.i .i64 1))], []⟩ = some (.ret, ⟨[(2, .v (.i .i64 10))], []⟩) := cy (hd_rostrumref_ValueFault_12 p0) (ou_rostrumref_ValueFault_12 p0) (fun s o hs => sl_rostrumref_ValueFault_12 C k_rostrumref_scoreAhead k_rostrumref_memberAt p0 s o hs) h13
    have hR := Option.some.inj hF
    clear hF
    subst hR
  rotate_left 1
  rename_i y0h13
  intro hF
  try dsimp only at hF
  have g19 : evW TT C.wide n30 b30 12 ⟨[(1, .rp [.i .i64 p0.fKind, .s p0.fText, .i .i64 p0.fCount, .sl 2 (ab GPair.row p0.fPairs), .sl 1 (ab aY p0.fItems), .sl 2 (ab GScore.row p0.fScores)]), (10, .v (.i .i64 1))], []⟩ = some (.normal, ⟨[], []⟩) := cy (hd_rostrumref_ValueFault_12 p0) (ou_rostrumref_ValueFault_12 p0) (fun s o hs => sl_rostrumref_ValueFault_12 C k_rostrumref_scoreAhead k_rostrumref_memberAt p0 s o hs) h13
  have hR := Option.some.inj hF
  clear hF
  subst hR
  all_goals (rw [ba]; show cp _ _ _ (aH _ _ _ _ (Code.seq _ _) _) = _; simp (maxSteps := 4000000) only [*, res30, n30a14t, n30a14f, n30a72t, n30a72f, n30a87t, n30a87f, n30a92t, n30a92f, n30a101t, n30a101f, n30a106t, n30a106f, n30a126t, n30a126f, n30a131t, n30a131f, n30a141t, n30a141f, n30a145t, n30a145f, n30a150t, n30a150f, n30a160t, n30a160f, n30a165t, n30a165f, n30a181t, n30a181f, n30a191t, n30a191f, n30a205t, n30a205f, n30a210t, n30a210f, n30a239t, n30a239f, n30k0, n30k1, n30k2, n30k3, n30k4, n30k5, n30k6, n30k7, n30k8, n30k9, n30k10, n30k11, n30k12, n30k13, n30k14, n30k15, n30k16, n30k17, n30k18, n30k19, n30k20, n30k21, n30k22, n30k23, n30k24, n30k25, n30k26, n30k27, n30k28, n30k29, n30k30, n30k31, n30k32, n30k33, n30k34, n30k35, n30k36, n30k37, n30k38, n30k39, n30k40, n30k41, n30k42, n30k43, n30k44, n30k45, n30f33, n30f38, n30f43, n30ro, n30mv, n30gv, ↓RP, RB, ↓ah, ↓ac, ↓af, ↓ad, ↓ae, enter, aW, aC, aZ, be, aM, Mx.bw, opnd, Mx.bF, Nat.reduceBEq, bK, Mx.fit, bI, bY, toVs, cellsOf, toV, aO, aB, ax, Mx.put, ofConst, ofCell, Mx.prune, killB, killBs, aK, putDst, au, ao, aD, loadAt, bM, List.map, Nat.reduceAdd, Nat.reduceMul, cm, cn, aF, eqC, cg, aN, reduceIte, reduceCtorEq, az, bn, bq, co, bN, bD, aL, bx, lowC, lowP, forceAll, bound, bW, bg, bv, aU, br, kill, spendLoc, spendOk, setOwn, dropAl, dropAls, bG, bP, bd, cb, lend, lendA, aS, ay, bU, bL, bare, bQ, frz, bZ, bo, argE, argsE, bB, bT, fill, setCells, bR, takeParts, bp, aR, ownAt, Nat.reduceBNe, Nat.reduceSub, Nat.reduceLT, Nat.reduceLeDiff, lowA, bi, bJ, av, aJ, aX, bX, bO, bE, bS, ce, bV, bk, aI, bh, bj, bf, cd, Op.operands, Int.reduceBEq, Int.reduceLT, Int.reduceLE, Int.reduceNeg, Int.reduceBNe, bl, newB, ch, ck, cj, bne, ↓aj, ↓ai, bc, aP, bm, bu, aE, bH, Call.operands, ty3, ty4, ty9, ty25, ty49, ty50, ty51, ty53, ty101, ty105, ↓aa _ _ _ _ 0, ↓aa _ _ _ _ 1, ↓aa _ _ _ _ 2, ↓aa _ _ _ _ 3, ↓bC _ _ _ _ 4, ↓aa _ _ _ _ 5, ↓bC _ _ _ _ 6, ↓aa _ _ _ _ 7, ↓aa _ _ _ _ 8, ↓aa _ _ _ _ 9, ↓aa _ _ _ _ 11, ↓aa _ _ _ _ 12, ↓aa _ _ _ _ 10, ↓aa _ _ _ _ 13, ↓aa _ _ _ _ 14, ↓aa _ _ _ _ 16, ↓aa _ _ _ _ 17, ↓aa _ _ _ _ 15, ↓aa _ _ _ _ 18, ↓aa _ _ _ _ 19, ↓aa _ _ _ _ 21, ↓aa _ _ _ _ 22, ↓aa _ _ _ _ 20, ↓aa _ _ _ _ 23, ↓aa _ _ _ _ 24, ↓aa _ _ _ _ 25, ↓aa _ _ _ _ 26, ↓aa _ _ _ _ 28, ↓aa _ _ _ _ 29, ↓aa _ _ _ _ 27, ↓aa _ _ _ _ 30, ↓aa _ _ _ _ 31, ↓am _ _ _ _ 33, ↓aa _ _ _ _ 34, ↓aa _ _ _ _ 32, ↓aa _ _ _ _ 35, ↓aa _ _ _ _ 36, ↓am _ _ _ _ 38, ↓aa _ _ _ _ 39, ↓aa _ _ _ _ 37, ↓aa _ _ _ _ 40, ↓aa _ _ _ _ 41, ↓am _ _ _ _ 43, ↓aa _ _ _ _ 44, ↓aa _ _ _ _ 42, ↓aa _ _ _ _ 45])
/-! ### rostrumlaw.ValueChecks -/
def n8 : cC where
  keep := fun i => match i with
    | 0 => [1]
    | 1 => [1, 3]
    | 2 => [3, 4]
    | 3 => [2]
    | _ => []
  ro := fun t => t == 1
  mv := fun _ => false
  give := fun _ => false
  free := fun _ => []
theorem n8k0 : n8.keep 0 = [1] := rfl
theorem n8k1 : n8.keep 1 = [1, 3] := rfl
theorem n8k2 : n8.keep 2 = [3, 4] := rfl
theorem n8k3 : n8.keep 3 = [2] := rfl
theorem n8ro (t : Nat) : n8.ro t = (t == 1) := rfl
theorem n8mv (t : Nat) : n8.mv t = (false) := rfl
theorem n8gv (t : Nat) : n8.give t = (false) := rfl
theorem res8 : Try.f8.results.toList = [.tmp 2] := rfl
noncomputable def b8 : Code := aQ Try.f8
set_option maxRecDepth 100000 in
set_option maxHeartbeats 40000000 in
theorem r_rostrumlaw_ValueChecks (C : ak) (k_rostrumref_ValueCopy_z : K_rostrumref_ValueCopy_z C) (k_value_Check : K_value_Check C) (k_rostrumref_ValueFault : K_rostrumref_ValueFault C) (p0 : GValue) (r : Bool) (hF : rostrumlaw_ValueChecks p0 = some r) : cF TT C.wide (evW TT C.wide n8 b8) n8 Try.f8.results.toList (aQ Try.f8) [.agg [.v (.i .i64 p0.fKind), .v (.s p0.fText), .v (.i .i64 p0.fCount), .v (.sl 2 (ab GPair.row p0.fPairs)), .v (.sl 1 (ab aY p0.fItems)), .v (.sl 2 (ab GScore.row p0.fScores))]] [] = some (.v (.b r), []) := by
  unfold rostrumlaw_ValueChecks at hF
  revert hF
  cases h1 : rostrumref_ValueCopy_z p0
  focus
    intro hF
    cases hF
  rename_i x1
  intro hF
  try dsimp only at hF
  have g1 : C.wide 29 [.agg [.v (.i .i64 p0.fKind), .v (.s p0.fText), .v (.i .i64 p0.fCount), .v (.sl 2 (ab GPair.row p0.fPairs)), .v (.sl 1 (ab aY p0.fItems)), .v (.sl 2 (ab GScore.row p0.fScores))]] [] = some (.agg [.v (.i .i64 x1.fKind), .v (.s x1.fText), .v (.i .i64 x1.fCount), .v (.sl 2 (ab GPair.row x1.fPairs)), .v (.sl 1 (ab aY x1.fItems)), .v (.sl 2 (ab GScore.row x1.fScores))], []) := k_rostrumref_ValueCopy_z p0 _ h1
  revert hF
  cases h2 : value_Check x1
  focus
    intro hF
    cases hF
  rename_i x2
  intro hF
  try dsimp only at hF
  have g2 : C.wide 28 [.agg [.v (.i .i64 x1.fKind), .v (.s x1.fText), .v (.i .i64 x1.fCount), .v (.sl 2 (ab GPair.row x1.fPairs)), .v (.sl 1 (ab aY x1.fItems)), .v (.sl 2 (ab GScore.row x1.fScores))]] [] = some (.v (.i .i64 x2), []) := k_value_Check x1 _ h2
  revert hF
  cases h3 : rostrumref_ValueFault p0
  focus
    intro hF
    cases hF
  rename_i x3
  intro hF
  try dsimp only at hF
  have g3 : C.wide 30 [.agg [.v (.i .i64 p0.fKind), .v (.s p0.fText), .v (.i .i64 p0.fCount), .v (.sl 2 (ab GPair.row p0.fPairs)), .v (.sl 1 (ab aY p0.fItems)), .v (.sl 2 (ab GScore.row p0.fScores))]] [] = some (.v (.i .i64 x3), []) := k_rostrumref_ValueFault p0 _ h3
  have hR := Option.some.inj hF
  clear hF
  subst hR
  all_goals (rw [ba]; show cp _ _ _ (aH _ _ _ _ (Code.seq _ _) _) = _; simp (maxSteps := 4000000) only [*, res8, n8k0, n8k1, n8k2, n8k3, n8ro, n8mv, n8gv, ↓RP, RB, ↓ah, ↓ac, ↓af, ↓ad, ↓ae, enter, aW, aC, aZ, be, aM, Mx.bw, opnd, Mx.bF, Nat.reduceBEq, bK, Mx.fit, bI, bY, toVs, cellsOf, toV, aO, aB, ax, Mx.put, ofConst, ofCell, Mx.prune, killB, killBs, aK, putDst, au, ao, aD, loadAt, bM, List.map, Nat.reduceAdd, Nat.reduceMul, cm, cn, aF, eqC, cg, aN, reduceIte, reduceCtorEq, az, bn, bq, co, bN, bD, aL, bx, lowC, lowP, forceAll, bound, bW, bg, bv, aU, br, kill, spendLoc, spendOk, setOwn, dropAl, dropAls, bG, bP, bd, cb, lend, lendA, aS, ay, bU, bL, bare, bQ, frz, bZ, bo, argE, argsE, bB, bT, fill, setCells, bR, takeParts, bp, aR, ownAt, Nat.reduceBNe, Nat.reduceSub, Nat.reduceLT, Nat.reduceLeDiff, lowA, bi, bJ, av, aJ, aX, bX, bO, bE, bS, ce, bV, bk, aI, bh, bj, bf, cd, Op.operands, Int.reduceBEq, Int.reduceLT, Int.reduceLE, Int.reduceNeg, Int.reduceBNe, bl, newB, ch, ck, cj, bne, ↓aj, ↓ai, ↓aa, ↓am, bc, aP, bm, bu, aE, bH, Call.operands, ty3, ty4, ty9, ty25, ty49, ty50, ty51, ty53, ty101, ty105])
end Go.Proofs.Ytnjkmbogbfjffaa
