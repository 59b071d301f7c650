/- The chain of contracts of the law ClientChecks, over the functions that it reaches. -/
import Derived.Test.YtnjkmbogbfjffaaClientChecksZa
import Derived.Test.YtnjkmbogbfjffaaClientChecksZb
import Derived.Test.YtnjkmbogbfjffaaClientChecksZc
import Derived.Test.YtnjkmbogbfjffaaClientChecksD
import Derived.Test.YtnjkmbogbfjffaaClientChecksP
set_option linter.unusedSimpArgs false
set_option linter.unusedVariables false
set_option linter.constructorNameAsVariable false
set_option linter.unnecessarySimpa false
namespace Go.Proofs.Ytnjkmbogbfjffaa
open Go Go.Mx Go.Proofs
namespace CClientChecks
theorem argD_slice {P : Program} {t e : TypeId} {x : V} (hu : P.underlying t = some (.slice e)) : argD P t [x] = .v x := by simp only [argD, hu]
theorem argD_str {P : Program} {t : TypeId} {x : V} (hu : P.underlying t = some .string) : argD P t [x] = .v x := by simp only [argD, hu]
def a1 (x : GValue) : List D × aA := ([.agg [.v (.i .i64 x.fKind), .v (.s x.fText), .v (.i .i64 x.fCount), .v (.sl 2 (ab GPair.row x.fPairs)), .v (.sl 1 (ab aY x.fItems)), .v (.sl 2 (ab GScore.row x.fScores))]], [])
noncomputable def O1 : ak := ak.addF noC 29 a1 (fun x => rostrumref_ValueCopy x) (fun _ (r : GValue) => (.agg [.v (.i .i64 r.fKind), .v (.s r.fText), .v (.i .i64 r.fCount), .own 2 (ab GPair.row r.fPairs), .own 1 (ab aY r.fItems), .own 2 (ab GScore.row r.fScores)], []))
set_option maxRecDepth 100000 in
theorem O1_sound : cE Try.prog O1 := cA (noC_sound _) (fun x r h => cL (ν := n29) (cz (noC_sound _)) Try.func29 (by kernel_rfl) mixed (by kernel_rfl) (Nat.le_of_ble_eq_true (by kernel_rfl)) (r_rostrumref_ValueCopy noC x r h))
theorem inj1 : ∀ x y, a1 x = a1 y → x = y := by
  rintro ⟨ua1, ua2, ua3, ua4, ua5, ua6⟩ ⟨ub1, ub2, ub3, ub4, ub5, ub6⟩ h
  simp only [a1, Prod.mk.injEq, List.cons.injEq, D.v.injEq, D.agg.injEq, V.i.injEq, V.s.injEq, V.sl.injEq, cu, GPair.map_inj, GScore.map_inj, true_and, and_true] at h
  simp only [h]
theorem K1_1 : K_rostrumref_ValueCopy O1 := fun p0 r h => cM (x := p0) inj1 h
def a2 (x : GStore) : List D × aA := ([.agg [.v (.i .i64 x.fNow), .v (.sl 8 (ab GEntry.row x.fEntries))]], [])
noncomputable def O2 : ak := ak.addF O1 35 a2 (fun x => rostrumref_StoreCopy x) (fun _ (r : GStore) => (.agg [.v (.i .i64 r.fNow), .own 8 (ab GEntry.row r.fEntries)], []))
set_option maxRecDepth 100000 in
theorem O2_sound : cE Try.prog O2 := cA O1_sound (fun x r h => cL (ν := n35) (cz O1_sound) Try.func35 (by kernel_rfl) mixed (by kernel_rfl) (Nat.le_of_ble_eq_true (by kernel_rfl)) (r_rostrumref_StoreCopy O1 K1_1 x r h))
theorem inj2 : ∀ x y, a2 x = a2 y → x = y := by
  rintro ⟨ua1, ua2⟩ ⟨ub1, ub2⟩ h
  simp only [a2, Prod.mk.injEq, List.cons.injEq, D.v.injEq, D.agg.injEq, V.i.injEq, V.sl.injEq, GEntry.map_inj, true_and, and_true] at h
  simp only [h]
theorem K2_2 : K_rostrumref_StoreCopy O2 := fun p0 r h => cM (x := p0) inj2 h
def a3 (x : GReply) : List D × aA := ([.agg [.v (.i .i64 x.fCode), .v (.s x.fText), .v (.i .i64 x.fN), .v (.sl 1 (ab aY x.fList))]], [])
noncomputable def O3 : ak := ak.addF O2 90 a3 (fun x => rostrumref_replyCopy x) (fun _ (r : GReply) => (.agg [.v (.i .i64 r.fCode), .v (.s r.fText), .v (.i .i64 r.fN), .own 1 (ab aY r.fList)], []))
set_option maxRecDepth 100000 in
theorem O3_sound : cE Try.prog O3 := cA O2_sound (fun x r h => cL (ν := n90) (cz O2_sound) Try.func90 (by kernel_rfl) mixed (by kernel_rfl) (Nat.le_of_ble_eq_true (by kernel_rfl)) (r_rostrumref_replyCopy O2 x r h))
theorem inj3 : ∀ x y, a3 x = a3 y → x = y := by
  rintro ⟨ua1, ua2, ua3, ua4⟩ ⟨ub1, ub2, ub3, ub4⟩ h
  simp only [a3, Prod.mk.injEq, List.cons.injEq, D.v.injEq, D.agg.injEq, V.i.injEq, V.s.injEq, V.sl.injEq, cu, true_and, and_true] at h
  simp only [h]
theorem K3_3 : K_rostrumref_replyCopy O3 := fun p0 r h => cM (x := p0) inj3 h
theorem K2_3 : K_rostrumref_StoreCopy O3 := fun p0 r h => (aV (by decide) _ _).trans (K2_2 p0 r h)
def a4 (x : GMachine) : List D × aA := ([.agg [.v (.i .i64 x.fStore.fNow), .v (.sl 8 (ab GEntry.row x.fStore.fEntries)), .v (.i .i64 x.fNext), .v (.sl 7 (ab GClient.row x.fClients))]], [])
noncomputable def O4 : ak := ak.addF O3 41 a4 (fun x => rostrumref_MachineCopy_z x) (fun _ (r : GMachine) => (.agg [.v (.i .i64 r.fStore.fNow), .v (.sl 8 (ab GEntry.row r.fStore.fEntries)), .v (.i .i64 r.fNext), .v (.sl 7 (ab GClient.row r.fClients))], []))
set_option maxRecDepth 100000 in
theorem O4_sound : cE Try.prog O4 := cA O3_sound (fun x r h => by
  obtain ⟨d, S, h1, h2, h3⟩ := r_rostrumref_MachineCopy_z O3 K2_3 K3_3 x r h
  have h4 := Mx.Sem.frozen (cL (ν := n41) (cz O3_sound) Try.func41 (by kernel_rfl) mixed (by kernel_rfl) (Nat.le_of_ble_eq_true (by kernel_rfl)) h1) h2
  obtain ⟨e1, e2⟩ := Prod.mk.inj h3
  rw [e1] at h4; rw [e2] at h4; exact h4)
theorem inj4 : ∀ x y, a4 x = a4 y → x = y := by
  rintro ⟨⟨ua1, ua2⟩, ua3, ua4⟩ ⟨⟨ub1, ub2⟩, ub3, ub4⟩ h
  simp only [a4, Prod.mk.injEq, List.cons.injEq, D.v.injEq, D.agg.injEq, V.i.injEq, V.sl.injEq, GEntry.map_inj, GClient.map_inj, true_and, and_true] at h
  simp only [h]
theorem K4_4 : K_rostrumref_MachineCopy_z O4 := fun p0 r h => cM (x := p0) inj4 h
def a5 (x : GValue) : List D × aA := ([.agg [.v (.i .i64 x.fKind), .v (.s x.fText), .v (.i .i64 x.fCount), .v (.sl 2 (ab GPair.row x.fPairs)), .v (.sl 1 (ab aY x.fItems)), .v (.sl 2 (ab GScore.row x.fScores))]], [])
noncomputable def O5 : ak := ak.addF O4 61 a5 (fun x => value_elements x) (fun _ (r : Int) => (.v (.i .i64 r), []))
set_option maxRecDepth 100000 in
theorem O5_sound : cE Try.prog O5 := cA O4_sound (fun x r h => cL (ν := n61) (cz O4_sound) Try.func61 (by kernel_rfl) mixed (by kernel_rfl) (Nat.le_of_ble_eq_true (by kernel_rfl)) (r_value_elements O4 x r h))
theorem inj5 : ∀ x y, a5 x = a5 y → x = y := by
  rintro ⟨ua1, ua2, ua3, ua4, ua5, ua6⟩ ⟨ub1, ub2, ub3, ub4, ub5, ub6⟩ h
  simp only [a5, Prod.mk.injEq, List.cons.injEq, D.v.injEq, D.agg.injEq, V.i.injEq, V.s.injEq, V.sl.injEq, cu, GPair.map_inj, GScore.map_inj, true_and, and_true] at h
  simp only [h]
theorem K5_5 : K_value_elements O5 := fun p0 r h => cM (x := p0) inj5 h
def a6 (x : ByteArray) : List D × aA := ([.v (.s x)], [])
noncomputable def O6 : ak := ak.addF O5 62 a6 (fun x => value_text x) (fun _ (r : Bool) => (.v (.b r), []))
set_option maxRecDepth 100000 in
theorem O6_sound : cE Try.prog O6 := cA O5_sound (fun x r h => cL (ν := n62) (cz O5_sound) Try.func62 (by kernel_rfl) mixed (by kernel_rfl) (Nat.le_of_ble_eq_true (by kernel_rfl)) (r_value_text O5 x r h))
theorem inj6 : ∀ x y, a6 x = a6 y → x = y := by
  rintro ua1 ub1 h
  simp only [a6, Prod.mk.injEq, List.cons.injEq, D.v.injEq, V.s.injEq, and_true] at h
  exact h
theorem K6_6 : K_value_text O6 := fun p0 r h => cM (x := p0) inj6 h
def a7 (x : ByteArray) : List D × aA := ([.v (.s x)], [])
noncomputable def O7 : ak := ak.addF O6 64 a7 (fun x => value_Check_fn1 x) (fun _ (r : Bool) => (.v (.b r), []))
set_option maxRecDepth 100000 in
theorem O7_sound : cE Try.prog O7 := cA O6_sound (fun x r h => cL (ν := n64) (cz O6_sound) Try.func64 (by kernel_rfl) mixed (by kernel_rfl) (Nat.le_of_ble_eq_true (by kernel_rfl)) (r_value_Check_fn1 O6 K6_6 x r h))
theorem inj7 : ∀ x y, a7 x = a7 y → x = y := by
  rintro ua1 ub1 h
  simp only [a7, Prod.mk.injEq, List.cons.injEq, D.v.injEq, V.s.injEq, and_true] at h
  exact h
theorem K7_7 : K_value_Check_fn1 O7 := fun p0 r h => cM (x := p0) inj7 h
def a8 (x : (List ByteArray)) : List D × aA := ([.v (.sl 1 (ab aY x)), .clo 64 []], [])
noncomputable def O8 : ak := ak.addF O7 108 a8 (fun x => slices_IndexFunc_string_string_value_Check_fn1 x) (fun _ (r : Int) => (.v (.i .i64 r), []))
set_option maxRecDepth 100000 in
theorem O8_sound : cE Try.prog O8 := cA O7_sound (fun x r h => cL (ν := n108) (cz O7_sound) Try.func108 (by kernel_rfl) mixed (by kernel_rfl) (Nat.le_of_ble_eq_true (by kernel_rfl)) (r_slices_IndexFunc_string_string_value_Check_fn1 O7 K7_7 x r h))
theorem inj8 : ∀ x y, a8 x = a8 y → x = y := by
  rintro ua1 ub1 h
  simp only [a8, Prod.mk.injEq, List.cons.injEq, D.v.injEq, V.sl.injEq, cu, true_and, and_true] at h
  exact h
theorem K8_8 : K_slices_IndexFunc_string_string_value_Check_fn1 O8 := fun p0 r h => cM (x := p0) inj8 h
def a9 (x : (List ByteArray)) : List D × aA := ([.v (.sl 1 (ab aY x)), .clo 64 []], [])
noncomputable def O9 : ak := ak.addF O8 63 a9 (fun x => slices_ContainsFunc_string_string_value_Check_fn1 x) (fun _ (r : Bool) => (.v (.b r), []))
set_option maxRecDepth 100000 in
theorem O9_sound : cE Try.prog O9 := cA O8_sound (fun x r h => cL (ν := n63) (cz O8_sound) Try.func63 (by kernel_rfl) mixed (by kernel_rfl) (Nat.le_of_ble_eq_true (by kernel_rfl)) (r_slices_ContainsFunc_string_string_value_Check_fn1 O8 K8_8 x r h))
theorem inj9 : ∀ x y, a9 x = a9 y → x = y := by
  rintro ua1 ub1 h
  simp only [a9, Prod.mk.injEq, List.cons.injEq, D.v.injEq, V.sl.injEq, cu, true_and, and_true] at h
  exact h
theorem K9_9 : K_slices_ContainsFunc_string_string_value_Check_fn1 O9 := fun p0 r h => cM (x := p0) inj9 h
def a10 (x : ByteArray) : List D × aA := ([.v (.s x)], [])
noncomputable def O10 : ak := ak.addF O9 67 a10 (fun x => value_field x) (fun _ (r : Bool) => (.v (.b r), []))
set_option maxRecDepth 100000 in
theorem O10_sound : cE Try.prog O10 := cA O9_sound (fun x r h => cL (ν := n67) (cz O9_sound) Try.func67 (by kernel_rfl) mixed (by kernel_rfl) (Nat.le_of_ble_eq_true (by kernel_rfl)) (r_value_field O9 x r h))
theorem inj10 : ∀ x y, a10 x = a10 y → x = y := by
  rintro ua1 ub1 h
  simp only [a10, Prod.mk.injEq, List.cons.injEq, D.v.injEq, V.s.injEq, and_true] at h
  exact h
theorem K10_10 : K_value_field O10 := fun p0 r h => cM (x := p0) inj10 h
theorem K6_7 : K_value_text O7 := fun p0 r h => (aV (by decide) _ _).trans (K6_6 p0 r h)
theorem K6_8 : K_value_text O8 := fun p0 r h => (aV (by decide) _ _).trans (K6_7 p0 r h)
theorem K6_9 : K_value_text O9 := fun p0 r h => (aV (by decide) _ _).trans (K6_8 p0 r h)
theorem K6_10 : K_value_text O10 := fun p0 r h => (aV (by decide) _ _).trans (K6_9 p0 r h)
def a11 (x : GPair) : List D × aA := ([.agg [.v (.s x.fField), .v (.s x.fText)]], [])
noncomputable def O11 : ak := ak.addF O10 66 a11 (fun x => value_Check_fn2 x) (fun _ (r : Bool) => (.v (.b r), []))
set_option maxRecDepth 100000 in
theorem O11_sound : cE Try.prog O11 := cA O10_sound (fun x r h => cL (ν := n66) (cz O10_sound) Try.func66 (by kernel_rfl) mixed (by kernel_rfl) (Nat.le_of_ble_eq_true (by kernel_rfl)) (r_value_Check_fn2 O10 K10_10 K6_10 x r h))
theorem inj11 : ∀ x y, a11 x = a11 y → x = y := by
  rintro ⟨ua1, ua2⟩ ⟨ub1, ub2⟩ h
  simp only [a11, Prod.mk.injEq, List.cons.injEq, D.v.injEq, D.agg.injEq, V.s.injEq, and_true] at h
  simp only [h]
theorem K11_11 : K_value_Check_fn2 O11 := fun p0 r h => cM (x := p0) inj11 h
def a12 (x : (List GPair)) : List D × aA := ([.v (.sl 2 (ab GPair.row x)), .clo 66 []], [])
noncomputable def O12 : ak := ak.addF O11 109 a12 (fun x => slices_IndexFunc_Pair_Pair_value_Check_fn2 x) (fun _ (r : Int) => (.v (.i .i64 r), []))
set_option maxRecDepth 100000 in
theorem O12_sound : cE Try.prog O12 := cA O11_sound (fun x r h => cL (ν := n109) (cz O11_sound) Try.func109 (by kernel_rfl) mixed (by kernel_rfl) (Nat.le_of_ble_eq_true (by kernel_rfl)) (r_slices_IndexFunc_Pair_Pair_value_Check_fn2 O11 K11_11 x r h))
theorem inj12 : ∀ x y, a12 x = a12 y → x = y := by
  rintro ua1 ub1 h
  simp only [a12, Prod.mk.injEq, List.cons.injEq, D.v.injEq, V.sl.injEq, GPair.map_inj, true_and, and_true] at h
  exact h
theorem K12_12 : K_slices_IndexFunc_Pair_Pair_value_Check_fn2 O12 := fun p0 r h => cM (x := p0) inj12 h
def a13 (x : (List GPair)) : List D × aA := ([.v (.sl 2 (ab GPair.row x)), .clo 66 []], [])
noncomputable def O13 : ak := ak.addF O12 65 a13 (fun x => slices_ContainsFunc_Pair_Pair_value_Check_fn2 x) (fun _ (r : Bool) => (.v (.b r), []))
set_option maxRecDepth 100000 in
theorem O13_sound : cE Try.prog O13 := cA O12_sound (fun x r h => cL (ν := n65) (cz O12_sound) Try.func65 (by kernel_rfl) mixed (by kernel_rfl) (Nat.le_of_ble_eq_true (by kernel_rfl)) (r_slices_ContainsFunc_Pair_Pair_value_Check_fn2 O12 K12_12 x r h))
theorem inj13 : ∀ x y, a13 x = a13 y → x = y := by
  rintro ua1 ub1 h
  simp only [a13, Prod.mk.injEq, List.cons.injEq, D.v.injEq, V.sl.injEq, GPair.map_inj, true_and, and_true] at h
  exact h
theorem K13_13 : K_slices_ContainsFunc_Pair_Pair_value_Check_fn2 O13 := fun p0 r h => cM (x := p0) inj13 h
theorem K6_11 : K_value_text O11 := fun p0 r h => (aV (by decide) _ _).trans (K6_10 p0 r h)
theorem K6_12 : K_value_text O12 := fun p0 r h => (aV (by decide) _ _).trans (K6_11 p0 r h)
theorem K6_13 : K_value_text O13 := fun p0 r h => (aV (by decide) _ _).trans (K6_12 p0 r h)
def a14 (x : GScore) : List D × aA := ([.agg [.v (.s x.fMember), .v (.i .i64 x.fN)]], [])
noncomputable def O14 : ak := ak.addF O13 69 a14 (fun x => value_Check_fn3 x) (fun _ (r : Bool) => (.v (.b r), []))
set_option maxRecDepth 100000 in
theorem O14_sound : cE Try.prog O14 := cA O13_sound (fun x r h => cL (ν := n69) (cz O13_sound) Try.func69 (by kernel_rfl) mixed (by kernel_rfl) (Nat.le_of_ble_eq_true (by kernel_rfl)) (r_value_Check_fn3 O13 K6_13 x r h))
theorem inj14 : ∀ x y, a14 x = a14 y → x = y := by
  rintro ⟨ua1, ua2⟩ ⟨ub1, ub2⟩ h
  simp only [a14, Prod.mk.injEq, List.cons.injEq, D.v.injEq, D.agg.injEq, V.i.injEq, V.s.injEq, true_and, and_true] at h
  simp only [h]
theorem K14_14 : K_value_Check_fn3 O14 := fun p0 r h => cM (x := p0) inj14 h
def a15 (x : (List GScore)) : List D × aA := ([.v (.sl 2 (ab GScore.row x)), .clo 69 []], [])
noncomputable def O15 : ak := ak.addF O14 110 a15 (fun x => slices_IndexFunc_Score_Score_value_Check_fn3 x) (fun _ (r : Int) => (.v (.i .i64 r), []))
set_option maxRecDepth 100000 in
theorem O15_sound : cE Try.prog O15 := cA O14_sound (fun x r h => cL (ν := n110) (cz O14_sound) Try.func110 (by kernel_rfl) mixed (by kernel_rfl) (Nat.le_of_ble_eq_true (by kernel_rfl)) (r_slices_IndexFunc_Score_Score_value_Check_fn3 O14 K14_14 x r h))
theorem inj15 : ∀ x y, a15 x = a15 y → x = y := by
  rintro ua1 ub1 h
  simp only [a15, Prod.mk.injEq, List.cons.injEq, D.v.injEq, V.sl.injEq, GScore.map_inj, true_and, and_true] at h
  exact h
theorem K15_15 : K_slices_IndexFunc_Score_Score_value_Check_fn3 O15 := fun p0 r h => cM (x := p0) inj15 h
def a16 (x : (List GScore)) : List D × aA := ([.v (.sl 2 (ab GScore.row x)), .clo 69 []], [])
noncomputable def O16 : ak := ak.addF O15 68 a16 (fun x => slices_ContainsFunc_Score_Score_value_Check_fn3 x) (fun _ (r : Bool) => (.v (.b r), []))
set_option maxRecDepth 100000 in
theorem O16_sound : cE Try.prog O16 := cA O15_sound (fun x r h => cL (ν := n68) (cz O15_sound) Try.func68 (by kernel_rfl) mixed (by kernel_rfl) (Nat.le_of_ble_eq_true (by kernel_rfl)) (r_slices_ContainsFunc_Score_Score_value_Check_fn3 O15 K15_15 x r h))
theorem inj16 : ∀ x y, a16 x = a16 y → x = y := by
  rintro ua1 ub1 h
  simp only [a16, Prod.mk.injEq, List.cons.injEq, D.v.injEq, V.sl.injEq, GScore.map_inj, true_and, and_true] at h
  exact h
theorem K16_16 : K_slices_ContainsFunc_Score_Score_value_Check_fn3 O16 := fun p0 r h => cM (x := p0) inj16 h
def a17 (x : Int) : List D × aA := ([.v (.i .i64 x)], [])
noncomputable def O17 : ak := ak.addF O16 70 a17 (fun x => value_count x) (fun _ (r : Bool) => (.v (.b r), []))
set_option maxRecDepth 100000 in
theorem O17_sound : cE Try.prog O17 := cA O16_sound (fun x r h => cL (ν := n70) (cz O16_sound) Try.func70 (by kernel_rfl) mixed (by kernel_rfl) (Nat.le_of_ble_eq_true (by kernel_rfl)) (r_value_count O16 x r h))
theorem inj17 : ∀ x y, a17 x = a17 y → x = y := by
  rintro ua1 ub1 h
  simp only [a17, Prod.mk.injEq, List.cons.injEq, D.v.injEq, V.i.injEq, true_and, and_true] at h
  exact h
theorem K17_17 : K_value_count O17 := fun p0 r h => cM (x := p0) inj17 h
def a18 (x : GScore) : List D × aA := ([.agg [.v (.s x.fMember), .v (.i .i64 x.fN)]], [])
noncomputable def O18 : ak := ak.addF O17 71 a18 (fun x => value_Check_fn4 x) (fun _ (r : Bool) => (.v (.b r), []))
set_option maxRecDepth 100000 in
theorem O18_sound : cE Try.prog O18 := cA O17_sound (fun x r h => cL (ν := n71) (cz O17_sound) Try.func71 (by kernel_rfl) mixed (by kernel_rfl) (Nat.le_of_ble_eq_true (by kernel_rfl)) (r_value_Check_fn4 O17 K17_17 x r h))
theorem inj18 : ∀ x y, a18 x = a18 y → x = y := by
  rintro ⟨ua1, ua2⟩ ⟨ub1, ub2⟩ h
  simp only [a18, Prod.mk.injEq, List.cons.injEq, D.v.injEq, D.agg.injEq, V.i.injEq, V.s.injEq, true_and, and_true] at h
  simp only [h]
theorem K18_18 : K_value_Check_fn4 O18 := fun p0 r h => cM (x := p0) inj18 h
def a19 (x : (List GScore)) : List D × aA := ([.v (.sl 2 (ab GScore.row x)), .clo 71 []], [])
noncomputable def O19 : ak := ak.addF O18 110 a19 (fun x => slices_IndexFunc_Score_Score_value_Check_fn4 x) (fun _ (r : Int) => (.v (.i .i64 r), []))
set_option maxRecDepth 100000 in
theorem O19_sound : cE Try.prog O19 := cA O18_sound (fun x r h => cL (ν := n110) (cz O18_sound) Try.func110 (by kernel_rfl) mixed (by kernel_rfl) (Nat.le_of_ble_eq_true (by kernel_rfl)) (r_slices_IndexFunc_Score_Score_value_Check_fn4 O18 K18_18 x r h))
theorem inj19 : ∀ x y, a19 x = a19 y → x = y := by
  rintro ua1 ub1 h
  simp only [a19, Prod.mk.injEq, List.cons.injEq, D.v.injEq, V.sl.injEq, GScore.map_inj, true_and, and_true] at h
  exact h
theorem K19_19 : K_slices_IndexFunc_Score_Score_value_Check_fn4 O19 := fun p0 r h => cM (x := p0) inj19 h
def a20 (x : (List GScore)) : List D × aA := ([.v (.sl 2 (ab GScore.row x)), .clo 71 []], [])
noncomputable def O20 : ak := ak.addF O19 68 a20 (fun x => slices_ContainsFunc_Score_Score_value_Check_fn4 x) (fun _ (r : Bool) => (.v (.b r), []))
set_option maxRecDepth 100000 in
theorem O20_sound : cE Try.prog O20 := cA O19_sound (fun x r h => cL (ν := n68) (cz O19_sound) Try.func68 (by kernel_rfl) mixed (by kernel_rfl) (Nat.le_of_ble_eq_true (by kernel_rfl)) (r_slices_ContainsFunc_Score_Score_value_Check_fn4 O19 K19_19 x r h))
theorem inj20 : ∀ x y, a20 x = a20 y → x = y := by
  rintro ua1 ub1 h
  simp only [a20, Prod.mk.injEq, List.cons.injEq, D.v.injEq, V.sl.injEq, GScore.map_inj, true_and, and_true] at h
  exact h
theorem K20_20 : K_slices_ContainsFunc_Score_Score_value_Check_fn4 O20 := fun p0 r h => cM (x := p0) inj20 h
def a21 (x : ByteArray × ByteArray) : List D × aA := ([.v (.s x.1), .v (.s x.2)], [])
noncomputable def O21 : ak := ak.addF O20 132 a21 (fun x => cmpstring x.1 x.2) (fun _ (r : Int) => (.v (.i .i64 r), []))
set_option maxRecDepth 100000 in
theorem O21_sound : cE Try.prog O21 := cA O20_sound (fun x r h => by
  obtain rfl := Option.some.inj h
  exact sem_cmp Try.func132 (by kernel_rfl) (by kernel_rfl) (by kernel_rfl) (by kernel_rfl) x.1 x.2)
theorem inj21 : ∀ x y, a21 x = a21 y → x = y := by
  rintro ⟨ua1, ua2⟩ ⟨ub1, ub2⟩ h
  simp only [a21, Prod.mk.injEq, List.cons.injEq, D.v.injEq, V.s.injEq, and_true] at h
  simp only [h]
theorem K21_21 : K_cmpstring O21 := fun p0 p1 r h => cM (x := (p0, p1)) inj21 h
def a22 (x : ByteArray × ByteArray) : List D × aA := ([.v (.s x.1), .v (.s x.2)], [])
noncomputable def O22 : ak := ak.addF O21 113 a22 (fun x => internal_bytealg_CompareString x.1 x.2) (fun _ (r : Int) => (.v (.i .i64 r), []))
set_option maxRecDepth 100000 in
theorem O22_sound : cE Try.prog O22 := cA O21_sound (fun x r h => cL (ν := n113) (cz O21_sound) Try.func113 (by kernel_rfl) mixed (by kernel_rfl) (Nat.le_of_ble_eq_true (by kernel_rfl)) (r_internal_bytealg_CompareString O21 K21_21 x.1 x.2 r h))
theorem inj22 : ∀ x y, a22 x = a22 y → x = y := by
  rintro ⟨ua1, ua2⟩ ⟨ub1, ub2⟩ h
  simp only [a22, Prod.mk.injEq, List.cons.injEq, D.v.injEq, V.s.injEq, and_true] at h
  simp only [h]
theorem K22_22 : K_internal_bytealg_CompareString O22 := fun p0 p1 r h => cM (x := (p0, p1)) inj22 h
def a23 (x : ByteArray × ByteArray) : List D × aA := ([.v (.s x.1), .v (.s x.2)], [])
noncomputable def O23 : ak := ak.addF O22 77 a23 (fun x => strings_Compare x.1 x.2) (fun _ (r : Int) => (.v (.i .i64 r), []))
set_option maxRecDepth 100000 in
theorem O23_sound : cE Try.prog O23 := cA O22_sound (fun x r h => cL (ν := n77) (cz O22_sound) Try.func77 (by kernel_rfl) mixed (by kernel_rfl) (Nat.le_of_ble_eq_true (by kernel_rfl)) (r_strings_Compare O22 K22_22 x.1 x.2 r h))
theorem inj23 : ∀ x y, a23 x = a23 y → x = y := by
  rintro ⟨ua1, ua2⟩ ⟨ub1, ub2⟩ h
  simp only [a23, Prod.mk.injEq, List.cons.injEq, D.v.injEq, V.s.injEq, and_true] at h
  simp only [h]
theorem K23_23 : K_strings_Compare O23 := fun p0 p1 r h => cM (x := (p0, p1)) inj23 h
def a24 (x : GPair × GPair) : List D × aA := ([.agg [.v (.s x.1.fField), .v (.s x.1.fText)], .agg [.v (.s x.2.fField), .v (.s x.2.fText)]], [])
noncomputable def O24 : ak := ak.addF O23 73 a24 (fun x => value_byField x.1 x.2) (fun _ (r : Int) => (.v (.i .i64 r), []))
set_option maxRecDepth 100000 in
theorem O24_sound : cE Try.prog O24 := cA O23_sound (fun x r h => cL (ν := n73) (cz O23_sound) Try.func73 (by kernel_rfl) mixed (by kernel_rfl) (Nat.le_of_ble_eq_true (by kernel_rfl)) (r_value_byField O23 K23_23 x.1 x.2 r h))
theorem inj24 : ∀ x y, a24 x = a24 y → x = y := by
  rintro ⟨⟨ua1, ua2⟩, ⟨ua3, ua4⟩⟩ ⟨⟨ub1, ub2⟩, ⟨ub3, ub4⟩⟩ h
  simp only [a24, Prod.mk.injEq, List.cons.injEq, D.v.injEq, D.agg.injEq, V.s.injEq, and_true] at h
  simp only [h]
theorem K24_24 : K_value_byField O24 := fun p0 p1 r h => cM (x := (p0, p1)) inj24 h
def a25 (x : (List GPair)) : List D × aA := ([.v (.sl 2 (ab GPair.row x)), .clo 73 []], [])
noncomputable def O25 : ak := ak.addF O24 72 a25 (fun x => value_rising_Pair_value_byField x) (fun _ (r : Bool) => (.v (.b r), []))
set_option maxRecDepth 100000 in
theorem O25_sound : cE Try.prog O25 := cA O24_sound (fun x r h => cL (ν := n72) (cz O24_sound) Try.func72 (by kernel_rfl) mixed (by kernel_rfl) (Nat.le_of_ble_eq_true (by kernel_rfl)) (r_value_rising_Pair_value_byField O24 K24_24 x r h))
theorem inj25 : ∀ x y, a25 x = a25 y → x = y := by
  rintro ua1 ub1 h
  simp only [a25, Prod.mk.injEq, List.cons.injEq, D.v.injEq, V.sl.injEq, GPair.map_inj, true_and, and_true] at h
  exact h
theorem K25_25 : K_value_rising_Pair_value_byField O25 := fun p0 r h => cM (x := p0) inj25 h
def a26 (x : Int) : List D × aA := ([.v (.i .i64 x)], [])
noncomputable def O26 : ak := ak.addF O25 131 a26 (fun x => cmp_isNaN_int x) (fun _ (r : Bool) => (.v (.b r), []))
set_option maxRecDepth 100000 in
theorem O26_sound : cE Try.prog O26 := cA O25_sound (fun x r h => cL (ν := n131) (cz O25_sound) Try.func131 (by kernel_rfl) mixed (by kernel_rfl) (Nat.le_of_ble_eq_true (by kernel_rfl)) (r_cmp_isNaN_int O25 x r h))
theorem inj26 : ∀ x y, a26 x = a26 y → x = y := by
  rintro ua1 ub1 h
  simp only [a26, Prod.mk.injEq, List.cons.injEq, D.v.injEq, V.i.injEq, true_and, and_true] at h
  exact h
theorem K26_26 : K_cmp_isNaN_int O26 := fun p0 r h => cM (x := p0) inj26 h
def a27 (x : Int × Int) : List D × aA := ([.v (.i .i64 x.1), .v (.i .i64 x.2)], [])
noncomputable def O27 : ak := ak.addF O26 112 a27 (fun x => cmp_Compare_int x.1 x.2) (fun _ (r : Int) => (.v (.i .i64 r), []))
set_option maxRecDepth 100000 in
theorem O27_sound : cE Try.prog O27 := cA O26_sound (fun x r h => cL (ν := n112) (cz O26_sound) Try.func112 (by kernel_rfl) mixed (by kernel_rfl) (Nat.le_of_ble_eq_true (by kernel_rfl)) (r_cmp_Compare_int O26 K26_26 x.1 x.2 r h))
theorem inj27 : ∀ x y, a27 x = a27 y → x = y := by
  rintro ⟨ua1, ua2⟩ ⟨ub1, ub2⟩ h
  simp only [a27, Prod.mk.injEq, List.cons.injEq, D.v.injEq, V.i.injEq, true_and, and_true] at h
  simp only [h]
theorem K27_27 : K_cmp_Compare_int O27 := fun p0 p1 r h => cM (x := (p0, p1)) inj27 h
def a28 (x : (List Int)) : List D × aA := ([.v (.sl 1 (ab rowI x))], [])
noncomputable def O28 : ak := ak.addF O27 111 a28 (fun x => cmp_Or_int x) (fun _ (r : Int) => (.v (.i .i64 r), []))
set_option maxRecDepth 100000 in
theorem O28_sound : cE Try.prog O28 := cA O27_sound (fun x r h => cL (ν := n111) (cz O27_sound) Try.func111 (by kernel_rfl) mixed (by kernel_rfl) (Nat.le_of_ble_eq_true (by kernel_rfl)) (r_cmp_Or_int O27 x r h))
theorem inj28 : ∀ x y, a28 x = a28 y → x = y := by
  rintro ua1 ub1 h
  simp only [a28, Prod.mk.injEq, List.cons.injEq, D.v.injEq, V.sl.injEq, cv, true_and, and_true] at h
  exact h
theorem K28_28 : K_cmp_Or_int O28 := fun p0 r h => cM (x := p0) inj28 h
theorem K27_28 : K_cmp_Compare_int O28 := fun p0 p1 r h => (aV (by decide) _ _).trans (K27_27 p0 p1 r h)
theorem K23_24 : K_strings_Compare O24 := fun p0 p1 r h => (aV (by decide) _ _).trans (K23_23 p0 p1 r h)
theorem K23_25 : K_strings_Compare O25 := fun p0 p1 r h => (aV (by decide) _ _).trans (K23_24 p0 p1 r h)
theorem K23_26 : K_strings_Compare O26 := fun p0 p1 r h => (aV (by decide) _ _).trans (K23_25 p0 p1 r h)
theorem K23_27 : K_strings_Compare O27 := fun p0 p1 r h => (aV (by decide) _ _).trans (K23_26 p0 p1 r h)
theorem K23_28 : K_strings_Compare O28 := fun p0 p1 r h => (aV (by decide) _ _).trans (K23_27 p0 p1 r h)
def a29 (x : GScore × GScore) : List D × aA := ([.agg [.v (.s x.1.fMember), .v (.i .i64 x.1.fN)], .agg [.v (.s x.2.fMember), .v (.i .i64 x.2.fN)]], [])
noncomputable def O29 : ak := ak.addF O28 75 a29 (fun x => value_byScore x.1 x.2) (fun _ (r : Int) => (.v (.i .i64 r), []))
set_option maxRecDepth 100000 in
theorem O29_sound : cE Try.prog O29 := cA O28_sound (fun x r h => cL (ν := n75) (cz O28_sound) Try.func75 (by kernel_rfl) mixed (by kernel_rfl) (Nat.le_of_ble_eq_true (by kernel_rfl)) (r_value_byScore O28 K27_28 K23_28 K28_28 x.1 x.2 r h))
theorem inj29 : ∀ x y, a29 x = a29 y → x = y := by
  rintro ⟨⟨ua1, ua2⟩, ⟨ua3, ua4⟩⟩ ⟨⟨ub1, ub2⟩, ⟨ub3, ub4⟩⟩ h
  simp only [a29, Prod.mk.injEq, List.cons.injEq, D.v.injEq, D.agg.injEq, V.i.injEq, V.s.injEq, true_and, and_true] at h
  simp only [h]
theorem K29_29 : K_value_byScore O29 := fun p0 p1 r h => cM (x := (p0, p1)) inj29 h
def a30 (x : (List GScore)) : List D × aA := ([.v (.sl 2 (ab GScore.row x)), .clo 75 []], [])
noncomputable def O30 : ak := ak.addF O29 74 a30 (fun x => value_rising_Score_value_byScore x) (fun _ (r : Bool) => (.v (.b r), []))
set_option maxRecDepth 100000 in
theorem O30_sound : cE Try.prog O30 := cA O29_sound (fun x r h => cL (ν := n74) (cz O29_sound) Try.func74 (by kernel_rfl) mixed (by kernel_rfl) (Nat.le_of_ble_eq_true (by kernel_rfl)) (r_value_rising_Score_value_byScore O29 K29_29 x r h))
theorem inj30 : ∀ x y, a30 x = a30 y → x = y := by
  rintro ua1 ub1 h
  simp only [a30, Prod.mk.injEq, List.cons.injEq, D.v.injEq, V.sl.injEq, GScore.map_inj, true_and, and_true] at h
  exact h
theorem K30_30 : K_value_rising_Score_value_byScore O30 := fun p0 r h => cM (x := p0) inj30 h
theorem K23_29 : K_strings_Compare O29 := fun p0 p1 r h => (aV (by decide) _ _).trans (K23_28 p0 p1 r h)
theorem K23_30 : K_strings_Compare O30 := fun p0 p1 r h => (aV (by decide) _ _).trans (K23_29 p0 p1 r h)
def a31 (x : (List ByteArray)) : List D × aA := ([.v (.sl 1 (ab aY x)), .clo 77 []], [])
noncomputable def O31 : ak := ak.addF O30 76 a31 (fun x => value_rising_string_strings_Compare x) (fun _ (r : Bool) => (.v (.b r), []))
set_option maxRecDepth 100000 in
theorem O31_sound : cE Try.prog O31 := cA O30_sound (fun x r h => cL (ν := n76) (cz O30_sound) Try.func76 (by kernel_rfl) mixed (by kernel_rfl) (Nat.le_of_ble_eq_true (by kernel_rfl)) (r_value_rising_string_strings_Compare O30 K23_30 x r h))
theorem inj31 : ∀ x y, a31 x = a31 y → x = y := by
  rintro ua1 ub1 h
  simp only [a31, Prod.mk.injEq, List.cons.injEq, D.v.injEq, V.sl.injEq, cu, true_and, and_true] at h
  exact h
theorem K31_31 : K_value_rising_string_strings_Compare O31 := fun p0 r h => cM (x := p0) inj31 h
def a32 (x : GScore × ByteArray) : List D × aA := ([.agg [.v (.s x.1.fMember), .v (.i .i64 x.1.fN)], .ptr 0 0], [[.v (.s x.2)]])
noncomputable def O32 : ak := ak.addF O31 114 a32 (fun x => value_rank_fn1 x.1 x.2) (fun _ (r : Bool × ByteArray) => (.v (.b r.1), [[.v (.s r.2)]]))
set_option maxRecDepth 100000 in
theorem O32_sound : cE Try.prog O32 := cA O31_sound (fun x r h => cL (ν := n114) (cz O31_sound) Try.func114 (by kernel_rfl) mixed (by kernel_rfl) (Nat.le_of_ble_eq_true (by kernel_rfl)) (r_value_rank_fn1 O31 x.1 x.2 r h))
theorem inj32 : ∀ x y, a32 x = a32 y → x = y := by
  rintro ⟨⟨ua1, ua2⟩, ua3⟩ ⟨⟨ub1, ub2⟩, ub3⟩ h
  simp only [a32, Prod.mk.injEq, List.cons.injEq, D.v.injEq, D.agg.injEq, V.i.injEq, V.s.injEq, true_and, and_true] at h
  simp only [h]
theorem K32_32 : K_value_rank_fn1 O32 := fun p0 p1 r h => cM (x := (p0, p1)) inj32 h
def a33 (x : (List GScore) × ByteArray) : List D × aA := ([.v (.sl 2 (ab GScore.row x.1)), .clo 114 [.ptr 0 0]], [[.v (.s x.2)]])
noncomputable def O33 : ak := ak.addF O32 110 a33 (fun x => slices_IndexFunc_Score_Score_value_rank_fn1 x.1 x.2) (fun _ (r : Int × ByteArray) => (.v (.i .i64 r.1), [[.v (.s r.2)]]))
set_option maxRecDepth 100000 in
theorem O33_sound : cE Try.prog O33 := cA O32_sound (fun x r h => cL (ν := n110) (cz O32_sound) Try.func110 (by kernel_rfl) mixed (by kernel_rfl) (Nat.le_of_ble_eq_true (by kernel_rfl)) (r_slices_IndexFunc_Score_Score_value_rank_fn1 O32 K32_32 x.1 x.2 r h))
theorem inj33 : ∀ x y, a33 x = a33 y → x = y := by
  rintro ⟨ua1, ua2⟩ ⟨ub1, ub2⟩ h
  simp only [a33, Prod.mk.injEq, List.cons.injEq, D.v.injEq, V.s.injEq, V.sl.injEq, GScore.map_inj, true_and, and_true] at h
  simp only [h]
theorem K33_33 : K_slices_IndexFunc_Score_Score_value_rank_fn1 O33 := fun p0 p1 r h => cM (x := (p0, p1)) inj33 h
def a34 (x : (List GScore) × ByteArray) : List D × aA := ([.v (.sl 2 (ab GScore.row x.1)), .v (.s x.2)], [])
noncomputable def O34 : ak := ak.addF O33 78 a34 (fun x => value_rank x.1 x.2) (fun _ (r : Int) => (.v (.i .i64 r), []))
set_option maxRecDepth 100000 in
theorem O34_sound : cE Try.prog O34 := cA O33_sound (fun x r h => cL (ν := n78) (cz O33_sound) Try.func78 (by kernel_rfl) mixed (by kernel_rfl) (Nat.le_of_ble_eq_true (by kernel_rfl)) (r_value_rank O33 K33_33 x.1 x.2 r h))
theorem inj34 : ∀ x y, a34 x = a34 y → x = y := by
  rintro ⟨ua1, ua2⟩ ⟨ub1, ub2⟩ h
  simp only [a34, Prod.mk.injEq, List.cons.injEq, D.v.injEq, V.s.injEq, V.sl.injEq, GScore.map_inj, true_and, and_true] at h
  simp only [h]
theorem K34_34 : K_value_rank O34 := fun p0 p1 r h => cM (x := (p0, p1)) inj34 h
theorem K5_6 : K_value_elements O6 := fun p0 r h => (aV (by decide) _ _).trans (K5_5 p0 r h)
theorem K5_7 : K_value_elements O7 := fun p0 r h => (aV (by decide) _ _).trans (K5_6 p0 r h)
theorem K5_8 : K_value_elements O8 := fun p0 r h => (aV (by decide) _ _).trans (K5_7 p0 r h)
theorem K5_9 : K_value_elements O9 := fun p0 r h => (aV (by decide) _ _).trans (K5_8 p0 r h)
theorem K5_10 : K_value_elements O10 := fun p0 r h => (aV (by decide) _ _).trans (K5_9 p0 r h)
theorem K5_11 : K_value_elements O11 := fun p0 r h => (aV (by decide) _ _).trans (K5_10 p0 r h)
theorem K5_12 : K_value_elements O12 := fun p0 r h => (aV (by decide) _ _).trans (K5_11 p0 r h)
theorem K5_13 : K_value_elements O13 := fun p0 r h => (aV (by decide) _ _).trans (K5_12 p0 r h)
theorem K5_14 : K_value_elements O14 := fun p0 r h => (aV (by decide) _ _).trans (K5_13 p0 r h)
theorem K5_15 : K_value_elements O15 := fun p0 r h => (aV (by decide) _ _).trans (K5_14 p0 r h)
theorem K5_16 : K_value_elements O16 := fun p0 r h => (aV (by decide) _ _).trans (K5_15 p0 r h)
theorem K5_17 : K_value_elements O17 := fun p0 r h => (aV (by decide) _ _).trans (K5_16 p0 r h)
theorem K5_18 : K_value_elements O18 := fun p0 r h => (aV (by decide) _ _).trans (K5_17 p0 r h)
theorem K5_19 : K_value_elements O19 := fun p0 r h => (aV (by decide) _ _).trans (K5_18 p0 r h)
theorem K5_20 : K_value_elements O20 := fun p0 r h => (aV (by decide) _ _).trans (K5_19 p0 r h)
theorem K5_21 : K_value_elements O21 := fun p0 r h => (aV (by decide) _ _).trans (K5_20 p0 r h)
theorem K5_22 : K_value_elements O22 := fun p0 r h => (aV (by decide) _ _).trans (K5_21 p0 r h)
theorem K5_23 : K_value_elements O23 := fun p0 r h => (aV (by decide) _ _).trans (K5_22 p0 r h)
theorem K5_24 : K_value_elements O24 := fun p0 r h => (aV (by decide) _ _).trans (K5_23 p0 r h)
theorem K5_25 : K_value_elements O25 := fun p0 r h => (aV (by decide) _ _).trans (K5_24 p0 r h)
theorem K5_26 : K_value_elements O26 := fun p0 r h => (aV (by decide) _ _).trans (K5_25 p0 r h)
theorem K5_27 : K_value_elements O27 := fun p0 r h => (aV (by decide) _ _).trans (K5_26 p0 r h)
theorem K5_28 : K_value_elements O28 := fun p0 r h => (aV (by decide) _ _).trans (K5_27 p0 r h)
theorem K5_29 : K_value_elements O29 := fun p0 r h => (aV (by decide) _ _).trans (K5_28 p0 r h)
theorem K5_30 : K_value_elements O30 := fun p0 r h => (aV (by decide) _ _).trans (K5_29 p0 r h)
theorem K5_31 : K_value_elements O31 := fun p0 r h => (aV (by decide) _ _).trans (K5_30 p0 r h)
theorem K5_32 : K_value_elements O32 := fun p0 r h => (aV (by decide) _ _).trans (K5_31 p0 r h)
theorem K5_33 : K_value_elements O33 := fun p0 r h => (aV (by decide) _ _).trans (K5_32 p0 r h)
theorem K5_34 : K_value_elements O34 := fun p0 r h => (aV (by decide) _ _).trans (K5_33 p0 r h)
theorem K6_14 : K_value_text O14 := fun p0 r h => (aV (by decide) _ _).trans (K6_13 p0 r h)
theorem K6_15 : K_value_text O15 := fun p0 r h => (aV (by decide) _ _).trans (K6_14 p0 r h)
theorem K6_16 : K_value_text O16 := fun p0 r h => (aV (by decide) _ _).trans (K6_15 p0 r h)
theorem K6_17 : K_value_text O17 := fun p0 r h => (aV (by decide) _ _).trans (K6_16 p0 r h)
theorem K6_18 : K_value_text O18 := fun p0 r h => (aV (by decide) _ _).trans (K6_17 p0 r h)
theorem K6_19 : K_value_text O19 := fun p0 r h => (aV (by decide) _ _).trans (K6_18 p0 r h)
theorem K6_20 : K_value_text O20 := fun p0 r h => (aV (by decide) _ _).trans (K6_19 p0 r h)
theorem K6_21 : K_value_text O21 := fun p0 r h => (aV (by decide) _ _).trans (K6_20 p0 r h)
theorem K6_22 : K_value_text O22 := fun p0 r h => (aV (by decide) _ _).trans (K6_21 p0 r h)
theorem K6_23 : K_value_text O23 := fun p0 r h => (aV (by decide) _ _).trans (K6_22 p0 r h)
theorem K6_24 : K_value_text O24 := fun p0 r h => (aV (by decide) _ _).trans (K6_23 p0 r h)
theorem K6_25 : K_value_text O25 := fun p0 r h => (aV (by decide) _ _).trans (K6_24 p0 r h)
theorem K6_26 : K_value_text O26 := fun p0 r h => (aV (by decide) _ _).trans (K6_25 p0 r h)
theorem K6_27 : K_value_text O27 := fun p0 r h => (aV (by decide) _ _).trans (K6_26 p0 r h)
theorem K6_28 : K_value_text O28 := fun p0 r h => (aV (by decide) _ _).trans (K6_27 p0 r h)
theorem K6_29 : K_value_text O29 := fun p0 r h => (aV (by decide) _ _).trans (K6_28 p0 r h)
theorem K6_30 : K_value_text O30 := fun p0 r h => (aV (by decide) _ _).trans (K6_29 p0 r h)
theorem K6_31 : K_value_text O31 := fun p0 r h => (aV (by decide) _ _).trans (K6_30 p0 r h)
theorem K6_32 : K_value_text O32 := fun p0 r h => (aV (by decide) _ _).trans (K6_31 p0 r h)
theorem K6_33 : K_value_text O33 := fun p0 r h => (aV (by decide) _ _).trans (K6_32 p0 r h)
theorem K6_34 : K_value_text O34 := fun p0 r h => (aV (by decide) _ _).trans (K6_33 p0 r h)
theorem K9_10 : K_slices_ContainsFunc_string_string_value_Check_fn1 O10 := fun p0 r h => (aV (by decide) _ _).trans (K9_9 p0 r h)
theorem K9_11 : K_slices_ContainsFunc_string_string_value_Check_fn1 O11 := fun p0 r h => (aV (by decide) _ _).trans (K9_10 p0 r h)
theorem K9_12 : K_slices_ContainsFunc_string_string_value_Check_fn1 O12 := fun p0 r h => (aV (by decide) _ _).trans (K9_11 p0 r h)
theorem K9_13 : K_slices_ContainsFunc_string_string_value_Check_fn1 O13 := fun p0 r h => (aV (by decide) _ _).trans (K9_12 p0 r h)
theorem K9_14 : K_slices_ContainsFunc_string_string_value_Check_fn1 O14 := fun p0 r h => (aV (by decide) _ _).trans (K9_13 p0 r h)
theorem K9_15 : K_slices_ContainsFunc_string_string_value_Check_fn1 O15 := fun p0 r h => (aV (by decide) _ _).trans (K9_14 p0 r h)
theorem K9_16 : K_slices_ContainsFunc_string_string_value_Check_fn1 O16 := fun p0 r h => (aV (by decide) _ _).trans (K9_15 p0 r h)
theorem K9_17 : K_slices_ContainsFunc_string_string_value_Check_fn1 O17 := fun p0 r h => (aV (by decide) _ _).trans (K9_16 p0 r h)
theorem K9_18 : K_slices_ContainsFunc_string_string_value_Check_fn1 O18 := fun p0 r h => (aV (by decide) _ _).trans (K9_17 p0 r h)
theorem K9_19 : K_slices_ContainsFunc_string_string_value_Check_fn1 O19 := fun p0 r h => (aV (by decide) _ _).trans (K9_18 p0 r h)
theorem K9_20 : K_slices_ContainsFunc_string_string_value_Check_fn1 O20 := fun p0 r h => (aV (by decide) _ _).trans (K9_19 p0 r h)
theorem K9_21 : K_slices_ContainsFunc_string_string_value_Check_fn1 O21 := fun p0 r h => (aV (by decide) _ _).trans (K9_20 p0 r h)
theorem K9_22 : K_slices_ContainsFunc_string_string_value_Check_fn1 O22 := fun p0 r h => (aV (by decide) _ _).trans (K9_21 p0 r h)
theorem K9_23 : K_slices_ContainsFunc_string_string_value_Check_fn1 O23 := fun p0 r h => (aV (by decide) _ _).trans (K9_22 p0 r h)
theorem K9_24 : K_slices_ContainsFunc_string_string_value_Check_fn1 O24 := fun p0 r h => (aV (by decide) _ _).trans (K9_23 p0 r h)
theorem K9_25 : K_slices_ContainsFunc_string_string_value_Check_fn1 O25 := fun p0 r h => (aV (by decide) _ _).trans (K9_24 p0 r h)
theorem K9_26 : K_slices_ContainsFunc_string_string_value_Check_fn1 O26 := fun p0 r h => (aV (by decide) _ _).trans (K9_25 p0 r h)
theorem K9_27 : K_slices_ContainsFunc_string_string_value_Check_fn1 O27 := fun p0 r h => (aV (by decide) _ _).trans (K9_26 p0 r h)
theorem K9_28 : K_slices_ContainsFunc_string_string_value_Check_fn1 O28 := fun p0 r h => (aV (by decide) _ _).trans (K9_27 p0 r h)
theorem K9_29 : K_slices_ContainsFunc_string_string_value_Check_fn1 O29 := fun p0 r h => (aV (by decide) _ _).trans (K9_28 p0 r h)
theorem K9_30 : K_slices_ContainsFunc_string_string_value_Check_fn1 O30 := fun p0 r h => (aV (by decide) _ _).trans (K9_29 p0 r h)
theorem K9_31 : K_slices_ContainsFunc_string_string_value_Check_fn1 O31 := fun p0 r h => (aV (by decide) _ _).trans (K9_30 p0 r h)
theorem K9_32 : K_slices_ContainsFunc_string_string_value_Check_fn1 O32 := fun p0 r h => (aV (by decide) _ _).trans (K9_31 p0 r h)
theorem K9_33 : K_slices_ContainsFunc_string_string_value_Check_fn1 O33 := fun p0 r h => (aV (by decide) _ _).trans (K9_32 p0 r h)
theorem K9_34 : K_slices_ContainsFunc_string_string_value_Check_fn1 O34 := fun p0 r h => (aV (by decide) _ _).trans (K9_33 p0 r h)
theorem K13_14 : K_slices_ContainsFunc_Pair_Pair_value_Check_fn2 O14 := fun p0 r h => (aV (by decide) _ _).trans (K13_13 p0 r h)
theorem K13_15 : K_slices_ContainsFunc_Pair_Pair_value_Check_fn2 O15 := fun p0 r h => (aV (by decide) _ _).trans (K13_14 p0 r h)
theorem K13_16 : K_slices_ContainsFunc_Pair_Pair_value_Check_fn2 O16 := fun p0 r h => (aV (by decide) _ _).trans (K13_15 p0 r h)
theorem K13_17 : K_slices_ContainsFunc_Pair_Pair_value_Check_fn2 O17 := fun p0 r h => (aV (by decide) _ _).trans (K13_16 p0 r h)
theorem K13_18 : K_slices_ContainsFunc_Pair_Pair_value_Check_fn2 O18 := fun p0 r h => (aV (by decide) _ _).trans (K13_17 p0 r h)
theorem K13_19 : K_slices_ContainsFunc_Pair_Pair_value_Check_fn2 O19 := fun p0 r h => (aV (by decide) _ _).trans (K13_18 p0 r h)
theorem K13_20 : K_slices_ContainsFunc_Pair_Pair_value_Check_fn2 O20 := fun p0 r h => (aV (by decide) _ _).trans (K13_19 p0 r h)
theorem K13_21 : K_slices_ContainsFunc_Pair_Pair_value_Check_fn2 O21 := fun p0 r h => (aV (by decide) _ _).trans (K13_20 p0 r h)
theorem K13_22 : K_slices_ContainsFunc_Pair_Pair_value_Check_fn2 O22 := fun p0 r h => (aV (by decide) _ _).trans (K13_21 p0 r h)
theorem K13_23 : K_slices_ContainsFunc_Pair_Pair_value_Check_fn2 O23 := fun p0 r h => (aV (by decide) _ _).trans (K13_22 p0 r h)
theorem K13_24 : K_slices_ContainsFunc_Pair_Pair_value_Check_fn2 O24 := fun p0 r h => (aV (by decide) _ _).trans (K13_23 p0 r h)
theorem K13_25 : K_slices_ContainsFunc_Pair_Pair_value_Check_fn2 O25 := fun p0 r h => (aV (by decide) _ _).trans (K13_24 p0 r h)
theorem K13_26 : K_slices_ContainsFunc_Pair_Pair_value_Check_fn2 O26 := fun p0 r h => (aV (by decide) _ _).trans (K13_25 p0 r h)
theorem K13_27 : K_slices_ContainsFunc_Pair_Pair_value_Check_fn2 O27 := fun p0 r h => (aV (by decide) _ _).trans (K13_26 p0 r h)
theorem K13_28 : K_slices_ContainsFunc_Pair_Pair_value_Check_fn2 O28 := fun p0 r h => (aV (by decide) _ _).trans (K13_27 p0 r h)
theorem K13_29 : K_slices_ContainsFunc_Pair_Pair_value_Check_fn2 O29 := fun p0 r h => (aV (by decide) _ _).trans (K13_28 p0 r h)
theorem K13_30 : K_slices_ContainsFunc_Pair_Pair_value_Check_fn2 O30 := fun p0 r h => (aV (by decide) _ _).trans (K13_29 p0 r h)
theorem K13_31 : K_slices_ContainsFunc_Pair_Pair_value_Check_fn2 O31 := fun p0 r h => (aV (by decide) _ _).trans (K13_30 p0 r h)
theorem K13_32 : K_slices_ContainsFunc_Pair_Pair_value_Check_fn2 O32 := fun p0 r h => (aV (by decide) _ _).trans (K13_31 p0 r h)
theorem K13_33 : K_slices_ContainsFunc_Pair_Pair_value_Check_fn2 O33 := fun p0 r h => (aV (by decide) _ _).trans (K13_32 p0 r h)
theorem K13_34 : K_slices_ContainsFunc_Pair_Pair_value_Check_fn2 O34 := fun p0 r h => (aV (by decide) _ _).trans (K13_33 p0 r h)
theorem K16_17 : K_slices_ContainsFunc_Score_Score_value_Check_fn3 O17 := fun p0 r h => (aV (by decide) _ _).trans (K16_16 p0 r h)
theorem K16_18 : K_slices_ContainsFunc_Score_Score_value_Check_fn3 O18 := fun p0 r h => (aV (by decide) _ _).trans (K16_17 p0 r h)
theorem K16_19 : K_slices_ContainsFunc_Score_Score_value_Check_fn3 O19 := fun p0 r h => (aV (by decide) _ _).trans (K16_18 p0 r h)
theorem K16_20 : K_slices_ContainsFunc_Score_Score_value_Check_fn3 O20 := fun p0 r h => (addF_other (by intro x hx; simp [a20] at hx)).trans (K16_19 p0 r h)
theorem K16_21 : K_slices_ContainsFunc_Score_Score_value_Check_fn3 O21 := fun p0 r h => (aV (by decide) _ _).trans (K16_20 p0 r h)
theorem K16_22 : K_slices_ContainsFunc_Score_Score_value_Check_fn3 O22 := fun p0 r h => (aV (by decide) _ _).trans (K16_21 p0 r h)
theorem K16_23 : K_slices_ContainsFunc_Score_Score_value_Check_fn3 O23 := fun p0 r h => (aV (by decide) _ _).trans (K16_22 p0 r h)
theorem K16_24 : K_slices_ContainsFunc_Score_Score_value_Check_fn3 O24 := fun p0 r h => (aV (by decide) _ _).trans (K16_23 p0 r h)
theorem K16_25 : K_slices_ContainsFunc_Score_Score_value_Check_fn3 O25 := fun p0 r h => (aV (by decide) _ _).trans (K16_24 p0 r h)
theorem K16_26 : K_slices_ContainsFunc_Score_Score_value_Check_fn3 O26 := fun p0 r h => (aV (by decide) _ _).trans (K16_25 p0 r h)
theorem K16_27 : K_slices_ContainsFunc_Score_Score_value_Check_fn3 O27 := fun p0 r h => (aV (by decide) _ _).trans (K16_26 p0 r h)
theorem K16_28 : K_slices_ContainsFunc_Score_Score_value_Check_fn3 O28 := fun p0 r h => (aV (by decide) _ _).trans (K16_27 p0 r h)
theorem K16_29 : K_slices_ContainsFunc_Score_Score_value_Check_fn3 O29 := fun p0 r h => (aV (by decide) _ _).trans (K16_28 p0 r h)
theorem K16_30 : K_slices_ContainsFunc_Score_Score_value_Check_fn3 O30 := fun p0 r h => (aV (by decide) _ _).trans (K16_29 p0 r h)
theorem K16_31 : K_slices_ContainsFunc_Score_Score_value_Check_fn3 O31 := fun p0 r h => (aV (by decide) _ _).trans (K16_30 p0 r h)
theorem K16_32 : K_slices_ContainsFunc_Score_Score_value_Check_fn3 O32 := fun p0 r h => (aV (by decide) _ _).trans (K16_31 p0 r h)
theorem K16_33 : K_slices_ContainsFunc_Score_Score_value_Check_fn3 O33 := fun p0 r h => (aV (by decide) _ _).trans (K16_32 p0 r h)
theorem K16_34 : K_slices_ContainsFunc_Score_Score_value_Check_fn3 O34 := fun p0 r h => (aV (by decide) _ _).trans (K16_33 p0 r h)
theorem K17_18 : K_value_count O18 := fun p0 r h => (aV (by decide) _ _).trans (K17_17 p0 r h)
theorem K17_19 : K_value_count O19 := fun p0 r h => (aV (by decide) _ _).trans (K17_18 p0 r h)
theorem K17_20 : K_value_count O20 := fun p0 r h => (aV (by decide) _ _).trans (K17_19 p0 r h)
theorem K17_21 : K_value_count O21 := fun p0 r h => (aV (by decide) _ _).trans (K17_20 p0 r h)
theorem K17_22 : K_value_count O22 := fun p0 r h => (aV (by decide) _ _).trans (K17_21 p0 r h)
theorem K17_23 : K_value_count O23 := fun p0 r h => (aV (by decide) _ _).trans (K17_22 p0 r h)
theorem K17_24 : K_value_count O24 := fun p0 r h => (aV (by decide) _ _).trans (K17_23 p0 r h)
theorem K17_25 : K_value_count O25 := fun p0 r h => (aV (by decide) _ _).trans (K17_24 p0 r h)
theorem K17_26 : K_value_count O26 := fun p0 r h => (aV (by decide) _ _).trans (K17_25 p0 r h)
theorem K17_27 : K_value_count O27 := fun p0 r h => (aV (by decide) _ _).trans (K17_26 p0 r h)
theorem K17_28 : K_value_count O28 := fun p0 r h => (aV (by decide) _ _).trans (K17_27 p0 r h)
theorem K17_29 : K_value_count O29 := fun p0 r h => (aV (by decide) _ _).trans (K17_28 p0 r h)
theorem K17_30 : K_value_count O30 := fun p0 r h => (aV (by decide) _ _).trans (K17_29 p0 r h)
theorem K17_31 : K_value_count O31 := fun p0 r h => (aV (by decide) _ _).trans (K17_30 p0 r h)
theorem K17_32 : K_value_count O32 := fun p0 r h => (aV (by decide) _ _).trans (K17_31 p0 r h)
theorem K17_33 : K_value_count O33 := fun p0 r h => (aV (by decide) _ _).trans (K17_32 p0 r h)
theorem K17_34 : K_value_count O34 := fun p0 r h => (aV (by decide) _ _).trans (K17_33 p0 r h)
theorem K20_21 : K_slices_ContainsFunc_Score_Score_value_Check_fn4 O21 := fun p0 r h => (aV (by decide) _ _).trans (K20_20 p0 r h)
theorem K20_22 : K_slices_ContainsFunc_Score_Score_value_Check_fn4 O22 := fun p0 r h => (aV (by decide) _ _).trans (K20_21 p0 r h)
theorem K20_23 : K_slices_ContainsFunc_Score_Score_value_Check_fn4 O23 := fun p0 r h => (aV (by decide) _ _).trans (K20_22 p0 r h)
theorem K20_24 : K_slices_ContainsFunc_Score_Score_value_Check_fn4 O24 := fun p0 r h => (aV (by decide) _ _).trans (K20_23 p0 r h)
theorem K20_25 : K_slices_ContainsFunc_Score_Score_value_Check_fn4 O25 := fun p0 r h => (aV (by decide) _ _).trans (K20_24 p0 r h)
theorem K20_26 : K_slices_ContainsFunc_Score_Score_value_Check_fn4 O26 := fun p0 r h => (aV (by decide) _ _).trans (K20_25 p0 r h)
theorem K20_27 : K_slices_ContainsFunc_Score_Score_value_Check_fn4 O27 := fun p0 r h => (aV (by decide) _ _).trans (K20_26 p0 r h)
theorem K20_28 : K_slices_ContainsFunc_Score_Score_value_Check_fn4 O28 := fun p0 r h => (aV (by decide) _ _).trans (K20_27 p0 r h)
theorem K20_29 : K_slices_ContainsFunc_Score_Score_value_Check_fn4 O29 := fun p0 r h => (aV (by decide) _ _).trans (K20_28 p0 r h)
theorem K20_30 : K_slices_ContainsFunc_Score_Score_value_Check_fn4 O30 := fun p0 r h => (aV (by decide) _ _).trans (K20_29 p0 r h)
theorem K20_31 : K_slices_ContainsFunc_Score_Score_value_Check_fn4 O31 := fun p0 r h => (aV (by decide) _ _).trans (K20_30 p0 r h)
theorem K20_32 : K_slices_ContainsFunc_Score_Score_value_Check_fn4 O32 := fun p0 r h => (aV (by decide) _ _).trans (K20_31 p0 r h)
theorem K20_33 : K_slices_ContainsFunc_Score_Score_value_Check_fn4 O33 := fun p0 r h => (aV (by decide) _ _).trans (K20_32 p0 r h)
theorem K20_34 : K_slices_ContainsFunc_Score_Score_value_Check_fn4 O34 := fun p0 r h => (aV (by decide) _ _).trans (K20_33 p0 r h)
theorem K25_26 : K_value_rising_Pair_value_byField O26 := fun p0 r h => (aV (by decide) _ _).trans (K25_25 p0 r h)
theorem K25_27 : K_value_rising_Pair_value_byField O27 := fun p0 r h => (aV (by decide) _ _).trans (K25_26 p0 r h)
theorem K25_28 : K_value_rising_Pair_value_byField O28 := fun p0 r h => (aV (by decide) _ _).trans (K25_27 p0 r h)
theorem K25_29 : K_value_rising_Pair_value_byField O29 := fun p0 r h => (aV (by decide) _ _).trans (K25_28 p0 r h)
theorem K25_30 : K_value_rising_Pair_value_byField O30 := fun p0 r h => (aV (by decide) _ _).trans (K25_29 p0 r h)
theorem K25_31 : K_value_rising_Pair_value_byField O31 := fun p0 r h => (aV (by decide) _ _).trans (K25_30 p0 r h)
theorem K25_32 : K_value_rising_Pair_value_byField O32 := fun p0 r h => (aV (by decide) _ _).trans (K25_31 p0 r h)
theorem K25_33 : K_value_rising_Pair_value_byField O33 := fun p0 r h => (aV (by decide) _ _).trans (K25_32 p0 r h)
theorem K25_34 : K_value_rising_Pair_value_byField O34 := fun p0 r h => (aV (by decide) _ _).trans (K25_33 p0 r h)
theorem K30_31 : K_value_rising_Score_value_byScore O31 := fun p0 r h => (aV (by decide) _ _).trans (K30_30 p0 r h)
theorem K30_32 : K_value_rising_Score_value_byScore O32 := fun p0 r h => (aV (by decide) _ _).trans (K30_31 p0 r h)
theorem K30_33 : K_value_rising_Score_value_byScore O33 := fun p0 r h => (aV (by decide) _ _).trans (K30_32 p0 r h)
theorem K30_34 : K_value_rising_Score_value_byScore O34 := fun p0 r h => (aV (by decide) _ _).trans (K30_33 p0 r h)
theorem K31_32 : K_value_rising_string_strings_Compare O32 := fun p0 r h => (aV (by decide) _ _).trans (K31_31 p0 r h)
theorem K31_33 : K_value_rising_string_strings_Compare O33 := fun p0 r h => (aV (by decide) _ _).trans (K31_32 p0 r h)
theorem K31_34 : K_value_rising_string_strings_Compare O34 := fun p0 r h => (aV (by decide) _ _).trans (K31_33 p0 r h)
def a35 (x : GValue) : List D × aA := ([.agg [.v (.i .i64 x.fKind), .v (.s x.fText), .v (.i .i64 x.fCount), .v (.sl 2 (ab GPair.row x.fPairs)), .v (.sl 1 (ab aY x.fItems)), .v (.sl 2 (ab GScore.row x.fScores))]], [])
noncomputable def O35 : ak := ak.addF O34 28 a35 (fun x => value_Check x) (fun _ (r : Int) => (.v (.i .i64 r), []))
set_option maxRecDepth 100000 in
theorem O35_sound : cE Try.prog O35 := cA O34_sound (fun x r h => cL (ν := n28) (cz O34_sound) Try.func28 (by kernel_rfl) mixed (by kernel_rfl) (Nat.le_of_ble_eq_true (by kernel_rfl)) (r_value_Check O34 K5_34 K6_34 K9_34 K13_34 K16_34 K17_34 K20_34 K25_34 K30_34 K31_34 K34_34 x r h))
theorem inj35 : ∀ x y, a35 x = a35 y → x = y := by
  rintro ⟨ua1, ua2, ua3, ua4, ua5, ua6⟩ ⟨ub1, ub2, ub3, ub4, ub5, ub6⟩ h
  simp only [a35, Prod.mk.injEq, List.cons.injEq, D.v.injEq, D.agg.injEq, V.i.injEq, V.s.injEq, V.sl.injEq, cu, GPair.map_inj, GScore.map_inj, true_and, and_true] at h
  simp only [h]
theorem K35_35 : K_value_Check O35 := fun p0 r h => cM (x := p0) inj35 h
def a36 (x : GStore) : List D × aA := ([.agg [.v (.i .i64 x.fNow), .v (.sl 8 (ab GEntry.row x.fEntries))]], [])
noncomputable def O36 : ak := ak.addF O35 34 a36 (fun x => store_Check x) (fun _ (r : Int) => (.v (.i .i64 r), []))
set_option maxRecDepth 100000 in
theorem O36_sound : cE Try.prog O36 := cA O35_sound (fun x r h => cL (ν := n34) (cz O35_sound) Try.func34 (by kernel_rfl) mixed (by kernel_rfl) (Nat.le_of_ble_eq_true (by kernel_rfl)) (r_store_Check O35 K35_35 x r h))
theorem inj36 : ∀ x y, a36 x = a36 y → x = y := by
  rintro ⟨ua1, ua2⟩ ⟨ub1, ub2⟩ h
  simp only [a36, Prod.mk.injEq, List.cons.injEq, D.v.injEq, D.agg.injEq, V.i.injEq, V.sl.injEq, GEntry.map_inj, true_and, and_true] at h
  simp only [h]
theorem K36_36 : K_store_Check O36 := fun p0 r h => cM (x := p0) inj36 h
def a37 (x : ByteArray) : List D × aA := ([.v (.s x)], [])
noncomputable def O37 : ak := ak.addF O36 122 a37 (fun x => client_CheckReply_fn1 x) (fun _ (r : Bool) => (.v (.b r), []))
set_option maxRecDepth 100000 in
theorem O37_sound : cE Try.prog O37 := cA O36_sound (fun x r h => cL (ν := n122) (cz O36_sound) Try.func122 (by kernel_rfl) mixed (by kernel_rfl) (Nat.le_of_ble_eq_true (by kernel_rfl)) (r_client_CheckReply_fn1 O36 x r h))
theorem inj37 : ∀ x y, a37 x = a37 y → x = y := by
  rintro ua1 ub1 h
  simp only [a37, Prod.mk.injEq, List.cons.injEq, D.v.injEq, V.s.injEq, and_true] at h
  exact h
theorem K37_37 : K_client_CheckReply_fn1 O37 := fun p0 r h => cM (x := p0) inj37 h
def a38 (x : (List ByteArray)) : List D × aA := ([.v (.sl 1 (ab aY x)), .clo 122 []], [])
noncomputable def O38 : ak := ak.addF O37 108 a38 (fun x => slices_IndexFunc_string_string_client_CheckReply_fn1 x) (fun _ (r : Int) => (.v (.i .i64 r), []))
set_option maxRecDepth 100000 in
theorem O38_sound : cE Try.prog O38 := cA O37_sound (fun x r h => cL (ν := n108) (cz O37_sound) Try.func108 (by kernel_rfl) mixed (by kernel_rfl) (Nat.le_of_ble_eq_true (by kernel_rfl)) (r_slices_IndexFunc_string_string_client_CheckReply_fn1 O37 K37_37 x r h))
theorem inj38 : ∀ x y, a38 x = a38 y → x = y := by
  rintro ua1 ub1 h
  simp only [a38, Prod.mk.injEq, List.cons.injEq, D.v.injEq, V.sl.injEq, cu, true_and, and_true] at h
  exact h
theorem K38_38 : K_slices_IndexFunc_string_string_client_CheckReply_fn1 O38 := fun p0 r h => cM (x := p0) inj38 h
def a39 (x : (List ByteArray)) : List D × aA := ([.v (.sl 1 (ab aY x)), .clo 122 []], [])
noncomputable def O39 : ak := ak.addF O38 63 a39 (fun x => slices_ContainsFunc_string_string_client_CheckReply_fn1 x) (fun _ (r : Bool) => (.v (.b r), []))
set_option maxRecDepth 100000 in
theorem O39_sound : cE Try.prog O39 := cA O38_sound (fun x r h => cL (ν := n63) (cz O38_sound) Try.func63 (by kernel_rfl) mixed (by kernel_rfl) (Nat.le_of_ble_eq_true (by kernel_rfl)) (r_slices_ContainsFunc_string_string_client_CheckReply_fn1 O38 K38_38 x r h))
theorem inj39 : ∀ x y, a39 x = a39 y → x = y := by
  rintro ua1 ub1 h
  simp only [a39, Prod.mk.injEq, List.cons.injEq, D.v.injEq, V.sl.injEq, cu, true_and, and_true] at h
  exact h
theorem K39_39 : K_slices_ContainsFunc_string_string_client_CheckReply_fn1 O39 := fun p0 r h => cM (x := p0) inj39 h
def a40 (x : GReply) : List D × aA := ([.agg [.v (.i .i64 x.fCode), .v (.s x.fText), .v (.i .i64 x.fN), .v (.sl 1 (ab aY x.fList))]], [])
noncomputable def O40 : ak := ak.addF O39 89 a40 (fun x => client_CheckReply x) (fun _ (r : Int) => (.v (.i .i64 r), []))
set_option maxRecDepth 100000 in
theorem O40_sound : cE Try.prog O40 := cA O39_sound (fun x r h => cL (ν := n89) (cz O39_sound) Try.func89 (by kernel_rfl) mixed (by kernel_rfl) (Nat.le_of_ble_eq_true (by kernel_rfl)) (r_client_CheckReply O39 K39_39 x r h))
theorem inj40 : ∀ x y, a40 x = a40 y → x = y := by
  rintro ⟨ua1, ua2, ua3, ua4⟩ ⟨ub1, ub2, ub3, ub4⟩ h
  simp only [a40, Prod.mk.injEq, List.cons.injEq, D.v.injEq, D.agg.injEq, V.i.injEq, V.s.injEq, V.sl.injEq, cu, true_and, and_true] at h
  simp only [h]
theorem K40_40 : K_client_CheckReply O40 := fun p0 r h => cM (x := p0) inj40 h
theorem K36_37 : K_store_Check O37 := fun p0 r h => (aV (by decide) _ _).trans (K36_36 p0 r h)
theorem K36_38 : K_store_Check O38 := fun p0 r h => (aV (by decide) _ _).trans (K36_37 p0 r h)
theorem K36_39 : K_store_Check O39 := fun p0 r h => (aV (by decide) _ _).trans (K36_38 p0 r h)
theorem K36_40 : K_store_Check O40 := fun p0 r h => (aV (by decide) _ _).trans (K36_39 p0 r h)
def a41 (x : GMachine) : List D × aA := ([.agg [.v (.i .i64 x.fStore.fNow), .v (.sl 8 (ab GEntry.row x.fStore.fEntries)), .v (.i .i64 x.fNext), .v (.sl 7 (ab GClient.row x.fClients))]], [])
noncomputable def O41 : ak := ak.addF O40 40 a41 (fun x => client_Check x) (fun _ (r : Int) => (.v (.i .i64 r), []))
set_option maxRecDepth 100000 in
theorem O41_sound : cE Try.prog O41 := cA O40_sound (fun x r h => cL (ν := n40) (cz O40_sound) Try.func40 (by kernel_rfl) mixed (by kernel_rfl) (Nat.le_of_ble_eq_true (by kernel_rfl)) (r_client_Check O40 K36_40 K40_40 x r h))
theorem inj41 : ∀ x y, a41 x = a41 y → x = y := by
  rintro ⟨⟨ua1, ua2⟩, ua3, ua4⟩ ⟨⟨ub1, ub2⟩, ub3, ub4⟩ h
  simp only [a41, Prod.mk.injEq, List.cons.injEq, D.v.injEq, D.agg.injEq, V.i.injEq, V.sl.injEq, GEntry.map_inj, GClient.map_inj, true_and, and_true] at h
  simp only [h]
theorem K41_41 : K_client_Check O41 := fun p0 r h => cM (x := p0) inj41 h
def a42 (x : Int × Int × Int) : List D × aA := ([.v (.i .i64 x.1), .v (.i .i64 x.2.1), .v (.i .i64 x.2.2)], [])
noncomputable def O42 : ak := ak.addF O41 55 a42 (fun x => rostrumref_In x.1 x.2.1 x.2.2) (fun _ (r : Bool) => (.v (.b r), []))
set_option maxRecDepth 100000 in
theorem O42_sound : cE Try.prog O42 := cA O41_sound (fun x r h => cL (ν := n55) (cz O41_sound) Try.func55 (by kernel_rfl) mixed (by kernel_rfl) (Nat.le_of_ble_eq_true (by kernel_rfl)) (r_rostrumref_In O41 x.1 x.2.1 x.2.2 r h))
theorem inj42 : ∀ x y, a42 x = a42 y → x = y := by
  rintro ⟨ua1, ua2, ua3⟩ ⟨ub1, ub2, ub3⟩ h
  simp only [a42, Prod.mk.injEq, List.cons.injEq, D.v.injEq, V.i.injEq, true_and, and_true] at h
  simp only [h]
theorem K42_42 : K_rostrumref_In O42 := fun p0 p1 p2 r h => cM (x := (p0, p1, p2)) inj42 h
def a43 (x : ByteArray) : List D × aA := ([.v (.s x)], [])
noncomputable def O43 : ak := ak.addF O42 81 a43 (fun x => rostrumref_fieldMay x) (fun _ (r : Bool) => (.v (.b r), []))
set_option maxRecDepth 100000 in
theorem O43_sound : cE Try.prog O43 := cA O42_sound (fun x r h => cL (ν := n81) (cz O42_sound) Try.func81 (by kernel_rfl) mixed (by kernel_rfl) (Nat.le_of_ble_eq_true (by kernel_rfl)) (r_rostrumref_fieldMay O42 K42_42 x r h))
theorem inj43 : ∀ x y, a43 x = a43 y → x = y := by
  rintro ua1 ub1 h
  simp only [a43, Prod.mk.injEq, List.cons.injEq, D.v.injEq, V.s.injEq, and_true] at h
  exact h
theorem K43_43 : K_rostrumref_fieldMay O43 := fun p0 r h => cM (x := p0) inj43 h
def a44 (x : GValue) : List D × aA := ([.agg [.v (.i .i64 x.fKind), .v (.s x.fText), .v (.i .i64 x.fCount), .v (.sl 2 (ab GPair.row x.fPairs)), .v (.sl 1 (ab aY x.fItems)), .v (.sl 2 (ab GScore.row x.fScores))]], [])
noncomputable def O44 : ak := ak.addF O43 79 a44 (fun x => rostrumref_sizeOf x) (fun _ (r : Int) => (.v (.i .i64 r), []))
set_option maxRecDepth 100000 in
theorem O44_sound : cE Try.prog O44 := cA O43_sound (fun x r h => cL (ν := n79) (cz O43_sound) Try.func79 (by kernel_rfl) mixed (by kernel_rfl) (Nat.le_of_ble_eq_true (by kernel_rfl)) (r_rostrumref_sizeOf O43 x r h))
theorem inj44 : ∀ x y, a44 x = a44 y → x = y := by
  rintro ⟨ua1, ua2, ua3, ua4, ua5, ua6⟩ ⟨ub1, ub2, ub3, ub4, ub5, ub6⟩ h
  simp only [a44, Prod.mk.injEq, List.cons.injEq, D.v.injEq, D.agg.injEq, V.i.injEq, V.s.injEq, V.sl.injEq, cu, GPair.map_inj, GScore.map_inj, true_and, and_true] at h
  simp only [h]
theorem K44_44 : K_rostrumref_sizeOf O44 := fun p0 r h => cM (x := p0) inj44 h
def a45 (x : ByteArray) : List D × aA := ([.v (.s x)], [])
noncomputable def O45 : ak := ak.addF O44 80 a45 (fun x => rostrumref_textMay x) (fun _ (r : Bool) => (.v (.b r), []))
set_option maxRecDepth 100000 in
theorem O45_sound : cE Try.prog O45 := cA O44_sound (fun x r h => cL (ν := n80) (cz O44_sound) Try.func80 (by kernel_rfl) mixed (by kernel_rfl) (Nat.le_of_ble_eq_true (by kernel_rfl)) (r_rostrumref_textMay O44 x r h))
theorem inj45 : ∀ x y, a45 x = a45 y → x = y := by
  rintro ua1 ub1 h
  simp only [a45, Prod.mk.injEq, List.cons.injEq, D.v.injEq, V.s.injEq, and_true] at h
  exact h
theorem K45_45 : K_rostrumref_textMay O45 := fun p0 r h => cM (x := p0) inj45 h
theorem K42_43 : K_rostrumref_In O43 := fun p0 p1 p2 r h => (aV (by decide) _ _).trans (K42_42 p0 p1 p2 r h)
theorem K42_44 : K_rostrumref_In O44 := fun p0 p1 p2 r h => (aV (by decide) _ _).trans (K42_43 p0 p1 p2 r h)
theorem K42_45 : K_rostrumref_In O45 := fun p0 p1 p2 r h => (aV (by decide) _ _).trans (K42_44 p0 p1 p2 r h)
def a46 (x : Int) : List D × aA := ([.v (.i .i64 x)], [])
noncomputable def O46 : ak := ak.addF O45 82 a46 (fun x => rostrumref_countMay x) (fun _ (r : Bool) => (.v (.b r), []))
set_option maxRecDepth 100000 in
theorem O46_sound : cE Try.prog O46 := cA O45_sound (fun x r h => cL (ν := n82) (cz O45_sound) Try.func82 (by kernel_rfl) mixed (by kernel_rfl) (Nat.le_of_ble_eq_true (by kernel_rfl)) (r_rostrumref_countMay O45 K42_45 x r h))
theorem inj46 : ∀ x y, a46 x = a46 y → x = y := by
  rintro ua1 ub1 h
  simp only [a46, Prod.mk.injEq, List.cons.injEq, D.v.injEq, V.i.injEq, true_and, and_true] at h
  exact h
theorem K46_46 : K_rostrumref_countMay O46 := fun p0 r h => cM (x := p0) inj46 h
def a47 (x : GScore × GScore) : List D × aA := ([.agg [.v (.s x.1.fMember), .v (.i .i64 x.1.fN)], .agg [.v (.s x.2.fMember), .v (.i .i64 x.2.fN)]], [])
noncomputable def O47 : ak := ak.addF O46 83 a47 (fun x => rostrumref_scoreAhead x.1 x.2) (fun _ (r : Bool) => (.v (.b r), []))
set_option maxRecDepth 100000 in
theorem O47_sound : cE Try.prog O47 := cA O46_sound (fun x r h => cL (ν := n83) (cz O46_sound) Try.func83 (by kernel_rfl) mixed (by kernel_rfl) (Nat.le_of_ble_eq_true (by kernel_rfl)) (r_rostrumref_scoreAhead O46 x.1 x.2 r h))
theorem inj47 : ∀ x y, a47 x = a47 y → x = y := by
  rintro ⟨⟨ua1, ua2⟩, ⟨ua3, ua4⟩⟩ ⟨⟨ub1, ub2⟩, ⟨ub3, ub4⟩⟩ h
  simp only [a47, Prod.mk.injEq, List.cons.injEq, D.v.injEq, D.agg.injEq, V.i.injEq, V.s.injEq, true_and, and_true] at h
  simp only [h]
theorem K47_47 : K_rostrumref_scoreAhead O47 := fun p0 p1 r h => cM (x := (p0, p1)) inj47 h
def a48 (x : (List GScore) × ByteArray) : List D × aA := ([.v (.sl 2 (ab GScore.row x.1)), .v (.s x.2)], [])
noncomputable def O48 : ak := ak.addF O47 84 a48 (fun x => rostrumref_memberAt x.1 x.2) (fun _ (r : Int) => (.v (.i .i64 r), []))
set_option maxRecDepth 100000 in
theorem O48_sound : cE Try.prog O48 := cA O47_sound (fun x r h => cL (ν := n84) (cz O47_sound) Try.func84 (by kernel_rfl) mixed (by kernel_rfl) (Nat.le_of_ble_eq_true (by kernel_rfl)) (r_rostrumref_memberAt O47 x.1 x.2 r h))
theorem inj48 : ∀ x y, a48 x = a48 y → x = y := by
  rintro ⟨ua1, ua2⟩ ⟨ub1, ub2⟩ h
  simp only [a48, Prod.mk.injEq, List.cons.injEq, D.v.injEq, V.s.injEq, V.sl.injEq, GScore.map_inj, true_and, and_true] at h
  simp only [h]
theorem K48_48 : K_rostrumref_memberAt O48 := fun p0 p1 r h => cM (x := (p0, p1)) inj48 h
theorem K42_46 : K_rostrumref_In O46 := fun p0 p1 p2 r h => (aV (by decide) _ _).trans (K42_45 p0 p1 p2 r h)
theorem K42_47 : K_rostrumref_In O47 := fun p0 p1 p2 r h => (aV (by decide) _ _).trans (K42_46 p0 p1 p2 r h)
theorem K42_48 : K_rostrumref_In O48 := fun p0 p1 p2 r h => (aV (by decide) _ _).trans (K42_47 p0 p1 p2 r h)
theorem K44_45 : K_rostrumref_sizeOf O45 := fun p0 r h => (aV (by decide) _ _).trans (K44_44 p0 r h)
theorem K44_46 : K_rostrumref_sizeOf O46 := fun p0 r h => (aV (by decide) _ _).trans (K44_45 p0 r h)
theorem K44_47 : K_rostrumref_sizeOf O47 := fun p0 r h => (aV (by decide) _ _).trans (K44_46 p0 r h)
theorem K44_48 : K_rostrumref_sizeOf O48 := fun p0 r h => (aV (by decide) _ _).trans (K44_47 p0 r h)
theorem K45_46 : K_rostrumref_textMay O46 := fun p0 r h => (aV (by decide) _ _).trans (K45_45 p0 r h)
theorem K45_47 : K_rostrumref_textMay O47 := fun p0 r h => (aV (by decide) _ _).trans (K45_46 p0 r h)
theorem K45_48 : K_rostrumref_textMay O48 := fun p0 r h => (aV (by decide) _ _).trans (K45_47 p0 r h)
theorem K46_47 : K_rostrumref_countMay O47 := fun p0 r h => (aV (by decide) _ _).trans (K46_46 p0 r h)
theorem K46_48 : K_rostrumref_countMay O48 := fun p0 r h => (aV (by decide) _ _).trans (K46_47 p0 r h)
theorem K43_44 : K_rostrumref_fieldMay O44 := fun p0 r h => (aV (by decide) _ _).trans (K43_43 p0 r h)
theorem K43_45 : K_rostrumref_fieldMay O45 := fun p0 r h => (aV (by decide) _ _).trans (K43_44 p0 r h)
theorem K43_46 : K_rostrumref_fieldMay O46 := fun p0 r h => (aV (by decide) _ _).trans (K43_45 p0 r h)
theorem K43_47 : K_rostrumref_fieldMay O47 := fun p0 r h => (aV (by decide) _ _).trans (K43_46 p0 r h)
theorem K43_48 : K_rostrumref_fieldMay O48 := fun p0 r h => (aV (by decide) _ _).trans (K43_47 p0 r h)
theorem K47_48 : K_rostrumref_scoreAhead O48 := fun p0 p1 r h => (aV (by decide) _ _).trans (K47_47 p0 p1 r h)
def a49 (x : GValue) : List D × aA := ([.agg [.v (.i .i64 x.fKind), .v (.s x.fText), .v (.i .i64 x.fCount), .v (.sl 2 (ab GPair.row x.fPairs)), .v (.sl 1 (ab aY x.fItems)), .v (.sl 2 (ab GScore.row x.fScores))]], [])
noncomputable def O49 : ak := ak.addF O48 30 a49 (fun x => rostrumref_ValueFault x) (fun _ (r : Int) => (.v (.i .i64 r), []))
set_option maxRecDepth 100000 in
theorem O49_sound : cE Try.prog O49 := cA O48_sound (fun x r h => cL (ν := n30) (cz O48_sound) Try.func30 (by kernel_rfl) mixed (by kernel_rfl) (Nat.le_of_ble_eq_true (by kernel_rfl)) (r_rostrumref_ValueFault O48 K42_48 K44_48 K45_48 K46_48 K43_48 K47_48 K48_48 x r h))
theorem inj49 : ∀ x y, a49 x = a49 y → x = y := by
  rintro ⟨ua1, ua2, ua3, ua4, ua5, ua6⟩ ⟨ub1, ub2, ub3, ub4, ub5, ub6⟩ h
  simp only [a49, Prod.mk.injEq, List.cons.injEq, D.v.injEq, D.agg.injEq, V.i.injEq, V.s.injEq, V.sl.injEq, cu, GPair.map_inj, GScore.map_inj, true_and, and_true] at h
  simp only [h]
theorem K49_49 : K_rostrumref_ValueFault O49 := fun p0 r h => cM (x := p0) inj49 h
theorem K42_49 : K_rostrumref_In O49 := fun p0 p1 p2 r h => (aV (by decide) _ _).trans (K42_48 p0 p1 p2 r h)
theorem K43_49 : K_rostrumref_fieldMay O49 := fun p0 r h => (aV (by decide) _ _).trans (K43_48 p0 r h)
def a50 (x : GStore) : List D × aA := ([.agg [.v (.i .i64 x.fNow), .v (.sl 8 (ab GEntry.row x.fEntries))]], [])
noncomputable def O50 : ak := ak.addF O49 36 a50 (fun x => rostrumref_StoreFault x) (fun _ (r : Int) => (.v (.i .i64 r), []))
set_option maxRecDepth 100000 in
theorem O50_sound : cE Try.prog O50 := cA O49_sound (fun x r h => cL (ν := n36) (cz O49_sound) Try.func36 (by kernel_rfl) mixed (by kernel_rfl) (Nat.le_of_ble_eq_true (by kernel_rfl)) (r_rostrumref_StoreFault O49 K42_49 K43_49 K49_49 x r h))
theorem inj50 : ∀ x y, a50 x = a50 y → x = y := by
  rintro ⟨ua1, ua2⟩ ⟨ub1, ub2⟩ h
  simp only [a50, Prod.mk.injEq, List.cons.injEq, D.v.injEq, D.agg.injEq, V.i.injEq, V.sl.injEq, GEntry.map_inj, true_and, and_true] at h
  simp only [h]
theorem K50_50 : K_rostrumref_StoreFault O50 := fun p0 r h => cM (x := p0) inj50 h
theorem K42_50 : K_rostrumref_In O50 := fun p0 p1 p2 r h => (aV (by decide) _ _).trans (K42_49 p0 p1 p2 r h)
def a51 (x : Int) : List D × aA := ([.v (.i .i64 x)], [])
noncomputable def O51 : ak := ak.addF O50 91 a51 (fun x => rostrumref_numberMay x) (fun _ (r : Bool) => (.v (.b r), []))
set_option maxRecDepth 100000 in
theorem O51_sound : cE Try.prog O51 := cA O50_sound (fun x r h => cL (ν := n91) (cz O50_sound) Try.func91 (by kernel_rfl) mixed (by kernel_rfl) (Nat.le_of_ble_eq_true (by kernel_rfl)) (r_rostrumref_numberMay O50 K42_50 x r h))
theorem inj51 : ∀ x y, a51 x = a51 y → x = y := by
  rintro ua1 ub1 h
  simp only [a51, Prod.mk.injEq, List.cons.injEq, D.v.injEq, V.i.injEq, true_and, and_true] at h
  exact h
theorem K51_51 : K_rostrumref_numberMay O51 := fun p0 r h => cM (x := p0) inj51 h
theorem K42_51 : K_rostrumref_In O51 := fun p0 p1 p2 r h => (aV (by decide) _ _).trans (K42_50 p0 p1 p2 r h)
theorem K45_49 : K_rostrumref_textMay O49 := fun p0 r h => (aV (by decide) _ _).trans (K45_48 p0 r h)
theorem K45_50 : K_rostrumref_textMay O50 := fun p0 r h => (aV (by decide) _ _).trans (K45_49 p0 r h)
theorem K45_51 : K_rostrumref_textMay O51 := fun p0 r h => (aV (by decide) _ _).trans (K45_50 p0 r h)
theorem K46_49 : K_rostrumref_countMay O49 := fun p0 r h => (aV (by decide) _ _).trans (K46_48 p0 r h)
theorem K46_50 : K_rostrumref_countMay O50 := fun p0 r h => (aV (by decide) _ _).trans (K46_49 p0 r h)
theorem K46_51 : K_rostrumref_countMay O51 := fun p0 r h => (aV (by decide) _ _).trans (K46_50 p0 r h)
def a52 (x : GReply) : List D × aA := ([.agg [.v (.i .i64 x.fCode), .v (.s x.fText), .v (.i .i64 x.fN), .v (.sl 1 (ab aY x.fList))]], [])
noncomputable def O52 : ak := ak.addF O51 92 a52 (fun x => rostrumref_ReplyFault x) (fun _ (r : Int) => (.v (.i .i64 r), []))
set_option maxRecDepth 100000 in
theorem O52_sound : cE Try.prog O52 := cA O51_sound (fun x r h => cL (ν := n92) (cz O51_sound) Try.func92 (by kernel_rfl) mixed (by kernel_rfl) (Nat.le_of_ble_eq_true (by kernel_rfl)) (r_rostrumref_ReplyFault O51 K42_51 K45_51 K46_51 x r h))
theorem inj52 : ∀ x y, a52 x = a52 y → x = y := by
  rintro ⟨ua1, ua2, ua3, ua4⟩ ⟨ub1, ub2, ub3, ub4⟩ h
  simp only [a52, Prod.mk.injEq, List.cons.injEq, D.v.injEq, D.agg.injEq, V.i.injEq, V.s.injEq, V.sl.injEq, cu, true_and, and_true] at h
  simp only [h]
theorem K52_52 : K_rostrumref_ReplyFault O52 := fun p0 r h => cM (x := p0) inj52 h
theorem K50_51 : K_rostrumref_StoreFault O51 := fun p0 r h => (aV (by decide) _ _).trans (K50_50 p0 r h)
theorem K50_52 : K_rostrumref_StoreFault O52 := fun p0 r h => (aV (by decide) _ _).trans (K50_51 p0 r h)
theorem K42_52 : K_rostrumref_In O52 := fun p0 p1 p2 r h => (aV (by decide) _ _).trans (K42_51 p0 p1 p2 r h)
theorem K51_52 : K_rostrumref_numberMay O52 := fun p0 r h => (aV (by decide) _ _).trans (K51_51 p0 r h)
def a53 (x : GMachine) : List D × aA := ([.agg [.v (.i .i64 x.fStore.fNow), .v (.sl 8 (ab GEntry.row x.fStore.fEntries)), .v (.i .i64 x.fNext), .v (.sl 7 (ab GClient.row x.fClients))]], [])
noncomputable def O53 : ak := ak.addF O52 42 a53 (fun x => rostrumref_MachineFault x) (fun _ (r : Int) => (.v (.i .i64 r), []))
set_option maxRecDepth 100000 in
theorem O53_sound : cE Try.prog O53 := cA O52_sound (fun x r h => cL (ν := n42) (cz O52_sound) Try.func42 (by kernel_rfl) mixed (by kernel_rfl) (Nat.le_of_ble_eq_true (by kernel_rfl)) (r_rostrumref_MachineFault O52 K50_52 K42_52 K51_52 K52_52 x r h))
theorem inj53 : ∀ x y, a53 x = a53 y → x = y := by
  rintro ⟨⟨ua1, ua2⟩, ua3, ua4⟩ ⟨⟨ub1, ub2⟩, ub3, ub4⟩ h
  simp only [a53, Prod.mk.injEq, List.cons.injEq, D.v.injEq, D.agg.injEq, V.i.injEq, V.sl.injEq, GEntry.map_inj, GClient.map_inj, true_and, and_true] at h
  simp only [h]
theorem K53_53 : K_rostrumref_MachineFault O53 := fun p0 r h => cM (x := p0) inj53 h
theorem K4_5 : K_rostrumref_MachineCopy_z O5 := fun p0 r h => (aV (by decide) _ _).trans (K4_4 p0 r h)
theorem K4_6 : K_rostrumref_MachineCopy_z O6 := fun p0 r h => (aV (by decide) _ _).trans (K4_5 p0 r h)
theorem K4_7 : K_rostrumref_MachineCopy_z O7 := fun p0 r h => (aV (by decide) _ _).trans (K4_6 p0 r h)
theorem K4_8 : K_rostrumref_MachineCopy_z O8 := fun p0 r h => (aV (by decide) _ _).trans (K4_7 p0 r h)
theorem K4_9 : K_rostrumref_MachineCopy_z O9 := fun p0 r h => (aV (by decide) _ _).trans (K4_8 p0 r h)
theorem K4_10 : K_rostrumref_MachineCopy_z O10 := fun p0 r h => (aV (by decide) _ _).trans (K4_9 p0 r h)
theorem K4_11 : K_rostrumref_MachineCopy_z O11 := fun p0 r h => (aV (by decide) _ _).trans (K4_10 p0 r h)
theorem K4_12 : K_rostrumref_MachineCopy_z O12 := fun p0 r h => (aV (by decide) _ _).trans (K4_11 p0 r h)
theorem K4_13 : K_rostrumref_MachineCopy_z O13 := fun p0 r h => (aV (by decide) _ _).trans (K4_12 p0 r h)
theorem K4_14 : K_rostrumref_MachineCopy_z O14 := fun p0 r h => (aV (by decide) _ _).trans (K4_13 p0 r h)
theorem K4_15 : K_rostrumref_MachineCopy_z O15 := fun p0 r h => (aV (by decide) _ _).trans (K4_14 p0 r h)
theorem K4_16 : K_rostrumref_MachineCopy_z O16 := fun p0 r h => (aV (by decide) _ _).trans (K4_15 p0 r h)
theorem K4_17 : K_rostrumref_MachineCopy_z O17 := fun p0 r h => (aV (by decide) _ _).trans (K4_16 p0 r h)
theorem K4_18 : K_rostrumref_MachineCopy_z O18 := fun p0 r h => (aV (by decide) _ _).trans (K4_17 p0 r h)
theorem K4_19 : K_rostrumref_MachineCopy_z O19 := fun p0 r h => (aV (by decide) _ _).trans (K4_18 p0 r h)
theorem K4_20 : K_rostrumref_MachineCopy_z O20 := fun p0 r h => (aV (by decide) _ _).trans (K4_19 p0 r h)
theorem K4_21 : K_rostrumref_MachineCopy_z O21 := fun p0 r h => (aV (by decide) _ _).trans (K4_20 p0 r h)
theorem K4_22 : K_rostrumref_MachineCopy_z O22 := fun p0 r h => (aV (by decide) _ _).trans (K4_21 p0 r h)
theorem K4_23 : K_rostrumref_MachineCopy_z O23 := fun p0 r h => (aV (by decide) _ _).trans (K4_22 p0 r h)
theorem K4_24 : K_rostrumref_MachineCopy_z O24 := fun p0 r h => (aV (by decide) _ _).trans (K4_23 p0 r h)
theorem K4_25 : K_rostrumref_MachineCopy_z O25 := fun p0 r h => (aV (by decide) _ _).trans (K4_24 p0 r h)
theorem K4_26 : K_rostrumref_MachineCopy_z O26 := fun p0 r h => (aV (by decide) _ _).trans (K4_25 p0 r h)
theorem K4_27 : K_rostrumref_MachineCopy_z O27 := fun p0 r h => (aV (by decide) _ _).trans (K4_26 p0 r h)
theorem K4_28 : K_rostrumref_MachineCopy_z O28 := fun p0 r h => (aV (by decide) _ _).trans (K4_27 p0 r h)
theorem K4_29 : K_rostrumref_MachineCopy_z O29 := fun p0 r h => (aV (by decide) _ _).trans (K4_28 p0 r h)
theorem K4_30 : K_rostrumref_MachineCopy_z O30 := fun p0 r h => (aV (by decide) _ _).trans (K4_29 p0 r h)
theorem K4_31 : K_rostrumref_MachineCopy_z O31 := fun p0 r h => (aV (by decide) _ _).trans (K4_30 p0 r h)
theorem K4_32 : K_rostrumref_MachineCopy_z O32 := fun p0 r h => (aV (by decide) _ _).trans (K4_31 p0 r h)
theorem K4_33 : K_rostrumref_MachineCopy_z O33 := fun p0 r h => (aV (by decide) _ _).trans (K4_32 p0 r h)
theorem K4_34 : K_rostrumref_MachineCopy_z O34 := fun p0 r h => (aV (by decide) _ _).trans (K4_33 p0 r h)
theorem K4_35 : K_rostrumref_MachineCopy_z O35 := fun p0 r h => (aV (by decide) _ _).trans (K4_34 p0 r h)
theorem K4_36 : K_rostrumref_MachineCopy_z O36 := fun p0 r h => (aV (by decide) _ _).trans (K4_35 p0 r h)
theorem K4_37 : K_rostrumref_MachineCopy_z O37 := fun p0 r h => (aV (by decide) _ _).trans (K4_36 p0 r h)
theorem K4_38 : K_rostrumref_MachineCopy_z O38 := fun p0 r h => (aV (by decide) _ _).trans (K4_37 p0 r h)
theorem K4_39 : K_rostrumref_MachineCopy_z O39 := fun p0 r h => (aV (by decide) _ _).trans (K4_38 p0 r h)
theorem K4_40 : K_rostrumref_MachineCopy_z O40 := fun p0 r h => (aV (by decide) _ _).trans (K4_39 p0 r h)
theorem K4_41 : K_rostrumref_MachineCopy_z O41 := fun p0 r h => (aV (by decide) _ _).trans (K4_40 p0 r h)
theorem K4_42 : K_rostrumref_MachineCopy_z O42 := fun p0 r h => (aV (by decide) _ _).trans (K4_41 p0 r h)
theorem K4_43 : K_rostrumref_MachineCopy_z O43 := fun p0 r h => (aV (by decide) _ _).trans (K4_42 p0 r h)
theorem K4_44 : K_rostrumref_MachineCopy_z O44 := fun p0 r h => (aV (by decide) _ _).trans (K4_43 p0 r h)
theorem K4_45 : K_rostrumref_MachineCopy_z O45 := fun p0 r h => (aV (by decide) _ _).trans (K4_44 p0 r h)
theorem K4_46 : K_rostrumref_MachineCopy_z O46 := fun p0 r h => (aV (by decide) _ _).trans (K4_45 p0 r h)
theorem K4_47 : K_rostrumref_MachineCopy_z O47 := fun p0 r h => (aV (by decide) _ _).trans (K4_46 p0 r h)
theorem K4_48 : K_rostrumref_MachineCopy_z O48 := fun p0 r h => (aV (by decide) _ _).trans (K4_47 p0 r h)
theorem K4_49 : K_rostrumref_MachineCopy_z O49 := fun p0 r h => (aV (by decide) _ _).trans (K4_48 p0 r h)
theorem K4_50 : K_rostrumref_MachineCopy_z O50 := fun p0 r h => (aV (by decide) _ _).trans (K4_49 p0 r h)
theorem K4_51 : K_rostrumref_MachineCopy_z O51 := fun p0 r h => (aV (by decide) _ _).trans (K4_50 p0 r h)
theorem K4_52 : K_rostrumref_MachineCopy_z O52 := fun p0 r h => (aV (by decide) _ _).trans (K4_51 p0 r h)
theorem K4_53 : K_rostrumref_MachineCopy_z O53 := fun p0 r h => (aV (by decide) _ _).trans (K4_52 p0 r h)
theorem K41_42 : K_client_Check O42 := fun p0 r h => (aV (by decide) _ _).trans (K41_41 p0 r h)
theorem K41_43 : K_client_Check O43 := fun p0 r h => (aV (by decide) _ _).trans (K41_42 p0 r h)
theorem K41_44 : K_client_Check O44 := fun p0 r h => (aV (by decide) _ _).trans (K41_43 p0 r h)
theorem K41_45 : K_client_Check O45 := fun p0 r h => (aV (by decide) _ _).trans (K41_44 p0 r h)
theorem K41_46 : K_client_Check O46 := fun p0 r h => (aV (by decide) _ _).trans (K41_45 p0 r h)
theorem K41_47 : K_client_Check O47 := fun p0 r h => (aV (by decide) _ _).trans (K41_46 p0 r h)
theorem K41_48 : K_client_Check O48 := fun p0 r h => (aV (by decide) _ _).trans (K41_47 p0 r h)
theorem K41_49 : K_client_Check O49 := fun p0 r h => (aV (by decide) _ _).trans (K41_48 p0 r h)
theorem K41_50 : K_client_Check O50 := fun p0 r h => (aV (by decide) _ _).trans (K41_49 p0 r h)
theorem K41_51 : K_client_Check O51 := fun p0 r h => (aV (by decide) _ _).trans (K41_50 p0 r h)
theorem K41_52 : K_client_Check O52 := fun p0 r h => (aV (by decide) _ _).trans (K41_51 p0 r h)
theorem K41_53 : K_client_Check O53 := fun p0 r h => (aV (by decide) _ _).trans (K41_52 p0 r h)
set_option maxRecDepth 100000 in
theorem sem (rs : List (List V)) (h : HasAll Try.prog [73] rs) : Mx.Sem Try.prog 12 (argsD Try.prog [73] rs) [] (.v (.b true)) [] := by
  obtain ⟨r0, _, rfl, a0, b0⟩ := HasAll.cons h
  obtain rfl := HasAll.nil b0
  obtain ⟨x0, rfl, o0⟩ := GMachine.of73 a0
  simp only [argsD, argD_struct Try.underlying73]
  exact cL (ν := n12) (cz O53_sound) Try.func12 (by kernel_rfl) mixed (by kernel_rfl) (Nat.le_of_ble_eq_true (by kernel_rfl)) (r_rostrumlaw_ClientChecks O53 K4_53 K41_53 K53_53 x0 true (ClientChecks_pure x0 o0))
end CClientChecks
end Go.Proofs.Ytnjkmbogbfjffaa
