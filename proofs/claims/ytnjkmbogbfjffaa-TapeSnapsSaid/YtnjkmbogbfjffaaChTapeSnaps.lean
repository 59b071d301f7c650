/- The chain of contracts of the law TapeSnaps, over the functions that it reaches. -/
import Derived.Test.YtnjkmbogbfjffaaTapeSnapsZa
import Derived.Test.YtnjkmbogbfjffaaTapeSnapsZb
import Derived.Test.YtnjkmbogbfjffaaTapeSnapsD
import Derived.Test.YtnjkmbogbfjffaaTapeSnapsP
set_option linter.unusedSimpArgs false
set_option linter.unusedVariables false
set_option linter.constructorNameAsVariable false
set_option linter.unnecessarySimpa false
namespace Go.Proofs.Ytnjkmbogbfjffaa
open Go Go.Mx Go.Proofs
namespace CTapeSnaps
theorem argD_slice {P : Program} {t e : TypeId} {x : V} (hu : P.underlying t = some (.slice e)) : argD P t [x] = .v x := by simp only [argD, hu]
theorem argD_str {P : Program} {t : TypeId} {x : V} (hu : P.underlying t = some .string) : argD P t [x] = .v x := by simp only [argD, hu]
def a1 (x : GValue) : List D × aA := ([.agg [.v (.i .i64 x.fKind), .v (.s x.fText), .v (.i .i64 x.fCount), .v (.sl 2 (ab GPair.row x.fPairs)), .v (.sl 1 (ab aY x.fItems)), .v (.sl 2 (ab GScore.row x.fScores))]], [])
noncomputable def O1 : ak := ak.addF noC 29 a1 (fun x => rostrumref_ValueCopy x) (fun _ (r : GValue) => (.agg [.v (.i .i64 r.fKind), .v (.s r.fText), .v (.i .i64 r.fCount), .own 2 (ab GPair.row r.fPairs), .own 1 (ab aY r.fItems), .own 2 (ab GScore.row r.fScores)], []))
set_option maxRecDepth 100000 in
theorem O1_sound : cE Try.prog O1 := cA (noC_sound _) (fun x r h => cL (ν := n29) (cz (noC_sound _)) Try.func29 (by kernel_rfl) mixed (by kernel_rfl) (Nat.le_of_ble_eq_true (by kernel_rfl)) (r_rostrumref_ValueCopy noC x r h))
theorem inj1 : ∀ x y, a1 x = a1 y → x = y := by
  rintro ⟨ua1, ua2, ua3, ua4, ua5, ua6⟩ ⟨ub1, ub2, ub3, ub4, ub5, ub6⟩ h
  simp only [a1, Prod.mk.injEq, List.cons.injEq, D.v.injEq, D.agg.injEq, V.i.injEq, V.s.injEq, V.sl.injEq, cu, GPair.map_inj, GScore.map_inj, true_and, and_true] at h
  simp only [h]
theorem K1_1 : K_rostrumref_ValueCopy O1 := fun p0 r h => cM (x := p0) inj1 h
def a2 (x : GStore) : List D × aA := ([.agg [.v (.i .i64 x.fNow), .v (.sl 8 (ab GEntry.row x.fEntries))]], [])
noncomputable def O2 : ak := ak.addF O1 35 a2 (fun x => rostrumref_StoreCopy x) (fun _ (r : GStore) => (.agg [.v (.i .i64 r.fNow), .own 8 (ab GEntry.row r.fEntries)], []))
set_option maxRecDepth 100000 in
theorem O2_sound : cE Try.prog O2 := cA O1_sound (fun x r h => cL (ν := n35) (cz O1_sound) Try.func35 (by kernel_rfl) mixed (by kernel_rfl) (Nat.le_of_ble_eq_true (by kernel_rfl)) (r_rostrumref_StoreCopy O1 K1_1 x r h))
theorem inj2 : ∀ x y, a2 x = a2 y → x = y := by
  rintro ⟨ua1, ua2⟩ ⟨ub1, ub2⟩ h
  simp only [a2, Prod.mk.injEq, List.cons.injEq, D.v.injEq, D.agg.injEq, V.i.injEq, V.sl.injEq, GEntry.map_inj, true_and, and_true] at h
  simp only [h]
theorem K2_2 : K_rostrumref_StoreCopy O2 := fun p0 r h => cM (x := p0) inj2 h
def a3 (x : GReply) : List D × aA := ([.agg [.v (.i .i64 x.fCode), .v (.s x.fText), .v (.i .i64 x.fN), .v (.sl 1 (ab aY x.fList))]], [])
noncomputable def O3 : ak := ak.addF O2 90 a3 (fun x => rostrumref_replyCopy x) (fun _ (r : GReply) => (.agg [.v (.i .i64 r.fCode), .v (.s r.fText), .v (.i .i64 r.fN), .own 1 (ab aY r.fList)], []))
set_option maxRecDepth 100000 in
theorem O3_sound : cE Try.prog O3 := cA O2_sound (fun x r h => cL (ν := n90) (cz O2_sound) Try.func90 (by kernel_rfl) mixed (by kernel_rfl) (Nat.le_of_ble_eq_true (by kernel_rfl)) (r_rostrumref_replyCopy O2 x r h))
theorem inj3 : ∀ x y, a3 x = a3 y → x = y := by
  rintro ⟨ua1, ua2, ua3, ua4⟩ ⟨ub1, ub2, ub3, ub4⟩ h
  simp only [a3, Prod.mk.injEq, List.cons.injEq, D.v.injEq, D.agg.injEq, V.i.injEq, V.s.injEq, V.sl.injEq, cu, true_and, and_true] at h
  simp only [h]
theorem K3_3 : K_rostrumref_replyCopy O3 := fun p0 r h => cM (x := p0) inj3 h
theorem K2_3 : K_rostrumref_StoreCopy O3 := fun p0 r h => (aV (by decide) _ _).trans (K2_2 p0 r h)
def a4 (x : GMachine) : List D × aA := ([.agg [.v (.i .i64 x.fStore.fNow), .v (.sl 8 (ab GEntry.row x.fStore.fEntries)), .v (.i .i64 x.fNext), .v (.sl 7 (ab GClient.row x.fClients))]], [])
noncomputable def O4 : ak := ak.addF O3 41 a4 (fun x => rostrumref_MachineCopy_z x) (fun _ (r : GMachine) => (.agg [.v (.i .i64 r.fStore.fNow), .v (.sl 8 (ab GEntry.row r.fStore.fEntries)), .v (.i .i64 r.fNext), .v (.sl 7 (ab GClient.row r.fClients))], []))
set_option maxRecDepth 100000 in
theorem O4_sound : cE Try.prog O4 := cA O3_sound (fun x r h => by
  obtain ⟨d, S, h1, h2, h3⟩ := r_rostrumref_MachineCopy_z O3 K2_3 K3_3 x r h
  have h4 := Mx.Sem.frozen (cL (ν := n41) (cz O3_sound) Try.func41 (by kernel_rfl) mixed (by kernel_rfl) (Nat.le_of_ble_eq_true (by kernel_rfl)) h1) h2
  obtain ⟨e1, e2⟩ := Prod.mk.inj h3
  rw [e1] at h4; rw [e2] at h4; exact h4)
theorem inj4 : ∀ x y, a4 x = a4 y → x = y := by
  rintro ⟨⟨ua1, ua2⟩, ua3, ua4⟩ ⟨⟨ub1, ub2⟩, ub3, ub4⟩ h
  simp only [a4, Prod.mk.injEq, List.cons.injEq, D.v.injEq, D.agg.injEq, V.i.injEq, V.sl.injEq, GEntry.map_inj, GClient.map_inj, true_and, and_true] at h
  simp only [h]
theorem K4_4 : K_rostrumref_MachineCopy_z O4 := fun p0 r h => cM (x := p0) inj4 h
def a5 (x : GSnap) : List D × aA := ([.agg [.v (.i .i64 x.fIndex), .v (.i .i64 x.fTerm), .v (.i .i64 x.fMachine.fStore.fNow), .v (.sl 8 (ab GEntry.row x.fMachine.fStore.fEntries)), .v (.i .i64 x.fMachine.fNext), .v (.sl 7 (ab GClient.row x.fMachine.fClients))]], [])
noncomputable def O5 : ak := ak.addF O4 44 a5 (fun x => rostrumlaw_snaps_z x) (fun _ (r : GSnap) => (.agg [.v (.i .i64 r.fIndex), .v (.i .i64 r.fTerm), .v (.i .i64 r.fMachine.fStore.fNow), .v (.sl 8 (ab GEntry.row r.fMachine.fStore.fEntries)), .v (.i .i64 r.fMachine.fNext), .v (.sl 7 (ab GClient.row r.fMachine.fClients))], []))
set_option maxRecDepth 100000 in
theorem O5_sound : cE Try.prog O5 := cA O4_sound (fun x r h => by
  obtain ⟨d, S, h1, h2, h3⟩ := r_rostrumlaw_snaps_z O4 K4_4 x r h
  have h4 := Mx.Sem.frozen (cL (ν := n44) (cz O4_sound) Try.func44 (by kernel_rfl) mixed (by kernel_rfl) (Nat.le_of_ble_eq_true (by kernel_rfl)) h1) h2
  obtain ⟨e1, e2⟩ := Prod.mk.inj h3
  rw [e1] at h4; rw [e2] at h4; exact h4)
theorem inj5 : ∀ x y, a5 x = a5 y → x = y := by
  rintro ⟨ua1, ua2, ⟨⟨ua3, ua4⟩, ua5, ua6⟩⟩ ⟨ub1, ub2, ⟨⟨ub3, ub4⟩, ub5, ub6⟩⟩ h
  simp only [a5, Prod.mk.injEq, List.cons.injEq, D.v.injEq, D.agg.injEq, V.i.injEq, V.sl.injEq, GEntry.map_inj, GClient.map_inj, true_and, and_true] at h
  simp only [h]
theorem K5_5 : K_rostrumlaw_snaps_z O5 := fun p0 r h => cM (x := p0) inj5 h
def a6 (x : Int) : List D × aA := ([.v (.i .i64 x)], [])
noncomputable def O6 : ak := ak.addF O5 93 a6 (fun x => tape_number x) (fun _ (r : Bool) => (.v (.b r), []))
set_option maxRecDepth 100000 in
theorem O6_sound : cE Try.prog O6 := cA O5_sound (fun x r h => cL (ν := n93) (cz O5_sound) Try.func93 (by kernel_rfl) mixed (by kernel_rfl) (Nat.le_of_ble_eq_true (by kernel_rfl)) (r_tape_number O5 x r h))
theorem inj6 : ∀ x y, a6 x = a6 y → x = y := by
  rintro ua1 ub1 h
  simp only [a6, Prod.mk.injEq, List.cons.injEq, D.v.injEq, V.i.injEq, true_and, and_true] at h
  exact h
theorem K6_6 : K_tape_number O6 := fun p0 r h => cM (x := p0) inj6 h
def a7 (x : GValue) : List D × aA := ([.agg [.v (.i .i64 x.fKind), .v (.s x.fText), .v (.i .i64 x.fCount), .v (.sl 2 (ab GPair.row x.fPairs)), .v (.sl 1 (ab aY x.fItems)), .v (.sl 2 (ab GScore.row x.fScores))]], [])
noncomputable def O7 : ak := ak.addF O6 61 a7 (fun x => value_elements x) (fun _ (r : Int) => (.v (.i .i64 r), []))
set_option maxRecDepth 100000 in
theorem O7_sound : cE Try.prog O7 := cA O6_sound (fun x r h => cL (ν := n61) (cz O6_sound) Try.func61 (by kernel_rfl) mixed (by kernel_rfl) (Nat.le_of_ble_eq_true (by kernel_rfl)) (r_value_elements O6 x r h))
theorem inj7 : ∀ x y, a7 x = a7 y → x = y := by
  rintro ⟨ua1, ua2, ua3, ua4, ua5, ua6⟩ ⟨ub1, ub2, ub3, ub4, ub5, ub6⟩ h
  simp only [a7, Prod.mk.injEq, List.cons.injEq, D.v.injEq, D.agg.injEq, V.i.injEq, V.s.injEq, V.sl.injEq, cu, GPair.map_inj, GScore.map_inj, true_and, and_true] at h
  simp only [h]
theorem K7_7 : K_value_elements O7 := fun p0 r h => cM (x := p0) inj7 h
def a8 (x : ByteArray) : List D × aA := ([.v (.s x)], [])
noncomputable def O8 : ak := ak.addF O7 62 a8 (fun x => value_text x) (fun _ (r : Bool) => (.v (.b r), []))
set_option maxRecDepth 100000 in
theorem O8_sound : cE Try.prog O8 := cA O7_sound (fun x r h => cL (ν := n62) (cz O7_sound) Try.func62 (by kernel_rfl) mixed (by kernel_rfl) (Nat.le_of_ble_eq_true (by kernel_rfl)) (r_value_text O7 x r h))
theorem inj8 : ∀ x y, a8 x = a8 y → x = y := by
  rintro ua1 ub1 h
  simp only [a8, Prod.mk.injEq, List.cons.injEq, D.v.injEq, V.s.injEq, and_true] at h
  exact h
theorem K8_8 : K_value_text O8 := fun p0 r h => cM (x := p0) inj8 h
def a9 (x : ByteArray) : List D × aA := ([.v (.s x)], [])
noncomputable def O9 : ak := ak.addF O8 64 a9 (fun x => value_Check_fn1 x) (fun _ (r : Bool) => (.v (.b r), []))
set_option maxRecDepth 100000 in
theorem O9_sound : cE Try.prog O9 := cA O8_sound (fun x r h => cL (ν := n64) (cz O8_sound) Try.func64 (by kernel_rfl) mixed (by kernel_rfl) (Nat.le_of_ble_eq_true (by kernel_rfl)) (r_value_Check_fn1 O8 K8_8 x r h))
theorem inj9 : ∀ x y, a9 x = a9 y → x = y := by
  rintro ua1 ub1 h
  simp only [a9, Prod.mk.injEq, List.cons.injEq, D.v.injEq, V.s.injEq, and_true] at h
  exact h
theorem K9_9 : K_value_Check_fn1 O9 := fun p0 r h => cM (x := p0) inj9 h
def a10 (x : (List ByteArray)) : List D × aA := ([.v (.sl 1 (ab aY x)), .clo 64 []], [])
noncomputable def O10 : ak := ak.addF O9 108 a10 (fun x => slices_IndexFunc_string_string_value_Check_fn1 x) (fun _ (r : Int) => (.v (.i .i64 r), []))
set_option maxRecDepth 100000 in
theorem O10_sound : cE Try.prog O10 := cA O9_sound (fun x r h => cL (ν := n108) (cz O9_sound) Try.func108 (by kernel_rfl) mixed (by kernel_rfl) (Nat.le_of_ble_eq_true (by kernel_rfl)) (r_slices_IndexFunc_string_string_value_Check_fn1 O9 K9_9 x r h))
theorem inj10 : ∀ x y, a10 x = a10 y → x = y := by
  rintro ua1 ub1 h
  simp only [a10, Prod.mk.injEq, List.cons.injEq, D.v.injEq, V.sl.injEq, cu, true_and, and_true] at h
  exact h
theorem K10_10 : K_slices_IndexFunc_string_string_value_Check_fn1 O10 := fun p0 r h => cM (x := p0) inj10 h
def a11 (x : (List ByteArray)) : List D × aA := ([.v (.sl 1 (ab aY x)), .clo 64 []], [])
noncomputable def O11 : ak := ak.addF O10 63 a11 (fun x => slices_ContainsFunc_string_string_value_Check_fn1 x) (fun _ (r : Bool) => (.v (.b r), []))
set_option maxRecDepth 100000 in
theorem O11_sound : cE Try.prog O11 := cA O10_sound (fun x r h => cL (ν := n63) (cz O10_sound) Try.func63 (by kernel_rfl) mixed (by kernel_rfl) (Nat.le_of_ble_eq_true (by kernel_rfl)) (r_slices_ContainsFunc_string_string_value_Check_fn1 O10 K10_10 x r h))
theorem inj11 : ∀ x y, a11 x = a11 y → x = y := by
  rintro ua1 ub1 h
  simp only [a11, Prod.mk.injEq, List.cons.injEq, D.v.injEq, V.sl.injEq, cu, true_and, and_true] at h
  exact h
theorem K11_11 : K_slices_ContainsFunc_string_string_value_Check_fn1 O11 := fun p0 r h => cM (x := p0) inj11 h
def a12 (x : ByteArray) : List D × aA := ([.v (.s x)], [])
noncomputable def O12 : ak := ak.addF O11 67 a12 (fun x => value_field x) (fun _ (r : Bool) => (.v (.b r), []))
set_option maxRecDepth 100000 in
theorem O12_sound : cE Try.prog O12 := cA O11_sound (fun x r h => cL (ν := n67) (cz O11_sound) Try.func67 (by kernel_rfl) mixed (by kernel_rfl) (Nat.le_of_ble_eq_true (by kernel_rfl)) (r_value_field O11 x r h))
theorem inj12 : ∀ x y, a12 x = a12 y → x = y := by
  rintro ua1 ub1 h
  simp only [a12, Prod.mk.injEq, List.cons.injEq, D.v.injEq, V.s.injEq, and_true] at h
  exact h
theorem K12_12 : K_value_field O12 := fun p0 r h => cM (x := p0) inj12 h
theorem K8_9 : K_value_text O9 := fun p0 r h => (aV (by decide) _ _).trans (K8_8 p0 r h)
theorem K8_10 : K_value_text O10 := fun p0 r h => (aV (by decide) _ _).trans (K8_9 p0 r h)
theorem K8_11 : K_value_text O11 := fun p0 r h => (aV (by decide) _ _).trans (K8_10 p0 r h)
theorem K8_12 : K_value_text O12 := fun p0 r h => (aV (by decide) _ _).trans (K8_11 p0 r h)
def a13 (x : GPair) : List D × aA := ([.agg [.v (.s x.fField), .v (.s x.fText)]], [])
noncomputable def O13 : ak := ak.addF O12 66 a13 (fun x => value_Check_fn2 x) (fun _ (r : Bool) => (.v (.b r), []))
set_option maxRecDepth 100000 in
theorem O13_sound : cE Try.prog O13 := cA O12_sound (fun x r h => cL (ν := n66) (cz O12_sound) Try.func66 (by kernel_rfl) mixed (by kernel_rfl) (Nat.le_of_ble_eq_true (by kernel_rfl)) (r_value_Check_fn2 O12 K12_12 K8_12 x r h))
theorem inj13 : ∀ x y, a13 x = a13 y → x = y := by
  rintro ⟨ua1, ua2⟩ ⟨ub1, ub2⟩ h
  simp only [a13, Prod.mk.injEq, List.cons.injEq, D.v.injEq, D.agg.injEq, V.s.injEq, and_true] at h
  simp only [h]
theorem K13_13 : K_value_Check_fn2 O13 := fun p0 r h => cM (x := p0) inj13 h
def a14 (x : (List GPair)) : List D × aA := ([.v (.sl 2 (ab GPair.row x)), .clo 66 []], [])
noncomputable def O14 : ak := ak.addF O13 109 a14 (fun x => slices_IndexFunc_Pair_Pair_value_Check_fn2 x) (fun _ (r : Int) => (.v (.i .i64 r), []))
set_option maxRecDepth 100000 in
theorem O14_sound : cE Try.prog O14 := cA O13_sound (fun x r h => cL (ν := n109) (cz O13_sound) Try.func109 (by kernel_rfl) mixed (by kernel_rfl) (Nat.le_of_ble_eq_true (by kernel_rfl)) (r_slices_IndexFunc_Pair_Pair_value_Check_fn2 O13 K13_13 x r h))
theorem inj14 : ∀ x y, a14 x = a14 y → x = y := by
  rintro ua1 ub1 h
  simp only [a14, Prod.mk.injEq, List.cons.injEq, D.v.injEq, V.sl.injEq, GPair.map_inj, true_and, and_true] at h
  exact h
theorem K14_14 : K_slices_IndexFunc_Pair_Pair_value_Check_fn2 O14 := fun p0 r h => cM (x := p0) inj14 h
def a15 (x : (List GPair)) : List D × aA := ([.v (.sl 2 (ab GPair.row x)), .clo 66 []], [])
noncomputable def O15 : ak := ak.addF O14 65 a15 (fun x => slices_ContainsFunc_Pair_Pair_value_Check_fn2 x) (fun _ (r : Bool) => (.v (.b r), []))
set_option maxRecDepth 100000 in
theorem O15_sound : cE Try.prog O15 := cA O14_sound (fun x r h => cL (ν := n65) (cz O14_sound) Try.func65 (by kernel_rfl) mixed (by kernel_rfl) (Nat.le_of_ble_eq_true (by kernel_rfl)) (r_slices_ContainsFunc_Pair_Pair_value_Check_fn2 O14 K14_14 x r h))
theorem inj15 : ∀ x y, a15 x = a15 y → x = y := by
  rintro ua1 ub1 h
  simp only [a15, Prod.mk.injEq, List.cons.injEq, D.v.injEq, V.sl.injEq, GPair.map_inj, true_and, and_true] at h
  exact h
theorem K15_15 : K_slices_ContainsFunc_Pair_Pair_value_Check_fn2 O15 := fun p0 r h => cM (x := p0) inj15 h
theorem K8_13 : K_value_text O13 := fun p0 r h => (aV (by decide) _ _).trans (K8_12 p0 r h)
theorem K8_14 : K_value_text O14 := fun p0 r h => (aV (by decide) _ _).trans (K8_13 p0 r h)
theorem K8_15 : K_value_text O15 := fun p0 r h => (aV (by decide) _ _).trans (K8_14 p0 r h)
def a16 (x : GScore) : List D × aA := ([.agg [.v (.s x.fMember), .v (.i .i64 x.fN)]], [])
noncomputable def O16 : ak := ak.addF O15 69 a16 (fun x => value_Check_fn3 x) (fun _ (r : Bool) => (.v (.b r), []))
set_option maxRecDepth 100000 in
theorem O16_sound : cE Try.prog O16 := cA O15_sound (fun x r h => cL (ν := n69) (cz O15_sound) Try.func69 (by kernel_rfl) mixed (by kernel_rfl) (Nat.le_of_ble_eq_true (by kernel_rfl)) (r_value_Check_fn3 O15 K8_15 x r h))
theorem inj16 : ∀ x y, a16 x = a16 y → x = y := by
  rintro ⟨ua1, ua2⟩ ⟨ub1, ub2⟩ h
  simp only [a16, Prod.mk.injEq, List.cons.injEq, D.v.injEq, D.agg.injEq, V.i.injEq, V.s.injEq, true_and, and_true] at h
  simp only [h]
theorem K16_16 : K_value_Check_fn3 O16 := fun p0 r h => cM (x := p0) inj16 h
def a17 (x : (List GScore)) : List D × aA := ([.v (.sl 2 (ab GScore.row x)), .clo 69 []], [])
noncomputable def O17 : ak := ak.addF O16 110 a17 (fun x => slices_IndexFunc_Score_Score_value_Check_fn3 x) (fun _ (r : Int) => (.v (.i .i64 r), []))
set_option maxRecDepth 100000 in
theorem O17_sound : cE Try.prog O17 := cA O16_sound (fun x r h => cL (ν := n110) (cz O16_sound) Try.func110 (by kernel_rfl) mixed (by kernel_rfl) (Nat.le_of_ble_eq_true (by kernel_rfl)) (r_slices_IndexFunc_Score_Score_value_Check_fn3 O16 K16_16 x r h))
theorem inj17 : ∀ x y, a17 x = a17 y → x = y := by
  rintro ua1 ub1 h
  simp only [a17, Prod.mk.injEq, List.cons.injEq, D.v.injEq, V.sl.injEq, GScore.map_inj, true_and, and_true] at h
  exact h
theorem K17_17 : K_slices_IndexFunc_Score_Score_value_Check_fn3 O17 := fun p0 r h => cM (x := p0) inj17 h
def a18 (x : (List GScore)) : List D × aA := ([.v (.sl 2 (ab GScore.row x)), .clo 69 []], [])
noncomputable def O18 : ak := ak.addF O17 68 a18 (fun x => slices_ContainsFunc_Score_Score_value_Check_fn3 x) (fun _ (r : Bool) => (.v (.b r), []))
set_option maxRecDepth 100000 in
theorem O18_sound : cE Try.prog O18 := cA O17_sound (fun x r h => cL (ν := n68) (cz O17_sound) Try.func68 (by kernel_rfl) mixed (by kernel_rfl) (Nat.le_of_ble_eq_true (by kernel_rfl)) (r_slices_ContainsFunc_Score_Score_value_Check_fn3 O17 K17_17 x r h))
theorem inj18 : ∀ x y, a18 x = a18 y → x = y := by
  rintro ua1 ub1 h
  simp only [a18, Prod.mk.injEq, List.cons.injEq, D.v.injEq, V.sl.injEq, GScore.map_inj, true_and, and_true] at h
  exact h
theorem K18_18 : K_slices_ContainsFunc_Score_Score_value_Check_fn3 O18 := fun p0 r h => cM (x := p0) inj18 h
def a19 (x : Int) : List D × aA := ([.v (.i .i64 x)], [])
noncomputable def O19 : ak := ak.addF O18 70 a19 (fun x => value_count x) (fun _ (r : Bool) => (.v (.b r), []))
set_option maxRecDepth 100000 in
theorem O19_sound : cE Try.prog O19 := cA O18_sound (fun x r h => cL (ν := n70) (cz O18_sound) Try.func70 (by kernel_rfl) mixed (by kernel_rfl) (Nat.le_of_ble_eq_true (by kernel_rfl)) (r_value_count O18 x r h))
theorem inj19 : ∀ x y, a19 x = a19 y → x = y := by
  rintro ua1 ub1 h
  simp only [a19, Prod.mk.injEq, List.cons.injEq, D.v.injEq, V.i.injEq, true_and, and_true] at h
  exact h
theorem K19_19 : K_value_count O19 := fun p0 r h => cM (x := p0) inj19 h
def a20 (x : GScore) : List D × aA := ([.agg [.v (.s x.fMember), .v (.i .i64 x.fN)]], [])
noncomputable def O20 : ak := ak.addF O19 71 a20 (fun x => value_Check_fn4 x) (fun _ (r : Bool) => (.v (.b r), []))
set_option maxRecDepth 100000 in
theorem O20_sound : cE Try.prog O20 := cA O19_sound (fun x r h => cL (ν := n71) (cz O19_sound) Try.func71 (by kernel_rfl) mixed (by kernel_rfl) (Nat.le_of_ble_eq_true (by kernel_rfl)) (r_value_Check_fn4 O19 K19_19 x r h))
theorem inj20 : ∀ x y, a20 x = a20 y → x = y := by
  rintro ⟨ua1, ua2⟩ ⟨ub1, ub2⟩ h
  simp only [a20, Prod.mk.injEq, List.cons.injEq, D.v.injEq, D.agg.injEq, V.i.injEq, V.s.injEq, true_and, and_true] at h
  simp only [h]
theorem K20_20 : K_value_Check_fn4 O20 := fun p0 r h => cM (x := p0) inj20 h
def a21 (x : (List GScore)) : List D × aA := ([.v (.sl 2 (ab GScore.row x)), .clo 71 []], [])
noncomputable def O21 : ak := ak.addF O20 110 a21 (fun x => slices_IndexFunc_Score_Score_value_Check_fn4 x) (fun _ (r : Int) => (.v (.i .i64 r), []))
set_option maxRecDepth 100000 in
theorem O21_sound : cE Try.prog O21 := cA O20_sound (fun x r h => cL (ν := n110) (cz O20_sound) Try.func110 (by kernel_rfl) mixed (by kernel_rfl) (Nat.le_of_ble_eq_true (by kernel_rfl)) (r_slices_IndexFunc_Score_Score_value_Check_fn4 O20 K20_20 x r h))
theorem inj21 : ∀ x y, a21 x = a21 y → x = y := by
  rintro ua1 ub1 h
  simp only [a21, Prod.mk.injEq, List.cons.injEq, D.v.injEq, V.sl.injEq, GScore.map_inj, true_and, and_true] at h
  exact h
theorem K21_21 : K_slices_IndexFunc_Score_Score_value_Check_fn4 O21 := fun p0 r h => cM (x := p0) inj21 h
def a22 (x : (List GScore)) : List D × aA := ([.v (.sl 2 (ab GScore.row x)), .clo 71 []], [])
noncomputable def O22 : ak := ak.addF O21 68 a22 (fun x => slices_ContainsFunc_Score_Score_value_Check_fn4 x) (fun _ (r : Bool) => (.v (.b r), []))
set_option maxRecDepth 100000 in
theorem O22_sound : cE Try.prog O22 := cA O21_sound (fun x r h => cL (ν := n68) (cz O21_sound) Try.func68 (by kernel_rfl) mixed (by kernel_rfl) (Nat.le_of_ble_eq_true (by kernel_rfl)) (r_slices_ContainsFunc_Score_Score_value_Check_fn4 O21 K21_21 x r h))
theorem inj22 : ∀ x y, a22 x = a22 y → x = y := by
  rintro ua1 ub1 h
  simp only [a22, Prod.mk.injEq, List.cons.injEq, D.v.injEq, V.sl.injEq, GScore.map_inj, true_and, and_true] at h
  exact h
theorem K22_22 : K_slices_ContainsFunc_Score_Score_value_Check_fn4 O22 := fun p0 r h => cM (x := p0) inj22 h
def a23 (x : ByteArray × ByteArray) : List D × aA := ([.v (.s x.1), .v (.s x.2)], [])
noncomputable def O23 : ak := ak.addF O22 132 a23 (fun x => cmpstring x.1 x.2) (fun _ (r : Int) => (.v (.i .i64 r), []))
set_option maxRecDepth 100000 in
theorem O23_sound : cE Try.prog O23 := cA O22_sound (fun x r h => by
  obtain rfl := Option.some.inj h
  exact sem_cmp Try.func132 (by kernel_rfl) (by kernel_rfl) (by kernel_rfl) (by kernel_rfl) x.1 x.2)
theorem inj23 : ∀ x y, a23 x = a23 y → x = y := by
  rintro ⟨ua1, ua2⟩ ⟨ub1, ub2⟩ h
  simp only [a23, Prod.mk.injEq, List.cons.injEq, D.v.injEq, V.s.injEq, and_true] at h
  simp only [h]
theorem K23_23 : K_cmpstring O23 := fun p0 p1 r h => cM (x := (p0, p1)) inj23 h
def a24 (x : ByteArray × ByteArray) : List D × aA := ([.v (.s x.1), .v (.s x.2)], [])
noncomputable def O24 : ak := ak.addF O23 113 a24 (fun x => internal_bytealg_CompareString x.1 x.2) (fun _ (r : Int) => (.v (.i .i64 r), []))
set_option maxRecDepth 100000 in
theorem O24_sound : cE Try.prog O24 := cA O23_sound (fun x r h => cL (ν := n113) (cz O23_sound) Try.func113 (by kernel_rfl) mixed (by kernel_rfl) (Nat.le_of_ble_eq_true (by kernel_rfl)) (r_internal_bytealg_CompareString O23 K23_23 x.1 x.2 r h))
theorem inj24 : ∀ x y, a24 x = a24 y → x = y := by
  rintro ⟨ua1, ua2⟩ ⟨ub1, ub2⟩ h
  simp only [a24, Prod.mk.injEq, List.cons.injEq, D.v.injEq, V.s.injEq, and_true] at h
  simp only [h]
theorem K24_24 : K_internal_bytealg_CompareString O24 := fun p0 p1 r h => cM (x := (p0, p1)) inj24 h
def a25 (x : ByteArray × ByteArray) : List D × aA := ([.v (.s x.1), .v (.s x.2)], [])
noncomputable def O25 : ak := ak.addF O24 77 a25 (fun x => strings_Compare x.1 x.2) (fun _ (r : Int) => (.v (.i .i64 r), []))
set_option maxRecDepth 100000 in
theorem O25_sound : cE Try.prog O25 := cA O24_sound (fun x r h => cL (ν := n77) (cz O24_sound) Try.func77 (by kernel_rfl) mixed (by kernel_rfl) (Nat.le_of_ble_eq_true (by kernel_rfl)) (r_strings_Compare O24 K24_24 x.1 x.2 r h))
theorem inj25 : ∀ x y, a25 x = a25 y → x = y := by
  rintro ⟨ua1, ua2⟩ ⟨ub1, ub2⟩ h
  simp only [a25, Prod.mk.injEq, List.cons.injEq, D.v.injEq, V.s.injEq, and_true] at h
  simp only [h]
theorem K25_25 : K_strings_Compare O25 := fun p0 p1 r h => cM (x := (p0, p1)) inj25 h
def a26 (x : GPair × GPair) : List D × aA := ([.agg [.v (.s x.1.fField), .v (.s x.1.fText)], .agg [.v (.s x.2.fField), .v (.s x.2.fText)]], [])
noncomputable def O26 : ak := ak.addF O25 73 a26 (fun x => value_byField x.1 x.2) (fun _ (r : Int) => (.v (.i .i64 r), []))
set_option maxRecDepth 100000 in
theorem O26_sound : cE Try.prog O26 := cA O25_sound (fun x r h => cL (ν := n73) (cz O25_sound) Try.func73 (by kernel_rfl) mixed (by kernel_rfl) (Nat.le_of_ble_eq_true (by kernel_rfl)) (r_value_byField O25 K25_25 x.1 x.2 r h))
theorem inj26 : ∀ x y, a26 x = a26 y → x = y := by
  rintro ⟨⟨ua1, ua2⟩, ⟨ua3, ua4⟩⟩ ⟨⟨ub1, ub2⟩, ⟨ub3, ub4⟩⟩ h
  simp only [a26, Prod.mk.injEq, List.cons.injEq, D.v.injEq, D.agg.injEq, V.s.injEq, and_true] at h
  simp only [h]
theorem K26_26 : K_value_byField O26 := fun p0 p1 r h => cM (x := (p0, p1)) inj26 h
def a27 (x : (List GPair)) : List D × aA := ([.v (.sl 2 (ab GPair.row x)), .clo 73 []], [])
noncomputable def O27 : ak := ak.addF O26 72 a27 (fun x => value_rising_Pair_value_byField x) (fun _ (r : Bool) => (.v (.b r), []))
set_option maxRecDepth 100000 in
theorem O27_sound : cE Try.prog O27 := cA O26_sound (fun x r h => cL (ν := n72) (cz O26_sound) Try.func72 (by kernel_rfl) mixed (by kernel_rfl) (Nat.le_of_ble_eq_true (by kernel_rfl)) (r_value_rising_Pair_value_byField O26 K26_26 x r h))
theorem inj27 : ∀ x y, a27 x = a27 y → x = y := by
  rintro ua1 ub1 h
  simp only [a27, Prod.mk.injEq, List.cons.injEq, D.v.injEq, V.sl.injEq, GPair.map_inj, true_and, and_true] at h
  exact h
theorem K27_27 : K_value_rising_Pair_value_byField O27 := fun p0 r h => cM (x := p0) inj27 h
def a28 (x : Int) : List D × aA := ([.v (.i .i64 x)], [])
noncomputable def O28 : ak := ak.addF O27 131 a28 (fun x => cmp_isNaN_int x) (fun _ (r : Bool) => (.v (.b r), []))
set_option maxRecDepth 100000 in
theorem O28_sound : cE Try.prog O28 := cA O27_sound (fun x r h => cL (ν := n131) (cz O27_sound) Try.func131 (by kernel_rfl) mixed (by kernel_rfl) (Nat.le_of_ble_eq_true (by kernel_rfl)) (r_cmp_isNaN_int O27 x r h))
theorem inj28 : ∀ x y, a28 x = a28 y → x = y := by
  rintro ua1 ub1 h
  simp only [a28, Prod.mk.injEq, List.cons.injEq, D.v.injEq, V.i.injEq, true_and, and_true] at h
  exact h
theorem K28_28 : K_cmp_isNaN_int O28 := fun p0 r h => cM (x := p0) inj28 h
def a29 (x : Int × Int) : List D × aA := ([.v (.i .i64 x.1), .v (.i .i64 x.2)], [])
noncomputable def O29 : ak := ak.addF O28 112 a29 (fun x => cmp_Compare_int x.1 x.2) (fun _ (r : Int) => (.v (.i .i64 r), []))
set_option maxRecDepth 100000 in
theorem O29_sound : cE Try.prog O29 := cA O28_sound (fun x r h => cL (ν := n112) (cz O28_sound) Try.func112 (by kernel_rfl) mixed (by kernel_rfl) (Nat.le_of_ble_eq_true (by kernel_rfl)) (r_cmp_Compare_int O28 K28_28 x.1 x.2 r h))
theorem inj29 : ∀ x y, a29 x = a29 y → x = y := by
  rintro ⟨ua1, ua2⟩ ⟨ub1, ub2⟩ h
  simp only [a29, Prod.mk.injEq, List.cons.injEq, D.v.injEq, V.i.injEq, true_and, and_true] at h
  simp only [h]
theorem K29_29 : K_cmp_Compare_int O29 := fun p0 p1 r h => cM (x := (p0, p1)) inj29 h
def a30 (x : (List Int)) : List D × aA := ([.v (.sl 1 (ab rowI x))], [])
noncomputable def O30 : ak := ak.addF O29 111 a30 (fun x => cmp_Or_int x) (fun _ (r : Int) => (.v (.i .i64 r), []))
set_option maxRecDepth 100000 in
theorem O30_sound : cE Try.prog O30 := cA O29_sound (fun x r h => cL (ν := n111) (cz O29_sound) Try.func111 (by kernel_rfl) mixed (by kernel_rfl) (Nat.le_of_ble_eq_true (by kernel_rfl)) (r_cmp_Or_int O29 x r h))
theorem inj30 : ∀ x y, a30 x = a30 y → x = y := by
  rintro ua1 ub1 h
  simp only [a30, Prod.mk.injEq, List.cons.injEq, D.v.injEq, V.sl.injEq, cv, true_and, and_true] at h
  exact h
theorem K30_30 : K_cmp_Or_int O30 := fun p0 r h => cM (x := p0) inj30 h
theorem K29_30 : K_cmp_Compare_int O30 := fun p0 p1 r h => (aV (by decide) _ _).trans (K29_29 p0 p1 r h)
theorem K25_26 : K_strings_Compare O26 := fun p0 p1 r h => (aV (by decide) _ _).trans (K25_25 p0 p1 r h)
theorem K25_27 : K_strings_Compare O27 := fun p0 p1 r h => (aV (by decide) _ _).trans (K25_26 p0 p1 r h)
theorem K25_28 : K_strings_Compare O28 := fun p0 p1 r h => (aV (by decide) _ _).trans (K25_27 p0 p1 r h)
theorem K25_29 : K_strings_Compare O29 := fun p0 p1 r h => (aV (by decide) _ _).trans (K25_28 p0 p1 r h)
theorem K25_30 : K_strings_Compare O30 := fun p0 p1 r h => (aV (by decide) _ _).trans (K25_29 p0 p1 r h)
def a31 (x : GScore × GScore) : List D × aA := ([.agg [.v (.s x.1.fMember), .v (.i .i64 x.1.fN)], .agg [.v (.s x.2.fMember), .v (.i .i64 x.2.fN)]], [])
noncomputable def O31 : ak := ak.addF O30 75 a31 (fun x => value_byScore x.1 x.2) (fun _ (r : Int) => (.v (.i .i64 r), []))
set_option maxRecDepth 100000 in
theorem O31_sound : cE Try.prog O31 := cA O30_sound (fun x r h => cL (ν := n75) (cz O30_sound) Try.func75 (by kernel_rfl) mixed (by kernel_rfl) (Nat.le_of_ble_eq_true (by kernel_rfl)) (r_value_byScore O30 K29_30 K25_30 K30_30 x.1 x.2 r h))
theorem inj31 : ∀ x y, a31 x = a31 y → x = y := by
  rintro ⟨⟨ua1, ua2⟩, ⟨ua3, ua4⟩⟩ ⟨⟨ub1, ub2⟩, ⟨ub3, ub4⟩⟩ h
  simp only [a31, Prod.mk.injEq, List.cons.injEq, D.v.injEq, D.agg.injEq, V.i.injEq, V.s.injEq, true_and, and_true] at h
  simp only [h]
theorem K31_31 : K_value_byScore O31 := fun p0 p1 r h => cM (x := (p0, p1)) inj31 h
def a32 (x : (List GScore)) : List D × aA := ([.v (.sl 2 (ab GScore.row x)), .clo 75 []], [])
noncomputable def O32 : ak := ak.addF O31 74 a32 (fun x => value_rising_Score_value_byScore x) (fun _ (r : Bool) => (.v (.b r), []))
set_option maxRecDepth 100000 in
theorem O32_sound : cE Try.prog O32 := cA O31_sound (fun x r h => cL (ν := n74) (cz O31_sound) Try.func74 (by kernel_rfl) mixed (by kernel_rfl) (Nat.le_of_ble_eq_true (by kernel_rfl)) (r_value_rising_Score_value_byScore O31 K31_31 x r h))
theorem inj32 : ∀ x y, a32 x = a32 y → x = y := by
  rintro ua1 ub1 h
  simp only [a32, Prod.mk.injEq, List.cons.injEq, D.v.injEq, V.sl.injEq, GScore.map_inj, true_and, and_true] at h
  exact h
theorem K32_32 : K_value_rising_Score_value_byScore O32 := fun p0 r h => cM (x := p0) inj32 h
theorem K25_31 : K_strings_Compare O31 := fun p0 p1 r h => (aV (by decide) _ _).trans (K25_30 p0 p1 r h)
theorem K25_32 : K_strings_Compare O32 := fun p0 p1 r h => (aV (by decide) _ _).trans (K25_31 p0 p1 r h)
def a33 (x : (List ByteArray)) : List D × aA := ([.v (.sl 1 (ab aY x)), .clo 77 []], [])
noncomputable def O33 : ak := ak.addF O32 76 a33 (fun x => value_rising_string_strings_Compare x) (fun _ (r : Bool) => (.v (.b r), []))
set_option maxRecDepth 100000 in
theorem O33_sound : cE Try.prog O33 := cA O32_sound (fun x r h => cL (ν := n76) (cz O32_sound) Try.func76 (by kernel_rfl) mixed (by kernel_rfl) (Nat.le_of_ble_eq_true (by kernel_rfl)) (r_value_rising_string_strings_Compare O32 K25_32 x r h))
theorem inj33 : ∀ x y, a33 x = a33 y → x = y := by
  rintro ua1 ub1 h
  simp only [a33, Prod.mk.injEq, List.cons.injEq, D.v.injEq, V.sl.injEq, cu, true_and, and_true] at h
  exact h
theorem K33_33 : K_value_rising_string_strings_Compare O33 := fun p0 r h => cM (x := p0) inj33 h
def a34 (x : GScore × ByteArray) : List D × aA := ([.agg [.v (.s x.1.fMember), .v (.i .i64 x.1.fN)], .ptr 0 0], [[.v (.s x.2)]])
noncomputable def O34 : ak := ak.addF O33 114 a34 (fun x => value_rank_fn1 x.1 x.2) (fun _ (r : Bool × ByteArray) => (.v (.b r.1), [[.v (.s r.2)]]))
set_option maxRecDepth 100000 in
theorem O34_sound : cE Try.prog O34 := cA O33_sound (fun x r h => cL (ν := n114) (cz O33_sound) Try.func114 (by kernel_rfl) mixed (by kernel_rfl) (Nat.le_of_ble_eq_true (by kernel_rfl)) (r_value_rank_fn1 O33 x.1 x.2 r h))
theorem inj34 : ∀ x y, a34 x = a34 y → x = y := by
  rintro ⟨⟨ua1, ua2⟩, ua3⟩ ⟨⟨ub1, ub2⟩, ub3⟩ h
  simp only [a34, Prod.mk.injEq, List.cons.injEq, D.v.injEq, D.agg.injEq, V.i.injEq, V.s.injEq, true_and, and_true] at h
  simp only [h]
theorem K34_34 : K_value_rank_fn1 O34 := fun p0 p1 r h => cM (x := (p0, p1)) inj34 h
def a35 (x : (List GScore) × ByteArray) : List D × aA := ([.v (.sl 2 (ab GScore.row x.1)), .clo 114 [.ptr 0 0]], [[.v (.s x.2)]])
noncomputable def O35 : ak := ak.addF O34 110 a35 (fun x => slices_IndexFunc_Score_Score_value_rank_fn1 x.1 x.2) (fun _ (r : Int × ByteArray) => (.v (.i .i64 r.1), [[.v (.s r.2)]]))
set_option maxRecDepth 100000 in
theorem O35_sound : cE Try.prog O35 := cA O34_sound (fun x r h => cL (ν := n110) (cz O34_sound) Try.func110 (by kernel_rfl) mixed (by kernel_rfl) (Nat.le_of_ble_eq_true (by kernel_rfl)) (r_slices_IndexFunc_Score_Score_value_rank_fn1 O34 K34_34 x.1 x.2 r h))
theorem inj35 : ∀ x y, a35 x = a35 y → x = y := by
  rintro ⟨ua1, ua2⟩ ⟨ub1, ub2⟩ h
  simp only [a35, Prod.mk.injEq, List.cons.injEq, D.v.injEq, V.s.injEq, V.sl.injEq, GScore.map_inj, true_and, and_true] at h
  simp only [h]
theorem K35_35 : K_slices_IndexFunc_Score_Score_value_rank_fn1 O35 := fun p0 p1 r h => cM (x := (p0, p1)) inj35 h
def a36 (x : (List GScore) × ByteArray) : List D × aA := ([.v (.sl 2 (ab GScore.row x.1)), .v (.s x.2)], [])
noncomputable def O36 : ak := ak.addF O35 78 a36 (fun x => value_rank x.1 x.2) (fun _ (r : Int) => (.v (.i .i64 r), []))
set_option maxRecDepth 100000 in
theorem O36_sound : cE Try.prog O36 := cA O35_sound (fun x r h => cL (ν := n78) (cz O35_sound) Try.func78 (by kernel_rfl) mixed (by kernel_rfl) (Nat.le_of_ble_eq_true (by kernel_rfl)) (r_value_rank O35 K35_35 x.1 x.2 r h))
theorem inj36 : ∀ x y, a36 x = a36 y → x = y := by
  rintro ⟨ua1, ua2⟩ ⟨ub1, ub2⟩ h
  simp only [a36, Prod.mk.injEq, List.cons.injEq, D.v.injEq, V.s.injEq, V.sl.injEq, GScore.map_inj, true_and, and_true] at h
  simp only [h]
theorem K36_36 : K_value_rank O36 := fun p0 p1 r h => cM (x := (p0, p1)) inj36 h
theorem K7_8 : K_value_elements O8 := fun p0 r h => (aV (by decide) _ _).trans (K7_7 p0 r h)
theorem K7_9 : K_value_elements O9 := fun p0 r h => (aV (by decide) _ _).trans (K7_8 p0 r h)
theorem K7_10 : K_value_elements O10 := fun p0 r h => (aV (by decide) _ _).trans (K7_9 p0 r h)
theorem K7_11 : K_value_elements O11 := fun p0 r h => (aV (by decide) _ _).trans (K7_10 p0 r h)
theorem K7_12 : K_value_elements O12 := fun p0 r h => (aV (by decide) _ _).trans (K7_11 p0 r h)
theorem K7_13 : K_value_elements O13 := fun p0 r h => (aV (by decide) _ _).trans (K7_12 p0 r h)
theorem K7_14 : K_value_elements O14 := fun p0 r h => (aV (by decide) _ _).trans (K7_13 p0 r h)
theorem K7_15 : K_value_elements O15 := fun p0 r h => (aV (by decide) _ _).trans (K7_14 p0 r h)
theorem K7_16 : K_value_elements O16 := fun p0 r h => (aV (by decide) _ _).trans (K7_15 p0 r h)
theorem K7_17 : K_value_elements O17 := fun p0 r h => (aV (by decide) _ _).trans (K7_16 p0 r h)
theorem K7_18 : K_value_elements O18 := fun p0 r h => (aV (by decide) _ _).trans (K7_17 p0 r h)
theorem K7_19 : K_value_elements O19 := fun p0 r h => (aV (by decide) _ _).trans (K7_18 p0 r h)
theorem K7_20 : K_value_elements O20 := fun p0 r h => (aV (by decide) _ _).trans (K7_19 p0 r h)
theorem K7_21 : K_value_elements O21 := fun p0 r h => (aV (by decide) _ _).trans (K7_20 p0 r h)
theorem K7_22 : K_value_elements O22 := fun p0 r h => (aV (by decide) _ _).trans (K7_21 p0 r h)
theorem K7_23 : K_value_elements O23 := fun p0 r h => (aV (by decide) _ _).trans (K7_22 p0 r h)
theorem K7_24 : K_value_elements O24 := fun p0 r h => (aV (by decide) _ _).trans (K7_23 p0 r h)
theorem K7_25 : K_value_elements O25 := fun p0 r h => (aV (by decide) _ _).trans (K7_24 p0 r h)
theorem K7_26 : K_value_elements O26 := fun p0 r h => (aV (by decide) _ _).trans (K7_25 p0 r h)
theorem K7_27 : K_value_elements O27 := fun p0 r h => (aV (by decide) _ _).trans (K7_26 p0 r h)
theorem K7_28 : K_value_elements O28 := fun p0 r h => (aV (by decide) _ _).trans (K7_27 p0 r h)
theorem K7_29 : K_value_elements O29 := fun p0 r h => (aV (by decide) _ _).trans (K7_28 p0 r h)
theorem K7_30 : K_value_elements O30 := fun p0 r h => (aV (by decide) _ _).trans (K7_29 p0 r h)
theorem K7_31 : K_value_elements O31 := fun p0 r h => (aV (by decide) _ _).trans (K7_30 p0 r h)
theorem K7_32 : K_value_elements O32 := fun p0 r h => (aV (by decide) _ _).trans (K7_31 p0 r h)
theorem K7_33 : K_value_elements O33 := fun p0 r h => (aV (by decide) _ _).trans (K7_32 p0 r h)
theorem K7_34 : K_value_elements O34 := fun p0 r h => (aV (by decide) _ _).trans (K7_33 p0 r h)
theorem K7_35 : K_value_elements O35 := fun p0 r h => (aV (by decide) _ _).trans (K7_34 p0 r h)
theorem K7_36 : K_value_elements O36 := fun p0 r h => (aV (by decide) _ _).trans (K7_35 p0 r h)
theorem K8_16 : K_value_text O16 := fun p0 r h => (aV (by decide) _ _).trans (K8_15 p0 r h)
theorem K8_17 : K_value_text O17 := fun p0 r h => (aV (by decide) _ _).trans (K8_16 p0 r h)
theorem K8_18 : K_value_text O18 := fun p0 r h => (aV (by decide) _ _).trans (K8_17 p0 r h)
theorem K8_19 : K_value_text O19 := fun p0 r h => (aV (by decide) _ _).trans (K8_18 p0 r h)
theorem K8_20 : K_value_text O20 := fun p0 r h => (aV (by decide) _ _).trans (K8_19 p0 r h)
theorem K8_21 : K_value_text O21 := fun p0 r h => (aV (by decide) _ _).trans (K8_20 p0 r h)
theorem K8_22 : K_value_text O22 := fun p0 r h => (aV (by decide) _ _).trans (K8_21 p0 r h)
theorem K8_23 : K_value_text O23 := fun p0 r h => (aV (by decide) _ _).trans (K8_22 p0 r h)
theorem K8_24 : K_value_text O24 := fun p0 r h => (aV (by decide) _ _).trans (K8_23 p0 r h)
theorem K8_25 : K_value_text O25 := fun p0 r h => (aV (by decide) _ _).trans (K8_24 p0 r h)
theorem K8_26 : K_value_text O26 := fun p0 r h => (aV (by decide) _ _).trans (K8_25 p0 r h)
theorem K8_27 : K_value_text O27 := fun p0 r h => (aV (by decide) _ _).trans (K8_26 p0 r h)
theorem K8_28 : K_value_text O28 := fun p0 r h => (aV (by decide) _ _).trans (K8_27 p0 r h)
theorem K8_29 : K_value_text O29 := fun p0 r h => (aV (by decide) _ _).trans (K8_28 p0 r h)
theorem K8_30 : K_value_text O30 := fun p0 r h => (aV (by decide) _ _).trans (K8_29 p0 r h)
theorem K8_31 : K_value_text O31 := fun p0 r h => (aV (by decide) _ _).trans (K8_30 p0 r h)
theorem K8_32 : K_value_text O32 := fun p0 r h => (aV (by decide) _ _).trans (K8_31 p0 r h)
theorem K8_33 : K_value_text O33 := fun p0 r h => (aV (by decide) _ _).trans (K8_32 p0 r h)
theorem K8_34 : K_value_text O34 := fun p0 r h => (aV (by decide) _ _).trans (K8_33 p0 r h)
theorem K8_35 : K_value_text O35 := fun p0 r h => (aV (by decide) _ _).trans (K8_34 p0 r h)
theorem K8_36 : K_value_text O36 := fun p0 r h => (aV (by decide) _ _).trans (K8_35 p0 r h)
theorem K11_12 : K_slices_ContainsFunc_string_string_value_Check_fn1 O12 := fun p0 r h => (aV (by decide) _ _).trans (K11_11 p0 r h)
theorem K11_13 : K_slices_ContainsFunc_string_string_value_Check_fn1 O13 := fun p0 r h => (aV (by decide) _ _).trans (K11_12 p0 r h)
theorem K11_14 : K_slices_ContainsFunc_string_string_value_Check_fn1 O14 := fun p0 r h => (aV (by decide) _ _).trans (K11_13 p0 r h)
theorem K11_15 : K_slices_ContainsFunc_string_string_value_Check_fn1 O15 := fun p0 r h => (aV (by decide) _ _).trans (K11_14 p0 r h)
theorem K11_16 : K_slices_ContainsFunc_string_string_value_Check_fn1 O16 := fun p0 r h => (aV (by decide) _ _).trans (K11_15 p0 r h)
theorem K11_17 : K_slices_ContainsFunc_string_string_value_Check_fn1 O17 := fun p0 r h => (aV (by decide) _ _).trans (K11_16 p0 r h)
theorem K11_18 : K_slices_ContainsFunc_string_string_value_Check_fn1 O18 := fun p0 r h => (aV (by decide) _ _).trans (K11_17 p0 r h)
theorem K11_19 : K_slices_ContainsFunc_string_string_value_Check_fn1 O19 := fun p0 r h => (aV (by decide) _ _).trans (K11_18 p0 r h)
theorem K11_20 : K_slices_ContainsFunc_string_string_value_Check_fn1 O20 := fun p0 r h => (aV (by decide) _ _).trans (K11_19 p0 r h)
theorem K11_21 : K_slices_ContainsFunc_string_string_value_Check_fn1 O21 := fun p0 r h => (aV (by decide) _ _).trans (K11_20 p0 r h)
theorem K11_22 : K_slices_ContainsFunc_string_string_value_Check_fn1 O22 := fun p0 r h => (aV (by decide) _ _).trans (K11_21 p0 r h)
theorem K11_23 : K_slices_ContainsFunc_string_string_value_Check_fn1 O23 := fun p0 r h => (aV (by decide) _ _).trans (K11_22 p0 r h)
theorem K11_24 : K_slices_ContainsFunc_string_string_value_Check_fn1 O24 := fun p0 r h => (aV (by decide) _ _).trans (K11_23 p0 r h)
theorem K11_25 : K_slices_ContainsFunc_string_string_value_Check_fn1 O25 := fun p0 r h => (aV (by decide) _ _).trans (K11_24 p0 r h)
theorem K11_26 : K_slices_ContainsFunc_string_string_value_Check_fn1 O26 := fun p0 r h => (aV (by decide) _ _).trans (K11_25 p0 r h)
theorem K11_27 : K_slices_ContainsFunc_string_string_value_Check_fn1 O27 := fun p0 r h => (aV (by decide) _ _).trans (K11_26 p0 r h)
theorem K11_28 : K_slices_ContainsFunc_string_string_value_Check_fn1 O28 := fun p0 r h => (aV (by decide) _ _).trans (K11_27 p0 r h)
theorem K11_29 : K_slices_ContainsFunc_string_string_value_Check_fn1 O29 := fun p0 r h => (aV (by decide) _ _).trans (K11_28 p0 r h)
theorem K11_30 : K_slices_ContainsFunc_string_string_value_Check_fn1 O30 := fun p0 r h => (aV (by decide) _ _).trans (K11_29 p0 r h)
theorem K11_31 : K_slices_ContainsFunc_string_string_value_Check_fn1 O31 := fun p0 r h => (aV (by decide) _ _).trans (K11_30 p0 r h)
theorem K11_32 : K_slices_ContainsFunc_string_string_value_Check_fn1 O32 := fun p0 r h => (aV (by decide) _ _).trans (K11_31 p0 r h)
theorem K11_33 : K_slices_ContainsFunc_string_string_value_Check_fn1 O33 := fun p0 r h => (aV (by decide) _ _).trans (K11_32 p0 r h)
theorem K11_34 : K_slices_ContainsFunc_string_string_value_Check_fn1 O34 := fun p0 r h => (aV (by decide) _ _).trans (K11_33 p0 r h)
theorem K11_35 : K_slices_ContainsFunc_string_string_value_Check_fn1 O35 := fun p0 r h => (aV (by decide) _ _).trans (K11_34 p0 r h)
theorem K11_36 : K_slices_ContainsFunc_string_string_value_Check_fn1 O36 := fun p0 r h => (aV (by decide) _ _).trans (K11_35 p0 r h)
theorem K15_16 : K_slices_ContainsFunc_Pair_Pair_value_Check_fn2 O16 := fun p0 r h => (aV (by decide) _ _).trans (K15_15 p0 r h)
theorem K15_17 : K_slices_ContainsFunc_Pair_Pair_value_Check_fn2 O17 := fun p0 r h => (aV (by decide) _ _).trans (K15_16 p0 r h)
theorem K15_18 : K_slices_ContainsFunc_Pair_Pair_value_Check_fn2 O18 := fun p0 r h => (aV (by decide) _ _).trans (K15_17 p0 r h)
theorem K15_19 : K_slices_ContainsFunc_Pair_Pair_value_Check_fn2 O19 := fun p0 r h => (aV (by decide) _ _).trans (K15_18 p0 r h)
theorem K15_20 : K_slices_ContainsFunc_Pair_Pair_value_Check_fn2 O20 := fun p0 r h => (aV (by decide) _ _).trans (K15_19 p0 r h)
theorem K15_21 : K_slices_ContainsFunc_Pair_Pair_value_Check_fn2 O21 := fun p0 r h => (aV (by decide) _ _).trans (K15_20 p0 r h)
theorem K15_22 : K_slices_ContainsFunc_Pair_Pair_value_Check_fn2 O22 := fun p0 r h => (aV (by decide) _ _).trans (K15_21 p0 r h)
theorem K15_23 : K_slices_ContainsFunc_Pair_Pair_value_Check_fn2 O23 := fun p0 r h => (aV (by decide) _ _).trans (K15_22 p0 r h)
theorem K15_24 : K_slices_ContainsFunc_Pair_Pair_value_Check_fn2 O24 := fun p0 r h => (aV (by decide) _ _).trans (K15_23 p0 r h)
theorem K15_25 : K_slices_ContainsFunc_Pair_Pair_value_Check_fn2 O25 := fun p0 r h => (aV (by decide) _ _).trans (K15_24 p0 r h)
theorem K15_26 : K_slices_ContainsFunc_Pair_Pair_value_Check_fn2 O26 := fun p0 r h => (aV (by decide) _ _).trans (K15_25 p0 r h)
theorem K15_27 : K_slices_ContainsFunc_Pair_Pair_value_Check_fn2 O27 := fun p0 r h => (aV (by decide) _ _).trans (K15_26 p0 r h)
theorem K15_28 : K_slices_ContainsFunc_Pair_Pair_value_Check_fn2 O28 := fun p0 r h => (aV (by decide) _ _).trans (K15_27 p0 r h)
theorem K15_29 : K_slices_ContainsFunc_Pair_Pair_value_Check_fn2 O29 := fun p0 r h => (aV (by decide) _ _).trans (K15_28 p0 r h)
theorem K15_30 : K_slices_ContainsFunc_Pair_Pair_value_Check_fn2 O30 := fun p0 r h => (aV (by decide) _ _).trans (K15_29 p0 r h)
theorem K15_31 : K_slices_ContainsFunc_Pair_Pair_value_Check_fn2 O31 := fun p0 r h => (aV (by decide) _ _).trans (K15_30 p0 r h)
theorem K15_32 : K_slices_ContainsFunc_Pair_Pair_value_Check_fn2 O32 := fun p0 r h => (aV (by decide) _ _).trans (K15_31 p0 r h)
theorem K15_33 : K_slices_ContainsFunc_Pair_Pair_value_Check_fn2 O33 := fun p0 r h => (aV (by decide) _ _).trans (K15_32 p0 r h)
theorem K15_34 : K_slices_ContainsFunc_Pair_Pair_value_Check_fn2 O34 := fun p0 r h => (aV (by decide) _ _).trans (K15_33 p0 r h)
theorem K15_35 : K_slices_ContainsFunc_Pair_Pair_value_Check_fn2 O35 := fun p0 r h => (aV (by decide) _ _).trans (K15_34 p0 r h)
theorem K15_36 : K_slices_ContainsFunc_Pair_Pair_value_Check_fn2 O36 := fun p0 r h => (aV (by decide) _ _).trans (K15_35 p0 r h)
theorem K18_19 : K_slices_ContainsFunc_Score_Score_value_Check_fn3 O19 := fun p0 r h => (aV (by decide) _ _).trans (K18_18 p0 r h)
theorem K18_20 : K_slices_ContainsFunc_Score_Score_value_Check_fn3 O20 := fun p0 r h => (aV (by decide) _ _).trans (K18_19 p0 r h)
theorem K18_21 : K_slices_ContainsFunc_Score_Score_value_Check_fn3 O21 := fun p0 r h => (aV (by decide) _ _).trans (K18_20 p0 r h)
theorem K18_22 : K_slices_ContainsFunc_Score_Score_value_Check_fn3 O22 := fun p0 r h => (addF_other (by intro x hx; simp [a22] at hx)).trans (K18_21 p0 r h)
theorem K18_23 : K_slices_ContainsFunc_Score_Score_value_Check_fn3 O23 := fun p0 r h => (aV (by decide) _ _).trans (K18_22 p0 r h)
theorem K18_24 : K_slices_ContainsFunc_Score_Score_value_Check_fn3 O24 := fun p0 r h => (aV (by decide) _ _).trans (K18_23 p0 r h)
theorem K18_25 : K_slices_ContainsFunc_Score_Score_value_Check_fn3 O25 := fun p0 r h => (aV (by decide) _ _).trans (K18_24 p0 r h)
theorem K18_26 : K_slices_ContainsFunc_Score_Score_value_Check_fn3 O26 := fun p0 r h => (aV (by decide) _ _).trans (K18_25 p0 r h)
theorem K18_27 : K_slices_ContainsFunc_Score_Score_value_Check_fn3 O27 := fun p0 r h => (aV (by decide) _ _).trans (K18_26 p0 r h)
theorem K18_28 : K_slices_ContainsFunc_Score_Score_value_Check_fn3 O28 := fun p0 r h => (aV (by decide) _ _).trans (K18_27 p0 r h)
theorem K18_29 : K_slices_ContainsFunc_Score_Score_value_Check_fn3 O29 := fun p0 r h => (aV (by decide) _ _).trans (K18_28 p0 r h)
theorem K18_30 : K_slices_ContainsFunc_Score_Score_value_Check_fn3 O30 := fun p0 r h => (aV (by decide) _ _).trans (K18_29 p0 r h)
theorem K18_31 : K_slices_ContainsFunc_Score_Score_value_Check_fn3 O31 := fun p0 r h => (aV (by decide) _ _).trans (K18_30 p0 r h)
theorem K18_32 : K_slices_ContainsFunc_Score_Score_value_Check_fn3 O32 := fun p0 r h => (aV (by decide) _ _).trans (K18_31 p0 r h)
theorem K18_33 : K_slices_ContainsFunc_Score_Score_value_Check_fn3 O33 := fun p0 r h => (aV (by decide) _ _).trans (K18_32 p0 r h)
theorem K18_34 : K_slices_ContainsFunc_Score_Score_value_Check_fn3 O34 := fun p0 r h => (aV (by decide) _ _).trans (K18_33 p0 r h)
theorem K18_35 : K_slices_ContainsFunc_Score_Score_value_Check_fn3 O35 := fun p0 r h => (aV (by decide) _ _).trans (K18_34 p0 r h)
theorem K18_36 : K_slices_ContainsFunc_Score_Score_value_Check_fn3 O36 := fun p0 r h => (aV (by decide) _ _).trans (K18_35 p0 r h)
theorem K19_20 : K_value_count O20 := fun p0 r h => (aV (by decide) _ _).trans (K19_19 p0 r h)
theorem K19_21 : K_value_count O21 := fun p0 r h => (aV (by decide) _ _).trans (K19_20 p0 r h)
theorem K19_22 : K_value_count O22 := fun p0 r h => (aV (by decide) _ _).trans (K19_21 p0 r h)
theorem K19_23 : K_value_count O23 := fun p0 r h => (aV (by decide) _ _).trans (K19_22 p0 r h)
theorem K19_24 : K_value_count O24 := fun p0 r h => (aV (by decide) _ _).trans (K19_23 p0 r h)
theorem K19_25 : K_value_count O25 := fun p0 r h => (aV (by decide) _ _).trans (K19_24 p0 r h)
theorem K19_26 : K_value_count O26 := fun p0 r h => (aV (by decide) _ _).trans (K19_25 p0 r h)
theorem K19_27 : K_value_count O27 := fun p0 r h => (aV (by decide) _ _).trans (K19_26 p0 r h)
theorem K19_28 : K_value_count O28 := fun p0 r h => (aV (by decide) _ _).trans (K19_27 p0 r h)
theorem K19_29 : K_value_count O29 := fun p0 r h => (aV (by decide) _ _).trans (K19_28 p0 r h)
theorem K19_30 : K_value_count O30 := fun p0 r h => (aV (by decide) _ _).trans (K19_29 p0 r h)
theorem K19_31 : K_value_count O31 := fun p0 r h => (aV (by decide) _ _).trans (K19_30 p0 r h)
theorem K19_32 : K_value_count O32 := fun p0 r h => (aV (by decide) _ _).trans (K19_31 p0 r h)
theorem K19_33 : K_value_count O33 := fun p0 r h => (aV (by decide) _ _).trans (K19_32 p0 r h)
theorem K19_34 : K_value_count O34 := fun p0 r h => (aV (by decide) _ _).trans (K19_33 p0 r h)
theorem K19_35 : K_value_count O35 := fun p0 r h => (aV (by decide) _ _).trans (K19_34 p0 r h)
theorem K19_36 : K_value_count O36 := fun p0 r h => (aV (by decide) _ _).trans (K19_35 p0 r h)
theorem K22_23 : K_slices_ContainsFunc_Score_Score_value_Check_fn4 O23 := fun p0 r h => (aV (by decide) _ _).trans (K22_22 p0 r h)
theorem K22_24 : K_slices_ContainsFunc_Score_Score_value_Check_fn4 O24 := fun p0 r h => (aV (by decide) _ _).trans (K22_23 p0 r h)
theorem K22_25 : K_slices_ContainsFunc_Score_Score_value_Check_fn4 O25 := fun p0 r h => (aV (by decide) _ _).trans (K22_24 p0 r h)
theorem K22_26 : K_slices_ContainsFunc_Score_Score_value_Check_fn4 O26 := fun p0 r h => (aV (by decide) _ _).trans (K22_25 p0 r h)
theorem K22_27 : K_slices_ContainsFunc_Score_Score_value_Check_fn4 O27 := fun p0 r h => (aV (by decide) _ _).trans (K22_26 p0 r h)
theorem K22_28 : K_slices_ContainsFunc_Score_Score_value_Check_fn4 O28 := fun p0 r h => (aV (by decide) _ _).trans (K22_27 p0 r h)
theorem K22_29 : K_slices_ContainsFunc_Score_Score_value_Check_fn4 O29 := fun p0 r h => (aV (by decide) _ _).trans (K22_28 p0 r h)
theorem K22_30 : K_slices_ContainsFunc_Score_Score_value_Check_fn4 O30 := fun p0 r h => (aV (by decide) _ _).trans (K22_29 p0 r h)
theorem K22_31 : K_slices_ContainsFunc_Score_Score_value_Check_fn4 O31 := fun p0 r h => (aV (by decide) _ _).trans (K22_30 p0 r h)
theorem K22_32 : K_slices_ContainsFunc_Score_Score_value_Check_fn4 O32 := fun p0 r h => (aV (by decide) _ _).trans (K22_31 p0 r h)
theorem K22_33 : K_slices_ContainsFunc_Score_Score_value_Check_fn4 O33 := fun p0 r h => (aV (by decide) _ _).trans (K22_32 p0 r h)
theorem K22_34 : K_slices_ContainsFunc_Score_Score_value_Check_fn4 O34 := fun p0 r h => (aV (by decide) _ _).trans (K22_33 p0 r h)
theorem K22_35 : K_slices_ContainsFunc_Score_Score_value_Check_fn4 O35 := fun p0 r h => (aV (by decide) _ _).trans (K22_34 p0 r h)
theorem K22_36 : K_slices_ContainsFunc_Score_Score_value_Check_fn4 O36 := fun p0 r h => (aV (by decide) _ _).trans (K22_35 p0 r h)
theorem K27_28 : K_value_rising_Pair_value_byField O28 := fun p0 r h => (aV (by decide) _ _).trans (K27_27 p0 r h)
theorem K27_29 : K_value_rising_Pair_value_byField O29 := fun p0 r h => (aV (by decide) _ _).trans (K27_28 p0 r h)
theorem K27_30 : K_value_rising_Pair_value_byField O30 := fun p0 r h => (aV (by decide) _ _).trans (K27_29 p0 r h)
theorem K27_31 : K_value_rising_Pair_value_byField O31 := fun p0 r h => (aV (by decide) _ _).trans (K27_30 p0 r h)
theorem K27_32 : K_value_rising_Pair_value_byField O32 := fun p0 r h => (aV (by decide) _ _).trans (K27_31 p0 r h)
theorem K27_33 : K_value_rising_Pair_value_byField O33 := fun p0 r h => (aV (by decide) _ _).trans (K27_32 p0 r h)
theorem K27_34 : K_value_rising_Pair_value_byField O34 := fun p0 r h => (aV (by decide) _ _).trans (K27_33 p0 r h)
theorem K27_35 : K_value_rising_Pair_value_byField O35 := fun p0 r h => (aV (by decide) _ _).trans (K27_34 p0 r h)
theorem K27_36 : K_value_rising_Pair_value_byField O36 := fun p0 r h => (aV (by decide) _ _).trans (K27_35 p0 r h)
theorem K32_33 : K_value_rising_Score_value_byScore O33 := fun p0 r h => (aV (by decide) _ _).trans (K32_32 p0 r h)
theorem K32_34 : K_value_rising_Score_value_byScore O34 := fun p0 r h => (aV (by decide) _ _).trans (K32_33 p0 r h)
theorem K32_35 : K_value_rising_Score_value_byScore O35 := fun p0 r h => (aV (by decide) _ _).trans (K32_34 p0 r h)
theorem K32_36 : K_value_rising_Score_value_byScore O36 := fun p0 r h => (aV (by decide) _ _).trans (K32_35 p0 r h)
theorem K33_34 : K_value_rising_string_strings_Compare O34 := fun p0 r h => (aV (by decide) _ _).trans (K33_33 p0 r h)
theorem K33_35 : K_value_rising_string_strings_Compare O35 := fun p0 r h => (aV (by decide) _ _).trans (K33_34 p0 r h)
theorem K33_36 : K_value_rising_string_strings_Compare O36 := fun p0 r h => (aV (by decide) _ _).trans (K33_35 p0 r h)
def a37 (x : GValue) : List D × aA := ([.agg [.v (.i .i64 x.fKind), .v (.s x.fText), .v (.i .i64 x.fCount), .v (.sl 2 (ab GPair.row x.fPairs)), .v (.sl 1 (ab aY x.fItems)), .v (.sl 2 (ab GScore.row x.fScores))]], [])
noncomputable def O37 : ak := ak.addF O36 28 a37 (fun x => value_Check x) (fun _ (r : Int) => (.v (.i .i64 r), []))
set_option maxRecDepth 100000 in
theorem O37_sound : cE Try.prog O37 := cA O36_sound (fun x r h => cL (ν := n28) (cz O36_sound) Try.func28 (by kernel_rfl) mixed (by kernel_rfl) (Nat.le_of_ble_eq_true (by kernel_rfl)) (r_value_Check O36 K7_36 K8_36 K11_36 K15_36 K18_36 K19_36 K22_36 K27_36 K32_36 K33_36 K36_36 x r h))
theorem inj37 : ∀ x y, a37 x = a37 y → x = y := by
  rintro ⟨ua1, ua2, ua3, ua4, ua5, ua6⟩ ⟨ub1, ub2, ub3, ub4, ub5, ub6⟩ h
  simp only [a37, Prod.mk.injEq, List.cons.injEq, D.v.injEq, D.agg.injEq, V.i.injEq, V.s.injEq, V.sl.injEq, cu, GPair.map_inj, GScore.map_inj, true_and, and_true] at h
  simp only [h]
theorem K37_37 : K_value_Check O37 := fun p0 r h => cM (x := p0) inj37 h
def a38 (x : GStore) : List D × aA := ([.agg [.v (.i .i64 x.fNow), .v (.sl 8 (ab GEntry.row x.fEntries))]], [])
noncomputable def O38 : ak := ak.addF O37 34 a38 (fun x => store_Check x) (fun _ (r : Int) => (.v (.i .i64 r), []))
set_option maxRecDepth 100000 in
theorem O38_sound : cE Try.prog O38 := cA O37_sound (fun x r h => cL (ν := n34) (cz O37_sound) Try.func34 (by kernel_rfl) mixed (by kernel_rfl) (Nat.le_of_ble_eq_true (by kernel_rfl)) (r_store_Check O37 K37_37 x r h))
theorem inj38 : ∀ x y, a38 x = a38 y → x = y := by
  rintro ⟨ua1, ua2⟩ ⟨ub1, ub2⟩ h
  simp only [a38, Prod.mk.injEq, List.cons.injEq, D.v.injEq, D.agg.injEq, V.i.injEq, V.sl.injEq, GEntry.map_inj, true_and, and_true] at h
  simp only [h]
theorem K38_38 : K_store_Check O38 := fun p0 r h => cM (x := p0) inj38 h
def a39 (x : ByteArray) : List D × aA := ([.v (.s x)], [])
noncomputable def O39 : ak := ak.addF O38 122 a39 (fun x => client_CheckReply_fn1 x) (fun _ (r : Bool) => (.v (.b r), []))
set_option maxRecDepth 100000 in
theorem O39_sound : cE Try.prog O39 := cA O38_sound (fun x r h => cL (ν := n122) (cz O38_sound) Try.func122 (by kernel_rfl) mixed (by kernel_rfl) (Nat.le_of_ble_eq_true (by kernel_rfl)) (r_client_CheckReply_fn1 O38 x r h))
theorem inj39 : ∀ x y, a39 x = a39 y → x = y := by
  rintro ua1 ub1 h
  simp only [a39, Prod.mk.injEq, List.cons.injEq, D.v.injEq, V.s.injEq, and_true] at h
  exact h
theorem K39_39 : K_client_CheckReply_fn1 O39 := fun p0 r h => cM (x := p0) inj39 h
def a40 (x : (List ByteArray)) : List D × aA := ([.v (.sl 1 (ab aY x)), .clo 122 []], [])
noncomputable def O40 : ak := ak.addF O39 108 a40 (fun x => slices_IndexFunc_string_string_client_CheckReply_fn1 x) (fun _ (r : Int) => (.v (.i .i64 r), []))
set_option maxRecDepth 100000 in
theorem O40_sound : cE Try.prog O40 := cA O39_sound (fun x r h => cL (ν := n108) (cz O39_sound) Try.func108 (by kernel_rfl) mixed (by kernel_rfl) (Nat.le_of_ble_eq_true (by kernel_rfl)) (r_slices_IndexFunc_string_string_client_CheckReply_fn1 O39 K39_39 x r h))
theorem inj40 : ∀ x y, a40 x = a40 y → x = y := by
  rintro ua1 ub1 h
  simp only [a40, Prod.mk.injEq, List.cons.injEq, D.v.injEq, V.sl.injEq, cu, true_and, and_true] at h
  exact h
theorem K40_40 : K_slices_IndexFunc_string_string_client_CheckReply_fn1 O40 := fun p0 r h => cM (x := p0) inj40 h
def a41 (x : (List ByteArray)) : List D × aA := ([.v (.sl 1 (ab aY x)), .clo 122 []], [])
noncomputable def O41 : ak := ak.addF O40 63 a41 (fun x => slices_ContainsFunc_string_string_client_CheckReply_fn1 x) (fun _ (r : Bool) => (.v (.b r), []))
set_option maxRecDepth 100000 in
theorem O41_sound : cE Try.prog O41 := cA O40_sound (fun x r h => cL (ν := n63) (cz O40_sound) Try.func63 (by kernel_rfl) mixed (by kernel_rfl) (Nat.le_of_ble_eq_true (by kernel_rfl)) (r_slices_ContainsFunc_string_string_client_CheckReply_fn1 O40 K40_40 x r h))
theorem inj41 : ∀ x y, a41 x = a41 y → x = y := by
  rintro ua1 ub1 h
  simp only [a41, Prod.mk.injEq, List.cons.injEq, D.v.injEq, V.sl.injEq, cu, true_and, and_true] at h
  exact h
theorem K41_41 : K_slices_ContainsFunc_string_string_client_CheckReply_fn1 O41 := fun p0 r h => cM (x := p0) inj41 h
def a42 (x : GReply) : List D × aA := ([.agg [.v (.i .i64 x.fCode), .v (.s x.fText), .v (.i .i64 x.fN), .v (.sl 1 (ab aY x.fList))]], [])
noncomputable def O42 : ak := ak.addF O41 89 a42 (fun x => client_CheckReply x) (fun _ (r : Int) => (.v (.i .i64 r), []))
set_option maxRecDepth 100000 in
theorem O42_sound : cE Try.prog O42 := cA O41_sound (fun x r h => cL (ν := n89) (cz O41_sound) Try.func89 (by kernel_rfl) mixed (by kernel_rfl) (Nat.le_of_ble_eq_true (by kernel_rfl)) (r_client_CheckReply O41 K41_41 x r h))
theorem inj42 : ∀ x y, a42 x = a42 y → x = y := by
  rintro ⟨ua1, ua2, ua3, ua4⟩ ⟨ub1, ub2, ub3, ub4⟩ h
  simp only [a42, Prod.mk.injEq, List.cons.injEq, D.v.injEq, D.agg.injEq, V.i.injEq, V.s.injEq, V.sl.injEq, cu, true_and, and_true] at h
  simp only [h]
theorem K42_42 : K_client_CheckReply O42 := fun p0 r h => cM (x := p0) inj42 h
theorem K38_39 : K_store_Check O39 := fun p0 r h => (aV (by decide) _ _).trans (K38_38 p0 r h)
theorem K38_40 : K_store_Check O40 := fun p0 r h => (aV (by decide) _ _).trans (K38_39 p0 r h)
theorem K38_41 : K_store_Check O41 := fun p0 r h => (aV (by decide) _ _).trans (K38_40 p0 r h)
theorem K38_42 : K_store_Check O42 := fun p0 r h => (aV (by decide) _ _).trans (K38_41 p0 r h)
def a43 (x : GMachine) : List D × aA := ([.agg [.v (.i .i64 x.fStore.fNow), .v (.sl 8 (ab GEntry.row x.fStore.fEntries)), .v (.i .i64 x.fNext), .v (.sl 7 (ab GClient.row x.fClients))]], [])
noncomputable def O43 : ak := ak.addF O42 40 a43 (fun x => client_Check x) (fun _ (r : Int) => (.v (.i .i64 r), []))
set_option maxRecDepth 100000 in
theorem O43_sound : cE Try.prog O43 := cA O42_sound (fun x r h => cL (ν := n40) (cz O42_sound) Try.func40 (by kernel_rfl) mixed (by kernel_rfl) (Nat.le_of_ble_eq_true (by kernel_rfl)) (r_client_Check O42 K38_42 K42_42 x r h))
theorem inj43 : ∀ x y, a43 x = a43 y → x = y := by
  rintro ⟨⟨ua1, ua2⟩, ua3, ua4⟩ ⟨⟨ub1, ub2⟩, ub3, ub4⟩ h
  simp only [a43, Prod.mk.injEq, List.cons.injEq, D.v.injEq, D.agg.injEq, V.i.injEq, V.sl.injEq, GEntry.map_inj, GClient.map_inj, true_and, and_true] at h
  simp only [h]
theorem K43_43 : K_client_Check O43 := fun p0 r h => cM (x := p0) inj43 h
theorem K6_7 : K_tape_number O7 := fun p0 r h => (aV (by decide) _ _).trans (K6_6 p0 r h)
theorem K6_8 : K_tape_number O8 := fun p0 r h => (aV (by decide) _ _).trans (K6_7 p0 r h)
theorem K6_9 : K_tape_number O9 := fun p0 r h => (aV (by decide) _ _).trans (K6_8 p0 r h)
theorem K6_10 : K_tape_number O10 := fun p0 r h => (aV (by decide) _ _).trans (K6_9 p0 r h)
theorem K6_11 : K_tape_number O11 := fun p0 r h => (aV (by decide) _ _).trans (K6_10 p0 r h)
theorem K6_12 : K_tape_number O12 := fun p0 r h => (aV (by decide) _ _).trans (K6_11 p0 r h)
theorem K6_13 : K_tape_number O13 := fun p0 r h => (aV (by decide) _ _).trans (K6_12 p0 r h)
theorem K6_14 : K_tape_number O14 := fun p0 r h => (aV (by decide) _ _).trans (K6_13 p0 r h)
theorem K6_15 : K_tape_number O15 := fun p0 r h => (aV (by decide) _ _).trans (K6_14 p0 r h)
theorem K6_16 : K_tape_number O16 := fun p0 r h => (aV (by decide) _ _).trans (K6_15 p0 r h)
theorem K6_17 : K_tape_number O17 := fun p0 r h => (aV (by decide) _ _).trans (K6_16 p0 r h)
theorem K6_18 : K_tape_number O18 := fun p0 r h => (aV (by decide) _ _).trans (K6_17 p0 r h)
theorem K6_19 : K_tape_number O19 := fun p0 r h => (aV (by decide) _ _).trans (K6_18 p0 r h)
theorem K6_20 : K_tape_number O20 := fun p0 r h => (aV (by decide) _ _).trans (K6_19 p0 r h)
theorem K6_21 : K_tape_number O21 := fun p0 r h => (aV (by decide) _ _).trans (K6_20 p0 r h)
theorem K6_22 : K_tape_number O22 := fun p0 r h => (aV (by decide) _ _).trans (K6_21 p0 r h)
theorem K6_23 : K_tape_number O23 := fun p0 r h => (aV (by decide) _ _).trans (K6_22 p0 r h)
theorem K6_24 : K_tape_number O24 := fun p0 r h => (aV (by decide) _ _).trans (K6_23 p0 r h)
theorem K6_25 : K_tape_number O25 := fun p0 r h => (aV (by decide) _ _).trans (K6_24 p0 r h)
theorem K6_26 : K_tape_number O26 := fun p0 r h => (aV (by decide) _ _).trans (K6_25 p0 r h)
theorem K6_27 : K_tape_number O27 := fun p0 r h => (aV (by decide) _ _).trans (K6_26 p0 r h)
theorem K6_28 : K_tape_number O28 := fun p0 r h => (aV (by decide) _ _).trans (K6_27 p0 r h)
theorem K6_29 : K_tape_number O29 := fun p0 r h => (aV (by decide) _ _).trans (K6_28 p0 r h)
theorem K6_30 : K_tape_number O30 := fun p0 r h => (aV (by decide) _ _).trans (K6_29 p0 r h)
theorem K6_31 : K_tape_number O31 := fun p0 r h => (aV (by decide) _ _).trans (K6_30 p0 r h)
theorem K6_32 : K_tape_number O32 := fun p0 r h => (aV (by decide) _ _).trans (K6_31 p0 r h)
theorem K6_33 : K_tape_number O33 := fun p0 r h => (aV (by decide) _ _).trans (K6_32 p0 r h)
theorem K6_34 : K_tape_number O34 := fun p0 r h => (aV (by decide) _ _).trans (K6_33 p0 r h)
theorem K6_35 : K_tape_number O35 := fun p0 r h => (aV (by decide) _ _).trans (K6_34 p0 r h)
theorem K6_36 : K_tape_number O36 := fun p0 r h => (aV (by decide) _ _).trans (K6_35 p0 r h)
theorem K6_37 : K_tape_number O37 := fun p0 r h => (aV (by decide) _ _).trans (K6_36 p0 r h)
theorem K6_38 : K_tape_number O38 := fun p0 r h => (aV (by decide) _ _).trans (K6_37 p0 r h)
theorem K6_39 : K_tape_number O39 := fun p0 r h => (aV (by decide) _ _).trans (K6_38 p0 r h)
theorem K6_40 : K_tape_number O40 := fun p0 r h => (aV (by decide) _ _).trans (K6_39 p0 r h)
theorem K6_41 : K_tape_number O41 := fun p0 r h => (aV (by decide) _ _).trans (K6_40 p0 r h)
theorem K6_42 : K_tape_number O42 := fun p0 r h => (aV (by decide) _ _).trans (K6_41 p0 r h)
theorem K6_43 : K_tape_number O43 := fun p0 r h => (aV (by decide) _ _).trans (K6_42 p0 r h)
def a44 (x : GSnap) : List D × aA := ([.agg [.v (.i .i64 x.fIndex), .v (.i .i64 x.fTerm), .v (.i .i64 x.fMachine.fStore.fNow), .v (.sl 8 (ab GEntry.row x.fMachine.fStore.fEntries)), .v (.i .i64 x.fMachine.fNext), .v (.sl 7 (ab GClient.row x.fMachine.fClients))]], [])
noncomputable def O44 : ak := ak.addF O43 43 a44 (fun x => tape_CheckSnap x) (fun _ (r : Int) => (.v (.i .i64 r), []))
set_option maxRecDepth 100000 in
theorem O44_sound : cE Try.prog O44 := cA O43_sound (fun x r h => cL (ν := n43) (cz O43_sound) Try.func43 (by kernel_rfl) mixed (by kernel_rfl) (Nat.le_of_ble_eq_true (by kernel_rfl)) (r_tape_CheckSnap O43 K6_43 K43_43 x r h))
theorem inj44 : ∀ x y, a44 x = a44 y → x = y := by
  rintro ⟨ua1, ua2, ⟨⟨ua3, ua4⟩, ua5, ua6⟩⟩ ⟨ub1, ub2, ⟨⟨ub3, ub4⟩, ub5, ub6⟩⟩ h
  simp only [a44, Prod.mk.injEq, List.cons.injEq, D.v.injEq, D.agg.injEq, V.i.injEq, V.sl.injEq, GEntry.map_inj, GClient.map_inj, true_and, and_true] at h
  simp only [h]
theorem K44_44 : K_tape_CheckSnap O44 := fun p0 r h => cM (x := p0) inj44 h
def a45 (x : Int × Int × Int) : List D × aA := ([.v (.i .i64 x.1), .v (.i .i64 x.2.1), .v (.i .i64 x.2.2)], [])
noncomputable def O45 : ak := ak.addF O44 55 a45 (fun x => rostrumref_In x.1 x.2.1 x.2.2) (fun _ (r : Bool) => (.v (.b r), []))
set_option maxRecDepth 100000 in
theorem O45_sound : cE Try.prog O45 := cA O44_sound (fun x r h => cL (ν := n55) (cz O44_sound) Try.func55 (by kernel_rfl) mixed (by kernel_rfl) (Nat.le_of_ble_eq_true (by kernel_rfl)) (r_rostrumref_In O44 x.1 x.2.1 x.2.2 r h))
theorem inj45 : ∀ x y, a45 x = a45 y → x = y := by
  rintro ⟨ua1, ua2, ua3⟩ ⟨ub1, ub2, ub3⟩ h
  simp only [a45, Prod.mk.injEq, List.cons.injEq, D.v.injEq, V.i.injEq, true_and, and_true] at h
  simp only [h]
theorem K45_45 : K_rostrumref_In O45 := fun p0 p1 p2 r h => cM (x := (p0, p1, p2)) inj45 h
def a46 (x : Int) : List D × aA := ([.v (.i .i64 x)], [])
noncomputable def O46 : ak := ak.addF O45 91 a46 (fun x => rostrumref_numberMay x) (fun _ (r : Bool) => (.v (.b r), []))
set_option maxRecDepth 100000 in
theorem O46_sound : cE Try.prog O46 := cA O45_sound (fun x r h => cL (ν := n91) (cz O45_sound) Try.func91 (by kernel_rfl) mixed (by kernel_rfl) (Nat.le_of_ble_eq_true (by kernel_rfl)) (r_rostrumref_numberMay O45 K45_45 x r h))
theorem inj46 : ∀ x y, a46 x = a46 y → x = y := by
  rintro ua1 ub1 h
  simp only [a46, Prod.mk.injEq, List.cons.injEq, D.v.injEq, V.i.injEq, true_and, and_true] at h
  exact h
theorem K46_46 : K_rostrumref_numberMay O46 := fun p0 r h => cM (x := p0) inj46 h
theorem K45_46 : K_rostrumref_In O46 := fun p0 p1 p2 r h => (aV (by decide) _ _).trans (K45_45 p0 p1 p2 r h)
def a47 (x : ByteArray) : List D × aA := ([.v (.s x)], [])
noncomputable def O47 : ak := ak.addF O46 81 a47 (fun x => rostrumref_fieldMay x) (fun _ (r : Bool) => (.v (.b r), []))
set_option maxRecDepth 100000 in
theorem O47_sound : cE Try.prog O47 := cA O46_sound (fun x r h => cL (ν := n81) (cz O46_sound) Try.func81 (by kernel_rfl) mixed (by kernel_rfl) (Nat.le_of_ble_eq_true (by kernel_rfl)) (r_rostrumref_fieldMay O46 K45_46 x r h))
theorem inj47 : ∀ x y, a47 x = a47 y → x = y := by
  rintro ua1 ub1 h
  simp only [a47, Prod.mk.injEq, List.cons.injEq, D.v.injEq, V.s.injEq, and_true] at h
  exact h
theorem K47_47 : K_rostrumref_fieldMay O47 := fun p0 r h => cM (x := p0) inj47 h
def a48 (x : GValue) : List D × aA := ([.agg [.v (.i .i64 x.fKind), .v (.s x.fText), .v (.i .i64 x.fCount), .v (.sl 2 (ab GPair.row x.fPairs)), .v (.sl 1 (ab aY x.fItems)), .v (.sl 2 (ab GScore.row x.fScores))]], [])
noncomputable def O48 : ak := ak.addF O47 79 a48 (fun x => rostrumref_sizeOf x) (fun _ (r : Int) => (.v (.i .i64 r), []))
set_option maxRecDepth 100000 in
theorem O48_sound : cE Try.prog O48 := cA O47_sound (fun x r h => cL (ν := n79) (cz O47_sound) Try.func79 (by kernel_rfl) mixed (by kernel_rfl) (Nat.le_of_ble_eq_true (by kernel_rfl)) (r_rostrumref_sizeOf O47 x r h))
theorem inj48 : ∀ x y, a48 x = a48 y → x = y := by
  rintro ⟨ua1, ua2, ua3, ua4, ua5, ua6⟩ ⟨ub1, ub2, ub3, ub4, ub5, ub6⟩ h
  simp only [a48, Prod.mk.injEq, List.cons.injEq, D.v.injEq, D.agg.injEq, V.i.injEq, V.s.injEq, V.sl.injEq, cu, GPair.map_inj, GScore.map_inj, true_and, and_true] at h
  simp only [h]
theorem K48_48 : K_rostrumref_sizeOf O48 := fun p0 r h => cM (x := p0) inj48 h
def a49 (x : ByteArray) : List D × aA := ([.v (.s x)], [])
noncomputable def O49 : ak := ak.addF O48 80 a49 (fun x => rostrumref_textMay x) (fun _ (r : Bool) => (.v (.b r), []))
set_option maxRecDepth 100000 in
theorem O49_sound : cE Try.prog O49 := cA O48_sound (fun x r h => cL (ν := n80) (cz O48_sound) Try.func80 (by kernel_rfl) mixed (by kernel_rfl) (Nat.le_of_ble_eq_true (by kernel_rfl)) (r_rostrumref_textMay O48 x r h))
theorem inj49 : ∀ x y, a49 x = a49 y → x = y := by
  rintro ua1 ub1 h
  simp only [a49, Prod.mk.injEq, List.cons.injEq, D.v.injEq, V.s.injEq, and_true] at h
  exact h
theorem K49_49 : K_rostrumref_textMay O49 := fun p0 r h => cM (x := p0) inj49 h
theorem K45_47 : K_rostrumref_In O47 := fun p0 p1 p2 r h => (aV (by decide) _ _).trans (K45_46 p0 p1 p2 r h)
theorem K45_48 : K_rostrumref_In O48 := fun p0 p1 p2 r h => (aV (by decide) _ _).trans (K45_47 p0 p1 p2 r h)
theorem K45_49 : K_rostrumref_In O49 := fun p0 p1 p2 r h => (aV (by decide) _ _).trans (K45_48 p0 p1 p2 r h)
def a50 (x : Int) : List D × aA := ([.v (.i .i64 x)], [])
noncomputable def O50 : ak := ak.addF O49 82 a50 (fun x => rostrumref_countMay x) (fun _ (r : Bool) => (.v (.b r), []))
set_option maxRecDepth 100000 in
theorem O50_sound : cE Try.prog O50 := cA O49_sound (fun x r h => cL (ν := n82) (cz O49_sound) Try.func82 (by kernel_rfl) mixed (by kernel_rfl) (Nat.le_of_ble_eq_true (by kernel_rfl)) (r_rostrumref_countMay O49 K45_49 x r h))
theorem inj50 : ∀ x y, a50 x = a50 y → x = y := by
  rintro ua1 ub1 h
  simp only [a50, Prod.mk.injEq, List.cons.injEq, D.v.injEq, V.i.injEq, true_and, and_true] at h
  exact h
theorem K50_50 : K_rostrumref_countMay O50 := fun p0 r h => cM (x := p0) inj50 h
def a51 (x : GScore × GScore) : List D × aA := ([.agg [.v (.s x.1.fMember), .v (.i .i64 x.1.fN)], .agg [.v (.s x.2.fMember), .v (.i .i64 x.2.fN)]], [])
noncomputable def O51 : ak := ak.addF O50 83 a51 (fun x => rostrumref_scoreAhead x.1 x.2) (fun _ (r : Bool) => (.v (.b r), []))
set_option maxRecDepth 100000 in
theorem O51_sound : cE Try.prog O51 := cA O50_sound (fun x r h => cL (ν := n83) (cz O50_sound) Try.func83 (by kernel_rfl) mixed (by kernel_rfl) (Nat.le_of_ble_eq_true (by kernel_rfl)) (r_rostrumref_scoreAhead O50 x.1 x.2 r h))
theorem inj51 : ∀ x y, a51 x = a51 y → x = y := by
  rintro ⟨⟨ua1, ua2⟩, ⟨ua3, ua4⟩⟩ ⟨⟨ub1, ub2⟩, ⟨ub3, ub4⟩⟩ h
  simp only [a51, Prod.mk.injEq, List.cons.injEq, D.v.injEq, D.agg.injEq, V.i.injEq, V.s.injEq, true_and, and_true] at h
  simp only [h]
theorem K51_51 : K_rostrumref_scoreAhead O51 := fun p0 p1 r h => cM (x := (p0, p1)) inj51 h
def a52 (x : (List GScore) × ByteArray) : List D × aA := ([.v (.sl 2 (ab GScore.row x.1)), .v (.s x.2)], [])
noncomputable def O52 : ak := ak.addF O51 84 a52 (fun x => rostrumref_memberAt x.1 x.2) (fun _ (r : Int) => (.v (.i .i64 r), []))
set_option maxRecDepth 100000 in
theorem O52_sound : cE Try.prog O52 := cA O51_sound (fun x r h => cL (ν := n84) (cz O51_sound) Try.func84 (by kernel_rfl) mixed (by kernel_rfl) (Nat.le_of_ble_eq_true (by kernel_rfl)) (r_rostrumref_memberAt O51 x.1 x.2 r h))
theorem inj52 : ∀ x y, a52 x = a52 y → x = y := by
  rintro ⟨ua1, ua2⟩ ⟨ub1, ub2⟩ h
  simp only [a52, Prod.mk.injEq, List.cons.injEq, D.v.injEq, V.s.injEq, V.sl.injEq, GScore.map_inj, true_and, and_true] at h
  simp only [h]
theorem K52_52 : K_rostrumref_memberAt O52 := fun p0 p1 r h => cM (x := (p0, p1)) inj52 h
theorem K45_50 : K_rostrumref_In O50 := fun p0 p1 p2 r h => (aV (by decide) _ _).trans (K45_49 p0 p1 p2 r h)
theorem K45_51 : K_rostrumref_In O51 := fun p0 p1 p2 r h => (aV (by decide) _ _).trans (K45_50 p0 p1 p2 r h)
theorem K45_52 : K_rostrumref_In O52 := fun p0 p1 p2 r h => (aV (by decide) _ _).trans (K45_51 p0 p1 p2 r h)
theorem K48_49 : K_rostrumref_sizeOf O49 := fun p0 r h => (aV (by decide) _ _).trans (K48_48 p0 r h)
theorem K48_50 : K_rostrumref_sizeOf O50 := fun p0 r h => (aV (by decide) _ _).trans (K48_49 p0 r h)
theorem K48_51 : K_rostrumref_sizeOf O51 := fun p0 r h => (aV (by decide) _ _).trans (K48_50 p0 r h)
theorem K48_52 : K_rostrumref_sizeOf O52 := fun p0 r h => (aV (by decide) _ _).trans (K48_51 p0 r h)
theorem K49_50 : K_rostrumref_textMay O50 := fun p0 r h => (aV (by decide) _ _).trans (K49_49 p0 r h)
theorem K49_51 : K_rostrumref_textMay O51 := fun p0 r h => (aV (by decide) _ _).trans (K49_50 p0 r h)
theorem K49_52 : K_rostrumref_textMay O52 := fun p0 r h => (aV (by decide) _ _).trans (K49_51 p0 r h)
theorem K50_51 : K_rostrumref_countMay O51 := fun p0 r h => (aV (by decide) _ _).trans (K50_50 p0 r h)
theorem K50_52 : K_rostrumref_countMay O52 := fun p0 r h => (aV (by decide) _ _).trans (K50_51 p0 r h)
theorem K47_48 : K_rostrumref_fieldMay O48 := fun p0 r h => (aV (by decide) _ _).trans (K47_47 p0 r h)
theorem K47_49 : K_rostrumref_fieldMay O49 := fun p0 r h => (aV (by decide) _ _).trans (K47_48 p0 r h)
theorem K47_50 : K_rostrumref_fieldMay O50 := fun p0 r h => (aV (by decide) _ _).trans (K47_49 p0 r h)
theorem K47_51 : K_rostrumref_fieldMay O51 := fun p0 r h => (aV (by decide) _ _).trans (K47_50 p0 r h)
theorem K47_52 : K_rostrumref_fieldMay O52 := fun p0 r h => (aV (by decide) _ _).trans (K47_51 p0 r h)
theorem K51_52 : K_rostrumref_scoreAhead O52 := fun p0 p1 r h => (aV (by decide) _ _).trans (K51_51 p0 p1 r h)
def a53 (x : GValue) : List D × aA := ([.agg [.v (.i .i64 x.fKind), .v (.s x.fText), .v (.i .i64 x.fCount), .v (.sl 2 (ab GPair.row x.fPairs)), .v (.sl 1 (ab aY x.fItems)), .v (.sl 2 (ab GScore.row x.fScores))]], [])
noncomputable def O53 : ak := ak.addF O52 30 a53 (fun x => rostrumref_ValueFault x) (fun _ (r : Int) => (.v (.i .i64 r), []))
set_option maxRecDepth 100000 in
theorem O53_sound : cE Try.prog O53 := cA O52_sound (fun x r h => cL (ν := n30) (cz O52_sound) Try.func30 (by kernel_rfl) mixed (by kernel_rfl) (Nat.le_of_ble_eq_true (by kernel_rfl)) (r_rostrumref_ValueFault O52 K45_52 K48_52 K49_52 K50_52 K47_52 K51_52 K52_52 x r h))
theorem inj53 : ∀ x y, a53 x = a53 y → x = y := by
  rintro ⟨ua1, ua2, ua3, ua4, ua5, ua6⟩ ⟨ub1, ub2, ub3, ub4, ub5, ub6⟩ h
  simp only [a53, Prod.mk.injEq, List.cons.injEq, D.v.injEq, D.agg.injEq, V.i.injEq, V.s.injEq, V.sl.injEq, cu, GPair.map_inj, GScore.map_inj, true_and, and_true] at h
  simp only [h]
theorem K53_53 : K_rostrumref_ValueFault O53 := fun p0 r h => cM (x := p0) inj53 h
theorem K45_53 : K_rostrumref_In O53 := fun p0 p1 p2 r h => (aV (by decide) _ _).trans (K45_52 p0 p1 p2 r h)
theorem K47_53 : K_rostrumref_fieldMay O53 := fun p0 r h => (aV (by decide) _ _).trans (K47_52 p0 r h)
def a54 (x : GStore) : List D × aA := ([.agg [.v (.i .i64 x.fNow), .v (.sl 8 (ab GEntry.row x.fEntries))]], [])
noncomputable def O54 : ak := ak.addF O53 36 a54 (fun x => rostrumref_StoreFault x) (fun _ (r : Int) => (.v (.i .i64 r), []))
set_option maxRecDepth 100000 in
theorem O54_sound : cE Try.prog O54 := cA O53_sound (fun x r h => cL (ν := n36) (cz O53_sound) Try.func36 (by kernel_rfl) mixed (by kernel_rfl) (Nat.le_of_ble_eq_true (by kernel_rfl)) (r_rostrumref_StoreFault O53 K45_53 K47_53 K53_53 x r h))
theorem inj54 : ∀ x y, a54 x = a54 y → x = y := by
  rintro ⟨ua1, ua2⟩ ⟨ub1, ub2⟩ h
  simp only [a54, Prod.mk.injEq, List.cons.injEq, D.v.injEq, D.agg.injEq, V.i.injEq, V.sl.injEq, GEntry.map_inj, true_and, and_true] at h
  simp only [h]
theorem K54_54 : K_rostrumref_StoreFault O54 := fun p0 r h => cM (x := p0) inj54 h
theorem K45_54 : K_rostrumref_In O54 := fun p0 p1 p2 r h => (aV (by decide) _ _).trans (K45_53 p0 p1 p2 r h)
theorem K49_53 : K_rostrumref_textMay O53 := fun p0 r h => (aV (by decide) _ _).trans (K49_52 p0 r h)
theorem K49_54 : K_rostrumref_textMay O54 := fun p0 r h => (aV (by decide) _ _).trans (K49_53 p0 r h)
theorem K50_53 : K_rostrumref_countMay O53 := fun p0 r h => (aV (by decide) _ _).trans (K50_52 p0 r h)
theorem K50_54 : K_rostrumref_countMay O54 := fun p0 r h => (aV (by decide) _ _).trans (K50_53 p0 r h)
def a55 (x : GReply) : List D × aA := ([.agg [.v (.i .i64 x.fCode), .v (.s x.fText), .v (.i .i64 x.fN), .v (.sl 1 (ab aY x.fList))]], [])
noncomputable def O55 : ak := ak.addF O54 92 a55 (fun x => rostrumref_ReplyFault x) (fun _ (r : Int) => (.v (.i .i64 r), []))
set_option maxRecDepth 100000 in
theorem O55_sound : cE Try.prog O55 := cA O54_sound (fun x r h => cL (ν := n92) (cz O54_sound) Try.func92 (by kernel_rfl) mixed (by kernel_rfl) (Nat.le_of_ble_eq_true (by kernel_rfl)) (r_rostrumref_ReplyFault O54 K45_54 K49_54 K50_54 x r h))
theorem inj55 : ∀ x y, a55 x = a55 y → x = y := by
  rintro ⟨ua1, ua2, ua3, ua4⟩ ⟨ub1, ub2, ub3, ub4⟩ h
  simp only [a55, Prod.mk.injEq, List.cons.injEq, D.v.injEq, D.agg.injEq, V.i.injEq, V.s.injEq, V.sl.injEq, cu, true_and, and_true] at h
  simp only [h]
theorem K55_55 : K_rostrumref_ReplyFault O55 := fun p0 r h => cM (x := p0) inj55 h
theorem K54_55 : K_rostrumref_StoreFault O55 := fun p0 r h => (aV (by decide) _ _).trans (K54_54 p0 r h)
theorem K45_55 : K_rostrumref_In O55 := fun p0 p1 p2 r h => (aV (by decide) _ _).trans (K45_54 p0 p1 p2 r h)
theorem K46_47 : K_rostrumref_numberMay O47 := fun p0 r h => (aV (by decide) _ _).trans (K46_46 p0 r h)
theorem K46_48 : K_rostrumref_numberMay O48 := fun p0 r h => (aV (by decide) _ _).trans (K46_47 p0 r h)
theorem K46_49 : K_rostrumref_numberMay O49 := fun p0 r h => (aV (by decide) _ _).trans (K46_48 p0 r h)
theorem K46_50 : K_rostrumref_numberMay O50 := fun p0 r h => (aV (by decide) _ _).trans (K46_49 p0 r h)
theorem K46_51 : K_rostrumref_numberMay O51 := fun p0 r h => (aV (by decide) _ _).trans (K46_50 p0 r h)
theorem K46_52 : K_rostrumref_numberMay O52 := fun p0 r h => (aV (by decide) _ _).trans (K46_51 p0 r h)
theorem K46_53 : K_rostrumref_numberMay O53 := fun p0 r h => (aV (by decide) _ _).trans (K46_52 p0 r h)
theorem K46_54 : K_rostrumref_numberMay O54 := fun p0 r h => (aV (by decide) _ _).trans (K46_53 p0 r h)
theorem K46_55 : K_rostrumref_numberMay O55 := fun p0 r h => (aV (by decide) _ _).trans (K46_54 p0 r h)
def a56 (x : GMachine) : List D × aA := ([.agg [.v (.i .i64 x.fStore.fNow), .v (.sl 8 (ab GEntry.row x.fStore.fEntries)), .v (.i .i64 x.fNext), .v (.sl 7 (ab GClient.row x.fClients))]], [])
noncomputable def O56 : ak := ak.addF O55 42 a56 (fun x => rostrumref_MachineFault x) (fun _ (r : Int) => (.v (.i .i64 r), []))
set_option maxRecDepth 100000 in
theorem O56_sound : cE Try.prog O56 := cA O55_sound (fun x r h => cL (ν := n42) (cz O55_sound) Try.func42 (by kernel_rfl) mixed (by kernel_rfl) (Nat.le_of_ble_eq_true (by kernel_rfl)) (r_rostrumref_MachineFault O55 K54_55 K45_55 K46_55 K55_55 x r h))
theorem inj56 : ∀ x y, a56 x = a56 y → x = y := by
  rintro ⟨⟨ua1, ua2⟩, ua3, ua4⟩ ⟨⟨ub1, ub2⟩, ub3, ub4⟩ h
  simp only [a56, Prod.mk.injEq, List.cons.injEq, D.v.injEq, D.agg.injEq, V.i.injEq, V.sl.injEq, GEntry.map_inj, GClient.map_inj, true_and, and_true] at h
  simp only [h]
theorem K56_56 : K_rostrumref_MachineFault O56 := fun p0 r h => cM (x := p0) inj56 h
theorem K46_56 : K_rostrumref_numberMay O56 := fun p0 r h => (aV (by decide) _ _).trans (K46_55 p0 r h)
def a57 (x : GSnap) : List D × aA := ([.agg [.v (.i .i64 x.fIndex), .v (.i .i64 x.fTerm), .v (.i .i64 x.fMachine.fStore.fNow), .v (.sl 8 (ab GEntry.row x.fMachine.fStore.fEntries)), .v (.i .i64 x.fMachine.fNext), .v (.sl 7 (ab GClient.row x.fMachine.fClients))]], [])
noncomputable def O57 : ak := ak.addF O56 45 a57 (fun x => rostrumref_SnapFault x) (fun _ (r : Int) => (.v (.i .i64 r), []))
set_option maxRecDepth 100000 in
theorem O57_sound : cE Try.prog O57 := cA O56_sound (fun x r h => cL (ν := n45) (cz O56_sound) Try.func45 (by kernel_rfl) mixed (by kernel_rfl) (Nat.le_of_ble_eq_true (by kernel_rfl)) (r_rostrumref_SnapFault O56 K46_56 K56_56 x r h))
theorem inj57 : ∀ x y, a57 x = a57 y → x = y := by
  rintro ⟨ua1, ua2, ⟨⟨ua3, ua4⟩, ua5, ua6⟩⟩ ⟨ub1, ub2, ⟨⟨ub3, ub4⟩, ub5, ub6⟩⟩ h
  simp only [a57, Prod.mk.injEq, List.cons.injEq, D.v.injEq, D.agg.injEq, V.i.injEq, V.sl.injEq, GEntry.map_inj, GClient.map_inj, true_and, and_true] at h
  simp only [h]
theorem K57_57 : K_rostrumref_SnapFault O57 := fun p0 r h => cM (x := p0) inj57 h
theorem K5_6 : K_rostrumlaw_snaps_z O6 := fun p0 r h => (aV (by decide) _ _).trans (K5_5 p0 r h)
theorem K5_7 : K_rostrumlaw_snaps_z O7 := fun p0 r h => (aV (by decide) _ _).trans (K5_6 p0 r h)
theorem K5_8 : K_rostrumlaw_snaps_z O8 := fun p0 r h => (aV (by decide) _ _).trans (K5_7 p0 r h)
theorem K5_9 : K_rostrumlaw_snaps_z O9 := fun p0 r h => (aV (by decide) _ _).trans (K5_8 p0 r h)
theorem K5_10 : K_rostrumlaw_snaps_z O10 := fun p0 r h => (aV (by decide) _ _).trans (K5_9 p0 r h)
theorem K5_11 : K_rostrumlaw_snaps_z O11 := fun p0 r h => (aV (by decide) _ _).trans (K5_10 p0 r h)
theorem K5_12 : K_rostrumlaw_snaps_z O12 := fun p0 r h => (aV (by decide) _ _).trans (K5_11 p0 r h)
theorem K5_13 : K_rostrumlaw_snaps_z O13 := fun p0 r h => (aV (by decide) _ _).trans (K5_12 p0 r h)
theorem K5_14 : K_rostrumlaw_snaps_z O14 := fun p0 r h => (aV (by decide) _ _).trans (K5_13 p0 r h)
theorem K5_15 : K_rostrumlaw_snaps_z O15 := fun p0 r h => (aV (by decide) _ _).trans (K5_14 p0 r h)
theorem K5_16 : K_rostrumlaw_snaps_z O16 := fun p0 r h => (aV (by decide) _ _).trans (K5_15 p0 r h)
theorem K5_17 : K_rostrumlaw_snaps_z O17 := fun p0 r h => (aV (by decide) _ _).trans (K5_16 p0 r h)
theorem K5_18 : K_rostrumlaw_snaps_z O18 := fun p0 r h => (aV (by decide) _ _).trans (K5_17 p0 r h)
theorem K5_19 : K_rostrumlaw_snaps_z O19 := fun p0 r h => (aV (by decide) _ _).trans (K5_18 p0 r h)
theorem K5_20 : K_rostrumlaw_snaps_z O20 := fun p0 r h => (aV (by decide) _ _).trans (K5_19 p0 r h)
theorem K5_21 : K_rostrumlaw_snaps_z O21 := fun p0 r h => (aV (by decide) _ _).trans (K5_20 p0 r h)
theorem K5_22 : K_rostrumlaw_snaps_z O22 := fun p0 r h => (aV (by decide) _ _).trans (K5_21 p0 r h)
theorem K5_23 : K_rostrumlaw_snaps_z O23 := fun p0 r h => (aV (by decide) _ _).trans (K5_22 p0 r h)
theorem K5_24 : K_rostrumlaw_snaps_z O24 := fun p0 r h => (aV (by decide) _ _).trans (K5_23 p0 r h)
theorem K5_25 : K_rostrumlaw_snaps_z O25 := fun p0 r h => (aV (by decide) _ _).trans (K5_24 p0 r h)
theorem K5_26 : K_rostrumlaw_snaps_z O26 := fun p0 r h => (aV (by decide) _ _).trans (K5_25 p0 r h)
theorem K5_27 : K_rostrumlaw_snaps_z O27 := fun p0 r h => (aV (by decide) _ _).trans (K5_26 p0 r h)
theorem K5_28 : K_rostrumlaw_snaps_z O28 := fun p0 r h => (aV (by decide) _ _).trans (K5_27 p0 r h)
theorem K5_29 : K_rostrumlaw_snaps_z O29 := fun p0 r h => (aV (by decide) _ _).trans (K5_28 p0 r h)
theorem K5_30 : K_rostrumlaw_snaps_z O30 := fun p0 r h => (aV (by decide) _ _).trans (K5_29 p0 r h)
theorem K5_31 : K_rostrumlaw_snaps_z O31 := fun p0 r h => (aV (by decide) _ _).trans (K5_30 p0 r h)
theorem K5_32 : K_rostrumlaw_snaps_z O32 := fun p0 r h => (aV (by decide) _ _).trans (K5_31 p0 r h)
theorem K5_33 : K_rostrumlaw_snaps_z O33 := fun p0 r h => (aV (by decide) _ _).trans (K5_32 p0 r h)
theorem K5_34 : K_rostrumlaw_snaps_z O34 := fun p0 r h => (aV (by decide) _ _).trans (K5_33 p0 r h)
theorem K5_35 : K_rostrumlaw_snaps_z O35 := fun p0 r h => (aV (by decide) _ _).trans (K5_34 p0 r h)
theorem K5_36 : K_rostrumlaw_snaps_z O36 := fun p0 r h => (aV (by decide) _ _).trans (K5_35 p0 r h)
theorem K5_37 : K_rostrumlaw_snaps_z O37 := fun p0 r h => (aV (by decide) _ _).trans (K5_36 p0 r h)
theorem K5_38 : K_rostrumlaw_snaps_z O38 := fun p0 r h => (aV (by decide) _ _).trans (K5_37 p0 r h)
theorem K5_39 : K_rostrumlaw_snaps_z O39 := fun p0 r h => (aV (by decide) _ _).trans (K5_38 p0 r h)
theorem K5_40 : K_rostrumlaw_snaps_z O40 := fun p0 r h => (aV (by decide) _ _).trans (K5_39 p0 r h)
theorem K5_41 : K_rostrumlaw_snaps_z O41 := fun p0 r h => (aV (by decide) _ _).trans (K5_40 p0 r h)
theorem K5_42 : K_rostrumlaw_snaps_z O42 := fun p0 r h => (aV (by decide) _ _).trans (K5_41 p0 r h)
theorem K5_43 : K_rostrumlaw_snaps_z O43 := fun p0 r h => (aV (by decide) _ _).trans (K5_42 p0 r h)
theorem K5_44 : K_rostrumlaw_snaps_z O44 := fun p0 r h => (aV (by decide) _ _).trans (K5_43 p0 r h)
theorem K5_45 : K_rostrumlaw_snaps_z O45 := fun p0 r h => (aV (by decide) _ _).trans (K5_44 p0 r h)
theorem K5_46 : K_rostrumlaw_snaps_z O46 := fun p0 r h => (aV (by decide) _ _).trans (K5_45 p0 r h)
theorem K5_47 : K_rostrumlaw_snaps_z O47 := fun p0 r h => (aV (by decide) _ _).trans (K5_46 p0 r h)
theorem K5_48 : K_rostrumlaw_snaps_z O48 := fun p0 r h => (aV (by decide) _ _).trans (K5_47 p0 r h)
theorem K5_49 : K_rostrumlaw_snaps_z O49 := fun p0 r h => (aV (by decide) _ _).trans (K5_48 p0 r h)
theorem K5_50 : K_rostrumlaw_snaps_z O50 := fun p0 r h => (aV (by decide) _ _).trans (K5_49 p0 r h)
theorem K5_51 : K_rostrumlaw_snaps_z O51 := fun p0 r h => (aV (by decide) _ _).trans (K5_50 p0 r h)
theorem K5_52 : K_rostrumlaw_snaps_z O52 := fun p0 r h => (aV (by decide) _ _).trans (K5_51 p0 r h)
theorem K5_53 : K_rostrumlaw_snaps_z O53 := fun p0 r h => (aV (by decide) _ _).trans (K5_52 p0 r h)
theorem K5_54 : K_rostrumlaw_snaps_z O54 := fun p0 r h => (aV (by decide) _ _).trans (K5_53 p0 r h)
theorem K5_55 : K_rostrumlaw_snaps_z O55 := fun p0 r h => (aV (by decide) _ _).trans (K5_54 p0 r h)
theorem K5_56 : K_rostrumlaw_snaps_z O56 := fun p0 r h => (aV (by decide) _ _).trans (K5_55 p0 r h)
theorem K5_57 : K_rostrumlaw_snaps_z O57 := fun p0 r h => (aV (by decide) _ _).trans (K5_56 p0 r h)
theorem K44_45 : K_tape_CheckSnap O45 := fun p0 r h => (aV (by decide) _ _).trans (K44_44 p0 r h)
theorem K44_46 : K_tape_CheckSnap O46 := fun p0 r h => (aV (by decide) _ _).trans (K44_45 p0 r h)
theorem K44_47 : K_tape_CheckSnap O47 := fun p0 r h => (aV (by decide) _ _).trans (K44_46 p0 r h)
theorem K44_48 : K_tape_CheckSnap O48 := fun p0 r h => (aV (by decide) _ _).trans (K44_47 p0 r h)
theorem K44_49 : K_tape_CheckSnap O49 := fun p0 r h => (aV (by decide) _ _).trans (K44_48 p0 r h)
theorem K44_50 : K_tape_CheckSnap O50 := fun p0 r h => (aV (by decide) _ _).trans (K44_49 p0 r h)
theorem K44_51 : K_tape_CheckSnap O51 := fun p0 r h => (aV (by decide) _ _).trans (K44_50 p0 r h)
theorem K44_52 : K_tape_CheckSnap O52 := fun p0 r h => (aV (by decide) _ _).trans (K44_51 p0 r h)
theorem K44_53 : K_tape_CheckSnap O53 := fun p0 r h => (aV (by decide) _ _).trans (K44_52 p0 r h)
theorem K44_54 : K_tape_CheckSnap O54 := fun p0 r h => (aV (by decide) _ _).trans (K44_53 p0 r h)
theorem K44_55 : K_tape_CheckSnap O55 := fun p0 r h => (aV (by decide) _ _).trans (K44_54 p0 r h)
theorem K44_56 : K_tape_CheckSnap O56 := fun p0 r h => (aV (by decide) _ _).trans (K44_55 p0 r h)
theorem K44_57 : K_tape_CheckSnap O57 := fun p0 r h => (aV (by decide) _ _).trans (K44_56 p0 r h)
set_option maxRecDepth 100000 in
theorem sem (rs : List (List V)) (h : HasAll Try.prog [78] rs) : Mx.Sem Try.prog 13 (argsD Try.prog [78] rs) [] (.v (.b true)) [] := by
  obtain ⟨r0, _, rfl, a0, b0⟩ := HasAll.cons h
  obtain rfl := HasAll.nil b0
  obtain ⟨x0, rfl, o0⟩ := GSnap.of78 a0
  simp only [argsD, argD_struct Try.underlying78]
  exact cL (ν := n13) (cz O57_sound) Try.func13 (by kernel_rfl) mixed (by kernel_rfl) (Nat.le_of_ble_eq_true (by kernel_rfl)) (r_rostrumlaw_TapeSnaps O57 K5_57 K44_57 K57_57 x0 true (TapeSnaps_pure x0 o0))
end CTapeSnaps
end Go.Proofs.Ytnjkmbogbfjffaa
