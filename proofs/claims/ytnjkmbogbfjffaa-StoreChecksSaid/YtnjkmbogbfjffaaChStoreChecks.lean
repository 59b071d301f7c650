/- The chain of contracts of the law StoreChecks, over the functions that it reaches. -/
import Derived.Test.YtnjkmbogbfjffaaStoreChecksZa
import Derived.Test.YtnjkmbogbfjffaaStoreChecksZb
import Derived.Test.YtnjkmbogbfjffaaStoreChecksD
import Derived.Test.YtnjkmbogbfjffaaStoreChecksP
set_option linter.unusedSimpArgs false
set_option linter.unusedVariables false
set_option linter.constructorNameAsVariable false
set_option linter.unnecessarySimpa false
namespace Go.Proofs.Ytnjkmbogbfjffaa
open Go Go.Mx Go.Proofs
namespace CStoreChecks
theorem argD_slice {P : Program} {t e : TypeId} {x : V} (hu : P.underlying t = some (.slice e)) : argD P t [x] = .v x := by simp only [argD, hu]
theorem argD_str {P : Program} {t : TypeId} {x : V} (hu : P.underlying t = some .string) : argD P t [x] = .v x := by simp only [argD, hu]
def a1 (x : GValue) : List D × aA := ([.agg [.v (.i .i64 x.fKind), .v (.s x.fText), .v (.i .i64 x.fCount), .v (.sl 2 (ab GPair.row x.fPairs)), .v (.sl 1 (ab aY x.fItems)), .v (.sl 2 (ab GScore.row x.fScores))]], [])
noncomputable def O1 : ak := ak.addF noC 29 a1 (fun x => rostrumref_ValueCopy x) (fun _ (r : GValue) => (.agg [.v (.i .i64 r.fKind), .v (.s r.fText), .v (.i .i64 r.fCount), .own 2 (ab GPair.row r.fPairs), .own 1 (ab aY r.fItems), .own 2 (ab GScore.row r.fScores)], []))
set_option maxRecDepth 100000 in
theorem O1_sound : cE Try.prog O1 := cA (noC_sound _) (fun x r h => cL (ν := n29) (cz (noC_sound _)) Try.func29 (by kernel_rfl) mixed (by kernel_rfl) (Nat.le_of_ble_eq_true (by kernel_rfl)) (r_rostrumref_ValueCopy noC x r h))
theorem inj1 : ∀ x y, a1 x = a1 y → x = y := by
  rintro ⟨ua1, ua2, ua3, ua4, ua5, ua6⟩ ⟨ub1, ub2, ub3, ub4, ub5, ub6⟩ h
  simp only [a1, Prod.mk.injEq, List.cons.injEq, D.v.injEq, D.own.injEq, D.agg.injEq, D.rp.injEq, D.clo.injEq, D.ptr.injEq, V.i.injEq, V.s.injEq, V.b.injEq, V.sl.injEq, cw, cv, cu, GLog.map_inj, GCommand.map_inj, GCall.map_inj, GItem.map_inj, GValue.map_inj, GStore.map_inj, GMachine.map_inj, GSnap.map_inj, Gwriter.map_inj, GPair.map_inj, GScore.map_inj, GEntry.map_inj, Greader.map_inj, Gscan.map_inj, GReply.map_inj, GClient.map_inj, true_and, and_true] at h
  simp only [Prod.mk.injEq, GValue.mk.injEq, h, and_self]
theorem K1_1 : K_rostrumref_ValueCopy O1 := fun p0 r h => cM (x := p0) inj1 h
def a2 (x : GStore) : List D × aA := ([.agg [.v (.i .i64 x.fNow), .v (.sl 8 (ab GEntry.row x.fEntries))]], [])
noncomputable def O2 : ak := ak.addF O1 35 a2 (fun x => rostrumref_StoreCopy_z x) (fun _ (r : GStore) => (.agg [.v (.i .i64 r.fNow), .v (.sl 8 (ab GEntry.row r.fEntries))], []))
set_option maxRecDepth 100000 in
theorem O2_sound : cE Try.prog O2 := cA O1_sound (fun x r h => by
  obtain ⟨d, S, h1, h2, h3⟩ := r_rostrumref_StoreCopy_z O1 K1_1 x r h
  have h4 := Mx.Sem.frozen (cL (ν := n35) (cz O1_sound) Try.func35 (by kernel_rfl) mixed (by kernel_rfl) (Nat.le_of_ble_eq_true (by kernel_rfl)) h1) h2
  obtain ⟨e1, e2⟩ := Prod.mk.inj h3
  rw [e1] at h4; rw [e2] at h4; exact h4)
theorem inj2 : ∀ x y, a2 x = a2 y → x = y := by
  rintro ⟨ua1, ua2⟩ ⟨ub1, ub2⟩ h
  simp only [a2, Prod.mk.injEq, List.cons.injEq, D.v.injEq, D.own.injEq, D.agg.injEq, D.rp.injEq, D.clo.injEq, D.ptr.injEq, V.i.injEq, V.s.injEq, V.b.injEq, V.sl.injEq, cw, cv, cu, GLog.map_inj, GCommand.map_inj, GCall.map_inj, GItem.map_inj, GValue.map_inj, GStore.map_inj, GMachine.map_inj, GSnap.map_inj, Gwriter.map_inj, GPair.map_inj, GScore.map_inj, GEntry.map_inj, Greader.map_inj, Gscan.map_inj, GReply.map_inj, GClient.map_inj, true_and, and_true] at h
  simp only [Prod.mk.injEq, GStore.mk.injEq, h, and_self]
theorem K2_2 : K_rostrumref_StoreCopy_z O2 := fun p0 r h => cM (x := p0) inj2 h
def a3 (x : GValue) : List D × aA := ([.agg [.v (.i .i64 x.fKind), .v (.s x.fText), .v (.i .i64 x.fCount), .v (.sl 2 (ab GPair.row x.fPairs)), .v (.sl 1 (ab aY x.fItems)), .v (.sl 2 (ab GScore.row x.fScores))]], [])
noncomputable def O3 : ak := ak.addF O2 61 a3 (fun x => value_elements x) (fun _ (r : Int) => (.v (.i .i64 r), []))
set_option maxRecDepth 100000 in
theorem O3_sound : cE Try.prog O3 := cA O2_sound (fun x r h => cL (ν := n61) (cz O2_sound) Try.func61 (by kernel_rfl) mixed (by kernel_rfl) (Nat.le_of_ble_eq_true (by kernel_rfl)) (r_value_elements O2 x r h))
theorem inj3 : ∀ x y, a3 x = a3 y → x = y := by
  rintro ⟨ua1, ua2, ua3, ua4, ua5, ua6⟩ ⟨ub1, ub2, ub3, ub4, ub5, ub6⟩ h
  simp only [a3, Prod.mk.injEq, List.cons.injEq, D.v.injEq, D.own.injEq, D.agg.injEq, D.rp.injEq, D.clo.injEq, D.ptr.injEq, V.i.injEq, V.s.injEq, V.b.injEq, V.sl.injEq, cw, cv, cu, GLog.map_inj, GCommand.map_inj, GCall.map_inj, GItem.map_inj, GValue.map_inj, GStore.map_inj, GMachine.map_inj, GSnap.map_inj, Gwriter.map_inj, GPair.map_inj, GScore.map_inj, GEntry.map_inj, Greader.map_inj, Gscan.map_inj, GReply.map_inj, GClient.map_inj, true_and, and_true] at h
  simp only [Prod.mk.injEq, GValue.mk.injEq, h, and_self]
theorem K3_3 : K_value_elements O3 := fun p0 r h => cM (x := p0) inj3 h
def a4 (x : ByteArray) : List D × aA := ([.v (.s x)], [])
noncomputable def O4 : ak := ak.addF O3 62 a4 (fun x => value_text x) (fun _ (r : Bool) => (.v (.b r), []))
set_option maxRecDepth 100000 in
theorem O4_sound : cE Try.prog O4 := cA O3_sound (fun x r h => cL (ν := n62) (cz O3_sound) Try.func62 (by kernel_rfl) mixed (by kernel_rfl) (Nat.le_of_ble_eq_true (by kernel_rfl)) (r_value_text O3 x r h))
theorem inj4 : ∀ x y, a4 x = a4 y → x = y := by
  rintro ua1 ub1 h
  simp only [a4, Prod.mk.injEq, List.cons.injEq, D.v.injEq, D.own.injEq, D.agg.injEq, D.rp.injEq, D.clo.injEq, D.ptr.injEq, V.i.injEq, V.s.injEq, V.b.injEq, V.sl.injEq, cw, cv, cu, GLog.map_inj, GCommand.map_inj, GCall.map_inj, GItem.map_inj, GValue.map_inj, GStore.map_inj, GMachine.map_inj, GSnap.map_inj, Gwriter.map_inj, GPair.map_inj, GScore.map_inj, GEntry.map_inj, Greader.map_inj, Gscan.map_inj, GReply.map_inj, GClient.map_inj, true_and, and_true] at h
  exact h
theorem K4_4 : K_value_text O4 := fun p0 r h => cM (x := p0) inj4 h
def a5 (x : ByteArray) : List D × aA := ([.v (.s x)], [])
noncomputable def O5 : ak := ak.addF O4 64 a5 (fun x => value_Check_fn1 x) (fun _ (r : Bool) => (.v (.b r), []))
set_option maxRecDepth 100000 in
theorem O5_sound : cE Try.prog O5 := cA O4_sound (fun x r h => cL (ν := n64) (cz O4_sound) Try.func64 (by kernel_rfl) mixed (by kernel_rfl) (Nat.le_of_ble_eq_true (by kernel_rfl)) (r_value_Check_fn1 O4 K4_4 x r h))
theorem inj5 : ∀ x y, a5 x = a5 y → x = y := by
  rintro ua1 ub1 h
  simp only [a5, Prod.mk.injEq, List.cons.injEq, D.v.injEq, D.own.injEq, D.agg.injEq, D.rp.injEq, D.clo.injEq, D.ptr.injEq, V.i.injEq, V.s.injEq, V.b.injEq, V.sl.injEq, cw, cv, cu, GLog.map_inj, GCommand.map_inj, GCall.map_inj, GItem.map_inj, GValue.map_inj, GStore.map_inj, GMachine.map_inj, GSnap.map_inj, Gwriter.map_inj, GPair.map_inj, GScore.map_inj, GEntry.map_inj, Greader.map_inj, Gscan.map_inj, GReply.map_inj, GClient.map_inj, true_and, and_true] at h
  exact h
theorem K5_5 : K_value_Check_fn1 O5 := fun p0 r h => cM (x := p0) inj5 h
def a6 (x : (List ByteArray)) : List D × aA := ([.v (.sl 1 (ab aY x)), .clo 64 []], [])
noncomputable def O6 : ak := ak.addF O5 108 a6 (fun x => slices_IndexFunc_string_string_value_Check_fn1 x) (fun _ (r : Int) => (.v (.i .i64 r), []))
set_option maxRecDepth 100000 in
theorem O6_sound : cE Try.prog O6 := cA O5_sound (fun x r h => cL (ν := n108) (cz O5_sound) Try.func108 (by kernel_rfl) mixed (by kernel_rfl) (Nat.le_of_ble_eq_true (by kernel_rfl)) (r_slices_IndexFunc_string_string_value_Check_fn1 O5 K5_5 x r h))
theorem inj6 : ∀ x y, a6 x = a6 y → x = y := by
  rintro ua1 ub1 h
  simp only [a6, Prod.mk.injEq, List.cons.injEq, D.v.injEq, D.own.injEq, D.agg.injEq, D.rp.injEq, D.clo.injEq, D.ptr.injEq, V.i.injEq, V.s.injEq, V.b.injEq, V.sl.injEq, cw, cv, cu, GLog.map_inj, GCommand.map_inj, GCall.map_inj, GItem.map_inj, GValue.map_inj, GStore.map_inj, GMachine.map_inj, GSnap.map_inj, Gwriter.map_inj, GPair.map_inj, GScore.map_inj, GEntry.map_inj, Greader.map_inj, Gscan.map_inj, GReply.map_inj, GClient.map_inj, true_and, and_true] at h
  exact h
theorem K6_6 : K_slices_IndexFunc_string_string_value_Check_fn1 O6 := fun p0 r h => cM (x := p0) inj6 h
def a7 (x : (List ByteArray)) : List D × aA := ([.v (.sl 1 (ab aY x)), .clo 64 []], [])
noncomputable def O7 : ak := ak.addF O6 63 a7 (fun x => slices_ContainsFunc_string_string_value_Check_fn1 x) (fun _ (r : Bool) => (.v (.b r), []))
set_option maxRecDepth 100000 in
theorem O7_sound : cE Try.prog O7 := cA O6_sound (fun x r h => cL (ν := n63) (cz O6_sound) Try.func63 (by kernel_rfl) mixed (by kernel_rfl) (Nat.le_of_ble_eq_true (by kernel_rfl)) (r_slices_ContainsFunc_string_string_value_Check_fn1 O6 K6_6 x r h))
theorem inj7 : ∀ x y, a7 x = a7 y → x = y := by
  rintro ua1 ub1 h
  simp only [a7, Prod.mk.injEq, List.cons.injEq, D.v.injEq, D.own.injEq, D.agg.injEq, D.rp.injEq, D.clo.injEq, D.ptr.injEq, V.i.injEq, V.s.injEq, V.b.injEq, V.sl.injEq, cw, cv, cu, GLog.map_inj, GCommand.map_inj, GCall.map_inj, GItem.map_inj, GValue.map_inj, GStore.map_inj, GMachine.map_inj, GSnap.map_inj, Gwriter.map_inj, GPair.map_inj, GScore.map_inj, GEntry.map_inj, Greader.map_inj, Gscan.map_inj, GReply.map_inj, GClient.map_inj, true_and, and_true] at h
  exact h
theorem K7_7 : K_slices_ContainsFunc_string_string_value_Check_fn1 O7 := fun p0 r h => cM (x := p0) inj7 h
def a8 (x : ByteArray) : List D × aA := ([.v (.s x)], [])
noncomputable def O8 : ak := ak.addF O7 67 a8 (fun x => value_field x) (fun _ (r : Bool) => (.v (.b r), []))
set_option maxRecDepth 100000 in
theorem O8_sound : cE Try.prog O8 := cA O7_sound (fun x r h => cL (ν := n67) (cz O7_sound) Try.func67 (by kernel_rfl) mixed (by kernel_rfl) (Nat.le_of_ble_eq_true (by kernel_rfl)) (r_value_field O7 x r h))
theorem inj8 : ∀ x y, a8 x = a8 y → x = y := by
  rintro ua1 ub1 h
  simp only [a8, Prod.mk.injEq, List.cons.injEq, D.v.injEq, D.own.injEq, D.agg.injEq, D.rp.injEq, D.clo.injEq, D.ptr.injEq, V.i.injEq, V.s.injEq, V.b.injEq, V.sl.injEq, cw, cv, cu, GLog.map_inj, GCommand.map_inj, GCall.map_inj, GItem.map_inj, GValue.map_inj, GStore.map_inj, GMachine.map_inj, GSnap.map_inj, Gwriter.map_inj, GPair.map_inj, GScore.map_inj, GEntry.map_inj, Greader.map_inj, Gscan.map_inj, GReply.map_inj, GClient.map_inj, true_and, and_true] at h
  exact h
theorem K8_8 : K_value_field O8 := fun p0 r h => cM (x := p0) inj8 h
theorem K4_5 : K_value_text O5 := fun p0 r h => (aV (by decide) _ _).trans (K4_4 p0 r h)
theorem K4_6 : K_value_text O6 := fun p0 r h => (aV (by decide) _ _).trans (K4_5 p0 r h)
theorem K4_7 : K_value_text O7 := fun p0 r h => (aV (by decide) _ _).trans (K4_6 p0 r h)
theorem K4_8 : K_value_text O8 := fun p0 r h => (aV (by decide) _ _).trans (K4_7 p0 r h)
def a9 (x : GPair) : List D × aA := ([.agg [.v (.s x.fField), .v (.s x.fText)]], [])
noncomputable def O9 : ak := ak.addF O8 66 a9 (fun x => value_Check_fn2 x) (fun _ (r : Bool) => (.v (.b r), []))
set_option maxRecDepth 100000 in
theorem O9_sound : cE Try.prog O9 := cA O8_sound (fun x r h => cL (ν := n66) (cz O8_sound) Try.func66 (by kernel_rfl) mixed (by kernel_rfl) (Nat.le_of_ble_eq_true (by kernel_rfl)) (r_value_Check_fn2 O8 K8_8 K4_8 x r h))
theorem inj9 : ∀ x y, a9 x = a9 y → x = y := by
  rintro ⟨ua1, ua2⟩ ⟨ub1, ub2⟩ h
  simp only [a9, Prod.mk.injEq, List.cons.injEq, D.v.injEq, D.own.injEq, D.agg.injEq, D.rp.injEq, D.clo.injEq, D.ptr.injEq, V.i.injEq, V.s.injEq, V.b.injEq, V.sl.injEq, cw, cv, cu, GLog.map_inj, GCommand.map_inj, GCall.map_inj, GItem.map_inj, GValue.map_inj, GStore.map_inj, GMachine.map_inj, GSnap.map_inj, Gwriter.map_inj, GPair.map_inj, GScore.map_inj, GEntry.map_inj, Greader.map_inj, Gscan.map_inj, GReply.map_inj, GClient.map_inj, true_and, and_true] at h
  simp only [Prod.mk.injEq, GPair.mk.injEq, h, and_self]
theorem K9_9 : K_value_Check_fn2 O9 := fun p0 r h => cM (x := p0) inj9 h
def a10 (x : (List GPair)) : List D × aA := ([.v (.sl 2 (ab GPair.row x)), .clo 66 []], [])
noncomputable def O10 : ak := ak.addF O9 109 a10 (fun x => slices_IndexFunc_Pair_Pair_value_Check_fn2 x) (fun _ (r : Int) => (.v (.i .i64 r), []))
set_option maxRecDepth 100000 in
theorem O10_sound : cE Try.prog O10 := cA O9_sound (fun x r h => cL (ν := n109) (cz O9_sound) Try.func109 (by kernel_rfl) mixed (by kernel_rfl) (Nat.le_of_ble_eq_true (by kernel_rfl)) (r_slices_IndexFunc_Pair_Pair_value_Check_fn2 O9 K9_9 x r h))
theorem inj10 : ∀ x y, a10 x = a10 y → x = y := by
  rintro ua1 ub1 h
  simp only [a10, Prod.mk.injEq, List.cons.injEq, D.v.injEq, D.own.injEq, D.agg.injEq, D.rp.injEq, D.clo.injEq, D.ptr.injEq, V.i.injEq, V.s.injEq, V.b.injEq, V.sl.injEq, cw, cv, cu, GLog.map_inj, GCommand.map_inj, GCall.map_inj, GItem.map_inj, GValue.map_inj, GStore.map_inj, GMachine.map_inj, GSnap.map_inj, Gwriter.map_inj, GPair.map_inj, GScore.map_inj, GEntry.map_inj, Greader.map_inj, Gscan.map_inj, GReply.map_inj, GClient.map_inj, true_and, and_true] at h
  exact h
theorem K10_10 : K_slices_IndexFunc_Pair_Pair_value_Check_fn2 O10 := fun p0 r h => cM (x := p0) inj10 h
def a11 (x : (List GPair)) : List D × aA := ([.v (.sl 2 (ab GPair.row x)), .clo 66 []], [])
noncomputable def O11 : ak := ak.addF O10 65 a11 (fun x => slices_ContainsFunc_Pair_Pair_value_Check_fn2 x) (fun _ (r : Bool) => (.v (.b r), []))
set_option maxRecDepth 100000 in
theorem O11_sound : cE Try.prog O11 := cA O10_sound (fun x r h => cL (ν := n65) (cz O10_sound) Try.func65 (by kernel_rfl) mixed (by kernel_rfl) (Nat.le_of_ble_eq_true (by kernel_rfl)) (r_slices_ContainsFunc_Pair_Pair_value_Check_fn2 O10 K10_10 x r h))
theorem inj11 : ∀ x y, a11 x = a11 y → x = y := by
  rintro ua1 ub1 h
  simp only [a11, Prod.mk.injEq, List.cons.injEq, D.v.injEq, D.own.injEq, D.agg.injEq, D.rp.injEq, D.clo.injEq, D.ptr.injEq, V.i.injEq, V.s.injEq, V.b.injEq, V.sl.injEq, cw, cv, cu, GLog.map_inj, GCommand.map_inj, GCall.map_inj, GItem.map_inj, GValue.map_inj, GStore.map_inj, GMachine.map_inj, GSnap.map_inj, Gwriter.map_inj, GPair.map_inj, GScore.map_inj, GEntry.map_inj, Greader.map_inj, Gscan.map_inj, GReply.map_inj, GClient.map_inj, true_and, and_true] at h
  exact h
theorem K11_11 : K_slices_ContainsFunc_Pair_Pair_value_Check_fn2 O11 := fun p0 r h => cM (x := p0) inj11 h
theorem K4_9 : K_value_text O9 := fun p0 r h => (aV (by decide) _ _).trans (K4_8 p0 r h)
theorem K4_10 : K_value_text O10 := fun p0 r h => (aV (by decide) _ _).trans (K4_9 p0 r h)
theorem K4_11 : K_value_text O11 := fun p0 r h => (aV (by decide) _ _).trans (K4_10 p0 r h)
def a12 (x : GScore) : List D × aA := ([.agg [.v (.s x.fMember), .v (.i .i64 x.fN)]], [])
noncomputable def O12 : ak := ak.addF O11 69 a12 (fun x => value_Check_fn3 x) (fun _ (r : Bool) => (.v (.b r), []))
set_option maxRecDepth 100000 in
theorem O12_sound : cE Try.prog O12 := cA O11_sound (fun x r h => cL (ν := n69) (cz O11_sound) Try.func69 (by kernel_rfl) mixed (by kernel_rfl) (Nat.le_of_ble_eq_true (by kernel_rfl)) (r_value_Check_fn3 O11 K4_11 x r h))
theorem inj12 : ∀ x y, a12 x = a12 y → x = y := by
  rintro ⟨ua1, ua2⟩ ⟨ub1, ub2⟩ h
  simp only [a12, Prod.mk.injEq, List.cons.injEq, D.v.injEq, D.own.injEq, D.agg.injEq, D.rp.injEq, D.clo.injEq, D.ptr.injEq, V.i.injEq, V.s.injEq, V.b.injEq, V.sl.injEq, cw, cv, cu, GLog.map_inj, GCommand.map_inj, GCall.map_inj, GItem.map_inj, GValue.map_inj, GStore.map_inj, GMachine.map_inj, GSnap.map_inj, Gwriter.map_inj, GPair.map_inj, GScore.map_inj, GEntry.map_inj, Greader.map_inj, Gscan.map_inj, GReply.map_inj, GClient.map_inj, true_and, and_true] at h
  simp only [Prod.mk.injEq, GScore.mk.injEq, h, and_self]
theorem K12_12 : K_value_Check_fn3 O12 := fun p0 r h => cM (x := p0) inj12 h
def a13 (x : (List GScore)) : List D × aA := ([.v (.sl 2 (ab GScore.row x)), .clo 69 []], [])
noncomputable def O13 : ak := ak.addF O12 110 a13 (fun x => slices_IndexFunc_Score_Score_value_Check_fn3 x) (fun _ (r : Int) => (.v (.i .i64 r), []))
set_option maxRecDepth 100000 in
theorem O13_sound : cE Try.prog O13 := cA O12_sound (fun x r h => cL (ν := n110) (cz O12_sound) Try.func110 (by kernel_rfl) mixed (by kernel_rfl) (Nat.le_of_ble_eq_true (by kernel_rfl)) (r_slices_IndexFunc_Score_Score_value_Check_fn3 O12 K12_12 x r h))
theorem inj13 : ∀ x y, a13 x = a13 y → x = y := by
  rintro ua1 ub1 h
  simp only [a13, Prod.mk.injEq, List.cons.injEq, D.v.injEq, D.own.injEq, D.agg.injEq, D.rp.injEq, D.clo.injEq, D.ptr.injEq, V.i.injEq, V.s.injEq, V.b.injEq, V.sl.injEq, cw, cv, cu, GLog.map_inj, GCommand.map_inj, GCall.map_inj, GItem.map_inj, GValue.map_inj, GStore.map_inj, GMachine.map_inj, GSnap.map_inj, Gwriter.map_inj, GPair.map_inj, GScore.map_inj, GEntry.map_inj, Greader.map_inj, Gscan.map_inj, GReply.map_inj, GClient.map_inj, true_and, and_true] at h
  exact h
theorem K13_13 : K_slices_IndexFunc_Score_Score_value_Check_fn3 O13 := fun p0 r h => cM (x := p0) inj13 h
def a14 (x : (List GScore)) : List D × aA := ([.v (.sl 2 (ab GScore.row x)), .clo 69 []], [])
noncomputable def O14 : ak := ak.addF O13 68 a14 (fun x => slices_ContainsFunc_Score_Score_value_Check_fn3 x) (fun _ (r : Bool) => (.v (.b r), []))
set_option maxRecDepth 100000 in
theorem O14_sound : cE Try.prog O14 := cA O13_sound (fun x r h => cL (ν := n68) (cz O13_sound) Try.func68 (by kernel_rfl) mixed (by kernel_rfl) (Nat.le_of_ble_eq_true (by kernel_rfl)) (r_slices_ContainsFunc_Score_Score_value_Check_fn3 O13 K13_13 x r h))
theorem inj14 : ∀ x y, a14 x = a14 y → x = y := by
  rintro ua1 ub1 h
  simp only [a14, Prod.mk.injEq, List.cons.injEq, D.v.injEq, D.own.injEq, D.agg.injEq, D.rp.injEq, D.clo.injEq, D.ptr.injEq, V.i.injEq, V.s.injEq, V.b.injEq, V.sl.injEq, cw, cv, cu, GLog.map_inj, GCommand.map_inj, GCall.map_inj, GItem.map_inj, GValue.map_inj, GStore.map_inj, GMachine.map_inj, GSnap.map_inj, Gwriter.map_inj, GPair.map_inj, GScore.map_inj, GEntry.map_inj, Greader.map_inj, Gscan.map_inj, GReply.map_inj, GClient.map_inj, true_and, and_true] at h
  exact h
theorem K14_14 : K_slices_ContainsFunc_Score_Score_value_Check_fn3 O14 := fun p0 r h => cM (x := p0) inj14 h
def a15 (x : Int) : List D × aA := ([.v (.i .i64 x)], [])
noncomputable def O15 : ak := ak.addF O14 70 a15 (fun x => value_count x) (fun _ (r : Bool) => (.v (.b r), []))
set_option maxRecDepth 100000 in
theorem O15_sound : cE Try.prog O15 := cA O14_sound (fun x r h => cL (ν := n70) (cz O14_sound) Try.func70 (by kernel_rfl) mixed (by kernel_rfl) (Nat.le_of_ble_eq_true (by kernel_rfl)) (r_value_count O14 x r h))
theorem inj15 : ∀ x y, a15 x = a15 y → x = y := by
  rintro ua1 ub1 h
  simp only [a15, Prod.mk.injEq, List.cons.injEq, D.v.injEq, D.own.injEq, D.agg.injEq, D.rp.injEq, D.clo.injEq, D.ptr.injEq, V.i.injEq, V.s.injEq, V.b.injEq, V.sl.injEq, cw, cv, cu, GLog.map_inj, GCommand.map_inj, GCall.map_inj, GItem.map_inj, GValue.map_inj, GStore.map_inj, GMachine.map_inj, GSnap.map_inj, Gwriter.map_inj, GPair.map_inj, GScore.map_inj, GEntry.map_inj, Greader.map_inj, Gscan.map_inj, GReply.map_inj, GClient.map_inj, true_and, and_true] at h
  exact h
theorem K15_15 : K_value_count O15 := fun p0 r h => cM (x := p0) inj15 h
def a16 (x : GScore) : List D × aA := ([.agg [.v (.s x.fMember), .v (.i .i64 x.fN)]], [])
noncomputable def O16 : ak := ak.addF O15 71 a16 (fun x => value_Check_fn4 x) (fun _ (r : Bool) => (.v (.b r), []))
set_option maxRecDepth 100000 in
theorem O16_sound : cE Try.prog O16 := cA O15_sound (fun x r h => cL (ν := n71) (cz O15_sound) Try.func71 (by kernel_rfl) mixed (by kernel_rfl) (Nat.le_of_ble_eq_true (by kernel_rfl)) (r_value_Check_fn4 O15 K15_15 x r h))
theorem inj16 : ∀ x y, a16 x = a16 y → x = y := by
  rintro ⟨ua1, ua2⟩ ⟨ub1, ub2⟩ h
  simp only [a16, Prod.mk.injEq, List.cons.injEq, D.v.injEq, D.own.injEq, D.agg.injEq, D.rp.injEq, D.clo.injEq, D.ptr.injEq, V.i.injEq, V.s.injEq, V.b.injEq, V.sl.injEq, cw, cv, cu, GLog.map_inj, GCommand.map_inj, GCall.map_inj, GItem.map_inj, GValue.map_inj, GStore.map_inj, GMachine.map_inj, GSnap.map_inj, Gwriter.map_inj, GPair.map_inj, GScore.map_inj, GEntry.map_inj, Greader.map_inj, Gscan.map_inj, GReply.map_inj, GClient.map_inj, true_and, and_true] at h
  simp only [Prod.mk.injEq, GScore.mk.injEq, h, and_self]
theorem K16_16 : K_value_Check_fn4 O16 := fun p0 r h => cM (x := p0) inj16 h
def a17 (x : (List GScore)) : List D × aA := ([.v (.sl 2 (ab GScore.row x)), .clo 71 []], [])
noncomputable def O17 : ak := ak.addF O16 110 a17 (fun x => slices_IndexFunc_Score_Score_value_Check_fn4 x) (fun _ (r : Int) => (.v (.i .i64 r), []))
set_option maxRecDepth 100000 in
theorem O17_sound : cE Try.prog O17 := cA O16_sound (fun x r h => cL (ν := n110) (cz O16_sound) Try.func110 (by kernel_rfl) mixed (by kernel_rfl) (Nat.le_of_ble_eq_true (by kernel_rfl)) (r_slices_IndexFunc_Score_Score_value_Check_fn4 O16 K16_16 x r h))
theorem inj17 : ∀ x y, a17 x = a17 y → x = y := by
  rintro ua1 ub1 h
  simp only [a17, Prod.mk.injEq, List.cons.injEq, D.v.injEq, D.own.injEq, D.agg.injEq, D.rp.injEq, D.clo.injEq, D.ptr.injEq, V.i.injEq, V.s.injEq, V.b.injEq, V.sl.injEq, cw, cv, cu, GLog.map_inj, GCommand.map_inj, GCall.map_inj, GItem.map_inj, GValue.map_inj, GStore.map_inj, GMachine.map_inj, GSnap.map_inj, Gwriter.map_inj, GPair.map_inj, GScore.map_inj, GEntry.map_inj, Greader.map_inj, Gscan.map_inj, GReply.map_inj, GClient.map_inj, true_and, and_true] at h
  exact h
theorem K17_17 : K_slices_IndexFunc_Score_Score_value_Check_fn4 O17 := fun p0 r h => cM (x := p0) inj17 h
def a18 (x : (List GScore)) : List D × aA := ([.v (.sl 2 (ab GScore.row x)), .clo 71 []], [])
noncomputable def O18 : ak := ak.addF O17 68 a18 (fun x => slices_ContainsFunc_Score_Score_value_Check_fn4 x) (fun _ (r : Bool) => (.v (.b r), []))
set_option maxRecDepth 100000 in
theorem O18_sound : cE Try.prog O18 := cA O17_sound (fun x r h => cL (ν := n68) (cz O17_sound) Try.func68 (by kernel_rfl) mixed (by kernel_rfl) (Nat.le_of_ble_eq_true (by kernel_rfl)) (r_slices_ContainsFunc_Score_Score_value_Check_fn4 O17 K17_17 x r h))
theorem inj18 : ∀ x y, a18 x = a18 y → x = y := by
  rintro ua1 ub1 h
  simp only [a18, Prod.mk.injEq, List.cons.injEq, D.v.injEq, D.own.injEq, D.agg.injEq, D.rp.injEq, D.clo.injEq, D.ptr.injEq, V.i.injEq, V.s.injEq, V.b.injEq, V.sl.injEq, cw, cv, cu, GLog.map_inj, GCommand.map_inj, GCall.map_inj, GItem.map_inj, GValue.map_inj, GStore.map_inj, GMachine.map_inj, GSnap.map_inj, Gwriter.map_inj, GPair.map_inj, GScore.map_inj, GEntry.map_inj, Greader.map_inj, Gscan.map_inj, GReply.map_inj, GClient.map_inj, true_and, and_true] at h
  exact h
theorem K18_18 : K_slices_ContainsFunc_Score_Score_value_Check_fn4 O18 := fun p0 r h => cM (x := p0) inj18 h
def a19 (x : ByteArray × ByteArray) : List D × aA := ([.v (.s x.1), .v (.s x.2)], [])
noncomputable def O19 : ak := ak.addF O18 132 a19 (fun x => cmpstring x.1 x.2) (fun _ (r : Int) => (.v (.i .i64 r), []))
set_option maxRecDepth 100000 in
theorem O19_sound : cE Try.prog O19 := cA O18_sound (fun x r h => by
  obtain rfl := Option.some.inj h
  exact sem_cmp Try.func132 (by kernel_rfl) (by kernel_rfl) (by kernel_rfl) (by kernel_rfl) x.1 x.2)
theorem inj19 : ∀ x y, a19 x = a19 y → x = y := by
  rintro ⟨ua1, ua2⟩ ⟨ub1, ub2⟩ h
  simp only [a19, Prod.mk.injEq, List.cons.injEq, D.v.injEq, D.own.injEq, D.agg.injEq, D.rp.injEq, D.clo.injEq, D.ptr.injEq, V.i.injEq, V.s.injEq, V.b.injEq, V.sl.injEq, cw, cv, cu, GLog.map_inj, GCommand.map_inj, GCall.map_inj, GItem.map_inj, GValue.map_inj, GStore.map_inj, GMachine.map_inj, GSnap.map_inj, Gwriter.map_inj, GPair.map_inj, GScore.map_inj, GEntry.map_inj, Greader.map_inj, Gscan.map_inj, GReply.map_inj, GClient.map_inj, true_and, and_true] at h
  simp only [Prod.mk.injEq, h, and_self]
theorem K19_19 : K_cmpstring O19 := fun p0 p1 r h => cM (x := (p0, p1)) inj19 h
def a20 (x : ByteArray × ByteArray) : List D × aA := ([.v (.s x.1), .v (.s x.2)], [])
noncomputable def O20 : ak := ak.addF O19 113 a20 (fun x => internal_bytealg_CompareString x.1 x.2) (fun _ (r : Int) => (.v (.i .i64 r), []))
set_option maxRecDepth 100000 in
theorem O20_sound : cE Try.prog O20 := cA O19_sound (fun x r h => cL (ν := n113) (cz O19_sound) Try.func113 (by kernel_rfl) mixed (by kernel_rfl) (Nat.le_of_ble_eq_true (by kernel_rfl)) (r_internal_bytealg_CompareString O19 K19_19 x.1 x.2 r h))
theorem inj20 : ∀ x y, a20 x = a20 y → x = y := by
  rintro ⟨ua1, ua2⟩ ⟨ub1, ub2⟩ h
  simp only [a20, Prod.mk.injEq, List.cons.injEq, D.v.injEq, D.own.injEq, D.agg.injEq, D.rp.injEq, D.clo.injEq, D.ptr.injEq, V.i.injEq, V.s.injEq, V.b.injEq, V.sl.injEq, cw, cv, cu, GLog.map_inj, GCommand.map_inj, GCall.map_inj, GItem.map_inj, GValue.map_inj, GStore.map_inj, GMachine.map_inj, GSnap.map_inj, Gwriter.map_inj, GPair.map_inj, GScore.map_inj, GEntry.map_inj, Greader.map_inj, Gscan.map_inj, GReply.map_inj, GClient.map_inj, true_and, and_true] at h
  simp only [Prod.mk.injEq, h, and_self]
theorem K20_20 : K_internal_bytealg_CompareString O20 := fun p0 p1 r h => cM (x := (p0, p1)) inj20 h
def a21 (x : ByteArray × ByteArray) : List D × aA := ([.v (.s x.1), .v (.s x.2)], [])
noncomputable def O21 : ak := ak.addF O20 77 a21 (fun x => strings_Compare x.1 x.2) (fun _ (r : Int) => (.v (.i .i64 r), []))
set_option maxRecDepth 100000 in
theorem O21_sound : cE Try.prog O21 := cA O20_sound (fun x r h => cL (ν := n77) (cz O20_sound) Try.func77 (by kernel_rfl) mixed (by kernel_rfl) (Nat.le_of_ble_eq_true (by kernel_rfl)) (r_strings_Compare O20 K20_20 x.1 x.2 r h))
theorem inj21 : ∀ x y, a21 x = a21 y → x = y := by
  rintro ⟨ua1, ua2⟩ ⟨ub1, ub2⟩ h
  simp only [a21, Prod.mk.injEq, List.cons.injEq, D.v.injEq, D.own.injEq, D.agg.injEq, D.rp.injEq, D.clo.injEq, D.ptr.injEq, V.i.injEq, V.s.injEq, V.b.injEq, V.sl.injEq, cw, cv, cu, GLog.map_inj, GCommand.map_inj, GCall.map_inj, GItem.map_inj, GValue.map_inj, GStore.map_inj, GMachine.map_inj, GSnap.map_inj, Gwriter.map_inj, GPair.map_inj, GScore.map_inj, GEntry.map_inj, Greader.map_inj, Gscan.map_inj, GReply.map_inj, GClient.map_inj, true_and, and_true] at h
  simp only [Prod.mk.injEq, h, and_self]
theorem K21_21 : K_strings_Compare O21 := fun p0 p1 r h => cM (x := (p0, p1)) inj21 h
def a22 (x : GPair × GPair) : List D × aA := ([.agg [.v (.s x.1.fField), .v (.s x.1.fText)], .agg [.v (.s x.2.fField), .v (.s x.2.fText)]], [])
noncomputable def O22 : ak := ak.addF O21 73 a22 (fun x => value_byField x.1 x.2) (fun _ (r : Int) => (.v (.i .i64 r), []))
set_option maxRecDepth 100000 in
theorem O22_sound : cE Try.prog O22 := cA O21_sound (fun x r h => cL (ν := n73) (cz O21_sound) Try.func73 (by kernel_rfl) mixed (by kernel_rfl) (Nat.le_of_ble_eq_true (by kernel_rfl)) (r_value_byField O21 K21_21 x.1 x.2 r h))
theorem inj22 : ∀ x y, a22 x = a22 y → x = y := by
  rintro ⟨⟨ua1, ua2⟩, ⟨ua3, ua4⟩⟩ ⟨⟨ub1, ub2⟩, ⟨ub3, ub4⟩⟩ h
  simp only [a22, Prod.mk.injEq, List.cons.injEq, D.v.injEq, D.own.injEq, D.agg.injEq, D.rp.injEq, D.clo.injEq, D.ptr.injEq, V.i.injEq, V.s.injEq, V.b.injEq, V.sl.injEq, cw, cv, cu, GLog.map_inj, GCommand.map_inj, GCall.map_inj, GItem.map_inj, GValue.map_inj, GStore.map_inj, GMachine.map_inj, GSnap.map_inj, Gwriter.map_inj, GPair.map_inj, GScore.map_inj, GEntry.map_inj, Greader.map_inj, Gscan.map_inj, GReply.map_inj, GClient.map_inj, true_and, and_true] at h
  simp only [Prod.mk.injEq, GPair.mk.injEq, h, and_self]
theorem K22_22 : K_value_byField O22 := fun p0 p1 r h => cM (x := (p0, p1)) inj22 h
def a23 (x : (List GPair)) : List D × aA := ([.v (.sl 2 (ab GPair.row x)), .clo 73 []], [])
noncomputable def O23 : ak := ak.addF O22 72 a23 (fun x => value_rising_Pair_value_byField x) (fun _ (r : Bool) => (.v (.b r), []))
set_option maxRecDepth 100000 in
theorem O23_sound : cE Try.prog O23 := cA O22_sound (fun x r h => cL (ν := n72) (cz O22_sound) Try.func72 (by kernel_rfl) mixed (by kernel_rfl) (Nat.le_of_ble_eq_true (by kernel_rfl)) (r_value_rising_Pair_value_byField O22 K22_22 x r h))
theorem inj23 : ∀ x y, a23 x = a23 y → x = y := by
  rintro ua1 ub1 h
  simp only [a23, Prod.mk.injEq, List.cons.injEq, D.v.injEq, D.own.injEq, D.agg.injEq, D.rp.injEq, D.clo.injEq, D.ptr.injEq, V.i.injEq, V.s.injEq, V.b.injEq, V.sl.injEq, cw, cv, cu, GLog.map_inj, GCommand.map_inj, GCall.map_inj, GItem.map_inj, GValue.map_inj, GStore.map_inj, GMachine.map_inj, GSnap.map_inj, Gwriter.map_inj, GPair.map_inj, GScore.map_inj, GEntry.map_inj, Greader.map_inj, Gscan.map_inj, GReply.map_inj, GClient.map_inj, true_and, and_true] at h
  exact h
theorem K23_23 : K_value_rising_Pair_value_byField O23 := fun p0 r h => cM (x := p0) inj23 h
def a24 (x : Int) : List D × aA := ([.v (.i .i64 x)], [])
noncomputable def O24 : ak := ak.addF O23 131 a24 (fun x => cmp_isNaN_int x) (fun _ (r : Bool) => (.v (.b r), []))
set_option maxRecDepth 100000 in
theorem O24_sound : cE Try.prog O24 := cA O23_sound (fun x r h => cL (ν := n131) (cz O23_sound) Try.func131 (by kernel_rfl) mixed (by kernel_rfl) (Nat.le_of_ble_eq_true (by kernel_rfl)) (r_cmp_isNaN_int O23 x r h))
theorem inj24 : ∀ x y, a24 x = a24 y → x = y := by
  rintro ua1 ub1 h
  simp only [a24, Prod.mk.injEq, List.cons.injEq, D.v.injEq, D.own.injEq, D.agg.injEq, D.rp.injEq, D.clo.injEq, D.ptr.injEq, V.i.injEq, V.s.injEq, V.b.injEq, V.sl.injEq, cw, cv, cu, GLog.map_inj, GCommand.map_inj, GCall.map_inj, GItem.map_inj, GValue.map_inj, GStore.map_inj, GMachine.map_inj, GSnap.map_inj, Gwriter.map_inj, GPair.map_inj, GScore.map_inj, GEntry.map_inj, Greader.map_inj, Gscan.map_inj, GReply.map_inj, GClient.map_inj, true_and, and_true] at h
  exact h
theorem K24_24 : K_cmp_isNaN_int O24 := fun p0 r h => cM (x := p0) inj24 h
def a25 (x : Int × Int) : List D × aA := ([.v (.i .i64 x.1), .v (.i .i64 x.2)], [])
noncomputable def O25 : ak := ak.addF O24 112 a25 (fun x => cmp_Compare_int x.1 x.2) (fun _ (r : Int) => (.v (.i .i64 r), []))
set_option maxRecDepth 100000 in
theorem O25_sound : cE Try.prog O25 := cA O24_sound (fun x r h => cL (ν := n112) (cz O24_sound) Try.func112 (by kernel_rfl) mixed (by kernel_rfl) (Nat.le_of_ble_eq_true (by kernel_rfl)) (r_cmp_Compare_int O24 K24_24 x.1 x.2 r h))
theorem inj25 : ∀ x y, a25 x = a25 y → x = y := by
  rintro ⟨ua1, ua2⟩ ⟨ub1, ub2⟩ h
  simp only [a25, Prod.mk.injEq, List.cons.injEq, D.v.injEq, D.own.injEq, D.agg.injEq, D.rp.injEq, D.clo.injEq, D.ptr.injEq, V.i.injEq, V.s.injEq, V.b.injEq, V.sl.injEq, cw, cv, cu, GLog.map_inj, GCommand.map_inj, GCall.map_inj, GItem.map_inj, GValue.map_inj, GStore.map_inj, GMachine.map_inj, GSnap.map_inj, Gwriter.map_inj, GPair.map_inj, GScore.map_inj, GEntry.map_inj, Greader.map_inj, Gscan.map_inj, GReply.map_inj, GClient.map_inj, true_and, and_true] at h
  simp only [Prod.mk.injEq, h, and_self]
theorem K25_25 : K_cmp_Compare_int O25 := fun p0 p1 r h => cM (x := (p0, p1)) inj25 h
def a26 (x : (List Int)) : List D × aA := ([.v (.sl 1 (ab rowI x))], [])
noncomputable def O26 : ak := ak.addF O25 111 a26 (fun x => cmp_Or_int x) (fun _ (r : Int) => (.v (.i .i64 r), []))
set_option maxRecDepth 100000 in
theorem O26_sound : cE Try.prog O26 := cA O25_sound (fun x r h => cL (ν := n111) (cz O25_sound) Try.func111 (by kernel_rfl) mixed (by kernel_rfl) (Nat.le_of_ble_eq_true (by kernel_rfl)) (r_cmp_Or_int O25 x r h))
theorem inj26 : ∀ x y, a26 x = a26 y → x = y := by
  rintro ua1 ub1 h
  simp only [a26, Prod.mk.injEq, List.cons.injEq, D.v.injEq, D.own.injEq, D.agg.injEq, D.rp.injEq, D.clo.injEq, D.ptr.injEq, V.i.injEq, V.s.injEq, V.b.injEq, V.sl.injEq, cw, cv, cu, GLog.map_inj, GCommand.map_inj, GCall.map_inj, GItem.map_inj, GValue.map_inj, GStore.map_inj, GMachine.map_inj, GSnap.map_inj, Gwriter.map_inj, GPair.map_inj, GScore.map_inj, GEntry.map_inj, Greader.map_inj, Gscan.map_inj, GReply.map_inj, GClient.map_inj, true_and, and_true] at h
  exact h
theorem K26_26 : K_cmp_Or_int O26 := fun p0 r h => cM (x := p0) inj26 h
theorem K25_26 : K_cmp_Compare_int O26 := fun p0 p1 r h => (aV (by decide) _ _).trans (K25_25 p0 p1 r h)
theorem K21_22 : K_strings_Compare O22 := fun p0 p1 r h => (aV (by decide) _ _).trans (K21_21 p0 p1 r h)
theorem K21_23 : K_strings_Compare O23 := fun p0 p1 r h => (aV (by decide) _ _).trans (K21_22 p0 p1 r h)
theorem K21_24 : K_strings_Compare O24 := fun p0 p1 r h => (aV (by decide) _ _).trans (K21_23 p0 p1 r h)
theorem K21_25 : K_strings_Compare O25 := fun p0 p1 r h => (aV (by decide) _ _).trans (K21_24 p0 p1 r h)
theorem K21_26 : K_strings_Compare O26 := fun p0 p1 r h => (aV (by decide) _ _).trans (K21_25 p0 p1 r h)
def a27 (x : GScore × GScore) : List D × aA := ([.agg [.v (.s x.1.fMember), .v (.i .i64 x.1.fN)], .agg [.v (.s x.2.fMember), .v (.i .i64 x.2.fN)]], [])
noncomputable def O27 : ak := ak.addF O26 75 a27 (fun x => value_byScore x.1 x.2) (fun _ (r : Int) => (.v (.i .i64 r), []))
set_option maxRecDepth 100000 in
theorem O27_sound : cE Try.prog O27 := cA O26_sound (fun x r h => cL (ν := n75) (cz O26_sound) Try.func75 (by kernel_rfl) mixed (by kernel_rfl) (Nat.le_of_ble_eq_true (by kernel_rfl)) (r_value_byScore O26 K25_26 K21_26 K26_26 x.1 x.2 r h))
theorem inj27 : ∀ x y, a27 x = a27 y → x = y := by
  rintro ⟨⟨ua1, ua2⟩, ⟨ua3, ua4⟩⟩ ⟨⟨ub1, ub2⟩, ⟨ub3, ub4⟩⟩ h
  simp only [a27, Prod.mk.injEq, List.cons.injEq, D.v.injEq, D.own.injEq, D.agg.injEq, D.rp.injEq, D.clo.injEq, D.ptr.injEq, V.i.injEq, V.s.injEq, V.b.injEq, V.sl.injEq, cw, cv, cu, GLog.map_inj, GCommand.map_inj, GCall.map_inj, GItem.map_inj, GValue.map_inj, GStore.map_inj, GMachine.map_inj, GSnap.map_inj, Gwriter.map_inj, GPair.map_inj, GScore.map_inj, GEntry.map_inj, Greader.map_inj, Gscan.map_inj, GReply.map_inj, GClient.map_inj, true_and, and_true] at h
  simp only [Prod.mk.injEq, GScore.mk.injEq, h, and_self]
theorem K27_27 : K_value_byScore O27 := fun p0 p1 r h => cM (x := (p0, p1)) inj27 h
def a28 (x : (List GScore)) : List D × aA := ([.v (.sl 2 (ab GScore.row x)), .clo 75 []], [])
noncomputable def O28 : ak := ak.addF O27 74 a28 (fun x => value_rising_Score_value_byScore x) (fun _ (r : Bool) => (.v (.b r), []))
set_option maxRecDepth 100000 in
theorem O28_sound : cE Try.prog O28 := cA O27_sound (fun x r h => cL (ν := n74) (cz O27_sound) Try.func74 (by kernel_rfl) mixed (by kernel_rfl) (Nat.le_of_ble_eq_true (by kernel_rfl)) (r_value_rising_Score_value_byScore O27 K27_27 x r h))
theorem inj28 : ∀ x y, a28 x = a28 y → x = y := by
  rintro ua1 ub1 h
  simp only [a28, Prod.mk.injEq, List.cons.injEq, D.v.injEq, D.own.injEq, D.agg.injEq, D.rp.injEq, D.clo.injEq, D.ptr.injEq, V.i.injEq, V.s.injEq, V.b.injEq, V.sl.injEq, cw, cv, cu, GLog.map_inj, GCommand.map_inj, GCall.map_inj, GItem.map_inj, GValue.map_inj, GStore.map_inj, GMachine.map_inj, GSnap.map_inj, Gwriter.map_inj, GPair.map_inj, GScore.map_inj, GEntry.map_inj, Greader.map_inj, Gscan.map_inj, GReply.map_inj, GClient.map_inj, true_and, and_true] at h
  exact h
theorem K28_28 : K_value_rising_Score_value_byScore O28 := fun p0 r h => cM (x := p0) inj28 h
theorem K21_27 : K_strings_Compare O27 := fun p0 p1 r h => (aV (by decide) _ _).trans (K21_26 p0 p1 r h)
theorem K21_28 : K_strings_Compare O28 := fun p0 p1 r h => (aV (by decide) _ _).trans (K21_27 p0 p1 r h)
def a29 (x : (List ByteArray)) : List D × aA := ([.v (.sl 1 (ab aY x)), .clo 77 []], [])
noncomputable def O29 : ak := ak.addF O28 76 a29 (fun x => value_rising_string_strings_Compare x) (fun _ (r : Bool) => (.v (.b r), []))
set_option maxRecDepth 100000 in
theorem O29_sound : cE Try.prog O29 := cA O28_sound (fun x r h => cL (ν := n76) (cz O28_sound) Try.func76 (by kernel_rfl) mixed (by kernel_rfl) (Nat.le_of_ble_eq_true (by kernel_rfl)) (r_value_rising_string_strings_Compare O28 K21_28 x r h))
theorem inj29 : ∀ x y, a29 x = a29 y → x = y := by
  rintro ua1 ub1 h
  simp only [a29, Prod.mk.injEq, List.cons.injEq, D.v.injEq, D.own.injEq, D.agg.injEq, D.rp.injEq, D.clo.injEq, D.ptr.injEq, V.i.injEq, V.s.injEq, V.b.injEq, V.sl.injEq, cw, cv, cu, GLog.map_inj, GCommand.map_inj, GCall.map_inj, GItem.map_inj, GValue.map_inj, GStore.map_inj, GMachine.map_inj, GSnap.map_inj, Gwriter.map_inj, GPair.map_inj, GScore.map_inj, GEntry.map_inj, Greader.map_inj, Gscan.map_inj, GReply.map_inj, GClient.map_inj, true_and, and_true] at h
  exact h
theorem K29_29 : K_value_rising_string_strings_Compare O29 := fun p0 r h => cM (x := p0) inj29 h
def a30 (x : GScore × ByteArray) : List D × aA := ([.agg [.v (.s x.1.fMember), .v (.i .i64 x.1.fN)], .ptr 0 0], [[.v (.s x.2)]])
noncomputable def O30 : ak := ak.addF O29 114 a30 (fun x => value_rank_fn1 x.1 x.2) (fun _ (r : Bool × ByteArray) => (.v (.b r.1), [[.v (.s r.2)]]))
set_option maxRecDepth 100000 in
theorem O30_sound : cE Try.prog O30 := cA O29_sound (fun x r h => cL (ν := n114) (cz O29_sound) Try.func114 (by kernel_rfl) mixed (by kernel_rfl) (Nat.le_of_ble_eq_true (by kernel_rfl)) (r_value_rank_fn1 O29 x.1 x.2 r h))
theorem inj30 : ∀ x y, a30 x = a30 y → x = y := by
  rintro ⟨⟨ua1, ua2⟩, ua3⟩ ⟨⟨ub1, ub2⟩, ub3⟩ h
  simp only [a30, Prod.mk.injEq, List.cons.injEq, D.v.injEq, D.own.injEq, D.agg.injEq, D.rp.injEq, D.clo.injEq, D.ptr.injEq, V.i.injEq, V.s.injEq, V.b.injEq, V.sl.injEq, cw, cv, cu, GLog.map_inj, GCommand.map_inj, GCall.map_inj, GItem.map_inj, GValue.map_inj, GStore.map_inj, GMachine.map_inj, GSnap.map_inj, Gwriter.map_inj, GPair.map_inj, GScore.map_inj, GEntry.map_inj, Greader.map_inj, Gscan.map_inj, GReply.map_inj, GClient.map_inj, true_and, and_true] at h
  simp only [Prod.mk.injEq, GScore.mk.injEq, h, and_self]
theorem K30_30 : K_value_rank_fn1 O30 := fun p0 p1 r h => cM (x := (p0, p1)) inj30 h
def a31 (x : (List GScore) × ByteArray) : List D × aA := ([.v (.sl 2 (ab GScore.row x.1)), .clo 114 [.ptr 0 0]], [[.v (.s x.2)]])
noncomputable def O31 : ak := ak.addF O30 110 a31 (fun x => slices_IndexFunc_Score_Score_value_rank_fn1 x.1 x.2) (fun _ (r : Int × ByteArray) => (.v (.i .i64 r.1), [[.v (.s r.2)]]))
set_option maxRecDepth 100000 in
theorem O31_sound : cE Try.prog O31 := cA O30_sound (fun x r h => cL (ν := n110) (cz O30_sound) Try.func110 (by kernel_rfl) mixed (by kernel_rfl) (Nat.le_of_ble_eq_true (by kernel_rfl)) (r_slices_IndexFunc_Score_Score_value_rank_fn1 O30 K30_30 x.1 x.2 r h))
theorem inj31 : ∀ x y, a31 x = a31 y → x = y := by
  rintro ⟨ua1, ua2⟩ ⟨ub1, ub2⟩ h
  simp only [a31, Prod.mk.injEq, List.cons.injEq, D.v.injEq, D.own.injEq, D.agg.injEq, D.rp.injEq, D.clo.injEq, D.ptr.injEq, V.i.injEq, V.s.injEq, V.b.injEq, V.sl.injEq, cw, cv, cu, GLog.map_inj, GCommand.map_inj, GCall.map_inj, GItem.map_inj, GValue.map_inj, GStore.map_inj, GMachine.map_inj, GSnap.map_inj, Gwriter.map_inj, GPair.map_inj, GScore.map_inj, GEntry.map_inj, Greader.map_inj, Gscan.map_inj, GReply.map_inj, GClient.map_inj, true_and, and_true] at h
  simp only [Prod.mk.injEq, h, and_self]
theorem K31_31 : K_slices_IndexFunc_Score_Score_value_rank_fn1 O31 := fun p0 p1 r h => cM (x := (p0, p1)) inj31 h
def a32 (x : (List GScore) × ByteArray) : List D × aA := ([.v (.sl 2 (ab GScore.row x.1)), .v (.s x.2)], [])
noncomputable def O32 : ak := ak.addF O31 78 a32 (fun x => value_rank x.1 x.2) (fun _ (r : Int) => (.v (.i .i64 r), []))
set_option maxRecDepth 100000 in
theorem O32_sound : cE Try.prog O32 := cA O31_sound (fun x r h => cL (ν := n78) (cz O31_sound) Try.func78 (by kernel_rfl) mixed (by kernel_rfl) (Nat.le_of_ble_eq_true (by kernel_rfl)) (r_value_rank O31 K31_31 x.1 x.2 r h))
theorem inj32 : ∀ x y, a32 x = a32 y → x = y := by
  rintro ⟨ua1, ua2⟩ ⟨ub1, ub2⟩ h
  simp only [a32, Prod.mk.injEq, List.cons.injEq, D.v.injEq, D.own.injEq, D.agg.injEq, D.rp.injEq, D.clo.injEq, D.ptr.injEq, V.i.injEq, V.s.injEq, V.b.injEq, V.sl.injEq, cw, cv, cu, GLog.map_inj, GCommand.map_inj, GCall.map_inj, GItem.map_inj, GValue.map_inj, GStore.map_inj, GMachine.map_inj, GSnap.map_inj, Gwriter.map_inj, GPair.map_inj, GScore.map_inj, GEntry.map_inj, Greader.map_inj, Gscan.map_inj, GReply.map_inj, GClient.map_inj, true_and, and_true] at h
  simp only [Prod.mk.injEq, h, and_self]
theorem K32_32 : K_value_rank O32 := fun p0 p1 r h => cM (x := (p0, p1)) inj32 h
theorem K3_4 : K_value_elements O4 := fun p0 r h => (aV (by decide) _ _).trans (K3_3 p0 r h)
theorem K3_5 : K_value_elements O5 := fun p0 r h => (aV (by decide) _ _).trans (K3_4 p0 r h)
theorem K3_6 : K_value_elements O6 := fun p0 r h => (aV (by decide) _ _).trans (K3_5 p0 r h)
theorem K3_7 : K_value_elements O7 := fun p0 r h => (aV (by decide) _ _).trans (K3_6 p0 r h)
theorem K3_8 : K_value_elements O8 := fun p0 r h => (aV (by decide) _ _).trans (K3_7 p0 r h)
theorem K3_9 : K_value_elements O9 := fun p0 r h => (aV (by decide) _ _).trans (K3_8 p0 r h)
theorem K3_10 : K_value_elements O10 := fun p0 r h => (aV (by decide) _ _).trans (K3_9 p0 r h)
theorem K3_11 : K_value_elements O11 := fun p0 r h => (aV (by decide) _ _).trans (K3_10 p0 r h)
theorem K3_12 : K_value_elements O12 := fun p0 r h => (aV (by decide) _ _).trans (K3_11 p0 r h)
theorem K3_13 : K_value_elements O13 := fun p0 r h => (aV (by decide) _ _).trans (K3_12 p0 r h)
theorem K3_14 : K_value_elements O14 := fun p0 r h => (aV (by decide) _ _).trans (K3_13 p0 r h)
theorem K3_15 : K_value_elements O15 := fun p0 r h => (aV (by decide) _ _).trans (K3_14 p0 r h)
theorem K3_16 : K_value_elements O16 := fun p0 r h => (aV (by decide) _ _).trans (K3_15 p0 r h)
theorem K3_17 : K_value_elements O17 := fun p0 r h => (aV (by decide) _ _).trans (K3_16 p0 r h)
theorem K3_18 : K_value_elements O18 := fun p0 r h => (aV (by decide) _ _).trans (K3_17 p0 r h)
theorem K3_19 : K_value_elements O19 := fun p0 r h => (aV (by decide) _ _).trans (K3_18 p0 r h)
theorem K3_20 : K_value_elements O20 := fun p0 r h => (aV (by decide) _ _).trans (K3_19 p0 r h)
theorem K3_21 : K_value_elements O21 := fun p0 r h => (aV (by decide) _ _).trans (K3_20 p0 r h)
theorem K3_22 : K_value_elements O22 := fun p0 r h => (aV (by decide) _ _).trans (K3_21 p0 r h)
theorem K3_23 : K_value_elements O23 := fun p0 r h => (aV (by decide) _ _).trans (K3_22 p0 r h)
theorem K3_24 : K_value_elements O24 := fun p0 r h => (aV (by decide) _ _).trans (K3_23 p0 r h)
theorem K3_25 : K_value_elements O25 := fun p0 r h => (aV (by decide) _ _).trans (K3_24 p0 r h)
theorem K3_26 : K_value_elements O26 := fun p0 r h => (aV (by decide) _ _).trans (K3_25 p0 r h)
theorem K3_27 : K_value_elements O27 := fun p0 r h => (aV (by decide) _ _).trans (K3_26 p0 r h)
theorem K3_28 : K_value_elements O28 := fun p0 r h => (aV (by decide) _ _).trans (K3_27 p0 r h)
theorem K3_29 : K_value_elements O29 := fun p0 r h => (aV (by decide) _ _).trans (K3_28 p0 r h)
theorem K3_30 : K_value_elements O30 := fun p0 r h => (aV (by decide) _ _).trans (K3_29 p0 r h)
theorem K3_31 : K_value_elements O31 := fun p0 r h => (aV (by decide) _ _).trans (K3_30 p0 r h)
theorem K3_32 : K_value_elements O32 := fun p0 r h => (aV (by decide) _ _).trans (K3_31 p0 r h)
theorem K4_12 : K_value_text O12 := fun p0 r h => (aV (by decide) _ _).trans (K4_11 p0 r h)
theorem K4_13 : K_value_text O13 := fun p0 r h => (aV (by decide) _ _).trans (K4_12 p0 r h)
theorem K4_14 : K_value_text O14 := fun p0 r h => (aV (by decide) _ _).trans (K4_13 p0 r h)
theorem K4_15 : K_value_text O15 := fun p0 r h => (aV (by decide) _ _).trans (K4_14 p0 r h)
theorem K4_16 : K_value_text O16 := fun p0 r h => (aV (by decide) _ _).trans (K4_15 p0 r h)
theorem K4_17 : K_value_text O17 := fun p0 r h => (aV (by decide) _ _).trans (K4_16 p0 r h)
theorem K4_18 : K_value_text O18 := fun p0 r h => (aV (by decide) _ _).trans (K4_17 p0 r h)
theorem K4_19 : K_value_text O19 := fun p0 r h => (aV (by decide) _ _).trans (K4_18 p0 r h)
theorem K4_20 : K_value_text O20 := fun p0 r h => (aV (by decide) _ _).trans (K4_19 p0 r h)
theorem K4_21 : K_value_text O21 := fun p0 r h => (aV (by decide) _ _).trans (K4_20 p0 r h)
theorem K4_22 : K_value_text O22 := fun p0 r h => (aV (by decide) _ _).trans (K4_21 p0 r h)
theorem K4_23 : K_value_text O23 := fun p0 r h => (aV (by decide) _ _).trans (K4_22 p0 r h)
theorem K4_24 : K_value_text O24 := fun p0 r h => (aV (by decide) _ _).trans (K4_23 p0 r h)
theorem K4_25 : K_value_text O25 := fun p0 r h => (aV (by decide) _ _).trans (K4_24 p0 r h)
theorem K4_26 : K_value_text O26 := fun p0 r h => (aV (by decide) _ _).trans (K4_25 p0 r h)
theorem K4_27 : K_value_text O27 := fun p0 r h => (aV (by decide) _ _).trans (K4_26 p0 r h)
theorem K4_28 : K_value_text O28 := fun p0 r h => (aV (by decide) _ _).trans (K4_27 p0 r h)
theorem K4_29 : K_value_text O29 := fun p0 r h => (aV (by decide) _ _).trans (K4_28 p0 r h)
theorem K4_30 : K_value_text O30 := fun p0 r h => (aV (by decide) _ _).trans (K4_29 p0 r h)
theorem K4_31 : K_value_text O31 := fun p0 r h => (aV (by decide) _ _).trans (K4_30 p0 r h)
theorem K4_32 : K_value_text O32 := fun p0 r h => (aV (by decide) _ _).trans (K4_31 p0 r h)
theorem K7_8 : K_slices_ContainsFunc_string_string_value_Check_fn1 O8 := fun p0 r h => (aV (by decide) _ _).trans (K7_7 p0 r h)
theorem K7_9 : K_slices_ContainsFunc_string_string_value_Check_fn1 O9 := fun p0 r h => (aV (by decide) _ _).trans (K7_8 p0 r h)
theorem K7_10 : K_slices_ContainsFunc_string_string_value_Check_fn1 O10 := fun p0 r h => (aV (by decide) _ _).trans (K7_9 p0 r h)
theorem K7_11 : K_slices_ContainsFunc_string_string_value_Check_fn1 O11 := fun p0 r h => (aV (by decide) _ _).trans (K7_10 p0 r h)
theorem K7_12 : K_slices_ContainsFunc_string_string_value_Check_fn1 O12 := fun p0 r h => (aV (by decide) _ _).trans (K7_11 p0 r h)
theorem K7_13 : K_slices_ContainsFunc_string_string_value_Check_fn1 O13 := fun p0 r h => (aV (by decide) _ _).trans (K7_12 p0 r h)
theorem K7_14 : K_slices_ContainsFunc_string_string_value_Check_fn1 O14 := fun p0 r h => (aV (by decide) _ _).trans (K7_13 p0 r h)
theorem K7_15 : K_slices_ContainsFunc_string_string_value_Check_fn1 O15 := fun p0 r h => (aV (by decide) _ _).trans (K7_14 p0 r h)
theorem K7_16 : K_slices_ContainsFunc_string_string_value_Check_fn1 O16 := fun p0 r h => (aV (by decide) _ _).trans (K7_15 p0 r h)
theorem K7_17 : K_slices_ContainsFunc_string_string_value_Check_fn1 O17 := fun p0 r h => (aV (by decide) _ _).trans (K7_16 p0 r h)
theorem K7_18 : K_slices_ContainsFunc_string_string_value_Check_fn1 O18 := fun p0 r h => (aV (by decide) _ _).trans (K7_17 p0 r h)
theorem K7_19 : K_slices_ContainsFunc_string_string_value_Check_fn1 O19 := fun p0 r h => (aV (by decide) _ _).trans (K7_18 p0 r h)
theorem K7_20 : K_slices_ContainsFunc_string_string_value_Check_fn1 O20 := fun p0 r h => (aV (by decide) _ _).trans (K7_19 p0 r h)
theorem K7_21 : K_slices_ContainsFunc_string_string_value_Check_fn1 O21 := fun p0 r h => (aV (by decide) _ _).trans (K7_20 p0 r h)
theorem K7_22 : K_slices_ContainsFunc_string_string_value_Check_fn1 O22 := fun p0 r h => (aV (by decide) _ _).trans (K7_21 p0 r h)
theorem K7_23 : K_slices_ContainsFunc_string_string_value_Check_fn1 O23 := fun p0 r h => (aV (by decide) _ _).trans (K7_22 p0 r h)
theorem K7_24 : K_slices_ContainsFunc_string_string_value_Check_fn1 O24 := fun p0 r h => (aV (by decide) _ _).trans (K7_23 p0 r h)
theorem K7_25 : K_slices_ContainsFunc_string_string_value_Check_fn1 O25 := fun p0 r h => (aV (by decide) _ _).trans (K7_24 p0 r h)
theorem K7_26 : K_slices_ContainsFunc_string_string_value_Check_fn1 O26 := fun p0 r h => (aV (by decide) _ _).trans (K7_25 p0 r h)
theorem K7_27 : K_slices_ContainsFunc_string_string_value_Check_fn1 O27 := fun p0 r h => (aV (by decide) _ _).trans (K7_26 p0 r h)
theorem K7_28 : K_slices_ContainsFunc_string_string_value_Check_fn1 O28 := fun p0 r h => (aV (by decide) _ _).trans (K7_27 p0 r h)
theorem K7_29 : K_slices_ContainsFunc_string_string_value_Check_fn1 O29 := fun p0 r h => (aV (by decide) _ _).trans (K7_28 p0 r h)
theorem K7_30 : K_slices_ContainsFunc_string_string_value_Check_fn1 O30 := fun p0 r h => (aV (by decide) _ _).trans (K7_29 p0 r h)
theorem K7_31 : K_slices_ContainsFunc_string_string_value_Check_fn1 O31 := fun p0 r h => (aV (by decide) _ _).trans (K7_30 p0 r h)
theorem K7_32 : K_slices_ContainsFunc_string_string_value_Check_fn1 O32 := fun p0 r h => (aV (by decide) _ _).trans (K7_31 p0 r h)
theorem K11_12 : K_slices_ContainsFunc_Pair_Pair_value_Check_fn2 O12 := fun p0 r h => (aV (by decide) _ _).trans (K11_11 p0 r h)
theorem K11_13 : K_slices_ContainsFunc_Pair_Pair_value_Check_fn2 O13 := fun p0 r h => (aV (by decide) _ _).trans (K11_12 p0 r h)
theorem K11_14 : K_slices_ContainsFunc_Pair_Pair_value_Check_fn2 O14 := fun p0 r h => (aV (by decide) _ _).trans (K11_13 p0 r h)
theorem K11_15 : K_slices_ContainsFunc_Pair_Pair_value_Check_fn2 O15 := fun p0 r h => (aV (by decide) _ _).trans (K11_14 p0 r h)
theorem K11_16 : K_slices_ContainsFunc_Pair_Pair_value_Check_fn2 O16 := fun p0 r h => (aV (by decide) _ _).trans (K11_15 p0 r h)
theorem K11_17 : K_slices_ContainsFunc_Pair_Pair_value_Check_fn2 O17 := fun p0 r h => (aV (by decide) _ _).trans (K11_16 p0 r h)
theorem K11_18 : K_slices_ContainsFunc_Pair_Pair_value_Check_fn2 O18 := fun p0 r h => (aV (by decide) _ _).trans (K11_17 p0 r h)
theorem K11_19 : K_slices_ContainsFunc_Pair_Pair_value_Check_fn2 O19 := fun p0 r h => (aV (by decide) _ _).trans (K11_18 p0 r h)
theorem K11_20 : K_slices_ContainsFunc_Pair_Pair_value_Check_fn2 O20 := fun p0 r h => (aV (by decide) _ _).trans (K11_19 p0 r h)
theorem K11_21 : K_slices_ContainsFunc_Pair_Pair_value_Check_fn2 O21 := fun p0 r h => (aV (by decide) _ _).trans (K11_20 p0 r h)
theorem K11_22 : K_slices_ContainsFunc_Pair_Pair_value_Check_fn2 O22 := fun p0 r h => (aV (by decide) _ _).trans (K11_21 p0 r h)
theorem K11_23 : K_slices_ContainsFunc_Pair_Pair_value_Check_fn2 O23 := fun p0 r h => (aV (by decide) _ _).trans (K11_22 p0 r h)
theorem K11_24 : K_slices_ContainsFunc_Pair_Pair_value_Check_fn2 O24 := fun p0 r h => (aV (by decide) _ _).trans (K11_23 p0 r h)
theorem K11_25 : K_slices_ContainsFunc_Pair_Pair_value_Check_fn2 O25 := fun p0 r h => (aV (by decide) _ _).trans (K11_24 p0 r h)
theorem K11_26 : K_slices_ContainsFunc_Pair_Pair_value_Check_fn2 O26 := fun p0 r h => (aV (by decide) _ _).trans (K11_25 p0 r h)
theorem K11_27 : K_slices_ContainsFunc_Pair_Pair_value_Check_fn2 O27 := fun p0 r h => (aV (by decide) _ _).trans (K11_26 p0 r h)
theorem K11_28 : K_slices_ContainsFunc_Pair_Pair_value_Check_fn2 O28 := fun p0 r h => (aV (by decide) _ _).trans (K11_27 p0 r h)
theorem K11_29 : K_slices_ContainsFunc_Pair_Pair_value_Check_fn2 O29 := fun p0 r h => (aV (by decide) _ _).trans (K11_28 p0 r h)
theorem K11_30 : K_slices_ContainsFunc_Pair_Pair_value_Check_fn2 O30 := fun p0 r h => (aV (by decide) _ _).trans (K11_29 p0 r h)
theorem K11_31 : K_slices_ContainsFunc_Pair_Pair_value_Check_fn2 O31 := fun p0 r h => (aV (by decide) _ _).trans (K11_30 p0 r h)
theorem K11_32 : K_slices_ContainsFunc_Pair_Pair_value_Check_fn2 O32 := fun p0 r h => (aV (by decide) _ _).trans (K11_31 p0 r h)
theorem K14_15 : K_slices_ContainsFunc_Score_Score_value_Check_fn3 O15 := fun p0 r h => (aV (by decide) _ _).trans (K14_14 p0 r h)
theorem K14_16 : K_slices_ContainsFunc_Score_Score_value_Check_fn3 O16 := fun p0 r h => (aV (by decide) _ _).trans (K14_15 p0 r h)
theorem K14_17 : K_slices_ContainsFunc_Score_Score_value_Check_fn3 O17 := fun p0 r h => (aV (by decide) _ _).trans (K14_16 p0 r h)
theorem K14_18 : K_slices_ContainsFunc_Score_Score_value_Check_fn3 O18 := fun p0 r h => (addF_other (by intro x hx; simp [a18] at hx)).trans (K14_17 p0 r h)
theorem K14_19 : K_slices_ContainsFunc_Score_Score_value_Check_fn3 O19 := fun p0 r h => (aV (by decide) _ _).trans (K14_18 p0 r h)
theorem K14_20 : K_slices_ContainsFunc_Score_Score_value_Check_fn3 O20 := fun p0 r h => (aV (by decide) _ _).trans (K14_19 p0 r h)
theorem K14_21 : K_slices_ContainsFunc_Score_Score_value_Check_fn3 O21 := fun p0 r h => (aV (by decide) _ _).trans (K14_20 p0 r h)
theorem K14_22 : K_slices_ContainsFunc_Score_Score_value_Check_fn3 O22 := fun p0 r h => (aV (by decide) _ _).trans (K14_21 p0 r h)
theorem K14_23 : K_slices_ContainsFunc_Score_Score_value_Check_fn3 O23 := fun p0 r h => (aV (by decide) _ _).trans (K14_22 p0 r h)
theorem K14_24 : K_slices_ContainsFunc_Score_Score_value_Check_fn3 O24 := fun p0 r h => (aV (by decide) _ _).trans (K14_23 p0 r h)
theorem K14_25 : K_slices_ContainsFunc_Score_Score_value_Check_fn3 O25 := fun p0 r h => (aV (by decide) _ _).trans (K14_24 p0 r h)
theorem K14_26 : K_slices_ContainsFunc_Score_Score_value_Check_fn3 O26 := fun p0 r h => (aV (by decide) _ _).trans (K14_25 p0 r h)
theorem K14_27 : K_slices_ContainsFunc_Score_Score_value_Check_fn3 O27 := fun p0 r h => (aV (by decide) _ _).trans (K14_26 p0 r h)
theorem K14_28 : K_slices_ContainsFunc_Score_Score_value_Check_fn3 O28 := fun p0 r h => (aV (by decide) _ _).trans (K14_27 p0 r h)
theorem K14_29 : K_slices_ContainsFunc_Score_Score_value_Check_fn3 O29 := fun p0 r h => (aV (by decide) _ _).trans (K14_28 p0 r h)
theorem K14_30 : K_slices_ContainsFunc_Score_Score_value_Check_fn3 O30 := fun p0 r h => (aV (by decide) _ _).trans (K14_29 p0 r h)
theorem K14_31 : K_slices_ContainsFunc_Score_Score_value_Check_fn3 O31 := fun p0 r h => (aV (by decide) _ _).trans (K14_30 p0 r h)
theorem K14_32 : K_slices_ContainsFunc_Score_Score_value_Check_fn3 O32 := fun p0 r h => (aV (by decide) _ _).trans (K14_31 p0 r h)
theorem K15_16 : K_value_count O16 := fun p0 r h => (aV (by decide) _ _).trans (K15_15 p0 r h)
theorem K15_17 : K_value_count O17 := fun p0 r h => (aV (by decide) _ _).trans (K15_16 p0 r h)
theorem K15_18 : K_value_count O18 := fun p0 r h => (aV (by decide) _ _).trans (K15_17 p0 r h)
theorem K15_19 : K_value_count O19 := fun p0 r h => (aV (by decide) _ _).trans (K15_18 p0 r h)
theorem K15_20 : K_value_count O20 := fun p0 r h => (aV (by decide) _ _).trans (K15_19 p0 r h)
theorem K15_21 : K_value_count O21 := fun p0 r h => (aV (by decide) _ _).trans (K15_20 p0 r h)
theorem K15_22 : K_value_count O22 := fun p0 r h => (aV (by decide) _ _).trans (K15_21 p0 r h)
theorem K15_23 : K_value_count O23 := fun p0 r h => (aV (by decide) _ _).trans (K15_22 p0 r h)
theorem K15_24 : K_value_count O24 := fun p0 r h => (aV (by decide) _ _).trans (K15_23 p0 r h)
theorem K15_25 : K_value_count O25 := fun p0 r h => (aV (by decide) _ _).trans (K15_24 p0 r h)
theorem K15_26 : K_value_count O26 := fun p0 r h => (aV (by decide) _ _).trans (K15_25 p0 r h)
theorem K15_27 : K_value_count O27 := fun p0 r h => (aV (by decide) _ _).trans (K15_26 p0 r h)
theorem K15_28 : K_value_count O28 := fun p0 r h => (aV (by decide) _ _).trans (K15_27 p0 r h)
theorem K15_29 : K_value_count O29 := fun p0 r h => (aV (by decide) _ _).trans (K15_28 p0 r h)
theorem K15_30 : K_value_count O30 := fun p0 r h => (aV (by decide) _ _).trans (K15_29 p0 r h)
theorem K15_31 : K_value_count O31 := fun p0 r h => (aV (by decide) _ _).trans (K15_30 p0 r h)
theorem K15_32 : K_value_count O32 := fun p0 r h => (aV (by decide) _ _).trans (K15_31 p0 r h)
theorem K18_19 : K_slices_ContainsFunc_Score_Score_value_Check_fn4 O19 := fun p0 r h => (aV (by decide) _ _).trans (K18_18 p0 r h)
theorem K18_20 : K_slices_ContainsFunc_Score_Score_value_Check_fn4 O20 := fun p0 r h => (aV (by decide) _ _).trans (K18_19 p0 r h)
theorem K18_21 : K_slices_ContainsFunc_Score_Score_value_Check_fn4 O21 := fun p0 r h => (aV (by decide) _ _).trans (K18_20 p0 r h)
theorem K18_22 : K_slices_ContainsFunc_Score_Score_value_Check_fn4 O22 := fun p0 r h => (aV (by decide) _ _).trans (K18_21 p0 r h)
theorem K18_23 : K_slices_ContainsFunc_Score_Score_value_Check_fn4 O23 := fun p0 r h => (aV (by decide) _ _).trans (K18_22 p0 r h)
theorem K18_24 : K_slices_ContainsFunc_Score_Score_value_Check_fn4 O24 := fun p0 r h => (aV (by decide) _ _).trans (K18_23 p0 r h)
theorem K18_25 : K_slices_ContainsFunc_Score_Score_value_Check_fn4 O25 := fun p0 r h => (aV (by decide) _ _).trans (K18_24 p0 r h)
theorem K18_26 : K_slices_ContainsFunc_Score_Score_value_Check_fn4 O26 := fun p0 r h => (aV (by decide) _ _).trans (K18_25 p0 r h)
theorem K18_27 : K_slices_ContainsFunc_Score_Score_value_Check_fn4 O27 := fun p0 r h => (aV (by decide) _ _).trans (K18_26 p0 r h)
theorem K18_28 : K_slices_ContainsFunc_Score_Score_value_Check_fn4 O28 := fun p0 r h => (aV (by decide) _ _).trans (K18_27 p0 r h)
theorem K18_29 : K_slices_ContainsFunc_Score_Score_value_Check_fn4 O29 := fun p0 r h => (aV (by decide) _ _).trans (K18_28 p0 r h)
theorem K18_30 : K_slices_ContainsFunc_Score_Score_value_Check_fn4 O30 := fun p0 r h => (aV (by decide) _ _).trans (K18_29 p0 r h)
theorem K18_31 : K_slices_ContainsFunc_Score_Score_value_Check_fn4 O31 := fun p0 r h => (aV (by decide) _ _).trans (K18_30 p0 r h)
theorem K18_32 : K_slices_ContainsFunc_Score_Score_value_Check_fn4 O32 := fun p0 r h => (aV (by decide) _ _).trans (K18_31 p0 r h)
theorem K23_24 : K_value_rising_Pair_value_byField O24 := fun p0 r h => (aV (by decide) _ _).trans (K23_23 p0 r h)
theorem K23_25 : K_value_rising_Pair_value_byField O25 := fun p0 r h => (aV (by decide) _ _).trans (K23_24 p0 r h)
theorem K23_26 : K_value_rising_Pair_value_byField O26 := fun p0 r h => (aV (by decide) _ _).trans (K23_25 p0 r h)
theorem K23_27 : K_value_rising_Pair_value_byField O27 := fun p0 r h => (aV (by decide) _ _).trans (K23_26 p0 r h)
theorem K23_28 : K_value_rising_Pair_value_byField O28 := fun p0 r h => (aV (by decide) _ _).trans (K23_27 p0 r h)
theorem K23_29 : K_value_rising_Pair_value_byField O29 := fun p0 r h => (aV (by decide) _ _).trans (K23_28 p0 r h)
theorem K23_30 : K_value_rising_Pair_value_byField O30 := fun p0 r h => (aV (by decide) _ _).trans (K23_29 p0 r h)
theorem K23_31 : K_value_rising_Pair_value_byField O31 := fun p0 r h => (aV (by decide) _ _).trans (K23_30 p0 r h)
theorem K23_32 : K_value_rising_Pair_value_byField O32 := fun p0 r h => (aV (by decide) _ _).trans (K23_31 p0 r h)
theorem K28_29 : K_value_rising_Score_value_byScore O29 := fun p0 r h => (aV (by decide) _ _).trans (K28_28 p0 r h)
theorem K28_30 : K_value_rising_Score_value_byScore O30 := fun p0 r h => (aV (by decide) _ _).trans (K28_29 p0 r h)
theorem K28_31 : K_value_rising_Score_value_byScore O31 := fun p0 r h => (aV (by decide) _ _).trans (K28_30 p0 r h)
theorem K28_32 : K_value_rising_Score_value_byScore O32 := fun p0 r h => (aV (by decide) _ _).trans (K28_31 p0 r h)
theorem K29_30 : K_value_rising_string_strings_Compare O30 := fun p0 r h => (aV (by decide) _ _).trans (K29_29 p0 r h)
theorem K29_31 : K_value_rising_string_strings_Compare O31 := fun p0 r h => (aV (by decide) _ _).trans (K29_30 p0 r h)
theorem K29_32 : K_value_rising_string_strings_Compare O32 := fun p0 r h => (aV (by decide) _ _).trans (K29_31 p0 r h)
def a33 (x : GValue) : List D × aA := ([.agg [.v (.i .i64 x.fKind), .v (.s x.fText), .v (.i .i64 x.fCount), .v (.sl 2 (ab GPair.row x.fPairs)), .v (.sl 1 (ab aY x.fItems)), .v (.sl 2 (ab GScore.row x.fScores))]], [])
noncomputable def O33 : ak := ak.addF O32 28 a33 (fun x => value_Check x) (fun _ (r : Int) => (.v (.i .i64 r), []))
set_option maxRecDepth 100000 in
theorem O33_sound : cE Try.prog O33 := cA O32_sound (fun x r h => cL (ν := n28) (cz O32_sound) Try.func28 (by kernel_rfl) mixed (by kernel_rfl) (Nat.le_of_ble_eq_true (by kernel_rfl)) (r_value_Check O32 K3_32 K4_32 K7_32 K11_32 K14_32 K15_32 K18_32 K23_32 K28_32 K29_32 K32_32 x r h))
theorem inj33 : ∀ x y, a33 x = a33 y → x = y := by
  rintro ⟨ua1, ua2, ua3, ua4, ua5, ua6⟩ ⟨ub1, ub2, ub3, ub4, ub5, ub6⟩ h
  simp only [a33, Prod.mk.injEq, List.cons.injEq, D.v.injEq, D.own.injEq, D.agg.injEq, D.rp.injEq, D.clo.injEq, D.ptr.injEq, V.i.injEq, V.s.injEq, V.b.injEq, V.sl.injEq, cw, cv, cu, GLog.map_inj, GCommand.map_inj, GCall.map_inj, GItem.map_inj, GValue.map_inj, GStore.map_inj, GMachine.map_inj, GSnap.map_inj, Gwriter.map_inj, GPair.map_inj, GScore.map_inj, GEntry.map_inj, Greader.map_inj, Gscan.map_inj, GReply.map_inj, GClient.map_inj, true_and, and_true] at h
  simp only [Prod.mk.injEq, GValue.mk.injEq, h, and_self]
theorem K33_33 : K_value_Check O33 := fun p0 r h => cM (x := p0) inj33 h
def a34 (x : GStore) : List D × aA := ([.agg [.v (.i .i64 x.fNow), .v (.sl 8 (ab GEntry.row x.fEntries))]], [])
noncomputable def O34 : ak := ak.addF O33 34 a34 (fun x => store_Check x) (fun _ (r : Int) => (.v (.i .i64 r), []))
set_option maxRecDepth 100000 in
theorem O34_sound : cE Try.prog O34 := cA O33_sound (fun x r h => cL (ν := n34) (cz O33_sound) Try.func34 (by kernel_rfl) mixed (by kernel_rfl) (Nat.le_of_ble_eq_true (by kernel_rfl)) (r_store_Check O33 K33_33 x r h))
theorem inj34 : ∀ x y, a34 x = a34 y → x = y := by
  rintro ⟨ua1, ua2⟩ ⟨ub1, ub2⟩ h
  simp only [a34, Prod.mk.injEq, List.cons.injEq, D.v.injEq, D.own.injEq, D.agg.injEq, D.rp.injEq, D.clo.injEq, D.ptr.injEq, V.i.injEq, V.s.injEq, V.b.injEq, V.sl.injEq, cw, cv, cu, GLog.map_inj, GCommand.map_inj, GCall.map_inj, GItem.map_inj, GValue.map_inj, GStore.map_inj, GMachine.map_inj, GSnap.map_inj, Gwriter.map_inj, GPair.map_inj, GScore.map_inj, GEntry.map_inj, Greader.map_inj, Gscan.map_inj, GReply.map_inj, GClient.map_inj, true_and, and_true] at h
  simp only [Prod.mk.injEq, GStore.mk.injEq, h, and_self]
theorem K34_34 : K_store_Check O34 := fun p0 r h => cM (x := p0) inj34 h
def a35 (x : Int × Int × Int) : List D × aA := ([.v (.i .i64 x.1), .v (.i .i64 x.2.1), .v (.i .i64 x.2.2)], [])
noncomputable def O35 : ak := ak.addF O34 55 a35 (fun x => rostrumref_In x.1 x.2.1 x.2.2) (fun _ (r : Bool) => (.v (.b r), []))
set_option maxRecDepth 100000 in
theorem O35_sound : cE Try.prog O35 := cA O34_sound (fun x r h => cL (ν := n55) (cz O34_sound) Try.func55 (by kernel_rfl) mixed (by kernel_rfl) (Nat.le_of_ble_eq_true (by kernel_rfl)) (r_rostrumref_In O34 x.1 x.2.1 x.2.2 r h))
theorem inj35 : ∀ x y, a35 x = a35 y → x = y := by
  rintro ⟨ua1, ua2, ua3⟩ ⟨ub1, ub2, ub3⟩ h
  simp only [a35, Prod.mk.injEq, List.cons.injEq, D.v.injEq, D.own.injEq, D.agg.injEq, D.rp.injEq, D.clo.injEq, D.ptr.injEq, V.i.injEq, V.s.injEq, V.b.injEq, V.sl.injEq, cw, cv, cu, GLog.map_inj, GCommand.map_inj, GCall.map_inj, GItem.map_inj, GValue.map_inj, GStore.map_inj, GMachine.map_inj, GSnap.map_inj, Gwriter.map_inj, GPair.map_inj, GScore.map_inj, GEntry.map_inj, Greader.map_inj, Gscan.map_inj, GReply.map_inj, GClient.map_inj, true_and, and_true] at h
  simp only [Prod.mk.injEq, h, and_self]
theorem K35_35 : K_rostrumref_In O35 := fun p0 p1 p2 r h => cM (x := (p0, p1, p2)) inj35 h
def a36 (x : ByteArray) : List D × aA := ([.v (.s x)], [])
noncomputable def O36 : ak := ak.addF O35 81 a36 (fun x => rostrumref_fieldMay x) (fun _ (r : Bool) => (.v (.b r), []))
set_option maxRecDepth 100000 in
theorem O36_sound : cE Try.prog O36 := cA O35_sound (fun x r h => cL (ν := n81) (cz O35_sound) Try.func81 (by kernel_rfl) mixed (by kernel_rfl) (Nat.le_of_ble_eq_true (by kernel_rfl)) (r_rostrumref_fieldMay O35 K35_35 x r h))
theorem inj36 : ∀ x y, a36 x = a36 y → x = y := by
  rintro ua1 ub1 h
  simp only [a36, Prod.mk.injEq, List.cons.injEq, D.v.injEq, D.own.injEq, D.agg.injEq, D.rp.injEq, D.clo.injEq, D.ptr.injEq, V.i.injEq, V.s.injEq, V.b.injEq, V.sl.injEq, cw, cv, cu, GLog.map_inj, GCommand.map_inj, GCall.map_inj, GItem.map_inj, GValue.map_inj, GStore.map_inj, GMachine.map_inj, GSnap.map_inj, Gwriter.map_inj, GPair.map_inj, GScore.map_inj, GEntry.map_inj, Greader.map_inj, Gscan.map_inj, GReply.map_inj, GClient.map_inj, true_and, and_true] at h
  exact h
theorem K36_36 : K_rostrumref_fieldMay O36 := fun p0 r h => cM (x := p0) inj36 h
def a37 (x : GValue) : List D × aA := ([.agg [.v (.i .i64 x.fKind), .v (.s x.fText), .v (.i .i64 x.fCount), .v (.sl 2 (ab GPair.row x.fPairs)), .v (.sl 1 (ab aY x.fItems)), .v (.sl 2 (ab GScore.row x.fScores))]], [])
noncomputable def O37 : ak := ak.addF O36 79 a37 (fun x => rostrumref_sizeOf x) (fun _ (r : Int) => (.v (.i .i64 r), []))
set_option maxRecDepth 100000 in
theorem O37_sound : cE Try.prog O37 := cA O36_sound (fun x r h => cL (ν := n79) (cz O36_sound) Try.func79 (by kernel_rfl) mixed (by kernel_rfl) (Nat.le_of_ble_eq_true (by kernel_rfl)) (r_rostrumref_sizeOf O36 x r h))
theorem inj37 : ∀ x y, a37 x = a37 y → x = y := by
  rintro ⟨ua1, ua2, ua3, ua4, ua5, ua6⟩ ⟨ub1, ub2, ub3, ub4, ub5, ub6⟩ h
  simp only [a37, Prod.mk.injEq, List.cons.injEq, D.v.injEq, D.own.injEq, D.agg.injEq, D.rp.injEq, D.clo.injEq, D.ptr.injEq, V.i.injEq, V.s.injEq, V.b.injEq, V.sl.injEq, cw, cv, cu, GLog.map_inj, GCommand.map_inj, GCall.map_inj, GItem.map_inj, GValue.map_inj, GStore.map_inj, GMachine.map_inj, GSnap.map_inj, Gwriter.map_inj, GPair.map_inj, GScore.map_inj, GEntry.map_inj, Greader.map_inj, Gscan.map_inj, GReply.map_inj, GClient.map_inj, true_and, and_true] at h
  simp only [Prod.mk.injEq, GValue.mk.injEq, h, and_self]
theorem K37_37 : K_rostrumref_sizeOf O37 := fun p0 r h => cM (x := p0) inj37 h
def a38 (x : ByteArray) : List D × aA := ([.v (.s x)], [])
noncomputable def O38 : ak := ak.addF O37 80 a38 (fun x => rostrumref_textMay x) (fun _ (r : Bool) => (.v (.b r), []))
set_option maxRecDepth 100000 in
theorem O38_sound : cE Try.prog O38 := cA O37_sound (fun x r h => cL (ν := n80) (cz O37_sound) Try.func80 (by kernel_rfl) mixed (by kernel_rfl) (Nat.le_of_ble_eq_true (by kernel_rfl)) (r_rostrumref_textMay O37 x r h))
theorem inj38 : ∀ x y, a38 x = a38 y → x = y := by
  rintro ua1 ub1 h
  simp only [a38, Prod.mk.injEq, List.cons.injEq, D.v.injEq, D.own.injEq, D.agg.injEq, D.rp.injEq, D.clo.injEq, D.ptr.injEq, V.i.injEq, V.s.injEq, V.b.injEq, V.sl.injEq, cw, cv, cu, GLog.map_inj, GCommand.map_inj, GCall.map_inj, GItem.map_inj, GValue.map_inj, GStore.map_inj, GMachine.map_inj, GSnap.map_inj, Gwriter.map_inj, GPair.map_inj, GScore.map_inj, GEntry.map_inj, Greader.map_inj, Gscan.map_inj, GReply.map_inj, GClient.map_inj, true_and, and_true] at h
  exact h
theorem K38_38 : K_rostrumref_textMay O38 := fun p0 r h => cM (x := p0) inj38 h
theorem K35_36 : K_rostrumref_In O36 := fun p0 p1 p2 r h => (aV (by decide) _ _).trans (K35_35 p0 p1 p2 r h)
theorem K35_37 : K_rostrumref_In O37 := fun p0 p1 p2 r h => (aV (by decide) _ _).trans (K35_36 p0 p1 p2 r h)
theorem K35_38 : K_rostrumref_In O38 := fun p0 p1 p2 r h => (aV (by decide) _ _).trans (K35_37 p0 p1 p2 r h)
def a39 (x : Int) : List D × aA := ([.v (.i .i64 x)], [])
noncomputable def O39 : ak := ak.addF O38 82 a39 (fun x => rostrumref_countMay x) (fun _ (r : Bool) => (.v (.b r), []))
set_option maxRecDepth 100000 in
theorem O39_sound : cE Try.prog O39 := cA O38_sound (fun x r h => cL (ν := n82) (cz O38_sound) Try.func82 (by kernel_rfl) mixed (by kernel_rfl) (Nat.le_of_ble_eq_true (by kernel_rfl)) (r_rostrumref_countMay O38 K35_38 x r h))
theorem inj39 : ∀ x y, a39 x = a39 y → x = y := by
  rintro ua1 ub1 h
  simp only [a39, Prod.mk.injEq, List.cons.injEq, D.v.injEq, D.own.injEq, D.agg.injEq, D.rp.injEq, D.clo.injEq, D.ptr.injEq, V.i.injEq, V.s.injEq, V.b.injEq, V.sl.injEq, cw, cv, cu, GLog.map_inj, GCommand.map_inj, GCall.map_inj, GItem.map_inj, GValue.map_inj, GStore.map_inj, GMachine.map_inj, GSnap.map_inj, Gwriter.map_inj, GPair.map_inj, GScore.map_inj, GEntry.map_inj, Greader.map_inj, Gscan.map_inj, GReply.map_inj, GClient.map_inj, true_and, and_true] at h
  exact h
theorem K39_39 : K_rostrumref_countMay O39 := fun p0 r h => cM (x := p0) inj39 h
def a40 (x : GScore × GScore) : List D × aA := ([.agg [.v (.s x.1.fMember), .v (.i .i64 x.1.fN)], .agg [.v (.s x.2.fMember), .v (.i .i64 x.2.fN)]], [])
noncomputable def O40 : ak := ak.addF O39 83 a40 (fun x => rostrumref_scoreAhead x.1 x.2) (fun _ (r : Bool) => (.v (.b r), []))
set_option maxRecDepth 100000 in
theorem O40_sound : cE Try.prog O40 := cA O39_sound (fun x r h => cL (ν := n83) (cz O39_sound) Try.func83 (by kernel_rfl) mixed (by kernel_rfl) (Nat.le_of_ble_eq_true (by kernel_rfl)) (r_rostrumref_scoreAhead O39 x.1 x.2 r h))
theorem inj40 : ∀ x y, a40 x = a40 y → x = y := by
  rintro ⟨⟨ua1, ua2⟩, ⟨ua3, ua4⟩⟩ ⟨⟨ub1, ub2⟩, ⟨ub3, ub4⟩⟩ h
  simp only [a40, Prod.mk.injEq, List.cons.injEq, D.v.injEq, D.own.injEq, D.agg.injEq, D.rp.injEq, D.clo.injEq, D.ptr.injEq, V.i.injEq, V.s.injEq, V.b.injEq, V.sl.injEq, cw, cv, cu, GLog.map_inj, GCommand.map_inj, GCall.map_inj, GItem.map_inj, GValue.map_inj, GStore.map_inj, GMachine.map_inj, GSnap.map_inj, Gwriter.map_inj, GPair.map_inj, GScore.map_inj, GEntry.map_inj, Greader.map_inj, Gscan.map_inj, GReply.map_inj, GClient.map_inj, true_and, and_true] at h
  simp only [Prod.mk.injEq, GScore.mk.injEq, h, and_self]
theorem K40_40 : K_rostrumref_scoreAhead O40 := fun p0 p1 r h => cM (x := (p0, p1)) inj40 h
def a41 (x : (List GScore) × ByteArray) : List D × aA := ([.v (.sl 2 (ab GScore.row x.1)), .v (.s x.2)], [])
noncomputable def O41 : ak := ak.addF O40 84 a41 (fun x => rostrumref_memberAt x.1 x.2) (fun _ (r : Int) => (.v (.i .i64 r), []))
set_option maxRecDepth 100000 in
theorem O41_sound : cE Try.prog O41 := cA O40_sound (fun x r h => cL (ν := n84) (cz O40_sound) Try.func84 (by kernel_rfl) mixed (by kernel_rfl) (Nat.le_of_ble_eq_true (by kernel_rfl)) (r_rostrumref_memberAt O40 x.1 x.2 r h))
theorem inj41 : ∀ x y, a41 x = a41 y → x = y := by
  rintro ⟨ua1, ua2⟩ ⟨ub1, ub2⟩ h
  simp only [a41, Prod.mk.injEq, List.cons.injEq, D.v.injEq, D.own.injEq, D.agg.injEq, D.rp.injEq, D.clo.injEq, D.ptr.injEq, V.i.injEq, V.s.injEq, V.b.injEq, V.sl.injEq, cw, cv, cu, GLog.map_inj, GCommand.map_inj, GCall.map_inj, GItem.map_inj, GValue.map_inj, GStore.map_inj, GMachine.map_inj, GSnap.map_inj, Gwriter.map_inj, GPair.map_inj, GScore.map_inj, GEntry.map_inj, Greader.map_inj, Gscan.map_inj, GReply.map_inj, GClient.map_inj, true_and, and_true] at h
  simp only [Prod.mk.injEq, h, and_self]
theorem K41_41 : K_rostrumref_memberAt O41 := fun p0 p1 r h => cM (x := (p0, p1)) inj41 h
theorem K35_39 : K_rostrumref_In O39 := fun p0 p1 p2 r h => (aV (by decide) _ _).trans (K35_38 p0 p1 p2 r h)
theorem K35_40 : K_rostrumref_In O40 := fun p0 p1 p2 r h => (aV (by decide) _ _).trans (K35_39 p0 p1 p2 r h)
theorem K35_41 : K_rostrumref_In O41 := fun p0 p1 p2 r h => (aV (by decide) _ _).trans (K35_40 p0 p1 p2 r h)
theorem K37_38 : K_rostrumref_sizeOf O38 := fun p0 r h => (aV (by decide) _ _).trans (K37_37 p0 r h)
theorem K37_39 : K_rostrumref_sizeOf O39 := fun p0 r h => (aV (by decide) _ _).trans (K37_38 p0 r h)
theorem K37_40 : K_rostrumref_sizeOf O40 := fun p0 r h => (aV (by decide) _ _).trans (K37_39 p0 r h)
theorem K37_41 : K_rostrumref_sizeOf O41 := fun p0 r h => (aV (by decide) _ _).trans (K37_40 p0 r h)
theorem K38_39 : K_rostrumref_textMay O39 := fun p0 r h => (aV (by decide) _ _).trans (K38_38 p0 r h)
theorem K38_40 : K_rostrumref_textMay O40 := fun p0 r h => (aV (by decide) _ _).trans (K38_39 p0 r h)
theorem K38_41 : K_rostrumref_textMay O41 := fun p0 r h => (aV (by decide) _ _).trans (K38_40 p0 r h)
theorem K39_40 : K_rostrumref_countMay O40 := fun p0 r h => (aV (by decide) _ _).trans (K39_39 p0 r h)
theorem K39_41 : K_rostrumref_countMay O41 := fun p0 r h => (aV (by decide) _ _).trans (K39_40 p0 r h)
theorem K36_37 : K_rostrumref_fieldMay O37 := fun p0 r h => (aV (by decide) _ _).trans (K36_36 p0 r h)
theorem K36_38 : K_rostrumref_fieldMay O38 := fun p0 r h => (aV (by decide) _ _).trans (K36_37 p0 r h)
theorem K36_39 : K_rostrumref_fieldMay O39 := fun p0 r h => (aV (by decide) _ _).trans (K36_38 p0 r h)
theorem K36_40 : K_rostrumref_fieldMay O40 := fun p0 r h => (aV (by decide) _ _).trans (K36_39 p0 r h)
theorem K36_41 : K_rostrumref_fieldMay O41 := fun p0 r h => (aV (by decide) _ _).trans (K36_40 p0 r h)
theorem K40_41 : K_rostrumref_scoreAhead O41 := fun p0 p1 r h => (aV (by decide) _ _).trans (K40_40 p0 p1 r h)
def a42 (x : GValue) : List D × aA := ([.agg [.v (.i .i64 x.fKind), .v (.s x.fText), .v (.i .i64 x.fCount), .v (.sl 2 (ab GPair.row x.fPairs)), .v (.sl 1 (ab aY x.fItems)), .v (.sl 2 (ab GScore.row x.fScores))]], [])
noncomputable def O42 : ak := ak.addF O41 30 a42 (fun x => rostrumref_ValueFault x) (fun _ (r : Int) => (.v (.i .i64 r), []))
set_option maxRecDepth 100000 in
theorem O42_sound : cE Try.prog O42 := cA O41_sound (fun x r h => cL (ν := n30) (cz O41_sound) Try.func30 (by kernel_rfl) mixed (by kernel_rfl) (Nat.le_of_ble_eq_true (by kernel_rfl)) (r_rostrumref_ValueFault O41 K35_41 K37_41 K38_41 K39_41 K36_41 K40_41 K41_41 x r h))
theorem inj42 : ∀ x y, a42 x = a42 y → x = y := by
  rintro ⟨ua1, ua2, ua3, ua4, ua5, ua6⟩ ⟨ub1, ub2, ub3, ub4, ub5, ub6⟩ h
  simp only [a42, Prod.mk.injEq, List.cons.injEq, D.v.injEq, D.own.injEq, D.agg.injEq, D.rp.injEq, D.clo.injEq, D.ptr.injEq, V.i.injEq, V.s.injEq, V.b.injEq, V.sl.injEq, cw, cv, cu, GLog.map_inj, GCommand.map_inj, GCall.map_inj, GItem.map_inj, GValue.map_inj, GStore.map_inj, GMachine.map_inj, GSnap.map_inj, Gwriter.map_inj, GPair.map_inj, GScore.map_inj, GEntry.map_inj, Greader.map_inj, Gscan.map_inj, GReply.map_inj, GClient.map_inj, true_and, and_true] at h
  simp only [Prod.mk.injEq, GValue.mk.injEq, h, and_self]
theorem K42_42 : K_rostrumref_ValueFault O42 := fun p0 r h => cM (x := p0) inj42 h
theorem K35_42 : K_rostrumref_In O42 := fun p0 p1 p2 r h => (aV (by decide) _ _).trans (K35_41 p0 p1 p2 r h)
theorem K36_42 : K_rostrumref_fieldMay O42 := fun p0 r h => (aV (by decide) _ _).trans (K36_41 p0 r h)
def a43 (x : GStore) : List D × aA := ([.agg [.v (.i .i64 x.fNow), .v (.sl 8 (ab GEntry.row x.fEntries))]], [])
noncomputable def O43 : ak := ak.addF O42 36 a43 (fun x => rostrumref_StoreFault x) (fun _ (r : Int) => (.v (.i .i64 r), []))
set_option maxRecDepth 100000 in
theorem O43_sound : cE Try.prog O43 := cA O42_sound (fun x r h => cL (ν := n36) (cz O42_sound) Try.func36 (by kernel_rfl) mixed (by kernel_rfl) (Nat.le_of_ble_eq_true (by kernel_rfl)) (r_rostrumref_StoreFault O42 K35_42 K36_42 K42_42 x r h))
theorem inj43 : ∀ x y, a43 x = a43 y → x = y := by
  rintro ⟨ua1, ua2⟩ ⟨ub1, ub2⟩ h
  simp only [a43, Prod.mk.injEq, List.cons.injEq, D.v.injEq, D.own.injEq, D.agg.injEq, D.rp.injEq, D.clo.injEq, D.ptr.injEq, V.i.injEq, V.s.injEq, V.b.injEq, V.sl.injEq, cw, cv, cu, GLog.map_inj, GCommand.map_inj, GCall.map_inj, GItem.map_inj, GValue.map_inj, GStore.map_inj, GMachine.map_inj, GSnap.map_inj, Gwriter.map_inj, GPair.map_inj, GScore.map_inj, GEntry.map_inj, Greader.map_inj, Gscan.map_inj, GReply.map_inj, GClient.map_inj, true_and, and_true] at h
  simp only [Prod.mk.injEq, GStore.mk.injEq, h, and_self]
theorem K43_43 : K_rostrumref_StoreFault O43 := fun p0 r h => cM (x := p0) inj43 h
theorem K2_3 : K_rostrumref_StoreCopy_z O3 := fun p0 r h => (aV (by decide) _ _).trans (K2_2 p0 r h)
theorem K2_4 : K_rostrumref_StoreCopy_z O4 := fun p0 r h => (aV (by decide) _ _).trans (K2_3 p0 r h)
theorem K2_5 : K_rostrumref_StoreCopy_z O5 := fun p0 r h => (aV (by decide) _ _).trans (K2_4 p0 r h)
theorem K2_6 : K_rostrumref_StoreCopy_z O6 := fun p0 r h => (aV (by decide) _ _).trans (K2_5 p0 r h)
theorem K2_7 : K_rostrumref_StoreCopy_z O7 := fun p0 r h => (aV (by decide) _ _).trans (K2_6 p0 r h)
theorem K2_8 : K_rostrumref_StoreCopy_z O8 := fun p0 r h => (aV (by decide) _ _).trans (K2_7 p0 r h)
theorem K2_9 : K_rostrumref_StoreCopy_z O9 := fun p0 r h => (aV (by decide) _ _).trans (K2_8 p0 r h)
theorem K2_10 : K_rostrumref_StoreCopy_z O10 := fun p0 r h => (aV (by decide) _ _).trans (K2_9 p0 r h)
theorem K2_11 : K_rostrumref_StoreCopy_z O11 := fun p0 r h => (aV (by decide) _ _).trans (K2_10 p0 r h)
theorem K2_12 : K_rostrumref_StoreCopy_z O12 := fun p0 r h => (aV (by decide) _ _).trans (K2_11 p0 r h)
theorem K2_13 : K_rostrumref_StoreCopy_z O13 := fun p0 r h => (aV (by decide) _ _).trans (K2_12 p0 r h)
theorem K2_14 : K_rostrumref_StoreCopy_z O14 := fun p0 r h => (aV (by decide) _ _).trans (K2_13 p0 r h)
theorem K2_15 : K_rostrumref_StoreCopy_z O15 := fun p0 r h => (aV (by decide) _ _).trans (K2_14 p0 r h)
theorem K2_16 : K_rostrumref_StoreCopy_z O16 := fun p0 r h => (aV (by decide) _ _).trans (K2_15 p0 r h)
theorem K2_17 : K_rostrumref_StoreCopy_z O17 := fun p0 r h => (aV (by decide) _ _).trans (K2_16 p0 r h)
theorem K2_18 : K_rostrumref_StoreCopy_z O18 := fun p0 r h => (aV (by decide) _ _).trans (K2_17 p0 r h)
theorem K2_19 : K_rostrumref_StoreCopy_z O19 := fun p0 r h => (aV (by decide) _ _).trans (K2_18 p0 r h)
theorem K2_20 : K_rostrumref_StoreCopy_z O20 := fun p0 r h => (aV (by decide) _ _).trans (K2_19 p0 r h)
theorem K2_21 : K_rostrumref_StoreCopy_z O21 := fun p0 r h => (aV (by decide) _ _).trans (K2_20 p0 r h)
theorem K2_22 : K_rostrumref_StoreCopy_z O22 := fun p0 r h => (aV (by decide) _ _).trans (K2_21 p0 r h)
theorem K2_23 : K_rostrumref_StoreCopy_z O23 := fun p0 r h => (aV (by decide) _ _).trans (K2_22 p0 r h)
theorem K2_24 : K_rostrumref_StoreCopy_z O24 := fun p0 r h => (aV (by decide) _ _).trans (K2_23 p0 r h)
theorem K2_25 : K_rostrumref_StoreCopy_z O25 := fun p0 r h => (aV (by decide) _ _).trans (K2_24 p0 r h)
theorem K2_26 : K_rostrumref_StoreCopy_z O26 := fun p0 r h => (aV (by decide) _ _).trans (K2_25 p0 r h)
theorem K2_27 : K_rostrumref_StoreCopy_z O27 := fun p0 r h => (aV (by decide) _ _).trans (K2_26 p0 r h)
theorem K2_28 : K_rostrumref_StoreCopy_z O28 := fun p0 r h => (aV (by decide) _ _).trans (K2_27 p0 r h)
theorem K2_29 : K_rostrumref_StoreCopy_z O29 := fun p0 r h => (aV (by decide) _ _).trans (K2_28 p0 r h)
theorem K2_30 : K_rostrumref_StoreCopy_z O30 := fun p0 r h => (aV (by decide) _ _).trans (K2_29 p0 r h)
theorem K2_31 : K_rostrumref_StoreCopy_z O31 := fun p0 r h => (aV (by decide) _ _).trans (K2_30 p0 r h)
theorem K2_32 : K_rostrumref_StoreCopy_z O32 := fun p0 r h => (aV (by decide) _ _).trans (K2_31 p0 r h)
theorem K2_33 : K_rostrumref_StoreCopy_z O33 := fun p0 r h => (aV (by decide) _ _).trans (K2_32 p0 r h)
theorem K2_34 : K_rostrumref_StoreCopy_z O34 := fun p0 r h => (aV (by decide) _ _).trans (K2_33 p0 r h)
theorem K2_35 : K_rostrumref_StoreCopy_z O35 := fun p0 r h => (aV (by decide) _ _).trans (K2_34 p0 r h)
theorem K2_36 : K_rostrumref_StoreCopy_z O36 := fun p0 r h => (aV (by decide) _ _).trans (K2_35 p0 r h)
theorem K2_37 : K_rostrumref_StoreCopy_z O37 := fun p0 r h => (aV (by decide) _ _).trans (K2_36 p0 r h)
theorem K2_38 : K_rostrumref_StoreCopy_z O38 := fun p0 r h => (aV (by decide) _ _).trans (K2_37 p0 r h)
theorem K2_39 : K_rostrumref_StoreCopy_z O39 := fun p0 r h => (aV (by decide) _ _).trans (K2_38 p0 r h)
theorem K2_40 : K_rostrumref_StoreCopy_z O40 := fun p0 r h => (aV (by decide) _ _).trans (K2_39 p0 r h)
theorem K2_41 : K_rostrumref_StoreCopy_z O41 := fun p0 r h => (aV (by decide) _ _).trans (K2_40 p0 r h)
theorem K2_42 : K_rostrumref_StoreCopy_z O42 := fun p0 r h => (aV (by decide) _ _).trans (K2_41 p0 r h)
theorem K2_43 : K_rostrumref_StoreCopy_z O43 := fun p0 r h => (aV (by decide) _ _).trans (K2_42 p0 r h)
theorem K34_35 : K_store_Check O35 := fun p0 r h => (aV (by decide) _ _).trans (K34_34 p0 r h)
theorem K34_36 : K_store_Check O36 := fun p0 r h => (aV (by decide) _ _).trans (K34_35 p0 r h)
theorem K34_37 : K_store_Check O37 := fun p0 r h => (aV (by decide) _ _).trans (K34_36 p0 r h)
theorem K34_38 : K_store_Check O38 := fun p0 r h => (aV (by decide) _ _).trans (K34_37 p0 r h)
theorem K34_39 : K_store_Check O39 := fun p0 r h => (aV (by decide) _ _).trans (K34_38 p0 r h)
theorem K34_40 : K_store_Check O40 := fun p0 r h => (aV (by decide) _ _).trans (K34_39 p0 r h)
theorem K34_41 : K_store_Check O41 := fun p0 r h => (aV (by decide) _ _).trans (K34_40 p0 r h)
theorem K34_42 : K_store_Check O42 := fun p0 r h => (aV (by decide) _ _).trans (K34_41 p0 r h)
theorem K34_43 : K_store_Check O43 := fun p0 r h => (aV (by decide) _ _).trans (K34_42 p0 r h)
set_option maxRecDepth 100000 in
theorem sem (rs : List (List V)) (h : HasAll Try.prog [63] rs) : Mx.Sem Try.prog 10 (argsD Try.prog [63] rs) [] (.v (.b true)) [] := by
  obtain ⟨r0, _, rfl, a0, b0⟩ := HasAll.cons h
  obtain rfl := HasAll.nil b0
  obtain ⟨x0, rfl, o0⟩ := GStore.of63 a0
  simp only [argsD, argD_struct Try.underlying63]
  exact cL (ν := n10) (cz O43_sound) Try.func10 (by kernel_rfl) mixed (by kernel_rfl) (Nat.le_of_ble_eq_true (by kernel_rfl)) (r_rostrumlaw_StoreChecks O43 K2_43 K34_43 K43_43 x0 true (StoreChecks_pure x0 o0))
end CStoreChecks
end Go.Proofs.Ytnjkmbogbfjffaa
