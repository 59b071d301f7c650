/- The chain of contracts of the law ValueChecks, over the functions that it reaches. -/
import Derived.Test.YtnjkmbogbfjffaaValueChecksZa
import Derived.Test.YtnjkmbogbfjffaaValueChecksZb
import Derived.Test.YtnjkmbogbfjffaaValueChecksZc
import Derived.Test.YtnjkmbogbfjffaaValueChecksD
import Derived.Test.YtnjkmbogbfjffaaValueChecksP
set_option linter.unusedSimpArgs false
set_option linter.unusedVariables false
set_option linter.constructorNameAsVariable false
set_option linter.unnecessarySimpa false
namespace Go.Proofs.Ytnjkmbogbfjffaa
open Go Go.Mx Go.Proofs
namespace CValueChecks
theorem argD_slice {P : Program} {t e : TypeId} {x : V} (hu : P.underlying t = some (.slice e)) : argD P t [x] = .v x := by simp only [argD, hu]
theorem argD_str {P : Program} {t : TypeId} {x : V} (hu : P.underlying t = some .string) : argD P t [x] = .v x := by simp only [argD, hu]
def a1 (x : GValue) : List D × aA := ([.agg [.v (.i .i64 x.fKind), .v (.s x.fText), .v (.i .i64 x.fCount), .v (.sl 2 (ab GPair.row x.fPairs)), .v (.sl 1 (ab aY x.fItems)), .v (.sl 2 (ab GScore.row x.fScores))]], [])
noncomputable def O1 : ak := ak.addF noC 29 a1 (fun x => rostrumref_ValueCopy_z x) (fun _ (r : GValue) => (.agg [.v (.i .i64 r.fKind), .v (.s r.fText), .v (.i .i64 r.fCount), .v (.sl 2 (ab GPair.row r.fPairs)), .v (.sl 1 (ab aY r.fItems)), .v (.sl 2 (ab GScore.row r.fScores))], []))
set_option maxRecDepth 100000 in
theorem O1_sound : cE Try.prog O1 := cA (noC_sound _) (fun x r h => by
  obtain ⟨d, S, h1, h2, h3⟩ := r_rostrumref_ValueCopy_z noC x r h
  have h4 := Mx.Sem.frozen (cL (ν := n29) (cz (noC_sound _)) Try.func29 (by kernel_rfl) mixed (by kernel_rfl) (Nat.le_of_ble_eq_true (by kernel_rfl)) h1) h2
  obtain ⟨e1, e2⟩ := Prod.mk.inj h3
  rw [e1] at h4; rw [e2] at h4; exact h4)
theorem inj1 : ∀ x y, a1 x = a1 y → x = y := by
  rintro ⟨ua1, ua2, ua3, ua4, ua5, ua6⟩ ⟨ub1, ub2, ub3, ub4, ub5, ub6⟩ h
  simp only [a1, Prod.mk.injEq, List.cons.injEq, D.v.injEq, D.own.injEq, D.agg.injEq, D.rp.injEq, D.clo.injEq, D.ptr.injEq, V.i.injEq, V.s.injEq, V.b.injEq, V.sl.injEq, cw, cv, cu, GLog.map_inj, GCommand.map_inj, GCall.map_inj, GItem.map_inj, GValue.map_inj, GStore.map_inj, GMachine.map_inj, GSnap.map_inj, Gwriter.map_inj, GPair.map_inj, GScore.map_inj, GEntry.map_inj, Greader.map_inj, Gscan.map_inj, GReply.map_inj, GClient.map_inj, true_and, and_true] at h
  simp only [Prod.mk.injEq, GValue.mk.injEq, h, and_self]
theorem K1_1 : K_rostrumref_ValueCopy_z O1 := fun p0 r h => cM (x := p0) inj1 h
def a2 (x : GValue) : List D × aA := ([.agg [.v (.i .i64 x.fKind), .v (.s x.fText), .v (.i .i64 x.fCount), .v (.sl 2 (ab GPair.row x.fPairs)), .v (.sl 1 (ab aY x.fItems)), .v (.sl 2 (ab GScore.row x.fScores))]], [])
noncomputable def O2 : ak := ak.addF O1 61 a2 (fun x => value_elements x) (fun _ (r : Int) => (.v (.i .i64 r), []))
set_option maxRecDepth 100000 in
theorem O2_sound : cE Try.prog O2 := cA O1_sound (fun x r h => cL (ν := n61) (cz O1_sound) Try.func61 (by kernel_rfl) mixed (by kernel_rfl) (Nat.le_of_ble_eq_true (by kernel_rfl)) (r_value_elements O1 x r h))
theorem inj2 : ∀ x y, a2 x = a2 y → x = y := by
  rintro ⟨ua1, ua2, ua3, ua4, ua5, ua6⟩ ⟨ub1, ub2, ub3, ub4, ub5, ub6⟩ h
  simp only [a2, Prod.mk.injEq, List.cons.injEq, D.v.injEq, D.own.injEq, D.agg.injEq, D.rp.injEq, D.clo.injEq, D.ptr.injEq, V.i.injEq, V.s.injEq, V.b.injEq, V.sl.injEq, cw, cv, cu, GLog.map_inj, GCommand.map_inj, GCall.map_inj, GItem.map_inj, GValue.map_inj, GStore.map_inj, GMachine.map_inj, GSnap.map_inj, Gwriter.map_inj, GPair.map_inj, GScore.map_inj, GEntry.map_inj, Greader.map_inj, Gscan.map_inj, GReply.map_inj, GClient.map_inj, true_and, and_true] at h
  simp only [Prod.mk.injEq, GValue.mk.injEq, h, and_self]
theorem K2_2 : K_value_elements O2 := fun p0 r h => cM (x := p0) inj2 h
def a3 (x : ByteArray) : List D × aA := ([.v (.s x)], [])
noncomputable def O3 : ak := ak.addF O2 62 a3 (fun x => value_text x) (fun _ (r : Bool) => (.v (.b r), []))
set_option maxRecDepth 100000 in
theorem O3_sound : cE Try.prog O3 := cA O2_sound (fun x r h => cL (ν := n62) (cz O2_sound) Try.func62 (by kernel_rfl) mixed (by kernel_rfl) (Nat.le_of_ble_eq_true (by kernel_rfl)) (r_value_text O2 x r h))
theorem inj3 : ∀ x y, a3 x = a3 y → x = y := by
  rintro ua1 ub1 h
  simp only [a3, Prod.mk.injEq, List.cons.injEq, D.v.injEq, D.own.injEq, D.agg.injEq, D.rp.injEq, D.clo.injEq, D.ptr.injEq, V.i.injEq, V.s.injEq, V.b.injEq, V.sl.injEq, cw, cv, cu, GLog.map_inj, GCommand.map_inj, GCall.map_inj, GItem.map_inj, GValue.map_inj, GStore.map_inj, GMachine.map_inj, GSnap.map_inj, Gwriter.map_inj, GPair.map_inj, GScore.map_inj, GEntry.map_inj, Greader.map_inj, Gscan.map_inj, GReply.map_inj, GClient.map_inj, true_and, and_true] at h
  exact h
theorem K3_3 : K_value_text O3 := fun p0 r h => cM (x := p0) inj3 h
def a4 (x : ByteArray) : List D × aA := ([.v (.s x)], [])
noncomputable def O4 : ak := ak.addF O3 64 a4 (fun x => value_Check_fn1 x) (fun _ (r : Bool) => (.v (.b r), []))
set_option maxRecDepth 100000 in
theorem O4_sound : cE Try.prog O4 := cA O3_sound (fun x r h => cL (ν := n64) (cz O3_sound) Try.func64 (by kernel_rfl) mixed (by kernel_rfl) (Nat.le_of_ble_eq_true (by kernel_rfl)) (r_value_Check_fn1 O3 K3_3 x r h))
theorem inj4 : ∀ x y, a4 x = a4 y → x = y := by
  rintro ua1 ub1 h
  simp only [a4, Prod.mk.injEq, List.cons.injEq, D.v.injEq, D.own.injEq, D.agg.injEq, D.rp.injEq, D.clo.injEq, D.ptr.injEq, V.i.injEq, V.s.injEq, V.b.injEq, V.sl.injEq, cw, cv, cu, GLog.map_inj, GCommand.map_inj, GCall.map_inj, GItem.map_inj, GValue.map_inj, GStore.map_inj, GMachine.map_inj, GSnap.map_inj, Gwriter.map_inj, GPair.map_inj, GScore.map_inj, GEntry.map_inj, Greader.map_inj, Gscan.map_inj, GReply.map_inj, GClient.map_inj, true_and, and_true] at h
  exact h
theorem K4_4 : K_value_Check_fn1 O4 := fun p0 r h => cM (x := p0) inj4 h
def a5 (x : (List ByteArray)) : List D × aA := ([.v (.sl 1 (ab aY x)), .clo 64 []], [])
noncomputable def O5 : ak := ak.addF O4 108 a5 (fun x => slices_IndexFunc_string_string_value_Check_fn1 x) (fun _ (r : Int) => (.v (.i .i64 r), []))
set_option maxRecDepth 100000 in
theorem O5_sound : cE Try.prog O5 := cA O4_sound (fun x r h => cL (ν := n108) (cz O4_sound) Try.func108 (by kernel_rfl) mixed (by kernel_rfl) (Nat.le_of_ble_eq_true (by kernel_rfl)) (r_slices_IndexFunc_string_string_value_Check_fn1 O4 K4_4 x r h))
theorem inj5 : ∀ x y, a5 x = a5 y → x = y := by
  rintro ua1 ub1 h
  simp only [a5, Prod.mk.injEq, List.cons.injEq, D.v.injEq, D.own.injEq, D.agg.injEq, D.rp.injEq, D.clo.injEq, D.ptr.injEq, V.i.injEq, V.s.injEq, V.b.injEq, V.sl.injEq, cw, cv, cu, GLog.map_inj, GCommand.map_inj, GCall.map_inj, GItem.map_inj, GValue.map_inj, GStore.map_inj, GMachine.map_inj, GSnap.map_inj, Gwriter.map_inj, GPair.map_inj, GScore.map_inj, GEntry.map_inj, Greader.map_inj, Gscan.map_inj, GReply.map_inj, GClient.map_inj, true_and, and_true] at h
  exact h
theorem K5_5 : K_slices_IndexFunc_string_string_value_Check_fn1 O5 := fun p0 r h => cM (x := p0) inj5 h
def a6 (x : (List ByteArray)) : List D × aA := ([.v (.sl 1 (ab aY x)), .clo 64 []], [])
noncomputable def O6 : ak := ak.addF O5 63 a6 (fun x => slices_ContainsFunc_string_string_value_Check_fn1 x) (fun _ (r : Bool) => (.v (.b r), []))
set_option maxRecDepth 100000 in
theorem O6_sound : cE Try.prog O6 := cA O5_sound (fun x r h => cL (ν := n63) (cz O5_sound) Try.func63 (by kernel_rfl) mixed (by kernel_rfl) (Nat.le_of_ble_eq_true (by kernel_rfl)) (r_slices_ContainsFunc_string_string_value_Check_fn1 O5 K5_5 x r h))
theorem inj6 : ∀ x y, a6 x = a6 y → x = y := by
  rintro ua1 ub1 h
  simp only [a6, Prod.mk.injEq, List.cons.injEq, D.v.injEq, D.own.injEq, D.agg.injEq, D.rp.injEq, D.clo.injEq, D.ptr.injEq, V.i.injEq, V.s.injEq, V.b.injEq, V.sl.injEq, cw, cv, cu, GLog.map_inj, GCommand.map_inj, GCall.map_inj, GItem.map_inj, GValue.map_inj, GStore.map_inj, GMachine.map_inj, GSnap.map_inj, Gwriter.map_inj, GPair.map_inj, GScore.map_inj, GEntry.map_inj, Greader.map_inj, Gscan.map_inj, GReply.map_inj, GClient.map_inj, true_and, and_true] at h
  exact h
theorem K6_6 : K_slices_ContainsFunc_string_string_value_Check_fn1 O6 := fun p0 r h => cM (x := p0) inj6 h
def a7 (x : ByteArray) : List D × aA := ([.v (.s x)], [])
noncomputable def O7 : ak := ak.addF O6 67 a7 (fun x => value_field x) (fun _ (r : Bool) => (.v (.b r), []))
set_option maxRecDepth 100000 in
theorem O7_sound : cE Try.prog O7 := cA O6_sound (fun x r h => cL (ν := n67) (cz O6_sound) Try.func67 (by kernel_rfl) mixed (by kernel_rfl) (Nat.le_of_ble_eq_true (by kernel_rfl)) (r_value_field O6 x r h))
theorem inj7 : ∀ x y, a7 x = a7 y → x = y := by
  rintro ua1 ub1 h
  simp only [a7, Prod.mk.injEq, List.cons.injEq, D.v.injEq, D.own.injEq, D.agg.injEq, D.rp.injEq, D.clo.injEq, D.ptr.injEq, V.i.injEq, V.s.injEq, V.b.injEq, V.sl.injEq, cw, cv, cu, GLog.map_inj, GCommand.map_inj, GCall.map_inj, GItem.map_inj, GValue.map_inj, GStore.map_inj, GMachine.map_inj, GSnap.map_inj, Gwriter.map_inj, GPair.map_inj, GScore.map_inj, GEntry.map_inj, Greader.map_inj, Gscan.map_inj, GReply.map_inj, GClient.map_inj, true_and, and_true] at h
  exact h
theorem K7_7 : K_value_field O7 := fun p0 r h => cM (x := p0) inj7 h
theorem K3_4 : K_value_text O4 := fun p0 r h => (aV (by decide) _ _).trans (K3_3 p0 r h)
theorem K3_5 : K_value_text O5 := fun p0 r h => (aV (by decide) _ _).trans (K3_4 p0 r h)
theorem K3_6 : K_value_text O6 := fun p0 r h => (aV (by decide) _ _).trans (K3_5 p0 r h)
theorem K3_7 : K_value_text O7 := fun p0 r h => (aV (by decide) _ _).trans (K3_6 p0 r h)
def a8 (x : GPair) : List D × aA := ([.agg [.v (.s x.fField), .v (.s x.fText)]], [])
noncomputable def O8 : ak := ak.addF O7 66 a8 (fun x => value_Check_fn2 x) (fun _ (r : Bool) => (.v (.b r), []))
set_option maxRecDepth 100000 in
theorem O8_sound : cE Try.prog O8 := cA O7_sound (fun x r h => cL (ν := n66) (cz O7_sound) Try.func66 (by kernel_rfl) mixed (by kernel_rfl) (Nat.le_of_ble_eq_true (by kernel_rfl)) (r_value_Check_fn2 O7 K7_7 K3_7 x r h))
theorem inj8 : ∀ x y, a8 x = a8 y → x = y := by
  rintro ⟨ua1, ua2⟩ ⟨ub1, ub2⟩ h
  simp only [a8, Prod.mk.injEq, List.cons.injEq, D.v.injEq, D.own.injEq, D.agg.injEq, D.rp.injEq, D.clo.injEq, D.ptr.injEq, V.i.injEq, V.s.injEq, V.b.injEq, V.sl.injEq, cw, cv, cu, GLog.map_inj, GCommand.map_inj, GCall.map_inj, GItem.map_inj, GValue.map_inj, GStore.map_inj, GMachine.map_inj, GSnap.map_inj, Gwriter.map_inj, GPair.map_inj, GScore.map_inj, GEntry.map_inj, Greader.map_inj, Gscan.map_inj, GReply.map_inj, GClient.map_inj, true_and, and_true] at h
  simp only [Prod.mk.injEq, GPair.mk.injEq, h, and_self]
theorem K8_8 : K_value_Check_fn2 O8 := fun p0 r h => cM (x := p0) inj8 h
def a9 (x : (List GPair)) : List D × aA := ([.v (.sl 2 (ab GPair.row x)), .clo 66 []], [])
noncomputable def O9 : ak := ak.addF O8 109 a9 (fun x => slices_IndexFunc_Pair_Pair_value_Check_fn2 x) (fun _ (r : Int) => (.v (.i .i64 r), []))
set_option maxRecDepth 100000 in
theorem O9_sound : cE Try.prog O9 := cA O8_sound (fun x r h => cL (ν := n109) (cz O8_sound) Try.func109 (by kernel_rfl) mixed (by kernel_rfl) (Nat.le_of_ble_eq_true (by kernel_rfl)) (r_slices_IndexFunc_Pair_Pair_value_Check_fn2 O8 K8_8 x r h))
theorem inj9 : ∀ x y, a9 x = a9 y → x = y := by
  rintro ua1 ub1 h
  simp only [a9, Prod.mk.injEq, List.cons.injEq, D.v.injEq, D.own.injEq, D.agg.injEq, D.rp.injEq, D.clo.injEq, D.ptr.injEq, V.i.injEq, V.s.injEq, V.b.injEq, V.sl.injEq, cw, cv, cu, GLog.map_inj, GCommand.map_inj, GCall.map_inj, GItem.map_inj, GValue.map_inj, GStore.map_inj, GMachine.map_inj, GSnap.map_inj, Gwriter.map_inj, GPair.map_inj, GScore.map_inj, GEntry.map_inj, Greader.map_inj, Gscan.map_inj, GReply.map_inj, GClient.map_inj, true_and, and_true] at h
  exact h
theorem K9_9 : K_slices_IndexFunc_Pair_Pair_value_Check_fn2 O9 := fun p0 r h => cM (x := p0) inj9 h
def a10 (x : (List GPair)) : List D × aA := ([.v (.sl 2 (ab GPair.row x)), .clo 66 []], [])
noncomputable def O10 : ak := ak.addF O9 65 a10 (fun x => slices_ContainsFunc_Pair_Pair_value_Check_fn2 x) (fun _ (r : Bool) => (.v (.b r), []))
set_option maxRecDepth 100000 in
theorem O10_sound : cE Try.prog O10 := cA O9_sound (fun x r h => cL (ν := n65) (cz O9_sound) Try.func65 (by kernel_rfl) mixed (by kernel_rfl) (Nat.le_of_ble_eq_true (by kernel_rfl)) (r_slices_ContainsFunc_Pair_Pair_value_Check_fn2 O9 K9_9 x r h))
theorem inj10 : ∀ x y, a10 x = a10 y → x = y := by
  rintro ua1 ub1 h
  simp only [a10, Prod.mk.injEq, List.cons.injEq, D.v.injEq, D.own.injEq, D.agg.injEq, D.rp.injEq, D.clo.injEq, D.ptr.injEq, V.i.injEq, V.s.injEq, V.b.injEq, V.sl.injEq, cw, cv, cu, GLog.map_inj, GCommand.map_inj, GCall.map_inj, GItem.map_inj, GValue.map_inj, GStore.map_inj, GMachine.map_inj, GSnap.map_inj, Gwriter.map_inj, GPair.map_inj, GScore.map_inj, GEntry.map_inj, Greader.map_inj, Gscan.map_inj, GReply.map_inj, GClient.map_inj, true_and, and_true] at h
  exact h
theorem K10_10 : K_slices_ContainsFunc_Pair_Pair_value_Check_fn2 O10 := fun p0 r h => cM (x := p0) inj10 h
theorem K3_8 : K_value_text O8 := fun p0 r h => (aV (by decide) _ _).trans (K3_7 p0 r h)
theorem K3_9 : K_value_text O9 := fun p0 r h => (aV (by decide) _ _).trans (K3_8 p0 r h)
theorem K3_10 : K_value_text O10 := fun p0 r h => (aV (by decide) _ _).trans (K3_9 p0 r h)
def a11 (x : GScore) : List D × aA := ([.agg [.v (.s x.fMember), .v (.i .i64 x.fN)]], [])
noncomputable def O11 : ak := ak.addF O10 69 a11 (fun x => value_Check_fn3 x) (fun _ (r : Bool) => (.v (.b r), []))
set_option maxRecDepth 100000 in
theorem O11_sound : cE Try.prog O11 := cA O10_sound (fun x r h => cL (ν := n69) (cz O10_sound) Try.func69 (by kernel_rfl) mixed (by kernel_rfl) (Nat.le_of_ble_eq_true (by kernel_rfl)) (r_value_Check_fn3 O10 K3_10 x r h))
theorem inj11 : ∀ x y, a11 x = a11 y → x = y := by
  rintro ⟨ua1, ua2⟩ ⟨ub1, ub2⟩ h
  simp only [a11, Prod.mk.injEq, List.cons.injEq, D.v.injEq, D.own.injEq, D.agg.injEq, D.rp.injEq, D.clo.injEq, D.ptr.injEq, V.i.injEq, V.s.injEq, V.b.injEq, V.sl.injEq, cw, cv, cu, GLog.map_inj, GCommand.map_inj, GCall.map_inj, GItem.map_inj, GValue.map_inj, GStore.map_inj, GMachine.map_inj, GSnap.map_inj, Gwriter.map_inj, GPair.map_inj, GScore.map_inj, GEntry.map_inj, Greader.map_inj, Gscan.map_inj, GReply.map_inj, GClient.map_inj, true_and, and_true] at h
  simp only [Prod.mk.injEq, GScore.mk.injEq, h, and_self]
theorem K11_11 : K_value_Check_fn3 O11 := fun p0 r h => cM (x := p0) inj11 h
def a12 (x : (List GScore)) : List D × aA := ([.v (.sl 2 (ab GScore.row x)), .clo 69 []], [])
noncomputable def O12 : ak := ak.addF O11 110 a12 (fun x => slices_IndexFunc_Score_Score_value_Check_fn3 x) (fun _ (r : Int) => (.v (.i .i64 r), []))
set_option maxRecDepth 100000 in
theorem O12_sound : cE Try.prog O12 := cA O11_sound (fun x r h => cL (ν := n110) (cz O11_sound) Try.func110 (by kernel_rfl) mixed (by kernel_rfl) (Nat.le_of_ble_eq_true (by kernel_rfl)) (r_slices_IndexFunc_Score_Score_value_Check_fn3 O11 K11_11 x r h))
theorem inj12 : ∀ x y, a12 x = a12 y → x = y := by
  rintro ua1 ub1 h
  simp only [a12, Prod.mk.injEq, List.cons.injEq, D.v.injEq, D.own.injEq, D.agg.injEq, D.rp.injEq, D.clo.injEq, D.ptr.injEq, V.i.injEq, V.s.injEq, V.b.injEq, V.sl.injEq, cw, cv, cu, GLog.map_inj, GCommand.map_inj, GCall.map_inj, GItem.map_inj, GValue.map_inj, GStore.map_inj, GMachine.map_inj, GSnap.map_inj, Gwriter.map_inj, GPair.map_inj, GScore.map_inj, GEntry.map_inj, Greader.map_inj, Gscan.map_inj, GReply.map_inj, GClient.map_inj, true_and, and_true] at h
  exact h
theorem K12_12 : K_slices_IndexFunc_Score_Score_value_Check_fn3 O12 := fun p0 r h => cM (x := p0) inj12 h
def a13 (x : (List GScore)) : List D × aA := ([.v (.sl 2 (ab GScore.row x)), .clo 69 []], [])
noncomputable def O13 : ak := ak.addF O12 68 a13 (fun x => slices_ContainsFunc_Score_Score_value_Check_fn3 x) (fun _ (r : Bool) => (.v (.b r), []))
set_option maxRecDepth 100000 in
theorem O13_sound : cE Try.prog O13 := cA O12_sound (fun x r h => cL (ν := n68) (cz O12_sound) Try.func68 (by kernel_rfl) mixed (by kernel_rfl) (Nat.le_of_ble_eq_true (by kernel_rfl)) (r_slices_ContainsFunc_Score_Score_value_Check_fn3 O12 K12_12 x r h))
theorem inj13 : ∀ x y, a13 x = a13 y → x = y := by
  rintro ua1 ub1 h
  simp only [a13, Prod.mk.injEq, List.cons.injEq, D.v.injEq, D.own.injEq, D.agg.injEq, D.rp.injEq, D.clo.injEq, D.ptr.injEq, V.i.injEq, V.s.injEq, V.b.injEq, V.sl.injEq, cw, cv, cu, GLog.map_inj, GCommand.map_inj, GCall.map_inj, GItem.map_inj, GValue.map_inj, GStore.map_inj, GMachine.map_inj, GSnap.map_inj, Gwriter.map_inj, GPair.map_inj, GScore.map_inj, GEntry.map_inj, Greader.map_inj, Gscan.map_inj, GReply.map_inj, GClient.map_inj, true_and, and_true] at h
  exact h
theorem K13_13 : K_slices_ContainsFunc_Score_Score_value_Check_fn3 O13 := fun p0 r h => cM (x := p0) inj13 h
def a14 (x : Int) : List D × aA := ([.v (.i .i64 x)], [])
noncomputable def O14 : ak := ak.addF O13 70 a14 (fun x => value_count x) (fun _ (r : Bool) => (.v (.b r), []))
set_option maxRecDepth 100000 in
theorem O14_sound : cE Try.prog O14 := cA O13_sound (fun x r h => cL (ν := n70) (cz O13_sound) Try.func70 (by kernel_rfl) mixed (by kernel_rfl) (Nat.le_of_ble_eq_true (by kernel_rfl)) (r_value_count O13 x r h))
theorem inj14 : ∀ x y, a14 x = a14 y → x = y := by
  rintro ua1 ub1 h
  simp only [a14, Prod.mk.injEq, List.cons.injEq, D.v.injEq, D.own.injEq, D.agg.injEq, D.rp.injEq, D.clo.injEq, D.ptr.injEq, V.i.injEq, V.s.injEq, V.b.injEq, V.sl.injEq, cw, cv, cu, GLog.map_inj, GCommand.map_inj, GCall.map_inj, GItem.map_inj, GValue.map_inj, GStore.map_inj, GMachine.map_inj, GSnap.map_inj, Gwriter.map_inj, GPair.map_inj, GScore.map_inj, GEntry.map_inj, Greader.map_inj, Gscan.map_inj, GReply.map_inj, GClient.map_inj, true_and, and_true] at h
  exact h
theorem K14_14 : K_value_count O14 := fun p0 r h => cM (x := p0) inj14 h
def a15 (x : GScore) : List D × aA := ([.agg [.v (.s x.fMember), .v (.i .i64 x.fN)]], [])
noncomputable def O15 : ak := ak.addF O14 71 a15 (fun x => value_Check_fn4 x) (fun _ (r : Bool) => (.v (.b r), []))
set_option maxRecDepth 100000 in
theorem O15_sound : cE Try.prog O15 := cA O14_sound (fun x r h => cL (ν := n71) (cz O14_sound) Try.func71 (by kernel_rfl) mixed (by kernel_rfl) (Nat.le_of_ble_eq_true (by kernel_rfl)) (r_value_Check_fn4 O14 K14_14 x r h))
theorem inj15 : ∀ x y, a15 x = a15 y → x = y := by
  rintro ⟨ua1, ua2⟩ ⟨ub1, ub2⟩ h
  simp only [a15, Prod.mk.injEq, List.cons.injEq, D.v.injEq, D.own.injEq, D.agg.injEq, D.rp.injEq, D.clo.injEq, D.ptr.injEq, V.i.injEq, V.s.injEq, V.b.injEq, V.sl.injEq, cw, cv, cu, GLog.map_inj, GCommand.map_inj, GCall.map_inj, GItem.map_inj, GValue.map_inj, GStore.map_inj, GMachine.map_inj, GSnap.map_inj, Gwriter.map_inj, GPair.map_inj, GScore.map_inj, GEntry.map_inj, Greader.map_inj, Gscan.map_inj, GReply.map_inj, GClient.map_inj, true_and, and_true] at h
  simp only [Prod.mk.injEq, GScore.mk.injEq, h, and_self]
theorem K15_15 : K_value_Check_fn4 O15 := fun p0 r h => cM (x := p0) inj15 h
def a16 (x : (List GScore)) : List D × aA := ([.v (.sl 2 (ab GScore.row x)), .clo 71 []], [])
noncomputable def O16 : ak := ak.addF O15 110 a16 (fun x => slices_IndexFunc_Score_Score_value_Check_fn4 x) (fun _ (r : Int) => (.v (.i .i64 r), []))
set_option maxRecDepth 100000 in
theorem O16_sound : cE Try.prog O16 := cA O15_sound (fun x r h => cL (ν := n110) (cz O15_sound) Try.func110 (by kernel_rfl) mixed (by kernel_rfl) (Nat.le_of_ble_eq_true (by kernel_rfl)) (r_slices_IndexFunc_Score_Score_value_Check_fn4 O15 K15_15 x r h))
theorem inj16 : ∀ x y, a16 x = a16 y → x = y := by
  rintro ua1 ub1 h
  simp only [a16, Prod.mk.injEq, List.cons.injEq, D.v.injEq, D.own.injEq, D.agg.injEq, D.rp.injEq, D.clo.injEq, D.ptr.injEq, V.i.injEq, V.s.injEq, V.b.injEq, V.sl.injEq, cw, cv, cu, GLog.map_inj, GCommand.map_inj, GCall.map_inj, GItem.map_inj, GValue.map_inj, GStore.map_inj, GMachine.map_inj, GSnap.map_inj, Gwriter.map_inj, GPair.map_inj, GScore.map_inj, GEntry.map_inj, Greader.map_inj, Gscan.map_inj, GReply.map_inj, GClient.map_inj, true_and, and_true] at h
  exact h
theorem K16_16 : K_slices_IndexFunc_Score_Score_value_Check_fn4 O16 := fun p0 r h => cM (x := p0) inj16 h
def a17 (x : (List GScore)) : List D × aA := ([.v (.sl 2 (ab GScore.row x)), .clo 71 []], [])
noncomputable def O17 : ak := ak.addF O16 68 a17 (fun x => slices_ContainsFunc_Score_Score_value_Check_fn4 x) (fun _ (r : Bool) => (.v (.b r), []))
set_option maxRecDepth 100000 in
theorem O17_sound : cE Try.prog O17 := cA O16_sound (fun x r h => cL (ν := n68) (cz O16_sound) Try.func68 (by kernel_rfl) mixed (by kernel_rfl) (Nat.le_of_ble_eq_true (by kernel_rfl)) (r_slices_ContainsFunc_Score_Score_value_Check_fn4 O16 K16_16 x r h))
theorem inj17 : ∀ x y, a17 x = a17 y → x = y := by
  rintro ua1 ub1 h
  simp only [a17, Prod.mk.injEq, List.cons.injEq, D.v.injEq, D.own.injEq, D.agg.injEq, D.rp.injEq, D.clo.injEq, D.ptr.injEq, V.i.injEq, V.s.injEq, V.b.injEq, V.sl.injEq, cw, cv, cu, GLog.map_inj, GCommand.map_inj, GCall.map_inj, GItem.map_inj, GValue.map_inj, GStore.map_inj, GMachine.map_inj, GSnap.map_inj, Gwriter.map_inj, GPair.map_inj, GScore.map_inj, GEntry.map_inj, Greader.map_inj, Gscan.map_inj, GReply.map_inj, GClient.map_inj, true_and, and_true] at h
  exact h
theorem K17_17 : K_slices_ContainsFunc_Score_Score_value_Check_fn4 O17 := fun p0 r h => cM (x := p0) inj17 h
def a18 (x : ByteArray × ByteArray) : List D × aA := ([.v (.s x.1), .v (.s x.2)], [])
noncomputable def O18 : ak := ak.addF O17 132 a18 (fun x => cmpstring x.1 x.2) (fun _ (r : Int) => (.v (.i .i64 r), []))
set_option maxRecDepth 100000 in
theorem O18_sound : cE Try.prog O18 := cA O17_sound (fun x r h => by
  obtain rfl := Option.some.inj h
  exact sem_cmp Try.func132 (by kernel_rfl) (by kernel_rfl) (by kernel_rfl) (by kernel_rfl) x.1 x.2)
theorem inj18 : ∀ x y, a18 x = a18 y → x = y := by
  rintro ⟨ua1, ua2⟩ ⟨ub1, ub2⟩ h
  simp only [a18, Prod.mk.injEq, List.cons.injEq, D.v.injEq, D.own.injEq, D.agg.injEq, D.rp.injEq, D.clo.injEq, D.ptr.injEq, V.i.injEq, V.s.injEq, V.b.injEq, V.sl.injEq, cw, cv, cu, GLog.map_inj, GCommand.map_inj, GCall.map_inj, GItem.map_inj, GValue.map_inj, GStore.map_inj, GMachine.map_inj, GSnap.map_inj, Gwriter.map_inj, GPair.map_inj, GScore.map_inj, GEntry.map_inj, Greader.map_inj, Gscan.map_inj, GReply.map_inj, GClient.map_inj, true_and, and_true] at h
  simp only [Prod.mk.injEq, h, and_self]
theorem K18_18 : K_cmpstring O18 := fun p0 p1 r h => cM (x := (p0, p1)) inj18 h
def a19 (x : ByteArray × ByteArray) : List D × aA := ([.v (.s x.1), .v (.s x.2)], [])
noncomputable def O19 : ak := ak.addF O18 113 a19 (fun x => internal_bytealg_CompareString x.1 x.2) (fun _ (r : Int) => (.v (.i .i64 r), []))
set_option maxRecDepth 100000 in
theorem O19_sound : cE Try.prog O19 := cA O18_sound (fun x r h => cL (ν := n113) (cz O18_sound) Try.func113 (by kernel_rfl) mixed (by kernel_rfl) (Nat.le_of_ble_eq_true (by kernel_rfl)) (r_internal_bytealg_CompareString O18 K18_18 x.1 x.2 r h))
theorem inj19 : ∀ x y, a19 x = a19 y → x = y := by
  rintro ⟨ua1, ua2⟩ ⟨ub1, ub2⟩ h
  simp only [a19, Prod.mk.injEq, List.cons.injEq, D.v.injEq, D.own.injEq, D.agg.injEq, D.rp.injEq, D.clo.injEq, D.ptr.injEq, V.i.injEq, V.s.injEq, V.b.injEq, V.sl.injEq, cw, cv, cu, GLog.map_inj, GCommand.map_inj, GCall.map_inj, GItem.map_inj, GValue.map_inj, GStore.map_inj, GMachine.map_inj, GSnap.map_inj, Gwriter.map_inj, GPair.map_inj, GScore.map_inj, GEntry.map_inj, Greader.map_inj, Gscan.map_inj, GReply.map_inj, GClient.map_inj, true_and, and_true] at h
  simp only [Prod.mk.injEq, h, and_self]
theorem K19_19 : K_internal_bytealg_CompareString O19 := fun p0 p1 r h => cM (x := (p0, p1)) inj19 h
def a20 (x : ByteArray × ByteArray) : List D × aA := ([.v (.s x.1), .v (.s x.2)], [])
noncomputable def O20 : ak := ak.addF O19 77 a20 (fun x => strings_Compare x.1 x.2) (fun _ (r : Int) => (.v (.i .i64 r), []))
set_option maxRecDepth 100000 in
theorem O20_sound : cE Try.prog O20 := cA O19_sound (fun x r h => cL (ν := n77) (cz O19_sound) Try.func77 (by kernel_rfl) mixed (by kernel_rfl) (Nat.le_of_ble_eq_true (by kernel_rfl)) (r_strings_Compare O19 K19_19 x.1 x.2 r h))
theorem inj20 : ∀ x y, a20 x = a20 y → x = y := by
  rintro ⟨ua1, ua2⟩ ⟨ub1, ub2⟩ h
  simp only [a20, Prod.mk.injEq, List.cons.injEq, D.v.injEq, D.own.injEq, D.agg.injEq, D.rp.injEq, D.clo.injEq, D.ptr.injEq, V.i.injEq, V.s.injEq, V.b.injEq, V.sl.injEq, cw, cv, cu, GLog.map_inj, GCommand.map_inj, GCall.map_inj, GItem.map_inj, GValue.map_inj, GStore.map_inj, GMachine.map_inj, GSnap.map_inj, Gwriter.map_inj, GPair.map_inj, GScore.map_inj, GEntry.map_inj, Greader.map_inj, Gscan.map_inj, GReply.map_inj, GClient.map_inj, true_and, and_true] at h
  simp only [Prod.mk.injEq, h, and_self]
theorem K20_20 : K_strings_Compare O20 := fun p0 p1 r h => cM (x := (p0, p1)) inj20 h
def a21 (x : GPair × GPair) : List D × aA := ([.agg [.v (.s x.1.fField), .v (.s x.1.fText)], .agg [.v (.s x.2.fField), .v (.s x.2.fText)]], [])
noncomputable def O21 : ak := ak.addF O20 73 a21 (fun x => value_byField x.1 x.2) (fun _ (r : Int) => (.v (.i .i64 r), []))
set_option maxRecDepth 100000 in
theorem O21_sound : cE Try.prog O21 := cA O20_sound (fun x r h => cL (ν := n73) (cz O20_sound) Try.func73 (by kernel_rfl) mixed (by kernel_rfl) (Nat.le_of_ble_eq_true (by kernel_rfl)) (r_value_byField O20 K20_20 x.1 x.2 r h))
theorem inj21 : ∀ x y, a21 x = a21 y → x = y := by
  rintro ⟨⟨ua1, ua2⟩, ⟨ua3, ua4⟩⟩ ⟨⟨ub1, ub2⟩, ⟨ub3, ub4⟩⟩ h
  simp only [a21, Prod.mk.injEq, List.cons.injEq, D.v.injEq, D.own.injEq, D.agg.injEq, D.rp.injEq, D.clo.injEq, D.ptr.injEq, V.i.injEq, V.s.injEq, V.b.injEq, V.sl.injEq, cw, cv, cu, GLog.map_inj, GCommand.map_inj, GCall.map_inj, GItem.map_inj, GValue.map_inj, GStore.map_inj, GMachine.map_inj, GSnap.map_inj, Gwriter.map_inj, GPair.map_inj, GScore.map_inj, GEntry.map_inj, Greader.map_inj, Gscan.map_inj, GReply.map_inj, GClient.map_inj, true_and, and_true] at h
  simp only [Prod.mk.injEq, GPair.mk.injEq, h, and_self]
theorem K21_21 : K_value_byField O21 := fun p0 p1 r h => cM (x := (p0, p1)) inj21 h
def a22 (x : (List GPair)) : List D × aA := ([.v (.sl 2 (ab GPair.row x)), .clo 73 []], [])
noncomputable def O22 : ak := ak.addF O21 72 a22 (fun x => value_rising_Pair_value_byField x) (fun _ (r : Bool) => (.v (.b r), []))
set_option maxRecDepth 100000 in
theorem O22_sound : cE Try.prog O22 := cA O21_sound (fun x r h => cL (ν := n72) (cz O21_sound) Try.func72 (by kernel_rfl) mixed (by kernel_rfl) (Nat.le_of_ble_eq_true (by kernel_rfl)) (r_value_rising_Pair_value_byField O21 K21_21 x r h))
theorem inj22 : ∀ x y, a22 x = a22 y → x = y := by
  rintro ua1 ub1 h
  simp only [a22, Prod.mk.injEq, List.cons.injEq, D.v.injEq, D.own.injEq, D.agg.injEq, D.rp.injEq, D.clo.injEq, D.ptr.injEq, V.i.injEq, V.s.injEq, V.b.injEq, V.sl.injEq, cw, cv, cu, GLog.map_inj, GCommand.map_inj, GCall.map_inj, GItem.map_inj, GValue.map_inj, GStore.map_inj, GMachine.map_inj, GSnap.map_inj, Gwriter.map_inj, GPair.map_inj, GScore.map_inj, GEntry.map_inj, Greader.map_inj, Gscan.map_inj, GReply.map_inj, GClient.map_inj, true_and, and_true] at h
  exact h
theorem K22_22 : K_value_rising_Pair_value_byField O22 := fun p0 r h => cM (x := p0) inj22 h
def a23 (x : Int) : List D × aA := ([.v (.i .i64 x)], [])
noncomputable def O23 : ak := ak.addF O22 131 a23 (fun x => cmp_isNaN_int x) (fun _ (r : Bool) => (.v (.b r), []))
set_option maxRecDepth 100000 in
theorem O23_sound : cE Try.prog O23 := cA O22_sound (fun x r h => cL (ν := n131) (cz O22_sound) Try.func131 (by kernel_rfl) mixed (by kernel_rfl) (Nat.le_of_ble_eq_true (by kernel_rfl)) (r_cmp_isNaN_int O22 x r h))
theorem inj23 : ∀ x y, a23 x = a23 y → x = y := by
  rintro ua1 ub1 h
  simp only [a23, Prod.mk.injEq, List.cons.injEq, D.v.injEq, D.own.injEq, D.agg.injEq, D.rp.injEq, D.clo.injEq, D.ptr.injEq, V.i.injEq, V.s.injEq, V.b.injEq, V.sl.injEq, cw, cv, cu, GLog.map_inj, GCommand.map_inj, GCall.map_inj, GItem.map_inj, GValue.map_inj, GStore.map_inj, GMachine.map_inj, GSnap.map_inj, Gwriter.map_inj, GPair.map_inj, GScore.map_inj, GEntry.map_inj, Greader.map_inj, Gscan.map_inj, GReply.map_inj, GClient.map_inj, true_and, and_true] at h
  exact h
theorem K23_23 : K_cmp_isNaN_int O23 := fun p0 r h => cM (x := p0) inj23 h
def a24 (x : Int × Int) : List D × aA := ([.v (.i .i64 x.1), .v (.i .i64 x.2)], [])
noncomputable def O24 : ak := ak.addF O23 112 a24 (fun x => cmp_Compare_int x.1 x.2) (fun _ (r : Int) => (.v (.i .i64 r), []))
set_option maxRecDepth 100000 in
theorem O24_sound : cE Try.prog O24 := cA O23_sound (fun x r h => cL (ν := n112) (cz O23_sound) Try.func112 (by kernel_rfl) mixed (by kernel_rfl) (Nat.le_of_ble_eq_true (by kernel_rfl)) (r_cmp_Compare_int O23 K23_23 x.1 x.2 r h))
theorem inj24 : ∀ x y, a24 x = a24 y → x = y := by
  rintro ⟨ua1, ua2⟩ ⟨ub1, ub2⟩ h
  simp only [a24, Prod.mk.injEq, List.cons.injEq, D.v.injEq, D.own.injEq, D.agg.injEq, D.rp.injEq, D.clo.injEq, D.ptr.injEq, V.i.injEq, V.s.injEq, V.b.injEq, V.sl.injEq, cw, cv, cu, GLog.map_inj, GCommand.map_inj, GCall.map_inj, GItem.map_inj, GValue.map_inj, GStore.map_inj, GMachine.map_inj, GSnap.map_inj, Gwriter.map_inj, GPair.map_inj, GScore.map_inj, GEntry.map_inj, Greader.map_inj, Gscan.map_inj, GReply.map_inj, GClient.map_inj, true_and, and_true] at h
  simp only [Prod.mk.injEq, h, and_self]
theorem K24_24 : K_cmp_Compare_int O24 := fun p0 p1 r h => cM (x := (p0, p1)) inj24 h
def a25 (x : (List Int)) : List D × aA := ([.v (.sl 1 (ab rowI x))], [])
noncomputable def O25 : ak := ak.addF O24 111 a25 (fun x => cmp_Or_int x) (fun _ (r : Int) => (.v (.i .i64 r), []))
set_option maxRecDepth 100000 in
theorem O25_sound : cE Try.prog O25 := cA O24_sound (fun x r h => cL (ν := n111) (cz O24_sound) Try.func111 (by kernel_rfl) mixed (by kernel_rfl) (Nat.le_of_ble_eq_true (by kernel_rfl)) (r_cmp_Or_int O24 x r h))
theorem inj25 : ∀ x y, a25 x = a25 y → x = y := by
  rintro ua1 ub1 h
  simp only [a25, Prod.mk.injEq, List.cons.injEq, D.v.injEq, D.own.injEq, D.agg.injEq, D.rp.injEq, D.clo.injEq, D.ptr.injEq, V.i.injEq, V.s.injEq, V.b.injEq, V.sl.injEq, cw, cv, cu, GLog.map_inj, GCommand.map_inj, GCall.map_inj, GItem.map_inj, GValue.map_inj, GStore.map_inj, GMachine.map_inj, GSnap.map_inj, Gwriter.map_inj, GPair.map_inj, GScore.map_inj, GEntry.map_inj, Greader.map_inj, Gscan.map_inj, GReply.map_inj, GClient.map_inj, true_and, and_true] at h
  exact h
theorem K25_25 : K_cmp_Or_int O25 := fun p0 r h => cM (x := p0) inj25 h
theorem K24_25 : K_cmp_Compare_int O25 := fun p0 p1 r h => (aV (by decide) _ _).trans (K24_24 p0 p1 r h)
theorem K20_21 : K_strings_Compare O21 := fun p0 p1 r h => (aV (by decide) _ _).trans (K20_20 p0 p1 r h)
theorem K20_22 : K_strings_Compare O22 := fun p0 p1 r h => (aV (by decide) _ _).trans (K20_21 p0 p1 r h)
theorem K20_23 : K_strings_Compare O23 := fun p0 p1 r h => (aV (by decide) _ _).trans (K20_22 p0 p1 r h)
theorem K20_24 : K_strings_Compare O24 := fun p0 p1 r h => (aV (by decide) _ _).trans (K20_23 p0 p1 r h)
theorem K20_25 : K_strings_Compare O25 := fun p0 p1 r h => (aV (by decide) _ _).trans (K20_24 p0 p1 r h)
def a26 (x : GScore × GScore) : List D × aA := ([.agg [.v (.s x.1.fMember), .v (.i .i64 x.1.fN)], .agg [.v (.s x.2.fMember), .v (.i .i64 x.2.fN)]], [])
noncomputable def O26 : ak := ak.addF O25 75 a26 (fun x => value_byScore x.1 x.2) (fun _ (r : Int) => (.v (.i .i64 r), []))
set_option maxRecDepth 100000 in
theorem O26_sound : cE Try.prog O26 := cA O25_sound (fun x r h => cL (ν := n75) (cz O25_sound) Try.func75 (by kernel_rfl) mixed (by kernel_rfl) (Nat.le_of_ble_eq_true (by kernel_rfl)) (r_value_byScore O25 K24_25 K20_25 K25_25 x.1 x.2 r h))
theorem inj26 : ∀ x y, a26 x = a26 y → x = y := by
  rintro ⟨⟨ua1, ua2⟩, ⟨ua3, ua4⟩⟩ ⟨⟨ub1, ub2⟩, ⟨ub3, ub4⟩⟩ h
  simp only [a26, Prod.mk.injEq, List.cons.injEq, D.v.injEq, D.own.injEq, D.agg.injEq, D.rp.injEq, D.clo.injEq, D.ptr.injEq, V.i.injEq, V.s.injEq, V.b.injEq, V.sl.injEq, cw, cv, cu, GLog.map_inj, GCommand.map_inj, GCall.map_inj, GItem.map_inj, GValue.map_inj, GStore.map_inj, GMachine.map_inj, GSnap.map_inj, Gwriter.map_inj, GPair.map_inj, GScore.map_inj, GEntry.map_inj, Greader.map_inj, Gscan.map_inj, GReply.map_inj, GClient.map_inj, true_and, and_true] at h
  simp only [Prod.mk.injEq, GScore.mk.injEq, h, and_self]
theorem K26_26 : K_value_byScore O26 := fun p0 p1 r h => cM (x := (p0, p1)) inj26 h
def a27 (x : (List GScore)) : List D × aA := ([.v (.sl 2 (ab GScore.row x)), .clo 75 []], [])
noncomputable def O27 : ak := ak.addF O26 74 a27 (fun x => value_rising_Score_value_byScore x) (fun _ (r : Bool) => (.v (.b r), []))
set_option maxRecDepth 100000 in
theorem O27_sound : cE Try.prog O27 := cA O26_sound (fun x r h => cL (ν := n74) (cz O26_sound) Try.func74 (by kernel_rfl) mixed (by kernel_rfl) (Nat.le_of_ble_eq_true (by kernel_rfl)) (r_value_rising_Score_value_byScore O26 K26_26 x r h))
theorem inj27 : ∀ x y, a27 x = a27 y → x = y := by
  rintro ua1 ub1 h
  simp only [a27, Prod.mk.injEq, List.cons.injEq, D.v.injEq, D.own.injEq, D.agg.injEq, D.rp.injEq, D.clo.injEq, D.ptr.injEq, V.i.injEq, V.s.injEq, V.b.injEq, V.sl.injEq, cw, cv, cu, GLog.map_inj, GCommand.map_inj, GCall.map_inj, GItem.map_inj, GValue.map_inj, GStore.map_inj, GMachine.map_inj, GSnap.map_inj, Gwriter.map_inj, GPair.map_inj, GScore.map_inj, GEntry.map_inj, Greader.map_inj, Gscan.map_inj, GReply.map_inj, GClient.map_inj, true_and, and_true] at h
  exact h
theorem K27_27 : K_value_rising_Score_value_byScore O27 := fun p0 r h => cM (x := p0) inj27 h
theorem K20_26 : K_strings_Compare O26 := fun p0 p1 r h => (aV (by decide) _ _).trans (K20_25 p0 p1 r h)
theorem K20_27 : K_strings_Compare O27 := fun p0 p1 r h => (aV (by decide) _ _).trans (K20_26 p0 p1 r h)
def a28 (x : (List ByteArray)) : List D × aA := ([.v (.sl 1 (ab aY x)), .clo 77 []], [])
noncomputable def O28 : ak := ak.addF O27 76 a28 (fun x => value_rising_string_strings_Compare x) (fun _ (r : Bool) => (.v (.b r), []))
set_option maxRecDepth 100000 in
theorem O28_sound : cE Try.prog O28 := cA O27_sound (fun x r h => cL (ν := n76) (cz O27_sound) Try.func76 (by kernel_rfl) mixed (by kernel_rfl) (Nat.le_of_ble_eq_true (by kernel_rfl)) (r_value_rising_string_strings_Compare O27 K20_27 x r h))
theorem inj28 : ∀ x y, a28 x = a28 y → x = y := by
  rintro ua1 ub1 h
  simp only [a28, Prod.mk.injEq, List.cons.injEq, D.v.injEq, D.own.injEq, D.agg.injEq, D.rp.injEq, D.clo.injEq, D.ptr.injEq, V.i.injEq, V.s.injEq, V.b.injEq, V.sl.injEq, cw, cv, cu, GLog.map_inj, GCommand.map_inj, GCall.map_inj, GItem.map_inj, GValue.map_inj, GStore.map_inj, GMachine.map_inj, GSnap.map_inj, Gwriter.map_inj, GPair.map_inj, GScore.map_inj, GEntry.map_inj, Greader.map_inj, Gscan.map_inj, GReply.map_inj, GClient.map_inj, true_and, and_true] at h
  exact h
theorem K28_28 : K_value_rising_string_strings_Compare O28 := fun p0 r h => cM (x := p0) inj28 h
def a29 (x : GScore × ByteArray) : List D × aA := ([.agg [.v (.s x.1.fMember), .v (.i .i64 x.1.fN)], .ptr 0 0], [[.v (.s x.2)]])
noncomputable def O29 : ak := ak.addF O28 114 a29 (fun x => value_rank_fn1 x.1 x.2) (fun _ (r : Bool × ByteArray) => (.v (.b r.1), [[.v (.s r.2)]]))
set_option maxRecDepth 100000 in
theorem O29_sound : cE Try.prog O29 := cA O28_sound (fun x r h => cL (ν := n114) (cz O28_sound) Try.func114 (by kernel_rfl) mixed (by kernel_rfl) (Nat.le_of_ble_eq_true (by kernel_rfl)) (r_value_rank_fn1 O28 x.1 x.2 r h))
theorem inj29 : ∀ x y, a29 x = a29 y → x = y := by
  rintro ⟨⟨ua1, ua2⟩, ua3⟩ ⟨⟨ub1, ub2⟩, ub3⟩ h
  simp only [a29, Prod.mk.injEq, List.cons.injEq, D.v.injEq, D.own.injEq, D.agg.injEq, D.rp.injEq, D.clo.injEq, D.ptr.injEq, V.i.injEq, V.s.injEq, V.b.injEq, V.sl.injEq, cw, cv, cu, GLog.map_inj, GCommand.map_inj, GCall.map_inj, GItem.map_inj, GValue.map_inj, GStore.map_inj, GMachine.map_inj, GSnap.map_inj, Gwriter.map_inj, GPair.map_inj, GScore.map_inj, GEntry.map_inj, Greader.map_inj, Gscan.map_inj, GReply.map_inj, GClient.map_inj, true_and, and_true] at h
  simp only [Prod.mk.injEq, GScore.mk.injEq, h, and_self]
theorem K29_29 : K_value_rank_fn1 O29 := fun p0 p1 r h => cM (x := (p0, p1)) inj29 h
def a30 (x : (List GScore) × ByteArray) : List D × aA := ([.v (.sl 2 (ab GScore.row x.1)), .clo 114 [.ptr 0 0]], [[.v (.s x.2)]])
noncomputable def O30 : ak := ak.addF O29 110 a30 (fun x => slices_IndexFunc_Score_Score_value_rank_fn1 x.1 x.2) (fun _ (r : Int × ByteArray) => (.v (.i .i64 r.1), [[.v (.s r.2)]]))
set_option maxRecDepth 100000 in
theorem O30_sound : cE Try.prog O30 := cA O29_sound (fun x r h => cL (ν := n110) (cz O29_sound) Try.func110 (by kernel_rfl) mixed (by kernel_rfl) (Nat.le_of_ble_eq_true (by kernel_rfl)) (r_slices_IndexFunc_Score_Score_value_rank_fn1 O29 K29_29 x.1 x.2 r h))
theorem inj30 : ∀ x y, a30 x = a30 y → x = y := by
  rintro ⟨ua1, ua2⟩ ⟨ub1, ub2⟩ h
  simp only [a30, Prod.mk.injEq, List.cons.injEq, D.v.injEq, D.own.injEq, D.agg.injEq, D.rp.injEq, D.clo.injEq, D.ptr.injEq, V.i.injEq, V.s.injEq, V.b.injEq, V.sl.injEq, cw, cv, cu, GLog.map_inj, GCommand.map_inj, GCall.map_inj, GItem.map_inj, GValue.map_inj, GStore.map_inj, GMachine.map_inj, GSnap.map_inj, Gwriter.map_inj, GPair.map_inj, GScore.map_inj, GEntry.map_inj, Greader.map_inj, Gscan.map_inj, GReply.map_inj, GClient.map_inj, true_and, and_true] at h
  simp only [Prod.mk.injEq, h, and_self]
theorem K30_30 : K_slices_IndexFunc_Score_Score_value_rank_fn1 O30 := fun p0 p1 r h => cM (x := (p0, p1)) inj30 h
def a31 (x : (List GScore) × ByteArray) : List D × aA := ([.v (.sl 2 (ab GScore.row x.1)), .v (.s x.2)], [])
noncomputable def O31 : ak := ak.addF O30 78 a31 (fun x => value_rank x.1 x.2) (fun _ (r : Int) => (.v (.i .i64 r), []))
set_option maxRecDepth 100000 in
theorem O31_sound : cE Try.prog O31 := cA O30_sound (fun x r h => cL (ν := n78) (cz O30_sound) Try.func78 (by kernel_rfl) mixed (by kernel_rfl) (Nat.le_of_ble_eq_true (by kernel_rfl)) (r_value_rank O30 K30_30 x.1 x.2 r h))
theorem inj31 : ∀ x y, a31 x = a31 y → x = y := by
  rintro ⟨ua1, ua2⟩ ⟨ub1, ub2⟩ h
  simp only [a31, Prod.mk.injEq, List.cons.injEq, D.v.injEq, D.own.injEq, D.agg.injEq, D.rp.injEq, D.clo.injEq, D.ptr.injEq, V.i.injEq, V.s.injEq, V.b.injEq, V.sl.injEq, cw, cv, cu, GLog.map_inj, GCommand.map_inj, GCall.map_inj, GItem.map_inj, GValue.map_inj, GStore.map_inj, GMachine.map_inj, GSnap.map_inj, Gwriter.map_inj, GPair.map_inj, GScore.map_inj, GEntry.map_inj, Greader.map_inj, Gscan.map_inj, GReply.map_inj, GClient.map_inj, true_and, and_true] at h
  simp only [Prod.mk.injEq, h, and_self]
theorem K31_31 : K_value_rank O31 := fun p0 p1 r h => cM (x := (p0, p1)) inj31 h
theorem K2_3 : K_value_elements O3 := fun p0 r h => (aV (by decide) _ _).trans (K2_2 p0 r h)
theorem K2_4 : K_value_elements O4 := fun p0 r h => (aV (by decide) _ _).trans (K2_3 p0 r h)
theorem K2_5 : K_value_elements O5 := fun p0 r h => (aV (by decide) _ _).trans (K2_4 p0 r h)
theorem K2_6 : K_value_elements O6 := fun p0 r h => (aV (by decide) _ _).trans (K2_5 p0 r h)
theorem K2_7 : K_value_elements O7 := fun p0 r h => (aV (by decide) _ _).trans (K2_6 p0 r h)
theorem K2_8 : K_value_elements O8 := fun p0 r h => (aV (by decide) _ _).trans (K2_7 p0 r h)
theorem K2_9 : K_value_elements O9 := fun p0 r h => (aV (by decide) _ _).trans (K2_8 p0 r h)
theorem K2_10 : K_value_elements O10 := fun p0 r h => (aV (by decide) _ _).trans (K2_9 p0 r h)
theorem K2_11 : K_value_elements O11 := fun p0 r h => (aV (by decide) _ _).trans (K2_10 p0 r h)
theorem K2_12 : K_value_elements O12 := fun p0 r h => (aV (by decide) _ _).trans (K2_11 p0 r h)
theorem K2_13 : K_value_elements O13 := fun p0 r h => (aV (by decide) _ _).trans (K2_12 p0 r h)
theorem K2_14 : K_value_elements O14 := fun p0 r h => (aV (by decide) _ _).trans (K2_13 p0 r h)
theorem K2_15 : K_value_elements O15 := fun p0 r h => (aV (by decide) _ _).trans (K2_14 p0 r h)
theorem K2_16 : K_value_elements O16 := fun p0 r h => (aV (by decide) _ _).trans (K2_15 p0 r h)
theorem K2_17 : K_value_elements O17 := fun p0 r h => (aV (by decide) _ _).trans (K2_16 p0 r h)
theorem K2_18 : K_value_elements O18 := fun p0 r h => (aV (by decide) _ _).trans (K2_17 p0 r h)
theorem K2_19 : K_value_elements O19 := fun p0 r h => (aV (by decide) _ _).trans (K2_18 p0 r h)
theorem K2_20 : K_value_elements O20 := fun p0 r h => (aV (by decide) _ _).trans (K2_19 p0 r h)
theorem K2_21 : K_value_elements O21 := fun p0 r h => (aV (by decide) _ _).trans (K2_20 p0 r h)
theorem K2_22 : K_value_elements O22 := fun p0 r h => (aV (by decide) _ _).trans (K2_21 p0 r h)
theorem K2_23 : K_value_elements O23 := fun p0 r h => (aV (by decide) _ _).trans (K2_22 p0 r h)
theorem K2_24 : K_value_elements O24 := fun p0 r h => (aV (by decide) _ _).trans (K2_23 p0 r h)
theorem K2_25 : K_value_elements O25 := fun p0 r h => (aV (by decide) _ _).trans (K2_24 p0 r h)
theorem K2_26 : K_value_elements O26 := fun p0 r h => (aV (by decide) _ _).trans (K2_25 p0 r h)
theorem K2_27 : K_value_elements O27 := fun p0 r h => (aV (by decide) _ _).trans (K2_26 p0 r h)
theorem K2_28 : K_value_elements O28 := fun p0 r h => (aV (by decide) _ _).trans (K2_27 p0 r h)
theorem K2_29 : K_value_elements O29 := fun p0 r h => (aV (by decide) _ _).trans (K2_28 p0 r h)
theorem K2_30 : K_value_elements O30 := fun p0 r h => (aV (by decide) _ _).trans (K2_29 p0 r h)
theorem K2_31 : K_value_elements O31 := fun p0 r h => (aV (by decide) _ _).trans (K2_30 p0 r h)
theorem K3_11 : K_value_text O11 := fun p0 r h => (aV (by decide) _ _).trans (K3_10 p0 r h)
theorem K3_12 : K_value_text O12 := fun p0 r h => (aV (by decide) _ _).trans (K3_11 p0 r h)
theorem K3_13 : K_value_text O13 := fun p0 r h => (aV (by decide) _ _).trans (K3_12 p0 r h)
theorem K3_14 : K_value_text O14 := fun p0 r h => (aV (by decide) _ _).trans (K3_13 p0 r h)
theorem K3_15 : K_value_text O15 := fun p0 r h => (aV (by decide) _ _).trans (K3_14 p0 r h)
theorem K3_16 : K_value_text O16 := fun p0 r h => (aV (by decide) _ _).trans (K3_15 p0 r h)
theorem K3_17 : K_value_text O17 := fun p0 r h => (aV (by decide) _ _).trans (K3_16 p0 r h)
theorem K3_18 : K_value_text O18 := fun p0 r h => (aV (by decide) _ _).trans (K3_17 p0 r h)
theorem K3_19 : K_value_text O19 := fun p0 r h => (aV (by decide) _ _).trans (K3_18 p0 r h)
theorem K3_20 : K_value_text O20 := fun p0 r h => (aV (by decide) _ _).trans (K3_19 p0 r h)
theorem K3_21 : K_value_text O21 := fun p0 r h => (aV (by decide) _ _).trans (K3_20 p0 r h)
theorem K3_22 : K_value_text O22 := fun p0 r h => (aV (by decide) _ _).trans (K3_21 p0 r h)
theorem K3_23 : K_value_text O23 := fun p0 r h => (aV (by decide) _ _).trans (K3_22 p0 r h)
theorem K3_24 : K_value_text O24 := fun p0 r h => (aV (by decide) _ _).trans (K3_23 p0 r h)
theorem K3_25 : K_value_text O25 := fun p0 r h => (aV (by decide) _ _).trans (K3_24 p0 r h)
theorem K3_26 : K_value_text O26 := fun p0 r h => (aV (by decide) _ _).trans (K3_25 p0 r h)
theorem K3_27 : K_value_text O27 := fun p0 r h => (aV (by decide) _ _).trans (K3_26 p0 r h)
theorem K3_28 : K_value_text O28 := fun p0 r h => (aV (by decide) _ _).trans (K3_27 p0 r h)
theorem K3_29 : K_value_text O29 := fun p0 r h => (aV (by decide) _ _).trans (K3_28 p0 r h)
theorem K3_30 : K_value_text O30 := fun p0 r h => (aV (by decide) _ _).trans (K3_29 p0 r h)
theorem K3_31 : K_value_text O31 := fun p0 r h => (aV (by decide) _ _).trans (K3_30 p0 r h)
theorem K6_7 : K_slices_ContainsFunc_string_string_value_Check_fn1 O7 := fun p0 r h => (aV (by decide) _ _).trans (K6_6 p0 r h)
theorem K6_8 : K_slices_ContainsFunc_string_string_value_Check_fn1 O8 := fun p0 r h => (aV (by decide) _ _).trans (K6_7 p0 r h)
theorem K6_9 : K_slices_ContainsFunc_string_string_value_Check_fn1 O9 := fun p0 r h => (aV (by decide) _ _).trans (K6_8 p0 r h)
theorem K6_10 : K_slices_ContainsFunc_string_string_value_Check_fn1 O10 := fun p0 r h => (aV (by decide) _ _).trans (K6_9 p0 r h)
theorem K6_11 : K_slices_ContainsFunc_string_string_value_Check_fn1 O11 := fun p0 r h => (aV (by decide) _ _).trans (K6_10 p0 r h)
theorem K6_12 : K_slices_ContainsFunc_string_string_value_Check_fn1 O12 := fun p0 r h => (aV (by decide) _ _).trans (K6_11 p0 r h)
theorem K6_13 : K_slices_ContainsFunc_string_string_value_Check_fn1 O13 := fun p0 r h => (aV (by decide) _ _).trans (K6_12 p0 r h)
theorem K6_14 : K_slices_ContainsFunc_string_string_value_Check_fn1 O14 := fun p0 r h => (aV (by decide) _ _).trans (K6_13 p0 r h)
theorem K6_15 : K_slices_ContainsFunc_string_string_value_Check_fn1 O15 := fun p0 r h => (aV (by decide) _ _).trans (K6_14 p0 r h)
theorem K6_16 : K_slices_ContainsFunc_string_string_value_Check_fn1 O16 := fun p0 r h => (aV (by decide) _ _).trans (K6_15 p0 r h)
theorem K6_17 : K_slices_ContainsFunc_string_string_value_Check_fn1 O17 := fun p0 r h => (aV (by decide) _ _).trans (K6_16 p0 r h)
theorem K6_18 : K_slices_ContainsFunc_string_string_value_Check_fn1 O18 := fun p0 r h => (aV (by decide) _ _).trans (K6_17 p0 r h)
theorem K6_19 : K_slices_ContainsFunc_string_string_value_Check_fn1 O19 := fun p0 r h => (aV (by decide) _ _).trans (K6_18 p0 r h)
theorem K6_20 : K_slices_ContainsFunc_string_string_value_Check_fn1 O20 := fun p0 r h => (aV (by decide) _ _).trans (K6_19 p0 r h)
theorem K6_21 : K_slices_ContainsFunc_string_string_value_Check_fn1 O21 := fun p0 r h => (aV (by decide) _ _).trans (K6_20 p0 r h)
theorem K6_22 : K_slices_ContainsFunc_string_string_value_Check_fn1 O22 := fun p0 r h => (aV (by decide) _ _).trans (K6_21 p0 r h)
theorem K6_23 : K_slices_ContainsFunc_string_string_value_Check_fn1 O23 := fun p0 r h => (aV (by decide) _ _).trans (K6_22 p0 r h)
theorem K6_24 : K_slices_ContainsFunc_string_string_value_Check_fn1 O24 := fun p0 r h => (aV (by decide) _ _).trans (K6_23 p0 r h)
theorem K6_25 : K_slices_ContainsFunc_string_string_value_Check_fn1 O25 := fun p0 r h => (aV (by decide) _ _).trans (K6_24 p0 r h)
theorem K6_26 : K_slices_ContainsFunc_string_string_value_Check_fn1 O26 := fun p0 r h => (aV (by decide) _ _).trans (K6_25 p0 r h)
theorem K6_27 : K_slices_ContainsFunc_string_string_value_Check_fn1 O27 := fun p0 r h => (aV (by decide) _ _).trans (K6_26 p0 r h)
theorem K6_28 : K_slices_ContainsFunc_string_string_value_Check_fn1 O28 := fun p0 r h => (aV (by decide) _ _).trans (K6_27 p0 r h)
theorem K6_29 : K_slices_ContainsFunc_string_string_value_Check_fn1 O29 := fun p0 r h => (aV (by decide) _ _).trans (K6_28 p0 r h)
theorem K6_30 : K_slices_ContainsFunc_string_string_value_Check_fn1 O30 := fun p0 r h => (aV (by decide) _ _).trans (K6_29 p0 r h)
theorem K6_31 : K_slices_ContainsFunc_string_string_value_Check_fn1 O31 := fun p0 r h => (aV (by decide) _ _).trans (K6_30 p0 r h)
theorem K10_11 : K_slices_ContainsFunc_Pair_Pair_value_Check_fn2 O11 := fun p0 r h => (aV (by decide) _ _).trans (K10_10 p0 r h)
theorem K10_12 : K_slices_ContainsFunc_Pair_Pair_value_Check_fn2 O12 := fun p0 r h => (aV (by decide) _ _).trans (K10_11 p0 r h)
theorem K10_13 : K_slices_ContainsFunc_Pair_Pair_value_Check_fn2 O13 := fun p0 r h => (aV (by decide) _ _).trans (K10_12 p0 r h)
theorem K10_14 : K_slices_ContainsFunc_Pair_Pair_value_Check_fn2 O14 := fun p0 r h => (aV (by decide) _ _).trans (K10_13 p0 r h)
theorem K10_15 : K_slices_ContainsFunc_Pair_Pair_value_Check_fn2 O15 := fun p0 r h => (aV (by decide) _ _).trans (K10_14 p0 r h)
theorem K10_16 : K_slices_ContainsFunc_Pair_Pair_value_Check_fn2 O16 := fun p0 r h => (aV (by decide) _ _).trans (K10_15 p0 r h)
theorem K10_17 : K_slices_ContainsFunc_Pair_Pair_value_Check_fn2 O17 := fun p0 r h => (aV (by decide) _ _).trans (K10_16 p0 r h)
theorem K10_18 : K_slices_ContainsFunc_Pair_Pair_value_Check_fn2 O18 := fun p0 r h => (aV (by decide) _ _).trans (K10_17 p0 r h)
theorem K10_19 : K_slices_ContainsFunc_Pair_Pair_value_Check_fn2 O19 := fun p0 r h => (aV (by decide) _ _).trans (K10_18 p0 r h)
theorem K10_20 : K_slices_ContainsFunc_Pair_Pair_value_Check_fn2 O20 := fun p0 r h => (aV (by decide) _ _).trans (K10_19 p0 r h)
theorem K10_21 : K_slices_ContainsFunc_Pair_Pair_value_Check_fn2 O21 := fun p0 r h => (aV (by decide) _ _).trans (K10_20 p0 r h)
theorem K10_22 : K_slices_ContainsFunc_Pair_Pair_value_Check_fn2 O22 := fun p0 r h => (aV (by decide) _ _).trans (K10_21 p0 r h)
theorem K10_23 : K_slices_ContainsFunc_Pair_Pair_value_Check_fn2 O23 := fun p0 r h => (aV (by decide) _ _).trans (K10_22 p0 r h)
theorem K10_24 : K_slices_ContainsFunc_Pair_Pair_value_Check_fn2 O24 := fun p0 r h => (aV (by decide) _ _).trans (K10_23 p0 r h)
theorem K10_25 : K_slices_ContainsFunc_Pair_Pair_value_Check_fn2 O25 := fun p0 r h => (aV (by decide) _ _).trans (K10_24 p0 r h)
theorem K10_26 : K_slices_ContainsFunc_Pair_Pair_value_Check_fn2 O26 := fun p0 r h => (aV (by decide) _ _).trans (K10_25 p0 r h)
theorem K10_27 : K_slices_ContainsFunc_Pair_Pair_value_Check_fn2 O27 := fun p0 r h => (aV (by decide) _ _).trans (K10_26 p0 r h)
theorem K10_28 : K_slices_ContainsFunc_Pair_Pair_value_Check_fn2 O28 := fun p0 r h => (aV (by decide) _ _).trans (K10_27 p0 r h)
theorem K10_29 : K_slices_ContainsFunc_Pair_Pair_value_Check_fn2 O29 := fun p0 r h => (aV (by decide) _ _).trans (K10_28 p0 r h)
theorem K10_30 : K_slices_ContainsFunc_Pair_Pair_value_Check_fn2 O30 := fun p0 r h => (aV (by decide) _ _).trans (K10_29 p0 r h)
theorem K10_31 : K_slices_ContainsFunc_Pair_Pair_value_Check_fn2 O31 := fun p0 r h => (aV (by decide) _ _).trans (K10_30 p0 r h)
theorem K13_14 : K_slices_ContainsFunc_Score_Score_value_Check_fn3 O14 := fun p0 r h => (aV (by decide) _ _).trans (K13_13 p0 r h)
theorem K13_15 : K_slices_ContainsFunc_Score_Score_value_Check_fn3 O15 := fun p0 r h => (aV (by decide) _ _).trans (K13_14 p0 r h)
theorem K13_16 : K_slices_ContainsFunc_Score_Score_value_Check_fn3 O16 := fun p0 r h => (aV (by decide) _ _).trans (K13_15 p0 r h)
theorem K13_17 : K_slices_ContainsFunc_Score_Score_value_Check_fn3 O17 := fun p0 r h => (addF_other (by intro x hx; simp [a17] at hx)).trans (K13_16 p0 r h)
theorem K13_18 : K_slices_ContainsFunc_Score_Score_value_Check_fn3 O18 := fun p0 r h => (aV (by decide) _ _).trans (K13_17 p0 r h)
theorem K13_19 : K_slices_ContainsFunc_Score_Score_value_Check_fn3 O19 := fun p0 r h => (aV (by decide) _ _).trans (K13_18 p0 r h)
theorem K13_20 : K_slices_ContainsFunc_Score_Score_value_Check_fn3 O20 := fun p0 r h => (aV (by decide) _ _).trans (K13_19 p0 r h)
theorem K13_21 : K_slices_ContainsFunc_Score_Score_value_Check_fn3 O21 := fun p0 r h => (aV (by decide) _ _).trans (K13_20 p0 r h)
theorem K13_22 : K_slices_ContainsFunc_Score_Score_value_Check_fn3 O22 := fun p0 r h => (aV (by decide) _ _).trans (K13_21 p0 r h)
theorem K13_23 : K_slices_ContainsFunc_Score_Score_value_Check_fn3 O23 := fun p0 r h => (aV (by decide) _ _).trans (K13_22 p0 r h)
theorem K13_24 : K_slices_ContainsFunc_Score_Score_value_Check_fn3 O24 := fun p0 r h => (aV (by decide) _ _).trans (K13_23 p0 r h)
theorem K13_25 : K_slices_ContainsFunc_Score_Score_value_Check_fn3 O25 := fun p0 r h => (aV (by decide) _ _).trans (K13_24 p0 r h)
theorem K13_26 : K_slices_ContainsFunc_Score_Score_value_Check_fn3 O26 := fun p0 r h => (aV (by decide) _ _).trans (K13_25 p0 r h)
theorem K13_27 : K_slices_ContainsFunc_Score_Score_value_Check_fn3 O27 := fun p0 r h => (aV (by decide) _ _).trans (K13_26 p0 r h)
theorem K13_28 : K_slices_ContainsFunc_Score_Score_value_Check_fn3 O28 := fun p0 r h => (aV (by decide) _ _).trans (K13_27 p0 r h)
theorem K13_29 : K_slices_ContainsFunc_Score_Score_value_Check_fn3 O29 := fun p0 r h => (aV (by decide) _ _).trans (K13_28 p0 r h)
theorem K13_30 : K_slices_ContainsFunc_Score_Score_value_Check_fn3 O30 := fun p0 r h => (aV (by decide) _ _).trans (K13_29 p0 r h)
theorem K13_31 : K_slices_ContainsFunc_Score_Score_value_Check_fn3 O31 := fun p0 r h => (aV (by decide) _ _).trans (K13_30 p0 r h)
theorem K14_15 : K_value_count O15 := fun p0 r h => (aV (by decide) _ _).trans (K14_14 p0 r h)
theorem K14_16 : K_value_count O16 := fun p0 r h => (aV (by decide) _ _).trans (K14_15 p0 r h)
theorem K14_17 : K_value_count O17 := fun p0 r h => (aV (by decide) _ _).trans (K14_16 p0 r h)
theorem K14_18 : K_value_count O18 := fun p0 r h => (aV (by decide) _ _).trans (K14_17 p0 r h)
theorem K14_19 : K_value_count O19 := fun p0 r h => (aV (by decide) _ _).trans (K14_18 p0 r h)
theorem K14_20 : K_value_count O20 := fun p0 r h => (aV (by decide) _ _).trans (K14_19 p0 r h)
theorem K14_21 : K_value_count O21 := fun p0 r h => (aV (by decide) _ _).trans (K14_20 p0 r h)
theorem K14_22 : K_value_count O22 := fun p0 r h => (aV (by decide) _ _).trans (K14_21 p0 r h)
theorem K14_23 : K_value_count O23 := fun p0 r h => (aV (by decide) _ _).trans (K14_22 p0 r h)
theorem K14_24 : K_value_count O24 := fun p0 r h => (aV (by decide) _ _).trans (K14_23 p0 r h)
theorem K14_25 : K_value_count O25 := fun p0 r h => (aV (by decide) _ _).trans (K14_24 p0 r h)
theorem K14_26 : K_value_count O26 := fun p0 r h => (aV (by decide) _ _).trans (K14_25 p0 r h)
theorem K14_27 : K_value_count O27 := fun p0 r h => (aV (by decide) _ _).trans (K14_26 p0 r h)
theorem K14_28 : K_value_count O28 := fun p0 r h => (aV (by decide) _ _).trans (K14_27 p0 r h)
theorem K14_29 : K_value_count O29 := fun p0 r h => (aV (by decide) _ _).trans (K14_28 p0 r h)
theorem K14_30 : K_value_count O30 := fun p0 r h => (aV (by decide) _ _).trans (K14_29 p0 r h)
theorem K14_31 : K_value_count O31 := fun p0 r h => (aV (by decide) _ _).trans (K14_30 p0 r h)
theorem K17_18 : K_slices_ContainsFunc_Score_Score_value_Check_fn4 O18 := fun p0 r h => (aV (by decide) _ _).trans (K17_17 p0 r h)
theorem K17_19 : K_slices_ContainsFunc_Score_Score_value_Check_fn4 O19 := fun p0 r h => (aV (by decide) _ _).trans (K17_18 p0 r h)
theorem K17_20 : K_slices_ContainsFunc_Score_Score_value_Check_fn4 O20 := fun p0 r h => (aV (by decide) _ _).trans (K17_19 p0 r h)
theorem K17_21 : K_slices_ContainsFunc_Score_Score_value_Check_fn4 O21 := fun p0 r h => (aV (by decide) _ _).trans (K17_20 p0 r h)
theorem K17_22 : K_slices_ContainsFunc_Score_Score_value_Check_fn4 O22 := fun p0 r h => (aV (by decide) _ _).trans (K17_21 p0 r h)
theorem K17_23 : K_slices_ContainsFunc_Score_Score_value_Check_fn4 O23 := fun p0 r h => (aV (by decide) _ _).trans (K17_22 p0 r h)
theorem K17_24 : K_slices_ContainsFunc_Score_Score_value_Check_fn4 O24 := fun p0 r h => (aV (by decide) _ _).trans (K17_23 p0 r h)
theorem K17_25 : K_slices_ContainsFunc_Score_Score_value_Check_fn4 O25 := fun p0 r h => (aV (by decide) _ _).trans (K17_24 p0 r h)
theorem K17_26 : K_slices_ContainsFunc_Score_Score_value_Check_fn4 O26 := fun p0 r h => (aV (by decide) _ _).trans (K17_25 p0 r h)
theorem K17_27 : K_slices_ContainsFunc_Score_Score_value_Check_fn4 O27 := fun p0 r h => (aV (by decide) _ _).trans (K17_26 p0 r h)
theorem K17_28 : K_slices_ContainsFunc_Score_Score_value_Check_fn4 O28 := fun p0 r h => (aV (by decide) _ _).trans (K17_27 p0 r h)
theorem K17_29 : K_slices_ContainsFunc_Score_Score_value_Check_fn4 O29 := fun p0 r h => (aV (by decide) _ _).trans (K17_28 p0 r h)
theorem K17_30 : K_slices_ContainsFunc_Score_Score_value_Check_fn4 O30 := fun p0 r h => (aV (by decide) _ _).trans (K17_29 p0 r h)
theorem K17_31 : K_slices_ContainsFunc_Score_Score_value_Check_fn4 O31 := fun p0 r h => (aV (by decide) _ _).trans (K17_30 p0 r h)
theorem K22_23 : K_value_rising_Pair_value_byField O23 := fun p0 r h => (aV (by decide) _ _).trans (K22_22 p0 r h)
theorem K22_24 : K_value_rising_Pair_value_byField O24 := fun p0 r h => (aV (by decide) _ _).trans (K22_23 p0 r h)
theorem K22_25 : K_value_rising_Pair_value_byField O25 := fun p0 r h => (aV (by decide) _ _).trans (K22_24 p0 r h)
theorem K22_26 : K_value_rising_Pair_value_byField O26 := fun p0 r h => (aV (by decide) _ _).trans (K22_25 p0 r h)
theorem K22_27 : K_value_rising_Pair_value_byField O27 := fun p0 r h => (aV (by decide) _ _).trans (K22_26 p0 r h)
theorem K22_28 : K_value_rising_Pair_value_byField O28 := fun p0 r h => (aV (by decide) _ _).trans (K22_27 p0 r h)
theorem K22_29 : K_value_rising_Pair_value_byField O29 := fun p0 r h => (aV (by decide) _ _).trans (K22_28 p0 r h)
theorem K22_30 : K_value_rising_Pair_value_byField O30 := fun p0 r h => (aV (by decide) _ _).trans (K22_29 p0 r h)
theorem K22_31 : K_value_rising_Pair_value_byField O31 := fun p0 r h => (aV (by decide) _ _).trans (K22_30 p0 r h)
theorem K27_28 : K_value_rising_Score_value_byScore O28 := fun p0 r h => (aV (by decide) _ _).trans (K27_27 p0 r h)
theorem K27_29 : K_value_rising_Score_value_byScore O29 := fun p0 r h => (aV (by decide) _ _).trans (K27_28 p0 r h)
theorem K27_30 : K_value_rising_Score_value_byScore O30 := fun p0 r h => (aV (by decide) _ _).trans (K27_29 p0 r h)
theorem K27_31 : K_value_rising_Score_value_byScore O31 := fun p0 r h => (aV (by decide) _ _).trans (K27_30 p0 r h)
theorem K28_29 : K_value_rising_string_strings_Compare O29 := fun p0 r h => (aV (by decide) _ _).trans (K28_28 p0 r h)
theorem K28_30 : K_value_rising_string_strings_Compare O30 := fun p0 r h => (aV (by decide) _ _).trans (K28_29 p0 r h)
theorem K28_31 : K_value_rising_string_strings_Compare O31 := fun p0 r h => (aV (by decide) _ _).trans (K28_30 p0 r h)
def a32 (x : GValue) : List D × aA := ([.agg [.v (.i .i64 x.fKind), .v (.s x.fText), .v (.i .i64 x.fCount), .v (.sl 2 (ab GPair.row x.fPairs)), .v (.sl 1 (ab aY x.fItems)), .v (.sl 2 (ab GScore.row x.fScores))]], [])
noncomputable def O32 : ak := ak.addF O31 28 a32 (fun x => value_Check x) (fun _ (r : Int) => (.v (.i .i64 r), []))
set_option maxRecDepth 100000 in
theorem O32_sound : cE Try.prog O32 := cA O31_sound (fun x r h => cL (ν := n28) (cz O31_sound) Try.func28 (by kernel_rfl) mixed (by kernel_rfl) (Nat.le_of_ble_eq_true (by kernel_rfl)) (r_value_Check O31 K2_31 K3_31 K6_31 K10_31 K13_31 K14_31 K17_31 K22_31 K27_31 K28_31 K31_31 x r h))
theorem inj32 : ∀ x y, a32 x = a32 y → x = y := by
  rintro ⟨ua1, ua2, ua3, ua4, ua5, ua6⟩ ⟨ub1, ub2, ub3, ub4, ub5, ub6⟩ h
  simp only [a32, Prod.mk.injEq, List.cons.injEq, D.v.injEq, D.own.injEq, D.agg.injEq, D.rp.injEq, D.clo.injEq, D.ptr.injEq, V.i.injEq, V.s.injEq, V.b.injEq, V.sl.injEq, cw, cv, cu, GLog.map_inj, GCommand.map_inj, GCall.map_inj, GItem.map_inj, GValue.map_inj, GStore.map_inj, GMachine.map_inj, GSnap.map_inj, Gwriter.map_inj, GPair.map_inj, GScore.map_inj, GEntry.map_inj, Greader.map_inj, Gscan.map_inj, GReply.map_inj, GClient.map_inj, true_and, and_true] at h
  simp only [Prod.mk.injEq, GValue.mk.injEq, h, and_self]
theorem K32_32 : K_value_Check O32 := fun p0 r h => cM (x := p0) inj32 h
def a33 (x : Int × Int × Int) : List D × aA := ([.v (.i .i64 x.1), .v (.i .i64 x.2.1), .v (.i .i64 x.2.2)], [])
noncomputable def O33 : ak := ak.addF O32 55 a33 (fun x => rostrumref_In x.1 x.2.1 x.2.2) (fun _ (r : Bool) => (.v (.b r), []))
set_option maxRecDepth 100000 in
theorem O33_sound : cE Try.prog O33 := cA O32_sound (fun x r h => cL (ν := n55) (cz O32_sound) Try.func55 (by kernel_rfl) mixed (by kernel_rfl) (Nat.le_of_ble_eq_true (by kernel_rfl)) (r_rostrumref_In O32 x.1 x.2.1 x.2.2 r h))
theorem inj33 : ∀ x y, a33 x = a33 y → x = y := by
  rintro ⟨ua1, ua2, ua3⟩ ⟨ub1, ub2, ub3⟩ h
  simp only [a33, Prod.mk.injEq, List.cons.injEq, D.v.injEq, D.own.injEq, D.agg.injEq, D.rp.injEq, D.clo.injEq, D.ptr.injEq, V.i.injEq, V.s.injEq, V.b.injEq, V.sl.injEq, cw, cv, cu, GLog.map_inj, GCommand.map_inj, GCall.map_inj, GItem.map_inj, GValue.map_inj, GStore.map_inj, GMachine.map_inj, GSnap.map_inj, Gwriter.map_inj, GPair.map_inj, GScore.map_inj, GEntry.map_inj, Greader.map_inj, Gscan.map_inj, GReply.map_inj, GClient.map_inj, true_and, and_true] at h
  simp only [Prod.mk.injEq, h, and_self]
theorem K33_33 : K_rostrumref_In O33 := fun p0 p1 p2 r h => cM (x := (p0, p1, p2)) inj33 h
def a34 (x : GValue) : List D × aA := ([.agg [.v (.i .i64 x.fKind), .v (.s x.fText), .v (.i .i64 x.fCount), .v (.sl 2 (ab GPair.row x.fPairs)), .v (.sl 1 (ab aY x.fItems)), .v (.sl 2 (ab GScore.row x.fScores))]], [])
noncomputable def O34 : ak := ak.addF O33 79 a34 (fun x => rostrumref_sizeOf x) (fun _ (r : Int) => (.v (.i .i64 r), []))
set_option maxRecDepth 100000 in
theorem O34_sound : cE Try.prog O34 := cA O33_sound (fun x r h => cL (ν := n79) (cz O33_sound) Try.func79 (by kernel_rfl) mixed (by kernel_rfl) (Nat.le_of_ble_eq_true (by kernel_rfl)) (r_rostrumref_sizeOf O33 x r h))
theorem inj34 : ∀ x y, a34 x = a34 y → x = y := by
  rintro ⟨ua1, ua2, ua3, ua4, ua5, ua6⟩ ⟨ub1, ub2, ub3, ub4, ub5, ub6⟩ h
  simp only [a34, Prod.mk.injEq, List.cons.injEq, D.v.injEq, D.own.injEq, D.agg.injEq, D.rp.injEq, D.clo.injEq, D.ptr.injEq, V.i.injEq, V.s.injEq, V.b.injEq, V.sl.injEq, cw, cv, cu, GLog.map_inj, GCommand.map_inj, GCall.map_inj, GItem.map_inj, GValue.map_inj, GStore.map_inj, GMachine.map_inj, GSnap.map_inj, Gwriter.map_inj, GPair.map_inj, GScore.map_inj, GEntry.map_inj, Greader.map_inj, Gscan.map_inj, GReply.map_inj, GClient.map_inj, true_and, and_true] at h
  simp only [Prod.mk.injEq, GValue.mk.injEq, h, and_self]
theorem K34_34 : K_rostrumref_sizeOf O34 := fun p0 r h => cM (x := p0) inj34 h
def a35 (x : ByteArray) : List D × aA := ([.v (.s x)], [])
noncomputable def O35 : ak := ak.addF O34 80 a35 (fun x => rostrumref_textMay x) (fun _ (r : Bool) => (.v (.b r), []))
set_option maxRecDepth 100000 in
theorem O35_sound : cE Try.prog O35 := cA O34_sound (fun x r h => cL (ν := n80) (cz O34_sound) Try.func80 (by kernel_rfl) mixed (by kernel_rfl) (Nat.le_of_ble_eq_true (by kernel_rfl)) (r_rostrumref_textMay O34 x r h))
theorem inj35 : ∀ x y, a35 x = a35 y → x = y := by
  rintro ua1 ub1 h
  simp only [a35, Prod.mk.injEq, List.cons.injEq, D.v.injEq, D.own.injEq, D.agg.injEq, D.rp.injEq, D.clo.injEq, D.ptr.injEq, V.i.injEq, V.s.injEq, V.b.injEq, V.sl.injEq, cw, cv, cu, GLog.map_inj, GCommand.map_inj, GCall.map_inj, GItem.map_inj, GValue.map_inj, GStore.map_inj, GMachine.map_inj, GSnap.map_inj, Gwriter.map_inj, GPair.map_inj, GScore.map_inj, GEntry.map_inj, Greader.map_inj, Gscan.map_inj, GReply.map_inj, GClient.map_inj, true_and, and_true] at h
  exact h
theorem K35_35 : K_rostrumref_textMay O35 := fun p0 r h => cM (x := p0) inj35 h
theorem K33_34 : K_rostrumref_In O34 := fun p0 p1 p2 r h => (aV (by decide) _ _).trans (K33_33 p0 p1 p2 r h)
theorem K33_35 : K_rostrumref_In O35 := fun p0 p1 p2 r h => (aV (by decide) _ _).trans (K33_34 p0 p1 p2 r h)
def a36 (x : Int) : List D × aA := ([.v (.i .i64 x)], [])
noncomputable def O36 : ak := ak.addF O35 82 a36 (fun x => rostrumref_countMay x) (fun _ (r : Bool) => (.v (.b r), []))
set_option maxRecDepth 100000 in
theorem O36_sound : cE Try.prog O36 := cA O35_sound (fun x r h => cL (ν := n82) (cz O35_sound) Try.func82 (by kernel_rfl) mixed (by kernel_rfl) (Nat.le_of_ble_eq_true (by kernel_rfl)) (r_rostrumref_countMay O35 K33_35 x r h))
theorem inj36 : ∀ x y, a36 x = a36 y → x = y := by
  rintro ua1 ub1 h
  simp only [a36, Prod.mk.injEq, List.cons.injEq, D.v.injEq, D.own.injEq, D.agg.injEq, D.rp.injEq, D.clo.injEq, D.ptr.injEq, V.i.injEq, V.s.injEq, V.b.injEq, V.sl.injEq, cw, cv, cu, GLog.map_inj, GCommand.map_inj, GCall.map_inj, GItem.map_inj, GValue.map_inj, GStore.map_inj, GMachine.map_inj, GSnap.map_inj, Gwriter.map_inj, GPair.map_inj, GScore.map_inj, GEntry.map_inj, Greader.map_inj, Gscan.map_inj, GReply.map_inj, GClient.map_inj, true_and, and_true] at h
  exact h
theorem K36_36 : K_rostrumref_countMay O36 := fun p0 r h => cM (x := p0) inj36 h
theorem K33_36 : K_rostrumref_In O36 := fun p0 p1 p2 r h => (aV (by decide) _ _).trans (K33_35 p0 p1 p2 r h)
def a37 (x : ByteArray) : List D × aA := ([.v (.s x)], [])
noncomputable def O37 : ak := ak.addF O36 81 a37 (fun x => rostrumref_fieldMay x) (fun _ (r : Bool) => (.v (.b r), []))
set_option maxRecDepth 100000 in
theorem O37_sound : cE Try.prog O37 := cA O36_sound (fun x r h => cL (ν := n81) (cz O36_sound) Try.func81 (by kernel_rfl) mixed (by kernel_rfl) (Nat.le_of_ble_eq_true (by kernel_rfl)) (r_rostrumref_fieldMay O36 K33_36 x r h))
theorem inj37 : ∀ x y, a37 x = a37 y → x = y := by
  rintro ua1 ub1 h
  simp only [a37, Prod.mk.injEq, List.cons.injEq, D.v.injEq, D.own.injEq, D.agg.injEq, D.rp.injEq, D.clo.injEq, D.ptr.injEq, V.i.injEq, V.s.injEq, V.b.injEq, V.sl.injEq, cw, cv, cu, GLog.map_inj, GCommand.map_inj, GCall.map_inj, GItem.map_inj, GValue.map_inj, GStore.map_inj, GMachine.map_inj, GSnap.map_inj, Gwriter.map_inj, GPair.map_inj, GScore.map_inj, GEntry.map_inj, Greader.map_inj, Gscan.map_inj, GReply.map_inj, GClient.map_inj, true_and, and_true] at h
  exact h
theorem K37_37 : K_rostrumref_fieldMay O37 := fun p0 r h => cM (x := p0) inj37 h
def a38 (x : GScore × GScore) : List D × aA := ([.agg [.v (.s x.1.fMember), .v (.i .i64 x.1.fN)], .agg [.v (.s x.2.fMember), .v (.i .i64 x.2.fN)]], [])
noncomputable def O38 : ak := ak.addF O37 83 a38 (fun x => rostrumref_scoreAhead x.1 x.2) (fun _ (r : Bool) => (.v (.b r), []))
set_option maxRecDepth 100000 in
theorem O38_sound : cE Try.prog O38 := cA O37_sound (fun x r h => cL (ν := n83) (cz O37_sound) Try.func83 (by kernel_rfl) mixed (by kernel_rfl) (Nat.le_of_ble_eq_true (by kernel_rfl)) (r_rostrumref_scoreAhead O37 x.1 x.2 r h))
theorem inj38 : ∀ x y, a38 x = a38 y → x = y := by
  rintro ⟨⟨ua1, ua2⟩, ⟨ua3, ua4⟩⟩ ⟨⟨ub1, ub2⟩, ⟨ub3, ub4⟩⟩ h
  simp only [a38, Prod.mk.injEq, List.cons.injEq, D.v.injEq, D.own.injEq, D.agg.injEq, D.rp.injEq, D.clo.injEq, D.ptr.injEq, V.i.injEq, V.s.injEq, V.b.injEq, V.sl.injEq, cw, cv, cu, GLog.map_inj, GCommand.map_inj, GCall.map_inj, GItem.map_inj, GValue.map_inj, GStore.map_inj, GMachine.map_inj, GSnap.map_inj, Gwriter.map_inj, GPair.map_inj, GScore.map_inj, GEntry.map_inj, Greader.map_inj, Gscan.map_inj, GReply.map_inj, GClient.map_inj, true_and, and_true] at h
  simp only [Prod.mk.injEq, GScore.mk.injEq, h, and_self]
theorem K38_38 : K_rostrumref_scoreAhead O38 := fun p0 p1 r h => cM (x := (p0, p1)) inj38 h
def a39 (x : (List GScore) × ByteArray) : List D × aA := ([.v (.sl 2 (ab GScore.row x.1)), .v (.s x.2)], [])
noncomputable def O39 : ak := ak.addF O38 84 a39 (fun x => rostrumref_memberAt x.1 x.2) (fun _ (r : Int) => (.v (.i .i64 r), []))
set_option maxRecDepth 100000 in
theorem O39_sound : cE Try.prog O39 := cA O38_sound (fun x r h => cL (ν := n84) (cz O38_sound) Try.func84 (by kernel_rfl) mixed (by kernel_rfl) (Nat.le_of_ble_eq_true (by kernel_rfl)) (r_rostrumref_memberAt O38 x.1 x.2 r h))
theorem inj39 : ∀ x y, a39 x = a39 y → x = y := by
  rintro ⟨ua1, ua2⟩ ⟨ub1, ub2⟩ h
  simp only [a39, Prod.mk.injEq, List.cons.injEq, D.v.injEq, D.own.injEq, D.agg.injEq, D.rp.injEq, D.clo.injEq, D.ptr.injEq, V.i.injEq, V.s.injEq, V.b.injEq, V.sl.injEq, cw, cv, cu, GLog.map_inj, GCommand.map_inj, GCall.map_inj, GItem.map_inj, GValue.map_inj, GStore.map_inj, GMachine.map_inj, GSnap.map_inj, Gwriter.map_inj, GPair.map_inj, GScore.map_inj, GEntry.map_inj, Greader.map_inj, Gscan.map_inj, GReply.map_inj, GClient.map_inj, true_and, and_true] at h
  simp only [Prod.mk.injEq, h, and_self]
theorem K39_39 : K_rostrumref_memberAt O39 := fun p0 p1 r h => cM (x := (p0, p1)) inj39 h
theorem K33_37 : K_rostrumref_In O37 := fun p0 p1 p2 r h => (aV (by decide) _ _).trans (K33_36 p0 p1 p2 r h)
theorem K33_38 : K_rostrumref_In O38 := fun p0 p1 p2 r h => (aV (by decide) _ _).trans (K33_37 p0 p1 p2 r h)
theorem K33_39 : K_rostrumref_In O39 := fun p0 p1 p2 r h => (aV (by decide) _ _).trans (K33_38 p0 p1 p2 r h)
theorem K34_35 : K_rostrumref_sizeOf O35 := fun p0 r h => (aV (by decide) _ _).trans (K34_34 p0 r h)
theorem K34_36 : K_rostrumref_sizeOf O36 := fun p0 r h => (aV (by decide) _ _).trans (K34_35 p0 r h)
theorem K34_37 : K_rostrumref_sizeOf O37 := fun p0 r h => (aV (by decide) _ _).trans (K34_36 p0 r h)
theorem K34_38 : K_rostrumref_sizeOf O38 := fun p0 r h => (aV (by decide) _ _).trans (K34_37 p0 r h)
theorem K34_39 : K_rostrumref_sizeOf O39 := fun p0 r h => (aV (by decide) _ _).trans (K34_38 p0 r h)
theorem K35_36 : K_rostrumref_textMay O36 := fun p0 r h => (aV (by decide) _ _).trans (K35_35 p0 r h)
theorem K35_37 : K_rostrumref_textMay O37 := fun p0 r h => (aV (by decide) _ _).trans (K35_36 p0 r h)
theorem K35_38 : K_rostrumref_textMay O38 := fun p0 r h => (aV (by decide) _ _).trans (K35_37 p0 r h)
theorem K35_39 : K_rostrumref_textMay O39 := fun p0 r h => (aV (by decide) _ _).trans (K35_38 p0 r h)
theorem K36_37 : K_rostrumref_countMay O37 := fun p0 r h => (aV (by decide) _ _).trans (K36_36 p0 r h)
theorem K36_38 : K_rostrumref_countMay O38 := fun p0 r h => (aV (by decide) _ _).trans (K36_37 p0 r h)
theorem K36_39 : K_rostrumref_countMay O39 := fun p0 r h => (aV (by decide) _ _).trans (K36_38 p0 r h)
theorem K37_38 : K_rostrumref_fieldMay O38 := fun p0 r h => (aV (by decide) _ _).trans (K37_37 p0 r h)
theorem K37_39 : K_rostrumref_fieldMay O39 := fun p0 r h => (aV (by decide) _ _).trans (K37_38 p0 r h)
theorem K38_39 : K_rostrumref_scoreAhead O39 := fun p0 p1 r h => (aV (by decide) _ _).trans (K38_38 p0 p1 r h)
def a40 (x : GValue) : List D × aA := ([.agg [.v (.i .i64 x.fKind), .v (.s x.fText), .v (.i .i64 x.fCount), .v (.sl 2 (ab GPair.row x.fPairs)), .v (.sl 1 (ab aY x.fItems)), .v (.sl 2 (ab GScore.row x.fScores))]], [])
noncomputable def O40 : ak := ak.addF O39 30 a40 (fun x => rostrumref_ValueFault x) (fun _ (r : Int) => (.v (.i .i64 r), []))
set_option maxRecDepth 100000 in
theorem O40_sound : cE Try.prog O40 := cA O39_sound (fun x r h => cL (ν := n30) (cz O39_sound) Try.func30 (by kernel_rfl) mixed (by kernel_rfl) (Nat.le_of_ble_eq_true (by kernel_rfl)) (r_rostrumref_ValueFault O39 K33_39 K34_39 K35_39 K36_39 K37_39 K38_39 K39_39 x r h))
theorem inj40 : ∀ x y, a40 x = a40 y → x = y := by
  rintro ⟨ua1, ua2, ua3, ua4, ua5, ua6⟩ ⟨ub1, ub2, ub3, ub4, ub5, ub6⟩ h
  simp only [a40, Prod.mk.injEq, List.cons.injEq, D.v.injEq, D.own.injEq, D.agg.injEq, D.rp.injEq, D.clo.injEq, D.ptr.injEq, V.i.injEq, V.s.injEq, V.b.injEq, V.sl.injEq, cw, cv, cu, GLog.map_inj, GCommand.map_inj, GCall.map_inj, GItem.map_inj, GValue.map_inj, GStore.map_inj, GMachine.map_inj, GSnap.map_inj, Gwriter.map_inj, GPair.map_inj, GScore.map_inj, GEntry.map_inj, Greader.map_inj, Gscan.map_inj, GReply.map_inj, GClient.map_inj, true_and, and_true] at h
  simp only [Prod.mk.injEq, GValue.mk.injEq, h, and_self]
theorem K40_40 : K_rostrumref_ValueFault O40 := fun p0 r h => cM (x := p0) inj40 h
theorem K1_2 : K_rostrumref_ValueCopy_z O2 := fun p0 r h => (aV (by decide) _ _).trans (K1_1 p0 r h)
theorem K1_3 : K_rostrumref_ValueCopy_z O3 := fun p0 r h => (aV (by decide) _ _).trans (K1_2 p0 r h)
theorem K1_4 : K_rostrumref_ValueCopy_z O4 := fun p0 r h => (aV (by decide) _ _).trans (K1_3 p0 r h)
theorem K1_5 : K_rostrumref_ValueCopy_z O5 := fun p0 r h => (aV (by decide) _ _).trans (K1_4 p0 r h)
theorem K1_6 : K_rostrumref_ValueCopy_z O6 := fun p0 r h => (aV (by decide) _ _).trans (K1_5 p0 r h)
theorem K1_7 : K_rostrumref_ValueCopy_z O7 := fun p0 r h => (aV (by decide) _ _).trans (K1_6 p0 r h)
theorem K1_8 : K_rostrumref_ValueCopy_z O8 := fun p0 r h => (aV (by decide) _ _).trans (K1_7 p0 r h)
theorem K1_9 : K_rostrumref_ValueCopy_z O9 := fun p0 r h => (aV (by decide) _ _).trans (K1_8 p0 r h)
theorem K1_10 : K_rostrumref_ValueCopy_z O10 := fun p0 r h => (aV (by decide) _ _).trans (K1_9 p0 r h)
theorem K1_11 : K_rostrumref_ValueCopy_z O11 := fun p0 r h => (aV (by decide) _ _).trans (K1_10 p0 r h)
theorem K1_12 : K_rostrumref_ValueCopy_z O12 := fun p0 r h => (aV (by decide) _ _).trans (K1_11 p0 r h)
theorem K1_13 : K_rostrumref_ValueCopy_z O13 := fun p0 r h => (aV (by decide) _ _).trans (K1_12 p0 r h)
theorem K1_14 : K_rostrumref_ValueCopy_z O14 := fun p0 r h => (aV (by decide) _ _).trans (K1_13 p0 r h)
theorem K1_15 : K_rostrumref_ValueCopy_z O15 := fun p0 r h => (aV (by decide) _ _).trans (K1_14 p0 r h)
theorem K1_16 : K_rostrumref_ValueCopy_z O16 := fun p0 r h => (aV (by decide) _ _).trans (K1_15 p0 r h)
theorem K1_17 : K_rostrumref_ValueCopy_z O17 := fun p0 r h => (aV (by decide) _ _).trans (K1_16 p0 r h)
theorem K1_18 : K_rostrumref_ValueCopy_z O18 := fun p0 r h => (aV (by decide) _ _).trans (K1_17 p0 r h)
theorem K1_19 : K_rostrumref_ValueCopy_z O19 := fun p0 r h => (aV (by decide) _ _).trans (K1_18 p0 r h)
theorem K1_20 : K_rostrumref_ValueCopy_z O20 := fun p0 r h => (aV (by decide) _ _).trans (K1_19 p0 r h)
theorem K1_21 : K_rostrumref_ValueCopy_z O21 := fun p0 r h => (aV (by decide) _ _).trans (K1_20 p0 r h)
theorem K1_22 : K_rostrumref_ValueCopy_z O22 := fun p0 r h => (aV (by decide) _ _).trans (K1_21 p0 r h)
theorem K1_23 : K_rostrumref_ValueCopy_z O23 := fun p0 r h => (aV (by decide) _ _).trans (K1_22 p0 r h)
theorem K1_24 : K_rostrumref_ValueCopy_z O24 := fun p0 r h => (aV (by decide) _ _).trans (K1_23 p0 r h)
theorem K1_25 : K_rostrumref_ValueCopy_z O25 := fun p0 r h => (aV (by decide) _ _).trans (K1_24 p0 r h)
theorem K1_26 : K_rostrumref_ValueCopy_z O26 := fun p0 r h => (aV (by decide) _ _).trans (K1_25 p0 r h)
theorem K1_27 : K_rostrumref_ValueCopy_z O27 := fun p0 r h => (aV (by decide) _ _).trans (K1_26 p0 r h)
theorem K1_28 : K_rostrumref_ValueCopy_z O28 := fun p0 r h => (aV (by decide) _ _).trans (K1_27 p0 r h)
theorem K1_29 : K_rostrumref_ValueCopy_z O29 := fun p0 r h => (aV (by decide) _ _).trans (K1_28 p0 r h)
theorem K1_30 : K_rostrumref_ValueCopy_z O30 := fun p0 r h => (aV (by decide) _ _).trans (K1_29 p0 r h)
theorem K1_31 : K_rostrumref_ValueCopy_z O31 := fun p0 r h => (aV (by decide) _ _).trans (K1_30 p0 r h)
theorem K1_32 : K_rostrumref_ValueCopy_z O32 := fun p0 r h => (aV (by decide) _ _).trans (K1_31 p0 r h)
theorem K1_33 : K_rostrumref_ValueCopy_z O33 := fun p0 r h => (aV (by decide) _ _).trans (K1_32 p0 r h)
theorem K1_34 : K_rostrumref_ValueCopy_z O34 := fun p0 r h => (aV (by decide) _ _).trans (K1_33 p0 r h)
theorem K1_35 : K_rostrumref_ValueCopy_z O35 := fun p0 r h => (aV (by decide) _ _).trans (K1_34 p0 r h)
theorem K1_36 : K_rostrumref_ValueCopy_z O36 := fun p0 r h => (aV (by decide) _ _).trans (K1_35 p0 r h)
theorem K1_37 : K_rostrumref_ValueCopy_z O37 := fun p0 r h => (aV (by decide) _ _).trans (K1_36 p0 r h)
theorem K1_38 : K_rostrumref_ValueCopy_z O38 := fun p0 r h => (aV (by decide) _ _).trans (K1_37 p0 r h)
theorem K1_39 : K_rostrumref_ValueCopy_z O39 := fun p0 r h => (aV (by decide) _ _).trans (K1_38 p0 r h)
theorem K1_40 : K_rostrumref_ValueCopy_z O40 := fun p0 r h => (aV (by decide) _ _).trans (K1_39 p0 r h)
theorem K32_33 : K_value_Check O33 := fun p0 r h => (aV (by decide) _ _).trans (K32_32 p0 r h)
theorem K32_34 : K_value_Check O34 := fun p0 r h => (aV (by decide) _ _).trans (K32_33 p0 r h)
theorem K32_35 : K_value_Check O35 := fun p0 r h => (aV (by decide) _ _).trans (K32_34 p0 r h)
theorem K32_36 : K_value_Check O36 := fun p0 r h => (aV (by decide) _ _).trans (K32_35 p0 r h)
theorem K32_37 : K_value_Check O37 := fun p0 r h => (aV (by decide) _ _).trans (K32_36 p0 r h)
theorem K32_38 : K_value_Check O38 := fun p0 r h => (aV (by decide) _ _).trans (K32_37 p0 r h)
theorem K32_39 : K_value_Check O39 := fun p0 r h => (aV (by decide) _ _).trans (K32_38 p0 r h)
theorem K32_40 : K_value_Check O40 := fun p0 r h => (aV (by decide) _ _).trans (K32_39 p0 r h)
set_option maxRecDepth 100000 in
theorem sem (rs : List (List V)) (h : HasAll Try.prog [53] rs) : Mx.Sem Try.prog 8 (argsD Try.prog [53] rs) [] (.v (.b true)) [] := by
  obtain ⟨r0, _, rfl, a0, b0⟩ := HasAll.cons h
  obtain rfl := HasAll.nil b0
  obtain ⟨x0, rfl, o0⟩ := GValue.of53 a0
  simp only [argsD, argD_struct Try.underlying53]
  exact cL (ν := n8) (cz O40_sound) Try.func8 (by kernel_rfl) mixed (by kernel_rfl) (Nat.le_of_ble_eq_true (by kernel_rfl)) (r_rostrumlaw_ValueChecks O40 K1_40 K32_40 K40_40 x0 true (ValueChecks_pure x0 o0))
end CValueChecks
end Go.Proofs.Ytnjkmbogbfjffaa
