/- The chain of contracts of the law LedgerMatches, over the functions that it reaches. -/
import Derived.Test.YtnjkmbogbfjffaaLedgerMatchesZa
import Derived.Test.YtnjkmbogbfjffaaLedgerMatchesZb
import Derived.Test.YtnjkmbogbfjffaaLedgerMatchesP
set_option linter.unusedSimpArgs false
set_option linter.unusedVariables false
set_option linter.constructorNameAsVariable false
set_option linter.unnecessarySimpa false
namespace Go.Proofs.Ytnjkmbogbfjffaa
open Go Go.Mx Go.Proofs
namespace CLedgerMatches
theorem argD_slice {P : Program} {t e : TypeId} {x : V} (hu : P.underlying t = some (.slice e)) : argD P t [x] = .v x := by simp only [argD, hu]
theorem argD_str {P : Program} {t : TypeId} {x : V} (hu : P.underlying t = some .string) : argD P t [x] = .v x := by simp only [argD, hu]
def a1 (x : GLog) : List D × aA := ([.agg [.v (.i .i64 x.fBase), .v (.i .i64 x.fBaseTerm), .v (.sl 10 (ab GItem.row x.fItems))]], [])
noncomputable def O1 : ak := ak.addF noC 16 a1 (fun x => rostrumref_LogCopy_z x) (fun _ (r : GLog) => (.agg [.v (.i .i64 r.fBase), .v (.i .i64 r.fBaseTerm), .v (.sl 10 (ab GItem.row r.fItems))], []))
set_option maxRecDepth 100000 in
theorem O1_sound : cE Try.prog O1 := cA (noC_sound _) (fun x r h => by
  obtain ⟨d, S, h1, h2, h3⟩ := r_rostrumref_LogCopy_z noC x r h
  have h4 := Mx.Sem.frozen (cL (ν := n16) (cz (noC_sound _)) Try.func16 (by kernel_rfl) mixed (by kernel_rfl) (Nat.le_of_ble_eq_true (by kernel_rfl)) h1) h2
  obtain ⟨e1, e2⟩ := Prod.mk.inj h3
  rw [e1] at h4; rw [e2] at h4; exact h4)
theorem inj1 : ∀ x y, a1 x = a1 y → x = y := by
  rintro ⟨ua1, ua2, ua3⟩ ⟨ub1, ub2, ub3⟩ h
  simp only [a1, Prod.mk.injEq, List.cons.injEq, D.v.injEq, D.own.injEq, D.agg.injEq, D.rp.injEq, D.clo.injEq, D.ptr.injEq, V.i.injEq, V.s.injEq, V.b.injEq, V.sl.injEq, cw, cv, cu, GLog.map_inj, GCommand.map_inj, GCall.map_inj, GItem.map_inj, GValue.map_inj, GStore.map_inj, GMachine.map_inj, GSnap.map_inj, Gwriter.map_inj, GPair.map_inj, GScore.map_inj, GEntry.map_inj, Greader.map_inj, Gscan.map_inj, GReply.map_inj, GClient.map_inj, true_and, and_true] at h
  simp only [Prod.mk.injEq, GLog.mk.injEq, h, and_self]
theorem K1_1 : K_rostrumref_LogCopy_z O1 := fun p0 r h => cM (x := p0) inj1 h
def a2 (x : (List GItem)) : List D × aA := ([.v (.sl 10 (ab GItem.row x))], [])
noncomputable def O2 : ak := ak.addF O1 32 a2 (fun x => rostrumlaw_items_z x) (fun _ (r : (List GItem)) => (.v (.sl 10 (ab GItem.row r)), []))
set_option maxRecDepth 100000 in
theorem O2_sound : cE Try.prog O2 := cA O1_sound (fun x r h => by
  obtain ⟨d, S, h1, h2, h3⟩ := r_rostrumlaw_items_z O1 x r h
  have h4 := Mx.Sem.frozen (cL (ν := n32) (cz O1_sound) Try.func32 (by kernel_rfl) mixed (by kernel_rfl) (Nat.le_of_ble_eq_true (by kernel_rfl)) h1) h2
  obtain ⟨e1, e2⟩ := Prod.mk.inj h3
  rw [e1] at h4; rw [e2] at h4; exact h4)
theorem inj2 : ∀ x y, a2 x = a2 y → x = y := by
  rintro ua1 ub1 h
  simp only [a2, Prod.mk.injEq, List.cons.injEq, D.v.injEq, D.own.injEq, D.agg.injEq, D.rp.injEq, D.clo.injEq, D.ptr.injEq, V.i.injEq, V.s.injEq, V.b.injEq, V.sl.injEq, cw, cv, cu, GLog.map_inj, GCommand.map_inj, GCall.map_inj, GItem.map_inj, GValue.map_inj, GStore.map_inj, GMachine.map_inj, GSnap.map_inj, Gwriter.map_inj, GPair.map_inj, GScore.map_inj, GEntry.map_inj, Greader.map_inj, Gscan.map_inj, GReply.map_inj, GClient.map_inj, true_and, and_true] at h
  exact h
theorem K2_2 : K_rostrumlaw_items_z O2 := fun p0 r h => cM (x := p0) inj2 h
def a3 (x : Int) : List D × aA := ([.v (.i .i64 x)], [])
noncomputable def O3 : ak := ak.addF O2 127 a3 (fun x => client_number x) (fun _ (r : Bool) => (.v (.b r), []))
set_option maxRecDepth 100000 in
theorem O3_sound : cE Try.prog O3 := cA O2_sound (fun x r h => cL (ν := n127) (cz O2_sound) Try.func127 (by kernel_rfl) mixed (by kernel_rfl) (Nat.le_of_ble_eq_true (by kernel_rfl)) (r_client_number O2 x r h))
theorem inj3 : ∀ x y, a3 x = a3 y → x = y := by
  rintro ua1 ub1 h
  simp only [a3, Prod.mk.injEq, List.cons.injEq, D.v.injEq, D.own.injEq, D.agg.injEq, D.rp.injEq, D.clo.injEq, D.ptr.injEq, V.i.injEq, V.s.injEq, V.b.injEq, V.sl.injEq, cw, cv, cu, GLog.map_inj, GCommand.map_inj, GCall.map_inj, GItem.map_inj, GValue.map_inj, GStore.map_inj, GMachine.map_inj, GSnap.map_inj, Gwriter.map_inj, GPair.map_inj, GScore.map_inj, GEntry.map_inj, Greader.map_inj, Gscan.map_inj, GReply.map_inj, GClient.map_inj, true_and, and_true] at h
  exact h
theorem K3_3 : K_client_number O3 := fun p0 r h => cM (x := p0) inj3 h
def a4 (x : ByteArray) : List D × aA := ([.v (.s x)], [])
noncomputable def O4 : ak := ak.addF O3 67 a4 (fun x => value_field x) (fun _ (r : Bool) => (.v (.b r), []))
set_option maxRecDepth 100000 in
theorem O4_sound : cE Try.prog O4 := cA O3_sound (fun x r h => cL (ν := n67) (cz O3_sound) Try.func67 (by kernel_rfl) mixed (by kernel_rfl) (Nat.le_of_ble_eq_true (by kernel_rfl)) (r_value_field O3 x r h))
theorem inj4 : ∀ x y, a4 x = a4 y → x = y := by
  rintro ua1 ub1 h
  simp only [a4, Prod.mk.injEq, List.cons.injEq, D.v.injEq, D.own.injEq, D.agg.injEq, D.rp.injEq, D.clo.injEq, D.ptr.injEq, V.i.injEq, V.s.injEq, V.b.injEq, V.sl.injEq, cw, cv, cu, GLog.map_inj, GCommand.map_inj, GCall.map_inj, GItem.map_inj, GValue.map_inj, GStore.map_inj, GMachine.map_inj, GSnap.map_inj, Gwriter.map_inj, GPair.map_inj, GScore.map_inj, GEntry.map_inj, Greader.map_inj, Gscan.map_inj, GReply.map_inj, GClient.map_inj, true_and, and_true] at h
  exact h
theorem K4_4 : K_value_field O4 := fun p0 r h => cM (x := p0) inj4 h
def a5 (x : ByteArray) : List D × aA := ([.v (.s x)], [])
noncomputable def O5 : ak := ak.addF O4 62 a5 (fun x => value_text x) (fun _ (r : Bool) => (.v (.b r), []))
set_option maxRecDepth 100000 in
theorem O5_sound : cE Try.prog O5 := cA O4_sound (fun x r h => cL (ν := n62) (cz O4_sound) Try.func62 (by kernel_rfl) mixed (by kernel_rfl) (Nat.le_of_ble_eq_true (by kernel_rfl)) (r_value_text O4 x r h))
theorem inj5 : ∀ x y, a5 x = a5 y → x = y := by
  rintro ua1 ub1 h
  simp only [a5, Prod.mk.injEq, List.cons.injEq, D.v.injEq, D.own.injEq, D.agg.injEq, D.rp.injEq, D.clo.injEq, D.ptr.injEq, V.i.injEq, V.s.injEq, V.b.injEq, V.sl.injEq, cw, cv, cu, GLog.map_inj, GCommand.map_inj, GCall.map_inj, GItem.map_inj, GValue.map_inj, GStore.map_inj, GMachine.map_inj, GSnap.map_inj, Gwriter.map_inj, GPair.map_inj, GScore.map_inj, GEntry.map_inj, Greader.map_inj, Gscan.map_inj, GReply.map_inj, GClient.map_inj, true_and, and_true] at h
  exact h
theorem K5_5 : K_value_text O5 := fun p0 r h => cM (x := p0) inj5 h
def a6 (x : Int) : List D × aA := ([.v (.i .i64 x)], [])
noncomputable def O6 : ak := ak.addF O5 70 a6 (fun x => value_count x) (fun _ (r : Bool) => (.v (.b r), []))
set_option maxRecDepth 100000 in
theorem O6_sound : cE Try.prog O6 := cA O5_sound (fun x r h => cL (ν := n70) (cz O5_sound) Try.func70 (by kernel_rfl) mixed (by kernel_rfl) (Nat.le_of_ble_eq_true (by kernel_rfl)) (r_value_count O5 x r h))
theorem inj6 : ∀ x y, a6 x = a6 y → x = y := by
  rintro ua1 ub1 h
  simp only [a6, Prod.mk.injEq, List.cons.injEq, D.v.injEq, D.own.injEq, D.agg.injEq, D.rp.injEq, D.clo.injEq, D.ptr.injEq, V.i.injEq, V.s.injEq, V.b.injEq, V.sl.injEq, cw, cv, cu, GLog.map_inj, GCommand.map_inj, GCall.map_inj, GItem.map_inj, GValue.map_inj, GStore.map_inj, GMachine.map_inj, GSnap.map_inj, Gwriter.map_inj, GPair.map_inj, GScore.map_inj, GEntry.map_inj, Greader.map_inj, Gscan.map_inj, GReply.map_inj, GClient.map_inj, true_and, and_true] at h
  exact h
theorem K6_6 : K_value_count O6 := fun p0 r h => cM (x := p0) inj6 h
theorem K4_5 : K_value_field O5 := fun p0 r h => (aV (by decide) _ _).trans (K4_4 p0 r h)
theorem K4_6 : K_value_field O6 := fun p0 r h => (aV (by decide) _ _).trans (K4_5 p0 r h)
theorem K5_6 : K_value_text O6 := fun p0 r h => (aV (by decide) _ _).trans (K5_5 p0 r h)
def a7 (x : GCommand) : List D × aA := ([.agg [.v (.i .i64 x.fKind), .v (.s x.fKey), .v (.s x.fField), .v (.s x.fText), .v (.i .i64 x.fN)]], [])
noncomputable def O7 : ak := ak.addF O6 128 a7 (fun x => value_CheckCommand x) (fun _ (r : Int) => (.v (.i .i64 r), []))
set_option maxRecDepth 100000 in
theorem O7_sound : cE Try.prog O7 := cA O6_sound (fun x r h => cL (ν := n128) (cz O6_sound) Try.func128 (by kernel_rfl) mixed (by kernel_rfl) (Nat.le_of_ble_eq_true (by kernel_rfl)) (r_value_CheckCommand O6 K4_6 K5_6 K6_6 x r h))
theorem inj7 : ∀ x y, a7 x = a7 y → x = y := by
  rintro ⟨ua1, ua2, ua3, ua4, ua5⟩ ⟨ub1, ub2, ub3, ub4, ub5⟩ h
  simp only [a7, Prod.mk.injEq, List.cons.injEq, D.v.injEq, D.own.injEq, D.agg.injEq, D.rp.injEq, D.clo.injEq, D.ptr.injEq, V.i.injEq, V.s.injEq, V.b.injEq, V.sl.injEq, cw, cv, cu, GLog.map_inj, GCommand.map_inj, GCall.map_inj, GItem.map_inj, GValue.map_inj, GStore.map_inj, GMachine.map_inj, GSnap.map_inj, Gwriter.map_inj, GPair.map_inj, GScore.map_inj, GEntry.map_inj, Greader.map_inj, Gscan.map_inj, GReply.map_inj, GClient.map_inj, true_and, and_true] at h
  simp only [Prod.mk.injEq, GCommand.mk.injEq, h, and_self]
theorem K7_7 : K_value_CheckCommand O7 := fun p0 r h => cM (x := p0) inj7 h
theorem K3_4 : K_client_number O4 := fun p0 r h => (aV (by decide) _ _).trans (K3_3 p0 r h)
theorem K3_5 : K_client_number O5 := fun p0 r h => (aV (by decide) _ _).trans (K3_4 p0 r h)
theorem K3_6 : K_client_number O6 := fun p0 r h => (aV (by decide) _ _).trans (K3_5 p0 r h)
theorem K3_7 : K_client_number O7 := fun p0 r h => (aV (by decide) _ _).trans (K3_6 p0 r h)
def a8 (x : GCall) : List D × aA := ([.agg [.v (.i .i64 x.fClient), .v (.i .i64 x.fSeq), .v (.i .i64 x.fCommand.fKind), .v (.s x.fCommand.fKey), .v (.s x.fCommand.fField), .v (.s x.fCommand.fText), .v (.i .i64 x.fCommand.fN)]], [])
noncomputable def O8 : ak := ak.addF O7 102 a8 (fun x => client_CheckCall x) (fun _ (r : Int) => (.v (.i .i64 r), []))
set_option maxRecDepth 100000 in
theorem O8_sound : cE Try.prog O8 := cA O7_sound (fun x r h => cL (ν := n102) (cz O7_sound) Try.func102 (by kernel_rfl) mixed (by kernel_rfl) (Nat.le_of_ble_eq_true (by kernel_rfl)) (r_client_CheckCall O7 K3_7 K7_7 x r h))
theorem inj8 : ∀ x y, a8 x = a8 y → x = y := by
  rintro ⟨ua1, ua2, ⟨ua3, ua4, ua5, ua6, ua7⟩⟩ ⟨ub1, ub2, ⟨ub3, ub4, ub5, ub6, ub7⟩⟩ h
  simp only [a8, Prod.mk.injEq, List.cons.injEq, D.v.injEq, D.own.injEq, D.agg.injEq, D.rp.injEq, D.clo.injEq, D.ptr.injEq, V.i.injEq, V.s.injEq, V.b.injEq, V.sl.injEq, cw, cv, cu, GLog.map_inj, GCommand.map_inj, GCall.map_inj, GItem.map_inj, GValue.map_inj, GStore.map_inj, GMachine.map_inj, GSnap.map_inj, Gwriter.map_inj, GPair.map_inj, GScore.map_inj, GEntry.map_inj, Greader.map_inj, Gscan.map_inj, GReply.map_inj, GClient.map_inj, true_and, and_true] at h
  simp only [Prod.mk.injEq, GCommand.mk.injEq, GCall.mk.injEq, h, and_self]
theorem K8_8 : K_client_CheckCall O8 := fun p0 r h => cM (x := p0) inj8 h
def a9 (x : GItem) : List D × aA := ([.agg [.v (.i .i64 x.fTerm), .v (.i .i64 x.fTime), .v (.b x.fNop), .v (.i .i64 x.fCall.fClient), .v (.i .i64 x.fCall.fSeq), .v (.i .i64 x.fCall.fCommand.fKind), .v (.s x.fCall.fCommand.fKey), .v (.s x.fCall.fCommand.fField), .v (.s x.fCall.fCommand.fText), .v (.i .i64 x.fCall.fCommand.fN)]], [])
noncomputable def O9 : ak := ak.addF O8 56 a9 (fun x => wire_CheckItem x) (fun _ (r : Int) => (.v (.i .i64 r), []))
set_option maxRecDepth 100000 in
theorem O9_sound : cE Try.prog O9 := cA O8_sound (fun x r h => cL (ν := n56) (cz O8_sound) Try.func56 (by kernel_rfl) mixed (by kernel_rfl) (Nat.le_of_ble_eq_true (by kernel_rfl)) (r_wire_CheckItem O8 K8_8 x r h))
theorem inj9 : ∀ x y, a9 x = a9 y → x = y := by
  rintro ⟨ua1, ua2, ua3, ⟨ua4, ua5, ⟨ua6, ua7, ua8, ua9, ua10⟩⟩⟩ ⟨ub1, ub2, ub3, ⟨ub4, ub5, ⟨ub6, ub7, ub8, ub9, ub10⟩⟩⟩ h
  simp only [a9, Prod.mk.injEq, List.cons.injEq, D.v.injEq, D.own.injEq, D.agg.injEq, D.rp.injEq, D.clo.injEq, D.ptr.injEq, V.i.injEq, V.s.injEq, V.b.injEq, V.sl.injEq, cw, cv, cu, GLog.map_inj, GCommand.map_inj, GCall.map_inj, GItem.map_inj, GValue.map_inj, GStore.map_inj, GMachine.map_inj, GSnap.map_inj, Gwriter.map_inj, GPair.map_inj, GScore.map_inj, GEntry.map_inj, Greader.map_inj, Gscan.map_inj, GReply.map_inj, GClient.map_inj, true_and, and_true] at h
  simp only [Prod.mk.injEq, GCommand.mk.injEq, GCall.mk.injEq, GItem.mk.injEq, h, and_self]
theorem K9_9 : K_wire_CheckItem O9 := fun p0 r h => cM (x := p0) inj9 h
def a10 (x : GLog) : List D × aA := ([.agg [.v (.i .i64 x.fBase), .v (.i .i64 x.fBaseTerm), .v (.sl 10 (ab GItem.row x.fItems))]], [])
noncomputable def O10 : ak := ak.addF O9 49 a10 (fun x => ledger_Check x) (fun _ (r : Int) => (.v (.i .i64 r), []))
set_option maxRecDepth 100000 in
theorem O10_sound : cE Try.prog O10 := cA O9_sound (fun x r h => cL (ν := n49) (cz O9_sound) Try.func49 (by kernel_rfl) mixed (by kernel_rfl) (Nat.le_of_ble_eq_true (by kernel_rfl)) (r_ledger_Check O9 K9_9 x r h))
theorem inj10 : ∀ x y, a10 x = a10 y → x = y := by
  rintro ⟨ua1, ua2, ua3⟩ ⟨ub1, ub2, ub3⟩ h
  simp only [a10, Prod.mk.injEq, List.cons.injEq, D.v.injEq, D.own.injEq, D.agg.injEq, D.rp.injEq, D.clo.injEq, D.ptr.injEq, V.i.injEq, V.s.injEq, V.b.injEq, V.sl.injEq, cw, cv, cu, GLog.map_inj, GCommand.map_inj, GCall.map_inj, GItem.map_inj, GValue.map_inj, GStore.map_inj, GMachine.map_inj, GSnap.map_inj, Gwriter.map_inj, GPair.map_inj, GScore.map_inj, GEntry.map_inj, Greader.map_inj, Gscan.map_inj, GReply.map_inj, GClient.map_inj, true_and, and_true] at h
  simp only [Prod.mk.injEq, GLog.mk.injEq, h, and_self]
theorem K10_10 : K_ledger_Check O10 := fun p0 r h => cM (x := p0) inj10 h
def a11 (x : (List GItem)) : List D × aA := ([.v (.sl 10 (ab GItem.row x))], [])
noncomputable def O11 : ak := ak.addF O10 60 a11 (fun x => slices_Clone_Item_Item_z x) (fun _ (r : (List GItem)) => (.v (.sl 10 (ab GItem.row r)), []))
set_option maxRecDepth 100000 in
theorem O11_sound : cE Try.prog O11 := cA O10_sound (fun x r h => Mx.Sem.frozen (sem_all (ν := n60) (cz O10_sound) Try.func60 (by kernel_rfl) (Nat.le_of_ble_eq_true (by kernel_rfl)) (q_slices_Clone_Item_Item_z _ x r h)) rfl)
theorem inj11 : ∀ x y, a11 x = a11 y → x = y := by
  rintro ua1 ub1 h
  simp only [a11, Prod.mk.injEq, List.cons.injEq, D.v.injEq, D.own.injEq, D.agg.injEq, D.rp.injEq, D.clo.injEq, D.ptr.injEq, V.i.injEq, V.s.injEq, V.b.injEq, V.sl.injEq, cw, cv, cu, GLog.map_inj, GCommand.map_inj, GCall.map_inj, GItem.map_inj, GValue.map_inj, GStore.map_inj, GMachine.map_inj, GSnap.map_inj, Gwriter.map_inj, GPair.map_inj, GScore.map_inj, GEntry.map_inj, Greader.map_inj, Gscan.map_inj, GReply.map_inj, GClient.map_inj, true_and, and_true] at h
  exact h
theorem K11_11 : K_slices_Clone_Item_Item_z O11 := fun p0 r h => cM (x := p0) inj11 h
def a12 (x : GLog × Int) : List D × aA := ([.agg [.v (.i .i64 x.1.fBase), .v (.i .i64 x.1.fBaseTerm), .v (.sl 10 (ab GItem.row x.1.fItems))], .v (.i .i64 x.2)], [])
noncomputable def O12 : ak := ak.addF O11 54 a12 (fun x => ledger_term x.1 x.2) (fun _ (r : Int × Int) => (.tup [.v (.i .i64 r.1), .v (.i .i64 r.2)], []))
set_option maxRecDepth 100000 in
theorem O12_sound : cE Try.prog O12 := cA O11_sound (fun x r h => cL (ν := n54) (cz O11_sound) Try.func54 (by kernel_rfl) mixed (by kernel_rfl) (Nat.le_of_ble_eq_true (by kernel_rfl)) (r_ledger_term O11 x.1 x.2 r h))
theorem inj12 : ∀ x y, a12 x = a12 y → x = y := by
  rintro ⟨⟨ua1, ua2, ua3⟩, ua4⟩ ⟨⟨ub1, ub2, ub3⟩, ub4⟩ h
  simp only [a12, Prod.mk.injEq, List.cons.injEq, D.v.injEq, D.own.injEq, D.agg.injEq, D.rp.injEq, D.clo.injEq, D.ptr.injEq, V.i.injEq, V.s.injEq, V.b.injEq, V.sl.injEq, cw, cv, cu, GLog.map_inj, GCommand.map_inj, GCall.map_inj, GItem.map_inj, GValue.map_inj, GStore.map_inj, GMachine.map_inj, GSnap.map_inj, Gwriter.map_inj, GPair.map_inj, GScore.map_inj, GEntry.map_inj, Greader.map_inj, Gscan.map_inj, GReply.map_inj, GClient.map_inj, true_and, and_true] at h
  simp only [Prod.mk.injEq, GLog.mk.injEq, h, and_self]
theorem K12_12 : K_ledger_term O12 := fun p0 p1 r h => cM (x := (p0, p1)) inj12 h
theorem K10_11 : K_ledger_Check O11 := fun p0 r h => (aV (by decide) _ _).trans (K10_10 p0 r h)
theorem K10_12 : K_ledger_Check O12 := fun p0 r h => (aV (by decide) _ _).trans (K10_11 p0 r h)
theorem K11_12 : K_slices_Clone_Item_Item_z O12 := fun p0 r h => (aV (by decide) _ _).trans (K11_11 p0 r h)
def a13 (x : GLog × Int × Int × (List GItem)) : List D × aA := ([.agg [.v (.i .i64 x.1.fBase), .v (.i .i64 x.1.fBaseTerm), .v (.sl 10 (ab GItem.row x.1.fItems))], .v (.i .i64 x.2.1), .v (.i .i64 x.2.2.1), .v (.sl 10 (ab GItem.row x.2.2.2))], [])
noncomputable def O13 : ak := ak.addF O12 31 a13 (fun x => ledger_Match x.1 x.2.1 x.2.2.1 x.2.2.2) (fun _ (r : GLog × Bool × Int × Int) => (.tup [.agg [.v (.i .i64 r.1.fBase), .v (.i .i64 r.1.fBaseTerm), .v (.sl 10 (ab GItem.row r.1.fItems))], .v (.b r.2.1), .v (.i .i64 r.2.2.1), .v (.i .i64 r.2.2.2)], []))
set_option maxRecDepth 100000 in
theorem O13_sound : cE Try.prog O13 := cA O12_sound (fun x r h => cL (ν := n31) (cz O12_sound) Try.func31 (by kernel_rfl) mixed (by kernel_rfl) (Nat.le_of_ble_eq_true (by kernel_rfl)) (r_ledger_Match O12 K10_12 K11_12 K12_12 x.1 x.2.1 x.2.2.1 x.2.2.2 r h))
theorem inj13 : ∀ x y, a13 x = a13 y → x = y := by
  rintro ⟨⟨ua1, ua2, ua3⟩, ua4, ua5, ua6⟩ ⟨⟨ub1, ub2, ub3⟩, ub4, ub5, ub6⟩ h
  simp only [a13, Prod.mk.injEq, List.cons.injEq, D.v.injEq, D.own.injEq, D.agg.injEq, D.rp.injEq, D.clo.injEq, D.ptr.injEq, V.i.injEq, V.s.injEq, V.b.injEq, V.sl.injEq, cw, cv, cu, GLog.map_inj, GCommand.map_inj, GCall.map_inj, GItem.map_inj, GValue.map_inj, GStore.map_inj, GMachine.map_inj, GSnap.map_inj, Gwriter.map_inj, GPair.map_inj, GScore.map_inj, GEntry.map_inj, Greader.map_inj, Gscan.map_inj, GReply.map_inj, GClient.map_inj, true_and, and_true] at h
  simp only [Prod.mk.injEq, GLog.mk.injEq, h, and_self]
theorem K13_13 : K_ledger_Match O13 := fun p0 p1 p2 p3 r h => cM (x := (p0, p1, p2, p3)) inj13 h
def a14 (x : Int × Int × Int) : List D × aA := ([.v (.i .i64 x.1), .v (.i .i64 x.2.1), .v (.i .i64 x.2.2)], [])
noncomputable def O14 : ak := ak.addF O13 55 a14 (fun x => rostrumref_In x.1 x.2.1 x.2.2) (fun _ (r : Bool) => (.v (.b r), []))
set_option maxRecDepth 100000 in
theorem O14_sound : cE Try.prog O14 := cA O13_sound (fun x r h => cL (ν := n55) (cz O13_sound) Try.func55 (by kernel_rfl) mixed (by kernel_rfl) (Nat.le_of_ble_eq_true (by kernel_rfl)) (r_rostrumref_In O13 x.1 x.2.1 x.2.2 r h))
theorem inj14 : ∀ x y, a14 x = a14 y → x = y := by
  rintro ⟨ua1, ua2, ua3⟩ ⟨ub1, ub2, ub3⟩ h
  simp only [a14, Prod.mk.injEq, List.cons.injEq, D.v.injEq, D.own.injEq, D.agg.injEq, D.rp.injEq, D.clo.injEq, D.ptr.injEq, V.i.injEq, V.s.injEq, V.b.injEq, V.sl.injEq, cw, cv, cu, GLog.map_inj, GCommand.map_inj, GCall.map_inj, GItem.map_inj, GValue.map_inj, GStore.map_inj, GMachine.map_inj, GSnap.map_inj, Gwriter.map_inj, GPair.map_inj, GScore.map_inj, GEntry.map_inj, Greader.map_inj, Gscan.map_inj, GReply.map_inj, GClient.map_inj, true_and, and_true] at h
  simp only [Prod.mk.injEq, h, and_self]
theorem K14_14 : K_rostrumref_In O14 := fun p0 p1 p2 r h => cM (x := (p0, p1, p2)) inj14 h
def a15 (x : Int) : List D × aA := ([.v (.i .i64 x)], [])
noncomputable def O15 : ak := ak.addF O14 91 a15 (fun x => rostrumref_numberMay x) (fun _ (r : Bool) => (.v (.b r), []))
set_option maxRecDepth 100000 in
theorem O15_sound : cE Try.prog O15 := cA O14_sound (fun x r h => cL (ν := n91) (cz O14_sound) Try.func91 (by kernel_rfl) mixed (by kernel_rfl) (Nat.le_of_ble_eq_true (by kernel_rfl)) (r_rostrumref_numberMay O14 K14_14 x r h))
theorem inj15 : ∀ x y, a15 x = a15 y → x = y := by
  rintro ua1 ub1 h
  simp only [a15, Prod.mk.injEq, List.cons.injEq, D.v.injEq, D.own.injEq, D.agg.injEq, D.rp.injEq, D.clo.injEq, D.ptr.injEq, V.i.injEq, V.s.injEq, V.b.injEq, V.sl.injEq, cw, cv, cu, GLog.map_inj, GCommand.map_inj, GCall.map_inj, GItem.map_inj, GValue.map_inj, GStore.map_inj, GMachine.map_inj, GSnap.map_inj, Gwriter.map_inj, GPair.map_inj, GScore.map_inj, GEntry.map_inj, Greader.map_inj, Gscan.map_inj, GReply.map_inj, GClient.map_inj, true_and, and_true] at h
  exact h
theorem K15_15 : K_rostrumref_numberMay O15 := fun p0 r h => cM (x := p0) inj15 h
theorem K14_15 : K_rostrumref_In O15 := fun p0 p1 p2 r h => (aV (by decide) _ _).trans (K14_14 p0 p1 p2 r h)
def a16 (x : ByteArray) : List D × aA := ([.v (.s x)], [])
noncomputable def O16 : ak := ak.addF O15 81 a16 (fun x => rostrumref_fieldMay x) (fun _ (r : Bool) => (.v (.b r), []))
set_option maxRecDepth 100000 in
theorem O16_sound : cE Try.prog O16 := cA O15_sound (fun x r h => cL (ν := n81) (cz O15_sound) Try.func81 (by kernel_rfl) mixed (by kernel_rfl) (Nat.le_of_ble_eq_true (by kernel_rfl)) (r_rostrumref_fieldMay O15 K14_15 x r h))
theorem inj16 : ∀ x y, a16 x = a16 y → x = y := by
  rintro ua1 ub1 h
  simp only [a16, Prod.mk.injEq, List.cons.injEq, D.v.injEq, D.own.injEq, D.agg.injEq, D.rp.injEq, D.clo.injEq, D.ptr.injEq, V.i.injEq, V.s.injEq, V.b.injEq, V.sl.injEq, cw, cv, cu, GLog.map_inj, GCommand.map_inj, GCall.map_inj, GItem.map_inj, GValue.map_inj, GStore.map_inj, GMachine.map_inj, GSnap.map_inj, Gwriter.map_inj, GPair.map_inj, GScore.map_inj, GEntry.map_inj, Greader.map_inj, Gscan.map_inj, GReply.map_inj, GClient.map_inj, true_and, and_true] at h
  exact h
theorem K16_16 : K_rostrumref_fieldMay O16 := fun p0 r h => cM (x := p0) inj16 h
def a17 (x : ByteArray) : List D × aA := ([.v (.s x)], [])
noncomputable def O17 : ak := ak.addF O16 80 a17 (fun x => rostrumref_textMay x) (fun _ (r : Bool) => (.v (.b r), []))
set_option maxRecDepth 100000 in
theorem O17_sound : cE Try.prog O17 := cA O16_sound (fun x r h => cL (ν := n80) (cz O16_sound) Try.func80 (by kernel_rfl) mixed (by kernel_rfl) (Nat.le_of_ble_eq_true (by kernel_rfl)) (r_rostrumref_textMay O16 x r h))
theorem inj17 : ∀ x y, a17 x = a17 y → x = y := by
  rintro ua1 ub1 h
  simp only [a17, Prod.mk.injEq, List.cons.injEq, D.v.injEq, D.own.injEq, D.agg.injEq, D.rp.injEq, D.clo.injEq, D.ptr.injEq, V.i.injEq, V.s.injEq, V.b.injEq, V.sl.injEq, cw, cv, cu, GLog.map_inj, GCommand.map_inj, GCall.map_inj, GItem.map_inj, GValue.map_inj, GStore.map_inj, GMachine.map_inj, GSnap.map_inj, Gwriter.map_inj, GPair.map_inj, GScore.map_inj, GEntry.map_inj, Greader.map_inj, Gscan.map_inj, GReply.map_inj, GClient.map_inj, true_and, and_true] at h
  exact h
theorem K17_17 : K_rostrumref_textMay O17 := fun p0 r h => cM (x := p0) inj17 h
theorem K14_16 : K_rostrumref_In O16 := fun p0 p1 p2 r h => (aV (by decide) _ _).trans (K14_15 p0 p1 p2 r h)
theorem K14_17 : K_rostrumref_In O17 := fun p0 p1 p2 r h => (aV (by decide) _ _).trans (K14_16 p0 p1 p2 r h)
def a18 (x : Int) : List D × aA := ([.v (.i .i64 x)], [])
noncomputable def O18 : ak := ak.addF O17 82 a18 (fun x => rostrumref_countMay x) (fun _ (r : Bool) => (.v (.b r), []))
set_option maxRecDepth 100000 in
theorem O18_sound : cE Try.prog O18 := cA O17_sound (fun x r h => cL (ν := n82) (cz O17_sound) Try.func82 (by kernel_rfl) mixed (by kernel_rfl) (Nat.le_of_ble_eq_true (by kernel_rfl)) (r_rostrumref_countMay O17 K14_17 x r h))
theorem inj18 : ∀ x y, a18 x = a18 y → x = y := by
  rintro ua1 ub1 h
  simp only [a18, Prod.mk.injEq, List.cons.injEq, D.v.injEq, D.own.injEq, D.agg.injEq, D.rp.injEq, D.clo.injEq, D.ptr.injEq, V.i.injEq, V.s.injEq, V.b.injEq, V.sl.injEq, cw, cv, cu, GLog.map_inj, GCommand.map_inj, GCall.map_inj, GItem.map_inj, GValue.map_inj, GStore.map_inj, GMachine.map_inj, GSnap.map_inj, Gwriter.map_inj, GPair.map_inj, GScore.map_inj, GEntry.map_inj, Greader.map_inj, Gscan.map_inj, GReply.map_inj, GClient.map_inj, true_and, and_true] at h
  exact h
theorem K18_18 : K_rostrumref_countMay O18 := fun p0 r h => cM (x := p0) inj18 h
theorem K14_18 : K_rostrumref_In O18 := fun p0 p1 p2 r h => (aV (by decide) _ _).trans (K14_17 p0 p1 p2 r h)
theorem K16_17 : K_rostrumref_fieldMay O17 := fun p0 r h => (aV (by decide) _ _).trans (K16_16 p0 r h)
theorem K16_18 : K_rostrumref_fieldMay O18 := fun p0 r h => (aV (by decide) _ _).trans (K16_17 p0 r h)
theorem K17_18 : K_rostrumref_textMay O18 := fun p0 r h => (aV (by decide) _ _).trans (K17_17 p0 r h)
def a19 (x : GCommand) : List D × aA := ([.agg [.v (.i .i64 x.fKind), .v (.s x.fKey), .v (.s x.fField), .v (.s x.fText), .v (.i .i64 x.fN)]], [])
noncomputable def O19 : ak := ak.addF O18 130 a19 (fun x => rostrumref_CommandFault x) (fun _ (r : Int) => (.v (.i .i64 r), []))
set_option maxRecDepth 100000 in
theorem O19_sound : cE Try.prog O19 := cA O18_sound (fun x r h => cL (ν := n130) (cz O18_sound) Try.func130 (by kernel_rfl) mixed (by kernel_rfl) (Nat.le_of_ble_eq_true (by kernel_rfl)) (r_rostrumref_CommandFault O18 K14_18 K16_18 K17_18 K18_18 x r h))
theorem inj19 : ∀ x y, a19 x = a19 y → x = y := by
  rintro ⟨ua1, ua2, ua3, ua4, ua5⟩ ⟨ub1, ub2, ub3, ub4, ub5⟩ h
  simp only [a19, Prod.mk.injEq, List.cons.injEq, D.v.injEq, D.own.injEq, D.agg.injEq, D.rp.injEq, D.clo.injEq, D.ptr.injEq, V.i.injEq, V.s.injEq, V.b.injEq, V.sl.injEq, cw, cv, cu, GLog.map_inj, GCommand.map_inj, GCall.map_inj, GItem.map_inj, GValue.map_inj, GStore.map_inj, GMachine.map_inj, GSnap.map_inj, Gwriter.map_inj, GPair.map_inj, GScore.map_inj, GEntry.map_inj, Greader.map_inj, Gscan.map_inj, GReply.map_inj, GClient.map_inj, true_and, and_true] at h
  simp only [Prod.mk.injEq, GCommand.mk.injEq, h, and_self]
theorem K19_19 : K_rostrumref_CommandFault O19 := fun p0 r h => cM (x := p0) inj19 h
theorem K15_16 : K_rostrumref_numberMay O16 := fun p0 r h => (aV (by decide) _ _).trans (K15_15 p0 r h)
theorem K15_17 : K_rostrumref_numberMay O17 := fun p0 r h => (aV (by decide) _ _).trans (K15_16 p0 r h)
theorem K15_18 : K_rostrumref_numberMay O18 := fun p0 r h => (aV (by decide) _ _).trans (K15_17 p0 r h)
theorem K15_19 : K_rostrumref_numberMay O19 := fun p0 r h => (aV (by decide) _ _).trans (K15_18 p0 r h)
def a20 (x : GCall) : List D × aA := ([.agg [.v (.i .i64 x.fClient), .v (.i .i64 x.fSeq), .v (.i .i64 x.fCommand.fKind), .v (.s x.fCommand.fKey), .v (.s x.fCommand.fField), .v (.s x.fCommand.fText), .v (.i .i64 x.fCommand.fN)]], [])
noncomputable def O20 : ak := ak.addF O19 104 a20 (fun x => rostrumref_CallFault x) (fun _ (r : Int) => (.v (.i .i64 r), []))
set_option maxRecDepth 100000 in
theorem O20_sound : cE Try.prog O20 := cA O19_sound (fun x r h => cL (ν := n104) (cz O19_sound) Try.func104 (by kernel_rfl) mixed (by kernel_rfl) (Nat.le_of_ble_eq_true (by kernel_rfl)) (r_rostrumref_CallFault O19 K15_19 K19_19 x r h))
theorem inj20 : ∀ x y, a20 x = a20 y → x = y := by
  rintro ⟨ua1, ua2, ⟨ua3, ua4, ua5, ua6, ua7⟩⟩ ⟨ub1, ub2, ⟨ub3, ub4, ub5, ub6, ub7⟩⟩ h
  simp only [a20, Prod.mk.injEq, List.cons.injEq, D.v.injEq, D.own.injEq, D.agg.injEq, D.rp.injEq, D.clo.injEq, D.ptr.injEq, V.i.injEq, V.s.injEq, V.b.injEq, V.sl.injEq, cw, cv, cu, GLog.map_inj, GCommand.map_inj, GCall.map_inj, GItem.map_inj, GValue.map_inj, GStore.map_inj, GMachine.map_inj, GSnap.map_inj, Gwriter.map_inj, GPair.map_inj, GScore.map_inj, GEntry.map_inj, Greader.map_inj, Gscan.map_inj, GReply.map_inj, GClient.map_inj, true_and, and_true] at h
  simp only [Prod.mk.injEq, GCommand.mk.injEq, GCall.mk.injEq, h, and_self]
theorem K20_20 : K_rostrumref_CallFault O20 := fun p0 r h => cM (x := p0) inj20 h
theorem K15_20 : K_rostrumref_numberMay O20 := fun p0 r h => (aV (by decide) _ _).trans (K15_19 p0 r h)
theorem K14_19 : K_rostrumref_In O19 := fun p0 p1 p2 r h => (aV (by decide) _ _).trans (K14_18 p0 p1 p2 r h)
theorem K14_20 : K_rostrumref_In O20 := fun p0 p1 p2 r h => (aV (by decide) _ _).trans (K14_19 p0 p1 p2 r h)
def a21 (x : GItem) : List D × aA := ([.agg [.v (.i .i64 x.fTerm), .v (.i .i64 x.fTime), .v (.b x.fNop), .v (.i .i64 x.fCall.fClient), .v (.i .i64 x.fCall.fSeq), .v (.i .i64 x.fCall.fCommand.fKind), .v (.s x.fCall.fCommand.fKey), .v (.s x.fCall.fCommand.fField), .v (.s x.fCall.fCommand.fText), .v (.i .i64 x.fCall.fCommand.fN)]], [])
noncomputable def O21 : ak := ak.addF O20 58 a21 (fun x => rostrumref_ItemFault x) (fun _ (r : Int) => (.v (.i .i64 r), []))
set_option maxRecDepth 100000 in
theorem O21_sound : cE Try.prog O21 := cA O20_sound (fun x r h => cL (ν := n58) (cz O20_sound) Try.func58 (by kernel_rfl) mixed (by kernel_rfl) (Nat.le_of_ble_eq_true (by kernel_rfl)) (r_rostrumref_ItemFault O20 K15_20 K14_20 K20_20 x r h))
theorem inj21 : ∀ x y, a21 x = a21 y → x = y := by
  rintro ⟨ua1, ua2, ua3, ⟨ua4, ua5, ⟨ua6, ua7, ua8, ua9, ua10⟩⟩⟩ ⟨ub1, ub2, ub3, ⟨ub4, ub5, ⟨ub6, ub7, ub8, ub9, ub10⟩⟩⟩ h
  simp only [a21, Prod.mk.injEq, List.cons.injEq, D.v.injEq, D.own.injEq, D.agg.injEq, D.rp.injEq, D.clo.injEq, D.ptr.injEq, V.i.injEq, V.s.injEq, V.b.injEq, V.sl.injEq, cw, cv, cu, GLog.map_inj, GCommand.map_inj, GCall.map_inj, GItem.map_inj, GValue.map_inj, GStore.map_inj, GMachine.map_inj, GSnap.map_inj, Gwriter.map_inj, GPair.map_inj, GScore.map_inj, GEntry.map_inj, Greader.map_inj, Gscan.map_inj, GReply.map_inj, GClient.map_inj, true_and, and_true] at h
  simp only [Prod.mk.injEq, GCommand.mk.injEq, GCall.mk.injEq, GItem.mk.injEq, h, and_self]
theorem K21_21 : K_rostrumref_ItemFault O21 := fun p0 r h => cM (x := p0) inj21 h
theorem K14_21 : K_rostrumref_In O21 := fun p0 p1 p2 r h => (aV (by decide) _ _).trans (K14_20 p0 p1 p2 r h)
def a22 (x : GLog) : List D × aA := ([.agg [.v (.i .i64 x.fBase), .v (.i .i64 x.fBaseTerm), .v (.sl 10 (ab GItem.row x.fItems))]], [])
noncomputable def O22 : ak := ak.addF O21 51 a22 (fun x => rostrumref_LogFault x) (fun _ (r : Int) => (.v (.i .i64 r), []))
set_option maxRecDepth 100000 in
theorem O22_sound : cE Try.prog O22 := cA O21_sound (fun x r h => cL (ν := n51) (cz O21_sound) Try.func51 (by kernel_rfl) mixed (by kernel_rfl) (Nat.le_of_ble_eq_true (by kernel_rfl)) (r_rostrumref_LogFault O21 K14_21 K21_21 x r h))
theorem inj22 : ∀ x y, a22 x = a22 y → x = y := by
  rintro ⟨ua1, ua2, ua3⟩ ⟨ub1, ub2, ub3⟩ h
  simp only [a22, Prod.mk.injEq, List.cons.injEq, D.v.injEq, D.own.injEq, D.agg.injEq, D.rp.injEq, D.clo.injEq, D.ptr.injEq, V.i.injEq, V.s.injEq, V.b.injEq, V.sl.injEq, cw, cv, cu, GLog.map_inj, GCommand.map_inj, GCall.map_inj, GItem.map_inj, GValue.map_inj, GStore.map_inj, GMachine.map_inj, GSnap.map_inj, Gwriter.map_inj, GPair.map_inj, GScore.map_inj, GEntry.map_inj, Greader.map_inj, Gscan.map_inj, GReply.map_inj, GClient.map_inj, true_and, and_true] at h
  simp only [Prod.mk.injEq, GLog.mk.injEq, h, and_self]
theorem K22_22 : K_rostrumref_LogFault O22 := fun p0 r h => cM (x := p0) inj22 h
def a23 (x : GLog) : List D × aA := ([.agg [.v (.i .i64 x.fBase), .v (.i .i64 x.fBaseTerm), .v (.sl 10 (ab GItem.row x.fItems))]], [])
noncomputable def O23 : ak := ak.addF O22 53 a23 (fun x => rostrumref_lastOf x) (fun _ (r : Int) => (.v (.i .i64 r), []))
set_option maxRecDepth 100000 in
theorem O23_sound : cE Try.prog O23 := cA O22_sound (fun x r h => cL (ν := n53) (cz O22_sound) Try.func53 (by kernel_rfl) mixed (by kernel_rfl) (Nat.le_of_ble_eq_true (by kernel_rfl)) (r_rostrumref_lastOf O22 x r h))
theorem inj23 : ∀ x y, a23 x = a23 y → x = y := by
  rintro ⟨ua1, ua2, ua3⟩ ⟨ub1, ub2, ub3⟩ h
  simp only [a23, Prod.mk.injEq, List.cons.injEq, D.v.injEq, D.own.injEq, D.agg.injEq, D.rp.injEq, D.clo.injEq, D.ptr.injEq, V.i.injEq, V.s.injEq, V.b.injEq, V.sl.injEq, cw, cv, cu, GLog.map_inj, GCommand.map_inj, GCall.map_inj, GItem.map_inj, GValue.map_inj, GStore.map_inj, GMachine.map_inj, GSnap.map_inj, Gwriter.map_inj, GPair.map_inj, GScore.map_inj, GEntry.map_inj, Greader.map_inj, Gscan.map_inj, GReply.map_inj, GClient.map_inj, true_and, and_true] at h
  simp only [Prod.mk.injEq, GLog.mk.injEq, h, and_self]
theorem K23_23 : K_rostrumref_lastOf O23 := fun p0 r h => cM (x := p0) inj23 h
def a24 (x : GLog × Int) : List D × aA := ([.agg [.v (.i .i64 x.1.fBase), .v (.i .i64 x.1.fBaseTerm), .v (.sl 10 (ab GItem.row x.1.fItems))], .v (.i .i64 x.2)], [])
noncomputable def O24 : ak := ak.addF O23 52 a24 (fun x => rostrumref_termAt x.1 x.2) (fun _ (r : Int) => (.v (.i .i64 r), []))
set_option maxRecDepth 100000 in
theorem O24_sound : cE Try.prog O24 := cA O23_sound (fun x r h => cL (ν := n52) (cz O23_sound) Try.func52 (by kernel_rfl) mixed (by kernel_rfl) (Nat.le_of_ble_eq_true (by kernel_rfl)) (r_rostrumref_termAt O23 K23_23 x.1 x.2 r h))
theorem inj24 : ∀ x y, a24 x = a24 y → x = y := by
  rintro ⟨⟨ua1, ua2, ua3⟩, ua4⟩ ⟨⟨ub1, ub2, ub3⟩, ub4⟩ h
  simp only [a24, Prod.mk.injEq, List.cons.injEq, D.v.injEq, D.own.injEq, D.agg.injEq, D.rp.injEq, D.clo.injEq, D.ptr.injEq, V.i.injEq, V.s.injEq, V.b.injEq, V.sl.injEq, cw, cv, cu, GLog.map_inj, GCommand.map_inj, GCall.map_inj, GItem.map_inj, GValue.map_inj, GStore.map_inj, GMachine.map_inj, GSnap.map_inj, Gwriter.map_inj, GPair.map_inj, GScore.map_inj, GEntry.map_inj, Greader.map_inj, Gscan.map_inj, GReply.map_inj, GClient.map_inj, true_and, and_true] at h
  simp only [Prod.mk.injEq, GLog.mk.injEq, h, and_self]
theorem K24_24 : K_rostrumref_termAt O24 := fun p0 p1 r h => cM (x := (p0, p1)) inj24 h
theorem K22_23 : K_rostrumref_LogFault O23 := fun p0 r h => (aV (by decide) _ _).trans (K22_22 p0 r h)
theorem K22_24 : K_rostrumref_LogFault O24 := fun p0 r h => (aV (by decide) _ _).trans (K22_23 p0 r h)
theorem K1_2 : K_rostrumref_LogCopy_z O2 := fun p0 r h => (aV (by decide) _ _).trans (K1_1 p0 r h)
theorem K1_3 : K_rostrumref_LogCopy_z O3 := fun p0 r h => (aV (by decide) _ _).trans (K1_2 p0 r h)
theorem K1_4 : K_rostrumref_LogCopy_z O4 := fun p0 r h => (aV (by decide) _ _).trans (K1_3 p0 r h)
theorem K1_5 : K_rostrumref_LogCopy_z O5 := fun p0 r h => (aV (by decide) _ _).trans (K1_4 p0 r h)
theorem K1_6 : K_rostrumref_LogCopy_z O6 := fun p0 r h => (aV (by decide) _ _).trans (K1_5 p0 r h)
theorem K1_7 : K_rostrumref_LogCopy_z O7 := fun p0 r h => (aV (by decide) _ _).trans (K1_6 p0 r h)
theorem K1_8 : K_rostrumref_LogCopy_z O8 := fun p0 r h => (aV (by decide) _ _).trans (K1_7 p0 r h)
theorem K1_9 : K_rostrumref_LogCopy_z O9 := fun p0 r h => (aV (by decide) _ _).trans (K1_8 p0 r h)
theorem K1_10 : K_rostrumref_LogCopy_z O10 := fun p0 r h => (aV (by decide) _ _).trans (K1_9 p0 r h)
theorem K1_11 : K_rostrumref_LogCopy_z O11 := fun p0 r h => (aV (by decide) _ _).trans (K1_10 p0 r h)
theorem K1_12 : K_rostrumref_LogCopy_z O12 := fun p0 r h => (aV (by decide) _ _).trans (K1_11 p0 r h)
theorem K1_13 : K_rostrumref_LogCopy_z O13 := fun p0 r h => (aV (by decide) _ _).trans (K1_12 p0 r h)
theorem K1_14 : K_rostrumref_LogCopy_z O14 := fun p0 r h => (aV (by decide) _ _).trans (K1_13 p0 r h)
theorem K1_15 : K_rostrumref_LogCopy_z O15 := fun p0 r h => (aV (by decide) _ _).trans (K1_14 p0 r h)
theorem K1_16 : K_rostrumref_LogCopy_z O16 := fun p0 r h => (aV (by decide) _ _).trans (K1_15 p0 r h)
theorem K1_17 : K_rostrumref_LogCopy_z O17 := fun p0 r h => (aV (by decide) _ _).trans (K1_16 p0 r h)
theorem K1_18 : K_rostrumref_LogCopy_z O18 := fun p0 r h => (aV (by decide) _ _).trans (K1_17 p0 r h)
theorem K1_19 : K_rostrumref_LogCopy_z O19 := fun p0 r h => (aV (by decide) _ _).trans (K1_18 p0 r h)
theorem K1_20 : K_rostrumref_LogCopy_z O20 := fun p0 r h => (aV (by decide) _ _).trans (K1_19 p0 r h)
theorem K1_21 : K_rostrumref_LogCopy_z O21 := fun p0 r h => (aV (by decide) _ _).trans (K1_20 p0 r h)
theorem K1_22 : K_rostrumref_LogCopy_z O22 := fun p0 r h => (aV (by decide) _ _).trans (K1_21 p0 r h)
theorem K1_23 : K_rostrumref_LogCopy_z O23 := fun p0 r h => (aV (by decide) _ _).trans (K1_22 p0 r h)
theorem K1_24 : K_rostrumref_LogCopy_z O24 := fun p0 r h => (aV (by decide) _ _).trans (K1_23 p0 r h)
def a25 (x : GLog × Int × Int × (List GItem)) : List D × aA := ([.agg [.v (.i .i64 x.1.fBase), .v (.i .i64 x.1.fBaseTerm), .v (.sl 10 (ab GItem.row x.1.fItems))], .v (.i .i64 x.2.1), .v (.i .i64 x.2.2.1), .v (.sl 10 (ab GItem.row x.2.2.2))], [])
noncomputable def O25 : ak := ak.addF O24 33 a25 (fun x => rostrumref_Matched x.1 x.2.1 x.2.2.1 x.2.2.2) (fun _ (r : GLog × Bool × Int × Int) => (.tup [.agg [.v (.i .i64 r.1.fBase), .v (.i .i64 r.1.fBaseTerm), .v (.sl 10 (ab GItem.row r.1.fItems))], .v (.b r.2.1), .v (.i .i64 r.2.2.1), .v (.i .i64 r.2.2.2)], []))
set_option maxRecDepth 100000 in
theorem O25_sound : cE Try.prog O25 := cA O24_sound (fun x r h => cL (ν := n33) (cz O24_sound) Try.func33 (by kernel_rfl) mixed (by kernel_rfl) (Nat.le_of_ble_eq_true (by kernel_rfl)) (r_rostrumref_Matched O24 K22_24 K1_24 K24_24 x.1 x.2.1 x.2.2.1 x.2.2.2 r h))
theorem inj25 : ∀ x y, a25 x = a25 y → x = y := by
  rintro ⟨⟨ua1, ua2, ua3⟩, ua4, ua5, ua6⟩ ⟨⟨ub1, ub2, ub3⟩, ub4, ub5, ub6⟩ h
  simp only [a25, Prod.mk.injEq, List.cons.injEq, D.v.injEq, D.own.injEq, D.agg.injEq, D.rp.injEq, D.clo.injEq, D.ptr.injEq, V.i.injEq, V.s.injEq, V.b.injEq, V.sl.injEq, cw, cv, cu, GLog.map_inj, GCommand.map_inj, GCall.map_inj, GItem.map_inj, GValue.map_inj, GStore.map_inj, GMachine.map_inj, GSnap.map_inj, Gwriter.map_inj, GPair.map_inj, GScore.map_inj, GEntry.map_inj, Greader.map_inj, Gscan.map_inj, GReply.map_inj, GClient.map_inj, true_and, and_true] at h
  simp only [Prod.mk.injEq, GLog.mk.injEq, h, and_self]
theorem K25_25 : K_rostrumref_Matched O25 := fun p0 p1 p2 p3 r h => cM (x := (p0, p1, p2, p3)) inj25 h
def a26 (x : (List GItem) × (List GItem)) : List D × aA := ([.v (.sl 10 (ab GItem.row x.1)), .v (.sl 10 (ab GItem.row x.2))], [])
noncomputable def O26 : ak := ak.addF O25 27 a26 (fun x => rostrumlaw_sameItems x.1 x.2) (fun _ (r : Bool) => (.v (.b r), []))
set_option maxRecDepth 100000 in
theorem O26_sound : cE Try.prog O26 := cA O25_sound (fun x r h => cL (ν := n27) (cz O25_sound) Try.func27 (by kernel_rfl) mixed (by kernel_rfl) (Nat.le_of_ble_eq_true (by kernel_rfl)) (r_rostrumlaw_sameItems O25 x.1 x.2 r h))
theorem inj26 : ∀ x y, a26 x = a26 y → x = y := by
  rintro ⟨ua1, ua2⟩ ⟨ub1, ub2⟩ h
  simp only [a26, Prod.mk.injEq, List.cons.injEq, D.v.injEq, D.own.injEq, D.agg.injEq, D.rp.injEq, D.clo.injEq, D.ptr.injEq, V.i.injEq, V.s.injEq, V.b.injEq, V.sl.injEq, cw, cv, cu, GLog.map_inj, GCommand.map_inj, GCall.map_inj, GItem.map_inj, GValue.map_inj, GStore.map_inj, GMachine.map_inj, GSnap.map_inj, Gwriter.map_inj, GPair.map_inj, GScore.map_inj, GEntry.map_inj, Greader.map_inj, Gscan.map_inj, GReply.map_inj, GClient.map_inj, true_and, and_true] at h
  simp only [Prod.mk.injEq, h, and_self]
theorem K26_26 : K_rostrumlaw_sameItems O26 := fun p0 p1 r h => cM (x := (p0, p1)) inj26 h
def a27 (x : GLog × GLog) : List D × aA := ([.agg [.v (.i .i64 x.1.fBase), .v (.i .i64 x.1.fBaseTerm), .v (.sl 10 (ab GItem.row x.1.fItems))], .agg [.v (.i .i64 x.2.fBase), .v (.i .i64 x.2.fBaseTerm), .v (.sl 10 (ab GItem.row x.2.fItems))]], [])
noncomputable def O27 : ak := ak.addF O26 24 a27 (fun x => rostrumlaw_sameLog x.1 x.2) (fun _ (r : Bool) => (.v (.b r), []))
set_option maxRecDepth 100000 in
theorem O27_sound : cE Try.prog O27 := cA O26_sound (fun x r h => cL (ν := n24) (cz O26_sound) Try.func24 (by kernel_rfl) mixed (by kernel_rfl) (Nat.le_of_ble_eq_true (by kernel_rfl)) (r_rostrumlaw_sameLog O26 K26_26 x.1 x.2 r h))
theorem inj27 : ∀ x y, a27 x = a27 y → x = y := by
  rintro ⟨⟨ua1, ua2, ua3⟩, ⟨ua4, ua5, ua6⟩⟩ ⟨⟨ub1, ub2, ub3⟩, ⟨ub4, ub5, ub6⟩⟩ h
  simp only [a27, Prod.mk.injEq, List.cons.injEq, D.v.injEq, D.own.injEq, D.agg.injEq, D.rp.injEq, D.clo.injEq, D.ptr.injEq, V.i.injEq, V.s.injEq, V.b.injEq, V.sl.injEq, cw, cv, cu, GLog.map_inj, GCommand.map_inj, GCall.map_inj, GItem.map_inj, GValue.map_inj, GStore.map_inj, GMachine.map_inj, GSnap.map_inj, Gwriter.map_inj, GPair.map_inj, GScore.map_inj, GEntry.map_inj, Greader.map_inj, Gscan.map_inj, GReply.map_inj, GClient.map_inj, true_and, and_true] at h
  simp only [Prod.mk.injEq, GLog.mk.injEq, h, and_self]
theorem K27_27 : K_rostrumlaw_sameLog O27 := fun p0 p1 r h => cM (x := (p0, p1)) inj27 h
theorem K1_25 : K_rostrumref_LogCopy_z O25 := fun p0 r h => (aV (by decide) _ _).trans (K1_24 p0 r h)
theorem K1_26 : K_rostrumref_LogCopy_z O26 := fun p0 r h => (aV (by decide) _ _).trans (K1_25 p0 r h)
theorem K1_27 : K_rostrumref_LogCopy_z O27 := fun p0 r h => (aV (by decide) _ _).trans (K1_26 p0 r h)
theorem K2_3 : K_rostrumlaw_items_z O3 := fun p0 r h => (aV (by decide) _ _).trans (K2_2 p0 r h)
theorem K2_4 : K_rostrumlaw_items_z O4 := fun p0 r h => (aV (by decide) _ _).trans (K2_3 p0 r h)
theorem K2_5 : K_rostrumlaw_items_z O5 := fun p0 r h => (aV (by decide) _ _).trans (K2_4 p0 r h)
theorem K2_6 : K_rostrumlaw_items_z O6 := fun p0 r h => (aV (by decide) _ _).trans (K2_5 p0 r h)
theorem K2_7 : K_rostrumlaw_items_z O7 := fun p0 r h => (aV (by decide) _ _).trans (K2_6 p0 r h)
theorem K2_8 : K_rostrumlaw_items_z O8 := fun p0 r h => (aV (by decide) _ _).trans (K2_7 p0 r h)
theorem K2_9 : K_rostrumlaw_items_z O9 := fun p0 r h => (aV (by decide) _ _).trans (K2_8 p0 r h)
theorem K2_10 : K_rostrumlaw_items_z O10 := fun p0 r h => (aV (by decide) _ _).trans (K2_9 p0 r h)
theorem K2_11 : K_rostrumlaw_items_z O11 := fun p0 r h => (aV (by decide) _ _).trans (K2_10 p0 r h)
theorem K2_12 : K_rostrumlaw_items_z O12 := fun p0 r h => (aV (by decide) _ _).trans (K2_11 p0 r h)
theorem K2_13 : K_rostrumlaw_items_z O13 := fun p0 r h => (aV (by decide) _ _).trans (K2_12 p0 r h)
theorem K2_14 : K_rostrumlaw_items_z O14 := fun p0 r h => (aV (by decide) _ _).trans (K2_13 p0 r h)
theorem K2_15 : K_rostrumlaw_items_z O15 := fun p0 r h => (aV (by decide) _ _).trans (K2_14 p0 r h)
theorem K2_16 : K_rostrumlaw_items_z O16 := fun p0 r h => (aV (by decide) _ _).trans (K2_15 p0 r h)
theorem K2_17 : K_rostrumlaw_items_z O17 := fun p0 r h => (aV (by decide) _ _).trans (K2_16 p0 r h)
theorem K2_18 : K_rostrumlaw_items_z O18 := fun p0 r h => (aV (by decide) _ _).trans (K2_17 p0 r h)
theorem K2_19 : K_rostrumlaw_items_z O19 := fun p0 r h => (aV (by decide) _ _).trans (K2_18 p0 r h)
theorem K2_20 : K_rostrumlaw_items_z O20 := fun p0 r h => (aV (by decide) _ _).trans (K2_19 p0 r h)
theorem K2_21 : K_rostrumlaw_items_z O21 := fun p0 r h => (aV (by decide) _ _).trans (K2_20 p0 r h)
theorem K2_22 : K_rostrumlaw_items_z O22 := fun p0 r h => (aV (by decide) _ _).trans (K2_21 p0 r h)
theorem K2_23 : K_rostrumlaw_items_z O23 := fun p0 r h => (aV (by decide) _ _).trans (K2_22 p0 r h)
theorem K2_24 : K_rostrumlaw_items_z O24 := fun p0 r h => (aV (by decide) _ _).trans (K2_23 p0 r h)
theorem K2_25 : K_rostrumlaw_items_z O25 := fun p0 r h => (aV (by decide) _ _).trans (K2_24 p0 r h)
theorem K2_26 : K_rostrumlaw_items_z O26 := fun p0 r h => (aV (by decide) _ _).trans (K2_25 p0 r h)
theorem K2_27 : K_rostrumlaw_items_z O27 := fun p0 r h => (aV (by decide) _ _).trans (K2_26 p0 r h)
theorem K13_14 : K_ledger_Match O14 := fun p0 p1 p2 p3 r h => (aV (by decide) _ _).trans (K13_13 p0 p1 p2 p3 r h)
theorem K13_15 : K_ledger_Match O15 := fun p0 p1 p2 p3 r h => (aV (by decide) _ _).trans (K13_14 p0 p1 p2 p3 r h)
theorem K13_16 : K_ledger_Match O16 := fun p0 p1 p2 p3 r h => (aV (by decide) _ _).trans (K13_15 p0 p1 p2 p3 r h)
theorem K13_17 : K_ledger_Match O17 := fun p0 p1 p2 p3 r h => (aV (by decide) _ _).trans (K13_16 p0 p1 p2 p3 r h)
theorem K13_18 : K_ledger_Match O18 := fun p0 p1 p2 p3 r h => (aV (by decide) _ _).trans (K13_17 p0 p1 p2 p3 r h)
theorem K13_19 : K_ledger_Match O19 := fun p0 p1 p2 p3 r h => (aV (by decide) _ _).trans (K13_18 p0 p1 p2 p3 r h)
theorem K13_20 : K_ledger_Match O20 := fun p0 p1 p2 p3 r h => (aV (by decide) _ _).trans (K13_19 p0 p1 p2 p3 r h)
theorem K13_21 : K_ledger_Match O21 := fun p0 p1 p2 p3 r h => (aV (by decide) _ _).trans (K13_20 p0 p1 p2 p3 r h)
theorem K13_22 : K_ledger_Match O22 := fun p0 p1 p2 p3 r h => (aV (by decide) _ _).trans (K13_21 p0 p1 p2 p3 r h)
theorem K13_23 : K_ledger_Match O23 := fun p0 p1 p2 p3 r h => (aV (by decide) _ _).trans (K13_22 p0 p1 p2 p3 r h)
theorem K13_24 : K_ledger_Match O24 := fun p0 p1 p2 p3 r h => (aV (by decide) _ _).trans (K13_23 p0 p1 p2 p3 r h)
theorem K13_25 : K_ledger_Match O25 := fun p0 p1 p2 p3 r h => (aV (by decide) _ _).trans (K13_24 p0 p1 p2 p3 r h)
theorem K13_26 : K_ledger_Match O26 := fun p0 p1 p2 p3 r h => (aV (by decide) _ _).trans (K13_25 p0 p1 p2 p3 r h)
theorem K13_27 : K_ledger_Match O27 := fun p0 p1 p2 p3 r h => (aV (by decide) _ _).trans (K13_26 p0 p1 p2 p3 r h)
theorem K25_26 : K_rostrumref_Matched O26 := fun p0 p1 p2 p3 r h => (aV (by decide) _ _).trans (K25_25 p0 p1 p2 p3 r h)
theorem K25_27 : K_rostrumref_Matched O27 := fun p0 p1 p2 p3 r h => (aV (by decide) _ _).trans (K25_26 p0 p1 p2 p3 r h)
set_option maxRecDepth 100000 in
theorem sem (rs : List (List V)) (h : HasAll Try.prog [24,3,3,22] rs) : Mx.Sem Try.prog 9 (argsD Try.prog [24,3,3,22] rs) [] (.v (.b true)) [] := by
  obtain ⟨r0, _, rfl, a0, b0⟩ := HasAll.cons h
  obtain ⟨r1, _, rfl, a1, b1⟩ := HasAll.cons b0
  obtain ⟨r2, _, rfl, a2, b2⟩ := HasAll.cons b1
  obtain ⟨r3, _, rfl, a3, b3⟩ := HasAll.cons b2
  obtain rfl := HasAll.nil b3
  obtain ⟨x0, rfl, o0⟩ := GLog.of24 a0
  obtain ⟨x1, rfl, o1⟩ := cY Try.underlying3 a1
  obtain ⟨x2, rfl, o2⟩ := cY Try.underlying3 a2
  obtain ⟨l3, j3, rfl, o3, q3⟩ := dk (n := 10) (m := 104) Try.underlying22 (by kernel_rfl) (by kernel_rfl) a3
  obtain ⟨x3, rfl, p3⟩ := rows_of (f := GItem.row) (ok := fun y => y.ok) (fun r hr => GItem.of38 (q3 r hr))
  rw [List.length_map] at o3
  simp only [argsD, argD_struct Try.underlying24, argD_int Try.underlying3, argD_slice Try.underlying22]
  exact cL (ν := n9) (cz O27_sound) Try.func9 (by kernel_rfl) mixed (by kernel_rfl) (Nat.le_of_ble_eq_true (by kernel_rfl)) (r_rostrumlaw_LedgerMatches O27 K1_27 K2_27 K13_27 K25_27 K27_27 x0 x1 x2 x3 true (LedgerMatches_pure x0 x1 x2 x3 o0 (dg o1) (dg o2) ⟨o3, p3⟩))
end CLedgerMatches
end Go.Proofs.Ytnjkmbogbfjffaa
