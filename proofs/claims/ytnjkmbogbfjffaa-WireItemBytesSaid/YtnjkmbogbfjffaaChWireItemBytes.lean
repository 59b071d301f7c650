/- The chain of contracts of the law WireItemBytes, over the functions that it reaches. -/
import Derived.Test.YtnjkmbogbfjffaaWireItemBytesZa
import Derived.Test.YtnjkmbogbfjffaaWireItemBytesZb
import Derived.Test.YtnjkmbogbfjffaaWireItemBytesP
set_option linter.unusedSimpArgs false
set_option linter.unusedVariables false
set_option linter.constructorNameAsVariable false
set_option linter.unnecessarySimpa false
namespace Go.Proofs.Ytnjkmbogbfjffaa
open Go Go.Mx Go.Proofs
namespace CWireItemBytes
def a1 (x : Int) : List D × Store := ([.v (.i .i64 x)], [])
noncomputable def O1 : Oracle := Oracle.addF noC 127 a1 (fun x => client_number x) (fun _ (r : Bool) => (.v (.b r), []))
set_option maxRecDepth 100000 in
theorem O1_sound : SoundC Try.prog O1 := addF_sound (noC_sound _) (fun x r h => sem_fnW (ν := n127) (wide_sound (noC_sound _)) Try.func127 (by kernel_rfl) mixed (by kernel_rfl) (Nat.le_of_ble_eq_true (by kernel_rfl)) (r_client_number noC x r h))
theorem inj1 : ∀ x y, a1 x = a1 y → x = y := by
  rintro ua1 ub1 h
  simp only [a1, Prod.mk.injEq, List.cons.injEq, D.v.injEq, D.own.injEq, D.agg.injEq, D.rp.injEq, D.clo.injEq, D.ptr.injEq, V.i.injEq, V.s.injEq, V.b.injEq, V.sl.injEq, mapB_inj, mapI_inj, mapS_inj, GLog.map_inj, GCommand.map_inj, GCall.map_inj, GItem.map_inj, GValue.map_inj, GStore.map_inj, GMachine.map_inj, GSnap.map_inj, Gwriter.map_inj, GPair.map_inj, GScore.map_inj, GEntry.map_inj, Greader.map_inj, Gscan.map_inj, GReply.map_inj, GClient.map_inj, true_and, and_true] at h
  exact h
theorem K1_1 : K_client_number O1 := fun p0 r h => addF_eq (x := p0) inj1 h
def a2 (x : ByteArray) : List D × Store := ([.v (.s x)], [])
noncomputable def O2 : Oracle := Oracle.addF O1 67 a2 (fun x => value_field x) (fun _ (r : Bool) => (.v (.b r), []))
set_option maxRecDepth 100000 in
theorem O2_sound : SoundC Try.prog O2 := addF_sound O1_sound (fun x r h => sem_fnW (ν := n67) (wide_sound O1_sound) Try.func67 (by kernel_rfl) mixed (by kernel_rfl) (Nat.le_of_ble_eq_true (by kernel_rfl)) (r_value_field O1 x r h))
theorem inj2 : ∀ x y, a2 x = a2 y → x = y := by
  rintro ua1 ub1 h
  simp only [a2, Prod.mk.injEq, List.cons.injEq, D.v.injEq, D.own.injEq, D.agg.injEq, D.rp.injEq, D.clo.injEq, D.ptr.injEq, V.i.injEq, V.s.injEq, V.b.injEq, V.sl.injEq, mapB_inj, mapI_inj, mapS_inj, GLog.map_inj, GCommand.map_inj, GCall.map_inj, GItem.map_inj, GValue.map_inj, GStore.map_inj, GMachine.map_inj, GSnap.map_inj, Gwriter.map_inj, GPair.map_inj, GScore.map_inj, GEntry.map_inj, Greader.map_inj, Gscan.map_inj, GReply.map_inj, GClient.map_inj, true_and, and_true] at h
  exact h
theorem K2_2 : K_value_field O2 := fun p0 r h => addF_eq (x := p0) inj2 h
def a3 (x : ByteArray) : List D × Store := ([.v (.s x)], [])
noncomputable def O3 : Oracle := Oracle.addF O2 62 a3 (fun x => value_text x) (fun _ (r : Bool) => (.v (.b r), []))
set_option maxRecDepth 100000 in
theorem O3_sound : SoundC Try.prog O3 := addF_sound O2_sound (fun x r h => sem_fnW (ν := n62) (wide_sound O2_sound) Try.func62 (by kernel_rfl) mixed (by kernel_rfl) (Nat.le_of_ble_eq_true (by kernel_rfl)) (r_value_text O2 x r h))
theorem inj3 : ∀ x y, a3 x = a3 y → x = y := by
  rintro ua1 ub1 h
  simp only [a3, Prod.mk.injEq, List.cons.injEq, D.v.injEq, D.own.injEq, D.agg.injEq, D.rp.injEq, D.clo.injEq, D.ptr.injEq, V.i.injEq, V.s.injEq, V.b.injEq, V.sl.injEq, mapB_inj, mapI_inj, mapS_inj, GLog.map_inj, GCommand.map_inj, GCall.map_inj, GItem.map_inj, GValue.map_inj, GStore.map_inj, GMachine.map_inj, GSnap.map_inj, Gwriter.map_inj, GPair.map_inj, GScore.map_inj, GEntry.map_inj, Greader.map_inj, Gscan.map_inj, GReply.map_inj, GClient.map_inj, true_and, and_true] at h
  exact h
theorem K3_3 : K_value_text O3 := fun p0 r h => addF_eq (x := p0) inj3 h
def a4 (x : Int) : List D × Store := ([.v (.i .i64 x)], [])
noncomputable def O4 : Oracle := Oracle.addF O3 70 a4 (fun x => value_count x) (fun _ (r : Bool) => (.v (.b r), []))
set_option maxRecDepth 100000 in
theorem O4_sound : SoundC Try.prog O4 := addF_sound O3_sound (fun x r h => sem_fnW (ν := n70) (wide_sound O3_sound) Try.func70 (by kernel_rfl) mixed (by kernel_rfl) (Nat.le_of_ble_eq_true (by kernel_rfl)) (r_value_count O3 x r h))
theorem inj4 : ∀ x y, a4 x = a4 y → x = y := by
  rintro ua1 ub1 h
  simp only [a4, Prod.mk.injEq, List.cons.injEq, D.v.injEq, D.own.injEq, D.agg.injEq, D.rp.injEq, D.clo.injEq, D.ptr.injEq, V.i.injEq, V.s.injEq, V.b.injEq, V.sl.injEq, mapB_inj, mapI_inj, mapS_inj, GLog.map_inj, GCommand.map_inj, GCall.map_inj, GItem.map_inj, GValue.map_inj, GStore.map_inj, GMachine.map_inj, GSnap.map_inj, Gwriter.map_inj, GPair.map_inj, GScore.map_inj, GEntry.map_inj, Greader.map_inj, Gscan.map_inj, GReply.map_inj, GClient.map_inj, true_and, and_true] at h
  exact h
theorem K4_4 : K_value_count O4 := fun p0 r h => addF_eq (x := p0) inj4 h
theorem K2_3 : K_value_field O3 := fun p0 r h => (addF_ne (by decide) _ _).trans (K2_2 p0 r h)
theorem K2_4 : K_value_field O4 := fun p0 r h => (addF_ne (by decide) _ _).trans (K2_3 p0 r h)
theorem K3_4 : K_value_text O4 := fun p0 r h => (addF_ne (by decide) _ _).trans (K3_3 p0 r h)
def a5 (x : GCommand) : List D × Store := ([.agg [.v (.i .i64 x.fKind), .v (.s x.fKey), .v (.s x.fField), .v (.s x.fText), .v (.i .i64 x.fN)]], [])
noncomputable def O5 : Oracle := Oracle.addF O4 128 a5 (fun x => value_CheckCommand x) (fun _ (r : Int) => (.v (.i .i64 r), []))
set_option maxRecDepth 100000 in
theorem O5_sound : SoundC Try.prog O5 := addF_sound O4_sound (fun x r h => sem_fnW (ν := n128) (wide_sound O4_sound) Try.func128 (by kernel_rfl) mixed (by kernel_rfl) (Nat.le_of_ble_eq_true (by kernel_rfl)) (r_value_CheckCommand O4 K2_4 K3_4 K4_4 x r h))
theorem inj5 : ∀ x y, a5 x = a5 y → x = y := by
  rintro ⟨ua1, ua2, ua3, ua4, ua5⟩ ⟨ub1, ub2, ub3, ub4, ub5⟩ h
  simp only [a5, Prod.mk.injEq, List.cons.injEq, D.v.injEq, D.own.injEq, D.agg.injEq, D.rp.injEq, D.clo.injEq, D.ptr.injEq, V.i.injEq, V.s.injEq, V.b.injEq, V.sl.injEq, mapB_inj, mapI_inj, mapS_inj, GLog.map_inj, GCommand.map_inj, GCall.map_inj, GItem.map_inj, GValue.map_inj, GStore.map_inj, GMachine.map_inj, GSnap.map_inj, Gwriter.map_inj, GPair.map_inj, GScore.map_inj, GEntry.map_inj, Greader.map_inj, Gscan.map_inj, GReply.map_inj, GClient.map_inj, true_and, and_true] at h
  simp only [Prod.mk.injEq, GCommand.mk.injEq, h, and_self]
theorem K5_5 : K_value_CheckCommand O5 := fun p0 r h => addF_eq (x := p0) inj5 h
theorem K1_2 : K_client_number O2 := fun p0 r h => (addF_ne (by decide) _ _).trans (K1_1 p0 r h)
theorem K1_3 : K_client_number O3 := fun p0 r h => (addF_ne (by decide) _ _).trans (K1_2 p0 r h)
theorem K1_4 : K_client_number O4 := fun p0 r h => (addF_ne (by decide) _ _).trans (K1_3 p0 r h)
theorem K1_5 : K_client_number O5 := fun p0 r h => (addF_ne (by decide) _ _).trans (K1_4 p0 r h)
def a6 (x : GCall) : List D × Store := ([.agg [.v (.i .i64 x.fClient), .v (.i .i64 x.fSeq), .v (.i .i64 x.fCommand.fKind), .v (.s x.fCommand.fKey), .v (.s x.fCommand.fField), .v (.s x.fCommand.fText), .v (.i .i64 x.fCommand.fN)]], [])
noncomputable def O6 : Oracle := Oracle.addF O5 102 a6 (fun x => client_CheckCall x) (fun _ (r : Int) => (.v (.i .i64 r), []))
set_option maxRecDepth 100000 in
theorem O6_sound : SoundC Try.prog O6 := addF_sound O5_sound (fun x r h => sem_fnW (ν := n102) (wide_sound O5_sound) Try.func102 (by kernel_rfl) mixed (by kernel_rfl) (Nat.le_of_ble_eq_true (by kernel_rfl)) (r_client_CheckCall O5 K1_5 K5_5 x r h))
theorem inj6 : ∀ x y, a6 x = a6 y → x = y := by
  rintro ⟨ua1, ua2, ⟨ua3, ua4, ua5, ua6, ua7⟩⟩ ⟨ub1, ub2, ⟨ub3, ub4, ub5, ub6, ub7⟩⟩ h
  simp only [a6, Prod.mk.injEq, List.cons.injEq, D.v.injEq, D.own.injEq, D.agg.injEq, D.rp.injEq, D.clo.injEq, D.ptr.injEq, V.i.injEq, V.s.injEq, V.b.injEq, V.sl.injEq, mapB_inj, mapI_inj, mapS_inj, GLog.map_inj, GCommand.map_inj, GCall.map_inj, GItem.map_inj, GValue.map_inj, GStore.map_inj, GMachine.map_inj, GSnap.map_inj, Gwriter.map_inj, GPair.map_inj, GScore.map_inj, GEntry.map_inj, Greader.map_inj, Gscan.map_inj, GReply.map_inj, GClient.map_inj, true_and, and_true] at h
  simp only [Prod.mk.injEq, GCommand.mk.injEq, GCall.mk.injEq, h, and_self]
theorem K6_6 : K_client_CheckCall O6 := fun p0 r h => addF_eq (x := p0) inj6 h
def a7 (x : GItem) : List D × Store := ([.agg [.v (.i .i64 x.fTerm), .v (.i .i64 x.fTime), .v (.b x.fNop), .v (.i .i64 x.fCall.fClient), .v (.i .i64 x.fCall.fSeq), .v (.i .i64 x.fCall.fCommand.fKind), .v (.s x.fCall.fCommand.fKey), .v (.s x.fCall.fCommand.fField), .v (.s x.fCall.fCommand.fText), .v (.i .i64 x.fCall.fCommand.fN)]], [])
noncomputable def O7 : Oracle := Oracle.addF O6 56 a7 (fun x => wire_CheckItem x) (fun _ (r : Int) => (.v (.i .i64 r), []))
set_option maxRecDepth 100000 in
theorem O7_sound : SoundC Try.prog O7 := addF_sound O6_sound (fun x r h => sem_fnW (ν := n56) (wide_sound O6_sound) Try.func56 (by kernel_rfl) mixed (by kernel_rfl) (Nat.le_of_ble_eq_true (by kernel_rfl)) (r_wire_CheckItem O6 K6_6 x r h))
theorem inj7 : ∀ x y, a7 x = a7 y → x = y := by
  rintro ⟨ua1, ua2, ua3, ⟨ua4, ua5, ⟨ua6, ua7, ua8, ua9, ua10⟩⟩⟩ ⟨ub1, ub2, ub3, ⟨ub4, ub5, ⟨ub6, ub7, ub8, ub9, ub10⟩⟩⟩ h
  simp only [a7, Prod.mk.injEq, List.cons.injEq, D.v.injEq, D.own.injEq, D.agg.injEq, D.rp.injEq, D.clo.injEq, D.ptr.injEq, V.i.injEq, V.s.injEq, V.b.injEq, V.sl.injEq, mapB_inj, mapI_inj, mapS_inj, GLog.map_inj, GCommand.map_inj, GCall.map_inj, GItem.map_inj, GValue.map_inj, GStore.map_inj, GMachine.map_inj, GSnap.map_inj, Gwriter.map_inj, GPair.map_inj, GScore.map_inj, GEntry.map_inj, Greader.map_inj, Gscan.map_inj, GReply.map_inj, GClient.map_inj, true_and, and_true] at h
  simp only [Prod.mk.injEq, GCommand.mk.injEq, GCall.mk.injEq, GItem.mk.injEq, h, and_self]
theorem K7_7 : K_wire_CheckItem O7 := fun p0 r h => addF_eq (x := p0) inj7 h
def a8 (x : Int × Gwriter) : List D × Store := ([.ptr 0 0, .v (.i .i64 x.1)], [[.own 1 (mapR rowB x.2.fb)]])
noncomputable def O8 : Oracle := Oracle.addF O7 94 a8 (fun x => wire_writer_number x.1 x.2) (fun _ (r : Gwriter) => (.tup [], [[.own 1 (mapR rowB r.fb)]]))
set_option maxRecDepth 100000 in
theorem O8_sound : SoundC Try.prog O8 := addF_sound O7_sound (fun x r h => sem_fnW (ν := n94) (wide_sound O7_sound) Try.func94 (by kernel_rfl) mixed (by kernel_rfl) (Nat.le_of_ble_eq_true (by kernel_rfl)) (r_wire_writer_number O7 x.1 x.2 r h))
theorem inj8 : ∀ x y, a8 x = a8 y → x = y := by
  rintro ⟨ua1, ⟨ua2⟩⟩ ⟨ub1, ⟨ub2⟩⟩ h
  simp only [a8, Prod.mk.injEq, List.cons.injEq, D.v.injEq, D.own.injEq, D.agg.injEq, D.rp.injEq, D.clo.injEq, D.ptr.injEq, V.i.injEq, V.s.injEq, V.b.injEq, V.sl.injEq, mapB_inj, mapI_inj, mapS_inj, GLog.map_inj, GCommand.map_inj, GCall.map_inj, GItem.map_inj, GValue.map_inj, GStore.map_inj, GMachine.map_inj, GSnap.map_inj, Gwriter.map_inj, GPair.map_inj, GScore.map_inj, GEntry.map_inj, Greader.map_inj, Gscan.map_inj, GReply.map_inj, GClient.map_inj, true_and, and_true] at h
  simp only [Prod.mk.injEq, Gwriter.mk.injEq, h, and_self]
theorem K8_8 : K_wire_writer_number O8 := fun p0 p1 r h => addF_eq (x := (p0, p1)) inj8 h
def a9 (x : Int × Gwriter) : List D × Store := ([.ptr 0 0, .v (.i .i64 x.1)], [[.own 1 (mapR rowB x.2.fb)]])
noncomputable def O9 : Oracle := Oracle.addF O8 95 a9 (fun x => wire_writer_small x.1 x.2) (fun _ (r : Gwriter) => (.tup [], [[.own 1 (mapR rowB r.fb)]]))
set_option maxRecDepth 100000 in
theorem O9_sound : SoundC Try.prog O9 := addF_sound O8_sound (fun x r h => sem_fnW (ν := n95) (wide_sound O8_sound) Try.func95 (by kernel_rfl) mixed (by kernel_rfl) (Nat.le_of_ble_eq_true (by kernel_rfl)) (r_wire_writer_small O8 x.1 x.2 r h))
theorem inj9 : ∀ x y, a9 x = a9 y → x = y := by
  rintro ⟨ua1, ⟨ua2⟩⟩ ⟨ub1, ⟨ub2⟩⟩ h
  simp only [a9, Prod.mk.injEq, List.cons.injEq, D.v.injEq, D.own.injEq, D.agg.injEq, D.rp.injEq, D.clo.injEq, D.ptr.injEq, V.i.injEq, V.s.injEq, V.b.injEq, V.sl.injEq, mapB_inj, mapI_inj, mapS_inj, GLog.map_inj, GCommand.map_inj, GCall.map_inj, GItem.map_inj, GValue.map_inj, GStore.map_inj, GMachine.map_inj, GSnap.map_inj, Gwriter.map_inj, GPair.map_inj, GScore.map_inj, GEntry.map_inj, Greader.map_inj, Gscan.map_inj, GReply.map_inj, GClient.map_inj, true_and, and_true] at h
  simp only [Prod.mk.injEq, Gwriter.mk.injEq, h, and_self]
theorem K9_9 : K_wire_writer_small O9 := fun p0 p1 r h => addF_eq (x := (p0, p1)) inj9 h
def a10 (x : ByteArray × Gwriter) : List D × Store := ([.ptr 0 0, .v (.s x.1)], [[.own 1 (mapR rowB x.2.fb)]])
noncomputable def O10 : Oracle := Oracle.addF O9 96 a10 (fun x => wire_writer_text x.1 x.2) (fun _ (r : Gwriter) => (.tup [], [[.own 1 (mapR rowB r.fb)]]))
set_option maxRecDepth 100000 in
theorem O10_sound : SoundC Try.prog O10 := addF_sound O9_sound (fun x r h => sem_fnW (ν := n96) (wide_sound O9_sound) Try.func96 (by kernel_rfl) mixed (by kernel_rfl) (Nat.le_of_ble_eq_true (by kernel_rfl)) (r_wire_writer_text O9 K9_9 x.1 x.2 r h))
theorem inj10 : ∀ x y, a10 x = a10 y → x = y := by
  rintro ⟨ua1, ⟨ua2⟩⟩ ⟨ub1, ⟨ub2⟩⟩ h
  simp only [a10, Prod.mk.injEq, List.cons.injEq, D.v.injEq, D.own.injEq, D.agg.injEq, D.rp.injEq, D.clo.injEq, D.ptr.injEq, V.i.injEq, V.s.injEq, V.b.injEq, V.sl.injEq, mapB_inj, mapI_inj, mapS_inj, GLog.map_inj, GCommand.map_inj, GCall.map_inj, GItem.map_inj, GValue.map_inj, GStore.map_inj, GMachine.map_inj, GSnap.map_inj, Gwriter.map_inj, GPair.map_inj, GScore.map_inj, GEntry.map_inj, Greader.map_inj, Gscan.map_inj, GReply.map_inj, GClient.map_inj, true_and, and_true] at h
  simp only [Prod.mk.injEq, Gwriter.mk.injEq, h, and_self]
theorem K10_10 : K_wire_writer_text O10 := fun p0 p1 r h => addF_eq (x := (p0, p1)) inj10 h
theorem K9_10 : K_wire_writer_small O10 := fun p0 p1 r h => (addF_ne (by decide) _ _).trans (K9_9 p0 p1 r h)
theorem K8_9 : K_wire_writer_number O9 := fun p0 p1 r h => (addF_ne (by decide) _ _).trans (K8_8 p0 p1 r h)
theorem K8_10 : K_wire_writer_number O10 := fun p0 p1 r h => (addF_ne (by decide) _ _).trans (K8_9 p0 p1 r h)
def a11 (x : GCommand × Gwriter) : List D × Store := ([.ptr 0 0, .agg [.v (.i .i64 x.1.fKind), .v (.s x.1.fKey), .v (.s x.1.fField), .v (.s x.1.fText), .v (.i .i64 x.1.fN)]], [[.own 1 (mapR rowB x.2.fb)]])
noncomputable def O11 : Oracle := Oracle.addF O10 129 a11 (fun x => wire_writer_command x.1 x.2) (fun _ (r : Gwriter) => (.tup [], [[.own 1 (mapR rowB r.fb)]]))
set_option maxRecDepth 100000 in
theorem O11_sound : SoundC Try.prog O11 := addF_sound O10_sound (fun x r h => sem_fnW (ν := n129) (wide_sound O10_sound) Try.func129 (by kernel_rfl) mixed (by kernel_rfl) (Nat.le_of_ble_eq_true (by kernel_rfl)) (r_wire_writer_command O10 K9_10 K10_10 K8_10 x.1 x.2 r h))
theorem inj11 : ∀ x y, a11 x = a11 y → x = y := by
  rintro ⟨⟨ua1, ua2, ua3, ua4, ua5⟩, ⟨ua6⟩⟩ ⟨⟨ub1, ub2, ub3, ub4, ub5⟩, ⟨ub6⟩⟩ h
  simp only [a11, Prod.mk.injEq, List.cons.injEq, D.v.injEq, D.own.injEq, D.agg.injEq, D.rp.injEq, D.clo.injEq, D.ptr.injEq, V.i.injEq, V.s.injEq, V.b.injEq, V.sl.injEq, mapB_inj, mapI_inj, mapS_inj, GLog.map_inj, GCommand.map_inj, GCall.map_inj, GItem.map_inj, GValue.map_inj, GStore.map_inj, GMachine.map_inj, GSnap.map_inj, Gwriter.map_inj, GPair.map_inj, GScore.map_inj, GEntry.map_inj, Greader.map_inj, Gscan.map_inj, GReply.map_inj, GClient.map_inj, true_and, and_true] at h
  simp only [Prod.mk.injEq, GCommand.mk.injEq, Gwriter.mk.injEq, h, and_self]
theorem K11_11 : K_wire_writer_command O11 := fun p0 p1 r h => addF_eq (x := (p0, p1)) inj11 h
theorem K8_11 : K_wire_writer_number O11 := fun p0 p1 r h => (addF_ne (by decide) _ _).trans (K8_10 p0 p1 r h)
def a12 (x : GCall × Gwriter) : List D × Store := ([.ptr 0 0, .agg [.v (.i .i64 x.1.fClient), .v (.i .i64 x.1.fSeq), .v (.i .i64 x.1.fCommand.fKind), .v (.s x.1.fCommand.fKey), .v (.s x.1.fCommand.fField), .v (.s x.1.fCommand.fText), .v (.i .i64 x.1.fCommand.fN)]], [[.own 1 (mapR rowB x.2.fb)]])
noncomputable def O12 : Oracle := Oracle.addF O11 103 a12 (fun x => wire_writer_call x.1 x.2) (fun _ (r : Gwriter) => (.tup [], [[.own 1 (mapR rowB r.fb)]]))
set_option maxRecDepth 100000 in
theorem O12_sound : SoundC Try.prog O12 := addF_sound O11_sound (fun x r h => sem_fnW (ν := n103) (wide_sound O11_sound) Try.func103 (by kernel_rfl) mixed (by kernel_rfl) (Nat.le_of_ble_eq_true (by kernel_rfl)) (r_wire_writer_call O11 K8_11 K11_11 x.1 x.2 r h))
theorem inj12 : ∀ x y, a12 x = a12 y → x = y := by
  rintro ⟨⟨ua1, ua2, ⟨ua3, ua4, ua5, ua6, ua7⟩⟩, ⟨ua8⟩⟩ ⟨⟨ub1, ub2, ⟨ub3, ub4, ub5, ub6, ub7⟩⟩, ⟨ub8⟩⟩ h
  simp only [a12, Prod.mk.injEq, List.cons.injEq, D.v.injEq, D.own.injEq, D.agg.injEq, D.rp.injEq, D.clo.injEq, D.ptr.injEq, V.i.injEq, V.s.injEq, V.b.injEq, V.sl.injEq, mapB_inj, mapI_inj, mapS_inj, GLog.map_inj, GCommand.map_inj, GCall.map_inj, GItem.map_inj, GValue.map_inj, GStore.map_inj, GMachine.map_inj, GSnap.map_inj, Gwriter.map_inj, GPair.map_inj, GScore.map_inj, GEntry.map_inj, Greader.map_inj, Gscan.map_inj, GReply.map_inj, GClient.map_inj, true_and, and_true] at h
  simp only [Prod.mk.injEq, GCommand.mk.injEq, GCall.mk.injEq, Gwriter.mk.injEq, h, and_self]
theorem K12_12 : K_wire_writer_call O12 := fun p0 p1 r h => addF_eq (x := (p0, p1)) inj12 h
theorem K8_12 : K_wire_writer_number O12 := fun p0 p1 r h => (addF_ne (by decide) _ _).trans (K8_11 p0 p1 r h)
theorem K9_11 : K_wire_writer_small O11 := fun p0 p1 r h => (addF_ne (by decide) _ _).trans (K9_10 p0 p1 r h)
theorem K9_12 : K_wire_writer_small O12 := fun p0 p1 r h => (addF_ne (by decide) _ _).trans (K9_11 p0 p1 r h)
def a13 (x : GItem × Gwriter) : List D × Store := ([.ptr 0 0, .agg [.v (.i .i64 x.1.fTerm), .v (.i .i64 x.1.fTime), .v (.b x.1.fNop), .v (.i .i64 x.1.fCall.fClient), .v (.i .i64 x.1.fCall.fSeq), .v (.i .i64 x.1.fCall.fCommand.fKind), .v (.s x.1.fCall.fCommand.fKey), .v (.s x.1.fCall.fCommand.fField), .v (.s x.1.fCall.fCommand.fText), .v (.i .i64 x.1.fCall.fCommand.fN)]], [[.own 1 (mapR rowB x.2.fb)]])
noncomputable def O13 : Oracle := Oracle.addF O12 57 a13 (fun x => wire_writer_item x.1 x.2) (fun _ (r : Gwriter) => (.tup [], [[.own 1 (mapR rowB r.fb)]]))
set_option maxRecDepth 100000 in
theorem O13_sound : SoundC Try.prog O13 := addF_sound O12_sound (fun x r h => sem_fnW (ν := n57) (wide_sound O12_sound) Try.func57 (by kernel_rfl) mixed (by kernel_rfl) (Nat.le_of_ble_eq_true (by kernel_rfl)) (r_wire_writer_item O12 K8_12 K9_12 K12_12 x.1 x.2 r h))
theorem inj13 : ∀ x y, a13 x = a13 y → x = y := by
  rintro ⟨⟨ua1, ua2, ua3, ⟨ua4, ua5, ⟨ua6, ua7, ua8, ua9, ua10⟩⟩⟩, ⟨ua11⟩⟩ ⟨⟨ub1, ub2, ub3, ⟨ub4, ub5, ⟨ub6, ub7, ub8, ub9, ub10⟩⟩⟩, ⟨ub11⟩⟩ h
  simp only [a13, Prod.mk.injEq, List.cons.injEq, D.v.injEq, D.own.injEq, D.agg.injEq, D.rp.injEq, D.clo.injEq, D.ptr.injEq, V.i.injEq, V.s.injEq, V.b.injEq, V.sl.injEq, mapB_inj, mapI_inj, mapS_inj, GLog.map_inj, GCommand.map_inj, GCall.map_inj, GItem.map_inj, GValue.map_inj, GStore.map_inj, GMachine.map_inj, GSnap.map_inj, Gwriter.map_inj, GPair.map_inj, GScore.map_inj, GEntry.map_inj, Greader.map_inj, Gscan.map_inj, GReply.map_inj, GClient.map_inj, true_and, and_true] at h
  simp only [Prod.mk.injEq, GCommand.mk.injEq, GCall.mk.injEq, GItem.mk.injEq, Gwriter.mk.injEq, h, and_self]
theorem K13_13 : K_wire_writer_item O13 := fun p0 p1 r h => addF_eq (x := (p0, p1)) inj13 h
theorem K7_8 : K_wire_CheckItem O8 := fun p0 r h => (addF_ne (by decide) _ _).trans (K7_7 p0 r h)
theorem K7_9 : K_wire_CheckItem O9 := fun p0 r h => (addF_ne (by decide) _ _).trans (K7_8 p0 r h)
theorem K7_10 : K_wire_CheckItem O10 := fun p0 r h => (addF_ne (by decide) _ _).trans (K7_9 p0 r h)
theorem K7_11 : K_wire_CheckItem O11 := fun p0 r h => (addF_ne (by decide) _ _).trans (K7_10 p0 r h)
theorem K7_12 : K_wire_CheckItem O12 := fun p0 r h => (addF_ne (by decide) _ _).trans (K7_11 p0 r h)
theorem K7_13 : K_wire_CheckItem O13 := fun p0 r h => (addF_ne (by decide) _ _).trans (K7_12 p0 r h)
def a14 (x : GItem) : List D × Store := ([.agg [.v (.i .i64 x.fTerm), .v (.i .i64 x.fTime), .v (.b x.fNop), .v (.i .i64 x.fCall.fClient), .v (.i .i64 x.fCall.fSeq), .v (.i .i64 x.fCall.fCommand.fKind), .v (.s x.fCall.fCommand.fKey), .v (.s x.fCall.fCommand.fField), .v (.s x.fCall.fCommand.fText), .v (.i .i64 x.fCall.fCommand.fN)]], [])
noncomputable def O14 : Oracle := Oracle.addF O13 20 a14 (fun x => wire_EncodeItem x) (fun _ (r : (List Int) × Int) => (.tup [.v (.sl 1 (mapR rowB r.1)), .v (.i .i64 r.2)], []))
set_option maxRecDepth 100000 in
theorem O14_sound : SoundC Try.prog O14 := addF_sound O13_sound (fun x r h => sem_fnW (ν := n20) (wide_sound O13_sound) Try.func20 (by kernel_rfl) mixed (by kernel_rfl) (Nat.le_of_ble_eq_true (by kernel_rfl)) (r_wire_EncodeItem O13 K7_13 K13_13 x r h))
theorem inj14 : ∀ x y, a14 x = a14 y → x = y := by
  rintro ⟨ua1, ua2, ua3, ⟨ua4, ua5, ⟨ua6, ua7, ua8, ua9, ua10⟩⟩⟩ ⟨ub1, ub2, ub3, ⟨ub4, ub5, ⟨ub6, ub7, ub8, ub9, ub10⟩⟩⟩ h
  simp only [a14, Prod.mk.injEq, List.cons.injEq, D.v.injEq, D.own.injEq, D.agg.injEq, D.rp.injEq, D.clo.injEq, D.ptr.injEq, V.i.injEq, V.s.injEq, V.b.injEq, V.sl.injEq, mapB_inj, mapI_inj, mapS_inj, GLog.map_inj, GCommand.map_inj, GCall.map_inj, GItem.map_inj, GValue.map_inj, GStore.map_inj, GMachine.map_inj, GSnap.map_inj, Gwriter.map_inj, GPair.map_inj, GScore.map_inj, GEntry.map_inj, Greader.map_inj, Gscan.map_inj, GReply.map_inj, GClient.map_inj, true_and, and_true] at h
  simp only [Prod.mk.injEq, GCommand.mk.injEq, GCall.mk.injEq, GItem.mk.injEq, h, and_self]
theorem K14_14 : K_wire_EncodeItem O14 := fun p0 r h => addF_eq (x := p0) inj14 h
def a15 (x : Int × Int × Int) : List D × Store := ([.v (.i .i64 x.1), .v (.i .i64 x.2.1), .v (.i .i64 x.2.2)], [])
noncomputable def O15 : Oracle := Oracle.addF O14 55 a15 (fun x => rostrumref_In x.1 x.2.1 x.2.2) (fun _ (r : Bool) => (.v (.b r), []))
set_option maxRecDepth 100000 in
theorem O15_sound : SoundC Try.prog O15 := addF_sound O14_sound (fun x r h => sem_fnW (ν := n55) (wide_sound O14_sound) Try.func55 (by kernel_rfl) mixed (by kernel_rfl) (Nat.le_of_ble_eq_true (by kernel_rfl)) (r_rostrumref_In O14 x.1 x.2.1 x.2.2 r h))
theorem inj15 : ∀ x y, a15 x = a15 y → x = y := by
  rintro ⟨ua1, ua2, ua3⟩ ⟨ub1, ub2, ub3⟩ h
  simp only [a15, Prod.mk.injEq, List.cons.injEq, D.v.injEq, D.own.injEq, D.agg.injEq, D.rp.injEq, D.clo.injEq, D.ptr.injEq, V.i.injEq, V.s.injEq, V.b.injEq, V.sl.injEq, mapB_inj, mapI_inj, mapS_inj, GLog.map_inj, GCommand.map_inj, GCall.map_inj, GItem.map_inj, GValue.map_inj, GStore.map_inj, GMachine.map_inj, GSnap.map_inj, Gwriter.map_inj, GPair.map_inj, GScore.map_inj, GEntry.map_inj, Greader.map_inj, Gscan.map_inj, GReply.map_inj, GClient.map_inj, true_and, and_true] at h
  simp only [Prod.mk.injEq, h, and_self]
theorem K15_15 : K_rostrumref_In O15 := fun p0 p1 p2 r h => addF_eq (x := (p0, p1, p2)) inj15 h
def a16 (x : Int) : List D × Store := ([.v (.i .i64 x)], [])
noncomputable def O16 : Oracle := Oracle.addF O15 91 a16 (fun x => rostrumref_numberMay x) (fun _ (r : Bool) => (.v (.b r), []))
set_option maxRecDepth 100000 in
theorem O16_sound : SoundC Try.prog O16 := addF_sound O15_sound (fun x r h => sem_fnW (ν := n91) (wide_sound O15_sound) Try.func91 (by kernel_rfl) mixed (by kernel_rfl) (Nat.le_of_ble_eq_true (by kernel_rfl)) (r_rostrumref_numberMay O15 K15_15 x r h))
theorem inj16 : ∀ x y, a16 x = a16 y → x = y := by
  rintro ua1 ub1 h
  simp only [a16, Prod.mk.injEq, List.cons.injEq, D.v.injEq, D.own.injEq, D.agg.injEq, D.rp.injEq, D.clo.injEq, D.ptr.injEq, V.i.injEq, V.s.injEq, V.b.injEq, V.sl.injEq, mapB_inj, mapI_inj, mapS_inj, GLog.map_inj, GCommand.map_inj, GCall.map_inj, GItem.map_inj, GValue.map_inj, GStore.map_inj, GMachine.map_inj, GSnap.map_inj, Gwriter.map_inj, GPair.map_inj, GScore.map_inj, GEntry.map_inj, Greader.map_inj, Gscan.map_inj, GReply.map_inj, GClient.map_inj, true_and, and_true] at h
  exact h
theorem K16_16 : K_rostrumref_numberMay O16 := fun p0 r h => addF_eq (x := p0) inj16 h
theorem K15_16 : K_rostrumref_In O16 := fun p0 p1 p2 r h => (addF_ne (by decide) _ _).trans (K15_15 p0 p1 p2 r h)
def a17 (x : ByteArray) : List D × Store := ([.v (.s x)], [])
noncomputable def O17 : Oracle := Oracle.addF O16 81 a17 (fun x => rostrumref_fieldMay x) (fun _ (r : Bool) => (.v (.b r), []))
set_option maxRecDepth 100000 in
theorem O17_sound : SoundC Try.prog O17 := addF_sound O16_sound (fun x r h => sem_fnW (ν := n81) (wide_sound O16_sound) Try.func81 (by kernel_rfl) mixed (by kernel_rfl) (Nat.le_of_ble_eq_true (by kernel_rfl)) (r_rostrumref_fieldMay O16 K15_16 x r h))
theorem inj17 : ∀ x y, a17 x = a17 y → x = y := by
  rintro ua1 ub1 h
  simp only [a17, Prod.mk.injEq, List.cons.injEq, D.v.injEq, D.own.injEq, D.agg.injEq, D.rp.injEq, D.clo.injEq, D.ptr.injEq, V.i.injEq, V.s.injEq, V.b.injEq, V.sl.injEq, mapB_inj, mapI_inj, mapS_inj, GLog.map_inj, GCommand.map_inj, GCall.map_inj, GItem.map_inj, GValue.map_inj, GStore.map_inj, GMachine.map_inj, GSnap.map_inj, Gwriter.map_inj, GPair.map_inj, GScore.map_inj, GEntry.map_inj, Greader.map_inj, Gscan.map_inj, GReply.map_inj, GClient.map_inj, true_and, and_true] at h
  exact h
theorem K17_17 : K_rostrumref_fieldMay O17 := fun p0 r h => addF_eq (x := p0) inj17 h
def a18 (x : ByteArray) : List D × Store := ([.v (.s x)], [])
noncomputable def O18 : Oracle := Oracle.addF O17 80 a18 (fun x => rostrumref_textMay x) (fun _ (r : Bool) => (.v (.b r), []))
set_option maxRecDepth 100000 in
theorem O18_sound : SoundC Try.prog O18 := addF_sound O17_sound (fun x r h => sem_fnW (ν := n80) (wide_sound O17_sound) Try.func80 (by kernel_rfl) mixed (by kernel_rfl) (Nat.le_of_ble_eq_true (by kernel_rfl)) (r_rostrumref_textMay O17 x r h))
theorem inj18 : ∀ x y, a18 x = a18 y → x = y := by
  rintro ua1 ub1 h
  simp only [a18, Prod.mk.injEq, List.cons.injEq, D.v.injEq, D.own.injEq, D.agg.injEq, D.rp.injEq, D.clo.injEq, D.ptr.injEq, V.i.injEq, V.s.injEq, V.b.injEq, V.sl.injEq, mapB_inj, mapI_inj, mapS_inj, GLog.map_inj, GCommand.map_inj, GCall.map_inj, GItem.map_inj, GValue.map_inj, GStore.map_inj, GMachine.map_inj, GSnap.map_inj, Gwriter.map_inj, GPair.map_inj, GScore.map_inj, GEntry.map_inj, Greader.map_inj, Gscan.map_inj, GReply.map_inj, GClient.map_inj, true_and, and_true] at h
  exact h
theorem K18_18 : K_rostrumref_textMay O18 := fun p0 r h => addF_eq (x := p0) inj18 h
theorem K15_17 : K_rostrumref_In O17 := fun p0 p1 p2 r h => (addF_ne (by decide) _ _).trans (K15_16 p0 p1 p2 r h)
theorem K15_18 : K_rostrumref_In O18 := fun p0 p1 p2 r h => (addF_ne (by decide) _ _).trans (K15_17 p0 p1 p2 r h)
def a19 (x : Int) : List D × Store := ([.v (.i .i64 x)], [])
noncomputable def O19 : Oracle := Oracle.addF O18 82 a19 (fun x => rostrumref_countMay x) (fun _ (r : Bool) => (.v (.b r), []))
set_option maxRecDepth 100000 in
theorem O19_sound : SoundC Try.prog O19 := addF_sound O18_sound (fun x r h => sem_fnW (ν := n82) (wide_sound O18_sound) Try.func82 (by kernel_rfl) mixed (by kernel_rfl) (Nat.le_of_ble_eq_true (by kernel_rfl)) (r_rostrumref_countMay O18 K15_18 x r h))
theorem inj19 : ∀ x y, a19 x = a19 y → x = y := by
  rintro ua1 ub1 h
  simp only [a19, Prod.mk.injEq, List.cons.injEq, D.v.injEq, D.own.injEq, D.agg.injEq, D.rp.injEq, D.clo.injEq, D.ptr.injEq, V.i.injEq, V.s.injEq, V.b.injEq, V.sl.injEq, mapB_inj, mapI_inj, mapS_inj, GLog.map_inj, GCommand.map_inj, GCall.map_inj, GItem.map_inj, GValue.map_inj, GStore.map_inj, GMachine.map_inj, GSnap.map_inj, Gwriter.map_inj, GPair.map_inj, GScore.map_inj, GEntry.map_inj, Greader.map_inj, Gscan.map_inj, GReply.map_inj, GClient.map_inj, true_and, and_true] at h
  exact h
theorem K19_19 : K_rostrumref_countMay O19 := fun p0 r h => addF_eq (x := p0) inj19 h
theorem K15_19 : K_rostrumref_In O19 := fun p0 p1 p2 r h => (addF_ne (by decide) _ _).trans (K15_18 p0 p1 p2 r h)
theorem K17_18 : K_rostrumref_fieldMay O18 := fun p0 r h => (addF_ne (by decide) _ _).trans (K17_17 p0 r h)
theorem K17_19 : K_rostrumref_fieldMay O19 := fun p0 r h => (addF_ne (by decide) _ _).trans (K17_18 p0 r h)
theorem K18_19 : K_rostrumref_textMay O19 := fun p0 r h => (addF_ne (by decide) _ _).trans (K18_18 p0 r h)
def a20 (x : GCommand) : List D × Store := ([.agg [.v (.i .i64 x.fKind), .v (.s x.fKey), .v (.s x.fField), .v (.s x.fText), .v (.i .i64 x.fN)]], [])
noncomputable def O20 : Oracle := Oracle.addF O19 130 a20 (fun x => rostrumref_CommandFault x) (fun _ (r : Int) => (.v (.i .i64 r), []))
set_option maxRecDepth 100000 in
theorem O20_sound : SoundC Try.prog O20 := addF_sound O19_sound (fun x r h => sem_fnW (ν := n130) (wide_sound O19_sound) Try.func130 (by kernel_rfl) mixed (by kernel_rfl) (Nat.le_of_ble_eq_true (by kernel_rfl)) (r_rostrumref_CommandFault O19 K15_19 K17_19 K18_19 K19_19 x r h))
theorem inj20 : ∀ x y, a20 x = a20 y → x = y := by
  rintro ⟨ua1, ua2, ua3, ua4, ua5⟩ ⟨ub1, ub2, ub3, ub4, ub5⟩ h
  simp only [a20, Prod.mk.injEq, List.cons.injEq, D.v.injEq, D.own.injEq, D.agg.injEq, D.rp.injEq, D.clo.injEq, D.ptr.injEq, V.i.injEq, V.s.injEq, V.b.injEq, V.sl.injEq, mapB_inj, mapI_inj, mapS_inj, GLog.map_inj, GCommand.map_inj, GCall.map_inj, GItem.map_inj, GValue.map_inj, GStore.map_inj, GMachine.map_inj, GSnap.map_inj, Gwriter.map_inj, GPair.map_inj, GScore.map_inj, GEntry.map_inj, Greader.map_inj, Gscan.map_inj, GReply.map_inj, GClient.map_inj, true_and, and_true] at h
  simp only [Prod.mk.injEq, GCommand.mk.injEq, h, and_self]
theorem K20_20 : K_rostrumref_CommandFault O20 := fun p0 r h => addF_eq (x := p0) inj20 h
theorem K16_17 : K_rostrumref_numberMay O17 := fun p0 r h => (addF_ne (by decide) _ _).trans (K16_16 p0 r h)
theorem K16_18 : K_rostrumref_numberMay O18 := fun p0 r h => (addF_ne (by decide) _ _).trans (K16_17 p0 r h)
theorem K16_19 : K_rostrumref_numberMay O19 := fun p0 r h => (addF_ne (by decide) _ _).trans (K16_18 p0 r h)
theorem K16_20 : K_rostrumref_numberMay O20 := fun p0 r h => (addF_ne (by decide) _ _).trans (K16_19 p0 r h)
def a21 (x : GCall) : List D × Store := ([.agg [.v (.i .i64 x.fClient), .v (.i .i64 x.fSeq), .v (.i .i64 x.fCommand.fKind), .v (.s x.fCommand.fKey), .v (.s x.fCommand.fField), .v (.s x.fCommand.fText), .v (.i .i64 x.fCommand.fN)]], [])
noncomputable def O21 : Oracle := Oracle.addF O20 104 a21 (fun x => rostrumref_CallFault x) (fun _ (r : Int) => (.v (.i .i64 r), []))
set_option maxRecDepth 100000 in
theorem O21_sound : SoundC Try.prog O21 := addF_sound O20_sound (fun x r h => sem_fnW (ν := n104) (wide_sound O20_sound) Try.func104 (by kernel_rfl) mixed (by kernel_rfl) (Nat.le_of_ble_eq_true (by kernel_rfl)) (r_rostrumref_CallFault O20 K16_20 K20_20 x r h))
theorem inj21 : ∀ x y, a21 x = a21 y → x = y := by
  rintro ⟨ua1, ua2, ⟨ua3, ua4, ua5, ua6, ua7⟩⟩ ⟨ub1, ub2, ⟨ub3, ub4, ub5, ub6, ub7⟩⟩ h
  simp only [a21, Prod.mk.injEq, List.cons.injEq, D.v.injEq, D.own.injEq, D.agg.injEq, D.rp.injEq, D.clo.injEq, D.ptr.injEq, V.i.injEq, V.s.injEq, V.b.injEq, V.sl.injEq, mapB_inj, mapI_inj, mapS_inj, GLog.map_inj, GCommand.map_inj, GCall.map_inj, GItem.map_inj, GValue.map_inj, GStore.map_inj, GMachine.map_inj, GSnap.map_inj, Gwriter.map_inj, GPair.map_inj, GScore.map_inj, GEntry.map_inj, Greader.map_inj, Gscan.map_inj, GReply.map_inj, GClient.map_inj, true_and, and_true] at h
  simp only [Prod.mk.injEq, GCommand.mk.injEq, GCall.mk.injEq, h, and_self]
theorem K21_21 : K_rostrumref_CallFault O21 := fun p0 r h => addF_eq (x := p0) inj21 h
theorem K16_21 : K_rostrumref_numberMay O21 := fun p0 r h => (addF_ne (by decide) _ _).trans (K16_20 p0 r h)
theorem K15_20 : K_rostrumref_In O20 := fun p0 p1 p2 r h => (addF_ne (by decide) _ _).trans (K15_19 p0 p1 p2 r h)
theorem K15_21 : K_rostrumref_In O21 := fun p0 p1 p2 r h => (addF_ne (by decide) _ _).trans (K15_20 p0 p1 p2 r h)
def a22 (x : GItem) : List D × Store := ([.agg [.v (.i .i64 x.fTerm), .v (.i .i64 x.fTime), .v (.b x.fNop), .v (.i .i64 x.fCall.fClient), .v (.i .i64 x.fCall.fSeq), .v (.i .i64 x.fCall.fCommand.fKind), .v (.s x.fCall.fCommand.fKey), .v (.s x.fCall.fCommand.fField), .v (.s x.fCall.fCommand.fText), .v (.i .i64 x.fCall.fCommand.fN)]], [])
noncomputable def O22 : Oracle := Oracle.addF O21 58 a22 (fun x => rostrumref_ItemFault x) (fun _ (r : Int) => (.v (.i .i64 r), []))
set_option maxRecDepth 100000 in
theorem O22_sound : SoundC Try.prog O22 := addF_sound O21_sound (fun x r h => sem_fnW (ν := n58) (wide_sound O21_sound) Try.func58 (by kernel_rfl) mixed (by kernel_rfl) (Nat.le_of_ble_eq_true (by kernel_rfl)) (r_rostrumref_ItemFault O21 K16_21 K15_21 K21_21 x r h))
theorem inj22 : ∀ x y, a22 x = a22 y → x = y := by
  rintro ⟨ua1, ua2, ua3, ⟨ua4, ua5, ⟨ua6, ua7, ua8, ua9, ua10⟩⟩⟩ ⟨ub1, ub2, ub3, ⟨ub4, ub5, ⟨ub6, ub7, ub8, ub9, ub10⟩⟩⟩ h
  simp only [a22, Prod.mk.injEq, List.cons.injEq, D.v.injEq, D.own.injEq, D.agg.injEq, D.rp.injEq, D.clo.injEq, D.ptr.injEq, V.i.injEq, V.s.injEq, V.b.injEq, V.sl.injEq, mapB_inj, mapI_inj, mapS_inj, GLog.map_inj, GCommand.map_inj, GCall.map_inj, GItem.map_inj, GValue.map_inj, GStore.map_inj, GMachine.map_inj, GSnap.map_inj, Gwriter.map_inj, GPair.map_inj, GScore.map_inj, GEntry.map_inj, Greader.map_inj, Gscan.map_inj, GReply.map_inj, GClient.map_inj, true_and, and_true] at h
  simp only [Prod.mk.injEq, GCommand.mk.injEq, GCall.mk.injEq, GItem.mk.injEq, h, and_self]
theorem K22_22 : K_rostrumref_ItemFault O22 := fun p0 r h => addF_eq (x := p0) inj22 h
def a23 (x : Int) : List D × Store := ([.v (.i .i64 x)], [])
noncomputable def O23 : Oracle := Oracle.addF O22 106 a23 (fun x => rostrumref_eight x) (fun _ (r : (List Int)) => (.own 1 (mapR rowB r), []))
set_option maxRecDepth 100000 in
theorem O23_sound : SoundC Try.prog O23 := addF_sound O22_sound (fun x r h => sem_fnW (ν := n106) (wide_sound O22_sound) Try.func106 (by kernel_rfl) mixed (by kernel_rfl) (Nat.le_of_ble_eq_true (by kernel_rfl)) (r_rostrumref_eight O22 x r h))
theorem inj23 : ∀ x y, a23 x = a23 y → x = y := by
  rintro ua1 ub1 h
  simp only [a23, Prod.mk.injEq, List.cons.injEq, D.v.injEq, D.own.injEq, D.agg.injEq, D.rp.injEq, D.clo.injEq, D.ptr.injEq, V.i.injEq, V.s.injEq, V.b.injEq, V.sl.injEq, mapB_inj, mapI_inj, mapS_inj, GLog.map_inj, GCommand.map_inj, GCall.map_inj, GItem.map_inj, GValue.map_inj, GStore.map_inj, GMachine.map_inj, GSnap.map_inj, Gwriter.map_inj, GPair.map_inj, GScore.map_inj, GEntry.map_inj, Greader.map_inj, Gscan.map_inj, GReply.map_inj, GClient.map_inj, true_and, and_true] at h
  exact h
theorem K23_23 : K_rostrumref_eight O23 := fun p0 r h => addF_eq (x := p0) inj23 h
def a24 (x : (List Int) × (List Int)) : List D × Store := ([.v (.sl 1 (mapR rowB x.1)), .v (.sl 1 (mapR rowB x.2))], [])
noncomputable def O24 : Oracle := Oracle.addF O23 105 a24 (fun x => rostrumref_joined x.1 x.2) (fun _ (r : (List Int)) => (.own 1 (mapR rowB r), []))
set_option maxRecDepth 100000 in
theorem O24_sound : SoundC Try.prog O24 := addF_sound O23_sound (fun x r h => sem_fnW (ν := n105) (wide_sound O23_sound) Try.func105 (by kernel_rfl) mixed (by kernel_rfl) (Nat.le_of_ble_eq_true (by kernel_rfl)) (r_rostrumref_joined O23 x.1 x.2 r h))
theorem inj24 : ∀ x y, a24 x = a24 y → x = y := by
  rintro ⟨ua1, ua2⟩ ⟨ub1, ub2⟩ h
  simp only [a24, Prod.mk.injEq, List.cons.injEq, D.v.injEq, D.own.injEq, D.agg.injEq, D.rp.injEq, D.clo.injEq, D.ptr.injEq, V.i.injEq, V.s.injEq, V.b.injEq, V.sl.injEq, mapB_inj, mapI_inj, mapS_inj, GLog.map_inj, GCommand.map_inj, GCall.map_inj, GItem.map_inj, GValue.map_inj, GStore.map_inj, GMachine.map_inj, GSnap.map_inj, Gwriter.map_inj, GPair.map_inj, GScore.map_inj, GEntry.map_inj, Greader.map_inj, Gscan.map_inj, GReply.map_inj, GClient.map_inj, true_and, and_true] at h
  simp only [Prod.mk.injEq, h, and_self]
theorem K24_24 : K_rostrumref_joined O24 := fun p0 p1 r h => addF_eq (x := (p0, p1)) inj24 h
def a25 (x : ByteArray) : List D × Store := ([.v (.s x)], [])
noncomputable def O25 : Oracle := Oracle.addF O24 107 a25 (fun x => rostrumref_textBytes x) (fun _ (r : (List Int)) => (.own 1 (mapR rowB r), []))
set_option maxRecDepth 100000 in
theorem O25_sound : SoundC Try.prog O25 := addF_sound O24_sound (fun x r h => sem_fnW (ν := n107) (wide_sound O24_sound) Try.func107 (by kernel_rfl) mixed (by kernel_rfl) (Nat.le_of_ble_eq_true (by kernel_rfl)) (r_rostrumref_textBytes O24 K24_24 x r h))
theorem inj25 : ∀ x y, a25 x = a25 y → x = y := by
  rintro ua1 ub1 h
  simp only [a25, Prod.mk.injEq, List.cons.injEq, D.v.injEq, D.own.injEq, D.agg.injEq, D.rp.injEq, D.clo.injEq, D.ptr.injEq, V.i.injEq, V.s.injEq, V.b.injEq, V.sl.injEq, mapB_inj, mapI_inj, mapS_inj, GLog.map_inj, GCommand.map_inj, GCall.map_inj, GItem.map_inj, GValue.map_inj, GStore.map_inj, GMachine.map_inj, GSnap.map_inj, Gwriter.map_inj, GPair.map_inj, GScore.map_inj, GEntry.map_inj, Greader.map_inj, Gscan.map_inj, GReply.map_inj, GClient.map_inj, true_and, and_true] at h
  exact h
theorem K25_25 : K_rostrumref_textBytes O25 := fun p0 r h => addF_eq (x := p0) inj25 h
theorem K23_24 : K_rostrumref_eight O24 := fun p0 r h => (addF_ne (by decide) _ _).trans (K23_23 p0 r h)
theorem K23_25 : K_rostrumref_eight O25 := fun p0 r h => (addF_ne (by decide) _ _).trans (K23_24 p0 r h)
theorem K24_25 : K_rostrumref_joined O25 := fun p0 p1 r h => (addF_ne (by decide) _ _).trans (K24_24 p0 p1 r h)
def a26 (x : GItem) : List D × Store := ([.agg [.v (.i .i64 x.fTerm), .v (.i .i64 x.fTime), .v (.b x.fNop), .v (.i .i64 x.fCall.fClient), .v (.i .i64 x.fCall.fSeq), .v (.i .i64 x.fCall.fCommand.fKind), .v (.s x.fCall.fCommand.fKey), .v (.s x.fCall.fCommand.fField), .v (.s x.fCall.fCommand.fText), .v (.i .i64 x.fCall.fCommand.fN)]], [])
noncomputable def O26 : Oracle := Oracle.addF O25 59 a26 (fun x => rostrumref_itemBytes x) (fun _ (r : (List Int)) => (.own 1 (mapR rowB r), []))
set_option maxRecDepth 100000 in
theorem O26_sound : SoundC Try.prog O26 := addF_sound O25_sound (fun x r h => sem_fnW (ν := n59) (wide_sound O25_sound) Try.func59 (by kernel_rfl) mixed (by kernel_rfl) (Nat.le_of_ble_eq_true (by kernel_rfl)) (r_rostrumref_itemBytes O25 K23_25 K24_25 K25_25 x r h))
theorem inj26 : ∀ x y, a26 x = a26 y → x = y := by
  rintro ⟨ua1, ua2, ua3, ⟨ua4, ua5, ⟨ua6, ua7, ua8, ua9, ua10⟩⟩⟩ ⟨ub1, ub2, ub3, ⟨ub4, ub5, ⟨ub6, ub7, ub8, ub9, ub10⟩⟩⟩ h
  simp only [a26, Prod.mk.injEq, List.cons.injEq, D.v.injEq, D.own.injEq, D.agg.injEq, D.rp.injEq, D.clo.injEq, D.ptr.injEq, V.i.injEq, V.s.injEq, V.b.injEq, V.sl.injEq, mapB_inj, mapI_inj, mapS_inj, GLog.map_inj, GCommand.map_inj, GCall.map_inj, GItem.map_inj, GValue.map_inj, GStore.map_inj, GMachine.map_inj, GSnap.map_inj, Gwriter.map_inj, GPair.map_inj, GScore.map_inj, GEntry.map_inj, Greader.map_inj, Gscan.map_inj, GReply.map_inj, GClient.map_inj, true_and, and_true] at h
  simp only [Prod.mk.injEq, GCommand.mk.injEq, GCall.mk.injEq, GItem.mk.injEq, h, and_self]
theorem K26_26 : K_rostrumref_itemBytes O26 := fun p0 r h => addF_eq (x := p0) inj26 h
theorem K22_23 : K_rostrumref_ItemFault O23 := fun p0 r h => (addF_ne (by decide) _ _).trans (K22_22 p0 r h)
theorem K22_24 : K_rostrumref_ItemFault O24 := fun p0 r h => (addF_ne (by decide) _ _).trans (K22_23 p0 r h)
theorem K22_25 : K_rostrumref_ItemFault O25 := fun p0 r h => (addF_ne (by decide) _ _).trans (K22_24 p0 r h)
theorem K22_26 : K_rostrumref_ItemFault O26 := fun p0 r h => (addF_ne (by decide) _ _).trans (K22_25 p0 r h)
def a27 (x : GItem) : List D × Store := ([.agg [.v (.i .i64 x.fTerm), .v (.i .i64 x.fTime), .v (.b x.fNop), .v (.i .i64 x.fCall.fClient), .v (.i .i64 x.fCall.fSeq), .v (.i .i64 x.fCall.fCommand.fKind), .v (.s x.fCall.fCommand.fKey), .v (.s x.fCall.fCommand.fField), .v (.s x.fCall.fCommand.fText), .v (.i .i64 x.fCall.fCommand.fN)]], [])
noncomputable def O27 : Oracle := Oracle.addF O26 21 a27 (fun x => rostrumref_ItemBytes x) (fun _ (r : (List Int) × Int) => (.tup [.v (.sl 1 (mapR rowB r.1)), .v (.i .i64 r.2)], []))
set_option maxRecDepth 100000 in
theorem O27_sound : SoundC Try.prog O27 := addF_sound O26_sound (fun x r h => sem_fnW (ν := n21) (wide_sound O26_sound) Try.func21 (by kernel_rfl) mixed (by kernel_rfl) (Nat.le_of_ble_eq_true (by kernel_rfl)) (r_rostrumref_ItemBytes O26 K22_26 K26_26 x r h))
theorem inj27 : ∀ x y, a27 x = a27 y → x = y := by
  rintro ⟨ua1, ua2, ua3, ⟨ua4, ua5, ⟨ua6, ua7, ua8, ua9, ua10⟩⟩⟩ ⟨ub1, ub2, ub3, ⟨ub4, ub5, ⟨ub6, ub7, ub8, ub9, ub10⟩⟩⟩ h
  simp only [a27, Prod.mk.injEq, List.cons.injEq, D.v.injEq, D.own.injEq, D.agg.injEq, D.rp.injEq, D.clo.injEq, D.ptr.injEq, V.i.injEq, V.s.injEq, V.b.injEq, V.sl.injEq, mapB_inj, mapI_inj, mapS_inj, GLog.map_inj, GCommand.map_inj, GCall.map_inj, GItem.map_inj, GValue.map_inj, GStore.map_inj, GMachine.map_inj, GSnap.map_inj, Gwriter.map_inj, GPair.map_inj, GScore.map_inj, GEntry.map_inj, Greader.map_inj, Gscan.map_inj, GReply.map_inj, GClient.map_inj, true_and, and_true] at h
  simp only [Prod.mk.injEq, GCommand.mk.injEq, GCall.mk.injEq, GItem.mk.injEq, h, and_self]
theorem K27_27 : K_rostrumref_ItemBytes O27 := fun p0 r h => addF_eq (x := p0) inj27 h
theorem K14_15 : K_wire_EncodeItem O15 := fun p0 r h => (addF_ne (by decide) _ _).trans (K14_14 p0 r h)
theorem K14_16 : K_wire_EncodeItem O16 := fun p0 r h => (addF_ne (by decide) _ _).trans (K14_15 p0 r h)
theorem K14_17 : K_wire_EncodeItem O17 := fun p0 r h => (addF_ne (by decide) _ _).trans (K14_16 p0 r h)
theorem K14_18 : K_wire_EncodeItem O18 := fun p0 r h => (addF_ne (by decide) _ _).trans (K14_17 p0 r h)
theorem K14_19 : K_wire_EncodeItem O19 := fun p0 r h => (addF_ne (by decide) _ _).trans (K14_18 p0 r h)
theorem K14_20 : K_wire_EncodeItem O20 := fun p0 r h => (addF_ne (by decide) _ _).trans (K14_19 p0 r h)
theorem K14_21 : K_wire_EncodeItem O21 := fun p0 r h => (addF_ne (by decide) _ _).trans (K14_20 p0 r h)
theorem K14_22 : K_wire_EncodeItem O22 := fun p0 r h => (addF_ne (by decide) _ _).trans (K14_21 p0 r h)
theorem K14_23 : K_wire_EncodeItem O23 := fun p0 r h => (addF_ne (by decide) _ _).trans (K14_22 p0 r h)
theorem K14_24 : K_wire_EncodeItem O24 := fun p0 r h => (addF_ne (by decide) _ _).trans (K14_23 p0 r h)
theorem K14_25 : K_wire_EncodeItem O25 := fun p0 r h => (addF_ne (by decide) _ _).trans (K14_24 p0 r h)
theorem K14_26 : K_wire_EncodeItem O26 := fun p0 r h => (addF_ne (by decide) _ _).trans (K14_25 p0 r h)
theorem K14_27 : K_wire_EncodeItem O27 := fun p0 r h => (addF_ne (by decide) _ _).trans (K14_26 p0 r h)
set_option maxRecDepth 100000 in
theorem sem (rs : List (List V)) (h : HasAll Try.prog [38] rs) : Mx.Sem Try.prog 5 (argsD Try.prog [38] rs) [] (.v (.b true)) [] := by
  obtain ⟨r0, _, rfl, a0, b0⟩ := HasAll.cons h
  obtain rfl := HasAll.nil b0
  obtain ⟨x0, rfl, o0⟩ := GItem.of38 a0
  simp only [argsD, argD_struct Try.underlying38]
  exact sem_fnW (ν := n5) (wide_sound O27_sound) Try.func5 (by kernel_rfl) mixed (by kernel_rfl) (Nat.le_of_ble_eq_true (by kernel_rfl)) (r_rostrumlaw_WireItemBytes O27 K14_27 K27_27 x0 true (WireItemBytes_pure x0 o0))
end CWireItemBytes
end Go.Proofs.Ytnjkmbogbfjffaa
