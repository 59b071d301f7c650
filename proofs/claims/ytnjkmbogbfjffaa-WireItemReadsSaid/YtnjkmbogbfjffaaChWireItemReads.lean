/- The chain of contracts of the law WireItemReads, over the functions that it reaches. -/
import Derived.Test.YtnjkmbogbfjffaaWireItemReadsZa
import Derived.Test.YtnjkmbogbfjffaaWireItemReadsZb
import Derived.Test.YtnjkmbogbfjffaaWireItemReadsP
set_option linter.unusedSimpArgs false
set_option linter.unusedVariables false
set_option linter.constructorNameAsVariable false
set_option linter.unnecessarySimpa false
namespace Go.Proofs.Ytnjkmbogbfjffaa
open Go Go.Mx Go.Proofs
namespace CWireItemReads
theorem argD_slice {P : Program} {t e : TypeId} {x : V} (hu : P.underlying t = some (.slice e)) : argD P t [x] = .v x := by simp only [argD, hu]
theorem argD_str {P : Program} {t : TypeId} {x : V} (hu : P.underlying t = some .string) : argD P t [x] = .v x := by simp only [argD, hu]
def a1 (x : (List Int)) : List D × aA := ([.v (.sl 1 (ab bA x))], [])
noncomputable def O1 : ak := ak.addF noC 38 a1 (fun x => rostrumlaw_octets_z x) (fun _ (r : (List Int)) => (.v (.sl 1 (ab bA r)), []))
set_option maxRecDepth 100000 in
theorem O1_sound : cE Try.prog O1 := cA (noC_sound _) (fun x r h => by
  obtain ⟨d, S, h1, h2, h3⟩ := r_rostrumlaw_octets_z noC x r h
  have h4 := Mx.Sem.frozen (cL (ν := n38) (cz (noC_sound _)) Try.func38 (by kernel_rfl) mixed (by kernel_rfl) (Nat.le_of_ble_eq_true (by kernel_rfl)) h1) h2
  obtain ⟨e1, e2⟩ := Prod.mk.inj h3
  rw [e1] at h4; rw [e2] at h4; exact h4)
theorem inj1 : ∀ x y, a1 x = a1 y → x = y := by
  rintro ua1 ub1 h
  simp only [a1, Prod.mk.injEq, List.cons.injEq, D.v.injEq, D.own.injEq, D.agg.injEq, D.rp.injEq, D.clo.injEq, D.ptr.injEq, V.i.injEq, V.s.injEq, V.b.injEq, V.sl.injEq, cw, cv, cu, GLog.map_inj, GCommand.map_inj, GCall.map_inj, GItem.map_inj, GValue.map_inj, GStore.map_inj, GMachine.map_inj, GSnap.map_inj, Gwriter.map_inj, GPair.map_inj, GScore.map_inj, GEntry.map_inj, Greader.map_inj, Gscan.map_inj, GReply.map_inj, GClient.map_inj, true_and, and_true] at h
  exact h
theorem K1_1 : K_rostrumlaw_octets_z O1 := fun p0 r h => cM (x := p0) inj1 h
def a2 (x : Int × Greader) : List D × aA := ([.ptr 0 0, .v (.i .i64 x.1)], [[.v (.sl 1 (ab bA x.2.frest)), .v (.b x.2.fshort)]])
noncomputable def O2 : ak := ak.addF O1 133 a2 (fun x => wire_reader_take x.1 x.2) (fun _ (r : (List Int) × Greader) => (.v (.sl 1 (ab bA r.1)), [[.v (.sl 1 (ab bA r.2.frest)), .v (.b r.2.fshort)]]))
set_option maxRecDepth 100000 in
theorem O2_sound : cE Try.prog O2 := cA O1_sound (fun x r h => by
  obtain ⟨d, S, h1, h2, h3⟩ := r_wire_reader_take O1 x.1 x.2 r h
  have h4 := Mx.Sem.frozen (cL (ν := n133) (cz O1_sound) Try.func133 (by kernel_rfl) mixed (by kernel_rfl) (Nat.le_of_ble_eq_true (by kernel_rfl)) h1) h2
  obtain ⟨e1, e2⟩ := Prod.mk.inj h3
  rw [e1] at h4; rw [e2] at h4; exact h4)
theorem inj2 : ∀ x y, a2 x = a2 y → x = y := by
  rintro ⟨ua1, ⟨ua2, ua3⟩⟩ ⟨ub1, ⟨ub2, ub3⟩⟩ h
  simp only [a2, Prod.mk.injEq, List.cons.injEq, D.v.injEq, D.own.injEq, D.agg.injEq, D.rp.injEq, D.clo.injEq, D.ptr.injEq, V.i.injEq, V.s.injEq, V.b.injEq, V.sl.injEq, cw, cv, cu, GLog.map_inj, GCommand.map_inj, GCall.map_inj, GItem.map_inj, GValue.map_inj, GStore.map_inj, GMachine.map_inj, GSnap.map_inj, Gwriter.map_inj, GPair.map_inj, GScore.map_inj, GEntry.map_inj, Greader.map_inj, Gscan.map_inj, GReply.map_inj, GClient.map_inj, true_and, and_true] at h
  simp only [Prod.mk.injEq, Greader.mk.injEq, h, and_self]
theorem K2_2 : K_wire_reader_take O2 := fun p0 p1 r h => cM (x := (p0, p1)) inj2 h
def a3 (x : Greader) : List D × aA := ([.ptr 0 0], [[.v (.sl 1 (ab bA x.frest)), .v (.b x.fshort)]])
noncomputable def O3 : ak := ak.addF O2 115 a3 (fun x => wire_reader_number x) (fun _ (r : Int × Greader) => (.v (.i .i64 r.1), [[.v (.sl 1 (ab bA r.2.frest)), .v (.b r.2.fshort)]]))
set_option maxRecDepth 100000 in
theorem O3_sound : cE Try.prog O3 := cA O2_sound (fun x r h => cL (ν := n115) (cz O2_sound) Try.func115 (by kernel_rfl) mixed (by kernel_rfl) (Nat.le_of_ble_eq_true (by kernel_rfl)) (r_wire_reader_number O2 K2_2 x r h))
theorem inj3 : ∀ x y, a3 x = a3 y → x = y := by
  rintro ⟨ua1, ua2⟩ ⟨ub1, ub2⟩ h
  simp only [a3, Prod.mk.injEq, List.cons.injEq, D.v.injEq, D.own.injEq, D.agg.injEq, D.rp.injEq, D.clo.injEq, D.ptr.injEq, V.i.injEq, V.s.injEq, V.b.injEq, V.sl.injEq, cw, cv, cu, GLog.map_inj, GCommand.map_inj, GCall.map_inj, GItem.map_inj, GValue.map_inj, GStore.map_inj, GMachine.map_inj, GSnap.map_inj, Gwriter.map_inj, GPair.map_inj, GScore.map_inj, GEntry.map_inj, Greader.map_inj, Gscan.map_inj, GReply.map_inj, GClient.map_inj, true_and, and_true] at h
  simp only [Prod.mk.injEq, Greader.mk.injEq, h, and_self]
theorem K3_3 : K_wire_reader_number O3 := fun p0 r h => cM (x := p0) inj3 h
theorem K2_3 : K_wire_reader_take O3 := fun p0 p1 r h => (aV (by decide) _ _).trans (K2_2 p0 p1 r h)
def a4 (x : Greader) : List D × aA := ([.ptr 0 0], [[.v (.sl 1 (ab bA x.frest)), .v (.b x.fshort)]])
noncomputable def O4 : ak := ak.addF O3 116 a4 (fun x => wire_reader_small x) (fun _ (r : Int × Greader) => (.v (.i .i64 r.1), [[.v (.sl 1 (ab bA r.2.frest)), .v (.b r.2.fshort)]]))
set_option maxRecDepth 100000 in
theorem O4_sound : cE Try.prog O4 := cA O3_sound (fun x r h => cL (ν := n116) (cz O3_sound) Try.func116 (by kernel_rfl) mixed (by kernel_rfl) (Nat.le_of_ble_eq_true (by kernel_rfl)) (r_wire_reader_small O3 K2_3 x r h))
theorem inj4 : ∀ x y, a4 x = a4 y → x = y := by
  rintro ⟨ua1, ua2⟩ ⟨ub1, ub2⟩ h
  simp only [a4, Prod.mk.injEq, List.cons.injEq, D.v.injEq, D.own.injEq, D.agg.injEq, D.rp.injEq, D.clo.injEq, D.ptr.injEq, V.i.injEq, V.s.injEq, V.b.injEq, V.sl.injEq, cw, cv, cu, GLog.map_inj, GCommand.map_inj, GCall.map_inj, GItem.map_inj, GValue.map_inj, GStore.map_inj, GMachine.map_inj, GSnap.map_inj, Gwriter.map_inj, GPair.map_inj, GScore.map_inj, GEntry.map_inj, Greader.map_inj, Gscan.map_inj, GReply.map_inj, GClient.map_inj, true_and, and_true] at h
  simp only [Prod.mk.injEq, Greader.mk.injEq, h, and_self]
theorem K4_4 : K_wire_reader_small O4 := fun p0 r h => cM (x := p0) inj4 h
theorem K2_4 : K_wire_reader_take O4 := fun p0 p1 r h => (aV (by decide) _ _).trans (K2_3 p0 p1 r h)
def a5 (x : Greader) : List D × aA := ([.ptr 0 0], [[.v (.sl 1 (ab bA x.frest)), .v (.b x.fshort)]])
noncomputable def O5 : ak := ak.addF O4 135 a5 (fun x => wire_reader_text x) (fun _ (r : ByteArray × Greader) => (.v (.s r.1), [[.v (.sl 1 (ab bA r.2.frest)), .v (.b r.2.fshort)]]))
set_option maxRecDepth 100000 in
theorem O5_sound : cE Try.prog O5 := cA O4_sound (fun x r h => cL (ν := n135) (cz O4_sound) Try.func135 (by kernel_rfl) mixed (by kernel_rfl) (Nat.le_of_ble_eq_true (by kernel_rfl)) (r_wire_reader_text O4 K4_4 K2_4 x r h))
theorem inj5 : ∀ x y, a5 x = a5 y → x = y := by
  rintro ⟨ua1, ua2⟩ ⟨ub1, ub2⟩ h
  simp only [a5, Prod.mk.injEq, List.cons.injEq, D.v.injEq, D.own.injEq, D.agg.injEq, D.rp.injEq, D.clo.injEq, D.ptr.injEq, V.i.injEq, V.s.injEq, V.b.injEq, V.sl.injEq, cw, cv, cu, GLog.map_inj, GCommand.map_inj, GCall.map_inj, GItem.map_inj, GValue.map_inj, GStore.map_inj, GMachine.map_inj, GSnap.map_inj, Gwriter.map_inj, GPair.map_inj, GScore.map_inj, GEntry.map_inj, Greader.map_inj, Gscan.map_inj, GReply.map_inj, GClient.map_inj, true_and, and_true] at h
  simp only [Prod.mk.injEq, Greader.mk.injEq, h, and_self]
theorem K5_5 : K_wire_reader_text O5 := fun p0 r h => cM (x := p0) inj5 h
theorem K4_5 : K_wire_reader_small O5 := fun p0 r h => (aV (by decide) _ _).trans (K4_4 p0 r h)
theorem K3_4 : K_wire_reader_number O4 := fun p0 r h => (aV (by decide) _ _).trans (K3_3 p0 r h)
theorem K3_5 : K_wire_reader_number O5 := fun p0 r h => (aV (by decide) _ _).trans (K3_4 p0 r h)
def a6 (x : Greader) : List D × aA := ([.ptr 0 0], [[.v (.sl 1 (ab bA x.frest)), .v (.b x.fshort)]])
noncomputable def O6 : ak := ak.addF O5 134 a6 (fun x => wire_reader_command x) (fun _ (r : GCommand × Greader) => (.agg [.v (.i .i64 r.1.fKind), .v (.s r.1.fKey), .v (.s r.1.fField), .v (.s r.1.fText), .v (.i .i64 r.1.fN)], [[.v (.sl 1 (ab bA r.2.frest)), .v (.b r.2.fshort)]]))
set_option maxRecDepth 100000 in
theorem O6_sound : cE Try.prog O6 := cA O5_sound (fun x r h => cL (ν := n134) (cz O5_sound) Try.func134 (by kernel_rfl) mixed (by kernel_rfl) (Nat.le_of_ble_eq_true (by kernel_rfl)) (r_wire_reader_command O5 K4_5 K5_5 K3_5 x r h))
theorem inj6 : ∀ x y, a6 x = a6 y → x = y := by
  rintro ⟨ua1, ua2⟩ ⟨ub1, ub2⟩ h
  simp only [a6, Prod.mk.injEq, List.cons.injEq, D.v.injEq, D.own.injEq, D.agg.injEq, D.rp.injEq, D.clo.injEq, D.ptr.injEq, V.i.injEq, V.s.injEq, V.b.injEq, V.sl.injEq, cw, cv, cu, GLog.map_inj, GCommand.map_inj, GCall.map_inj, GItem.map_inj, GValue.map_inj, GStore.map_inj, GMachine.map_inj, GSnap.map_inj, Gwriter.map_inj, GPair.map_inj, GScore.map_inj, GEntry.map_inj, Greader.map_inj, Gscan.map_inj, GReply.map_inj, GClient.map_inj, true_and, and_true] at h
  simp only [Prod.mk.injEq, Greader.mk.injEq, h, and_self]
theorem K6_6 : K_wire_reader_command O6 := fun p0 r h => cM (x := p0) inj6 h
theorem K3_6 : K_wire_reader_number O6 := fun p0 r h => (aV (by decide) _ _).trans (K3_5 p0 r h)
def a7 (x : Greader) : List D × aA := ([.ptr 0 0], [[.v (.sl 1 (ab bA x.frest)), .v (.b x.fshort)]])
noncomputable def O7 : ak := ak.addF O6 117 a7 (fun x => wire_reader_call x) (fun _ (r : GCall × Greader) => (.agg [.v (.i .i64 r.1.fClient), .v (.i .i64 r.1.fSeq), .v (.i .i64 r.1.fCommand.fKind), .v (.s r.1.fCommand.fKey), .v (.s r.1.fCommand.fField), .v (.s r.1.fCommand.fText), .v (.i .i64 r.1.fCommand.fN)], [[.v (.sl 1 (ab bA r.2.frest)), .v (.b r.2.fshort)]]))
set_option maxRecDepth 100000 in
theorem O7_sound : cE Try.prog O7 := cA O6_sound (fun x r h => cL (ν := n117) (cz O6_sound) Try.func117 (by kernel_rfl) mixed (by kernel_rfl) (Nat.le_of_ble_eq_true (by kernel_rfl)) (r_wire_reader_call O6 K3_6 K6_6 x r h))
theorem inj7 : ∀ x y, a7 x = a7 y → x = y := by
  rintro ⟨ua1, ua2⟩ ⟨ub1, ub2⟩ h
  simp only [a7, Prod.mk.injEq, List.cons.injEq, D.v.injEq, D.own.injEq, D.agg.injEq, D.rp.injEq, D.clo.injEq, D.ptr.injEq, V.i.injEq, V.s.injEq, V.b.injEq, V.sl.injEq, cw, cv, cu, GLog.map_inj, GCommand.map_inj, GCall.map_inj, GItem.map_inj, GValue.map_inj, GStore.map_inj, GMachine.map_inj, GSnap.map_inj, Gwriter.map_inj, GPair.map_inj, GScore.map_inj, GEntry.map_inj, Greader.map_inj, Gscan.map_inj, GReply.map_inj, GClient.map_inj, true_and, and_true] at h
  simp only [Prod.mk.injEq, Greader.mk.injEq, h, and_self]
theorem K7_7 : K_wire_reader_call O7 := fun p0 r h => cM (x := p0) inj7 h
theorem K3_7 : K_wire_reader_number O7 := fun p0 r h => (aV (by decide) _ _).trans (K3_6 p0 r h)
theorem K4_6 : K_wire_reader_small O6 := fun p0 r h => (aV (by decide) _ _).trans (K4_5 p0 r h)
theorem K4_7 : K_wire_reader_small O7 := fun p0 r h => (aV (by decide) _ _).trans (K4_6 p0 r h)
def a8 (x : Greader) : List D × aA := ([.ptr 0 0], [[.v (.sl 1 (ab bA x.frest)), .v (.b x.fshort)]])
noncomputable def O8 : ak := ak.addF O7 85 a8 (fun x => wire_reader_item x) (fun _ (r : GItem × Bool × Greader) => (.tup [.agg [.v (.i .i64 r.1.fTerm), .v (.i .i64 r.1.fTime), .v (.b r.1.fNop), .v (.i .i64 r.1.fCall.fClient), .v (.i .i64 r.1.fCall.fSeq), .v (.i .i64 r.1.fCall.fCommand.fKind), .v (.s r.1.fCall.fCommand.fKey), .v (.s r.1.fCall.fCommand.fField), .v (.s r.1.fCall.fCommand.fText), .v (.i .i64 r.1.fCall.fCommand.fN)], .v (.b r.2.1)], [[.v (.sl 1 (ab bA r.2.2.frest)), .v (.b r.2.2.fshort)]]))
set_option maxRecDepth 100000 in
theorem O8_sound : cE Try.prog O8 := cA O7_sound (fun x r h => cL (ν := n85) (cz O7_sound) Try.func85 (by kernel_rfl) mixed (by kernel_rfl) (Nat.le_of_ble_eq_true (by kernel_rfl)) (r_wire_reader_item O7 K3_7 K4_7 K7_7 x r h))
theorem inj8 : ∀ x y, a8 x = a8 y → x = y := by
  rintro ⟨ua1, ua2⟩ ⟨ub1, ub2⟩ h
  simp only [a8, Prod.mk.injEq, List.cons.injEq, D.v.injEq, D.own.injEq, D.agg.injEq, D.rp.injEq, D.clo.injEq, D.ptr.injEq, V.i.injEq, V.s.injEq, V.b.injEq, V.sl.injEq, cw, cv, cu, GLog.map_inj, GCommand.map_inj, GCall.map_inj, GItem.map_inj, GValue.map_inj, GStore.map_inj, GMachine.map_inj, GSnap.map_inj, Gwriter.map_inj, GPair.map_inj, GScore.map_inj, GEntry.map_inj, Greader.map_inj, Gscan.map_inj, GReply.map_inj, GClient.map_inj, true_and, and_true] at h
  simp only [Prod.mk.injEq, Greader.mk.injEq, h, and_self]
theorem K8_8 : K_wire_reader_item O8 := fun p0 r h => cM (x := p0) inj8 h
def a9 (x : Bool × Greader) : List D × aA := ([.ptr 0 0, .v (.b x.1)], [[.v (.sl 1 (ab bA x.2.frest)), .v (.b x.2.fshort)]])
noncomputable def O9 : ak := ak.addF O8 86 a9 (fun x => wire_reader_end x.1 x.2) (fun _ (r : Int × Greader) => (.v (.i .i64 r.1), [[.v (.sl 1 (ab bA r.2.frest)), .v (.b r.2.fshort)]]))
set_option maxRecDepth 100000 in
theorem O9_sound : cE Try.prog O9 := cA O8_sound (fun x r h => cL (ν := n86) (cz O8_sound) Try.func86 (by kernel_rfl) mixed (by kernel_rfl) (Nat.le_of_ble_eq_true (by kernel_rfl)) (r_wire_reader_end O8 x.1 x.2 r h))
theorem inj9 : ∀ x y, a9 x = a9 y → x = y := by
  rintro ⟨ua1, ⟨ua2, ua3⟩⟩ ⟨ub1, ⟨ub2, ub3⟩⟩ h
  simp only [a9, Prod.mk.injEq, List.cons.injEq, D.v.injEq, D.own.injEq, D.agg.injEq, D.rp.injEq, D.clo.injEq, D.ptr.injEq, V.i.injEq, V.s.injEq, V.b.injEq, V.sl.injEq, cw, cv, cu, GLog.map_inj, GCommand.map_inj, GCall.map_inj, GItem.map_inj, GValue.map_inj, GStore.map_inj, GMachine.map_inj, GSnap.map_inj, Gwriter.map_inj, GPair.map_inj, GScore.map_inj, GEntry.map_inj, Greader.map_inj, Gscan.map_inj, GReply.map_inj, GClient.map_inj, true_and, and_true] at h
  simp only [Prod.mk.injEq, Greader.mk.injEq, h, and_self]
theorem K9_9 : K_wire_reader_end O9 := fun p0 p1 r h => cM (x := (p0, p1)) inj9 h
def a10 (x : Int) : List D × aA := ([.v (.i .i64 x)], [])
noncomputable def O10 : ak := ak.addF O9 127 a10 (fun x => client_number x) (fun _ (r : Bool) => (.v (.b r), []))
set_option maxRecDepth 100000 in
theorem O10_sound : cE Try.prog O10 := cA O9_sound (fun x r h => cL (ν := n127) (cz O9_sound) Try.func127 (by kernel_rfl) mixed (by kernel_rfl) (Nat.le_of_ble_eq_true (by kernel_rfl)) (r_client_number O9 x r h))
theorem inj10 : ∀ x y, a10 x = a10 y → x = y := by
  rintro ua1 ub1 h
  simp only [a10, Prod.mk.injEq, List.cons.injEq, D.v.injEq, D.own.injEq, D.agg.injEq, D.rp.injEq, D.clo.injEq, D.ptr.injEq, V.i.injEq, V.s.injEq, V.b.injEq, V.sl.injEq, cw, cv, cu, GLog.map_inj, GCommand.map_inj, GCall.map_inj, GItem.map_inj, GValue.map_inj, GStore.map_inj, GMachine.map_inj, GSnap.map_inj, Gwriter.map_inj, GPair.map_inj, GScore.map_inj, GEntry.map_inj, Greader.map_inj, Gscan.map_inj, GReply.map_inj, GClient.map_inj, true_and, and_true] at h
  exact h
theorem K10_10 : K_client_number O10 := fun p0 r h => cM (x := p0) inj10 h
def a11 (x : ByteArray) : List D × aA := ([.v (.s x)], [])
noncomputable def O11 : ak := ak.addF O10 67 a11 (fun x => value_field x) (fun _ (r : Bool) => (.v (.b r), []))
set_option maxRecDepth 100000 in
theorem O11_sound : cE Try.prog O11 := cA O10_sound (fun x r h => cL (ν := n67) (cz O10_sound) Try.func67 (by kernel_rfl) mixed (by kernel_rfl) (Nat.le_of_ble_eq_true (by kernel_rfl)) (r_value_field O10 x r h))
theorem inj11 : ∀ x y, a11 x = a11 y → x = y := by
  rintro ua1 ub1 h
  simp only [a11, Prod.mk.injEq, List.cons.injEq, D.v.injEq, D.own.injEq, D.agg.injEq, D.rp.injEq, D.clo.injEq, D.ptr.injEq, V.i.injEq, V.s.injEq, V.b.injEq, V.sl.injEq, cw, cv, cu, GLog.map_inj, GCommand.map_inj, GCall.map_inj, GItem.map_inj, GValue.map_inj, GStore.map_inj, GMachine.map_inj, GSnap.map_inj, Gwriter.map_inj, GPair.map_inj, GScore.map_inj, GEntry.map_inj, Greader.map_inj, Gscan.map_inj, GReply.map_inj, GClient.map_inj, true_and, and_true] at h
  exact h
theorem K11_11 : K_value_field O11 := fun p0 r h => cM (x := p0) inj11 h
def a12 (x : ByteArray) : List D × aA := ([.v (.s x)], [])
noncomputable def O12 : ak := ak.addF O11 62 a12 (fun x => value_text x) (fun _ (r : Bool) => (.v (.b r), []))
set_option maxRecDepth 100000 in
theorem O12_sound : cE Try.prog O12 := cA O11_sound (fun x r h => cL (ν := n62) (cz O11_sound) Try.func62 (by kernel_rfl) mixed (by kernel_rfl) (Nat.le_of_ble_eq_true (by kernel_rfl)) (r_value_text O11 x r h))
theorem inj12 : ∀ x y, a12 x = a12 y → x = y := by
  rintro ua1 ub1 h
  simp only [a12, Prod.mk.injEq, List.cons.injEq, D.v.injEq, D.own.injEq, D.agg.injEq, D.rp.injEq, D.clo.injEq, D.ptr.injEq, V.i.injEq, V.s.injEq, V.b.injEq, V.sl.injEq, cw, cv, cu, GLog.map_inj, GCommand.map_inj, GCall.map_inj, GItem.map_inj, GValue.map_inj, GStore.map_inj, GMachine.map_inj, GSnap.map_inj, Gwriter.map_inj, GPair.map_inj, GScore.map_inj, GEntry.map_inj, Greader.map_inj, Gscan.map_inj, GReply.map_inj, GClient.map_inj, true_and, and_true] at h
  exact h
theorem K12_12 : K_value_text O12 := fun p0 r h => cM (x := p0) inj12 h
def a13 (x : Int) : List D × aA := ([.v (.i .i64 x)], [])
noncomputable def O13 : ak := ak.addF O12 70 a13 (fun x => value_count x) (fun _ (r : Bool) => (.v (.b r), []))
set_option maxRecDepth 100000 in
theorem O13_sound : cE Try.prog O13 := cA O12_sound (fun x r h => cL (ν := n70) (cz O12_sound) Try.func70 (by kernel_rfl) mixed (by kernel_rfl) (Nat.le_of_ble_eq_true (by kernel_rfl)) (r_value_count O12 x r h))
theorem inj13 : ∀ x y, a13 x = a13 y → x = y := by
  rintro ua1 ub1 h
  simp only [a13, Prod.mk.injEq, List.cons.injEq, D.v.injEq, D.own.injEq, D.agg.injEq, D.rp.injEq, D.clo.injEq, D.ptr.injEq, V.i.injEq, V.s.injEq, V.b.injEq, V.sl.injEq, cw, cv, cu, GLog.map_inj, GCommand.map_inj, GCall.map_inj, GItem.map_inj, GValue.map_inj, GStore.map_inj, GMachine.map_inj, GSnap.map_inj, Gwriter.map_inj, GPair.map_inj, GScore.map_inj, GEntry.map_inj, Greader.map_inj, Gscan.map_inj, GReply.map_inj, GClient.map_inj, true_and, and_true] at h
  exact h
theorem K13_13 : K_value_count O13 := fun p0 r h => cM (x := p0) inj13 h
theorem K11_12 : K_value_field O12 := fun p0 r h => (aV (by decide) _ _).trans (K11_11 p0 r h)
theorem K11_13 : K_value_field O13 := fun p0 r h => (aV (by decide) _ _).trans (K11_12 p0 r h)
theorem K12_13 : K_value_text O13 := fun p0 r h => (aV (by decide) _ _).trans (K12_12 p0 r h)
def a14 (x : GCommand) : List D × aA := ([.agg [.v (.i .i64 x.fKind), .v (.s x.fKey), .v (.s x.fField), .v (.s x.fText), .v (.i .i64 x.fN)]], [])
noncomputable def O14 : ak := ak.addF O13 128 a14 (fun x => value_CheckCommand x) (fun _ (r : Int) => (.v (.i .i64 r), []))
set_option maxRecDepth 100000 in
theorem O14_sound : cE Try.prog O14 := cA O13_sound (fun x r h => cL (ν := n128) (cz O13_sound) Try.func128 (by kernel_rfl) mixed (by kernel_rfl) (Nat.le_of_ble_eq_true (by kernel_rfl)) (r_value_CheckCommand O13 K11_13 K12_13 K13_13 x r h))
theorem inj14 : ∀ x y, a14 x = a14 y → x = y := by
  rintro ⟨ua1, ua2, ua3, ua4, ua5⟩ ⟨ub1, ub2, ub3, ub4, ub5⟩ h
  simp only [a14, Prod.mk.injEq, List.cons.injEq, D.v.injEq, D.own.injEq, D.agg.injEq, D.rp.injEq, D.clo.injEq, D.ptr.injEq, V.i.injEq, V.s.injEq, V.b.injEq, V.sl.injEq, cw, cv, cu, GLog.map_inj, GCommand.map_inj, GCall.map_inj, GItem.map_inj, GValue.map_inj, GStore.map_inj, GMachine.map_inj, GSnap.map_inj, Gwriter.map_inj, GPair.map_inj, GScore.map_inj, GEntry.map_inj, Greader.map_inj, Gscan.map_inj, GReply.map_inj, GClient.map_inj, true_and, and_true] at h
  simp only [Prod.mk.injEq, GCommand.mk.injEq, h, and_self]
theorem K14_14 : K_value_CheckCommand O14 := fun p0 r h => cM (x := p0) inj14 h
theorem K10_11 : K_client_number O11 := fun p0 r h => (aV (by decide) _ _).trans (K10_10 p0 r h)
theorem K10_12 : K_client_number O12 := fun p0 r h => (aV (by decide) _ _).trans (K10_11 p0 r h)
theorem K10_13 : K_client_number O13 := fun p0 r h => (aV (by decide) _ _).trans (K10_12 p0 r h)
theorem K10_14 : K_client_number O14 := fun p0 r h => (aV (by decide) _ _).trans (K10_13 p0 r h)
def a15 (x : GCall) : List D × aA := ([.agg [.v (.i .i64 x.fClient), .v (.i .i64 x.fSeq), .v (.i .i64 x.fCommand.fKind), .v (.s x.fCommand.fKey), .v (.s x.fCommand.fField), .v (.s x.fCommand.fText), .v (.i .i64 x.fCommand.fN)]], [])
noncomputable def O15 : ak := ak.addF O14 102 a15 (fun x => client_CheckCall x) (fun _ (r : Int) => (.v (.i .i64 r), []))
set_option maxRecDepth 100000 in
theorem O15_sound : cE Try.prog O15 := cA O14_sound (fun x r h => cL (ν := n102) (cz O14_sound) Try.func102 (by kernel_rfl) mixed (by kernel_rfl) (Nat.le_of_ble_eq_true (by kernel_rfl)) (r_client_CheckCall O14 K10_14 K14_14 x r h))
theorem inj15 : ∀ x y, a15 x = a15 y → x = y := by
  rintro ⟨ua1, ua2, ⟨ua3, ua4, ua5, ua6, ua7⟩⟩ ⟨ub1, ub2, ⟨ub3, ub4, ub5, ub6, ub7⟩⟩ h
  simp only [a15, Prod.mk.injEq, List.cons.injEq, D.v.injEq, D.own.injEq, D.agg.injEq, D.rp.injEq, D.clo.injEq, D.ptr.injEq, V.i.injEq, V.s.injEq, V.b.injEq, V.sl.injEq, cw, cv, cu, GLog.map_inj, GCommand.map_inj, GCall.map_inj, GItem.map_inj, GValue.map_inj, GStore.map_inj, GMachine.map_inj, GSnap.map_inj, Gwriter.map_inj, GPair.map_inj, GScore.map_inj, GEntry.map_inj, Greader.map_inj, Gscan.map_inj, GReply.map_inj, GClient.map_inj, true_and, and_true] at h
  simp only [Prod.mk.injEq, GCommand.mk.injEq, GCall.mk.injEq, h, and_self]
theorem K15_15 : K_client_CheckCall O15 := fun p0 r h => cM (x := p0) inj15 h
def a16 (x : GItem) : List D × aA := ([.agg [.v (.i .i64 x.fTerm), .v (.i .i64 x.fTime), .v (.b x.fNop), .v (.i .i64 x.fCall.fClient), .v (.i .i64 x.fCall.fSeq), .v (.i .i64 x.fCall.fCommand.fKind), .v (.s x.fCall.fCommand.fKey), .v (.s x.fCall.fCommand.fField), .v (.s x.fCall.fCommand.fText), .v (.i .i64 x.fCall.fCommand.fN)]], [])
noncomputable def O16 : ak := ak.addF O15 56 a16 (fun x => wire_CheckItem x) (fun _ (r : Int) => (.v (.i .i64 r), []))
set_option maxRecDepth 100000 in
theorem O16_sound : cE Try.prog O16 := cA O15_sound (fun x r h => cL (ν := n56) (cz O15_sound) Try.func56 (by kernel_rfl) mixed (by kernel_rfl) (Nat.le_of_ble_eq_true (by kernel_rfl)) (r_wire_CheckItem O15 K15_15 x r h))
theorem inj16 : ∀ x y, a16 x = a16 y → x = y := by
  rintro ⟨ua1, ua2, ua3, ⟨ua4, ua5, ⟨ua6, ua7, ua8, ua9, ua10⟩⟩⟩ ⟨ub1, ub2, ub3, ⟨ub4, ub5, ⟨ub6, ub7, ub8, ub9, ub10⟩⟩⟩ h
  simp only [a16, Prod.mk.injEq, List.cons.injEq, D.v.injEq, D.own.injEq, D.agg.injEq, D.rp.injEq, D.clo.injEq, D.ptr.injEq, V.i.injEq, V.s.injEq, V.b.injEq, V.sl.injEq, cw, cv, cu, GLog.map_inj, GCommand.map_inj, GCall.map_inj, GItem.map_inj, GValue.map_inj, GStore.map_inj, GMachine.map_inj, GSnap.map_inj, Gwriter.map_inj, GPair.map_inj, GScore.map_inj, GEntry.map_inj, Greader.map_inj, Gscan.map_inj, GReply.map_inj, GClient.map_inj, true_and, and_true] at h
  simp only [Prod.mk.injEq, GCommand.mk.injEq, GCall.mk.injEq, GItem.mk.injEq, h, and_self]
theorem K16_16 : K_wire_CheckItem O16 := fun p0 r h => cM (x := p0) inj16 h
theorem K8_9 : K_wire_reader_item O9 := fun p0 r h => (aV (by decide) _ _).trans (K8_8 p0 r h)
theorem K8_10 : K_wire_reader_item O10 := fun p0 r h => (aV (by decide) _ _).trans (K8_9 p0 r h)
theorem K8_11 : K_wire_reader_item O11 := fun p0 r h => (aV (by decide) _ _).trans (K8_10 p0 r h)
theorem K8_12 : K_wire_reader_item O12 := fun p0 r h => (aV (by decide) _ _).trans (K8_11 p0 r h)
theorem K8_13 : K_wire_reader_item O13 := fun p0 r h => (aV (by decide) _ _).trans (K8_12 p0 r h)
theorem K8_14 : K_wire_reader_item O14 := fun p0 r h => (aV (by decide) _ _).trans (K8_13 p0 r h)
theorem K8_15 : K_wire_reader_item O15 := fun p0 r h => (aV (by decide) _ _).trans (K8_14 p0 r h)
theorem K8_16 : K_wire_reader_item O16 := fun p0 r h => (aV (by decide) _ _).trans (K8_15 p0 r h)
theorem K9_10 : K_wire_reader_end O10 := fun p0 p1 r h => (aV (by decide) _ _).trans (K9_9 p0 p1 r h)
theorem K9_11 : K_wire_reader_end O11 := fun p0 p1 r h => (aV (by decide) _ _).trans (K9_10 p0 p1 r h)
theorem K9_12 : K_wire_reader_end O12 := fun p0 p1 r h => (aV (by decide) _ _).trans (K9_11 p0 p1 r h)
theorem K9_13 : K_wire_reader_end O13 := fun p0 p1 r h => (aV (by decide) _ _).trans (K9_12 p0 p1 r h)
theorem K9_14 : K_wire_reader_end O14 := fun p0 p1 r h => (aV (by decide) _ _).trans (K9_13 p0 p1 r h)
theorem K9_15 : K_wire_reader_end O15 := fun p0 p1 r h => (aV (by decide) _ _).trans (K9_14 p0 p1 r h)
theorem K9_16 : K_wire_reader_end O16 := fun p0 p1 r h => (aV (by decide) _ _).trans (K9_15 p0 p1 r h)
def a17 (x : (List Int)) : List D × aA := ([.v (.sl 1 (ab bA x))], [])
noncomputable def O17 : ak := ak.addF O16 37 a17 (fun x => wire_DecodeItem x) (fun _ (r : GItem × Int) => (.tup [.agg [.v (.i .i64 r.1.fTerm), .v (.i .i64 r.1.fTime), .v (.b r.1.fNop), .v (.i .i64 r.1.fCall.fClient), .v (.i .i64 r.1.fCall.fSeq), .v (.i .i64 r.1.fCall.fCommand.fKind), .v (.s r.1.fCall.fCommand.fKey), .v (.s r.1.fCall.fCommand.fField), .v (.s r.1.fCall.fCommand.fText), .v (.i .i64 r.1.fCall.fCommand.fN)], .v (.i .i64 r.2)], []))
set_option maxRecDepth 100000 in
theorem O17_sound : cE Try.prog O17 := cA O16_sound (fun x r h => cL (ν := n37) (cz O16_sound) Try.func37 (by kernel_rfl) mixed (by kernel_rfl) (Nat.le_of_ble_eq_true (by kernel_rfl)) (r_wire_DecodeItem O16 K8_16 K9_16 K16_16 x r h))
theorem inj17 : ∀ x y, a17 x = a17 y → x = y := by
  rintro ua1 ub1 h
  simp only [a17, Prod.mk.injEq, List.cons.injEq, D.v.injEq, D.own.injEq, D.agg.injEq, D.rp.injEq, D.clo.injEq, D.ptr.injEq, V.i.injEq, V.s.injEq, V.b.injEq, V.sl.injEq, cw, cv, cu, GLog.map_inj, GCommand.map_inj, GCall.map_inj, GItem.map_inj, GValue.map_inj, GStore.map_inj, GMachine.map_inj, GSnap.map_inj, Gwriter.map_inj, GPair.map_inj, GScore.map_inj, GEntry.map_inj, Greader.map_inj, Gscan.map_inj, GReply.map_inj, GClient.map_inj, true_and, and_true] at h
  exact h
theorem K17_17 : K_wire_DecodeItem O17 := fun p0 r h => cM (x := p0) inj17 h
def a18 (x : Gscan) : List D × aA := ([.ptr 0 0], [[.v (.sl 1 (ab bA x.fb)), .v (.i .i64 x.fat)]])
noncomputable def O18 : ak := ak.addF O17 119 a18 (fun x => rostrumref_scan_next x) (fun _ (r : Int × Gscan) => (.v (.i .i64 r.1), [[.v (.sl 1 (ab bA r.2.fb)), .v (.i .i64 r.2.fat)]]))
set_option maxRecDepth 100000 in
theorem O18_sound : cE Try.prog O18 := cA O17_sound (fun x r h => cL (ν := n119) (cz O17_sound) Try.func119 (by kernel_rfl) mixed (by kernel_rfl) (Nat.le_of_ble_eq_true (by kernel_rfl)) (r_rostrumref_scan_next O17 x r h))
theorem inj18 : ∀ x y, a18 x = a18 y → x = y := by
  rintro ⟨ua1, ua2⟩ ⟨ub1, ub2⟩ h
  simp only [a18, Prod.mk.injEq, List.cons.injEq, D.v.injEq, D.own.injEq, D.agg.injEq, D.rp.injEq, D.clo.injEq, D.ptr.injEq, V.i.injEq, V.s.injEq, V.b.injEq, V.sl.injEq, cw, cv, cu, GLog.map_inj, GCommand.map_inj, GCall.map_inj, GItem.map_inj, GValue.map_inj, GStore.map_inj, GMachine.map_inj, GSnap.map_inj, Gwriter.map_inj, GPair.map_inj, GScore.map_inj, GEntry.map_inj, Greader.map_inj, Gscan.map_inj, GReply.map_inj, GClient.map_inj, true_and, and_true] at h
  simp only [Prod.mk.injEq, Gscan.mk.injEq, h, and_self]
theorem K18_18 : K_rostrumref_scan_next O18 := fun p0 r h => cM (x := p0) inj18 h
def a19 (x : Gscan) : List D × aA := ([.ptr 0 0], [[.v (.sl 1 (ab bA x.fb)), .v (.i .i64 x.fat)]])
noncomputable def O19 : ak := ak.addF O18 118 a19 (fun x => rostrumref_scan_long x) (fun _ (r : Int × Gscan) => (.v (.i .i64 r.1), [[.v (.sl 1 (ab bA r.2.fb)), .v (.i .i64 r.2.fat)]]))
set_option maxRecDepth 100000 in
theorem O19_sound : cE Try.prog O19 := cA O18_sound (fun x r h => cL (ν := n118) (cz O18_sound) Try.func118 (by kernel_rfl) mixed (by kernel_rfl) (Nat.le_of_ble_eq_true (by kernel_rfl)) (r_rostrumref_scan_long O18 K18_18 x r h))
theorem inj19 : ∀ x y, a19 x = a19 y → x = y := by
  rintro ⟨ua1, ua2⟩ ⟨ub1, ub2⟩ h
  simp only [a19, Prod.mk.injEq, List.cons.injEq, D.v.injEq, D.own.injEq, D.agg.injEq, D.rp.injEq, D.clo.injEq, D.ptr.injEq, V.i.injEq, V.s.injEq, V.b.injEq, V.sl.injEq, cw, cv, cu, GLog.map_inj, GCommand.map_inj, GCall.map_inj, GItem.map_inj, GValue.map_inj, GStore.map_inj, GMachine.map_inj, GSnap.map_inj, Gwriter.map_inj, GPair.map_inj, GScore.map_inj, GEntry.map_inj, Greader.map_inj, Gscan.map_inj, GReply.map_inj, GClient.map_inj, true_and, and_true] at h
  simp only [Prod.mk.injEq, Gscan.mk.injEq, h, and_self]
theorem K19_19 : K_rostrumref_scan_long O19 := fun p0 r h => cM (x := p0) inj19 h
def a20 (x : Gscan) : List D × aA := ([.ptr 0 0], [[.v (.sl 1 (ab bA x.fb)), .v (.i .i64 x.fat)]])
noncomputable def O20 : ak := ak.addF O19 121 a20 (fun x => rostrumref_scan_over x) (fun _ (r : Bool × Gscan) => (.v (.b r.1), [[.v (.sl 1 (ab bA r.2.fb)), .v (.i .i64 r.2.fat)]]))
set_option maxRecDepth 100000 in
theorem O20_sound : cE Try.prog O20 := cA O19_sound (fun x r h => cL (ν := n121) (cz O19_sound) Try.func121 (by kernel_rfl) mixed (by kernel_rfl) (Nat.le_of_ble_eq_true (by kernel_rfl)) (r_rostrumref_scan_over O19 x r h))
theorem inj20 : ∀ x y, a20 x = a20 y → x = y := by
  rintro ⟨ua1, ua2⟩ ⟨ub1, ub2⟩ h
  simp only [a20, Prod.mk.injEq, List.cons.injEq, D.v.injEq, D.own.injEq, D.agg.injEq, D.rp.injEq, D.clo.injEq, D.ptr.injEq, V.i.injEq, V.s.injEq, V.b.injEq, V.sl.injEq, cw, cv, cu, GLog.map_inj, GCommand.map_inj, GCall.map_inj, GItem.map_inj, GValue.map_inj, GStore.map_inj, GMachine.map_inj, GSnap.map_inj, Gwriter.map_inj, GPair.map_inj, GScore.map_inj, GEntry.map_inj, Greader.map_inj, Gscan.map_inj, GReply.map_inj, GClient.map_inj, true_and, and_true] at h
  simp only [Prod.mk.injEq, Gscan.mk.injEq, h, and_self]
theorem K20_20 : K_rostrumref_scan_over O20 := fun p0 r h => cM (x := p0) inj20 h
theorem K18_19 : K_rostrumref_scan_next O19 := fun p0 r h => (aV (by decide) _ _).trans (K18_18 p0 r h)
theorem K18_20 : K_rostrumref_scan_next O20 := fun p0 r h => (aV (by decide) _ _).trans (K18_19 p0 r h)
def a21 (x : Gscan) : List D × aA := ([.ptr 0 0], [[.v (.sl 1 (ab bA x.fb)), .v (.i .i64 x.fat)]])
noncomputable def O21 : ak := ak.addF O20 120 a21 (fun x => rostrumref_scan_str x) (fun _ (r : ByteArray × Gscan) => (.v (.s r.1), [[.v (.sl 1 (ab bA r.2.fb)), .v (.i .i64 r.2.fat)]]))
set_option maxRecDepth 100000 in
theorem O21_sound : cE Try.prog O21 := cA O20_sound (fun x r h => cL (ν := n120) (cz O20_sound) Try.func120 (by kernel_rfl) mixed (by kernel_rfl) (Nat.le_of_ble_eq_true (by kernel_rfl)) (r_rostrumref_scan_str O20 K18_20 K20_20 x r h))
theorem inj21 : ∀ x y, a21 x = a21 y → x = y := by
  rintro ⟨ua1, ua2⟩ ⟨ub1, ub2⟩ h
  simp only [a21, Prod.mk.injEq, List.cons.injEq, D.v.injEq, D.own.injEq, D.agg.injEq, D.rp.injEq, D.clo.injEq, D.ptr.injEq, V.i.injEq, V.s.injEq, V.b.injEq, V.sl.injEq, cw, cv, cu, GLog.map_inj, GCommand.map_inj, GCall.map_inj, GItem.map_inj, GValue.map_inj, GStore.map_inj, GMachine.map_inj, GSnap.map_inj, Gwriter.map_inj, GPair.map_inj, GScore.map_inj, GEntry.map_inj, Greader.map_inj, Gscan.map_inj, GReply.map_inj, GClient.map_inj, true_and, and_true] at h
  simp only [Prod.mk.injEq, Gscan.mk.injEq, h, and_self]
theorem K21_21 : K_rostrumref_scan_str O21 := fun p0 r h => cM (x := p0) inj21 h
theorem K19_20 : K_rostrumref_scan_long O20 := fun p0 r h => (aV (by decide) _ _).trans (K19_19 p0 r h)
theorem K19_21 : K_rostrumref_scan_long O21 := fun p0 r h => (aV (by decide) _ _).trans (K19_20 p0 r h)
theorem K18_21 : K_rostrumref_scan_next O21 := fun p0 r h => (aV (by decide) _ _).trans (K18_20 p0 r h)
def a22 (x : Gscan) : List D × aA := ([.ptr 0 0], [[.v (.sl 1 (ab bA x.fb)), .v (.i .i64 x.fat)]])
noncomputable def O22 : ak := ak.addF O21 87 a22 (fun x => rostrumref_scan_itemNext x) (fun _ (r : GItem × Bool × Gscan) => (.tup [.agg [.v (.i .i64 r.1.fTerm), .v (.i .i64 r.1.fTime), .v (.b r.1.fNop), .v (.i .i64 r.1.fCall.fClient), .v (.i .i64 r.1.fCall.fSeq), .v (.i .i64 r.1.fCall.fCommand.fKind), .v (.s r.1.fCall.fCommand.fKey), .v (.s r.1.fCall.fCommand.fField), .v (.s r.1.fCall.fCommand.fText), .v (.i .i64 r.1.fCall.fCommand.fN)], .v (.b r.2.1)], [[.v (.sl 1 (ab bA r.2.2.fb)), .v (.i .i64 r.2.2.fat)]]))
set_option maxRecDepth 100000 in
theorem O22_sound : cE Try.prog O22 := cA O21_sound (fun x r h => cL (ν := n87) (cz O21_sound) Try.func87 (by kernel_rfl) mixed (by kernel_rfl) (Nat.le_of_ble_eq_true (by kernel_rfl)) (r_rostrumref_scan_itemNext O21 K19_21 K18_21 K21_21 x r h))
theorem inj22 : ∀ x y, a22 x = a22 y → x = y := by
  rintro ⟨ua1, ua2⟩ ⟨ub1, ub2⟩ h
  simp only [a22, Prod.mk.injEq, List.cons.injEq, D.v.injEq, D.own.injEq, D.agg.injEq, D.rp.injEq, D.clo.injEq, D.ptr.injEq, V.i.injEq, V.s.injEq, V.b.injEq, V.sl.injEq, cw, cv, cu, GLog.map_inj, GCommand.map_inj, GCall.map_inj, GItem.map_inj, GValue.map_inj, GStore.map_inj, GMachine.map_inj, GSnap.map_inj, Gwriter.map_inj, GPair.map_inj, GScore.map_inj, GEntry.map_inj, Greader.map_inj, Gscan.map_inj, GReply.map_inj, GClient.map_inj, true_and, and_true] at h
  simp only [Prod.mk.injEq, Gscan.mk.injEq, h, and_self]
theorem K22_22 : K_rostrumref_scan_itemNext O22 := fun p0 r h => cM (x := p0) inj22 h
theorem K20_21 : K_rostrumref_scan_over O21 := fun p0 r h => (aV (by decide) _ _).trans (K20_20 p0 r h)
theorem K20_22 : K_rostrumref_scan_over O22 := fun p0 r h => (aV (by decide) _ _).trans (K20_21 p0 r h)
def a23 (x : Bool × Gscan) : List D × aA := ([.ptr 0 0, .v (.b x.1)], [[.v (.sl 1 (ab bA x.2.fb)), .v (.i .i64 x.2.fat)]])
noncomputable def O23 : ak := ak.addF O22 88 a23 (fun x => rostrumref_scan_end x.1 x.2) (fun _ (r : Int × Gscan) => (.v (.i .i64 r.1), [[.v (.sl 1 (ab bA r.2.fb)), .v (.i .i64 r.2.fat)]]))
set_option maxRecDepth 100000 in
theorem O23_sound : cE Try.prog O23 := cA O22_sound (fun x r h => cL (ν := n88) (cz O22_sound) Try.func88 (by kernel_rfl) mixed (by kernel_rfl) (Nat.le_of_ble_eq_true (by kernel_rfl)) (r_rostrumref_scan_end O22 K20_22 x.1 x.2 r h))
theorem inj23 : ∀ x y, a23 x = a23 y → x = y := by
  rintro ⟨ua1, ⟨ua2, ua3⟩⟩ ⟨ub1, ⟨ub2, ub3⟩⟩ h
  simp only [a23, Prod.mk.injEq, List.cons.injEq, D.v.injEq, D.own.injEq, D.agg.injEq, D.rp.injEq, D.clo.injEq, D.ptr.injEq, V.i.injEq, V.s.injEq, V.b.injEq, V.sl.injEq, cw, cv, cu, GLog.map_inj, GCommand.map_inj, GCall.map_inj, GItem.map_inj, GValue.map_inj, GStore.map_inj, GMachine.map_inj, GSnap.map_inj, Gwriter.map_inj, GPair.map_inj, GScore.map_inj, GEntry.map_inj, Greader.map_inj, Gscan.map_inj, GReply.map_inj, GClient.map_inj, true_and, and_true] at h
  simp only [Prod.mk.injEq, Gscan.mk.injEq, h, and_self]
theorem K23_23 : K_rostrumref_scan_end O23 := fun p0 p1 r h => cM (x := (p0, p1)) inj23 h
def a24 (x : Int × Int × Int) : List D × aA := ([.v (.i .i64 x.1), .v (.i .i64 x.2.1), .v (.i .i64 x.2.2)], [])
noncomputable def O24 : ak := ak.addF O23 55 a24 (fun x => rostrumref_In x.1 x.2.1 x.2.2) (fun _ (r : Bool) => (.v (.b r), []))
set_option maxRecDepth 100000 in
theorem O24_sound : cE Try.prog O24 := cA O23_sound (fun x r h => cL (ν := n55) (cz O23_sound) Try.func55 (by kernel_rfl) mixed (by kernel_rfl) (Nat.le_of_ble_eq_true (by kernel_rfl)) (r_rostrumref_In O23 x.1 x.2.1 x.2.2 r h))
theorem inj24 : ∀ x y, a24 x = a24 y → x = y := by
  rintro ⟨ua1, ua2, ua3⟩ ⟨ub1, ub2, ub3⟩ h
  simp only [a24, Prod.mk.injEq, List.cons.injEq, D.v.injEq, D.own.injEq, D.agg.injEq, D.rp.injEq, D.clo.injEq, D.ptr.injEq, V.i.injEq, V.s.injEq, V.b.injEq, V.sl.injEq, cw, cv, cu, GLog.map_inj, GCommand.map_inj, GCall.map_inj, GItem.map_inj, GValue.map_inj, GStore.map_inj, GMachine.map_inj, GSnap.map_inj, Gwriter.map_inj, GPair.map_inj, GScore.map_inj, GEntry.map_inj, Greader.map_inj, Gscan.map_inj, GReply.map_inj, GClient.map_inj, true_and, and_true] at h
  simp only [Prod.mk.injEq, h, and_self]
theorem K24_24 : K_rostrumref_In O24 := fun p0 p1 p2 r h => cM (x := (p0, p1, p2)) inj24 h
def a25 (x : Int) : List D × aA := ([.v (.i .i64 x)], [])
noncomputable def O25 : ak := ak.addF O24 91 a25 (fun x => rostrumref_numberMay x) (fun _ (r : Bool) => (.v (.b r), []))
set_option maxRecDepth 100000 in
theorem O25_sound : cE Try.prog O25 := cA O24_sound (fun x r h => cL (ν := n91) (cz O24_sound) Try.func91 (by kernel_rfl) mixed (by kernel_rfl) (Nat.le_of_ble_eq_true (by kernel_rfl)) (r_rostrumref_numberMay O24 K24_24 x r h))
theorem inj25 : ∀ x y, a25 x = a25 y → x = y := by
  rintro ua1 ub1 h
  simp only [a25, Prod.mk.injEq, List.cons.injEq, D.v.injEq, D.own.injEq, D.agg.injEq, D.rp.injEq, D.clo.injEq, D.ptr.injEq, V.i.injEq, V.s.injEq, V.b.injEq, V.sl.injEq, cw, cv, cu, GLog.map_inj, GCommand.map_inj, GCall.map_inj, GItem.map_inj, GValue.map_inj, GStore.map_inj, GMachine.map_inj, GSnap.map_inj, Gwriter.map_inj, GPair.map_inj, GScore.map_inj, GEntry.map_inj, Greader.map_inj, Gscan.map_inj, GReply.map_inj, GClient.map_inj, true_and, and_true] at h
  exact h
theorem K25_25 : K_rostrumref_numberMay O25 := fun p0 r h => cM (x := p0) inj25 h
theorem K24_25 : K_rostrumref_In O25 := fun p0 p1 p2 r h => (aV (by decide) _ _).trans (K24_24 p0 p1 p2 r h)
def a26 (x : ByteArray) : List D × aA := ([.v (.s x)], [])
noncomputable def O26 : ak := ak.addF O25 81 a26 (fun x => rostrumref_fieldMay x) (fun _ (r : Bool) => (.v (.b r), []))
set_option maxRecDepth 100000 in
theorem O26_sound : cE Try.prog O26 := cA O25_sound (fun x r h => cL (ν := n81) (cz O25_sound) Try.func81 (by kernel_rfl) mixed (by kernel_rfl) (Nat.le_of_ble_eq_true (by kernel_rfl)) (r_rostrumref_fieldMay O25 K24_25 x r h))
theorem inj26 : ∀ x y, a26 x = a26 y → x = y := by
  rintro ua1 ub1 h
  simp only [a26, Prod.mk.injEq, List.cons.injEq, D.v.injEq, D.own.injEq, D.agg.injEq, D.rp.injEq, D.clo.injEq, D.ptr.injEq, V.i.injEq, V.s.injEq, V.b.injEq, V.sl.injEq, cw, cv, cu, GLog.map_inj, GCommand.map_inj, GCall.map_inj, GItem.map_inj, GValue.map_inj, GStore.map_inj, GMachine.map_inj, GSnap.map_inj, Gwriter.map_inj, GPair.map_inj, GScore.map_inj, GEntry.map_inj, Greader.map_inj, Gscan.map_inj, GReply.map_inj, GClient.map_inj, true_and, and_true] at h
  exact h
theorem K26_26 : K_rostrumref_fieldMay O26 := fun p0 r h => cM (x := p0) inj26 h
def a27 (x : ByteArray) : List D × aA := ([.v (.s x)], [])
noncomputable def O27 : ak := ak.addF O26 80 a27 (fun x => rostrumref_textMay x) (fun _ (r : Bool) => (.v (.b r), []))
set_option maxRecDepth 100000 in
theorem O27_sound : cE Try.prog O27 := cA O26_sound (fun x r h => cL (ν := n80) (cz O26_sound) Try.func80 (by kernel_rfl) mixed (by kernel_rfl) (Nat.le_of_ble_eq_true (by kernel_rfl)) (r_rostrumref_textMay O26 x r h))
theorem inj27 : ∀ x y, a27 x = a27 y → x = y := by
  rintro ua1 ub1 h
  simp only [a27, Prod.mk.injEq, List.cons.injEq, D.v.injEq, D.own.injEq, D.agg.injEq, D.rp.injEq, D.clo.injEq, D.ptr.injEq, V.i.injEq, V.s.injEq, V.b.injEq, V.sl.injEq, cw, cv, cu, GLog.map_inj, GCommand.map_inj, GCall.map_inj, GItem.map_inj, GValue.map_inj, GStore.map_inj, GMachine.map_inj, GSnap.map_inj, Gwriter.map_inj, GPair.map_inj, GScore.map_inj, GEntry.map_inj, Greader.map_inj, Gscan.map_inj, GReply.map_inj, GClient.map_inj, true_and, and_true] at h
  exact h
theorem K27_27 : K_rostrumref_textMay O27 := fun p0 r h => cM (x := p0) inj27 h
theorem K24_26 : K_rostrumref_In O26 := fun p0 p1 p2 r h => (aV (by decide) _ _).trans (K24_25 p0 p1 p2 r h)
theorem K24_27 : K_rostrumref_In O27 := fun p0 p1 p2 r h => (aV (by decide) _ _).trans (K24_26 p0 p1 p2 r h)
def a28 (x : Int) : List D × aA := ([.v (.i .i64 x)], [])
noncomputable def O28 : ak := ak.addF O27 82 a28 (fun x => rostrumref_countMay x) (fun _ (r : Bool) => (.v (.b r), []))
set_option maxRecDepth 100000 in
theorem O28_sound : cE Try.prog O28 := cA O27_sound (fun x r h => cL (ν := n82) (cz O27_sound) Try.func82 (by kernel_rfl) mixed (by kernel_rfl) (Nat.le_of_ble_eq_true (by kernel_rfl)) (r_rostrumref_countMay O27 K24_27 x r h))
theorem inj28 : ∀ x y, a28 x = a28 y → x = y := by
  rintro ua1 ub1 h
  simp only [a28, Prod.mk.injEq, List.cons.injEq, D.v.injEq, D.own.injEq, D.agg.injEq, D.rp.injEq, D.clo.injEq, D.ptr.injEq, V.i.injEq, V.s.injEq, V.b.injEq, V.sl.injEq, cw, cv, cu, GLog.map_inj, GCommand.map_inj, GCall.map_inj, GItem.map_inj, GValue.map_inj, GStore.map_inj, GMachine.map_inj, GSnap.map_inj, Gwriter.map_inj, GPair.map_inj, GScore.map_inj, GEntry.map_inj, Greader.map_inj, Gscan.map_inj, GReply.map_inj, GClient.map_inj, true_and, and_true] at h
  exact h
theorem K28_28 : K_rostrumref_countMay O28 := fun p0 r h => cM (x := p0) inj28 h
theorem K24_28 : K_rostrumref_In O28 := fun p0 p1 p2 r h => (aV (by decide) _ _).trans (K24_27 p0 p1 p2 r h)
theorem K26_27 : K_rostrumref_fieldMay O27 := fun p0 r h => (aV (by decide) _ _).trans (K26_26 p0 r h)
theorem K26_28 : K_rostrumref_fieldMay O28 := fun p0 r h => (aV (by decide) _ _).trans (K26_27 p0 r h)
theorem K27_28 : K_rostrumref_textMay O28 := fun p0 r h => (aV (by decide) _ _).trans (K27_27 p0 r h)
def a29 (x : GCommand) : List D × aA := ([.agg [.v (.i .i64 x.fKind), .v (.s x.fKey), .v (.s x.fField), .v (.s x.fText), .v (.i .i64 x.fN)]], [])
noncomputable def O29 : ak := ak.addF O28 130 a29 (fun x => rostrumref_CommandFault x) (fun _ (r : Int) => (.v (.i .i64 r), []))
set_option maxRecDepth 100000 in
theorem O29_sound : cE Try.prog O29 := cA O28_sound (fun x r h => cL (ν := n130) (cz O28_sound) Try.func130 (by kernel_rfl) mixed (by kernel_rfl) (Nat.le_of_ble_eq_true (by kernel_rfl)) (r_rostrumref_CommandFault O28 K24_28 K26_28 K27_28 K28_28 x r h))
theorem inj29 : ∀ x y, a29 x = a29 y → x = y := by
  rintro ⟨ua1, ua2, ua3, ua4, ua5⟩ ⟨ub1, ub2, ub3, ub4, ub5⟩ h
  simp only [a29, Prod.mk.injEq, List.cons.injEq, D.v.injEq, D.own.injEq, D.agg.injEq, D.rp.injEq, D.clo.injEq, D.ptr.injEq, V.i.injEq, V.s.injEq, V.b.injEq, V.sl.injEq, cw, cv, cu, GLog.map_inj, GCommand.map_inj, GCall.map_inj, GItem.map_inj, GValue.map_inj, GStore.map_inj, GMachine.map_inj, GSnap.map_inj, Gwriter.map_inj, GPair.map_inj, GScore.map_inj, GEntry.map_inj, Greader.map_inj, Gscan.map_inj, GReply.map_inj, GClient.map_inj, true_and, and_true] at h
  simp only [Prod.mk.injEq, GCommand.mk.injEq, h, and_self]
theorem K29_29 : K_rostrumref_CommandFault O29 := fun p0 r h => cM (x := p0) inj29 h
theorem K25_26 : K_rostrumref_numberMay O26 := fun p0 r h => (aV (by decide) _ _).trans (K25_25 p0 r h)
theorem K25_27 : K_rostrumref_numberMay O27 := fun p0 r h => (aV (by decide) _ _).trans (K25_26 p0 r h)
theorem K25_28 : K_rostrumref_numberMay O28 := fun p0 r h => (aV (by decide) _ _).trans (K25_27 p0 r h)
theorem K25_29 : K_rostrumref_numberMay O29 := fun p0 r h => (aV (by decide) _ _).trans (K25_28 p0 r h)
def a30 (x : GCall) : List D × aA := ([.agg [.v (.i .i64 x.fClient), .v (.i .i64 x.fSeq), .v (.i .i64 x.fCommand.fKind), .v (.s x.fCommand.fKey), .v (.s x.fCommand.fField), .v (.s x.fCommand.fText), .v (.i .i64 x.fCommand.fN)]], [])
noncomputable def O30 : ak := ak.addF O29 104 a30 (fun x => rostrumref_CallFault x) (fun _ (r : Int) => (.v (.i .i64 r), []))
set_option maxRecDepth 100000 in
theorem O30_sound : cE Try.prog O30 := cA O29_sound (fun x r h => cL (ν := n104) (cz O29_sound) Try.func104 (by kernel_rfl) mixed (by kernel_rfl) (Nat.le_of_ble_eq_true (by kernel_rfl)) (r_rostrumref_CallFault O29 K25_29 K29_29 x r h))
theorem inj30 : ∀ x y, a30 x = a30 y → x = y := by
  rintro ⟨ua1, ua2, ⟨ua3, ua4, ua5, ua6, ua7⟩⟩ ⟨ub1, ub2, ⟨ub3, ub4, ub5, ub6, ub7⟩⟩ h
  simp only [a30, Prod.mk.injEq, List.cons.injEq, D.v.injEq, D.own.injEq, D.agg.injEq, D.rp.injEq, D.clo.injEq, D.ptr.injEq, V.i.injEq, V.s.injEq, V.b.injEq, V.sl.injEq, cw, cv, cu, GLog.map_inj, GCommand.map_inj, GCall.map_inj, GItem.map_inj, GValue.map_inj, GStore.map_inj, GMachine.map_inj, GSnap.map_inj, Gwriter.map_inj, GPair.map_inj, GScore.map_inj, GEntry.map_inj, Greader.map_inj, Gscan.map_inj, GReply.map_inj, GClient.map_inj, true_and, and_true] at h
  simp only [Prod.mk.injEq, GCommand.mk.injEq, GCall.mk.injEq, h, and_self]
theorem K30_30 : K_rostrumref_CallFault O30 := fun p0 r h => cM (x := p0) inj30 h
theorem K25_30 : K_rostrumref_numberMay O30 := fun p0 r h => (aV (by decide) _ _).trans (K25_29 p0 r h)
theorem K24_29 : K_rostrumref_In O29 := fun p0 p1 p2 r h => (aV (by decide) _ _).trans (K24_28 p0 p1 p2 r h)
theorem K24_30 : K_rostrumref_In O30 := fun p0 p1 p2 r h => (aV (by decide) _ _).trans (K24_29 p0 p1 p2 r h)
def a31 (x : GItem) : List D × aA := ([.agg [.v (.i .i64 x.fTerm), .v (.i .i64 x.fTime), .v (.b x.fNop), .v (.i .i64 x.fCall.fClient), .v (.i .i64 x.fCall.fSeq), .v (.i .i64 x.fCall.fCommand.fKind), .v (.s x.fCall.fCommand.fKey), .v (.s x.fCall.fCommand.fField), .v (.s x.fCall.fCommand.fText), .v (.i .i64 x.fCall.fCommand.fN)]], [])
noncomputable def O31 : ak := ak.addF O30 58 a31 (fun x => rostrumref_ItemFault x) (fun _ (r : Int) => (.v (.i .i64 r), []))
set_option maxRecDepth 100000 in
theorem O31_sound : cE Try.prog O31 := cA O30_sound (fun x r h => cL (ν := n58) (cz O30_sound) Try.func58 (by kernel_rfl) mixed (by kernel_rfl) (Nat.le_of_ble_eq_true (by kernel_rfl)) (r_rostrumref_ItemFault O30 K25_30 K24_30 K30_30 x r h))
theorem inj31 : ∀ x y, a31 x = a31 y → x = y := by
  rintro ⟨ua1, ua2, ua3, ⟨ua4, ua5, ⟨ua6, ua7, ua8, ua9, ua10⟩⟩⟩ ⟨ub1, ub2, ub3, ⟨ub4, ub5, ⟨ub6, ub7, ub8, ub9, ub10⟩⟩⟩ h
  simp only [a31, Prod.mk.injEq, List.cons.injEq, D.v.injEq, D.own.injEq, D.agg.injEq, D.rp.injEq, D.clo.injEq, D.ptr.injEq, V.i.injEq, V.s.injEq, V.b.injEq, V.sl.injEq, cw, cv, cu, GLog.map_inj, GCommand.map_inj, GCall.map_inj, GItem.map_inj, GValue.map_inj, GStore.map_inj, GMachine.map_inj, GSnap.map_inj, Gwriter.map_inj, GPair.map_inj, GScore.map_inj, GEntry.map_inj, Greader.map_inj, Gscan.map_inj, GReply.map_inj, GClient.map_inj, true_and, and_true] at h
  simp only [Prod.mk.injEq, GCommand.mk.injEq, GCall.mk.injEq, GItem.mk.injEq, h, and_self]
theorem K31_31 : K_rostrumref_ItemFault O31 := fun p0 r h => cM (x := p0) inj31 h
theorem K22_23 : K_rostrumref_scan_itemNext O23 := fun p0 r h => (aV (by decide) _ _).trans (K22_22 p0 r h)
theorem K22_24 : K_rostrumref_scan_itemNext O24 := fun p0 r h => (aV (by decide) _ _).trans (K22_23 p0 r h)
theorem K22_25 : K_rostrumref_scan_itemNext O25 := fun p0 r h => (aV (by decide) _ _).trans (K22_24 p0 r h)
theorem K22_26 : K_rostrumref_scan_itemNext O26 := fun p0 r h => (aV (by decide) _ _).trans (K22_25 p0 r h)
theorem K22_27 : K_rostrumref_scan_itemNext O27 := fun p0 r h => (aV (by decide) _ _).trans (K22_26 p0 r h)
theorem K22_28 : K_rostrumref_scan_itemNext O28 := fun p0 r h => (aV (by decide) _ _).trans (K22_27 p0 r h)
theorem K22_29 : K_rostrumref_scan_itemNext O29 := fun p0 r h => (aV (by decide) _ _).trans (K22_28 p0 r h)
theorem K22_30 : K_rostrumref_scan_itemNext O30 := fun p0 r h => (aV (by decide) _ _).trans (K22_29 p0 r h)
theorem K22_31 : K_rostrumref_scan_itemNext O31 := fun p0 r h => (aV (by decide) _ _).trans (K22_30 p0 r h)
theorem K23_24 : K_rostrumref_scan_end O24 := fun p0 p1 r h => (aV (by decide) _ _).trans (K23_23 p0 p1 r h)
theorem K23_25 : K_rostrumref_scan_end O25 := fun p0 p1 r h => (aV (by decide) _ _).trans (K23_24 p0 p1 r h)
theorem K23_26 : K_rostrumref_scan_end O26 := fun p0 p1 r h => (aV (by decide) _ _).trans (K23_25 p0 p1 r h)
theorem K23_27 : K_rostrumref_scan_end O27 := fun p0 p1 r h => (aV (by decide) _ _).trans (K23_26 p0 p1 r h)
theorem K23_28 : K_rostrumref_scan_end O28 := fun p0 p1 r h => (aV (by decide) _ _).trans (K23_27 p0 p1 r h)
theorem K23_29 : K_rostrumref_scan_end O29 := fun p0 p1 r h => (aV (by decide) _ _).trans (K23_28 p0 p1 r h)
theorem K23_30 : K_rostrumref_scan_end O30 := fun p0 p1 r h => (aV (by decide) _ _).trans (K23_29 p0 p1 r h)
theorem K23_31 : K_rostrumref_scan_end O31 := fun p0 p1 r h => (aV (by decide) _ _).trans (K23_30 p0 p1 r h)
def a32 (x : (List Int)) : List D × aA := ([.v (.sl 1 (ab bA x))], [])
noncomputable def O32 : ak := ak.addF O31 39 a32 (fun x => rostrumref_ItemOf x) (fun _ (r : GItem × Int) => (.tup [.agg [.v (.i .i64 r.1.fTerm), .v (.i .i64 r.1.fTime), .v (.b r.1.fNop), .v (.i .i64 r.1.fCall.fClient), .v (.i .i64 r.1.fCall.fSeq), .v (.i .i64 r.1.fCall.fCommand.fKind), .v (.s r.1.fCall.fCommand.fKey), .v (.s r.1.fCall.fCommand.fField), .v (.s r.1.fCall.fCommand.fText), .v (.i .i64 r.1.fCall.fCommand.fN)], .v (.i .i64 r.2)], []))
set_option maxRecDepth 100000 in
theorem O32_sound : cE Try.prog O32 := cA O31_sound (fun x r h => cL (ν := n39) (cz O31_sound) Try.func39 (by kernel_rfl) mixed (by kernel_rfl) (Nat.le_of_ble_eq_true (by kernel_rfl)) (r_rostrumref_ItemOf O31 K22_31 K23_31 K31_31 x r h))
theorem inj32 : ∀ x y, a32 x = a32 y → x = y := by
  rintro ua1 ub1 h
  simp only [a32, Prod.mk.injEq, List.cons.injEq, D.v.injEq, D.own.injEq, D.agg.injEq, D.rp.injEq, D.clo.injEq, D.ptr.injEq, V.i.injEq, V.s.injEq, V.b.injEq, V.sl.injEq, cw, cv, cu, GLog.map_inj, GCommand.map_inj, GCall.map_inj, GItem.map_inj, GValue.map_inj, GStore.map_inj, GMachine.map_inj, GSnap.map_inj, Gwriter.map_inj, GPair.map_inj, GScore.map_inj, GEntry.map_inj, Greader.map_inj, Gscan.map_inj, GReply.map_inj, GClient.map_inj, true_and, and_true] at h
  exact h
theorem K32_32 : K_rostrumref_ItemOf O32 := fun p0 r h => cM (x := p0) inj32 h
theorem K1_2 : K_rostrumlaw_octets_z O2 := fun p0 r h => (aV (by decide) _ _).trans (K1_1 p0 r h)
theorem K1_3 : K_rostrumlaw_octets_z O3 := fun p0 r h => (aV (by decide) _ _).trans (K1_2 p0 r h)
theorem K1_4 : K_rostrumlaw_octets_z O4 := fun p0 r h => (aV (by decide) _ _).trans (K1_3 p0 r h)
theorem K1_5 : K_rostrumlaw_octets_z O5 := fun p0 r h => (aV (by decide) _ _).trans (K1_4 p0 r h)
theorem K1_6 : K_rostrumlaw_octets_z O6 := fun p0 r h => (aV (by decide) _ _).trans (K1_5 p0 r h)
theorem K1_7 : K_rostrumlaw_octets_z O7 := fun p0 r h => (aV (by decide) _ _).trans (K1_6 p0 r h)
theorem K1_8 : K_rostrumlaw_octets_z O8 := fun p0 r h => (aV (by decide) _ _).trans (K1_7 p0 r h)
theorem K1_9 : K_rostrumlaw_octets_z O9 := fun p0 r h => (aV (by decide) _ _).trans (K1_8 p0 r h)
theorem K1_10 : K_rostrumlaw_octets_z O10 := fun p0 r h => (aV (by decide) _ _).trans (K1_9 p0 r h)
theorem K1_11 : K_rostrumlaw_octets_z O11 := fun p0 r h => (aV (by decide) _ _).trans (K1_10 p0 r h)
theorem K1_12 : K_rostrumlaw_octets_z O12 := fun p0 r h => (aV (by decide) _ _).trans (K1_11 p0 r h)
theorem K1_13 : K_rostrumlaw_octets_z O13 := fun p0 r h => (aV (by decide) _ _).trans (K1_12 p0 r h)
theorem K1_14 : K_rostrumlaw_octets_z O14 := fun p0 r h => (aV (by decide) _ _).trans (K1_13 p0 r h)
theorem K1_15 : K_rostrumlaw_octets_z O15 := fun p0 r h => (aV (by decide) _ _).trans (K1_14 p0 r h)
theorem K1_16 : K_rostrumlaw_octets_z O16 := fun p0 r h => (aV (by decide) _ _).trans (K1_15 p0 r h)
theorem K1_17 : K_rostrumlaw_octets_z O17 := fun p0 r h => (aV (by decide) _ _).trans (K1_16 p0 r h)
theorem K1_18 : K_rostrumlaw_octets_z O18 := fun p0 r h => (aV (by decide) _ _).trans (K1_17 p0 r h)
theorem K1_19 : K_rostrumlaw_octets_z O19 := fun p0 r h => (aV (by decide) _ _).trans (K1_18 p0 r h)
theorem K1_20 : K_rostrumlaw_octets_z O20 := fun p0 r h => (aV (by decide) _ _).trans (K1_19 p0 r h)
theorem K1_21 : K_rostrumlaw_octets_z O21 := fun p0 r h => (aV (by decide) _ _).trans (K1_20 p0 r h)
theorem K1_22 : K_rostrumlaw_octets_z O22 := fun p0 r h => (aV (by decide) _ _).trans (K1_21 p0 r h)
theorem K1_23 : K_rostrumlaw_octets_z O23 := fun p0 r h => (aV (by decide) _ _).trans (K1_22 p0 r h)
theorem K1_24 : K_rostrumlaw_octets_z O24 := fun p0 r h => (aV (by decide) _ _).trans (K1_23 p0 r h)
theorem K1_25 : K_rostrumlaw_octets_z O25 := fun p0 r h => (aV (by decide) _ _).trans (K1_24 p0 r h)
theorem K1_26 : K_rostrumlaw_octets_z O26 := fun p0 r h => (aV (by decide) _ _).trans (K1_25 p0 r h)
theorem K1_27 : K_rostrumlaw_octets_z O27 := fun p0 r h => (aV (by decide) _ _).trans (K1_26 p0 r h)
theorem K1_28 : K_rostrumlaw_octets_z O28 := fun p0 r h => (aV (by decide) _ _).trans (K1_27 p0 r h)
theorem K1_29 : K_rostrumlaw_octets_z O29 := fun p0 r h => (aV (by decide) _ _).trans (K1_28 p0 r h)
theorem K1_30 : K_rostrumlaw_octets_z O30 := fun p0 r h => (aV (by decide) _ _).trans (K1_29 p0 r h)
theorem K1_31 : K_rostrumlaw_octets_z O31 := fun p0 r h => (aV (by decide) _ _).trans (K1_30 p0 r h)
theorem K1_32 : K_rostrumlaw_octets_z O32 := fun p0 r h => (aV (by decide) _ _).trans (K1_31 p0 r h)
theorem K17_18 : K_wire_DecodeItem O18 := fun p0 r h => (aV (by decide) _ _).trans (K17_17 p0 r h)
theorem K17_19 : K_wire_DecodeItem O19 := fun p0 r h => (aV (by decide) _ _).trans (K17_18 p0 r h)
theorem K17_20 : K_wire_DecodeItem O20 := fun p0 r h => (aV (by decide) _ _).trans (K17_19 p0 r h)
theorem K17_21 : K_wire_DecodeItem O21 := fun p0 r h => (aV (by decide) _ _).trans (K17_20 p0 r h)
theorem K17_22 : K_wire_DecodeItem O22 := fun p0 r h => (aV (by decide) _ _).trans (K17_21 p0 r h)
theorem K17_23 : K_wire_DecodeItem O23 := fun p0 r h => (aV (by decide) _ _).trans (K17_22 p0 r h)
theorem K17_24 : K_wire_DecodeItem O24 := fun p0 r h => (aV (by decide) _ _).trans (K17_23 p0 r h)
theorem K17_25 : K_wire_DecodeItem O25 := fun p0 r h => (aV (by decide) _ _).trans (K17_24 p0 r h)
theorem K17_26 : K_wire_DecodeItem O26 := fun p0 r h => (aV (by decide) _ _).trans (K17_25 p0 r h)
theorem K17_27 : K_wire_DecodeItem O27 := fun p0 r h => (aV (by decide) _ _).trans (K17_26 p0 r h)
theorem K17_28 : K_wire_DecodeItem O28 := fun p0 r h => (aV (by decide) _ _).trans (K17_27 p0 r h)
theorem K17_29 : K_wire_DecodeItem O29 := fun p0 r h => (aV (by decide) _ _).trans (K17_28 p0 r h)
theorem K17_30 : K_wire_DecodeItem O30 := fun p0 r h => (aV (by decide) _ _).trans (K17_29 p0 r h)
theorem K17_31 : K_wire_DecodeItem O31 := fun p0 r h => (aV (by decide) _ _).trans (K17_30 p0 r h)
theorem K17_32 : K_wire_DecodeItem O32 := fun p0 r h => (aV (by decide) _ _).trans (K17_31 p0 r h)
set_option maxRecDepth 100000 in
theorem sem (rs : List (List V)) (h : HasAll Try.prog [39] rs) : Mx.Sem Try.prog 11 (argsD Try.prog [39] rs) [] (.v (.b true)) [] := by
  obtain ⟨r0, _, rfl, a0, b0⟩ := HasAll.cons h
  obtain rfl := HasAll.nil b0
  obtain ⟨l0, j0, rfl, o0, q0⟩ := dk (n := 1) (m := 1) Try.underlying39 (by kernel_rfl) (by kernel_rfl) a0
  obtain ⟨x0, rfl, p0⟩ := rows_of (f := bA) (ok := fun y => ((IntKind.u8).min ≤ y ∧ y ≤ (IntKind.u8).max)) (fun r hr => by obtain ⟨s, h1, h2⟩ := cY Try.underlying5 (q0 r hr); exact ⟨s, h1, h2⟩)
  rw [List.length_map] at o0
  simp only [argsD, argD_slice Try.underlying39]
  exact cL (ν := n11) (cz O32_sound) Try.func11 (by kernel_rfl) mixed (by kernel_rfl) (Nat.le_of_ble_eq_true (by kernel_rfl)) (r_rostrumlaw_WireItemReads O32 K1_32 K17_32 K32_32 x0 true (WireItemReads_pure x0 ⟨o0, p0⟩))
end CWireItemReads
end Go.Proofs.Ytnjkmbogbfjffaa
