/- Part of the proof by the machine Mx: ChTapeCrashes. -/
import Derived.Test.YtiicnbdolakdgaaMxFour
import Derived.Test.YtiicnbdolakdgaaStr
import Derived.Test.YtiicnbdolakdgaaG0
import Derived.Test.YtiicnbdolakdgaaH0
import Derived.Test.YtiicnbdolakdgaaL0
import Derived.Test.YtiicnbdolakdgaaL1
import Derived.Test.YtiicnbdolakdgaaL2
import Derived.Test.YtiicnbdolakdgaaL3
import Derived.Test.YtiicnbdolakdgaaG4
set_option linter.unusedSimpArgs false
set_option linter.unusedVariables false
set_option linter.constructorNameAsVariable false
set_option linter.unnecessarySimpa false
namespace Go.Proofs.Ytiicnbdolakdgaa
open Go Go.Mx Go.Proofs
namespace CTapeCrashes
def A47 : List Int → Prop := fun x => fitsB x.length 1 = true
def g47 : List Int → List D × Store := fun x => ([.v (.sl 1 (x.map rowB))], [])
def q47 : List Int → D × Store := fun x => (.v (.sl 1 (x.map rowB)), [])
noncomputable def O1 : Oracle := Oracle.add noC 47 A47 g47 q47
theorem O1_sound : SoundC Try.prog O1 := add_sound (noC_sound _) (fun x hx => Mx.Sem.frozen (sem_fn (k := 0) (ν := n47) (noC_sound _) Try.func47 (by kernel_rfl) mixed (by kernel_rfl) (Nat.le_of_ble_eq_true (by kernel_rfl)) (r47 noC (evL TT noC n47 b47 (0)) (x.map rowB) (by rw [List.length_map]; exact hx))) rfl)
theorem O1_47 : ∀ x : List Int, A47 x → O1 47 (g47 x).1 (g47 x).2 = some (q47 x) := fun x hx => add_eq (by intro x y h; simp only [g47, q47, Prod.mk.injEq, List.cons.injEq, D.v.injEq, D.agg.injEq, V.i.injEq, V.s.injEq, V.sl.injEq, V.b.injEq, rowS_inj, rowI_inj, rowB_inj, true_and, and_true] at h; first | rfl | rw [h] | simp only [q47, h]) hx rfl
def A21 : S44 → Prop := fun x => x.ok
def g21 : S44 → List D × Store := fun x => ([x.d], [])
def q21 : S44 → D × Store := fun x => (x.d, [])
noncomputable def O2 : Oracle := Oracle.add O1 21 A21 g21 q21
theorem O2_sound : SoundC Try.prog O2 := add_sound O1_sound (fun x hx => sem_fn (k := 0) (ν := n21) O1_sound Try.func21 (by kernel_rfl) mixed (by kernel_rfl) (Nat.le_of_ble_eq_true (by kernel_rfl)) (r21 O1 (evL TT O1 n21 b21 (0)) x.a0 x.a1 (O1_47 x.a0 (fitsB_iff.2 (by have := hx.1.1; simp only [okN] at this; omega)))))
theorem O2_21 : ∀ x : S44, A21 x → O2 21 (g21 x).1 (g21 x).2 = some (q21 x) := fun x hx => add_eq (by intro x y h; simp only [g21, q21, Prod.mk.injEq, List.cons.injEq, and_true] at h; rw [S44.d_inj _ _ h]) hx rfl
def A71 : List Int → Prop := fun x => fitsB x.length 1 = true
def g71 : List Int → List D × Store := fun x => ([.v (.sl 1 (x.map rowB))], [])
def q71 : List Int → D × Store := fun x => (.v (.sl 1 (x.map rowB)), [])
noncomputable def O3 : Oracle := Oracle.add O2 71 A71 g71 q71
theorem O3_sound : SoundC Try.prog O3 := add_sound O2_sound (fun x hx => Mx.Sem.frozen (sem_all (ν := n71) O2_sound Try.func71 (by kernel_rfl) (Nat.le_of_ble_eq_true (by kernel_rfl)) (r71 O2 (x.map rowB) (by rw [List.length_map]; exact hx))) rfl)
theorem O3_71 : ∀ x : List Int, A71 x → O3 71 (g71 x).1 (g71 x).2 = some (q71 x) := fun x hx => add_eq (by intro x y h; simp only [g71, q71, Prod.mk.injEq, List.cons.injEq, D.v.injEq, D.agg.injEq, V.i.injEq, V.s.injEq, V.sl.injEq, V.b.injEq, rowS_inj, rowI_inj, rowB_inj, true_and, and_true] at h; first | rfl | rw [h] | simp only [q71, h]) hx rfl
def A48 : S44 → Prop := fun x => x.ok
def g48 : S44 → List D × Store := fun x => ([x.d], [])
def q48 : S44 → D × Store := fun x => (.tup [.agg [.v (.sl 1 ((bif mayB (x.a0.length : Int) x.a1 then x.a0 else []).map rowB)), .v (.i .i64 (bif mayB (x.a0.length : Int) x.a1 then x.a1 else 0))], .v (.b (mayB (x.a0.length : Int) x.a1))], [])
noncomputable def O4 : Oracle := Oracle.add O3 48 A48 g48 q48
theorem O4_sound : SoundC Try.prog O4 := add_sound O3_sound (fun x hx => sem_fn (k := 0) (ν := n48) O3_sound Try.func48 (by kernel_rfl) mixed (by kernel_rfl) (Nat.le_of_ble_eq_true (by kernel_rfl)) (r48 O3 (evL TT O3 n48 b48 (0)) x.a0 x.a1 (O3_71 x.a0 (fitsB_iff.2 (by have := hx.1.1; simp only [okN] at this; omega)))))
theorem O4_48 : ∀ x : S44, A48 x → O4 48 (g48 x).1 (g48 x).2 = some (q48 x) := fun x hx => add_eq (by intro x y h; simp only [g48, q48, Prod.mk.injEq, List.cons.injEq, and_true] at h; rw [S44.d_inj _ _ h]) hx rfl
def A28 : S44 × Int → Prop := fun x => x.1.ok ∧ okI x.2
def g28 : S44 × Int → List D × Store := fun x => ([x.1.d, .v (.i .i64 x.2)], [])
def q28 : S44 × Int → D × Store := fun x => (.tup [.agg [.v (.sl 1 ((bif mayB (x.1.a0.length : Int) x.1.a1 && decide (0 ≤ x.2) then x.1.a0.take (crashL x.1.a1 x.1.a0.length x.2).toNat else []).map rowB)), .v (.i .i64 (bif mayB (x.1.a0.length : Int) x.1.a1 && decide (0 ≤ x.2) then crashL x.1.a1 x.1.a0.length x.2 else 0))], .v (.i .i64 (bif mayB (x.1.a0.length : Int) x.1.a1 then (bif decide (0 ≤ x.2) then 0 else 2) else 13))], [])
noncomputable def O5 : Oracle := Oracle.add O4 28 A28 g28 q28
theorem O5_sound : SoundC Try.prog O5 := add_sound O4_sound (fun x hx => sem_fn (k := 0) (ν := n28) O4_sound Try.func28 (by kernel_rfl) mixed (by kernel_rfl) (Nat.le_of_ble_eq_true (by kernel_rfl)) (r28 O4 (evL TT O4 n28 b28 (0)) x.1.a0 x.1.a1 x.2 hx.2 (O4_48 x.1 hx.1)))
theorem O5_28 : ∀ x : S44 × Int, A28 x → O5 28 (g28 x).1 (g28 x).2 = some (q28 x) := fun x hx => add_eq (by rintro ⟨x, p⟩ ⟨y, q⟩ h; simp only [g28, q28, Prod.mk.injEq, List.cons.injEq, D.v.injEq, V.i.injEq, true_and, and_true] at h; rw [S44.d_inj _ _ h.1, h.2]) hx rfl
def A53 : Int × Int × Int → Prop := fun _ => True
def g53 : Int × Int × Int → List D × Store := fun x => ([.v (.i .i64 x.1), .v (.i .i64 x.2.1), .v (.i .i64 x.2.2)], [])
def q53 : Int × Int × Int → D × Store := fun x => (.v (.b (inB x.1 x.2.1 x.2.2)), [])
noncomputable def O6 : Oracle := Oracle.add O5 53 A53 g53 q53
theorem O6_sound : SoundC Try.prog O6 := add_sound O5_sound (fun x hx => sem_fn (k := 0) (ν := n53) O5_sound Try.func53 (by kernel_rfl) mixed (by kernel_rfl) (Nat.le_of_ble_eq_true (by kernel_rfl)) (r53 O5 (evL TT O5 n53 b53 (0)) x.1 x.2.1 x.2.2))
theorem O6_53 : ∀ x : Int × Int × Int, A53 x → O6 53 (g53 x).1 (g53 x).2 = some (q53 x) := fun x hx => add_eq (by intro x y h; simp only [g53, q53, Prod.mk.injEq, List.cons.injEq, D.v.injEq, D.agg.injEq, V.i.injEq, V.s.injEq, V.sl.injEq, V.b.injEq, rowS_inj, rowI_inj, rowB_inj, true_and, and_true] at h; first | rfl | rw [h] | simp only [q53, h]) hx rfl
def A49 : S44 → Prop := fun x => x.ok
def g49 : S44 → List D × Store := fun x => ([x.d], [])
def q49 : S44 → D × Store := fun x => (.v (.b (mayB (x.a0.length : Int) x.a1)), [])
noncomputable def O7 : Oracle := Oracle.add O6 49 A49 g49 q49
theorem O7_sound : SoundC Try.prog O7 := add_sound O6_sound (fun x hx => sem_fn (k := 0) (ν := n49) O6_sound Try.func49 (by kernel_rfl) mixed (by kernel_rfl) (Nat.le_of_ble_eq_true (by kernel_rfl)) (r49 O6 (evL TT O6 n49 b49 (0)) x.a0 x.a1 (fun a b c => O6_53 (a, b, c) trivial)))
theorem O7_49 : ∀ x : S44, A49 x → O7 49 (g49 x).1 (g49 x).2 = some (q49 x) := fun x hx => add_eq (by intro x y h; simp only [g49, q49, Prod.mk.injEq, List.cons.injEq, and_true] at h; rw [S44.d_inj _ _ h]) hx rfl
def A50 : List Int → Prop := fun x => fitsB x.length 1 = true
def g50 : List Int → List D × Store := fun x => ([.v (.sl 1 (x.map rowB)), .v (.sl 0 [])], [])
def q50 : List Int → D × Store := fun x => (.v (.sl 1 (x.map rowB)), [])
noncomputable def O8 : Oracle := Oracle.add O7 50 A50 g50 q50
theorem O8_sound : SoundC Try.prog O8 := add_sound O7_sound (fun x hx => Mx.Sem.frozen (sem_fn (k := x.length + 1) (ν := n50) O7_sound Try.func50 (by kernel_rfl) mixed (by kernel_rfl) (Nat.le_of_ble_eq_true (by kernel_rfl)) (r50 O7 x (by have h1 : fitsB x.length 1 = true := hx; have := fitsB_iff.1 h1; omega) (x.length + 1) (by omega))) rfl)
theorem O8_50 : ∀ x : List Int, A50 x → O8 50 (g50 x).1 (g50 x).2 = some (q50 x) := fun x hx => add_eq (by intro x y h; simp only [g50, q50, Prod.mk.injEq, List.cons.injEq, D.v.injEq, D.agg.injEq, V.i.injEq, V.s.injEq, V.sl.injEq, V.b.injEq, rowS_inj, rowI_inj, rowB_inj, true_and, and_true] at h; first | rfl | rw [h] | simp only [q50, h]) hx rfl
theorem O8_49 : ∀ x : S44, A49 x → O8 49 (g49 x).1 (g49 x).2 = some (q49 x) := fun x hx => (add_ne (by decide) _ _).trans (O7_49 x hx)
def A29 : S44 × Int → Prop := fun x => x.1.ok ∧ okI x.2
def g29 : S44 × Int → List D × Store := fun x => ([x.1.d, .v (.i .i64 x.2)], [])
def q29 : S44 × Int → D × Store := fun x => (.tup [.agg [.v (.sl 1 ((bif mayB (x.1.a0.length : Int) x.1.a1 && decide (0 ≤ x.2) then x.1.a0.take (crashL x.1.a1 x.1.a0.length x.2).toNat else []).map rowB)), .v (.i .i64 (bif mayB (x.1.a0.length : Int) x.1.a1 && decide (0 ≤ x.2) then crashL x.1.a1 x.1.a0.length x.2 else 0))], .v (.i .i64 (bif mayB (x.1.a0.length : Int) x.1.a1 then (bif decide (0 ≤ x.2) then 0 else 2) else 13))], [])
noncomputable def O9 : Oracle := Oracle.add O8 29 A29 g29 q29
theorem O9_sound : SoundC Try.prog O9 := add_sound O8_sound (fun x hx => sem_fn (k := 0) (ν := n29) O8_sound Try.func29 (by kernel_rfl) mixed (by kernel_rfl) (Nat.le_of_ble_eq_true (by kernel_rfl)) (r29 O8 (evL TT O8 n29 b29 (0)) x.1.a0 x.1.a1 x.2 hx.2 (O8_49 x.1 hx.1) (fun c => O8_50 (x.1.a0.take c) (fits_take (fitsB_iff.2 (by have := hx.1.1.1; simp only [okN] at this; omega)) c))))
theorem O9_29 : ∀ x : S44 × Int, A29 x → O9 29 (g29 x).1 (g29 x).2 = some (q29 x) := fun x hx => add_eq (by rintro ⟨x, p⟩ ⟨y, q⟩ h; simp only [g29, q29, Prod.mk.injEq, List.cons.injEq, D.v.injEq, V.i.injEq, true_and, and_true] at h; rw [S44.d_inj _ _ h.1, h.2]) hx rfl
def A24 : List (List V) × List (List V) × Int × Int → Prop := fun x => allBytes x.1 = true ∧ allBytes x.2.1 = true
def g24 : List (List V) × List (List V) × Int × Int → List D × Store := fun x => ([.agg [.v (.sl 1 x.1), .v (.i .i64 x.2.2.1)], .agg [.v (.sl 1 x.2.1), .v (.i .i64 x.2.2.2)]], [])
def q24 : List (List V) × List (List V) × Int × Int → D × Store := fun x => (.v (.b ((x.2.2.1 == x.2.2.2) && ((rowsBytes x.1).toList == (rowsBytes x.2.1).toList))), [])
noncomputable def O10 : Oracle := Oracle.add O9 24 A24 g24 q24
theorem O10_sound : SoundC Try.prog O10 := add_sound O9_sound (fun x hx => sem_fn (k := 0) (ν := n24) O9_sound Try.func24 (by kernel_rfl) mixed (by kernel_rfl) (Nat.le_of_ble_eq_true (by kernel_rfl)) (r24 O9 (evL TT O9 n24 b24 (0)) x.1 x.2.1 x.2.2.1 x.2.2.2 hx.1 hx.2))
theorem O10_24 : ∀ x : List (List V) × List (List V) × Int × Int, A24 x → O10 24 (g24 x).1 (g24 x).2 = some (q24 x) := fun x hx => add_eq (by intro x y h; simp only [g24, q24, Prod.mk.injEq, List.cons.injEq, D.v.injEq, D.agg.injEq, V.i.injEq, V.s.injEq, V.sl.injEq, V.b.injEq, rowS_inj, rowI_inj, rowB_inj, true_and, and_true] at h; first | rfl | rw [h] | simp only [q24, h]) hx rfl
theorem O3_21 : ∀ x : S44, A21 x → O3 21 (g21 x).1 (g21 x).2 = some (q21 x) := fun x hx => (add_ne (by decide) _ _).trans (O2_21 x hx)
theorem O4_21 : ∀ x : S44, A21 x → O4 21 (g21 x).1 (g21 x).2 = some (q21 x) := fun x hx => (add_ne (by decide) _ _).trans (O3_21 x hx)
theorem O5_21 : ∀ x : S44, A21 x → O5 21 (g21 x).1 (g21 x).2 = some (q21 x) := fun x hx => (add_ne (by decide) _ _).trans (O4_21 x hx)
theorem O6_21 : ∀ x : S44, A21 x → O6 21 (g21 x).1 (g21 x).2 = some (q21 x) := fun x hx => (add_ne (by decide) _ _).trans (O5_21 x hx)
theorem O7_21 : ∀ x : S44, A21 x → O7 21 (g21 x).1 (g21 x).2 = some (q21 x) := fun x hx => (add_ne (by decide) _ _).trans (O6_21 x hx)
theorem O8_21 : ∀ x : S44, A21 x → O8 21 (g21 x).1 (g21 x).2 = some (q21 x) := fun x hx => (add_ne (by decide) _ _).trans (O7_21 x hx)
theorem O9_21 : ∀ x : S44, A21 x → O9 21 (g21 x).1 (g21 x).2 = some (q21 x) := fun x hx => (add_ne (by decide) _ _).trans (O8_21 x hx)
theorem O10_21 : ∀ x : S44, A21 x → O10 21 (g21 x).1 (g21 x).2 = some (q21 x) := fun x hx => (add_ne (by decide) _ _).trans (O9_21 x hx)
theorem O6_28 : ∀ x : S44 × Int, A28 x → O6 28 (g28 x).1 (g28 x).2 = some (q28 x) := fun x hx => (add_ne (by decide) _ _).trans (O5_28 x hx)
theorem O7_28 : ∀ x : S44 × Int, A28 x → O7 28 (g28 x).1 (g28 x).2 = some (q28 x) := fun x hx => (add_ne (by decide) _ _).trans (O6_28 x hx)
theorem O8_28 : ∀ x : S44 × Int, A28 x → O8 28 (g28 x).1 (g28 x).2 = some (q28 x) := fun x hx => (add_ne (by decide) _ _).trans (O7_28 x hx)
theorem O9_28 : ∀ x : S44 × Int, A28 x → O9 28 (g28 x).1 (g28 x).2 = some (q28 x) := fun x hx => (add_ne (by decide) _ _).trans (O8_28 x hx)
theorem O10_28 : ∀ x : S44 × Int, A28 x → O10 28 (g28 x).1 (g28 x).2 = some (q28 x) := fun x hx => (add_ne (by decide) _ _).trans (O9_28 x hx)
theorem O10_29 : ∀ x : S44 × Int, A29 x → O10 29 (g29 x).1 (g29 x).2 = some (q29 x) := fun x hx => (add_ne (by decide) _ _).trans (O9_29 x hx)
def A8 : S44 × Int → Prop := fun x => x.1.ok ∧ okI x.2
def g8 : S44 × Int → List D × Store := fun x => ([x.1.d, .v (.i .i64 x.2)], [])
def q8 : S44 × Int → D × Store := fun x => (.v (.b true), [])
noncomputable def O11 : Oracle := Oracle.add O10 8 A8 g8 q8
theorem O11_sound : SoundC Try.prog O11 := add_sound O10_sound (fun x hx => sem_fn (k := 0) (ν := n8) O10_sound Try.func8 (by kernel_rfl) mixed (by kernel_rfl) (Nat.le_of_ble_eq_true (by kernel_rfl)) (r8 O10 (evL TT O10 n8 b8 (0)) x.1.a0 x.1.a1 x.2 (allBytes_rowB x.1.a0 hx.1.1.2) (fun c => allBytes_rowB (x.1.a0.take c) (fun n hn => hx.1.1.2 n (List.mem_of_mem_take hn))) (O10_21 x.1 hx.1) (fun a b n m h1 h2 => O10_24 (a, b, n, m) ⟨h1, h2⟩) (O10_28 x hx) (O10_29 x hx)))
theorem O11_8 : ∀ x : S44 × Int, A8 x → O11 8 (g8 x).1 (g8 x).2 = some (q8 x) := fun x hx => add_eq (by rintro ⟨x, p⟩ ⟨y, q⟩ h; simp only [g8, q8, Prod.mk.injEq, List.cons.injEq, D.v.injEq, V.i.injEq, true_and, and_true] at h; rw [S44.d_inj _ _ h.1, h.2]) hx rfl
theorem sem (rs : List (List V)) (h : HasAll Try.prog [45,3] rs) : Mx.Sem Try.prog 8 (argsD Try.prog [45,3] rs) [] (.v (.b true)) [] := by
  obtain ⟨r0, _, rfl, a0, b0⟩ := HasAll.cons h
  obtain ⟨r1, _, rfl, a1, b1⟩ := HasAll.cons b0
  obtain rfl := HasAll.nil b1
  obtain ⟨x0, rfl, o0⟩ := S44.of45 a0
  obtain ⟨x1, rfl, o1⟩ := has_int Try.underlying3 a1
  simp only [argsD, argD_struct Try.underlying45, argD_int Try.underlying3]
  exact O11_sound _ _ _ _ _ (O11_8 (x0, x1) ⟨o0, (okI_of o1)⟩)
end CTapeCrashes
end Go.Proofs.Ytiicnbdolakdgaa
