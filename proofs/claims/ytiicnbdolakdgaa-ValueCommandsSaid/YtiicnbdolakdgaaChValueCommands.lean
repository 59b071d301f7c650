/- Part of the proof by the machine Mx (plain data in place of memory): ChValueCommands. -/
import Derived.Test.YtiicnbdolakdgaaMxZk
import Derived.Test.YtiicnbdolakdgaaStr
import Derived.Test.YtiicnbdolakdgaaG0
import Derived.Test.YtiicnbdolakdgaaG1
import Derived.Test.YtiicnbdolakdgaaG2
set_option linter.unusedVariables false
set_option linter.unusedSimpArgs false
set_option linter.constructorNameAsVariable false
set_option linter.unnecessarySimpa false
namespace Go.Proofs.Ytiicnbdolakdgaa
open Go Go.Mx Go.Proofs
namespace CValueCommands
def A56 : ByteArray → Prop := fun _ => True
def g56 : ByteArray → List D × Store := fun x => ([.v (.s x)], [])
def q56 : ByteArray → D × Store := fun x => (.v (.b (fieldB x)), [])
noncomputable def O1 : Oracle := Oracle.add noC 56 A56 g56 q56
theorem O1_sound : SoundC Try.prog O1 := add_sound (noC_sound _) (fun x hx => sem_fn (k := 0) (ν := n56) (noC_sound _) Try.func56 (by kernel_rfl) mixed (by kernel_rfl) (Nat.le_of_ble_eq_true (by kernel_rfl)) (r56 noC (evL TT noC n56 b56 (0)) x ))
theorem O1_56 : ∀ x : ByteArray, A56 x → O1 56 (g56 x).1 (g56 x).2 = some (q56 x) := fun x hx => add_eq (by intro x y h; simp only [g56, q56, Prod.mk.injEq, List.cons.injEq, D.v.injEq, D.agg.injEq, V.i.injEq, V.s.injEq, V.sl.injEq, V.b.injEq, rowS_inj, rowI_inj, rowB_inj, true_and, and_true] at h; first | rfl | rw [h] | simp only [q56, h]) hx rfl
def A57 : ByteArray → Prop := fun _ => True
def g57 : ByteArray → List D × Store := fun x => ([.v (.s x)], [])
def q57 : ByteArray → D × Store := fun x => (.v (.b (textB x)), [])
noncomputable def O2 : Oracle := Oracle.add O1 57 A57 g57 q57
theorem O2_sound : SoundC Try.prog O2 := add_sound O1_sound (fun x hx => sem_fn (k := 0) (ν := n57) O1_sound Try.func57 (by kernel_rfl) mixed (by kernel_rfl) (Nat.le_of_ble_eq_true (by kernel_rfl)) (r57 O1 (evL TT O1 n57 b57 (0)) x ))
theorem O2_57 : ∀ x : ByteArray, A57 x → O2 57 (g57 x).1 (g57 x).2 = some (q57 x) := fun x hx => add_eq (by intro x y h; simp only [g57, q57, Prod.mk.injEq, List.cons.injEq, D.v.injEq, D.agg.injEq, V.i.injEq, V.s.injEq, V.sl.injEq, V.b.injEq, rowS_inj, rowI_inj, rowB_inj, true_and, and_true] at h; first | rfl | rw [h] | simp only [q57, h]) hx rfl
def A58 : Int → Prop := fun _ => True
def g58 : Int → List D × Store := fun x => ([.v (.i .i64 x)], [])
def q58 : Int → D × Store := fun x => (.v (.b (countB x)), [])
noncomputable def O3 : Oracle := Oracle.add O2 58 A58 g58 q58
theorem O3_sound : SoundC Try.prog O3 := add_sound O2_sound (fun x hx => sem_fn (k := 0) (ν := n58) O2_sound Try.func58 (by kernel_rfl) mixed (by kernel_rfl) (Nat.le_of_ble_eq_true (by kernel_rfl)) (r58 O2 (evL TT O2 n58 b58 (0)) x ))
theorem O3_58 : ∀ x : Int, A58 x → O3 58 (g58 x).1 (g58 x).2 = some (q58 x) := fun x hx => add_eq (by intro x y h; simp only [g58, q58, Prod.mk.injEq, List.cons.injEq, D.v.injEq, D.agg.injEq, V.i.injEq, V.s.injEq, V.sl.injEq, V.b.injEq, rowS_inj, rowI_inj, rowB_inj, true_and, and_true] at h; first | rfl | rw [h] | simp only [q58, h]) hx rfl
theorem O2_56 : ∀ x : ByteArray, A56 x → O2 56 (g56 x).1 (g56 x).2 = some (q56 x) := fun x hx => (add_ne (by decide) _ _).trans (O1_56 x hx)
theorem O3_56 : ∀ x : ByteArray, A56 x → O3 56 (g56 x).1 (g56 x).2 = some (q56 x) := fun x hx => (add_ne (by decide) _ _).trans (O2_56 x hx)
theorem O3_57 : ∀ x : ByteArray, A57 x → O3 57 (g57 x).1 (g57 x).2 = some (q57 x) := fun x hx => (add_ne (by decide) _ _).trans (O2_57 x hx)
def A30 : S59 → Prop := fun _ => True
def g30 : S59 → List D × Store := fun x => ([x.d], [])
def q30 : S59 → D × Store := fun x => (.v (.i .i64 (cmdF x.a0 x.a1 x.a2 x.a3 x.a4)), [])
noncomputable def O4 : Oracle := Oracle.add O3 30 A30 g30 q30
theorem O4_sound : SoundC Try.prog O4 := add_sound O3_sound (fun x hx => sem_fn (k := 0) (ν := n30) O3_sound Try.func30 (by kernel_rfl) mixed (by kernel_rfl) (Nat.le_of_ble_eq_true (by kernel_rfl)) (r30 O3 (evL TT O3 n30 b30 (0)) x.a0 x.a4 x.a1 x.a2 x.a3 (fun a => O3_56 a trivial) (fun a => O3_57 a trivial) (fun a => O3_58 a trivial)))
theorem O4_30 : ∀ x : S59, A30 x → O4 30 (g30 x).1 (g30 x).2 = some (q30 x) := fun x hx => add_eq (by intro x y h; simp only [g30, q30, Prod.mk.injEq, List.cons.injEq, and_true] at h; rw [S59.d_inj _ _ h]) hx rfl
def A53 : Int × Int × Int → Prop := fun _ => True
def g53 : Int × Int × Int → List D × Store := fun x => ([.v (.i .i64 x.1), .v (.i .i64 x.2.1), .v (.i .i64 x.2.2)], [])
def q53 : Int × Int × Int → D × Store := fun x => (.v (.b (inB x.1 x.2.1 x.2.2)), [])
noncomputable def O5 : Oracle := Oracle.add O4 53 A53 g53 q53
theorem O5_sound : SoundC Try.prog O5 := add_sound O4_sound (fun x hx => sem_fn (k := 0) (ν := n53) O4_sound Try.func53 (by kernel_rfl) mixed (by kernel_rfl) (Nat.le_of_ble_eq_true (by kernel_rfl)) (r53 O4 (evL TT O4 n53 b53 (0)) x.1 x.2.1 x.2.2))
theorem O5_53 : ∀ x : Int × Int × Int, A53 x → O5 53 (g53 x).1 (g53 x).2 = some (q53 x) := fun x hx => add_eq (by intro x y h; simp only [g53, q53, Prod.mk.injEq, List.cons.injEq, D.v.injEq, D.agg.injEq, V.i.injEq, V.s.injEq, V.sl.injEq, V.b.injEq, rowS_inj, rowI_inj, rowB_inj, true_and, and_true] at h; first | rfl | rw [h] | simp only [q53, h]) hx rfl
def A59 : ByteArray → Prop := fun _ => True
def g59 : ByteArray → List D × Store := fun x => ([.v (.s x)], [])
def q59 : ByteArray → D × Store := fun x => (.v (.b (fieldB x)), [])
noncomputable def O6 : Oracle := Oracle.add O5 59 A59 g59 q59
theorem O6_sound : SoundC Try.prog O6 := add_sound O5_sound (fun x hx => sem_fn (k := 0) (ν := n59) O5_sound Try.func59 (by kernel_rfl) mixed (by kernel_rfl) (Nat.le_of_ble_eq_true (by kernel_rfl)) (r59 O5 (evL TT O5 n59 b59 (0)) x (fun a b c => O5_53 (a, b, c) trivial)))
theorem O6_59 : ∀ x : ByteArray, A59 x → O6 59 (g59 x).1 (g59 x).2 = some (q59 x) := fun x hx => add_eq (by intro x y h; simp only [g59, q59, Prod.mk.injEq, List.cons.injEq, D.v.injEq, D.agg.injEq, V.i.injEq, V.s.injEq, V.sl.injEq, V.b.injEq, rowS_inj, rowI_inj, rowB_inj, true_and, and_true] at h; first | rfl | rw [h] | simp only [q59, h]) hx rfl
def A54 : ByteArray → Prop := fun _ => True
def g54 : ByteArray → List D × Store := fun x => ([.v (.s x)], [])
def q54 : ByteArray → D × Store := fun x => (.v (.b (textB x)), [])
noncomputable def O7 : Oracle := Oracle.add O6 54 A54 g54 q54
theorem O7_sound : SoundC Try.prog O7 := add_sound O6_sound (fun x hx => sem_fn (k := 0) (ν := n54) O6_sound Try.func54 (by kernel_rfl) mixed (by kernel_rfl) (Nat.le_of_ble_eq_true (by kernel_rfl)) (r54 O6 (evL TT O6 n54 b54 (0)) x ))
theorem O7_54 : ∀ x : ByteArray, A54 x → O7 54 (g54 x).1 (g54 x).2 = some (q54 x) := fun x hx => add_eq (by intro x y h; simp only [g54, q54, Prod.mk.injEq, List.cons.injEq, D.v.injEq, D.agg.injEq, V.i.injEq, V.s.injEq, V.sl.injEq, V.b.injEq, rowS_inj, rowI_inj, rowB_inj, true_and, and_true] at h; first | rfl | rw [h] | simp only [q54, h]) hx rfl
theorem O6_53 : ∀ x : Int × Int × Int, A53 x → O6 53 (g53 x).1 (g53 x).2 = some (q53 x) := fun x hx => (add_ne (by decide) _ _).trans (O5_53 x hx)
theorem O7_53 : ∀ x : Int × Int × Int, A53 x → O7 53 (g53 x).1 (g53 x).2 = some (q53 x) := fun x hx => (add_ne (by decide) _ _).trans (O6_53 x hx)
def A55 : Int → Prop := fun _ => True
def g55 : Int → List D × Store := fun x => ([.v (.i .i64 x)], [])
def q55 : Int → D × Store := fun x => (.v (.b (countB x)), [])
noncomputable def O8 : Oracle := Oracle.add O7 55 A55 g55 q55
theorem O8_sound : SoundC Try.prog O8 := add_sound O7_sound (fun x hx => sem_fn (k := 0) (ν := n55) O7_sound Try.func55 (by kernel_rfl) mixed (by kernel_rfl) (Nat.le_of_ble_eq_true (by kernel_rfl)) (r55 O7 (evL TT O7 n55 b55 (0)) x (fun a b c => O7_53 (a, b, c) trivial)))
theorem O8_55 : ∀ x : Int, A55 x → O8 55 (g55 x).1 (g55 x).2 = some (q55 x) := fun x hx => add_eq (by intro x y h; simp only [g55, q55, Prod.mk.injEq, List.cons.injEq, D.v.injEq, D.agg.injEq, V.i.injEq, V.s.injEq, V.sl.injEq, V.b.injEq, rowS_inj, rowI_inj, rowB_inj, true_and, and_true] at h; first | rfl | rw [h] | simp only [q55, h]) hx rfl
theorem O8_53 : ∀ x : Int × Int × Int, A53 x → O8 53 (g53 x).1 (g53 x).2 = some (q53 x) := fun x hx => (add_ne (by decide) _ _).trans (O7_53 x hx)
theorem O7_59 : ∀ x : ByteArray, A59 x → O7 59 (g59 x).1 (g59 x).2 = some (q59 x) := fun x hx => (add_ne (by decide) _ _).trans (O6_59 x hx)
theorem O8_59 : ∀ x : ByteArray, A59 x → O8 59 (g59 x).1 (g59 x).2 = some (q59 x) := fun x hx => (add_ne (by decide) _ _).trans (O7_59 x hx)
theorem O8_54 : ∀ x : ByteArray, A54 x → O8 54 (g54 x).1 (g54 x).2 = some (q54 x) := fun x hx => (add_ne (by decide) _ _).trans (O7_54 x hx)
def A31 : S59 → Prop := fun _ => True
def g31 : S59 → List D × Store := fun x => ([x.d], [])
def q31 : S59 → D × Store := fun x => (.v (.i .i64 (cmdF x.a0 x.a1 x.a2 x.a3 x.a4)), [])
noncomputable def O9 : Oracle := Oracle.add O8 31 A31 g31 q31
theorem O9_sound : SoundC Try.prog O9 := add_sound O8_sound (fun x hx => sem_fn (k := 0) (ν := n31) O8_sound Try.func31 (by kernel_rfl) mixed (by kernel_rfl) (Nat.le_of_ble_eq_true (by kernel_rfl)) (r31 O8 (evL TT O8 n31 b31 (0)) x.a0 x.a4 x.a1 x.a2 x.a3 (fun a b c => O8_53 (a, b, c) trivial) (fun a => O8_59 a trivial) (fun a => O8_54 a trivial) (fun a => O8_55 a trivial)))
theorem O9_31 : ∀ x : S59, A31 x → O9 31 (g31 x).1 (g31 x).2 = some (q31 x) := fun x hx => add_eq (by intro x y h; simp only [g31, q31, Prod.mk.injEq, List.cons.injEq, and_true] at h; rw [S59.d_inj _ _ h]) hx rfl
theorem O5_30 : ∀ x : S59, A30 x → O5 30 (g30 x).1 (g30 x).2 = some (q30 x) := fun x hx => (add_ne (by decide) _ _).trans (O4_30 x hx)
theorem O6_30 : ∀ x : S59, A30 x → O6 30 (g30 x).1 (g30 x).2 = some (q30 x) := fun x hx => (add_ne (by decide) _ _).trans (O5_30 x hx)
theorem O7_30 : ∀ x : S59, A30 x → O7 30 (g30 x).1 (g30 x).2 = some (q30 x) := fun x hx => (add_ne (by decide) _ _).trans (O6_30 x hx)
theorem O8_30 : ∀ x : S59, A30 x → O8 30 (g30 x).1 (g30 x).2 = some (q30 x) := fun x hx => (add_ne (by decide) _ _).trans (O7_30 x hx)
theorem O9_30 : ∀ x : S59, A30 x → O9 30 (g30 x).1 (g30 x).2 = some (q30 x) := fun x hx => (add_ne (by decide) _ _).trans (O8_30 x hx)
def A9 : S59 → Prop := fun _ => True
def g9 : S59 → List D × Store := fun x => ([x.d], [])
def q9 : S59 → D × Store := fun x => (.v (.b true), [])
noncomputable def O10 : Oracle := Oracle.add O9 9 A9 g9 q9
theorem O10_sound : SoundC Try.prog O10 := add_sound O9_sound (fun x hx => sem_fn (k := 0) (ν := n9) O9_sound Try.func9 (by kernel_rfl) mixed (by kernel_rfl) (Nat.le_of_ble_eq_true (by kernel_rfl)) (r9 O9 (evL TT O9 n9 b9 (0)) x.a0 x.a4 x.a1 x.a2 x.a3 (fun k n key field text => O9_30 ⟨k, key, field, text, n⟩ trivial) (fun k n key field text => O9_31 ⟨k, key, field, text, n⟩ trivial)))
theorem O10_9 : ∀ x : S59, A9 x → O10 9 (g9 x).1 (g9 x).2 = some (q9 x) := fun x hx => add_eq (by intro x y h; simp only [g9, q9, Prod.mk.injEq, List.cons.injEq, and_true] at h; rw [S59.d_inj _ _ h]) hx rfl
theorem sem (rs : List (List V)) (h : HasAll Try.prog [60] rs) : Mx.Sem Try.prog 9 (argsD Try.prog [60] rs) [] (.v (.b true)) [] := by
  obtain ⟨r, _, rfl, h0, h1⟩ := h.cons
  obtain rfl := h1.nil
  obtain ⟨x, rfl, hx⟩ := S59.of60 h0
  rw [argsD_one, argD_struct Try.underlying60]
  exact O10_sound _ _ _ _ _ (O10_9 x trivial)
end CValueCommands
end Go.Proofs.Ytiicnbdolakdgaa
