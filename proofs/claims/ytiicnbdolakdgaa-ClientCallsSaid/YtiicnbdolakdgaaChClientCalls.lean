/- Part of the proof by the machine Mx (plain data in place of memory): ChClientCalls. -/
import Derived.Test.YtiicnbdolakdgaaMxZk
import Derived.Test.YtiicnbdolakdgaaStr
import Derived.Test.YtiicnbdolakdgaaG0
import Derived.Test.YtiicnbdolakdgaaG1
import Derived.Test.YtiicnbdolakdgaaG2
set_option linter.unusedVariables false
set_option linter.unusedSimpArgs false
set_option linter.constructorNameAsVariable false
set_option linter.unnecessarySimpa false
namespace Go.Proofs.Ytiicnbdolakdgaa
open Go Go.Mx Go.Proofs
namespace CClientCalls
def A60 : Int → Prop := fun _ => True
def g60 : Int → List D × Store := fun x => ([.v (.i .i64 x)], [])
def q60 : Int → D × Store := fun x => (.v (.b (numB x)), [])
noncomputable def O1 : Oracle := Oracle.add noC 60 A60 g60 q60
theorem O1_sound : SoundC Try.prog O1 := add_sound (noC_sound _) (fun x hx => sem_fn (k := 0) (ν := n60) (noC_sound _) Try.func60 (by kernel_rfl) mixed (by kernel_rfl) (Nat.le_of_ble_eq_true (by kernel_rfl)) (r60 noC (evL TT noC n60 b60 (0)) x ))
theorem O1_60 : ∀ x : Int, A60 x → O1 60 (g60 x).1 (g60 x).2 = some (q60 x) := fun x hx => add_eq (by intro x y h; simp only [g60, q60, Prod.mk.injEq, List.cons.injEq, D.v.injEq, D.agg.injEq, V.i.injEq, V.s.injEq, V.sl.injEq, V.b.injEq, rowS_inj, rowI_inj, rowB_inj, true_and, and_true] at h; first | rfl | rw [h] | simp only [q60, h]) hx rfl
def A56 : ByteArray → Prop := fun _ => True
def g56 : ByteArray → List D × Store := fun x => ([.v (.s x)], [])
def q56 : ByteArray → D × Store := fun x => (.v (.b (fieldB x)), [])
noncomputable def O2 : Oracle := Oracle.add O1 56 A56 g56 q56
theorem O2_sound : SoundC Try.prog O2 := add_sound O1_sound (fun x hx => sem_fn (k := 0) (ν := n56) O1_sound Try.func56 (by kernel_rfl) mixed (by kernel_rfl) (Nat.le_of_ble_eq_true (by kernel_rfl)) (r56 O1 (evL TT O1 n56 b56 (0)) x ))
theorem O2_56 : ∀ x : ByteArray, A56 x → O2 56 (g56 x).1 (g56 x).2 = some (q56 x) := fun x hx => add_eq (by intro x y h; simp only [g56, q56, Prod.mk.injEq, List.cons.injEq, D.v.injEq, D.agg.injEq, V.i.injEq, V.s.injEq, V.sl.injEq, V.b.injEq, rowS_inj, rowI_inj, rowB_inj, true_and, and_true] at h; first | rfl | rw [h] | simp only [q56, h]) hx rfl
def A57 : ByteArray → Prop := fun _ => True
def g57 : ByteArray → List D × Store := fun x => ([.v (.s x)], [])
def q57 : ByteArray → D × Store := fun x => (.v (.b (textB x)), [])
noncomputable def O3 : Oracle := Oracle.add O2 57 A57 g57 q57
theorem O3_sound : SoundC Try.prog O3 := add_sound O2_sound (fun x hx => sem_fn (k := 0) (ν := n57) O2_sound Try.func57 (by kernel_rfl) mixed (by kernel_rfl) (Nat.le_of_ble_eq_true (by kernel_rfl)) (r57 O2 (evL TT O2 n57 b57 (0)) x ))
theorem O3_57 : ∀ x : ByteArray, A57 x → O3 57 (g57 x).1 (g57 x).2 = some (q57 x) := fun x hx => add_eq (by intro x y h; simp only [g57, q57, Prod.mk.injEq, List.cons.injEq, D.v.injEq, D.agg.injEq, V.i.injEq, V.s.injEq, V.sl.injEq, V.b.injEq, rowS_inj, rowI_inj, rowB_inj, true_and, and_true] at h; first | rfl | rw [h] | simp only [q57, h]) hx rfl
def A58 : Int → Prop := fun _ => True
def g58 : Int → List D × Store := fun x => ([.v (.i .i64 x)], [])
def q58 : Int → D × Store := fun x => (.v (.b (countB x)), [])
noncomputable def O4 : Oracle := Oracle.add O3 58 A58 g58 q58
theorem O4_sound : SoundC Try.prog O4 := add_sound O3_sound (fun x hx => sem_fn (k := 0) (ν := n58) O3_sound Try.func58 (by kernel_rfl) mixed (by kernel_rfl) (Nat.le_of_ble_eq_true (by kernel_rfl)) (r58 O3 (evL TT O3 n58 b58 (0)) x ))
theorem O4_58 : ∀ x : Int, A58 x → O4 58 (g58 x).1 (g58 x).2 = some (q58 x) := fun x hx => add_eq (by intro x y h; simp only [g58, q58, Prod.mk.injEq, List.cons.injEq, D.v.injEq, D.agg.injEq, V.i.injEq, V.s.injEq, V.sl.injEq, V.b.injEq, rowS_inj, rowI_inj, rowB_inj, true_and, and_true] at h; first | rfl | rw [h] | simp only [q58, h]) hx rfl
theorem O3_56 : ∀ x : ByteArray, A56 x → O3 56 (g56 x).1 (g56 x).2 = some (q56 x) := fun x hx => (add_ne (by decide) _ _).trans (O2_56 x hx)
theorem O4_56 : ∀ x : ByteArray, A56 x → O4 56 (g56 x).1 (g56 x).2 = some (q56 x) := fun x hx => (add_ne (by decide) _ _).trans (O3_56 x hx)
theorem O4_57 : ∀ x : ByteArray, A57 x → O4 57 (g57 x).1 (g57 x).2 = some (q57 x) := fun x hx => (add_ne (by decide) _ _).trans (O3_57 x hx)
def A30 : S59 → Prop := fun _ => True
def g30 : S59 → List D × Store := fun x => ([x.d], [])
def q30 : S59 → D × Store := fun x => (.v (.i .i64 (cmdF x.a0 x.a1 x.a2 x.a3 x.a4)), [])
noncomputable def O5 : Oracle := Oracle.add O4 30 A30 g30 q30
theorem O5_sound : SoundC Try.prog O5 := add_sound O4_sound (fun x hx => sem_fn (k := 0) (ν := n30) O4_sound Try.func30 (by kernel_rfl) mixed (by kernel_rfl) (Nat.le_of_ble_eq_true (by kernel_rfl)) (r30 O4 (evL TT O4 n30 b30 (0)) x.a0 x.a4 x.a1 x.a2 x.a3 (fun a => O4_56 a trivial) (fun a => O4_57 a trivial) (fun a => O4_58 a trivial)))
theorem O5_30 : ∀ x : S59, A30 x → O5 30 (g30 x).1 (g30 x).2 = some (q30 x) := fun x hx => add_eq (by intro x y h; simp only [g30, q30, Prod.mk.injEq, List.cons.injEq, and_true] at h; rw [S59.d_inj _ _ h]) hx rfl
theorem O2_60 : ∀ x : Int, A60 x → O2 60 (g60 x).1 (g60 x).2 = some (q60 x) := fun x hx => (add_ne (by decide) _ _).trans (O1_60 x hx)
theorem O3_60 : ∀ x : Int, A60 x → O3 60 (g60 x).1 (g60 x).2 = some (q60 x) := fun x hx => (add_ne (by decide) _ _).trans (O2_60 x hx)
theorem O4_60 : ∀ x : Int, A60 x → O4 60 (g60 x).1 (g60 x).2 = some (q60 x) := fun x hx => (add_ne (by decide) _ _).trans (O3_60 x hx)
theorem O5_60 : ∀ x : Int, A60 x → O5 60 (g60 x).1 (g60 x).2 = some (q60 x) := fun x hx => (add_ne (by decide) _ _).trans (O4_60 x hx)
def A32 : S63 → Prop := fun _ => True
def g32 : S63 → List D × Store := fun x => ([x.d], [])
def q32 : S63 → D × Store := fun x => (.v (.i .i64 (callF x.a0 x.a1 x.a2 x.a3 x.a4 x.a5 x.a6)), [])
noncomputable def O6 : Oracle := Oracle.add O5 32 A32 g32 q32
theorem O6_sound : SoundC Try.prog O6 := add_sound O5_sound (fun x hx => sem_fn (k := 0) (ν := n32) O5_sound Try.func32 (by kernel_rfl) mixed (by kernel_rfl) (Nat.le_of_ble_eq_true (by kernel_rfl)) (r32 O5 (evL TT O5 n32 b32 (0)) x.a0 x.a1 x.a2 x.a6 x.a3 x.a4 x.a5 (fun a => O5_60 a trivial) (fun k n key field text => O5_30 ⟨k, key, field, text, n⟩ trivial)))
theorem O6_32 : ∀ x : S63, A32 x → O6 32 (g32 x).1 (g32 x).2 = some (q32 x) := fun x hx => add_eq (by intro x y h; simp only [g32, q32, Prod.mk.injEq, List.cons.injEq, and_true] at h; rw [S63.d_inj _ _ h]) hx rfl
def A53 : Int × Int × Int → Prop := fun _ => True
def g53 : Int × Int × Int → List D × Store := fun x => ([.v (.i .i64 x.1), .v (.i .i64 x.2.1), .v (.i .i64 x.2.2)], [])
def q53 : Int × Int × Int → D × Store := fun x => (.v (.b (inB x.1 x.2.1 x.2.2)), [])
noncomputable def O7 : Oracle := Oracle.add O6 53 A53 g53 q53
theorem O7_sound : SoundC Try.prog O7 := add_sound O6_sound (fun x hx => sem_fn (k := 0) (ν := n53) O6_sound Try.func53 (by kernel_rfl) mixed (by kernel_rfl) (Nat.le_of_ble_eq_true (by kernel_rfl)) (r53 O6 (evL TT O6 n53 b53 (0)) x.1 x.2.1 x.2.2))
theorem O7_53 : ∀ x : Int × Int × Int, A53 x → O7 53 (g53 x).1 (g53 x).2 = some (q53 x) := fun x hx => add_eq (by intro x y h; simp only [g53, q53, Prod.mk.injEq, List.cons.injEq, D.v.injEq, D.agg.injEq, V.i.injEq, V.s.injEq, V.sl.injEq, V.b.injEq, rowS_inj, rowI_inj, rowB_inj, true_and, and_true] at h; first | rfl | rw [h] | simp only [q53, h]) hx rfl
def A61 : Int → Prop := fun _ => True
def g61 : Int → List D × Store := fun x => ([.v (.i .i64 x)], [])
def q61 : Int → D × Store := fun x => (.v (.b (numB x)), [])
noncomputable def O8 : Oracle := Oracle.add O7 61 A61 g61 q61
theorem O8_sound : SoundC Try.prog O8 := add_sound O7_sound (fun x hx => sem_fn (k := 0) (ν := n61) O7_sound Try.func61 (by kernel_rfl) mixed (by kernel_rfl) (Nat.le_of_ble_eq_true (by kernel_rfl)) (r61 O7 (evL TT O7 n61 b61 (0)) x (fun a b c => O7_53 (a, b, c) trivial)))
theorem O8_61 : ∀ x : Int, A61 x → O8 61 (g61 x).1 (g61 x).2 = some (q61 x) := fun x hx => add_eq (by intro x y h; simp only [g61, q61, Prod.mk.injEq, List.cons.injEq, D.v.injEq, D.agg.injEq, V.i.injEq, V.s.injEq, V.sl.injEq, V.b.injEq, rowS_inj, rowI_inj, rowB_inj, true_and, and_true] at h; first | rfl | rw [h] | simp only [q61, h]) hx rfl
theorem O8_53 : ∀ x : Int × Int × Int, A53 x → O8 53 (g53 x).1 (g53 x).2 = some (q53 x) := fun x hx => (add_ne (by decide) _ _).trans (O7_53 x hx)
def A59 : ByteArray → Prop := fun _ => True
def g59 : ByteArray → List D × Store := fun x => ([.v (.s x)], [])
def q59 : ByteArray → D × Store := fun x => (.v (.b (fieldB x)), [])
noncomputable def O9 : Oracle := Oracle.add O8 59 A59 g59 q59
theorem O9_sound : SoundC Try.prog O9 := add_sound O8_sound (fun x hx => sem_fn (k := 0) (ν := n59) O8_sound Try.func59 (by kernel_rfl) mixed (by kernel_rfl) (Nat.le_of_ble_eq_true (by kernel_rfl)) (r59 O8 (evL TT O8 n59 b59 (0)) x (fun a b c => O8_53 (a, b, c) trivial)))
theorem O9_59 : ∀ x : ByteArray, A59 x → O9 59 (g59 x).1 (g59 x).2 = some (q59 x) := fun x hx => add_eq (by intro x y h; simp only [g59, q59, Prod.mk.injEq, List.cons.injEq, D.v.injEq, D.agg.injEq, V.i.injEq, V.s.injEq, V.sl.injEq, V.b.injEq, rowS_inj, rowI_inj, rowB_inj, true_and, and_true] at h; first | rfl | rw [h] | simp only [q59, h]) hx rfl
def A54 : ByteArray → Prop := fun _ => True
def g54 : ByteArray → List D × Store := fun x => ([.v (.s x)], [])
def q54 : ByteArray → D × Store := fun x => (.v (.b (textB x)), [])
noncomputable def O10 : Oracle := Oracle.add O9 54 A54 g54 q54
theorem O10_sound : SoundC Try.prog O10 := add_sound O9_sound (fun x hx => sem_fn (k := 0) (ν := n54) O9_sound Try.func54 (by kernel_rfl) mixed (by kernel_rfl) (Nat.le_of_ble_eq_true (by kernel_rfl)) (r54 O9 (evL TT O9 n54 b54 (0)) x ))
theorem O10_54 : ∀ x : ByteArray, A54 x → O10 54 (g54 x).1 (g54 x).2 = some (q54 x) := fun x hx => add_eq (by intro x y h; simp only [g54, q54, Prod.mk.injEq, List.cons.injEq, D.v.injEq, D.agg.injEq, V.i.injEq, V.s.injEq, V.sl.injEq, V.b.injEq, rowS_inj, rowI_inj, rowB_inj, true_and, and_true] at h; first | rfl | rw [h] | simp only [q54, h]) hx rfl
theorem O9_53 : ∀ x : Int × Int × Int, A53 x → O9 53 (g53 x).1 (g53 x).2 = some (q53 x) := fun x hx => (add_ne (by decide) _ _).trans (O8_53 x hx)
theorem O10_53 : ∀ x : Int × Int × Int, A53 x → O10 53 (g53 x).1 (g53 x).2 = some (q53 x) := fun x hx => (add_ne (by decide) _ _).trans (O9_53 x hx)
def A55 : Int → Prop := fun _ => True
def g55 : Int → List D × Store := fun x => ([.v (.i .i64 x)], [])
def q55 : Int → D × Store := fun x => (.v (.b (countB x)), [])
noncomputable def O11 : Oracle := Oracle.add O10 55 A55 g55 q55
theorem O11_sound : SoundC Try.prog O11 := add_sound O10_sound (fun x hx => sem_fn (k := 0) (ν := n55) O10_sound Try.func55 (by kernel_rfl) mixed (by kernel_rfl) (Nat.le_of_ble_eq_true (by kernel_rfl)) (r55 O10 (evL TT O10 n55 b55 (0)) x (fun a b c => O10_53 (a, b, c) trivial)))
theorem O11_55 : ∀ x : Int, A55 x → O11 55 (g55 x).1 (g55 x).2 = some (q55 x) := fun x hx => add_eq (by intro x y h; simp only [g55, q55, Prod.mk.injEq, List.cons.injEq, D.v.injEq, D.agg.injEq, V.i.injEq, V.s.injEq, V.sl.injEq, V.b.injEq, rowS_inj, rowI_inj, rowB_inj, true_and, and_true] at h; first | rfl | rw [h] | simp only [q55, h]) hx rfl
theorem O11_53 : ∀ x : Int × Int × Int, A53 x → O11 53 (g53 x).1 (g53 x).2 = some (q53 x) := fun x hx => (add_ne (by decide) _ _).trans (O10_53 x hx)
theorem O10_59 : ∀ x : ByteArray, A59 x → O10 59 (g59 x).1 (g59 x).2 = some (q59 x) := fun x hx => (add_ne (by decide) _ _).trans (O9_59 x hx)
theorem O11_59 : ∀ x : ByteArray, A59 x → O11 59 (g59 x).1 (g59 x).2 = some (q59 x) := fun x hx => (add_ne (by decide) _ _).trans (O10_59 x hx)
theorem O11_54 : ∀ x : ByteArray, A54 x → O11 54 (g54 x).1 (g54 x).2 = some (q54 x) := fun x hx => (add_ne (by decide) _ _).trans (O10_54 x hx)
def A31 : S59 → Prop := fun _ => True
def g31 : S59 → List D × Store := fun x => ([x.d], [])
def q31 : S59 → D × Store := fun x => (.v (.i .i64 (cmdF x.a0 x.a1 x.a2 x.a3 x.a4)), [])
noncomputable def O12 : Oracle := Oracle.add O11 31 A31 g31 q31
theorem O12_sound : SoundC Try.prog O12 := add_sound O11_sound (fun x hx => sem_fn (k := 0) (ν := n31) O11_sound Try.func31 (by kernel_rfl) mixed (by kernel_rfl) (Nat.le_of_ble_eq_true (by kernel_rfl)) (r31 O11 (evL TT O11 n31 b31 (0)) x.a0 x.a4 x.a1 x.a2 x.a3 (fun a b c => O11_53 (a, b, c) trivial) (fun a => O11_59 a trivial) (fun a => O11_54 a trivial) (fun a => O11_55 a trivial)))
theorem O12_31 : ∀ x : S59, A31 x → O12 31 (g31 x).1 (g31 x).2 = some (q31 x) := fun x hx => add_eq (by intro x y h; simp only [g31, q31, Prod.mk.injEq, List.cons.injEq, and_true] at h; rw [S59.d_inj _ _ h]) hx rfl
theorem O9_61 : ∀ x : Int, A61 x → O9 61 (g61 x).1 (g61 x).2 = some (q61 x) := fun x hx => (add_ne (by decide) _ _).trans (O8_61 x hx)
theorem O10_61 : ∀ x : Int, A61 x → O10 61 (g61 x).1 (g61 x).2 = some (q61 x) := fun x hx => (add_ne (by decide) _ _).trans (O9_61 x hx)
theorem O11_61 : ∀ x : Int, A61 x → O11 61 (g61 x).1 (g61 x).2 = some (q61 x) := fun x hx => (add_ne (by decide) _ _).trans (O10_61 x hx)
theorem O12_61 : ∀ x : Int, A61 x → O12 61 (g61 x).1 (g61 x).2 = some (q61 x) := fun x hx => (add_ne (by decide) _ _).trans (O11_61 x hx)
def A33 : S63 → Prop := fun _ => True
def g33 : S63 → List D × Store := fun x => ([x.d], [])
def q33 : S63 → D × Store := fun x => (.v (.i .i64 (callF x.a0 x.a1 x.a2 x.a3 x.a4 x.a5 x.a6)), [])
noncomputable def O13 : Oracle := Oracle.add O12 33 A33 g33 q33
theorem O13_sound : SoundC Try.prog O13 := add_sound O12_sound (fun x hx => sem_fn (k := 0) (ν := n33) O12_sound Try.func33 (by kernel_rfl) mixed (by kernel_rfl) (Nat.le_of_ble_eq_true (by kernel_rfl)) (r33 O12 (evL TT O12 n33 b33 (0)) x.a0 x.a1 x.a2 x.a6 x.a3 x.a4 x.a5 (fun a => O12_61 a trivial) (fun k n key field text => O12_31 ⟨k, key, field, text, n⟩ trivial)))
theorem O13_33 : ∀ x : S63, A33 x → O13 33 (g33 x).1 (g33 x).2 = some (q33 x) := fun x hx => add_eq (by intro x y h; simp only [g33, q33, Prod.mk.injEq, List.cons.injEq, and_true] at h; rw [S63.d_inj _ _ h]) hx rfl
theorem O7_32 : ∀ x : S63, A32 x → O7 32 (g32 x).1 (g32 x).2 = some (q32 x) := fun x hx => (add_ne (by decide) _ _).trans (O6_32 x hx)
theorem O8_32 : ∀ x : S63, A32 x → O8 32 (g32 x).1 (g32 x).2 = some (q32 x) := fun x hx => (add_ne (by decide) _ _).trans (O7_32 x hx)
theorem O9_32 : ∀ x : S63, A32 x → O9 32 (g32 x).1 (g32 x).2 = some (q32 x) := fun x hx => (add_ne (by decide) _ _).trans (O8_32 x hx)
theorem O10_32 : ∀ x : S63, A32 x → O10 32 (g32 x).1 (g32 x).2 = some (q32 x) := fun x hx => (add_ne (by decide) _ _).trans (O9_32 x hx)
theorem O11_32 : ∀ x : S63, A32 x → O11 32 (g32 x).1 (g32 x).2 = some (q32 x) := fun x hx => (add_ne (by decide) _ _).trans (O10_32 x hx)
theorem O12_32 : ∀ x : S63, A32 x → O12 32 (g32 x).1 (g32 x).2 = some (q32 x) := fun x hx => (add_ne (by decide) _ _).trans (O11_32 x hx)
theorem O13_32 : ∀ x : S63, A32 x → O13 32 (g32 x).1 (g32 x).2 = some (q32 x) := fun x hx => (add_ne (by decide) _ _).trans (O12_32 x hx)
def A10 : S63 → Prop := fun _ => True
def g10 : S63 → List D × Store := fun x => ([x.d], [])
def q10 : S63 → D × Store := fun x => (.v (.b true), [])
noncomputable def O14 : Oracle := Oracle.add O13 10 A10 g10 q10
theorem O14_sound : SoundC Try.prog O14 := add_sound O13_sound (fun x hx => sem_fn (k := 0) (ν := n10) O13_sound Try.func10 (by kernel_rfl) mixed (by kernel_rfl) (Nat.le_of_ble_eq_true (by kernel_rfl)) (r10 O13 (evL TT O13 n10 b10 (0)) x.a0 x.a1 x.a2 x.a6 x.a3 x.a4 x.a5 (fun cl seq k n key field text => O13_32 ⟨cl, seq, k, key, field, text, n⟩ trivial) (fun cl seq k n key field text => O13_33 ⟨cl, seq, k, key, field, text, n⟩ trivial)))
theorem O14_10 : ∀ x : S63, A10 x → O14 10 (g10 x).1 (g10 x).2 = some (q10 x) := fun x hx => add_eq (by intro x y h; simp only [g10, q10, Prod.mk.injEq, List.cons.injEq, and_true] at h; rw [S63.d_inj _ _ h]) hx rfl
theorem sem (rs : List (List V)) (h : HasAll Try.prog [64] rs) : Mx.Sem Try.prog 10 (argsD Try.prog [64] rs) [] (.v (.b true)) [] := by
  obtain ⟨r, _, rfl, h0, h1⟩ := h.cons
  obtain rfl := h1.nil
  obtain ⟨x, rfl, hx⟩ := S63.of64 h0
  rw [argsD_one, argD_struct Try.underlying64]
  exact O14_sound _ _ _ _ _ (O14_10 x trivial)
end CClientCalls
end Go.Proofs.Ytiicnbdolakdgaa
