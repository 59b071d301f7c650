/- Part of the proof by the machine Mx: ChLedgerLasts. -/
import Derived.Test.YtiicnbdolakdgaaMxFour
import Derived.Test.YtiicnbdolakdgaaStr
import Derived.Test.YtiicnbdolakdgaaG0
import Derived.Test.YtiicnbdolakdgaaG1
import Derived.Test.YtiicnbdolakdgaaG2
import Derived.Test.YtiicnbdolakdgaaH0
import Derived.Test.YtiicnbdolakdgaaJ0
import Derived.Test.YtiicnbdolakdgaaJ1
import Derived.Test.YtiicnbdolakdgaaK0
import Derived.Test.YtiicnbdolakdgaaK1
set_option linter.unusedSimpArgs false
set_option linter.unusedVariables false
set_option linter.constructorNameAsVariable false
set_option linter.unnecessarySimpa false
namespace Go.Proofs.Ytiicnbdolakdgaa
open Go Go.Mx Go.Proofs
namespace CLedgerLasts
def A37 : S37 → Prop := fun x => x.ok
def g37 : S37 → List D × Store := fun x => ([x.d], [])
def q37 : S37 → D × Store := fun x => (.agg [.v (.i .i64 x.a0), .v (.i .i64 x.a1), .own 10 (x.a2.map S67.row)], [])
noncomputable def O1 : Oracle := Oracle.add noC 37 A37 g37 q37
theorem O1_sound : SoundC Try.prog O1 := add_sound (noC_sound _) (fun x hx => sem_fn (k := x.a2.length + 1) (ν := n37) (noC_sound _) Try.func37 (by kernel_rfl) mixed (by kernel_rfl) (Nat.le_of_ble_eq_true (by kernel_rfl)) (r37 noC x.a0 x.a1 x.a2 hx.2.2.1))
theorem O1_37 : ∀ x : S37, A37 x → O1 37 (g37 x).1 (g37 x).2 = some (q37 x) := fun x hx => add_eq (by intro x y h; simp only [g37, q37, Prod.mk.injEq, List.cons.injEq, and_true] at h; rw [S37.d_inj _ _ h]) hx rfl
def A60 : Int → Prop := fun _ => True
def g60 : Int → List D × Store := fun x => ([.v (.i .i64 x)], [])
def q60 : Int → D × Store := fun x => (.v (.b (numB x)), [])
noncomputable def O2 : Oracle := Oracle.add O1 60 A60 g60 q60
theorem O2_sound : SoundC Try.prog O2 := add_sound O1_sound (fun x hx => sem_fn (k := 0) (ν := n60) O1_sound Try.func60 (by kernel_rfl) mixed (by kernel_rfl) (Nat.le_of_ble_eq_true (by kernel_rfl)) (r60 O1 (evL TT O1 n60 b60 (0)) x ))
theorem O2_60 : ∀ x : Int, A60 x → O2 60 (g60 x).1 (g60 x).2 = some (q60 x) := fun x hx => add_eq (by intro x y h; simp only [g60, q60, Prod.mk.injEq, List.cons.injEq, D.v.injEq, D.agg.injEq, V.i.injEq, V.s.injEq, V.sl.injEq, V.b.injEq, rowS_inj, rowI_inj, rowB_inj, true_and, and_true] at h; first | rfl | rw [h] | simp only [q60, h]) hx rfl
def A56 : ByteArray → Prop := fun _ => True
def g56 : ByteArray → List D × Store := fun x => ([.v (.s x)], [])
def q56 : ByteArray → D × Store := fun x => (.v (.b (fieldB x)), [])
noncomputable def O3 : Oracle := Oracle.add O2 56 A56 g56 q56
theorem O3_sound : SoundC Try.prog O3 := add_sound O2_sound (fun x hx => sem_fn (k := 0) (ν := n56) O2_sound Try.func56 (by kernel_rfl) mixed (by kernel_rfl) (Nat.le_of_ble_eq_true (by kernel_rfl)) (r56 O2 (evL TT O2 n56 b56 (0)) x ))
theorem O3_56 : ∀ x : ByteArray, A56 x → O3 56 (g56 x).1 (g56 x).2 = some (q56 x) := fun x hx => add_eq (by intro x y h; simp only [g56, q56, Prod.mk.injEq, List.cons.injEq, D.v.injEq, D.agg.injEq, V.i.injEq, V.s.injEq, V.sl.injEq, V.b.injEq, rowS_inj, rowI_inj, rowB_inj, true_and, and_true] at h; first | rfl | rw [h] | simp only [q56, h]) hx rfl
def A57 : ByteArray → Prop := fun _ => True
def g57 : ByteArray → List D × Store := fun x => ([.v (.s x)], [])
def q57 : ByteArray → D × Store := fun x => (.v (.b (textB x)), [])
noncomputable def O4 : Oracle := Oracle.add O3 57 A57 g57 q57
theorem O4_sound : SoundC Try.prog O4 := add_sound O3_sound (fun x hx => sem_fn (k := 0) (ν := n57) O3_sound Try.func57 (by kernel_rfl) mixed (by kernel_rfl) (Nat.le_of_ble_eq_true (by kernel_rfl)) (r57 O3 (evL TT O3 n57 b57 (0)) x ))
theorem O4_57 : ∀ x : ByteArray, A57 x → O4 57 (g57 x).1 (g57 x).2 = some (q57 x) := fun x hx => add_eq (by intro x y h; simp only [g57, q57, Prod.mk.injEq, List.cons.injEq, D.v.injEq, D.agg.injEq, V.i.injEq, V.s.injEq, V.sl.injEq, V.b.injEq, rowS_inj, rowI_inj, rowB_inj, true_and, and_true] at h; first | rfl | rw [h] | simp only [q57, h]) hx rfl
def A58 : Int → Prop := fun _ => True
def g58 : Int → List D × Store := fun x => ([.v (.i .i64 x)], [])
def q58 : Int → D × Store := fun x => (.v (.b (countB x)), [])
noncomputable def O5 : Oracle := Oracle.add O4 58 A58 g58 q58
theorem O5_sound : SoundC Try.prog O5 := add_sound O4_sound (fun x hx => sem_fn (k := 0) (ν := n58) O4_sound Try.func58 (by kernel_rfl) mixed (by kernel_rfl) (Nat.le_of_ble_eq_true (by kernel_rfl)) (r58 O4 (evL TT O4 n58 b58 (0)) x ))
theorem O5_58 : ∀ x : Int, A58 x → O5 58 (g58 x).1 (g58 x).2 = some (q58 x) := fun x hx => add_eq (by intro x y h; simp only [g58, q58, Prod.mk.injEq, List.cons.injEq, D.v.injEq, D.agg.injEq, V.i.injEq, V.s.injEq, V.sl.injEq, V.b.injEq, rowS_inj, rowI_inj, rowB_inj, true_and, and_true] at h; first | rfl | rw [h] | simp only [q58, h]) hx rfl
theorem O4_56 : ∀ x : ByteArray, A56 x → O4 56 (g56 x).1 (g56 x).2 = some (q56 x) := fun x hx => (add_ne (by decide) _ _).trans (O3_56 x hx)
theorem O5_56 : ∀ x : ByteArray, A56 x → O5 56 (g56 x).1 (g56 x).2 = some (q56 x) := fun x hx => (add_ne (by decide) _ _).trans (O4_56 x hx)
theorem O5_57 : ∀ x : ByteArray, A57 x → O5 57 (g57 x).1 (g57 x).2 = some (q57 x) := fun x hx => (add_ne (by decide) _ _).trans (O4_57 x hx)
def A30 : S59 → Prop := fun _ => True
def g30 : S59 → List D × Store := fun x => ([x.d], [])
def q30 : S59 → D × Store := fun x => (.v (.i .i64 (cmdF x.a0 x.a1 x.a2 x.a3 x.a4)), [])
noncomputable def O6 : Oracle := Oracle.add O5 30 A30 g30 q30
theorem O6_sound : SoundC Try.prog O6 := add_sound O5_sound (fun x hx => sem_fn (k := 0) (ν := n30) O5_sound Try.func30 (by kernel_rfl) mixed (by kernel_rfl) (Nat.le_of_ble_eq_true (by kernel_rfl)) (r30 O5 (evL TT O5 n30 b30 (0)) x.a0 x.a4 x.a1 x.a2 x.a3 (fun a => O5_56 a trivial) (fun a => O5_57 a trivial) (fun a => O5_58 a trivial)))
theorem O6_30 : ∀ x : S59, A30 x → O6 30 (g30 x).1 (g30 x).2 = some (q30 x) := fun x hx => add_eq (by intro x y h; simp only [g30, q30, Prod.mk.injEq, List.cons.injEq, and_true] at h; rw [S59.d_inj _ _ h]) hx rfl
theorem O3_60 : ∀ x : Int, A60 x → O3 60 (g60 x).1 (g60 x).2 = some (q60 x) := fun x hx => (add_ne (by decide) _ _).trans (O2_60 x hx)
theorem O4_60 : ∀ x : Int, A60 x → O4 60 (g60 x).1 (g60 x).2 = some (q60 x) := fun x hx => (add_ne (by decide) _ _).trans (O3_60 x hx)
theorem O5_60 : ∀ x : Int, A60 x → O5 60 (g60 x).1 (g60 x).2 = some (q60 x) := fun x hx => (add_ne (by decide) _ _).trans (O4_60 x hx)
theorem O6_60 : ∀ x : Int, A60 x → O6 60 (g60 x).1 (g60 x).2 = some (q60 x) := fun x hx => (add_ne (by decide) _ _).trans (O5_60 x hx)
def A32 : S63 → Prop := fun _ => True
def g32 : S63 → List D × Store := fun x => ([x.d], [])
def q32 : S63 → D × Store := fun x => (.v (.i .i64 (callF x.a0 x.a1 x.a2 x.a3 x.a4 x.a5 x.a6)), [])
noncomputable def O7 : Oracle := Oracle.add O6 32 A32 g32 q32
theorem O7_sound : SoundC Try.prog O7 := add_sound O6_sound (fun x hx => sem_fn (k := 0) (ν := n32) O6_sound Try.func32 (by kernel_rfl) mixed (by kernel_rfl) (Nat.le_of_ble_eq_true (by kernel_rfl)) (r32 O6 (evL TT O6 n32 b32 (0)) x.a0 x.a1 x.a2 x.a6 x.a3 x.a4 x.a5 (fun a => O6_60 a trivial) (fun k n key field text => O6_30 ⟨k, key, field, text, n⟩ trivial)))
theorem O7_32 : ∀ x : S63, A32 x → O7 32 (g32 x).1 (g32 x).2 = some (q32 x) := fun x hx => add_eq (by intro x y h; simp only [g32, q32, Prod.mk.injEq, List.cons.injEq, and_true] at h; rw [S63.d_inj _ _ h]) hx rfl
def A34 : S67 → Prop := fun _ => True
def g34 : S67 → List D × Store := fun x => ([x.d], [])
def q34 : S67 → D × Store := fun x => (.v (.i .i64 (itemF x.a0 x.a1 x.a2 x.a3 x.a4 x.a5 x.a6 x.a7 x.a8 x.a9)), [])
noncomputable def O8 : Oracle := Oracle.add O7 34 A34 g34 q34
theorem O8_sound : SoundC Try.prog O8 := add_sound O7_sound (fun x hx => sem_fn (k := 0) (ν := n34) O7_sound Try.func34 (by kernel_rfl) mixed (by kernel_rfl) (Nat.le_of_ble_eq_true (by kernel_rfl)) (r34 O7 (evL TT O7 n34 b34 (0)) x.a0 x.a1 x.a2 x.a3 x.a4 x.a5 x.a9 x.a6 x.a7 x.a8 (fun cl seq k n key field text => O7_32 ⟨cl, seq, k, key, field, text, n⟩ trivial)))
theorem O8_34 : ∀ x : S67, A34 x → O8 34 (g34 x).1 (g34 x).2 = some (q34 x) := fun x hx => add_eq (by intro x y h; simp only [g34, q34, Prod.mk.injEq, List.cons.injEq, and_true] at h; rw [S67.d_inj _ _ h]) hx rfl
def A36 : S37 → Prop := fun x => x.ok
def g36 : S37 → List D × Store := fun x => ([x.d], [])
def q36 : S37 → D × Store := fun x => (.v (.i .i64 (logF x.a0 x.a1 x.a2)), [])
noncomputable def O9 : Oracle := Oracle.add O8 36 A36 g36 q36
theorem O9_sound : SoundC Try.prog O9 := add_sound O8_sound (fun x hx => sem_fn (k := x.a2.length + 1) (ν := n36) O8_sound Try.func36 (by kernel_rfl) mixed (by kernel_rfl) (Nat.le_of_ble_eq_true (by kernel_rfl)) (r36 O8 x.a0 x.a1 x.a2 (fun y => O8_34 ⟨y.a0, y.a1, y.a2, y.a3, y.a4, y.a5, y.a6, y.a7, y.a8, y.a9⟩ trivial) (by have : okN 104 x.a2.length := hx.2.2.1; simp only [okN] at this; omega)))
theorem O9_36 : ∀ x : S37, A36 x → O9 36 (g36 x).1 (g36 x).2 = some (q36 x) := fun x hx => add_eq (by intro x y h; simp only [g36, q36, Prod.mk.injEq, List.cons.injEq, and_true] at h; rw [S37.d_inj _ _ h]) hx rfl
def A65 : S37 → Prop := fun x => x.ok ∧ logF x.a0 x.a1 x.a2 = 0
def g65 : S37 → List D × Store := fun x => ([x.d], [])
def q65 : S37 → D × Store := fun x => (.tup [.v (.i .i64 (x.a0 + (x.a2.length : Int))), .v (.i .i64 (lastT x.a1 x.a2))], [])
noncomputable def O10 : Oracle := Oracle.add O9 65 A65 g65 q65
theorem O10_sound : SoundC Try.prog O10 := add_sound O9_sound (fun x hx => sem_fn (k := 0) (ν := n65) O9_sound Try.func65 (by kernel_rfl) mixed (by kernel_rfl) (Nat.le_of_ble_eq_true (by kernel_rfl)) (r65 O9 (evL TT O9 n65 b65 (0)) x.a0 x.a1 x.a2 hx.2))
theorem O10_65 : ∀ x : S37, A65 x → O10 65 (g65 x).1 (g65 x).2 = some (q65 x) := fun x hx => add_eq (by intro x y h; simp only [g65, q65, Prod.mk.injEq, List.cons.injEq, and_true] at h; rw [S37.d_inj _ _ h]) hx rfl
theorem O10_36 : ∀ x : S37, A36 x → O10 36 (g36 x).1 (g36 x).2 = some (q36 x) := fun x hx => (add_ne (by decide) _ _).trans (O9_36 x hx)
def A41 : S37 → Prop := fun x => x.ok
def g41 : S37 → List D × Store := fun x => ([x.d], [])
def q41 : S37 → D × Store := fun x => (.tup [.v (.i .i64 (bif logF x.a0 x.a1 x.a2 == 0 then x.a0 + (x.a2.length : Int) else 0)), .v (.i .i64 (bif logF x.a0 x.a1 x.a2 == 0 then lastT x.a1 x.a2 else 0)), .v (.i .i64 (logF x.a0 x.a1 x.a2))], [])
noncomputable def O11 : Oracle := Oracle.add O10 41 A41 g41 q41
theorem O11_sound : SoundC Try.prog O11 := add_sound O10_sound (fun x hx => sem_fn (k := 0) (ν := n41) O10_sound Try.func41 (by kernel_rfl) mixed (by kernel_rfl) (Nat.le_of_ble_eq_true (by kernel_rfl)) (r41 O10 (evL TT O10 n41 b41 (0)) x.a0 x.a1 x.a2 (O10_36 x hx) (fun h => O10_65 x ⟨hx, h⟩)))
theorem O11_41 : ∀ x : S37, A41 x → O11 41 (g41 x).1 (g41 x).2 = some (q41 x) := fun x hx => add_eq (by intro x y h; simp only [g41, q41, Prod.mk.injEq, List.cons.injEq, and_true] at h; rw [S37.d_inj _ _ h]) hx rfl
def A53 : Int × Int × Int → Prop := fun _ => True
def g53 : Int × Int × Int → List D × Store := fun x => ([.v (.i .i64 x.1), .v (.i .i64 x.2.1), .v (.i .i64 x.2.2)], [])
def q53 : Int × Int × Int → D × Store := fun x => (.v (.b (inB x.1 x.2.1 x.2.2)), [])
noncomputable def O12 : Oracle := Oracle.add O11 53 A53 g53 q53
theorem O12_sound : SoundC Try.prog O12 := add_sound O11_sound (fun x hx => sem_fn (k := 0) (ν := n53) O11_sound Try.func53 (by kernel_rfl) mixed (by kernel_rfl) (Nat.le_of_ble_eq_true (by kernel_rfl)) (r53 O11 (evL TT O11 n53 b53 (0)) x.1 x.2.1 x.2.2))
theorem O12_53 : ∀ x : Int × Int × Int, A53 x → O12 53 (g53 x).1 (g53 x).2 = some (q53 x) := fun x hx => add_eq (by intro x y h; simp only [g53, q53, Prod.mk.injEq, List.cons.injEq, D.v.injEq, D.agg.injEq, V.i.injEq, V.s.injEq, V.sl.injEq, V.b.injEq, rowS_inj, rowI_inj, rowB_inj, true_and, and_true] at h; first | rfl | rw [h] | simp only [q53, h]) hx rfl
def A61 : Int → Prop := fun _ => True
def g61 : Int → List D × Store := fun x => ([.v (.i .i64 x)], [])
def q61 : Int → D × Store := fun x => (.v (.b (numB x)), [])
noncomputable def O13 : Oracle := Oracle.add O12 61 A61 g61 q61
theorem O13_sound : SoundC Try.prog O13 := add_sound O12_sound (fun x hx => sem_fn (k := 0) (ν := n61) O12_sound Try.func61 (by kernel_rfl) mixed (by kernel_rfl) (Nat.le_of_ble_eq_true (by kernel_rfl)) (r61 O12 (evL TT O12 n61 b61 (0)) x (fun a b c => O12_53 (a, b, c) trivial)))
theorem O13_61 : ∀ x : Int, A61 x → O13 61 (g61 x).1 (g61 x).2 = some (q61 x) := fun x hx => add_eq (by intro x y h; simp only [g61, q61, Prod.mk.injEq, List.cons.injEq, D.v.injEq, D.agg.injEq, V.i.injEq, V.s.injEq, V.sl.injEq, V.b.injEq, rowS_inj, rowI_inj, rowB_inj, true_and, and_true] at h; first | rfl | rw [h] | simp only [q61, h]) hx rfl
theorem O13_53 : ∀ x : Int × Int × Int, A53 x → O13 53 (g53 x).1 (g53 x).2 = some (q53 x) := fun x hx => (add_ne (by decide) _ _).trans (O12_53 x hx)
def A59 : ByteArray → Prop := fun _ => True
def g59 : ByteArray → List D × Store := fun x => ([.v (.s x)], [])
def q59 : ByteArray → D × Store := fun x => (.v (.b (fieldB x)), [])
noncomputable def O14 : Oracle := Oracle.add O13 59 A59 g59 q59
theorem O14_sound : SoundC Try.prog O14 := add_sound O13_sound (fun x hx => sem_fn (k := 0) (ν := n59) O13_sound Try.func59 (by kernel_rfl) mixed (by kernel_rfl) (Nat.le_of_ble_eq_true (by kernel_rfl)) (r59 O13 (evL TT O13 n59 b59 (0)) x (fun a b c => O13_53 (a, b, c) trivial)))
theorem O14_59 : ∀ x : ByteArray, A59 x → O14 59 (g59 x).1 (g59 x).2 = some (q59 x) := fun x hx => add_eq (by intro x y h; simp only [g59, q59, Prod.mk.injEq, List.cons.injEq, D.v.injEq, D.agg.injEq, V.i.injEq, V.s.injEq, V.sl.injEq, V.b.injEq, rowS_inj, rowI_inj, rowB_inj, true_and, and_true] at h; first | rfl | rw [h] | simp only [q59, h]) hx rfl
def A54 : ByteArray → Prop := fun _ => True
def g54 : ByteArray → List D × Store := fun x => ([.v (.s x)], [])
def q54 : ByteArray → D × Store := fun x => (.v (.b (textB x)), [])
noncomputable def O15 : Oracle := Oracle.add O14 54 A54 g54 q54
theorem O15_sound : SoundC Try.prog O15 := add_sound O14_sound (fun x hx => sem_fn (k := 0) (ν := n54) O14_sound Try.func54 (by kernel_rfl) mixed (by kernel_rfl) (Nat.le_of_ble_eq_true (by kernel_rfl)) (r54 O14 (evL TT O14 n54 b54 (0)) x ))
theorem O15_54 : ∀ x : ByteArray, A54 x → O15 54 (g54 x).1 (g54 x).2 = some (q54 x) := fun x hx => add_eq (by intro x y h; simp only [g54, q54, Prod.mk.injEq, List.cons.injEq, D.v.injEq, D.agg.injEq, V.i.injEq, V.s.injEq, V.sl.injEq, V.b.injEq, rowS_inj, rowI_inj, rowB_inj, true_and, and_true] at h; first | rfl | rw [h] | simp only [q54, h]) hx rfl
theorem O14_53 : ∀ x : Int × Int × Int, A53 x → O14 53 (g53 x).1 (g53 x).2 = some (q53 x) := fun x hx => (add_ne (by decide) _ _).trans (O13_53 x hx)
theorem O15_53 : ∀ x : Int × Int × Int, A53 x → O15 53 (g53 x).1 (g53 x).2 = some (q53 x) := fun x hx => (add_ne (by decide) _ _).trans (O14_53 x hx)
def A55 : Int → Prop := fun _ => True
def g55 : Int → List D × Store := fun x => ([.v (.i .i64 x)], [])
def q55 : Int → D × Store := fun x => (.v (.b (countB x)), [])
noncomputable def O16 : Oracle := Oracle.add O15 55 A55 g55 q55
theorem O16_sound : SoundC Try.prog O16 := add_sound O15_sound (fun x hx => sem_fn (k := 0) (ν := n55) O15_sound Try.func55 (by kernel_rfl) mixed (by kernel_rfl) (Nat.le_of_ble_eq_true (by kernel_rfl)) (r55 O15 (evL TT O15 n55 b55 (0)) x (fun a b c => O15_53 (a, b, c) trivial)))
theorem O16_55 : ∀ x : Int, A55 x → O16 55 (g55 x).1 (g55 x).2 = some (q55 x) := fun x hx => add_eq (by intro x y h; simp only [g55, q55, Prod.mk.injEq, List.cons.injEq, D.v.injEq, D.agg.injEq, V.i.injEq, V.s.injEq, V.sl.injEq, V.b.injEq, rowS_inj, rowI_inj, rowB_inj, true_and, and_true] at h; first | rfl | rw [h] | simp only [q55, h]) hx rfl
theorem O16_53 : ∀ x : Int × Int × Int, A53 x → O16 53 (g53 x).1 (g53 x).2 = some (q53 x) := fun x hx => (add_ne (by decide) _ _).trans (O15_53 x hx)
theorem O15_59 : ∀ x : ByteArray, A59 x → O15 59 (g59 x).1 (g59 x).2 = some (q59 x) := fun x hx => (add_ne (by decide) _ _).trans (O14_59 x hx)
theorem O16_59 : ∀ x : ByteArray, A59 x → O16 59 (g59 x).1 (g59 x).2 = some (q59 x) := fun x hx => (add_ne (by decide) _ _).trans (O15_59 x hx)
theorem O16_54 : ∀ x : ByteArray, A54 x → O16 54 (g54 x).1 (g54 x).2 = some (q54 x) := fun x hx => (add_ne (by decide) _ _).trans (O15_54 x hx)
def A31 : S59 → Prop := fun _ => True
def g31 : S59 → List D × Store := fun x => ([x.d], [])
def q31 : S59 → D × Store := fun x => (.v (.i .i64 (cmdF x.a0 x.a1 x.a2 x.a3 x.a4)), [])
noncomputable def O17 : Oracle := Oracle.add O16 31 A31 g31 q31
theorem O17_sound : SoundC Try.prog O17 := add_sound O16_sound (fun x hx => sem_fn (k := 0) (ν := n31) O16_sound Try.func31 (by kernel_rfl) mixed (by kernel_rfl) (Nat.le_of_ble_eq_true (by kernel_rfl)) (r31 O16 (evL TT O16 n31 b31 (0)) x.a0 x.a4 x.a1 x.a2 x.a3 (fun a b c => O16_53 (a, b, c) trivial) (fun a => O16_59 a trivial) (fun a => O16_54 a trivial) (fun a => O16_55 a trivial)))
theorem O17_31 : ∀ x : S59, A31 x → O17 31 (g31 x).1 (g31 x).2 = some (q31 x) := fun x hx => add_eq (by intro x y h; simp only [g31, q31, Prod.mk.injEq, List.cons.injEq, and_true] at h; rw [S59.d_inj _ _ h]) hx rfl
theorem O14_61 : ∀ x : Int, A61 x → O14 61 (g61 x).1 (g61 x).2 = some (q61 x) := fun x hx => (add_ne (by decide) _ _).trans (O13_61 x hx)
theorem O15_61 : ∀ x : Int, A61 x → O15 61 (g61 x).1 (g61 x).2 = some (q61 x) := fun x hx => (add_ne (by decide) _ _).trans (O14_61 x hx)
theorem O16_61 : ∀ x : Int, A61 x → O16 61 (g61 x).1 (g61 x).2 = some (q61 x) := fun x hx => (add_ne (by decide) _ _).trans (O15_61 x hx)
theorem O17_61 : ∀ x : Int, A61 x → O17 61 (g61 x).1 (g61 x).2 = some (q61 x) := fun x hx => (add_ne (by decide) _ _).trans (O16_61 x hx)
def A33 : S63 → Prop := fun _ => True
def g33 : S63 → List D × Store := fun x => ([x.d], [])
def q33 : S63 → D × Store := fun x => (.v (.i .i64 (callF x.a0 x.a1 x.a2 x.a3 x.a4 x.a5 x.a6)), [])
noncomputable def O18 : Oracle := Oracle.add O17 33 A33 g33 q33
theorem O18_sound : SoundC Try.prog O18 := add_sound O17_sound (fun x hx => sem_fn (k := 0) (ν := n33) O17_sound Try.func33 (by kernel_rfl) mixed (by kernel_rfl) (Nat.le_of_ble_eq_true (by kernel_rfl)) (r33 O17 (evL TT O17 n33 b33 (0)) x.a0 x.a1 x.a2 x.a6 x.a3 x.a4 x.a5 (fun a => O17_61 a trivial) (fun k n key field text => O17_31 ⟨k, key, field, text, n⟩ trivial)))
theorem O18_33 : ∀ x : S63, A33 x → O18 33 (g33 x).1 (g33 x).2 = some (q33 x) := fun x hx => add_eq (by intro x y h; simp only [g33, q33, Prod.mk.injEq, List.cons.injEq, and_true] at h; rw [S63.d_inj _ _ h]) hx rfl
theorem O18_61 : ∀ x : Int, A61 x → O18 61 (g61 x).1 (g61 x).2 = some (q61 x) := fun x hx => (add_ne (by decide) _ _).trans (O17_61 x hx)
theorem O17_53 : ∀ x : Int × Int × Int, A53 x → O17 53 (g53 x).1 (g53 x).2 = some (q53 x) := fun x hx => (add_ne (by decide) _ _).trans (O16_53 x hx)
theorem O18_53 : ∀ x : Int × Int × Int, A53 x → O18 53 (g53 x).1 (g53 x).2 = some (q53 x) := fun x hx => (add_ne (by decide) _ _).trans (O17_53 x hx)
def A35 : S67 → Prop := fun _ => True
def g35 : S67 → List D × Store := fun x => ([x.d], [])
def q35 : S67 → D × Store := fun x => (.v (.i .i64 (itemF x.a0 x.a1 x.a2 x.a3 x.a4 x.a5 x.a6 x.a7 x.a8 x.a9)), [])
noncomputable def O19 : Oracle := Oracle.add O18 35 A35 g35 q35
theorem O19_sound : SoundC Try.prog O19 := add_sound O18_sound (fun x hx => sem_fn (k := 0) (ν := n35) O18_sound Try.func35 (by kernel_rfl) mixed (by kernel_rfl) (Nat.le_of_ble_eq_true (by kernel_rfl)) (r35 O18 (evL TT O18 n35 b35 (0)) x.a0 x.a1 x.a2 x.a3 x.a4 x.a5 x.a9 x.a6 x.a7 x.a8 (fun a => O18_61 a trivial) (fun a b c => O18_53 (a, b, c) trivial) (fun cl seq k n key field text => O18_33 ⟨cl, seq, k, key, field, text, n⟩ trivial)))
theorem O19_35 : ∀ x : S67, A35 x → O19 35 (g35 x).1 (g35 x).2 = some (q35 x) := fun x hx => add_eq (by intro x y h; simp only [g35, q35, Prod.mk.injEq, List.cons.injEq, and_true] at h; rw [S67.d_inj _ _ h]) hx rfl
theorem O19_53 : ∀ x : Int × Int × Int, A53 x → O19 53 (g53 x).1 (g53 x).2 = some (q53 x) := fun x hx => (add_ne (by decide) _ _).trans (O18_53 x hx)
def A38 : S37 → Prop := fun x => x.ok
def g38 : S37 → List D × Store := fun x => ([x.d], [])
def q38 : S37 → D × Store := fun x => (.v (.i .i64 (logF x.a0 x.a1 x.a2)), [])
noncomputable def O20 : Oracle := Oracle.add O19 38 A38 g38 q38
theorem O20_sound : SoundC Try.prog O20 := add_sound O19_sound (fun x hx => sem_fn (k := x.a2.length + 1) (ν := n38) O19_sound Try.func38 (by kernel_rfl) mixed (by kernel_rfl) (Nat.le_of_ble_eq_true (by kernel_rfl)) (r38 O19 x.a0 x.a1 x.a2 (fun a b c => O19_53 (a, b, c) trivial) (fun y => O19_35 ⟨y.a0, y.a1, y.a2, y.a3, y.a4, y.a5, y.a6, y.a7, y.a8, y.a9⟩ trivial) (by have : okN 104 x.a2.length := hx.2.2.1; simp only [okN] at this; omega)))
theorem O20_38 : ∀ x : S37, A38 x → O20 38 (g38 x).1 (g38 x).2 = some (q38 x) := fun x hx => add_eq (by intro x y h; simp only [g38, q38, Prod.mk.injEq, List.cons.injEq, and_true] at h; rw [S37.d_inj _ _ h]) hx rfl
def A66 : S37 → Prop := fun x => x.ok
def g66 : S37 → List D × Store := fun x => ([x.d], [])
def q66 : S37 → D × Store := fun x => (.v (.i .i64 (IntKind.i64.wrap (x.a0 + (x.a2.length : Int)))), [])
noncomputable def O21 : Oracle := Oracle.add O20 66 A66 g66 q66
theorem O21_sound : SoundC Try.prog O21 := add_sound O20_sound (fun x hx => sem_fn (k := 0) (ν := n66) O20_sound Try.func66 (by kernel_rfl) mixed (by kernel_rfl) (Nat.le_of_ble_eq_true (by kernel_rfl)) (r66 O20 (evL TT O20 n66 b66 (0)) x.a0 x.a1 x.a2))
theorem O21_66 : ∀ x : S37, A66 x → O21 66 (g66 x).1 (g66 x).2 = some (q66 x) := fun x hx => add_eq (by intro x y h; simp only [g66, q66, Prod.mk.injEq, List.cons.injEq, and_true] at h; rw [S37.d_inj _ _ h]) hx rfl
def A67 : S37 × Int → Prop := fun x => x.1.ok ∧ logF x.1.a0 x.1.a1 x.1.a2 = 0
def g67 : S37 × Int → List D × Store := fun x => ([x.1.d, .v (.i .i64 x.2)], [])
def q67 : S37 × Int → D × Store := fun x => (.v (.i .i64 (termF x.1.a0 x.1.a1 x.1.a2 x.2)), [])
noncomputable def O22 : Oracle := Oracle.add O21 67 A67 g67 q67
theorem O22_sound : SoundC Try.prog O22 := add_sound O21_sound (fun x hx => sem_fn (k := 0) (ν := n67) O21_sound Try.func67 (by kernel_rfl) mixed (by kernel_rfl) (Nat.le_of_ble_eq_true (by kernel_rfl)) (r67 O21 (evL TT O21 n67 b67 (0)) x.1.a0 x.1.a1 x.1.a2 x.2 hx.2 (O21_66 x.1 hx.1)))
theorem O22_67 : ∀ x : S37 × Int, A67 x → O22 67 (g67 x).1 (g67 x).2 = some (q67 x) := fun x hx => add_eq (by rintro ⟨x, p⟩ ⟨y, q⟩ h; simp only [g67, q67, Prod.mk.injEq, List.cons.injEq, D.v.injEq, V.i.injEq, true_and, and_true] at h; rw [S37.d_inj _ _ h.1, h.2]) hx rfl
theorem O21_38 : ∀ x : S37, A38 x → O21 38 (g38 x).1 (g38 x).2 = some (q38 x) := fun x hx => (add_ne (by decide) _ _).trans (O20_38 x hx)
theorem O22_38 : ∀ x : S37, A38 x → O22 38 (g38 x).1 (g38 x).2 = some (q38 x) := fun x hx => (add_ne (by decide) _ _).trans (O21_38 x hx)
theorem O22_66 : ∀ x : S37, A66 x → O22 66 (g66 x).1 (g66 x).2 = some (q66 x) := fun x hx => (add_ne (by decide) _ _).trans (O21_66 x hx)
def A42 : S37 → Prop := fun x => x.ok
def g42 : S37 → List D × Store := fun x => ([x.d], [])
def q42 : S37 → D × Store := fun x => (.tup [.v (.i .i64 (bif logF x.a0 x.a1 x.a2 == 0 then x.a0 + (x.a2.length : Int) else 0)), .v (.i .i64 (bif logF x.a0 x.a1 x.a2 == 0 then lastT x.a1 x.a2 else 0)), .v (.i .i64 (logF x.a0 x.a1 x.a2))], [])
noncomputable def O23 : Oracle := Oracle.add O22 42 A42 g42 q42
theorem O23_sound : SoundC Try.prog O23 := add_sound O22_sound (fun x hx => sem_fn (k := 0) (ν := n42) O22_sound Try.func42 (by kernel_rfl) mixed (by kernel_rfl) (Nat.le_of_ble_eq_true (by kernel_rfl)) (r42 O22 (evL TT O22 n42 b42 (0)) x.a0 x.a1 x.a2 (O22_38 x hx) (O22_66 x hx) (fun h => O22_67 (x, _) ⟨hx, h⟩)))
theorem O23_42 : ∀ x : S37, A42 x → O23 42 (g42 x).1 (g42 x).2 = some (q42 x) := fun x hx => add_eq (by intro x y h; simp only [g42, q42, Prod.mk.injEq, List.cons.injEq, and_true] at h; rw [S37.d_inj _ _ h]) hx rfl
theorem O2_37 : ∀ x : S37, A37 x → O2 37 (g37 x).1 (g37 x).2 = some (q37 x) := fun x hx => (add_ne (by decide) _ _).trans (O1_37 x hx)
theorem O3_37 : ∀ x : S37, A37 x → O3 37 (g37 x).1 (g37 x).2 = some (q37 x) := fun x hx => (add_ne (by decide) _ _).trans (O2_37 x hx)
theorem O4_37 : ∀ x : S37, A37 x → O4 37 (g37 x).1 (g37 x).2 = some (q37 x) := fun x hx => (add_ne (by decide) _ _).trans (O3_37 x hx)
theorem O5_37 : ∀ x : S37, A37 x → O5 37 (g37 x).1 (g37 x).2 = some (q37 x) := fun x hx => (add_ne (by decide) _ _).trans (O4_37 x hx)
theorem O6_37 : ∀ x : S37, A37 x → O6 37 (g37 x).1 (g37 x).2 = some (q37 x) := fun x hx => (add_ne (by decide) _ _).trans (O5_37 x hx)
theorem O7_37 : ∀ x : S37, A37 x → O7 37 (g37 x).1 (g37 x).2 = some (q37 x) := fun x hx => (add_ne (by decide) _ _).trans (O6_37 x hx)
theorem O8_37 : ∀ x : S37, A37 x → O8 37 (g37 x).1 (g37 x).2 = some (q37 x) := fun x hx => (add_ne (by decide) _ _).trans (O7_37 x hx)
theorem O9_37 : ∀ x : S37, A37 x → O9 37 (g37 x).1 (g37 x).2 = some (q37 x) := fun x hx => (add_ne (by decide) _ _).trans (O8_37 x hx)
theorem O10_37 : ∀ x : S37, A37 x → O10 37 (g37 x).1 (g37 x).2 = some (q37 x) := fun x hx => (add_ne (by decide) _ _).trans (O9_37 x hx)
theorem O11_37 : ∀ x : S37, A37 x → O11 37 (g37 x).1 (g37 x).2 = some (q37 x) := fun x hx => (add_ne (by decide) _ _).trans (O10_37 x hx)
theorem O12_37 : ∀ x : S37, A37 x → O12 37 (g37 x).1 (g37 x).2 = some (q37 x) := fun x hx => (add_ne (by decide) _ _).trans (O11_37 x hx)
theorem O13_37 : ∀ x : S37, A37 x → O13 37 (g37 x).1 (g37 x).2 = some (q37 x) := fun x hx => (add_ne (by decide) _ _).trans (O12_37 x hx)
theorem O14_37 : ∀ x : S37, A37 x → O14 37 (g37 x).1 (g37 x).2 = some (q37 x) := fun x hx => (add_ne (by decide) _ _).trans (O13_37 x hx)
theorem O15_37 : ∀ x : S37, A37 x → O15 37 (g37 x).1 (g37 x).2 = some (q37 x) := fun x hx => (add_ne (by decide) _ _).trans (O14_37 x hx)
theorem O16_37 : ∀ x : S37, A37 x → O16 37 (g37 x).1 (g37 x).2 = some (q37 x) := fun x hx => (add_ne (by decide) _ _).trans (O15_37 x hx)
theorem O17_37 : ∀ x : S37, A37 x → O17 37 (g37 x).1 (g37 x).2 = some (q37 x) := fun x hx => (add_ne (by decide) _ _).trans (O16_37 x hx)
theorem O18_37 : ∀ x : S37, A37 x → O18 37 (g37 x).1 (g37 x).2 = some (q37 x) := fun x hx => (add_ne (by decide) _ _).trans (O17_37 x hx)
theorem O19_37 : ∀ x : S37, A37 x → O19 37 (g37 x).1 (g37 x).2 = some (q37 x) := fun x hx => (add_ne (by decide) _ _).trans (O18_37 x hx)
theorem O20_37 : ∀ x : S37, A37 x → O20 37 (g37 x).1 (g37 x).2 = some (q37 x) := fun x hx => (add_ne (by decide) _ _).trans (O19_37 x hx)
theorem O21_37 : ∀ x : S37, A37 x → O21 37 (g37 x).1 (g37 x).2 = some (q37 x) := fun x hx => (add_ne (by decide) _ _).trans (O20_37 x hx)
theorem O22_37 : ∀ x : S37, A37 x → O22 37 (g37 x).1 (g37 x).2 = some (q37 x) := fun x hx => (add_ne (by decide) _ _).trans (O21_37 x hx)
theorem O23_37 : ∀ x : S37, A37 x → O23 37 (g37 x).1 (g37 x).2 = some (q37 x) := fun x hx => (add_ne (by decide) _ _).trans (O22_37 x hx)
theorem O12_41 : ∀ x : S37, A41 x → O12 41 (g41 x).1 (g41 x).2 = some (q41 x) := fun x hx => (add_ne (by decide) _ _).trans (O11_41 x hx)
theorem O13_41 : ∀ x : S37, A41 x → O13 41 (g41 x).1 (g41 x).2 = some (q41 x) := fun x hx => (add_ne (by decide) _ _).trans (O12_41 x hx)
theorem O14_41 : ∀ x : S37, A41 x → O14 41 (g41 x).1 (g41 x).2 = some (q41 x) := fun x hx => (add_ne (by decide) _ _).trans (O13_41 x hx)
theorem O15_41 : ∀ x : S37, A41 x → O15 41 (g41 x).1 (g41 x).2 = some (q41 x) := fun x hx => (add_ne (by decide) _ _).trans (O14_41 x hx)
theorem O16_41 : ∀ x : S37, A41 x → O16 41 (g41 x).1 (g41 x).2 = some (q41 x) := fun x hx => (add_ne (by decide) _ _).trans (O15_41 x hx)
theorem O17_41 : ∀ x : S37, A41 x → O17 41 (g41 x).1 (g41 x).2 = some (q41 x) := fun x hx => (add_ne (by decide) _ _).trans (O16_41 x hx)
theorem O18_41 : ∀ x : S37, A41 x → O18 41 (g41 x).1 (g41 x).2 = some (q41 x) := fun x hx => (add_ne (by decide) _ _).trans (O17_41 x hx)
theorem O19_41 : ∀ x : S37, A41 x → O19 41 (g41 x).1 (g41 x).2 = some (q41 x) := fun x hx => (add_ne (by decide) _ _).trans (O18_41 x hx)
theorem O20_41 : ∀ x : S37, A41 x → O20 41 (g41 x).1 (g41 x).2 = some (q41 x) := fun x hx => (add_ne (by decide) _ _).trans (O19_41 x hx)
theorem O21_41 : ∀ x : S37, A41 x → O21 41 (g41 x).1 (g41 x).2 = some (q41 x) := fun x hx => (add_ne (by decide) _ _).trans (O20_41 x hx)
theorem O22_41 : ∀ x : S37, A41 x → O22 41 (g41 x).1 (g41 x).2 = some (q41 x) := fun x hx => (add_ne (by decide) _ _).trans (O21_41 x hx)
theorem O23_41 : ∀ x : S37, A41 x → O23 41 (g41 x).1 (g41 x).2 = some (q41 x) := fun x hx => (add_ne (by decide) _ _).trans (O22_41 x hx)
def A14 : S37 → Prop := fun x => x.ok
def g14 : S37 → List D × Store := fun x => ([x.d], [])
def q14 : S37 → D × Store := fun x => (.v (.b true), [])
noncomputable def O24 : Oracle := Oracle.add O23 14 A14 g14 q14
theorem O24_sound : SoundC Try.prog O24 := add_sound O23_sound (fun x hx => sem_fn (k := 0) (ν := n14) O23_sound Try.func14 (by kernel_rfl) mixed (by kernel_rfl) (Nat.le_of_ble_eq_true (by kernel_rfl)) (r14 O23 (evL TT O23 n14 b14 (0)) x.a0 x.a1 x.a2 (O23_37 x hx) (O23_41 x hx) (O23_42 x hx)))
theorem O24_14 : ∀ x : S37, A14 x → O24 14 (g14 x).1 (g14 x).2 = some (q14 x) := fun x hx => add_eq (by intro x y h; simp only [g14, q14, Prod.mk.injEq, List.cons.injEq, and_true] at h; rw [S37.d_inj _ _ h]) hx rfl
theorem sem (rs : List (List V)) (h : HasAll Try.prog [38] rs) : Mx.Sem Try.prog 14 (argsD Try.prog [38] rs) [] (.v (.b true)) [] := by
  obtain ⟨r, _, rfl, h0, h1⟩ := h.cons
  obtain rfl := h1.nil
  obtain ⟨x, rfl, hx⟩ := S37.of38 h0
  rw [argsD_one, argD_struct Try.underlying38]
  exact O24_sound _ _ _ _ _ (O24_14 x hx)
end CLedgerLasts
end Go.Proofs.Ytiicnbdolakdgaa
