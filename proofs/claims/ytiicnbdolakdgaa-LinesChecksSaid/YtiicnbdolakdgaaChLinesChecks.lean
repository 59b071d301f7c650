/- Part of the proof by the machine Mx (plain data in place of memory): ChLinesChecks. -/
import Derived.Test.YtiicnbdolakdgaaMxZk
import Derived.Test.YtiicnbdolakdgaaStr
import Derived.Test.YtiicnbdolakdgaaG0
import Derived.Test.YtiicnbdolakdgaaG1
import Derived.Test.YtiicnbdolakdgaaG2
import Derived.Test.YtiicnbdolakdgaaH0
import Derived.Test.YtiicnbdolakdgaaG3
set_option linter.unusedVariables false
set_option linter.unusedSimpArgs false
set_option linter.constructorNameAsVariable false
set_option linter.unnecessarySimpa false
namespace Go.Proofs.Ytiicnbdolakdgaa
open Go Go.Mx Go.Proofs
namespace CLinesChecks
def A62 : Int → Prop := fun _ => True
def g62 : Int → List D × Store := fun x => ([.v (.i .i64 x)], [])
def q62 : Int → D × Store := fun x => (.tup [.v (.b (withNodeB x)), .v (.b (withPickB x))], [])
noncomputable def O1 : Oracle := Oracle.add noC 62 A62 g62 q62
theorem O1_sound : SoundC Try.prog O1 := add_sound (noC_sound _) (fun x hx => sem_fn (k := 0) (ν := n62) (noC_sound _) Try.func62 (by kernel_rfl) mixed (by kernel_rfl) (Nat.le_of_ble_eq_true (by kernel_rfl)) (r62 noC (evL TT noC n62 b62 (0)) x))
theorem O1_62 : ∀ x : Int, A62 x → O1 62 (g62 x).1 (g62 x).2 = some (q62 x) := fun x hx => add_eq (by intro x y h; simp only [g62, q62, Prod.mk.injEq, List.cons.injEq, D.v.injEq, D.agg.injEq, V.i.injEq, V.s.injEq, V.sl.injEq, V.b.injEq, rowS_inj, rowI_inj, rowB_inj, true_and, and_true] at h; first | rfl | rw [h] | simp only [q62, h]) hx rfl
def A60 : Int → Prop := fun _ => True
def g60 : Int → List D × Store := fun x => ([.v (.i .i64 x)], [])
def q60 : Int → D × Store := fun x => (.v (.b (numB x)), [])
noncomputable def O2 : Oracle := Oracle.add O1 60 A60 g60 q60
theorem O2_sound : SoundC Try.prog O2 := add_sound O1_sound (fun x hx => sem_fn (k := 0) (ν := n60) O1_sound Try.func60 (by kernel_rfl) mixed (by kernel_rfl) (Nat.le_of_ble_eq_true (by kernel_rfl)) (r60 O1 (evL TT O1 n60 b60 (0)) x ))
theorem O2_60 : ∀ x : Int, A60 x → O2 60 (g60 x).1 (g60 x).2 = some (q60 x) := fun x hx => add_eq (by intro x y h; simp only [g60, q60, Prod.mk.injEq, List.cons.injEq, D.v.injEq, D.agg.injEq, V.i.injEq, V.s.injEq, V.sl.injEq, V.b.injEq, rowS_inj, rowI_inj, rowB_inj, true_and, and_true] at h; first | rfl | rw [h] | simp only [q60, h]) hx rfl
def A56 : ByteArray → Prop := fun _ => True
def g56 : ByteArray → List D × Store := fun x => ([.v (.s x)], [])
def q56 : ByteArray → D × Store := fun x => (.v (.b (fieldB x)), [])
noncomputable def O3 : Oracle := Oracle.add O2 56 A56 g56 q56
theorem O3_sound : SoundC Try.prog O3 := add_sound O2_sound (fun x hx => sem_fn (k := 0) (ν := n56) O2_sound Try.func56 (by kernel_rfl) mixed (by kernel_rfl) (Nat.le_of_ble_eq_true (by kernel_rfl)) (r56 O2 (evL TT O2 n56 b56 (0)) x ))
theorem O3_56 : ∀ x : ByteArray, A56 x → O3 56 (g56 x).1 (g56 x).2 = some (q56 x) := fun x hx => add_eq (by intro x y h; simp only [g56, q56, Prod.mk.injEq, List.cons.injEq, D.v.injEq, D.agg.injEq, V.i.injEq, V.s.injEq, V.sl.injEq, V.b.injEq, rowS_inj, rowI_inj, rowB_inj, true_and, and_true] at h; first | rfl | rw [h] | simp only [q56, h]) hx rfl
def A57 : ByteArray → Prop := fun _ => True
def g57 : ByteArray → List D × Store := fun x => ([.v (.s x)], [])
def q57 : ByteArray → D × Store := fun x => (.v (.b (textB x)), [])
noncomputable def O4 : Oracle := Oracle.add O3 57 A57 g57 q57
theorem O4_sound : SoundC Try.prog O4 := add_sound O3_sound (fun x hx => sem_fn (k := 0) (ν := n57) O3_sound Try.func57 (by kernel_rfl) mixed (by kernel_rfl) (Nat.le_of_ble_eq_true (by kernel_rfl)) (r57 O3 (evL TT O3 n57 b57 (0)) x ))
theorem O4_57 : ∀ x : ByteArray, A57 x → O4 57 (g57 x).1 (g57 x).2 = some (q57 x) := fun x hx => add_eq (by intro x y h; simp only [g57, q57, Prod.mk.injEq, List.cons.injEq, D.v.injEq, D.agg.injEq, V.i.injEq, V.s.injEq, V.sl.injEq, V.b.injEq, rowS_inj, rowI_inj, rowB_inj, true_and, and_true] at h; first | rfl | rw [h] | simp only [q57, h]) hx rfl
def A58 : Int → Prop := fun _ => True
def g58 : Int → List D × Store := fun x => ([.v (.i .i64 x)], [])
def q58 : Int → D × Store := fun x => (.v (.b (countB x)), [])
noncomputable def O5 : Oracle := Oracle.add O4 58 A58 g58 q58
theorem O5_sound : SoundC Try.prog O5 := add_sound O4_sound (fun x hx => sem_fn (k := 0) (ν := n58) O4_sound Try.func58 (by kernel_rfl) mixed (by kernel_rfl) (Nat.le_of_ble_eq_true (by kernel_rfl)) (r58 O4 (evL TT O4 n58 b58 (0)) x ))
theorem O5_58 : ∀ x : Int, A58 x → O5 58 (g58 x).1 (g58 x).2 = some (q58 x) := fun x hx => add_eq (by intro x y h; simp only [g58, q58, Prod.mk.injEq, List.cons.injEq, D.v.injEq, D.agg.injEq, V.i.injEq, V.s.injEq, V.sl.injEq, V.b.injEq, rowS_inj, rowI_inj, rowB_inj, true_and, and_true] at h; first | rfl | rw [h] | simp only [q58, h]) hx rfl
theorem O4_56 : ∀ x : ByteArray, A56 x → O4 56 (g56 x).1 (g56 x).2 = some (q56 x) := fun x hx => (add_ne (by decide) _ _).trans (O3_56 x hx)
theorem O5_56 : ∀ x : ByteArray, A56 x → O5 56 (g56 x).1 (g56 x).2 = some (q56 x) := fun x hx => (add_ne (by decide) _ _).trans (O4_56 x hx)
theorem O5_57 : ∀ x : ByteArray, A57 x → O5 57 (g57 x).1 (g57 x).2 = some (q57 x) := fun x hx => (add_ne (by decide) _ _).trans (O4_57 x hx)
def A30 : S59 → Prop := fun _ => True
def g30 : S59 → List D × Store := fun x => ([x.d], [])
def q30 : S59 → D × Store := fun x => (.v (.i .i64 (cmdF x.a0 x.a1 x.a2 x.a3 x.a4)), [])
noncomputable def O6 : Oracle := Oracle.add O5 30 A30 g30 q30
theorem O6_sound : SoundC Try.prog O6 := add_sound O5_sound (fun x hx => sem_fn (k := 0) (ν := n30) O5_sound Try.func30 (by kernel_rfl) mixed (by kernel_rfl) (Nat.le_of_ble_eq_true (by kernel_rfl)) (r30 O5 (evL TT O5 n30 b30 (0)) x.a0 x.a4 x.a1 x.a2 x.a3 (fun a => O5_56 a trivial) (fun a => O5_57 a trivial) (fun a => O5_58 a trivial)))
theorem O6_30 : ∀ x : S59, A30 x → O6 30 (g30 x).1 (g30 x).2 = some (q30 x) := fun x hx => add_eq (by intro x y h; simp only [g30, q30, Prod.mk.injEq, List.cons.injEq, and_true] at h; rw [S59.d_inj _ _ h]) hx rfl
theorem O3_60 : ∀ x : Int, A60 x → O3 60 (g60 x).1 (g60 x).2 = some (q60 x) := fun x hx => (add_ne (by decide) _ _).trans (O2_60 x hx)
theorem O4_60 : ∀ x : Int, A60 x → O4 60 (g60 x).1 (g60 x).2 = some (q60 x) := fun x hx => (add_ne (by decide) _ _).trans (O3_60 x hx)
theorem O5_60 : ∀ x : Int, A60 x → O5 60 (g60 x).1 (g60 x).2 = some (q60 x) := fun x hx => (add_ne (by decide) _ _).trans (O4_60 x hx)
theorem O6_60 : ∀ x : Int, A60 x → O6 60 (g60 x).1 (g60 x).2 = some (q60 x) := fun x hx => (add_ne (by decide) _ _).trans (O5_60 x hx)
def A32 : S63 → Prop := fun _ => True
def g32 : S63 → List D × Store := fun x => ([x.d], [])
def q32 : S63 → D × Store := fun x => (.v (.i .i64 (callF x.a0 x.a1 x.a2 x.a3 x.a4 x.a5 x.a6)), [])
noncomputable def O7 : Oracle := Oracle.add O6 32 A32 g32 q32
theorem O7_sound : SoundC Try.prog O7 := add_sound O6_sound (fun x hx => sem_fn (k := 0) (ν := n32) O6_sound Try.func32 (by kernel_rfl) mixed (by kernel_rfl) (Nat.le_of_ble_eq_true (by kernel_rfl)) (r32 O6 (evL TT O6 n32 b32 (0)) x.a0 x.a1 x.a2 x.a6 x.a3 x.a4 x.a5 (fun a => O6_60 a trivial) (fun k n key field text => O6_30 ⟨k, key, field, text, n⟩ trivial)))
theorem O7_32 : ∀ x : S63, A32 x → O7 32 (g32 x).1 (g32 x).2 = some (q32 x) := fun x hx => add_eq (by intro x y h; simp only [g32, q32, Prod.mk.injEq, List.cons.injEq, and_true] at h; rw [S63.d_inj _ _ h]) hx rfl
theorem O2_62 : ∀ x : Int, A62 x → O2 62 (g62 x).1 (g62 x).2 = some (q62 x) := fun x hx => (add_ne (by decide) _ _).trans (O1_62 x hx)
theorem O3_62 : ∀ x : Int, A62 x → O3 62 (g62 x).1 (g62 x).2 = some (q62 x) := fun x hx => (add_ne (by decide) _ _).trans (O2_62 x hx)
theorem O4_62 : ∀ x : Int, A62 x → O4 62 (g62 x).1 (g62 x).2 = some (q62 x) := fun x hx => (add_ne (by decide) _ _).trans (O3_62 x hx)
theorem O5_62 : ∀ x : Int, A62 x → O5 62 (g62 x).1 (g62 x).2 = some (q62 x) := fun x hx => (add_ne (by decide) _ _).trans (O4_62 x hx)
theorem O6_62 : ∀ x : Int, A62 x → O6 62 (g62 x).1 (g62 x).2 = some (q62 x) := fun x hx => (add_ne (by decide) _ _).trans (O5_62 x hx)
theorem O7_62 : ∀ x : Int, A62 x → O7 62 (g62 x).1 (g62 x).2 = some (q62 x) := fun x hx => (add_ne (by decide) _ _).trans (O6_62 x hx)
def A39 : S74 → Prop := fun _ => True
def g39 : S74 → List D × Store := fun x => ([x.d], [])
def q39 : S74 → D × Store := fun x => (.v (.i .i64 (actF x.a0 x.a1 x.a2 x.a3 x.a4 x.a5 x.a6 x.a7 x.a8 x.a9)), [])
noncomputable def O8 : Oracle := Oracle.add O7 39 A39 g39 q39
theorem O8_sound : SoundC Try.prog O8 := add_sound O7_sound (fun x hx => sem_fn (k := 0) (ν := n39) O7_sound Try.func39 (by kernel_rfl) mixed (by kernel_rfl) (Nat.le_of_ble_eq_true (by kernel_rfl)) (r39 O7 (evL TT O7 n39 b39 (0)) x.a0 x.a1 x.a2 x.a3 x.a4 x.a5 x.a9 x.a6 x.a7 x.a8 (fun a => O7_62 a trivial) (fun cl seq k n key field text => O7_32 ⟨cl, seq, k, key, field, text, n⟩ trivial)))
theorem O8_39 : ∀ x : S74, A39 x → O8 39 (g39 x).1 (g39 x).2 = some (q39 x) := fun x hx => add_eq (by intro x y h; simp only [g39, q39, Prod.mk.injEq, List.cons.injEq, and_true] at h; rw [S74.d_inj _ _ h]) hx rfl
def A53 : Int × Int × Int → Prop := fun _ => True
def g53 : Int × Int × Int → List D × Store := fun x => ([.v (.i .i64 x.1), .v (.i .i64 x.2.1), .v (.i .i64 x.2.2)], [])
def q53 : Int × Int × Int → D × Store := fun x => (.v (.b (inB x.1 x.2.1 x.2.2)), [])
noncomputable def O9 : Oracle := Oracle.add O8 53 A53 g53 q53
theorem O9_sound : SoundC Try.prog O9 := add_sound O8_sound (fun x hx => sem_fn (k := 0) (ν := n53) O8_sound Try.func53 (by kernel_rfl) mixed (by kernel_rfl) (Nat.le_of_ble_eq_true (by kernel_rfl)) (r53 O8 (evL TT O8 n53 b53 (0)) x.1 x.2.1 x.2.2))
theorem O9_53 : ∀ x : Int × Int × Int, A53 x → O9 53 (g53 x).1 (g53 x).2 = some (q53 x) := fun x hx => add_eq (by intro x y h; simp only [g53, q53, Prod.mk.injEq, List.cons.injEq, D.v.injEq, D.agg.injEq, V.i.injEq, V.s.injEq, V.sl.injEq, V.b.injEq, rowS_inj, rowI_inj, rowB_inj, true_and, and_true] at h; first | rfl | rw [h] | simp only [q53, h]) hx rfl
def A63 : Int → Prop := fun _ => True
def g63 : Int → List D × Store := fun x => ([.v (.i .i64 x)], [])
def q63 : Int → D × Store := fun x => (.v (.b (withNodeB x)), [])
noncomputable def O10 : Oracle := Oracle.add O9 63 A63 g63 q63
theorem O10_sound : SoundC Try.prog O10 := add_sound O9_sound (fun x hx => sem_fn (k := 0) (ν := n63) O9_sound Try.func63 (by kernel_rfl) mixed (by kernel_rfl) (Nat.le_of_ble_eq_true (by kernel_rfl)) (r63 O9 (evL TT O9 n63 b63 (0)) x (fun a b c => O9_53 (a, b, c) trivial)))
theorem O10_63 : ∀ x : Int, A63 x → O10 63 (g63 x).1 (g63 x).2 = some (q63 x) := fun x hx => add_eq (by intro x y h; simp only [g63, q63, Prod.mk.injEq, List.cons.injEq, D.v.injEq, D.agg.injEq, V.i.injEq, V.s.injEq, V.sl.injEq, V.b.injEq, rowS_inj, rowI_inj, rowB_inj, true_and, and_true] at h; first | rfl | rw [h] | simp only [q63, h]) hx rfl
theorem O10_53 : ∀ x : Int × Int × Int, A53 x → O10 53 (g53 x).1 (g53 x).2 = some (q53 x) := fun x hx => (add_ne (by decide) _ _).trans (O9_53 x hx)
def A64 : Int → Prop := fun _ => True
def g64 : Int → List D × Store := fun x => ([.v (.i .i64 x)], [])
def q64 : Int → D × Store := fun x => (.v (.b (withPickB x)), [])
noncomputable def O11 : Oracle := Oracle.add O10 64 A64 g64 q64
theorem O11_sound : SoundC Try.prog O11 := add_sound O10_sound (fun x hx => sem_fn (k := 0) (ν := n64) O10_sound Try.func64 (by kernel_rfl) mixed (by kernel_rfl) (Nat.le_of_ble_eq_true (by kernel_rfl)) (r64 O10 (evL TT O10 n64 b64 (0)) x (fun a b c => O10_53 (a, b, c) trivial)))
theorem O11_64 : ∀ x : Int, A64 x → O11 64 (g64 x).1 (g64 x).2 = some (q64 x) := fun x hx => add_eq (by intro x y h; simp only [g64, q64, Prod.mk.injEq, List.cons.injEq, D.v.injEq, D.agg.injEq, V.i.injEq, V.s.injEq, V.sl.injEq, V.b.injEq, rowS_inj, rowI_inj, rowB_inj, true_and, and_true] at h; first | rfl | rw [h] | simp only [q64, h]) hx rfl
theorem O11_53 : ∀ x : Int × Int × Int, A53 x → O11 53 (g53 x).1 (g53 x).2 = some (q53 x) := fun x hx => (add_ne (by decide) _ _).trans (O10_53 x hx)
def A61 : Int → Prop := fun _ => True
def g61 : Int → List D × Store := fun x => ([.v (.i .i64 x)], [])
def q61 : Int → D × Store := fun x => (.v (.b (numB x)), [])
noncomputable def O12 : Oracle := Oracle.add O11 61 A61 g61 q61
theorem O12_sound : SoundC Try.prog O12 := add_sound O11_sound (fun x hx => sem_fn (k := 0) (ν := n61) O11_sound Try.func61 (by kernel_rfl) mixed (by kernel_rfl) (Nat.le_of_ble_eq_true (by kernel_rfl)) (r61 O11 (evL TT O11 n61 b61 (0)) x (fun a b c => O11_53 (a, b, c) trivial)))
theorem O12_61 : ∀ x : Int, A61 x → O12 61 (g61 x).1 (g61 x).2 = some (q61 x) := fun x hx => add_eq (by intro x y h; simp only [g61, q61, Prod.mk.injEq, List.cons.injEq, D.v.injEq, D.agg.injEq, V.i.injEq, V.s.injEq, V.sl.injEq, V.b.injEq, rowS_inj, rowI_inj, rowB_inj, true_and, and_true] at h; first | rfl | rw [h] | simp only [q61, h]) hx rfl
theorem O12_53 : ∀ x : Int × Int × Int, A53 x → O12 53 (g53 x).1 (g53 x).2 = some (q53 x) := fun x hx => (add_ne (by decide) _ _).trans (O11_53 x hx)
def A59 : ByteArray → Prop := fun _ => True
def g59 : ByteArray → List D × Store := fun x => ([.v (.s x)], [])
def q59 : ByteArray → D × Store := fun x => (.v (.b (fieldB x)), [])
noncomputable def O13 : Oracle := Oracle.add O12 59 A59 g59 q59
theorem O13_sound : SoundC Try.prog O13 := add_sound O12_sound (fun x hx => sem_fn (k := 0) (ν := n59) O12_sound Try.func59 (by kernel_rfl) mixed (by kernel_rfl) (Nat.le_of_ble_eq_true (by kernel_rfl)) (r59 O12 (evL TT O12 n59 b59 (0)) x (fun a b c => O12_53 (a, b, c) trivial)))
theorem O13_59 : ∀ x : ByteArray, A59 x → O13 59 (g59 x).1 (g59 x).2 = some (q59 x) := fun x hx => add_eq (by intro x y h; simp only [g59, q59, Prod.mk.injEq, List.cons.injEq, D.v.injEq, D.agg.injEq, V.i.injEq, V.s.injEq, V.sl.injEq, V.b.injEq, rowS_inj, rowI_inj, rowB_inj, true_and, and_true] at h; first | rfl | rw [h] | simp only [q59, h]) hx rfl
def A54 : ByteArray → Prop := fun _ => True
def g54 : ByteArray → List D × Store := fun x => ([.v (.s x)], [])
def q54 : ByteArray → D × Store := fun x => (.v (.b (textB x)), [])
noncomputable def O14 : Oracle := Oracle.add O13 54 A54 g54 q54
theorem O14_sound : SoundC Try.prog O14 := add_sound O13_sound (fun x hx => sem_fn (k := 0) (ν := n54) O13_sound Try.func54 (by kernel_rfl) mixed (by kernel_rfl) (Nat.le_of_ble_eq_true (by kernel_rfl)) (r54 O13 (evL TT O13 n54 b54 (0)) x ))
theorem O14_54 : ∀ x : ByteArray, A54 x → O14 54 (g54 x).1 (g54 x).2 = some (q54 x) := fun x hx => add_eq (by intro x y h; simp only [g54, q54, Prod.mk.injEq, List.cons.injEq, D.v.injEq, D.agg.injEq, V.i.injEq, V.s.injEq, V.sl.injEq, V.b.injEq, rowS_inj, rowI_inj, rowB_inj, true_and, and_true] at h; first | rfl | rw [h] | simp only [q54, h]) hx rfl
theorem O13_53 : ∀ x : Int × Int × Int, A53 x → O13 53 (g53 x).1 (g53 x).2 = some (q53 x) := fun x hx => (add_ne (by decide) _ _).trans (O12_53 x hx)
theorem O14_53 : ∀ x : Int × Int × Int, A53 x → O14 53 (g53 x).1 (g53 x).2 = some (q53 x) := fun x hx => (add_ne (by decide) _ _).trans (O13_53 x hx)
def A55 : Int → Prop := fun _ => True
def g55 : Int → List D × Store := fun x => ([.v (.i .i64 x)], [])
def q55 : Int → D × Store := fun x => (.v (.b (countB x)), [])
noncomputable def O15 : Oracle := Oracle.add O14 55 A55 g55 q55
theorem O15_sound : SoundC Try.prog O15 := add_sound O14_sound (fun x hx => sem_fn (k := 0) (ν := n55) O14_sound Try.func55 (by kernel_rfl) mixed (by kernel_rfl) (Nat.le_of_ble_eq_true (by kernel_rfl)) (r55 O14 (evL TT O14 n55 b55 (0)) x (fun a b c => O14_53 (a, b, c) trivial)))
theorem O15_55 : ∀ x : Int, A55 x → O15 55 (g55 x).1 (g55 x).2 = some (q55 x) := fun x hx => add_eq (by intro x y h; simp only [g55, q55, Prod.mk.injEq, List.cons.injEq, D.v.injEq, D.agg.injEq, V.i.injEq, V.s.injEq, V.sl.injEq, V.b.injEq, rowS_inj, rowI_inj, rowB_inj, true_and, and_true] at h; first | rfl | rw [h] | simp only [q55, h]) hx rfl
theorem O15_53 : ∀ x : Int × Int × Int, A53 x → O15 53 (g53 x).1 (g53 x).2 = some (q53 x) := fun x hx => (add_ne (by decide) _ _).trans (O14_53 x hx)
theorem O14_59 : ∀ x : ByteArray, A59 x → O14 59 (g59 x).1 (g59 x).2 = some (q59 x) := fun x hx => (add_ne (by decide) _ _).trans (O13_59 x hx)
theorem O15_59 : ∀ x : ByteArray, A59 x → O15 59 (g59 x).1 (g59 x).2 = some (q59 x) := fun x hx => (add_ne (by decide) _ _).trans (O14_59 x hx)
theorem O15_54 : ∀ x : ByteArray, A54 x → O15 54 (g54 x).1 (g54 x).2 = some (q54 x) := fun x hx => (add_ne (by decide) _ _).trans (O14_54 x hx)
def A31 : S59 → Prop := fun _ => True
def g31 : S59 → List D × Store := fun x => ([x.d], [])
def q31 : S59 → D × Store := fun x => (.v (.i .i64 (cmdF x.a0 x.a1 x.a2 x.a3 x.a4)), [])
noncomputable def O16 : Oracle := Oracle.add O15 31 A31 g31 q31
theorem O16_sound : SoundC Try.prog O16 := add_sound O15_sound (fun x hx => sem_fn (k := 0) (ν := n31) O15_sound Try.func31 (by kernel_rfl) mixed (by kernel_rfl) (Nat.le_of_ble_eq_true (by kernel_rfl)) (r31 O15 (evL TT O15 n31 b31 (0)) x.a0 x.a4 x.a1 x.a2 x.a3 (fun a b c => O15_53 (a, b, c) trivial) (fun a => O15_59 a trivial) (fun a => O15_54 a trivial) (fun a => O15_55 a trivial)))
theorem O16_31 : ∀ x : S59, A31 x → O16 31 (g31 x).1 (g31 x).2 = some (q31 x) := fun x hx => add_eq (by intro x y h; simp only [g31, q31, Prod.mk.injEq, List.cons.injEq, and_true] at h; rw [S59.d_inj _ _ h]) hx rfl
theorem O13_61 : ∀ x : Int, A61 x → O13 61 (g61 x).1 (g61 x).2 = some (q61 x) := fun x hx => (add_ne (by decide) _ _).trans (O12_61 x hx)
theorem O14_61 : ∀ x : Int, A61 x → O14 61 (g61 x).1 (g61 x).2 = some (q61 x) := fun x hx => (add_ne (by decide) _ _).trans (O13_61 x hx)
theorem O15_61 : ∀ x : Int, A61 x → O15 61 (g61 x).1 (g61 x).2 = some (q61 x) := fun x hx => (add_ne (by decide) _ _).trans (O14_61 x hx)
theorem O16_61 : ∀ x : Int, A61 x → O16 61 (g61 x).1 (g61 x).2 = some (q61 x) := fun x hx => (add_ne (by decide) _ _).trans (O15_61 x hx)
def A33 : S63 → Prop := fun _ => True
def g33 : S63 → List D × Store := fun x => ([x.d], [])
def q33 : S63 → D × Store := fun x => (.v (.i .i64 (callF x.a0 x.a1 x.a2 x.a3 x.a4 x.a5 x.a6)), [])
noncomputable def O17 : Oracle := Oracle.add O16 33 A33 g33 q33
theorem O17_sound : SoundC Try.prog O17 := add_sound O16_sound (fun x hx => sem_fn (k := 0) (ν := n33) O16_sound Try.func33 (by kernel_rfl) mixed (by kernel_rfl) (Nat.le_of_ble_eq_true (by kernel_rfl)) (r33 O16 (evL TT O16 n33 b33 (0)) x.a0 x.a1 x.a2 x.a6 x.a3 x.a4 x.a5 (fun a => O16_61 a trivial) (fun k n key field text => O16_31 ⟨k, key, field, text, n⟩ trivial)))
theorem O17_33 : ∀ x : S63, A33 x → O17 33 (g33 x).1 (g33 x).2 = some (q33 x) := fun x hx => add_eq (by intro x y h; simp only [g33, q33, Prod.mk.injEq, List.cons.injEq, and_true] at h; rw [S63.d_inj _ _ h]) hx rfl
theorem O16_53 : ∀ x : Int × Int × Int, A53 x → O16 53 (g53 x).1 (g53 x).2 = some (q53 x) := fun x hx => (add_ne (by decide) _ _).trans (O15_53 x hx)
theorem O17_53 : ∀ x : Int × Int × Int, A53 x → O17 53 (g53 x).1 (g53 x).2 = some (q53 x) := fun x hx => (add_ne (by decide) _ _).trans (O16_53 x hx)
theorem O11_63 : ∀ x : Int, A63 x → O11 63 (g63 x).1 (g63 x).2 = some (q63 x) := fun x hx => (add_ne (by decide) _ _).trans (O10_63 x hx)
theorem O12_63 : ∀ x : Int, A63 x → O12 63 (g63 x).1 (g63 x).2 = some (q63 x) := fun x hx => (add_ne (by decide) _ _).trans (O11_63 x hx)
theorem O13_63 : ∀ x : Int, A63 x → O13 63 (g63 x).1 (g63 x).2 = some (q63 x) := fun x hx => (add_ne (by decide) _ _).trans (O12_63 x hx)
theorem O14_63 : ∀ x : Int, A63 x → O14 63 (g63 x).1 (g63 x).2 = some (q63 x) := fun x hx => (add_ne (by decide) _ _).trans (O13_63 x hx)
theorem O15_63 : ∀ x : Int, A63 x → O15 63 (g63 x).1 (g63 x).2 = some (q63 x) := fun x hx => (add_ne (by decide) _ _).trans (O14_63 x hx)
theorem O16_63 : ∀ x : Int, A63 x → O16 63 (g63 x).1 (g63 x).2 = some (q63 x) := fun x hx => (add_ne (by decide) _ _).trans (O15_63 x hx)
theorem O17_63 : ∀ x : Int, A63 x → O17 63 (g63 x).1 (g63 x).2 = some (q63 x) := fun x hx => (add_ne (by decide) _ _).trans (O16_63 x hx)
theorem O12_64 : ∀ x : Int, A64 x → O12 64 (g64 x).1 (g64 x).2 = some (q64 x) := fun x hx => (add_ne (by decide) _ _).trans (O11_64 x hx)
theorem O13_64 : ∀ x : Int, A64 x → O13 64 (g64 x).1 (g64 x).2 = some (q64 x) := fun x hx => (add_ne (by decide) _ _).trans (O12_64 x hx)
theorem O14_64 : ∀ x : Int, A64 x → O14 64 (g64 x).1 (g64 x).2 = some (q64 x) := fun x hx => (add_ne (by decide) _ _).trans (O13_64 x hx)
theorem O15_64 : ∀ x : Int, A64 x → O15 64 (g64 x).1 (g64 x).2 = some (q64 x) := fun x hx => (add_ne (by decide) _ _).trans (O14_64 x hx)
theorem O16_64 : ∀ x : Int, A64 x → O16 64 (g64 x).1 (g64 x).2 = some (q64 x) := fun x hx => (add_ne (by decide) _ _).trans (O15_64 x hx)
theorem O17_64 : ∀ x : Int, A64 x → O17 64 (g64 x).1 (g64 x).2 = some (q64 x) := fun x hx => (add_ne (by decide) _ _).trans (O16_64 x hx)
def A40 : S74 → Prop := fun _ => True
def g40 : S74 → List D × Store := fun x => ([x.d], [])
def q40 : S74 → D × Store := fun x => (.v (.i .i64 (actF x.a0 x.a1 x.a2 x.a3 x.a4 x.a5 x.a6 x.a7 x.a8 x.a9)), [])
noncomputable def O18 : Oracle := Oracle.add O17 40 A40 g40 q40
theorem O18_sound : SoundC Try.prog O18 := add_sound O17_sound (fun x hx => sem_fn (k := 0) (ν := n40) O17_sound Try.func40 (by kernel_rfl) mixed (by kernel_rfl) (Nat.le_of_ble_eq_true (by kernel_rfl)) (r40 O17 (evL TT O17 n40 b40 (0)) x.a0 x.a1 x.a2 x.a3 x.a4 x.a5 x.a9 x.a6 x.a7 x.a8 (fun a b c => O17_53 (a, b, c) trivial) (fun a => O17_63 a trivial) (fun a => O17_64 a trivial) (fun cl seq k n key field text => O17_33 ⟨cl, seq, k, key, field, text, n⟩ trivial)))
theorem O18_40 : ∀ x : S74, A40 x → O18 40 (g40 x).1 (g40 x).2 = some (q40 x) := fun x hx => add_eq (by intro x y h; simp only [g40, q40, Prod.mk.injEq, List.cons.injEq, and_true] at h; rw [S74.d_inj _ _ h]) hx rfl
theorem O9_39 : ∀ x : S74, A39 x → O9 39 (g39 x).1 (g39 x).2 = some (q39 x) := fun x hx => (add_ne (by decide) _ _).trans (O8_39 x hx)
theorem O10_39 : ∀ x : S74, A39 x → O10 39 (g39 x).1 (g39 x).2 = some (q39 x) := fun x hx => (add_ne (by decide) _ _).trans (O9_39 x hx)
theorem O11_39 : ∀ x : S74, A39 x → O11 39 (g39 x).1 (g39 x).2 = some (q39 x) := fun x hx => (add_ne (by decide) _ _).trans (O10_39 x hx)
theorem O12_39 : ∀ x : S74, A39 x → O12 39 (g39 x).1 (g39 x).2 = some (q39 x) := fun x hx => (add_ne (by decide) _ _).trans (O11_39 x hx)
theorem O13_39 : ∀ x : S74, A39 x → O13 39 (g39 x).1 (g39 x).2 = some (q39 x) := fun x hx => (add_ne (by decide) _ _).trans (O12_39 x hx)
theorem O14_39 : ∀ x : S74, A39 x → O14 39 (g39 x).1 (g39 x).2 = some (q39 x) := fun x hx => (add_ne (by decide) _ _).trans (O13_39 x hx)
theorem O15_39 : ∀ x : S74, A39 x → O15 39 (g39 x).1 (g39 x).2 = some (q39 x) := fun x hx => (add_ne (by decide) _ _).trans (O14_39 x hx)
theorem O16_39 : ∀ x : S74, A39 x → O16 39 (g39 x).1 (g39 x).2 = some (q39 x) := fun x hx => (add_ne (by decide) _ _).trans (O15_39 x hx)
theorem O17_39 : ∀ x : S74, A39 x → O17 39 (g39 x).1 (g39 x).2 = some (q39 x) := fun x hx => (add_ne (by decide) _ _).trans (O16_39 x hx)
theorem O18_39 : ∀ x : S74, A39 x → O18 39 (g39 x).1 (g39 x).2 = some (q39 x) := fun x hx => (add_ne (by decide) _ _).trans (O17_39 x hx)
def A13 : S74 → Prop := fun _ => True
def g13 : S74 → List D × Store := fun x => ([x.d], [])
def q13 : S74 → D × Store := fun x => (.v (.b true), [])
noncomputable def O19 : Oracle := Oracle.add O18 13 A13 g13 q13
theorem O19_sound : SoundC Try.prog O19 := add_sound O18_sound (fun x hx => sem_fn (k := 0) (ν := n13) O18_sound Try.func13 (by kernel_rfl) mixed (by kernel_rfl) (Nat.le_of_ble_eq_true (by kernel_rfl)) (r13 O18 (evL TT O18 n13 b13 (0)) x.a0 x.a1 x.a2 x.a3 x.a4 x.a5 x.a9 x.a6 x.a7 x.a8 (fun kind node pick cl seq k n key field text => O18_39 ⟨kind, node, pick, cl, seq, k, key, field, text, n⟩ trivial) (fun kind node pick cl seq k n key field text => O18_40 ⟨kind, node, pick, cl, seq, k, key, field, text, n⟩ trivial)))
theorem O19_13 : ∀ x : S74, A13 x → O19 13 (g13 x).1 (g13 x).2 = some (q13 x) := fun x hx => add_eq (by intro x y h; simp only [g13, q13, Prod.mk.injEq, List.cons.injEq, and_true] at h; rw [S74.d_inj _ _ h]) hx rfl
theorem sem (rs : List (List V)) (h : HasAll Try.prog [75] rs) : Mx.Sem Try.prog 13 (argsD Try.prog [75] rs) [] (.v (.b true)) [] := by
  obtain ⟨r, _, rfl, h0, h1⟩ := h.cons
  obtain rfl := h1.nil
  obtain ⟨x, rfl, hx⟩ := S74.of75 h0
  rw [argsD_one, argD_struct Try.underlying75]
  exact O19_sound _ _ _ _ _ (O19_13 x trivial)
end CLinesChecks
end Go.Proofs.Ytiicnbdolakdgaa
