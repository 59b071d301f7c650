/- Part of the proof by the machine Mx: ChLedgerBehinds. -/
import Derived.Test.YtnjkmbogbfjffaaMxFour
import Derived.Test.YtnjkmbogbfjffaaStr
import Derived.Test.YtnjkmbogbfjffaaG0
import Derived.Test.YtnjkmbogbfjffaaG1
import Derived.Test.YtnjkmbogbfjffaaG2
import Derived.Test.YtnjkmbogbfjffaaH0
import Derived.Test.YtnjkmbogbfjffaaJ0
import Derived.Test.YtnjkmbogbfjffaaJ1
import Derived.Test.YtnjkmbogbfjffaaK0
import Derived.Test.YtnjkmbogbfjffaaK1
import Derived.Test.YtnjkmbogbfjffaaN0
import Derived.Test.YtnjkmbogbfjffaaN2
import Derived.Test.YtnjkmbogbfjffaaQ0
import Derived.Test.YtnjkmbogbfjffaaQ1
import Derived.Test.YtnjkmbogbfjffaaQ2
import Derived.Test.YtnjkmbogbfjffaaQ3
import Derived.Test.YtnjkmbogbfjffaaR0
import Derived.Test.YtnjkmbogbfjffaaR1
import Derived.Test.YtnjkmbogbfjffaaR2
set_option linter.unusedSimpArgs false
set_option linter.unusedVariables false
set_option linter.constructorNameAsVariable false
set_option linter.unnecessarySimpa false
namespace Go.Proofs.Ytnjkmbogbfjffaa
open Go Go.Mx Go.Proofs
namespace CLedgerBehinds
def A16 : S23 → Prop := fun x => x.ok
def g16 : S23 → List D × Store := fun x => ([x.d], [])
def q16 : S23 → D × Store := fun x => (.agg [.v (.i .i64 x.a0), .v (.i .i64 x.a1), .v (.sl 10 (x.a2.map S37.row))], [])
noncomputable def O1 : Oracle := Oracle.add noC 16 A16 g16 q16
set_option maxRecDepth 100000 in
theorem O1_sound : SoundC Try.prog O1 := add_sound (noC_sound _) (fun x hx => Mx.Sem.frozen (sem_fn (k := x.a2.length + 1) (ν := n16) (noC_sound _) Try.func16 (by kernel_rfl) mixed (by kernel_rfl) (Nat.le_of_ble_eq_true (by kernel_rfl)) (r16 noC x.a0 x.a1 x.a2 hx.2.2.1)) rfl)
theorem O1_16 : ∀ x : S23, A16 x → O1 16 (g16 x).1 (g16 x).2 = some (q16 x) := fun x hx => add_eq (by intro x y h; simp only [g16, q16, Prod.mk.injEq, List.cons.injEq, and_true] at h; rw [S23.d_inj _ _ h]) hx rfl
def A127 : Int → Prop := fun _ => True
def g127 : Int → List D × Store := fun x => ([.v (.i .i64 x)], [])
def q127 : Int → D × Store := fun x => (.v (.b (numB x)), [])
noncomputable def O2 : Oracle := Oracle.add O1 127 A127 g127 q127
set_option maxRecDepth 100000 in
theorem O2_sound : SoundC Try.prog O2 := add_sound O1_sound (fun x hx => sem_fn (k := 0) (ν := n127) O1_sound Try.func127 (by kernel_rfl) mixed (by kernel_rfl) (Nat.le_of_ble_eq_true (by kernel_rfl)) (r127 O1 (evL TT O1 n127 b127 (0)) x ))
theorem O2_127 : ∀ x : Int, A127 x → O2 127 (g127 x).1 (g127 x).2 = some (q127 x) := fun x hx => add_eq (by intro x y h; simp only [g127, q127, Prod.mk.injEq, List.cons.injEq, D.v.injEq, D.agg.injEq, V.i.injEq, V.s.injEq, V.sl.injEq, V.b.injEq, rowS_inj, rowI_inj, rowB_inj, true_and, and_true] at h; first | rfl | rw [h] | simp only [q127, h]) hx rfl
def A67 : ByteArray → Prop := fun _ => True
def g67 : ByteArray → List D × Store := fun x => ([.v (.s x)], [])
def q67 : ByteArray → D × Store := fun x => (.v (.b (fieldB x)), [])
noncomputable def O3 : Oracle := Oracle.add O2 67 A67 g67 q67
set_option maxRecDepth 100000 in
theorem O3_sound : SoundC Try.prog O3 := add_sound O2_sound (fun x hx => sem_fn (k := 0) (ν := n67) O2_sound Try.func67 (by kernel_rfl) mixed (by kernel_rfl) (Nat.le_of_ble_eq_true (by kernel_rfl)) (r67 O2 (evL TT O2 n67 b67 (0)) x ))
theorem O3_67 : ∀ x : ByteArray, A67 x → O3 67 (g67 x).1 (g67 x).2 = some (q67 x) := fun x hx => add_eq (by intro x y h; simp only [g67, q67, Prod.mk.injEq, List.cons.injEq, D.v.injEq, D.agg.injEq, V.i.injEq, V.s.injEq, V.sl.injEq, V.b.injEq, rowS_inj, rowI_inj, rowB_inj, true_and, and_true] at h; first | rfl | rw [h] | simp only [q67, h]) hx rfl
def A62 : ByteArray → Prop := fun _ => True
def g62 : ByteArray → List D × Store := fun x => ([.v (.s x)], [])
def q62 : ByteArray → D × Store := fun x => (.v (.b (textB x)), [])
noncomputable def O4 : Oracle := Oracle.add O3 62 A62 g62 q62
set_option maxRecDepth 100000 in
theorem O4_sound : SoundC Try.prog O4 := add_sound O3_sound (fun x hx => sem_fn (k := 0) (ν := n62) O3_sound Try.func62 (by kernel_rfl) mixed (by kernel_rfl) (Nat.le_of_ble_eq_true (by kernel_rfl)) (r62 O3 (evL TT O3 n62 b62 (0)) x ))
theorem O4_62 : ∀ x : ByteArray, A62 x → O4 62 (g62 x).1 (g62 x).2 = some (q62 x) := fun x hx => add_eq (by intro x y h; simp only [g62, q62, Prod.mk.injEq, List.cons.injEq, D.v.injEq, D.agg.injEq, V.i.injEq, V.s.injEq, V.sl.injEq, V.b.injEq, rowS_inj, rowI_inj, rowB_inj, true_and, and_true] at h; first | rfl | rw [h] | simp only [q62, h]) hx rfl
def A70 : Int → Prop := fun _ => True
def g70 : Int → List D × Store := fun x => ([.v (.i .i64 x)], [])
def q70 : Int → D × Store := fun x => (.v (.b (countB x)), [])
noncomputable def O5 : Oracle := Oracle.add O4 70 A70 g70 q70
set_option maxRecDepth 100000 in
theorem O5_sound : SoundC Try.prog O5 := add_sound O4_sound (fun x hx => sem_fn (k := 0) (ν := n70) O4_sound Try.func70 (by kernel_rfl) mixed (by kernel_rfl) (Nat.le_of_ble_eq_true (by kernel_rfl)) (r70 O4 (evL TT O4 n70 b70 (0)) x ))
theorem O5_70 : ∀ x : Int, A70 x → O5 70 (g70 x).1 (g70 x).2 = some (q70 x) := fun x hx => add_eq (by intro x y h; simp only [g70, q70, Prod.mk.injEq, List.cons.injEq, D.v.injEq, D.agg.injEq, V.i.injEq, V.s.injEq, V.sl.injEq, V.b.injEq, rowS_inj, rowI_inj, rowB_inj, true_and, and_true] at h; first | rfl | rw [h] | simp only [q70, h]) hx rfl
theorem O4_67 : ∀ x : ByteArray, A67 x → O4 67 (g67 x).1 (g67 x).2 = some (q67 x) := fun x hx => (add_ne (by decide) _ _).trans (O3_67 x hx)
theorem O5_67 : ∀ x : ByteArray, A67 x → O5 67 (g67 x).1 (g67 x).2 = some (q67 x) := fun x hx => (add_ne (by decide) _ _).trans (O4_67 x hx)
theorem O5_62 : ∀ x : ByteArray, A62 x → O5 62 (g62 x).1 (g62 x).2 = some (q62 x) := fun x hx => (add_ne (by decide) _ _).trans (O4_62 x hx)
def A128 : S33 → Prop := fun _ => True
def g128 : S33 → List D × Store := fun x => ([x.d], [])
def q128 : S33 → D × Store := fun x => (.v (.i .i64 (cmdF x.a0 x.a1 x.a2 x.a3 x.a4)), [])
noncomputable def O6 : Oracle := Oracle.add O5 128 A128 g128 q128
set_option maxRecDepth 100000 in
theorem O6_sound : SoundC Try.prog O6 := add_sound O5_sound (fun x hx => sem_fn (k := 0) (ν := n128) O5_sound Try.func128 (by kernel_rfl) mixed (by kernel_rfl) (Nat.le_of_ble_eq_true (by kernel_rfl)) (r128 O5 (evL TT O5 n128 b128 (0)) x.a0 x.a4 x.a1 x.a2 x.a3 (fun a => O5_67 a trivial) (fun a => O5_62 a trivial) (fun a => O5_70 a trivial)))
theorem O6_128 : ∀ x : S33, A128 x → O6 128 (g128 x).1 (g128 x).2 = some (q128 x) := fun x hx => add_eq (by intro x y h; simp only [g128, q128, Prod.mk.injEq, List.cons.injEq, and_true] at h; rw [S33.d_inj _ _ h]) hx rfl
theorem O3_127 : ∀ x : Int, A127 x → O3 127 (g127 x).1 (g127 x).2 = some (q127 x) := fun x hx => (add_ne (by decide) _ _).trans (O2_127 x hx)
theorem O4_127 : ∀ x : Int, A127 x → O4 127 (g127 x).1 (g127 x).2 = some (q127 x) := fun x hx => (add_ne (by decide) _ _).trans (O3_127 x hx)
theorem O5_127 : ∀ x : Int, A127 x → O5 127 (g127 x).1 (g127 x).2 = some (q127 x) := fun x hx => (add_ne (by decide) _ _).trans (O4_127 x hx)
theorem O6_127 : ∀ x : Int, A127 x → O6 127 (g127 x).1 (g127 x).2 = some (q127 x) := fun x hx => (add_ne (by decide) _ _).trans (O5_127 x hx)
def A102 : S35 → Prop := fun _ => True
def g102 : S35 → List D × Store := fun x => ([x.d], [])
def q102 : S35 → D × Store := fun x => (.v (.i .i64 (callF x.a0 x.a1 x.a2 x.a3 x.a4 x.a5 x.a6)), [])
noncomputable def O7 : Oracle := Oracle.add O6 102 A102 g102 q102
set_option maxRecDepth 100000 in
theorem O7_sound : SoundC Try.prog O7 := add_sound O6_sound (fun x hx => sem_fn (k := 0) (ν := n102) O6_sound Try.func102 (by kernel_rfl) mixed (by kernel_rfl) (Nat.le_of_ble_eq_true (by kernel_rfl)) (r102 O6 (evL TT O6 n102 b102 (0)) x.a0 x.a1 x.a2 x.a6 x.a3 x.a4 x.a5 (fun a => O6_127 a trivial) (fun k n key field text => O6_128 ⟨k, key, field, text, n⟩ trivial)))
theorem O7_102 : ∀ x : S35, A102 x → O7 102 (g102 x).1 (g102 x).2 = some (q102 x) := fun x hx => add_eq (by intro x y h; simp only [g102, q102, Prod.mk.injEq, List.cons.injEq, and_true] at h; rw [S35.d_inj _ _ h]) hx rfl
def A56 : S37 → Prop := fun _ => True
def g56 : S37 → List D × Store := fun x => ([x.d], [])
def q56 : S37 → D × Store := fun x => (.v (.i .i64 (itemF x.a0 x.a1 x.a2 x.a3 x.a4 x.a5 x.a6 x.a7 x.a8 x.a9)), [])
noncomputable def O8 : Oracle := Oracle.add O7 56 A56 g56 q56
set_option maxRecDepth 100000 in
theorem O8_sound : SoundC Try.prog O8 := add_sound O7_sound (fun x hx => sem_fn (k := 0) (ν := n56) O7_sound Try.func56 (by kernel_rfl) mixed (by kernel_rfl) (Nat.le_of_ble_eq_true (by kernel_rfl)) (r56 O7 (evL TT O7 n56 b56 (0)) x.a0 x.a1 x.a2 x.a3 x.a4 x.a5 x.a9 x.a6 x.a7 x.a8 (fun cl seq k n key field text => O7_102 ⟨cl, seq, k, key, field, text, n⟩ trivial)))
theorem O8_56 : ∀ x : S37, A56 x → O8 56 (g56 x).1 (g56 x).2 = some (q56 x) := fun x hx => add_eq (by intro x y h; simp only [g56, q56, Prod.mk.injEq, List.cons.injEq, and_true] at h; rw [S37.d_inj _ _ h]) hx rfl
def A49 : S23 → Prop := fun x => x.ok
def g49 : S23 → List D × Store := fun x => ([x.d], [])
def q49 : S23 → D × Store := fun x => (.v (.i .i64 (logF x.a0 x.a1 x.a2)), [])
noncomputable def O9 : Oracle := Oracle.add O8 49 A49 g49 q49
set_option maxRecDepth 100000 in
theorem O9_sound : SoundC Try.prog O9 := add_sound O8_sound (fun x hx => sem_fn (k := x.a2.length + 1) (ν := n49) O8_sound Try.func49 (by kernel_rfl) mixed (by kernel_rfl) (Nat.le_of_ble_eq_true (by kernel_rfl)) (r49 O8 x.a0 x.a1 x.a2 (fun y => O8_56 ⟨y.a0, y.a1, y.a2, y.a3, y.a4, y.a5, y.a6, y.a7, y.a8, y.a9⟩ trivial) (by have : okN 104 x.a2.length := hx.2.2.1; simp only [okN] at this; omega)))
theorem O9_49 : ∀ x : S23, A49 x → O9 49 (g49 x).1 (g49 x).2 = some (q49 x) := fun x hx => add_eq (by intro x y h; simp only [g49, q49, Prod.mk.injEq, List.cons.injEq, and_true] at h; rw [S23.d_inj _ _ h]) hx rfl
def A54 : S23 × Int → Prop := fun x => okI x.2 ∧ logF x.1.a0 x.1.a1 x.1.a2 = 0
def g54 : S23 × Int → List D × Store := fun x => ([x.1.d, .v (.i .i64 x.2)], [])
def q54 : S23 × Int → D × Store := fun x => (.tup [.v (.i .i64 (tvF x.1.a0 x.1.a1 x.1.a2 x.2)), .v (.i .i64 (teF x.1.a0 x.1.a2 x.2))], [])
noncomputable def O10 : Oracle := Oracle.add O9 54 A54 g54 q54
set_option maxRecDepth 100000 in
theorem O10_sound : SoundC Try.prog O10 := add_sound O9_sound (fun x hx => sem_fn (k := 0) (ν := n54) O9_sound Try.func54 (by kernel_rfl) mixed (by kernel_rfl) (Nat.le_of_ble_eq_true (by kernel_rfl)) (r54 O9 (evL TT O9 n54 b54 (0)) x.1.a0 x.1.a1 x.1.a2 x.2 hx.1 hx.2))
theorem O10_54 : ∀ x : S23 × Int, A54 x → O10 54 (g54 x).1 (g54 x).2 = some (q54 x) := fun x hx => add_eq (by rintro ⟨x, p⟩ ⟨y, q⟩ h; simp only [g54, q54, Prod.mk.injEq, List.cons.injEq, D.v.injEq, V.i.injEq, true_and, and_true] at h; rw [S23.d_inj _ _ h.1, h.2]) hx rfl
def A60 : List (List V) → Prop := fun x => fitsB x.length 104 = true
def g60 : List (List V) → List D × Store := fun x => ([.v (.sl 10 x)], [])
def q60 : List (List V) → D × Store := fun x => (.v (.sl 10 x), [])
noncomputable def O11 : Oracle := Oracle.add O10 60 A60 g60 q60
set_option maxRecDepth 100000 in
theorem O11_sound : SoundC Try.prog O11 := add_sound O10_sound (fun x hx => Mx.Sem.frozen (sem_all (ν := n60) O10_sound Try.func60 (by kernel_rfl) (Nat.le_of_ble_eq_true (by kernel_rfl)) (r60 O10 x hx)) rfl)
theorem O11_60 : ∀ x : List (List V), A60 x → O11 60 (g60 x).1 (g60 x).2 = some (q60 x) := fun x hx => add_eq (by intro x y h; simp only [g60, q60, Prod.mk.injEq, List.cons.injEq, D.v.injEq, D.agg.injEq, V.i.injEq, V.s.injEq, V.sl.injEq, V.b.injEq, rowS_inj, rowI_inj, rowB_inj, true_and, and_true] at h; first | rfl | rw [h] | simp only [q60, h]) hx rfl
theorem O10_49 : ∀ x : S23, A49 x → O10 49 (g49 x).1 (g49 x).2 = some (q49 x) := fun x hx => (add_ne (by decide) _ _).trans (O9_49 x hx)
theorem O11_49 : ∀ x : S23, A49 x → O11 49 (g49 x).1 (g49 x).2 = some (q49 x) := fun x hx => (add_ne (by decide) _ _).trans (O10_49 x hx)
theorem O11_54 : ∀ x : S23 × Int, A54 x → O11 54 (g54 x).1 (g54 x).2 = some (q54 x) := fun x hx => (add_ne (by decide) _ _).trans (O10_54 x hx)
def A25 : S23 × Int × Int → Prop := fun x => x.1.ok ∧ okI x.2.1 ∧ okI x.2.2
def g25 : S23 × Int × Int → List D × Store := fun x => ([x.1.d, .v (.i .i64 x.2.1), .v (.i .i64 x.2.2)], [])
def q25 : S23 × Int × Int → D × Store := fun x => (.tup [.v (.sl 10 ((bif (bif logF x.1.a0 x.1.a1 x.1.a2 == 0 then (bif inB x.2.1 0 1048576 && decide (0 ≤ x.2.2) then teF x.1.a0 x.1.a2 x.2.1 else 2) else logF x.1.a0 x.1.a1 x.1.a2) == 0 then (x.1.a2.drop (x.2.1 - x.1.a0).toNat).take x.2.2.toNat else []).map S37.row)), .v (.i .i64 (bif logF x.1.a0 x.1.a1 x.1.a2 == 0 then (bif inB x.2.1 0 1048576 && decide (0 ≤ x.2.2) then teF x.1.a0 x.1.a2 x.2.1 else 2) else logF x.1.a0 x.1.a1 x.1.a2))], [])
noncomputable def O12 : Oracle := Oracle.add O11 25 A25 g25 q25
set_option maxRecDepth 100000 in
theorem O12_sound : SoundC Try.prog O12 := add_sound O11_sound (fun x hx => sem_fn (k := 0) (ν := n25) O11_sound Try.func25 (by kernel_rfl) mixed (by kernel_rfl) (Nat.le_of_ble_eq_true (by kernel_rfl)) (r25 O11 (evL TT O11 n25 b25 (0)) x.1.a0 x.1.a1 x.1.a2 x.2.1 x.2.2 hx.2.2 (fitsB_iff.2 (by have h9 : okN 104 x.1.a2.length := hx.1.2.2.1; simp only [okN] at h9; omega)) (O11_49 x.1 hx.1) (fun h => O11_54 (x.1, x.2.1) ⟨hx.2.1, h⟩) (fun q h => O11_60 q h)))
theorem O12_25 : ∀ x : S23 × Int × Int, A25 x → O12 25 (g25 x).1 (g25 x).2 = some (q25 x) := fun x hx => add_eq (by rintro ⟨x, p, p2⟩ ⟨y, q, q2⟩ h; simp only [g25, q25, Prod.mk.injEq, List.cons.injEq, D.v.injEq, V.i.injEq, true_and, and_true] at h; rw [S23.d_inj _ _ h.1, h.2.1, h.2.2]) hx rfl
def A55 : Int × Int × Int → Prop := fun _ => True
def g55 : Int × Int × Int → List D × Store := fun x => ([.v (.i .i64 x.1), .v (.i .i64 x.2.1), .v (.i .i64 x.2.2)], [])
def q55 : Int × Int × Int → D × Store := fun x => (.v (.b (inB x.1 x.2.1 x.2.2)), [])
noncomputable def O13 : Oracle := Oracle.add O12 55 A55 g55 q55
set_option maxRecDepth 100000 in
theorem O13_sound : SoundC Try.prog O13 := add_sound O12_sound (fun x hx => sem_fn (k := 0) (ν := n55) O12_sound Try.func55 (by kernel_rfl) mixed (by kernel_rfl) (Nat.le_of_ble_eq_true (by kernel_rfl)) (r55 O12 (evL TT O12 n55 b55 (0)) x.1 x.2.1 x.2.2))
theorem O13_55 : ∀ x : Int × Int × Int, A55 x → O13 55 (g55 x).1 (g55 x).2 = some (q55 x) := fun x hx => add_eq (by intro x y h; simp only [g55, q55, Prod.mk.injEq, List.cons.injEq, D.v.injEq, D.agg.injEq, V.i.injEq, V.s.injEq, V.sl.injEq, V.b.injEq, rowS_inj, rowI_inj, rowB_inj, true_and, and_true] at h; first | rfl | rw [h] | simp only [q55, h]) hx rfl
def A91 : Int → Prop := fun _ => True
def g91 : Int → List D × Store := fun x => ([.v (.i .i64 x)], [])
def q91 : Int → D × Store := fun x => (.v (.b (numB x)), [])
noncomputable def O14 : Oracle := Oracle.add O13 91 A91 g91 q91
set_option maxRecDepth 100000 in
theorem O14_sound : SoundC Try.prog O14 := add_sound O13_sound (fun x hx => sem_fn (k := 0) (ν := n91) O13_sound Try.func91 (by kernel_rfl) mixed (by kernel_rfl) (Nat.le_of_ble_eq_true (by kernel_rfl)) (r91 O13 (evL TT O13 n91 b91 (0)) x (fun a b c => O13_55 (a, b, c) trivial)))
theorem O14_91 : ∀ x : Int, A91 x → O14 91 (g91 x).1 (g91 x).2 = some (q91 x) := fun x hx => add_eq (by intro x y h; simp only [g91, q91, Prod.mk.injEq, List.cons.injEq, D.v.injEq, D.agg.injEq, V.i.injEq, V.s.injEq, V.sl.injEq, V.b.injEq, rowS_inj, rowI_inj, rowB_inj, true_and, and_true] at h; first | rfl | rw [h] | simp only [q91, h]) hx rfl
theorem O14_55 : ∀ x : Int × Int × Int, A55 x → O14 55 (g55 x).1 (g55 x).2 = some (q55 x) := fun x hx => (add_ne (by decide) _ _).trans (O13_55 x hx)
def A81 : ByteArray → Prop := fun _ => True
def g81 : ByteArray → List D × Store := fun x => ([.v (.s x)], [])
def q81 : ByteArray → D × Store := fun x => (.v (.b (fieldB x)), [])
noncomputable def O15 : Oracle := Oracle.add O14 81 A81 g81 q81
set_option maxRecDepth 100000 in
theorem O15_sound : SoundC Try.prog O15 := add_sound O14_sound (fun x hx => sem_fn (k := 0) (ν := n81) O14_sound Try.func81 (by kernel_rfl) mixed (by kernel_rfl) (Nat.le_of_ble_eq_true (by kernel_rfl)) (r81 O14 (evL TT O14 n81 b81 (0)) x (fun a b c => O14_55 (a, b, c) trivial)))
theorem O15_81 : ∀ x : ByteArray, A81 x → O15 81 (g81 x).1 (g81 x).2 = some (q81 x) := fun x hx => add_eq (by intro x y h; simp only [g81, q81, Prod.mk.injEq, List.cons.injEq, D.v.injEq, D.agg.injEq, V.i.injEq, V.s.injEq, V.sl.injEq, V.b.injEq, rowS_inj, rowI_inj, rowB_inj, true_and, and_true] at h; first | rfl | rw [h] | simp only [q81, h]) hx rfl
def A80 : ByteArray → Prop := fun _ => True
def g80 : ByteArray → List D × Store := fun x => ([.v (.s x)], [])
def q80 : ByteArray → D × Store := fun x => (.v (.b (textB x)), [])
noncomputable def O16 : Oracle := Oracle.add O15 80 A80 g80 q80
set_option maxRecDepth 100000 in
theorem O16_sound : SoundC Try.prog O16 := add_sound O15_sound (fun x hx => sem_fn (k := 0) (ν := n80) O15_sound Try.func80 (by kernel_rfl) mixed (by kernel_rfl) (Nat.le_of_ble_eq_true (by kernel_rfl)) (r80 O15 (evL TT O15 n80 b80 (0)) x ))
theorem O16_80 : ∀ x : ByteArray, A80 x → O16 80 (g80 x).1 (g80 x).2 = some (q80 x) := fun x hx => add_eq (by intro x y h; simp only [g80, q80, Prod.mk.injEq, List.cons.injEq, D.v.injEq, D.agg.injEq, V.i.injEq, V.s.injEq, V.sl.injEq, V.b.injEq, rowS_inj, rowI_inj, rowB_inj, true_and, and_true] at h; first | rfl | rw [h] | simp only [q80, h]) hx rfl
theorem O15_55 : ∀ x : Int × Int × Int, A55 x → O15 55 (g55 x).1 (g55 x).2 = some (q55 x) := fun x hx => (add_ne (by decide) _ _).trans (O14_55 x hx)
theorem O16_55 : ∀ x : Int × Int × Int, A55 x → O16 55 (g55 x).1 (g55 x).2 = some (q55 x) := fun x hx => (add_ne (by decide) _ _).trans (O15_55 x hx)
def A82 : Int → Prop := fun _ => True
def g82 : Int → List D × Store := fun x => ([.v (.i .i64 x)], [])
def q82 : Int → D × Store := fun x => (.v (.b (countB x)), [])
noncomputable def O17 : Oracle := Oracle.add O16 82 A82 g82 q82
set_option maxRecDepth 100000 in
theorem O17_sound : SoundC Try.prog O17 := add_sound O16_sound (fun x hx => sem_fn (k := 0) (ν := n82) O16_sound Try.func82 (by kernel_rfl) mixed (by kernel_rfl) (Nat.le_of_ble_eq_true (by kernel_rfl)) (r82 O16 (evL TT O16 n82 b82 (0)) x (fun a b c => O16_55 (a, b, c) trivial)))
theorem O17_82 : ∀ x : Int, A82 x → O17 82 (g82 x).1 (g82 x).2 = some (q82 x) := fun x hx => add_eq (by intro x y h; simp only [g82, q82, Prod.mk.injEq, List.cons.injEq, D.v.injEq, D.agg.injEq, V.i.injEq, V.s.injEq, V.sl.injEq, V.b.injEq, rowS_inj, rowI_inj, rowB_inj, true_and, and_true] at h; first | rfl | rw [h] | simp only [q82, h]) hx rfl
theorem O17_55 : ∀ x : Int × Int × Int, A55 x → O17 55 (g55 x).1 (g55 x).2 = some (q55 x) := fun x hx => (add_ne (by decide) _ _).trans (O16_55 x hx)
theorem O16_81 : ∀ x : ByteArray, A81 x → O16 81 (g81 x).1 (g81 x).2 = some (q81 x) := fun x hx => (add_ne (by decide) _ _).trans (O15_81 x hx)
theorem O17_81 : ∀ x : ByteArray, A81 x → O17 81 (g81 x).1 (g81 x).2 = some (q81 x) := fun x hx => (add_ne (by decide) _ _).trans (O16_81 x hx)
theorem O17_80 : ∀ x : ByteArray, A80 x → O17 80 (g80 x).1 (g80 x).2 = some (q80 x) := fun x hx => (add_ne (by decide) _ _).trans (O16_80 x hx)
def A130 : S33 → Prop := fun _ => True
def g130 : S33 → List D × Store := fun x => ([x.d], [])
def q130 : S33 → D × Store := fun x => (.v (.i .i64 (cmdF x.a0 x.a1 x.a2 x.a3 x.a4)), [])
noncomputable def O18 : Oracle := Oracle.add O17 130 A130 g130 q130
set_option maxRecDepth 100000 in
theorem O18_sound : SoundC Try.prog O18 := add_sound O17_sound (fun x hx => sem_fn (k := 0) (ν := n130) O17_sound Try.func130 (by kernel_rfl) mixed (by kernel_rfl) (Nat.le_of_ble_eq_true (by kernel_rfl)) (r130 O17 (evL TT O17 n130 b130 (0)) x.a0 x.a4 x.a1 x.a2 x.a3 (fun a b c => O17_55 (a, b, c) trivial) (fun a => O17_81 a trivial) (fun a => O17_80 a trivial) (fun a => O17_82 a trivial)))
theorem O18_130 : ∀ x : S33, A130 x → O18 130 (g130 x).1 (g130 x).2 = some (q130 x) := fun x hx => add_eq (by intro x y h; simp only [g130, q130, Prod.mk.injEq, List.cons.injEq, and_true] at h; rw [S33.d_inj _ _ h]) hx rfl
theorem O15_91 : ∀ x : Int, A91 x → O15 91 (g91 x).1 (g91 x).2 = some (q91 x) := fun x hx => (add_ne (by decide) _ _).trans (O14_91 x hx)
theorem O16_91 : ∀ x : Int, A91 x → O16 91 (g91 x).1 (g91 x).2 = some (q91 x) := fun x hx => (add_ne (by decide) _ _).trans (O15_91 x hx)
theorem O17_91 : ∀ x : Int, A91 x → O17 91 (g91 x).1 (g91 x).2 = some (q91 x) := fun x hx => (add_ne (by decide) _ _).trans (O16_91 x hx)
theorem O18_91 : ∀ x : Int, A91 x → O18 91 (g91 x).1 (g91 x).2 = some (q91 x) := fun x hx => (add_ne (by decide) _ _).trans (O17_91 x hx)
def A104 : S35 → Prop := fun _ => True
def g104 : S35 → List D × Store := fun x => ([x.d], [])
def q104 : S35 → D × Store := fun x => (.v (.i .i64 (callF x.a0 x.a1 x.a2 x.a3 x.a4 x.a5 x.a6)), [])
noncomputable def O19 : Oracle := Oracle.add O18 104 A104 g104 q104
set_option maxRecDepth 100000 in
theorem O19_sound : SoundC Try.prog O19 := add_sound O18_sound (fun x hx => sem_fn (k := 0) (ν := n104) O18_sound Try.func104 (by kernel_rfl) mixed (by kernel_rfl) (Nat.le_of_ble_eq_true (by kernel_rfl)) (r104 O18 (evL TT O18 n104 b104 (0)) x.a0 x.a1 x.a2 x.a6 x.a3 x.a4 x.a5 (fun a => O18_91 a trivial) (fun k n key field text => O18_130 ⟨k, key, field, text, n⟩ trivial)))
theorem O19_104 : ∀ x : S35, A104 x → O19 104 (g104 x).1 (g104 x).2 = some (q104 x) := fun x hx => add_eq (by intro x y h; simp only [g104, q104, Prod.mk.injEq, List.cons.injEq, and_true] at h; rw [S35.d_inj _ _ h]) hx rfl
theorem O19_91 : ∀ x : Int, A91 x → O19 91 (g91 x).1 (g91 x).2 = some (q91 x) := fun x hx => (add_ne (by decide) _ _).trans (O18_91 x hx)
theorem O18_55 : ∀ x : Int × Int × Int, A55 x → O18 55 (g55 x).1 (g55 x).2 = some (q55 x) := fun x hx => (add_ne (by decide) _ _).trans (O17_55 x hx)
theorem O19_55 : ∀ x : Int × Int × Int, A55 x → O19 55 (g55 x).1 (g55 x).2 = some (q55 x) := fun x hx => (add_ne (by decide) _ _).trans (O18_55 x hx)
def A58 : S37 → Prop := fun _ => True
def g58 : S37 → List D × Store := fun x => ([x.d], [])
def q58 : S37 → D × Store := fun x => (.v (.i .i64 (itemF x.a0 x.a1 x.a2 x.a3 x.a4 x.a5 x.a6 x.a7 x.a8 x.a9)), [])
noncomputable def O20 : Oracle := Oracle.add O19 58 A58 g58 q58
set_option maxRecDepth 100000 in
theorem O20_sound : SoundC Try.prog O20 := add_sound O19_sound (fun x hx => sem_fn (k := 0) (ν := n58) O19_sound Try.func58 (by kernel_rfl) mixed (by kernel_rfl) (Nat.le_of_ble_eq_true (by kernel_rfl)) (r58 O19 (evL TT O19 n58 b58 (0)) x.a0 x.a1 x.a2 x.a3 x.a4 x.a5 x.a9 x.a6 x.a7 x.a8 (fun a => O19_91 a trivial) (fun a b c => O19_55 (a, b, c) trivial) (fun cl seq k n key field text => O19_104 ⟨cl, seq, k, key, field, text, n⟩ trivial)))
theorem O20_58 : ∀ x : S37, A58 x → O20 58 (g58 x).1 (g58 x).2 = some (q58 x) := fun x hx => add_eq (by intro x y h; simp only [g58, q58, Prod.mk.injEq, List.cons.injEq, and_true] at h; rw [S37.d_inj _ _ h]) hx rfl
theorem O20_55 : ∀ x : Int × Int × Int, A55 x → O20 55 (g55 x).1 (g55 x).2 = some (q55 x) := fun x hx => (add_ne (by decide) _ _).trans (O19_55 x hx)
def A51 : S23 → Prop := fun x => x.ok
def g51 : S23 → List D × Store := fun x => ([x.d], [])
def q51 : S23 → D × Store := fun x => (.v (.i .i64 (logF x.a0 x.a1 x.a2)), [])
noncomputable def O21 : Oracle := Oracle.add O20 51 A51 g51 q51
set_option maxRecDepth 100000 in
theorem O21_sound : SoundC Try.prog O21 := add_sound O20_sound (fun x hx => sem_fn (k := x.a2.length + 1) (ν := n51) O20_sound Try.func51 (by kernel_rfl) mixed (by kernel_rfl) (Nat.le_of_ble_eq_true (by kernel_rfl)) (r51 O20 x.a0 x.a1 x.a2 (fun a b c => O20_55 (a, b, c) trivial) (fun y => O20_58 ⟨y.a0, y.a1, y.a2, y.a3, y.a4, y.a5, y.a6, y.a7, y.a8, y.a9⟩ trivial) (by have : okN 104 x.a2.length := hx.2.2.1; simp only [okN] at this; omega)))
theorem O21_51 : ∀ x : S23, A51 x → O21 51 (g51 x).1 (g51 x).2 = some (q51 x) := fun x hx => add_eq (by intro x y h; simp only [g51, q51, Prod.mk.injEq, List.cons.injEq, and_true] at h; rw [S23.d_inj _ _ h]) hx rfl
def A53 : S23 → Prop := fun x => x.ok
def g53 : S23 → List D × Store := fun x => ([x.d], [])
def q53 : S23 → D × Store := fun x => (.v (.i .i64 (IntKind.i64.wrap (x.a0 + (x.a2.length : Int)))), [])
noncomputable def O22 : Oracle := Oracle.add O21 53 A53 g53 q53
set_option maxRecDepth 100000 in
theorem O22_sound : SoundC Try.prog O22 := add_sound O21_sound (fun x hx => sem_fn (k := 0) (ν := n53) O21_sound Try.func53 (by kernel_rfl) mixed (by kernel_rfl) (Nat.le_of_ble_eq_true (by kernel_rfl)) (r53 O21 (evL TT O21 n53 b53 (0)) x.a0 x.a1 x.a2))
theorem O22_53 : ∀ x : S23, A53 x → O22 53 (g53 x).1 (g53 x).2 = some (q53 x) := fun x hx => add_eq (by intro x y h; simp only [g53, q53, Prod.mk.injEq, List.cons.injEq, and_true] at h; rw [S23.d_inj _ _ h]) hx rfl
def A52 : S23 × Int → Prop := fun x => x.1.ok ∧ logF x.1.a0 x.1.a1 x.1.a2 = 0
def g52 : S23 × Int → List D × Store := fun x => ([x.1.d, .v (.i .i64 x.2)], [])
def q52 : S23 × Int → D × Store := fun x => (.v (.i .i64 (termF x.1.a0 x.1.a1 x.1.a2 x.2)), [])
noncomputable def O23 : Oracle := Oracle.add O22 52 A52 g52 q52
set_option maxRecDepth 100000 in
theorem O23_sound : SoundC Try.prog O23 := add_sound O22_sound (fun x hx => sem_fn (k := 0) (ν := n52) O22_sound Try.func52 (by kernel_rfl) mixed (by kernel_rfl) (Nat.le_of_ble_eq_true (by kernel_rfl)) (r52 O22 (evL TT O22 n52 b52 (0)) x.1.a0 x.1.a1 x.1.a2 x.2 hx.2 (O22_53 x.1 hx.1)))
theorem O23_52 : ∀ x : S23 × Int, A52 x → O23 52 (g52 x).1 (g52 x).2 = some (q52 x) := fun x hx => add_eq (by rintro ⟨x, p⟩ ⟨y, q⟩ h; simp only [g52, q52, Prod.mk.injEq, List.cons.injEq, D.v.injEq, V.i.injEq, true_and, and_true] at h; rw [S23.d_inj _ _ h.1, h.2]) hx rfl
theorem O21_55 : ∀ x : Int × Int × Int, A55 x → O21 55 (g55 x).1 (g55 x).2 = some (q55 x) := fun x hx => (add_ne (by decide) _ _).trans (O20_55 x hx)
theorem O22_55 : ∀ x : Int × Int × Int, A55 x → O22 55 (g55 x).1 (g55 x).2 = some (q55 x) := fun x hx => (add_ne (by decide) _ _).trans (O21_55 x hx)
theorem O23_55 : ∀ x : Int × Int × Int, A55 x → O23 55 (g55 x).1 (g55 x).2 = some (q55 x) := fun x hx => (add_ne (by decide) _ _).trans (O22_55 x hx)
theorem O22_51 : ∀ x : S23, A51 x → O22 51 (g51 x).1 (g51 x).2 = some (q51 x) := fun x hx => (add_ne (by decide) _ _).trans (O21_51 x hx)
theorem O23_51 : ∀ x : S23, A51 x → O23 51 (g51 x).1 (g51 x).2 = some (q51 x) := fun x hx => (add_ne (by decide) _ _).trans (O22_51 x hx)
def A19 : S23 × Int → Prop := fun x => x.1.ok
def g19 : S23 × Int → List D × Store := fun x => ([x.1.d, .v (.i .i64 x.2)], [])
def q19 : S23 × Int → D × Store := fun x => (.tup [.v (.i .i64 (bif logF x.1.a0 x.1.a1 x.1.a2 == 0 then (bif inB x.2 0 1048576 then tvF x.1.a0 x.1.a1 x.1.a2 x.2 else 0) else 0)), .v (.i .i64 (bif logF x.1.a0 x.1.a1 x.1.a2 == 0 then (bif inB x.2 0 1048576 then teF x.1.a0 x.1.a2 x.2 else 2) else logF x.1.a0 x.1.a1 x.1.a2))], [])
noncomputable def O24 : Oracle := Oracle.add O23 19 A19 g19 q19
set_option maxRecDepth 100000 in
theorem O24_sound : SoundC Try.prog O24 := add_sound O23_sound (fun x hx => sem_fn (k := 0) (ν := n19) O23_sound Try.func19 (by kernel_rfl) mixed (by kernel_rfl) (Nat.le_of_ble_eq_true (by kernel_rfl)) (r19 O23 (evL TT O23 n19 b19 (0)) x.1.a0 x.1.a1 x.1.a2 x.2 (fun a b c => O23_55 (a, b, c) trivial) (O23_51 x.1 hx) (fun h => O23_52 x ⟨hx, h⟩)))
theorem O24_19 : ∀ x : S23 × Int, A19 x → O24 19 (g19 x).1 (g19 x).2 = some (q19 x) := fun x hx => add_eq (by rintro ⟨x, p⟩ ⟨y, q⟩ h; simp only [g19, q19, Prod.mk.injEq, List.cons.injEq, D.v.injEq, V.i.injEq, true_and, and_true] at h; rw [S23.d_inj _ _ h.1, h.2]) hx rfl
theorem O24_55 : ∀ x : Int × Int × Int, A55 x → O24 55 (g55 x).1 (g55 x).2 = some (q55 x) := fun x hx => (add_ne (by decide) _ _).trans (O23_55 x hx)
theorem O24_51 : ∀ x : S23, A51 x → O24 51 (g51 x).1 (g51 x).2 = some (q51 x) := fun x hx => (add_ne (by decide) _ _).trans (O23_51 x hx)
theorem O23_53 : ∀ x : S23, A53 x → O23 53 (g53 x).1 (g53 x).2 = some (q53 x) := fun x hx => (add_ne (by decide) _ _).trans (O22_53 x hx)
theorem O24_53 : ∀ x : S23, A53 x → O24 53 (g53 x).1 (g53 x).2 = some (q53 x) := fun x hx => (add_ne (by decide) _ _).trans (O23_53 x hx)
def A26 : S23 × Int × Int → Prop := fun x => x.1.ok ∧ okI x.2.1 ∧ okI x.2.2
def g26 : S23 × Int × Int → List D × Store := fun x => ([x.1.d, .v (.i .i64 x.2.1), .v (.i .i64 x.2.2)], [])
def q26 : S23 × Int × Int → D × Store := fun x => (.tup [.v (.sl 10 ((bif (bif logF x.1.a0 x.1.a1 x.1.a2 == 0 then (bif inB x.2.1 0 1048576 && decide (0 ≤ x.2.2) then teF x.1.a0 x.1.a2 x.2.1 else 2) else logF x.1.a0 x.1.a1 x.1.a2) == 0 then (x.1.a2.drop (x.2.1 - x.1.a0).toNat).take x.2.2.toNat else []).map S37.row)), .v (.i .i64 (bif logF x.1.a0 x.1.a1 x.1.a2 == 0 then (bif inB x.2.1 0 1048576 && decide (0 ≤ x.2.2) then teF x.1.a0 x.1.a2 x.2.1 else 2) else logF x.1.a0 x.1.a1 x.1.a2))], [])
noncomputable def O25 : Oracle := Oracle.add O24 26 A26 g26 q26
set_option maxRecDepth 100000 in
theorem O25_sound : SoundC Try.prog O25 := add_sound O24_sound (fun x hx => sem_fn (k := x.1.a2.length + 1) (ν := n26) O24_sound Try.func26 (by kernel_rfl) mixed (by kernel_rfl) (Nat.le_of_ble_eq_true (by kernel_rfl)) (r26 O24 x.1.a0 x.1.a1 x.1.a2 x.2.1 x.2.2 hx.2.2 hx.2.1 (fun a b c => O24_55 (a, b, c) trivial) (O24_51 x.1 hx.1) (O24_19 (x.1, x.2.1) hx.1) (O24_53 x.1 hx.1)))
theorem O25_26 : ∀ x : S23 × Int × Int, A26 x → O25 26 (g26 x).1 (g26 x).2 = some (q26 x) := fun x hx => add_eq (by rintro ⟨x, p, p2⟩ ⟨y, q, q2⟩ h; simp only [g26, q26, Prod.mk.injEq, List.cons.injEq, D.v.injEq, V.i.injEq, true_and, and_true] at h; rw [S23.d_inj _ _ h.1, h.2.1, h.2.2]) hx rfl
def A27 : List S37 → Prop := fun x => (x.length : Int) ≤ 140737488355328
def g27 : List S37 → List D × Store := fun x => ([.v (.sl 10 (x.map S37.row)), .v (.sl 10 (x.map S37.row))], [])
def q27 : List S37 → D × Store := fun x => (.v (.b true), [])
noncomputable def O26 : Oracle := Oracle.add O25 27 A27 g27 q27
set_option maxRecDepth 100000 in
theorem O26_sound : SoundC Try.prog O26 := add_sound O25_sound (fun x hx => sem_fn (k := x.length + 1) (ν := n27) O25_sound Try.func27 (by kernel_rfl) mixed (by kernel_rfl) (Nat.le_of_ble_eq_true (by kernel_rfl)) (r27 O25 x hx))
theorem O26_27 : ∀ x : List S37, A27 x → O26 27 (g27 x).1 (g27 x).2 = some (q27 x) := fun x hx => add_eq (by intro x y h; simp only [g27, q27, Prod.mk.injEq, List.cons.injEq, D.v.injEq, D.agg.injEq, V.i.injEq, V.s.injEq, V.sl.injEq, V.b.injEq, rowS_inj, rowI_inj, rowB_inj, true_and, and_true] at h; first | rfl | rw [h] | simp only [q27, h]) hx rfl
theorem O2_16 : ∀ x : S23, A16 x → O2 16 (g16 x).1 (g16 x).2 = some (q16 x) := fun x hx => (add_ne (by decide) _ _).trans (O1_16 x hx)
theorem O3_16 : ∀ x : S23, A16 x → O3 16 (g16 x).1 (g16 x).2 = some (q16 x) := fun x hx => (add_ne (by decide) _ _).trans (O2_16 x hx)
theorem O4_16 : ∀ x : S23, A16 x → O4 16 (g16 x).1 (g16 x).2 = some (q16 x) := fun x hx => (add_ne (by decide) _ _).trans (O3_16 x hx)
theorem O5_16 : ∀ x : S23, A16 x → O5 16 (g16 x).1 (g16 x).2 = some (q16 x) := fun x hx => (add_ne (by decide) _ _).trans (O4_16 x hx)
theorem O6_16 : ∀ x : S23, A16 x → O6 16 (g16 x).1 (g16 x).2 = some (q16 x) := fun x hx => (add_ne (by decide) _ _).trans (O5_16 x hx)
theorem O7_16 : ∀ x : S23, A16 x → O7 16 (g16 x).1 (g16 x).2 = some (q16 x) := fun x hx => (add_ne (by decide) _ _).trans (O6_16 x hx)
theorem O8_16 : ∀ x : S23, A16 x → O8 16 (g16 x).1 (g16 x).2 = some (q16 x) := fun x hx => (add_ne (by decide) _ _).trans (O7_16 x hx)
theorem O9_16 : ∀ x : S23, A16 x → O9 16 (g16 x).1 (g16 x).2 = some (q16 x) := fun x hx => (add_ne (by decide) _ _).trans (O8_16 x hx)
theorem O10_16 : ∀ x : S23, A16 x → O10 16 (g16 x).1 (g16 x).2 = some (q16 x) := fun x hx => (add_ne (by decide) _ _).trans (O9_16 x hx)
theorem O11_16 : ∀ x : S23, A16 x → O11 16 (g16 x).1 (g16 x).2 = some (q16 x) := fun x hx => (add_ne (by decide) _ _).trans (O10_16 x hx)
theorem O12_16 : ∀ x : S23, A16 x → O12 16 (g16 x).1 (g16 x).2 = some (q16 x) := fun x hx => (add_ne (by decide) _ _).trans (O11_16 x hx)
theorem O13_16 : ∀ x : S23, A16 x → O13 16 (g16 x).1 (g16 x).2 = some (q16 x) := fun x hx => (add_ne (by decide) _ _).trans (O12_16 x hx)
theorem O14_16 : ∀ x : S23, A16 x → O14 16 (g16 x).1 (g16 x).2 = some (q16 x) := fun x hx => (add_ne (by decide) _ _).trans (O13_16 x hx)
theorem O15_16 : ∀ x : S23, A16 x → O15 16 (g16 x).1 (g16 x).2 = some (q16 x) := fun x hx => (add_ne (by decide) _ _).trans (O14_16 x hx)
theorem O16_16 : ∀ x : S23, A16 x → O16 16 (g16 x).1 (g16 x).2 = some (q16 x) := fun x hx => (add_ne (by decide) _ _).trans (O15_16 x hx)
theorem O17_16 : ∀ x : S23, A16 x → O17 16 (g16 x).1 (g16 x).2 = some (q16 x) := fun x hx => (add_ne (by decide) _ _).trans (O16_16 x hx)
theorem O18_16 : ∀ x : S23, A16 x → O18 16 (g16 x).1 (g16 x).2 = some (q16 x) := fun x hx => (add_ne (by decide) _ _).trans (O17_16 x hx)
theorem O19_16 : ∀ x : S23, A16 x → O19 16 (g16 x).1 (g16 x).2 = some (q16 x) := fun x hx => (add_ne (by decide) _ _).trans (O18_16 x hx)
theorem O20_16 : ∀ x : S23, A16 x → O20 16 (g16 x).1 (g16 x).2 = some (q16 x) := fun x hx => (add_ne (by decide) _ _).trans (O19_16 x hx)
theorem O21_16 : ∀ x : S23, A16 x → O21 16 (g16 x).1 (g16 x).2 = some (q16 x) := fun x hx => (add_ne (by decide) _ _).trans (O20_16 x hx)
theorem O22_16 : ∀ x : S23, A16 x → O22 16 (g16 x).1 (g16 x).2 = some (q16 x) := fun x hx => (add_ne (by decide) _ _).trans (O21_16 x hx)
theorem O23_16 : ∀ x : S23, A16 x → O23 16 (g16 x).1 (g16 x).2 = some (q16 x) := fun x hx => (add_ne (by decide) _ _).trans (O22_16 x hx)
theorem O24_16 : ∀ x : S23, A16 x → O24 16 (g16 x).1 (g16 x).2 = some (q16 x) := fun x hx => (add_ne (by decide) _ _).trans (O23_16 x hx)
theorem O25_16 : ∀ x : S23, A16 x → O25 16 (g16 x).1 (g16 x).2 = some (q16 x) := fun x hx => (add_ne (by decide) _ _).trans (O24_16 x hx)
theorem O26_16 : ∀ x : S23, A16 x → O26 16 (g16 x).1 (g16 x).2 = some (q16 x) := fun x hx => (add_ne (by decide) _ _).trans (O25_16 x hx)
theorem O13_25 : ∀ x : S23 × Int × Int, A25 x → O13 25 (g25 x).1 (g25 x).2 = some (q25 x) := fun x hx => (add_ne (by decide) _ _).trans (O12_25 x hx)
theorem O14_25 : ∀ x : S23 × Int × Int, A25 x → O14 25 (g25 x).1 (g25 x).2 = some (q25 x) := fun x hx => (add_ne (by decide) _ _).trans (O13_25 x hx)
theorem O15_25 : ∀ x : S23 × Int × Int, A25 x → O15 25 (g25 x).1 (g25 x).2 = some (q25 x) := fun x hx => (add_ne (by decide) _ _).trans (O14_25 x hx)
theorem O16_25 : ∀ x : S23 × Int × Int, A25 x → O16 25 (g25 x).1 (g25 x).2 = some (q25 x) := fun x hx => (add_ne (by decide) _ _).trans (O15_25 x hx)
theorem O17_25 : ∀ x : S23 × Int × Int, A25 x → O17 25 (g25 x).1 (g25 x).2 = some (q25 x) := fun x hx => (add_ne (by decide) _ _).trans (O16_25 x hx)
theorem O18_25 : ∀ x : S23 × Int × Int, A25 x → O18 25 (g25 x).1 (g25 x).2 = some (q25 x) := fun x hx => (add_ne (by decide) _ _).trans (O17_25 x hx)
theorem O19_25 : ∀ x : S23 × Int × Int, A25 x → O19 25 (g25 x).1 (g25 x).2 = some (q25 x) := fun x hx => (add_ne (by decide) _ _).trans (O18_25 x hx)
theorem O20_25 : ∀ x : S23 × Int × Int, A25 x → O20 25 (g25 x).1 (g25 x).2 = some (q25 x) := fun x hx => (add_ne (by decide) _ _).trans (O19_25 x hx)
theorem O21_25 : ∀ x : S23 × Int × Int, A25 x → O21 25 (g25 x).1 (g25 x).2 = some (q25 x) := fun x hx => (add_ne (by decide) _ _).trans (O20_25 x hx)
theorem O22_25 : ∀ x : S23 × Int × Int, A25 x → O22 25 (g25 x).1 (g25 x).2 = some (q25 x) := fun x hx => (add_ne (by decide) _ _).trans (O21_25 x hx)
theorem O23_25 : ∀ x : S23 × Int × Int, A25 x → O23 25 (g25 x).1 (g25 x).2 = some (q25 x) := fun x hx => (add_ne (by decide) _ _).trans (O22_25 x hx)
theorem O24_25 : ∀ x : S23 × Int × Int, A25 x → O24 25 (g25 x).1 (g25 x).2 = some (q25 x) := fun x hx => (add_ne (by decide) _ _).trans (O23_25 x hx)
theorem O25_25 : ∀ x : S23 × Int × Int, A25 x → O25 25 (g25 x).1 (g25 x).2 = some (q25 x) := fun x hx => (add_ne (by decide) _ _).trans (O24_25 x hx)
theorem O26_25 : ∀ x : S23 × Int × Int, A25 x → O26 25 (g25 x).1 (g25 x).2 = some (q25 x) := fun x hx => (add_ne (by decide) _ _).trans (O25_25 x hx)
theorem O26_26 : ∀ x : S23 × Int × Int, A26 x → O26 26 (g26 x).1 (g26 x).2 = some (q26 x) := fun x hx => (add_ne (by decide) _ _).trans (O25_26 x hx)
def A7 : S23 × Int × Int → Prop := fun x => x.1.ok ∧ okI x.2.1 ∧ okI x.2.2
def g7 : S23 × Int × Int → List D × Store := fun x => ([x.1.d, .v (.i .i64 x.2.1), .v (.i .i64 x.2.2)], [])
def q7 : S23 × Int × Int → D × Store := fun x => (.v (.b true), [])
noncomputable def O27 : Oracle := Oracle.add O26 7 A7 g7 q7
set_option maxRecDepth 100000 in
theorem O27_sound : SoundC Try.prog O27 := add_sound O26_sound (fun x hx => sem_fn (k := 0) (ν := n7) O26_sound Try.func7 (by kernel_rfl) mixed (by kernel_rfl) (Nat.le_of_ble_eq_true (by kernel_rfl)) (r7 O26 (evL TT O26 n7 b7 (0)) x.1.a0 x.1.a1 x.1.a2 x.2.1 x.2.2 (by have h9 : okN 104 x.1.a2.length := hx.1.2.2.1; simp only [okN] at h9; omega) (O26_16 x.1 hx.1) (O26_25 x hx) (O26_26 x hx) (fun q h => O26_27 q h)))
theorem O27_7 : ∀ x : S23 × Int × Int, A7 x → O27 7 (g7 x).1 (g7 x).2 = some (q7 x) := fun x hx => add_eq (by rintro ⟨x, p, p2⟩ ⟨y, q, q2⟩ h; simp only [g7, q7, Prod.mk.injEq, List.cons.injEq, D.v.injEq, V.i.injEq, true_and, and_true] at h; rw [S23.d_inj _ _ h.1, h.2.1, h.2.2]) hx rfl
set_option maxRecDepth 100000 in
theorem sem (rs : List (List V)) (h : HasAll Try.prog [24,3,3] rs) : Mx.Sem Try.prog 7 (argsD Try.prog [24,3,3] rs) [] (.v (.b true)) [] := by
  obtain ⟨r0, _, rfl, a0, b0⟩ := HasAll.cons h
  obtain ⟨r1, _, rfl, a1, b1⟩ := HasAll.cons b0
  obtain ⟨r2, _, rfl, a2, b2⟩ := HasAll.cons b1
  obtain rfl := HasAll.nil b2
  obtain ⟨x0, rfl, o0⟩ := S23.of24 a0
  obtain ⟨x1, rfl, o1⟩ := has_int Try.underlying3 a1
  obtain ⟨x2, rfl, o2⟩ := has_int Try.underlying3 a2
  simp only [argsD, argD_struct Try.underlying24, argD_int Try.underlying3]
  exact O27_sound _ _ _ _ _ (O27_7 (x0, x1, x2) ⟨o0, (okI_of o1), (okI_of o2)⟩)
end CLedgerBehinds
end Go.Proofs.Ytnjkmbogbfjffaa
