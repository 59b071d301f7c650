/- Part of the proof by the machine Mx (plain data in place of memory): CRb. -/
import Derived.Test.YtiicnbdolakdgaaMxZj
import Derived.Test.YtiicnbdolakdgaaStr
import Derived.Test.YtiicnbdolakdgaaCRa
set_option linter.unusedVariables false
set_option linter.unusedSimpArgs false
set_option linter.constructorNameAsVariable false
namespace Go.Proofs.Ytiicnbdolakdgaa
open Go Go.Mx Go.Proofs
def A53 : Int × Int × Int → Prop := fun _ => True
def g53 : Int × Int × Int → List D × Store := fun x => ([.v (.i .i64 x.1), .v (.i .i64 x.2.1), .v (.i .i64 x.2.2)], [])
def q53 : Int × Int × Int → D × Store := fun x => (.v (.b (decide (x.2.1 ≤ x.1) && decide (x.1 ≤ x.2.2))), [])
noncomputable def O1 : Oracle := Oracle.add noC 53 A53 g53 q53
theorem O1_sound : SoundC Try.prog O1 := add_sound (noC_sound _) (fun x hx => sem_fn (k := 0) (ν := n53) (noC_sound _) Try.func53 (by kernel_rfl) (noDraw (by kernel_rfl)) (Nat.le_of_ble_eq_true (by kernel_rfl)) (r53 noC (evL TT noC n53 b53 (0)) x.1 x.2.1 x.2.2))
theorem O1_53 : ∀ x : Int × Int × Int, A53 x → O1 53 (g53 x).1 (g53 x).2 = some (q53 x) := fun x hx => add_eq (by intro x y h; simp only [g53, q53, Prod.mk.injEq, List.cons.injEq, D.v.injEq, D.agg.injEq, V.i.injEq, V.s.injEq, V.sl.injEq, V.b.injEq, rowS_inj, rowI_inj, rowB_inj, true_and, and_true] at h; first | rfl | rw [h] | simp only [q53, h]) hx rfl
def A54 : ByteArray → Prop := fun _ => True
def g54 : ByteArray → List D × Store := fun x => ([.v (.s x)], [])
def q54 : ByteArray → D × Store := fun x => (.v (.b (decide ((x.size : Int) ≤ 20))), [])
noncomputable def O2 : Oracle := Oracle.add O1 54 A54 g54 q54
theorem O2_sound : SoundC Try.prog O2 := add_sound O1_sound (fun x hx => sem_fn (k := 0) (ν := n54) O1_sound Try.func54 (by kernel_rfl) (noDraw (by kernel_rfl)) (Nat.le_of_ble_eq_true (by kernel_rfl)) (r54 O1 (evL TT O1 n54 b54 (0)) x))
theorem O2_54 : ∀ x : ByteArray, A54 x → O2 54 (g54 x).1 (g54 x).2 = some (q54 x) := fun x hx => add_eq (by intro x y h; simp only [g54, q54, Prod.mk.injEq, List.cons.injEq, D.v.injEq, D.agg.injEq, V.i.injEq, V.s.injEq, V.sl.injEq, V.b.injEq, rowS_inj, rowI_inj, rowB_inj, true_and, and_true] at h; first | rfl | rw [h] | simp only [q54, h]) hx rfl
theorem O2_53 : ∀ x : Int × Int × Int, A53 x → O2 53 (g53 x).1 (g53 x).2 = some (q53 x) := fun x hx => (add_ne (by decide) _ _).trans (O1_53 x hx)
def A55 : Int → Prop := fun _ => True
def g55 : Int → List D × Store := fun x => ([.v (.i .i64 x)], [])
def q55 : Int → D × Store := fun x => (.v (.b (decide (-1099511627776 ≤ x) && decide (x ≤ 1099511627776))), [])
noncomputable def O3 : Oracle := Oracle.add O2 55 A55 g55 q55
theorem O3_sound : SoundC Try.prog O3 := add_sound O2_sound (fun x hx => sem_fn (k := 0) (ν := n55) O2_sound Try.func55 (by kernel_rfl) (noDraw (by kernel_rfl)) (Nat.le_of_ble_eq_true (by kernel_rfl)) (r55 O2 (evL TT O2 n55 b55 (0)) x (fun a b c => O2_53 (a, b, c) trivial)))
theorem O3_55 : ∀ x : Int, A55 x → O3 55 (g55 x).1 (g55 x).2 = some (q55 x) := fun x hx => add_eq (by intro x y h; simp only [g55, q55, Prod.mk.injEq, List.cons.injEq, D.v.injEq, D.agg.injEq, V.i.injEq, V.s.injEq, V.sl.injEq, V.b.injEq, rowS_inj, rowI_inj, rowB_inj, true_and, and_true] at h; first | rfl | rw [h] | simp only [q55, h]) hx rfl
def A52 : ByteArray → Prop := fun _ => True
def g52 : ByteArray → List D × Store := fun x => ([.v (.s x)], [])
def q52 : ByteArray → D × Store := fun x => (.v (.b (decide (20 < (x.size : Int)))), [])
noncomputable def O4 : Oracle := Oracle.add O3 52 A52 g52 q52
theorem O4_sound : SoundC Try.prog O4 := add_sound O3_sound (fun x hx => sem_fn (k := 0) (ν := n52) O3_sound Try.func52 (by kernel_rfl) (noDraw (by kernel_rfl)) (Nat.le_of_ble_eq_true (by kernel_rfl)) (r52 O3 (evL TT O3 n52 b52 (0)) x))
theorem O4_52 : ∀ x : ByteArray, A52 x → O4 52 (g52 x).1 (g52 x).2 = some (q52 x) := fun x hx => add_eq (by intro x y h; simp only [g52, q52, Prod.mk.injEq, List.cons.injEq, D.v.injEq, D.agg.injEq, V.i.injEq, V.s.injEq, V.sl.injEq, V.b.injEq, rowS_inj, rowI_inj, rowB_inj, true_and, and_true] at h; first | rfl | rw [h] | simp only [q52, h]) hx rfl
def A72 : List ByteArray → Prop := fun x => okN 16 x.length
def g72 : List ByteArray → List D × Store := fun x => ([.v (.sl 1 (x.map rowS)), .clo 52 []], [])
def q72 : List ByteArray → D × Store := fun x => (.v (.i .i64 (match fi (fun s : ByteArray => decide (20 < (s.size : Int))) x 0 with | some j => (j : Int) | none => -1)), [])
noncomputable def O5 : Oracle := Oracle.add O4 72 A72 g72 q72
theorem O5_sound : SoundC Try.prog O5 := add_sound O4_sound (fun x hx => sem_fn (k := x.length + 1) (ν := n72) O4_sound Try.func72 (by kernel_rfl) (noDraw (by kernel_rfl)) (Nat.le_of_ble_eq_true (by kernel_rfl)) (r72 O4 (fun s : ByteArray => decide (20 < (s.size : Int))) (fun s => O4_52 s trivial) x (x.length + 1) (by omega) (by have : okN 16 x.length := hx; simp only [okN] at this; omega)))
theorem O5_72 : ∀ x : List ByteArray, A72 x → O5 72 (g72 x).1 (g72 x).2 = some (q72 x) := fun x hx => add_eq (by intro x y h; simp only [g72, q72, Prod.mk.injEq, List.cons.injEq, D.v.injEq, D.agg.injEq, V.i.injEq, V.s.injEq, V.sl.injEq, V.b.injEq, rowS_inj, rowI_inj, rowB_inj, true_and, and_true] at h; first | rfl | rw [h] | simp only [q72, h]) hx rfl
def A51 : List ByteArray → Prop := fun x => okN 16 x.length
def g51 : List ByteArray → List D × Store := fun x => ([.v (.sl 1 (x.map rowS)), .clo 52 []], [])
def q51 : List ByteArray → D × Store := fun x => (.v (.b (x.any (fun s : ByteArray => decide (20 < (s.size : Int))))), [])
noncomputable def O6 : Oracle := Oracle.add O5 51 A51 g51 q51
theorem O6_sound : SoundC Try.prog O6 := add_sound O5_sound (fun x hx => sem_fn (k := 0) (ν := n51) O5_sound Try.func51 (by kernel_rfl) (noDraw (by kernel_rfl)) (Nat.le_of_ble_eq_true (by kernel_rfl)) (r51 O5 (evL TT O5 n51 b51 (0)) (fun s : ByteArray => decide (20 < (s.size : Int))) x (O5_72 x hx)))
theorem O6_51 : ∀ x : List ByteArray, A51 x → O6 51 (g51 x).1 (g51 x).2 = some (q51 x) := fun x hx => add_eq (by intro x y h; simp only [g51, q51, Prod.mk.injEq, List.cons.injEq, D.v.injEq, D.agg.injEq, V.i.injEq, V.s.injEq, V.sl.injEq, V.b.injEq, rowS_inj, rowI_inj, rowB_inj, true_and, and_true] at h; first | rfl | rw [h] | simp only [q51, h]) hx rfl
def A25 : S52 → Prop := fun x : S52 => x.ok
def g25 : S52 → List D × Store := fun x : S52 => ([x.d], [])
def q25 : S52 → D × Store := fun x => (.v (.i .i64 (replyF x.a0 x.a2 x.a1 x.a3)), [])
noncomputable def O7 : Oracle := Oracle.add O6 25 A25 g25 q25
theorem O7_sound : SoundC Try.prog O7 := add_sound O6_sound (fun x hx => sem_fn (k := 0) (ν := n25) O6_sound Try.func25 (by kernel_rfl) (noDraw (by kernel_rfl)) (Nat.le_of_ble_eq_true (by kernel_rfl)) (r25 O6 (evL TT O6 n25 b25 (0)) x.a0 x.a2 x.a1 x.a3 (O6_51 x.a3 hx.2.2.2.1)))
theorem O7_25 : ∀ x : S52, A25 x → O7 25 (g25 x).1 (g25 x).2 = some (q25 x) := fun x hx => add_eq (by intro x y h; simp only [g25, q25, Prod.mk.injEq, List.cons.injEq, and_true] at h; rw [S52.d_inj _ _ h]) hx rfl
def A26 : S52 → Prop := fun x : S52 => x.ok
def g26 : S52 → List D × Store := fun x : S52 => ([x.d], [])
def q26 : S52 → D × Store := fun x => (.agg [.v (.i .i64 x.a0), .v (.s x.a1), .v (.i .i64 x.a2), .own 1 (x.a3.map rowS)], [])
noncomputable def O8 : Oracle := Oracle.add O7 26 A26 g26 q26
theorem O8_sound : SoundC Try.prog O8 := add_sound O7_sound (fun x hx => sem_fn (k := 0) (ν := n26) O7_sound Try.func26 (by kernel_rfl) (noDraw (by kernel_rfl)) (Nat.le_of_ble_eq_true (by kernel_rfl)) (r26 O7 (evL TT O7 n26 b26 (0)) x.a0 x.a2 x.a1 x.a3 (decide_eq_true (by have := hx.2.2.2.1; simp only [okN] at this; omega))))
theorem O8_26 : ∀ x : S52, A26 x → O8 26 (g26 x).1 (g26 x).2 = some (q26 x) := fun x hx => add_eq (by intro x y h; simp only [g26, q26, Prod.mk.injEq, List.cons.injEq, and_true] at h; rw [S52.d_inj _ _ h]) hx rfl
theorem O3_53 : ∀ x : Int × Int × Int, A53 x → O3 53 (g53 x).1 (g53 x).2 = some (q53 x) := fun x hx => (add_ne (by decide) _ _).trans (O2_53 x hx)
theorem O4_53 : ∀ x : Int × Int × Int, A53 x → O4 53 (g53 x).1 (g53 x).2 = some (q53 x) := fun x hx => (add_ne (by decide) _ _).trans (O3_53 x hx)
theorem O5_53 : ∀ x : Int × Int × Int, A53 x → O5 53 (g53 x).1 (g53 x).2 = some (q53 x) := fun x hx => (add_ne (by decide) _ _).trans (O4_53 x hx)
theorem O6_53 : ∀ x : Int × Int × Int, A53 x → O6 53 (g53 x).1 (g53 x).2 = some (q53 x) := fun x hx => (add_ne (by decide) _ _).trans (O5_53 x hx)
theorem O7_53 : ∀ x : Int × Int × Int, A53 x → O7 53 (g53 x).1 (g53 x).2 = some (q53 x) := fun x hx => (add_ne (by decide) _ _).trans (O6_53 x hx)
theorem O8_53 : ∀ x : Int × Int × Int, A53 x → O8 53 (g53 x).1 (g53 x).2 = some (q53 x) := fun x hx => (add_ne (by decide) _ _).trans (O7_53 x hx)
theorem O3_54 : ∀ x : ByteArray, A54 x → O3 54 (g54 x).1 (g54 x).2 = some (q54 x) := fun x hx => (add_ne (by decide) _ _).trans (O2_54 x hx)
theorem O4_54 : ∀ x : ByteArray, A54 x → O4 54 (g54 x).1 (g54 x).2 = some (q54 x) := fun x hx => (add_ne (by decide) _ _).trans (O3_54 x hx)
theorem O5_54 : ∀ x : ByteArray, A54 x → O5 54 (g54 x).1 (g54 x).2 = some (q54 x) := fun x hx => (add_ne (by decide) _ _).trans (O4_54 x hx)
theorem O6_54 : ∀ x : ByteArray, A54 x → O6 54 (g54 x).1 (g54 x).2 = some (q54 x) := fun x hx => (add_ne (by decide) _ _).trans (O5_54 x hx)
theorem O7_54 : ∀ x : ByteArray, A54 x → O7 54 (g54 x).1 (g54 x).2 = some (q54 x) := fun x hx => (add_ne (by decide) _ _).trans (O6_54 x hx)
theorem O8_54 : ∀ x : ByteArray, A54 x → O8 54 (g54 x).1 (g54 x).2 = some (q54 x) := fun x hx => (add_ne (by decide) _ _).trans (O7_54 x hx)
theorem O4_55 : ∀ x : Int, A55 x → O4 55 (g55 x).1 (g55 x).2 = some (q55 x) := fun x hx => (add_ne (by decide) _ _).trans (O3_55 x hx)
theorem O5_55 : ∀ x : Int, A55 x → O5 55 (g55 x).1 (g55 x).2 = some (q55 x) := fun x hx => (add_ne (by decide) _ _).trans (O4_55 x hx)
theorem O6_55 : ∀ x : Int, A55 x → O6 55 (g55 x).1 (g55 x).2 = some (q55 x) := fun x hx => (add_ne (by decide) _ _).trans (O5_55 x hx)
theorem O7_55 : ∀ x : Int, A55 x → O7 55 (g55 x).1 (g55 x).2 = some (q55 x) := fun x hx => (add_ne (by decide) _ _).trans (O6_55 x hx)
theorem O8_55 : ∀ x : Int, A55 x → O8 55 (g55 x).1 (g55 x).2 = some (q55 x) := fun x hx => (add_ne (by decide) _ _).trans (O7_55 x hx)
def A27 : S52 → Prop := fun x : S52 => x.ok
def g27 : S52 → List D × Store := fun x : S52 => ([x.d], [])
def q27 : S52 → D × Store := fun x => (.v (.i .i64 (replyF x.a0 x.a2 x.a1 x.a3)), [])
noncomputable def O9 : Oracle := Oracle.add O8 27 A27 g27 q27
theorem O9_sound : SoundC Try.prog O9 := add_sound O8_sound (fun x hx => sem_fn (k := x.a3.length + 1) (ν := n27) O8_sound Try.func27 (by kernel_rfl) (noDraw (by kernel_rfl)) (Nat.le_of_ble_eq_true (by kernel_rfl)) (r27 O8 x.a0 x.a2 x.a1 x.a3 (fun a b c => O8_53 (a, b, c) trivial) (fun s => O8_54 s trivial) (fun a => O8_55 a trivial) (x.a3.length + 1) (by omega) (by have := hx.2.2.2.1; simp only [okN] at this; omega)))
theorem O9_27 : ∀ x : S52, A27 x → O9 27 (g27 x).1 (g27 x).2 = some (q27 x) := fun x hx => add_eq (by intro x y h; simp only [g27, q27, Prod.mk.injEq, List.cons.injEq, and_true] at h; rw [S52.d_inj _ _ h]) hx rfl
theorem O8_25 : ∀ x : S52, A25 x → O8 25 (g25 x).1 (g25 x).2 = some (q25 x) := fun x hx => (add_ne (by decide) _ _).trans (O7_25 x hx)
theorem O9_25 : ∀ x : S52, A25 x → O9 25 (g25 x).1 (g25 x).2 = some (q25 x) := fun x hx => (add_ne (by decide) _ _).trans (O8_25 x hx)
theorem O9_26 : ∀ x : S52, A26 x → O9 26 (g26 x).1 (g26 x).2 = some (q26 x) := fun x hx => (add_ne (by decide) _ _).trans (O8_26 x hx)
def A7 : S52 → Prop := fun x : S52 => x.ok
def g7 : S52 → List D × Store := fun x : S52 => ([x.d], [])
def q7 : S52 → D × Store := fun x => (.v (.b true), [])
noncomputable def O10 : Oracle := Oracle.add O9 7 A7 g7 q7
theorem O10_sound : SoundC Try.prog O10 := add_sound O9_sound (fun x hx => sem_fn (k := 0) (ν := n7) O9_sound Try.func7 (by kernel_rfl) (noDraw (by kernel_rfl)) (Nat.le_of_ble_eq_true (by kernel_rfl)) (r7 O9 (evL TT O9 n7 b7 (0)) x.a0 x.a2 x.a1 x.a3 (O9_26 x hx) (O9_25 x hx) (O9_27 x hx)))
theorem O10_7 : ∀ x : S52, A7 x → O10 7 (g7 x).1 (g7 x).2 = some (q7 x) := fun x hx => add_eq (by intro x y h; simp only [g7, q7, Prod.mk.injEq, List.cons.injEq, and_true] at h; rw [S52.d_inj _ _ h]) hx rfl
theorem clientReplies_sem (rs : List (List V)) (h : HasAll Try.prog [53] rs) : Mx.Sem Try.prog 7 (argsD Try.prog [53] rs) [] (.v (.b true)) [] := by
  obtain ⟨r, _, rfl, h0, h1⟩ := h.cons
  obtain rfl := h1.nil
  obtain ⟨x, rfl, hx⟩ := S52.of53 h0
  rw [argsD_one, argD_struct Try.underlying53]
  exact O10_sound _ _ _ _ _ (O10_7 x hx)
end Go.Proofs.Ytiicnbdolakdgaa
