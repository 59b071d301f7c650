/- The operations that change nothing but their own register. -/
import Derived.Test.YtiicnbdolakdgaaMxC
import Derived.Deep.MidRow
import Derived.Deep.AppendSrc
set_option linter.unusedSimpArgs false
set_option linter.unusedVariables false
set_option linter.constructorNameAsVariable false
set_option linter.unnecessarySimpa false
namespace Go.Mx
open Go

section types
variable {P : Program} {t : TypeId}
theorem tyOf_agg (h : (tyOf P t).agg = true) : ∃ i d, P.info? t = some i ∧ P.underlying t = some d ∧ d.isRow = true ∧ i.size = (tyOf P t).size ∧ i.bytes = (tyOf P t).bytes := by
  unfold tyOf at *
  split at h <;> try (simp at h; done)
  rename_i i fl hi hf
  simp only [hi, hf]
  cases hz : i.zero with
  | none => simp [hz] at h
  | some z =>
    simp only [hz] at h ⊢
    cases hu : P.underlying t with
    | none => simp [hu] at h
    | some d =>
      simp only [hu] at h ⊢
      cases d <;> simp at h <;> exact ⟨i, _, rfl, rfl, rfl, rfl, rfl⟩
theorem tyOf_one {k : Nat} (h : (tyOf P t).agg = false) (hf : (tyOf P t).flat = [k]) : ∃ i d, P.info? t = some i ∧ P.underlying t = some d ∧ d.isRow = false := by
  unfold tyOf at *
  split at h <;> try (simp_all; done)
  rename_i i fl hi hfl
  simp only [hi, hfl] at *
  cases hz : i.zero with
  | none => simp [hz] at hf
  | some z =>
    simp only [hz] at h hf ⊢
    cases hu : P.underlying t with
    | none => simp [hu] at hf
    | some d =>
      simp only [hu] at h hf ⊢
      cases d <;> simp at h hf <;> exact ⟨i, _, rfl, rfl, rfl⟩
theorem tyOf_struct {fs : List (Nat × Nat)} (h : (tyOf P t).tk = .struct fs) : ∃ i fs0, P.info? t = some i ∧ P.underlying t = some (.struct fs0) ∧ fs = fs0.toList.map (fun f => (f.offset, f.type)) ∧ (tyOf P t).agg = true := by
  unfold tyOf at *
  split at h <;> try (simp at h; done)
  rename_i i fl hi hf
  simp only [hi, hf]
  cases hz : i.zero with
  | none => simp [hz] at h
  | some z =>
    simp only [hz] at h ⊢
    cases hu : P.underlying t with
    | none => simp [hu] at h
    | some d =>
      simp only [hu] at h ⊢
      cases d <;> simp at h
      exact ⟨i, _, rfl, rfl, h.symm, rfl⟩
theorem tyOf_slice {e : Nat} (h : (tyOf P t).tk = .slice e) : ∃ i, P.info? t = some i ∧ P.underlying t = some (.slice e) := by
  unfold tyOf at *
  split at h <;> try (simp at h; done)
  rename_i i fl hi hf
  cases hz : i.zero with
  | none => simp [hz] at h
  | some z =>
    simp only [hz] at h
    cases hu : P.underlying t with
    | none => simp [hu] at h
    | some d =>
      simp only [hu] at h
      cases d <;> simp at h
      subst h
      exact ⟨i, hi, rfl⟩
theorem tyOf_array {n e : Nat} (h : (tyOf P t).tk = .array n e) : ∃ i, P.info? t = some i ∧ P.underlying t = some (.array n e) := by
  unfold tyOf at *
  split at h <;> try (simp at h; done)
  rename_i i fl hi hf
  cases hz : i.zero with
  | none => simp [hz] at h
  | some z =>
    simp only [hz] at h
    cases hu : P.underlying t with
    | none => simp [hu] at h
    | some d =>
      simp only [hu] at h
      cases d <;> simp at h
      obtain ⟨rfl, rfl⟩ := h
      exact ⟨i, hi, rfl⟩
theorem tyOf_int {k : IntKind} (h : (tyOf P t).tk = .int k) : ∃ i, P.info? t = some i ∧ P.underlying t = some (.int k) := by
  unfold tyOf at *
  split at h <;> try (simp at h; done)
  rename_i i fl hi hf
  cases hz : i.zero with
  | none => simp [hz] at h
  | some z =>
    simp only [hz] at h
    cases hu : P.underlying t with
    | none => simp [hu] at h
    | some d =>
      simp only [hu] at h
      cases d <;> simp at h
      subst h
      exact ⟨i, hi, rfl⟩
theorem tyOf_str (h : (tyOf P t).tk = .str) : ∃ i, P.info? t = some i ∧ P.underlying t = some .string := by
  unfold tyOf at *
  split at h <;> try (simp at h; done)
  rename_i i fl hi hf
  cases hz : i.zero with
  | none => simp [hz] at h
  | some z =>
    simp only [hz] at h
    cases hu : P.underlying t with
    | none => simp [hu] at h
    | some d =>
      simp only [hu] at h
      cases d <;> simp at h
      exact ⟨i, hi, rfl⟩
theorem tyOf_info (h : (tyOf P t).flat ≠ []) : ∃ i, P.info? t = some i ∧ (tyOf P t).size = i.size ∧ (tyOf P t).bytes = i.bytes := by
  unfold tyOf at *
  cases hi : P.info? t with
  | none => simp [hi] at h
  | some i =>
    cases hf : flatOf P 12 t with
    | none => simp [hi, hf] at h
    | some fl =>
      simp only [hi, hf] at h ⊢
      refine ⟨i, rfl, ?_⟩
      cases hz : i.zero with
      | none => simp [hz] at h
      | some z =>
        simp only [hz] at h ⊢
        cases hu : P.underlying t with
        | none => simp [hu] at h
        | some d =>
          simp only [hu] at h ⊢
          cases d <;> simp at h ⊢
end types

end Go.Mx
