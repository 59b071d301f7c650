/- One operation. -/
import Derived.Test.YtiicnbdolakdgaaMxV
set_option linter.unusedVariables false
set_option linter.unusedSimpArgs false
set_option linter.constructorNameAsVariable false
set_option linter.unnecessarySimpa false
namespace Go.Mx
open Go

section
variable {P : Program} {w : World} {G : Gh} {tmps : Array Value} {σ σ' : St} {ds : List Deferred} {C : Oracle} {ν : Note} {o : Oper}

/-! ### Guards -/
theorem getD_bool {t : Nat} {x : Bool} (h : tmps.getD t undef = .bool x) : tmps[t]? = some (.bool x) := by
  rw [Array.getD_eq_getD_getElem?] at h
  cases hc : tmps[t]? with
  | none => rw [hc] at h; simp [undef] at h
  | some v => rw [hc] at h; simp at h; rw [h]
theorem getD_undef {t : Nat} (h : tmps.getD t undef = undef) : tmps[t]? = none ∨ tmps[t]? = some undef := by
  rw [Array.getD_eq_getD_getElem?] at h
  cases hc : tmps[t]? with
  | none => exact .inl rfl
  | some v => rw [hc] at h; simp at h; rw [h]; exact .inr rfl

theorem guard_ok {h : Array Obj} {ops : Array Oper} {g : Bool} (R : Rel h G tmps σ) (hg : guardB ops.toList σ.env o.guard = some g) : Region.wanted o (yielded ops tmps) = g := by
  unfold Region.wanted
  unfold guardB at hg
  cases hgu : o.guard with
  | none => rw [hgu] at hg; simpa using hg
  | some p =>
    obtain ⟨j, want⟩ := p
    rw [hgu] at hg
    simp only at hg ⊢
    unfold yieldedD at hg
    unfold yielded
    rw [Array.getElem?_toList] at hg
    cases hj : ops[j]? with
    | none => rw [hj] at hg; cases hg
    | some o' =>
      rw [hj] at hg
      simp only at hg
      cases hd : o'.dst with
      | none => rw [hd] at hg; cases hg
      | some t =>
        rw [hd] at hg
        simp only [Option.bind_some, hd] at hg ⊢
        have hr := R.env t
        cases hl : look σ.env t with
        | v x =>
          rw [hl] at hr hg
          cases x with
          | b x =>
            simp only [Option.some.injEq] at hg
            rw [getD_bool (RD.bool hr)]
            subst hg
            cases want <;> cases x <;> rfl
          | _ => cases hg
        | mb q d =>
          rw [hl] at hr hg
          cases d with
          | v x =>
            cases x with
            | b x =>
              simp only [Option.some.injEq] at hg
              simp only [RD] at hr
              cases q with
              | true =>
                have h1 := hr.1 rfl
                simp only [RV] at h1
                rw [getD_bool h1]
                subst hg
                cases want <;> cases x <;> rfl
              | false =>
                have h1 := hr.2 rfl
                subst hg
                rcases getD_undef h1 with h2 | h2 <;> rw [h2] <;> rfl
            | _ => cases hg
          | _ => cases hg
        | undef =>
          rw [hl] at hr hg
          simp only [RD] at hr
          simp only [Option.some.injEq] at hg
          subst hg
          rcases getD_undef hr with h2 | h2 <;> rw [h2] <;> rfl
        | _ => rw [hl] at hg; cases hg

/-! ### Registers that may hold nothing -/
theorem offReg_mb {env : Env} {dst : Option Nat} {g : Bool} {d : D} : offReg env dst (.mb g d) = .mb g (offReg env dst d) := by
  unfold offReg
  cases dst with
  | none => rfl
  | some t => simp only; cases hasOwn (look env t) <;> simp [killB]

theorem Rel.setMb {h : Array Obj} (R : Rel h G tmps σ) {t : Nat} {g : Bool} {d : D} {v : Value} (ht : t < tmps.size) (ho : ownFree d = true) (hr : g = true → ∀ loc, RD h G loc d v) (hu : g = false → v = undef) :
    ∃ G', Rel h G' (tmps.setIfInBounds t v) { σ with env := setReg σ.env t (offReg σ.env (some t) (.mb g d)) } ∧ Same h G G' ∧ (∀ k j, G'.ow (.hand k j) = G.ow (.hand k j)) := by
  -- the register's new data owns nothing
  have none_of : ∀ (G' : Gh) (d0 : D), ownFree d0 = true → Rel h G' (tmps.setIfInBounds t v) { σ with env := setReg σ.env t d0 } → ∀ j, G'.ow (.reg t j) = none := by
    intro G' d0 hf R' j
    cases hw : G'.ow (.reg t j) with
    | none => rfl
    | some p =>
      exfalso
      have := R'.own _ p (fun _ _ h => by cases h) hw
      rw [ownsAt_eq] at this
      simp only [setReg, look_put, if_true] at this
      cases d0 with
      | agg cs =>
        simp only [dOwns] at this
        cases hj : cs[j]? with
        | none => rw [hj] at this; cases this
        | some d' =>
          rw [hj] at this
          have hff := List.all_eq_true.1 (by simpa [ownFree] using hf) d' (List.mem_of_getElem? hj)
          cases d' <;> first | (cases this; done) | simp [ownFreeC] at hff
      | _ => first | (cases this; done) | simp [ownFree] at hf
  have fin : ∀ (G' : Gh) (d0 d1 : D), (∀ j, G'.ow (.reg t j) = none) → Rel h G' (tmps.setIfInBounds t v) { σ with env := setReg σ.env t d0 } → RD h G' (Loc.reg t) d1 v → Rel h G' (tmps.setIfInBounds t v) { σ with env := setReg σ.env t d1 } := by
    intro G' d0 d1 hn R' hd
    have := R'.putStay (u := t) hn (d := d1) (by rw [getD_set _ _ _ _ ht]; simpa using hd)
    refine this.congr (fun u => ?_) rfl
    simp only [setReg, look_put]
    by_cases hu : t = u <;> simp [hu]
  rw [offReg_mb]
  cases g with
  | true =>
    obtain ⟨G', R', S', h1⟩ := R.setFree ht ho (hr rfl)
    have hfree : ownFree (offReg σ.env (some t) d) = true := offReg_free ho
    refine ⟨G', fin G' _ _ (none_of G' _ hfree R') R' ?_, S', h1⟩
    have := R'.env t
    rw [getD_set _ _ _ _ ht] at this
    simp only [setReg, look_put, if_true] at this
    simp only [RD]
    exact ⟨fun _ => this, fun h => by cases h⟩
  | false =>
    have hv := hu rfl
    obtain ⟨G', R', S', h1⟩ := R.setFree (d := .undef) (v := v) ht rfl (fun _ => by simp only [RD]; exact hv)
    have hfree : ownFree (offReg σ.env (some t) .undef) = true := offReg_free rfl
    refine ⟨G', fin G' _ _ (none_of G' _ hfree R') R' ?_, S', h1⟩
    simp only [RD]
    exact ⟨fun h => (by cases h), fun _ => hv⟩
end
end Go.Mx
