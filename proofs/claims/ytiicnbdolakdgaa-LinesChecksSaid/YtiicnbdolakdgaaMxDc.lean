/- What a work leaves alone. -/
import Derived.Test.YtiicnbdolakdgaaMxDb
set_option linter.unusedVariables false
set_option linter.unusedSimpArgs false
set_option linter.constructorNameAsVariable false
set_option linter.unnecessarySimpa false
namespace Go.Mx
open Go

theorem calmP_kill {p : Loc → Bool} {d : D} (h : calmP d = true) : killB p d = d := by
  cases d <;> simp_all [calmP, killB]
theorem killBs_all {p : Loc → Bool} {f : D → Bool} (hf : ∀ d, f d = true → killB p d = d) : ∀ {cs : List D}, cs.all f = true → killBs p cs = cs
  | [], _ => by simp only [killBs]
  | c :: cs, h => by
    simp only [List.all_cons, Bool.and_eq_true] at h
    simp only [killBs, hf c h.1, killBs_all hf h.2]
theorem calmC_kill {p : Loc → Bool} {d : D} (h : calmC d = true) : killB p d = d := by
  cases d <;> simp_all [calmC, killB]
  exact killBs_all (f := calmP) (fun d hd => calmP_kill hd) (by simpa [List.all_eq_true] using h)
theorem calm_kill {p : Loc → Bool} {d : D} (h : calm d = true) : killB p d = d := by
  cases d with
  | agg cs => simp only [calm] at h; simp only [killB, killBs_all (fun d hd => calmC_kill hd) h]
  | tup cs => simp only [calm] at h; simp only [killB, killBs_all (fun d hd => calmC_kill hd) h]
  | mb g d =>
    simp only [killB]
    congr 1
    cases d with
    | agg cs => simp only [calm] at h; simp only [killB, killBs_all (fun d hd => calmC_kill hd) h]
    | tup cs => simp only [calm] at h; simp only [killB, killBs_all (fun d hd => calmC_kill hd) h]
    | _ => exact calmC_kill (by simpa only [calm] using h)
  | _ => exact calmC_kill (by simpa only [calm] using h)
theorem noLocC_kill {p : Loc → Bool} {d : D} (h : noLocC d = true) : killB p d = d := by
  cases d <;> first | rfl | exact calmC_kill (by simpa only [noLocC] using h) | simp only [killB]
theorem noLoc_kill {p : Loc → Bool} {d : D} (h : noLoc d = true) : killB p d = d := by
  cases d with
  | agg cs => simp only [noLoc] at h; simp only [killB, killBs_all (fun d hd => noLocC_kill hd) h]
  | _ =>
    simp only [noLoc] at h
    first
      | (cases hn : noLocC _ with
         | true => exact noLocC_kill hn
         | false => rw [hn] at h; exact calm_kill h)
theorem imm_kill {u : Nat} {d : D} (h : immB d = true) : killB (inReg u) d = d := by
  unfold immB at h
  split at h
  · simp [killB, inReg]
  · simp [killB, inReg]
  · exact noLoc_kill h
theorem hasOwn_kill {p : Loc → Bool} (d : D) : hasOwn (killB p d) = hasOwn d := by
  have cell : ∀ c : D, ownFreeC (killB p c) = ownFreeC c := by
    intro c
    cases c <;> simp only [killB, ownFreeC]
    · cases p _ <;> rfl
    · cases p _ <;> rfl
  cases d with
  | agg cs =>
    simp only [killB, hasOwn, ownFree]
    congr 1
    induction cs with
    | nil => simp only [killBs]
    | cons c cs ih => simp only [killBs, List.all_cons, cell, ih]
  | al f sz l src => simp only [killB]; cases p src <;> rfl
  | ep src sz i off => simp only [killB]; cases p src <;> rfl
  | _ => simp only [killB] <;> rfl
theorem calmP_of_kill {p : Loc → Bool} {d : D} (h : calmP (killB p d) = true) : killB p d = d := by
  cases d with
  | al f sz l src => simp only [killB] at h; cases hp : p src <;> rw [hp] at h <;> simp [calmP] at h
  | ep src sz i off => simp only [killB] at h; cases hp : p src <;> rw [hp] at h <;> simp [calmP] at h
  | _ => first | rfl | (simp only [killB]; done) | (simp only [killB, calmP] at h; cases h)
theorem killBs_of {p : Loc → Bool} {f : D → Bool} (hf : ∀ d, f (killB p d) = true → killB p d = d) : ∀ {cs : List D}, (killBs p cs).all f = true → killBs p cs = cs
  | [], _ => by simp only [killBs]
  | c :: cs, h => by
    simp only [killBs, List.all_cons, Bool.and_eq_true] at h ⊢
    rw [hf c h.1, killBs_of hf h.2]
theorem calmC_of_kill {p : Loc → Bool} {d : D} (h : calmC (killB p d) = true) : killB p d = d := by
  cases d with
  | clo f cs =>
    simp only [killB, calmC] at h ⊢
    rw [killBs_of (f := calmP) (fun d hd => calmP_of_kill hd) h]
  | al f sz l src => simp only [killB] at h; cases hp : p src <;> rw [hp] at h <;> simp [calmC] at h
  | ep src sz i off => simp only [killB] at h; cases hp : p src <;> rw [hp] at h <;> simp [calmC] at h
  | _ => first | rfl | (simp only [killB]; done) | (simp only [killB, calmC] at h; cases h)
theorem calm_of_kill {p : Loc → Bool} {d : D} (h : calm (killB p d) = true) : killB p d = d := by
  have base : ∀ d : D, (∀ cs, d ≠ .agg cs) → (∀ cs, d ≠ .tup cs) → (∀ g c, d ≠ .mb g c) → calm (killB p d) = calmC (killB p d) := by
    intro d h1 h2 h3
    cases d <;> first | rfl | (simp only [killB]; rfl) | (exfalso; first | exact h1 _ rfl | exact h2 _ rfl | exact h3 _ _ rfl) | (simp only [killB]; cases p _ <;> rfl)
  cases d with
  | agg cs => simp only [killB, calm] at h ⊢; rw [killBs_of (f := calmC) (fun d hd => calmC_of_kill hd) h]
  | tup cs => simp only [killB, calm] at h ⊢; rw [killBs_of (f := calmC) (fun d hd => calmC_of_kill hd) h]
  | mb g d =>
    simp only [killB] at h ⊢
    congr 1
    cases d with
    | agg cs => simp only [killB, calm] at h ⊢; rw [killBs_of (f := calmC) (fun d hd => calmC_of_kill hd) h]
    | tup cs => simp only [killB, calm] at h ⊢; rw [killBs_of (f := calmC) (fun d hd => calmC_of_kill hd) h]
    | al f sz l src => simp only [killB] at h; cases hp : p src <;> rw [hp] at h <;> simp [calm, calmC] at h
    | ep src sz i off => simp only [killB] at h; cases hp : p src <;> rw [hp] at h <;> simp [calm, calmC] at h
    | _ => first | rfl | exact calmC_of_kill (by simpa only [killB, calm] using h)
  | _ => exact calmC_of_kill (by rw [← base _ (by simp) (by simp) (by simp)]; exact h)

structure Quiet (Y : Nat → Prop) (dst : Option Nat) (e e' : Env) : Prop where
  p1 : ∀ v, dst ≠ some v → immB (look e v) = true → hasOwn (look e v) = false → look e' v = look e v
  p2 : ∀ v, dst ≠ some v → calm (look e' v) = true → look e' v = look e v
  p3 : ∀ v, dst ≠ some v → ¬ Y v → hasOwn (look e' v) = hasOwn (look e v)

section
variable {Y : Nat → Prop} {dst : Option Nat} {e e' e'' : Env}
theorem Quiet.refl : Quiet Y dst e e := ⟨fun _ _ _ _ => rfl, fun _ _ _ => rfl, fun _ _ _ => rfl⟩
theorem Quiet.trans (a : Quiet Y dst e e') (b : Quiet Y dst e' e'') : Quiet Y dst e e'' where
  p1 v hv hi ho := by
    have h1 := a.p1 v hv hi ho
    rw [b.p1 v hv (by rw [h1]; exact hi) (by rw [h1]; exact ho), h1]
  p2 v hv hc := by
    have h1 := b.p2 v hv hc
    rw [h1, a.p2 v hv (by rw [← h1]; exact hc)]
  p3 v hv hy := by rw [b.p3 v hv hy, a.p3 v hv hy]
theorem Quiet.kill (u : Nat) : Quiet Y dst e (Mx.kill (inReg u) e) where
  p1 v hv hi ho := by rw [look_kill, imm_kill hi]
  p2 v hv hc := by rw [look_kill] at hc ⊢; exact calm_of_kill hc
  p3 v hv hy := by rw [look_kill, hasOwn_kill]
theorem Quiet.spend {x : Operand} (hx : ∀ u, x = .tmp u → Y u) : Quiet Y dst e (Mx.spend e x) := by
  unfold Mx.spend
  cases x with
  | tmp u =>
    simp only
    cases ho : hasOwn (look e u) with
    | false => exact Quiet.refl
    | true =>
      simp only [cond_true]
      refine ⟨fun v hv hi hv2 => ?_, fun v hv hc => ?_, fun v hv hy => ?_⟩
      · rw [look_put]
        split
        · rename_i h; subst h; rw [ho] at hv2; cases hv2
        · rw [look_kill, imm_kill hi]
      · rw [look_put] at hc ⊢
        split
        · rename_i h; rw [if_pos h] at hc; cases hc
        · rename_i h; rw [if_neg h, look_kill] at hc; rw [look_kill]; exact calm_of_kill hc
      · rw [look_put]
        split
        · rename_i h; exact absurd (hx u rfl) (h ▸ hy)
        · rw [look_kill, hasOwn_kill]
  | _ => exact Quiet.refl
theorem Quiet.setReg {u : Nat} {d : D} : Quiet Y (some u) e (Mx.setReg e u d) := by
  unfold Mx.setReg
  have h1 : Quiet Y (some u) e (bif hasOwn (look e u) then Mx.kill (inReg u) e else e) := by
    cases hasOwn (look e u) with
    | true => exact Quiet.kill u
    | false => exact Quiet.refl
  refine h1.trans ⟨fun v hv _ _ => ?_, fun v hv _ => ?_, fun v hv _ => ?_⟩
  all_goals (rw [look_put, if_neg (fun h => hv (by rw [h]))])
theorem Quiet.putDst {d : D} : Quiet Y dst e (Mx.putDst e dst d) := by
  unfold Mx.putDst
  cases dst with
  | none => exact Quiet.refl
  | some t => exact Quiet.setReg
theorem Quiet.takeParts : ∀ {ps : List (Nat × Operand)} {e e' : Env} {ds}, (∀ x ∈ ps, ∀ u, x.2 = .tmp u → Y u) → Mx.takeParts e ps = some (ds, e') → Quiet Y dst e e'
  | [], e, e', ds, _, h => by
    simp only [Mx.takeParts, Option.some.injEq, Prod.mk.injEq] at h
    rw [h.2]; exact Quiet.refl
  | (i, x) :: r, e, e', ds, hx, h => by
    simp only [Mx.takeParts] at h
    split at h
    · rename_i d _
      cases hv : valOk d with
      | false => rw [hv] at h; cases h
      | true =>
        rw [hv, cond_true] at h
        split at h
        · rename_i s e1 heq
          simp only [Option.some.injEq, Prod.mk.injEq] at h
          rw [← h.2]
          exact (Quiet.spend (hx (i, x) List.mem_cons_self)).trans (Quiet.takeParts (fun y hy => hx y (List.mem_cons_of_mem _ hy)) heq)
        · cases h
    · cases h
end
end Go.Mx
