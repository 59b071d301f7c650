/- Loops and functions. -/
import Derived.Test.YtiicnbdolakdgaaMxZa
set_option linter.unusedVariables false
set_option linter.unusedSimpArgs false
set_option linter.constructorNameAsVariable false
set_option linter.unnecessarySimpa false
namespace Go.Mx
open Go

section
variable {P : Program} {w : World} {G : Gh} {tmps : Array Value} {σ σ' : St} {ds : List Deferred} {C : Oracle} {ν : Note}

theorem all_look {n : Nat} : ∀ (env : Env), env.all (fun e => lowA n e.2) = true → ∀ t, lowA n (look env t) = true
  | [], _, t => rfl
  | (u, d) :: r, h, t => by
    simp only [List.all_cons, Bool.and_eq_true] at h
    simp only [look]
    cases u == t with
    | true => exact h.1
    | false => exact all_look r h.2 t

/-- From a state to one where younger variables are forgotten. -/
theorem trunc_ok {n : Nat} {w' : World} {G' : Gh} {σ0 σ2 : St} (F : Fine w'.heap G' tmps σ') (g : Goes w G σ0 w' G' σ') (hn : σ0.S.length = n) (ht : Mx.trunc n σ' = some σ2) : ∃ G2, Fine w'.heap G2 tmps σ2 ∧ Goes w G σ0 w' G2 σ2 := by
  unfold Mx.trunc at ht
  cases hl : (σ'.S.length == n) with
  | true =>
    rw [hl, cond_true, Option.some.injEq] at ht
    subst ht
    exact ⟨G', F, g⟩
  | false =>
    rw [hl, cond_false] at ht
    cases ha : σ'.env.all (fun e => lowA n e.2) with
    | false => rw [ha] at ht; cases ht
    | true =>
      rw [ha, cond_true, Option.some.injEq] at ht
      subst ht
      have hle : n ≤ σ'.S.length := by rw [← hn]; exact g.len
      obtain ⟨G2, R2, h1, h2, h3, h4, h5, _⟩ := F.rel.trunc F.low hle (all_look _ ha)
      refine ⟨G2, ⟨R2, fun k j => by rw [h3]; exact F.clean k j, F.low.take n⟩, ⟨⟨g.step.os, g.step.tape, g.step.output, g.step.size, g.step.keep, ?_, by rw [h1]; exact g.step.rd, by rw [h1]; exact g.step.rdn⟩, ?_, ?_⟩⟩
      · rintro b (⟨o, ho⟩ | ⟨l, f, hl⟩)
        · exact g.step.mine b (.inl ⟨o, h5 o b ho⟩)
        · exact g.step.mine b (.inr ⟨l, f, h4 l _ hl⟩)
      · simp only [List.length_take]; omega
      · intro o ho
        rw [h2 o (by omega), g.ob o ho]

theorem evL_ok {n : Nat} {body : Code} (okf : ∀ id c, findLoop id body = some c → CodeOk P C ν n body c) : ∀ k, LoopsOk P n body (evL (tyOf P) C ν body k) := by
  intro k
  induction k using Nat.strongRecOn with
  | _ k ih =>
    intro id c hf w G tmps ds σ ex σ' hn F he Q hQ
    -- the rounds that are left
    let I : Nat → Act → World → Prop := fun m a w1 => m ≤ k ∧ ∃ G1 σ1, a.defers = ds ∧ a.tmps.size = n ∧ Fine w1.heap G1 a.tmps σ1 ∧ Goes w G σ w1 G1 σ1 ∧ evL (tyOf P) C ν body m id σ1 = some (ex, σ')
    refine wp_block (wp_loop_ghost I k ⟨Nat.le_refl _, G, σ, rfl, hn, F, Goes.refl _ _ _, he⟩ ?_)
    rintro m ⟨tmps1, ds1⟩ w1 ⟨hmk, G1, σ1, hd1, hn1, F1, g1, he1⟩
    simp only at hd1 hn1 F1
    cases m with
    | zero => simp [evL] at he1
    | succ m =>
      simp only [evL, hf, evLoop] at he1
      have LO := ih m (by omega)
      cases hc : evCode (tyOf P) C (evL (tyOf P) C ν body m) ν c σ1 with
      | none => rw [hc] at he1; simp [unblock] at he1
      | some p =>
        obtain ⟨e1, σ2⟩ := p
        rw [hc] at he1
        refine evCode_ok LO c w1 G1 tmps1 σ1 e1 σ2 (okf id c hf) hn1 F1 hc _ ?_
        intro e a' w' G' h1 h2 h3 F' g'
        have fin : ∀ (e2 : Exit), Goes w G σ w' G' σ2 → (ex, σ') = (.normal, σ2) → Exit.inBlock id Q .normal a' w' := by
          intro _ gg hx
          cases hx
          exact hQ _ a' w' G' rfl (h2.trans hd1) (by rw [h3, hn1, hn]) F' gg
        cases e1 with
        | normal =>
          cases h1
          simp only at he1
          cases htr : trunc σ1.S.length σ2 with
          | none => rw [htr] at he1; cases he1
          | some σ3 =>
            rw [htr] at he1
            obtain ⟨G2, F2, g2⟩ := trunc_ok F' g' rfl htr
            exact ⟨m, by omega, by omega, G2, σ3, h2.trans hd1, h3.trans hn1, F2, g1.trans g2, he1⟩
        | ret =>
          cases h1
          simp only [unblock, Option.some.injEq, Prod.mk.injEq] at he1
          obtain ⟨rfl, rfl⟩ := he1
          exact hQ _ a' w' G' rfl (h2.trans hd1) (by rw [h3, hn1, hn]) F' (g1.trans g')
        | exit id' =>
          cases h1
          simp only [unblock] at he1
          simp only [Exit.then, Exit.inBlock]
          by_cases hid : id' = id
          · subst hid
            simp only [beq_self_eq_true, cond_true, Option.some.injEq, Prod.mk.injEq] at he1
            obtain ⟨rfl, rfl⟩ := he1
            rw [if_pos rfl]
            exact hQ _ a' w' G' rfl (h2.trans hd1) (by rw [h3, hn1, hn]) F' (g1.trans g')
          · have hb : (id' == id) = false := by simpa using hid
            rw [hb, cond_false] at he1
            simp only [Option.some.injEq, Prod.mk.injEq] at he1
            obtain ⟨rfl, rfl⟩ := he1
            rw [if_neg hid]
            exact hQ _ a' w' G' rfl (h2.trans hd1) (by rw [h3, hn1, hn]) F' (g1.trans g')
end
end Go.Mx
