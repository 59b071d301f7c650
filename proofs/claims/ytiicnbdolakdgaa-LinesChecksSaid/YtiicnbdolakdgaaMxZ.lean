/- Code, loops, functions. -/
import Derived.Test.YtiicnbdolakdgaaMxY
set_option linter.unusedVariables false
set_option linter.unusedSimpArgs false
set_option linter.constructorNameAsVariable false
set_option linter.unnecessarySimpa false
namespace Go.Mx
open Go

section
variable {P : Program} {w : World} {G : Gh} {tmps : Array Value} {σ σ' : St} {ds : List Deferred} {C : Oracle} {ν : Note} {o : Oper}

/-- Every region of the code is sound, and every loop that it names is the body's. -/
def CodeOk (P : Program) (C : Oracle) (ν : Note) (n : Nat) (body : Code) : Code → Prop
  | .region id ops draw => RegionOk P C ν n id ops draw
  | .seq a b => CodeOk P C ν n body a ∧ CodeOk P C ν n body b
  | .cond _ a b => CodeOk P C ν n body a ∧ CodeOk P C ν n body b
  | .block id (.loop c) => findLoop id body = some c ∧ CodeOk P C ν n body c
  | .block _ c => CodeOk P C ν n body c
  | _ => True

def LoopsOk (P : Program) (n : Nat) (body : Code) (L : Loops) : Prop :=
  ∀ id c, findLoop id body = some c → ∀ (w : World) (G : Gh) (tmps : Array Value) (ds : List Deferred) (σ : St) (ex : Ex) (σ' : St), tmps.size = n → Fine w.heap G tmps σ → L id σ = some (ex, σ') → Reach P (.block id (.loop c)) w G ⟨tmps, ds⟩ σ ex σ'

theorem evCode_ok {n : Nat} {body : Code} {L : Loops} (LO : LoopsOk P n body L) : ∀ (c : Code) (w : World) (G : Gh) (tmps : Array Value) (σ : St) (ex : Ex) (σ' : St), CodeOk P C ν n body c → tmps.size = n → Fine w.heap G tmps σ → evCode (tyOf P) C L ν c σ = some (ex, σ') → Reach P c w G ⟨tmps, ds⟩ σ ex σ' := by
  intro c
  induction c with
  | skip =>
    intro w G tmps σ ex σ' _ _ F he Q hQ
    simp only [evCode, Option.some.injEq, Prod.mk.injEq] at he
    obtain ⟨rfl, rfl⟩ := he
    exact wp_skip (hQ _ _ w G rfl rfl rfl F (Goes.refl _ _ _))
  | region id ops draw =>
    intro w G tmps σ ex σ' ok hn F he Q hQ
    simp only [evCode] at he
    cases hr : evRegion (tyOf P) C ν id ops.toList draw σ with
    | none => rw [hr] at he; cases he
    | some σ1 =>
      rw [hr] at he
      simp only [Option.some.injEq, Prod.mk.injEq] at he
      obtain ⟨rfl, rfl⟩ := he
      refine ok w G tmps ds σ σ1 hn F hr Q ?_
      intro e a' w' G' h1 h2 h3 F' g'
      obtain ⟨G2, R2, S2, c2⟩ := F'.rel.prune (ν.keep id)
      exact hQ e a' w' G2 h1 h2 h3 ⟨R2, fun k j => by rw [c2]; exact F'.clean k j, F'.low⟩ (g'.trans (S2.goes rfl))
  | seq a b iha ihb =>
    intro w G tmps σ ex σ' ok hn F he Q hQ
    simp only [CodeOk] at ok
    simp only [evCode] at he
    refine wp_seq ?_
    cases ha : evCode (tyOf P) C L ν a σ with
    | none => rw [ha] at he; cases he
    | some p =>
      obtain ⟨e1, σ1⟩ := p
      rw [ha] at he
      refine iha w G tmps σ e1 σ1 ok.1 hn F ha _ ?_
      intro e a' w' G' h1 h2 h3 F' g'
      cases e1 with
      | normal =>
        simp only at he
        cases h1
        obtain ⟨tmps', ds'⟩ := a'
        simp only at h2 h3 F'
        simp only [Exit.then]
        rw [h2]
        refine ihb w' G' tmps' σ1 ex σ' ok.2 (h3.trans hn) F' he Q ?_
        intro e2 a2 w2 G2 k1 k2 k3 F2 g2
        exact hQ e2 a2 w2 G2 k1 k2 (k3.trans h3) F2 (g'.trans g2)
      | exit id =>
        simp only [Option.some.injEq, Prod.mk.injEq] at he
        obtain ⟨rfl, rfl⟩ := he
        cases h1
        exact hQ _ a' w' G' rfl h2 h3 F' g'
      | ret =>
        simp only [Option.some.injEq, Prod.mk.injEq] at he
        obtain ⟨rfl, rfl⟩ := he
        cases h1
        exact hQ _ a' w' G' rfl h2 h3 F' g'
  | cond x a b iha ihb =>
    intro w G tmps σ ex σ' ok hn F he Q hQ
    simp only [CodeOk] at ok
    cases x with
    | tmp t =>
      simp only [evCode] at he
      split at he
      · rename_i x hl
        have hr := F.rel.env t
        rw [hl] at hr
        have hv : (⟨tmps, ds⟩ : Act).eval (.tmp t) = .bool x := RD.bool hr
        refine wp_cond hv ?_
        cases x with
        | true => rw [cond_true] at he; exact iha w G tmps σ ex σ' ok.1 hn F he Q hQ
        | false => rw [cond_false] at he; exact ihb w G tmps σ ex σ' ok.2 hn F he Q hQ
      · cases he
    | _ => simp [evCode] at he
  | block id c ih =>
    intro w G tmps σ ex σ' ok hn F he Q hQ
    have other : CodeOk P C ν n body c → unblock id (evCode (tyOf P) C L ν c σ) = some (ex, σ') → (Code.block id c).wp P Q ⟨tmps, ds⟩ w := by
      intro ok he
      refine wp_block ?_
      cases hc : evCode (tyOf P) C L ν c σ with
      | none => rw [hc] at he; cases he
      | some p =>
        obtain ⟨e1, σ1⟩ := p
        rw [hc] at he
        refine ih w G tmps σ e1 σ1 ok hn F hc _ ?_
        intro e a' w' G' h1 h2 h3 F' g'
        cases e1 with
        | normal =>
          simp only [unblock, Option.some.injEq, Prod.mk.injEq] at he
          obtain ⟨rfl, rfl⟩ := he
          cases h1
          exact hQ _ a' w' G' rfl h2 h3 F' g'
        | ret =>
          simp only [unblock, Option.some.injEq, Prod.mk.injEq] at he
          obtain ⟨rfl, rfl⟩ := he
          cases h1
          exact hQ _ a' w' G' rfl h2 h3 F' g'
        | exit id' =>
          cases h1
          simp only [unblock] at he
          simp only [Exit.inBlock]
          by_cases hid : id' = id
          · subst hid
            simp only [beq_self_eq_true, cond_true, Option.some.injEq, Prod.mk.injEq] at he
            obtain ⟨rfl, rfl⟩ := he
            rw [if_pos rfl]
            exact hQ _ a' w' G' rfl h2 h3 F' g'
          · have hb : (id' == id) = false := by simpa using hid
            rw [hb, cond_false] at he
            simp only [Option.some.injEq, Prod.mk.injEq] at he
            obtain ⟨rfl, rfl⟩ := he
            rw [if_neg hid]
            exact hQ _ a' w' G' rfl h2 h3 F' g'
    cases c with
    | loop c' =>
      simp only [CodeOk] at ok
      simp only [evCode] at he
      exact LO id c' ok.1 w G tmps ds σ ex σ' hn F he Q hQ
    | _ => exact other ok he
  | exit id =>
    intro w G tmps σ ex σ' _ _ F he Q hQ
    simp only [evCode, Option.some.injEq, Prod.mk.injEq] at he
    obtain ⟨rfl, rfl⟩ := he
    exact wp_exit (hQ _ _ w G rfl rfl rfl F (Goes.refl _ _ _))
  | ret =>
    intro w G tmps σ ex σ' _ _ F he Q hQ
    simp only [evCode, Option.some.injEq, Prod.mk.injEq] at he
    obtain ⟨rfl, rfl⟩ := he
    exact wp_ret (hQ _ _ w G rfl rfl rfl F (Goes.refl _ _ _))
  | _ =>
    intro w G tmps σ ex σ' _ _ F he Q hQ
    simp [evCode] at he
end
end Go.Mx
