/- Functions: what is left behind. -/
import Derived.Test.YtiicnbdolakdgaaMxZc
set_option linter.unusedVariables false
set_option linter.unusedSimpArgs false
set_option linter.constructorNameAsVariable false
set_option linter.unnecessarySimpa false
namespace Go.Mx
open Go

section
variable {P : Program} {w : World} {h : Array Obj} {G : Gh} {tmps : Array Value} {σ σ' : St} {ds : List Deferred} {C : Oracle} {ν : Note}

theorem outOk_ok {n : Nat} {d : D} (ho : outOk n d = true) : valOk d = true ∨ ownFree d = true := by
  cases d with
  | al _ _ _ _ => exact .inr rfl
  | ep _ _ _ _ => exact .inr rfl
  | agg cs =>
    left
    simp only [outOk, valOk] at *
    rw [List.all_eq_true] at *
    intro d hd
    have := ho d hd
    simp only [Bool.and_eq_true] at this
    exact this.1
  | _ => left; simp only [outOk, Bool.and_eq_true] at ho; exact ho.1

/-- One result goes to hand 0; the registers and the younger variables are left. -/
theorem leave_one {n : Nat} (R : Rel h G tmps σ) (low : Low σ.S) (hn : n ≤ σ.S.length) {src : Nat → Loc} {d : D} {v : Value} (hr : RD h G src d v) (hown : ∀ j p, G.ow (src j) = some p → dOwns d j = true) (hsrc : (∃ t, src = Loc.reg t) ∨ ∃ o, n ≤ o ∧ src = Loc.cell o) (ho : outOk n d = true) :
    ∃ G', Rel h G' #[] ⟨[], σ.S.take n⟩ ∧ Res h G' n d v ∧ G'.rd = G.rd ∧ (∀ o, o < n → G'.ob o = G.ob o) ∧ (∀ b, mine G' b → mine G b) := by
  have hinjs : ∀ j j', src j = src j' → j = j' := by
    intro j j' e
    rcases hsrc with ⟨t, rfl⟩ | ⟨o, _, rfl⟩ <;> cases e <;> rfl
  have hnot : ∀ j o i, src j = .cell o i → n ≤ o := by
    intro j o i e
    rcases hsrc with ⟨t, rfl⟩ | ⟨o', h1, rfl⟩
    · cases e
    · cases e; exact h1
  have hnoth : ∀ j k i, src j ≠ .hand k i := by
    intro j k i e
    rcases hsrc with ⟨t, rfl⟩ | ⟨o', h1, rfl⟩ <;> cases e
  let ob : Nat → Option Nat := fun o => if o < n then G.ob o else none
  let ow : Loc → Option (Nat × Nat) := fun l => match l with
    | .hand k j => if k = 0 then G.ow (src j) else none
    | .cell o j => if o < n then G.ow (.cell o j) else none
    | _ => none
  have q1 : ∀ j, ow (.hand 0 j) = G.ow (src j) := fun j => by simp [ow]
  have q2 : ∀ k j, k ≠ 0 → ow (.hand k j) = none := fun k j hk => by simp [ow, hk]
  have q3 : ∀ o j, o < n → ow (.cell o j) = G.ow (.cell o j) := fun o j hl => by simp [ow, hl]
  have hs : ∀ l p, ow l = some p → (∃ j, l = .hand 0 j ∧ G.ow (src j) = some p) ∨ (∃ o j, l = .cell o j ∧ o < n ∧ G.ow l = some p) := by
    intro l p hl
    cases l with
    | hand k j =>
      by_cases hk : k = 0
      · subst hk; rw [q1] at hl; exact .inl ⟨j, rfl, hl⟩
      · rw [q2 k j hk] at hl; cases hl
    | cell o j =>
      by_cases hl' : o < n
      · rw [q3 o j hl'] at hl; exact .inr ⟨o, j, rfl, hl', hl⟩
      · simp only [ow] at hl; rw [if_neg hl'] at hl; cases hl
    | _ => cases hl
  have hobs : ∀ o b, ob o = some b → G.ob o = some b ∧ o < n := by
    intro o b hb
    simp only [ob] at hb
    split at hb
    · rename_i h; exact ⟨hb, h⟩
    · cases hb
  have hobk : ∀ o, o < n → ob o = G.ob o := fun o ho => by simp [ob, ho]
  have src_of : ∀ l p, ow l = some p → ∃ l0, G.ow l0 = some p := by
    intro l p hl
    rcases hs l p hl with ⟨j, _, h1⟩ | ⟨o, j, _, _, h1⟩
    · exact ⟨_, h1⟩
    · exact ⟨_, h1⟩
  have I : Inv h { rd := G.rd, ob := ob, ow := ow } := {
    rd_ok := R.inv.rd_ok
    ob_lt := fun o b hb => R.inv.ob_lt o b (hobs o b hb).1
    ob_rd := fun o b hb => R.inv.ob_rd o b (hobs o b hb).1
    ob_inj := fun o o' b h1 h2 => R.inv.ob_inj o o' b (hobs o b h1).1 (hobs o' b h2).1
    ow_lt := fun l b f hl => let ⟨l0, h0⟩ := src_of l _ hl; R.inv.ow_lt l0 b f h0
    ow_rd := fun l b f hl => let ⟨l0, h0⟩ := src_of l _ hl; R.inv.ow_rd l0 b f h0
    ow_ob := fun l b f o hl ho => let ⟨l0, h0⟩ := src_of l _ hl; R.inv.ow_ob l0 b f o h0 (hobs o b ho).1
    ow_inj := fun l l' b f f' h1 h2 => by
      rcases hs l _ h1 with ⟨j, rfl, g1⟩ | ⟨o, j, rfl, g0, g1⟩ <;> rcases hs l' _ h2 with ⟨j', rfl, k1⟩ | ⟨o', j', rfl, k0, k1⟩
      · rw [hinjs j j' (R.inv.ow_inj _ _ b f f' g1 k1)]
      · have := hnot j o' j' (R.inv.ow_inj _ _ b f f' g1 k1); omega
      · have := hnot j' o j (R.inv.ow_inj _ _ b f f' g1 k1).symm; omega
      · exact R.inv.ow_inj _ _ b f f' g1 k1 }
  have B : Below0 n G { rd := G.rd, ob := ob, ow := ow } := ⟨RdLe.refl _, fun o b ho hb => (by show ob o = some b; rw [hobk o ho]; exact hb)⟩
  refine ⟨{ rd := G.rd, ob := ob, ow := ow }, ?_, ⟨?_, outOk_ok ho, ?_⟩, rfl, hobk, ?_⟩
  · refine Rel.bare I ?_ ?_ ?_ ?_
    · intro o cs hcs
      have hoo : o < n ∧ σ.S[o]? = some cs := by
        rw [List.getElem?_take] at hcs
        split at hcs
        · rename_i h; exact ⟨h, hcs⟩
        · cases hcs
      obtain ⟨b, c, e, fr, h1, h2, h3, h4⟩ := R.obj o cs hoo.2
      refine ⟨b, c, e, fr, by show ob o = some b; rw [hobk o hoo.1]; exact h1, h2, h3, ?_⟩
      exact RDs.lowC B cs _ 0 0 (low_mono (Nat.le_of_lt hoo.1) (low o cs hoo.2)) (fun i d _ _ p hp => (q3 o _ hoo.1).trans hp) h4
    · intro o cs hcs
      rw [List.getElem?_take] at hcs
      split at hcs
      · exact R.obc o cs hcs
      · cases hcs
    · intro o hoo
      show ob o = none
      simp only [List.length_take] at hoo
      simp only [ob]
      rw [if_neg (by omega)]
    · intro l p hh hl
      rcases hs l p hl with ⟨j, rfl, _⟩ | ⟨o, j, rfl, h0, h1⟩
      · exact absurd rfl (hh _ _)
      · have := R.own _ p hh h1
        unfold ownsAt at *
        simp only at *
        rw [List.getElem?_take, if_pos h0]; exact this
  · have one : ∀ d : D, Mx.lowC n d = true → RD h G src d v → RD h { rd := G.rd, ob := ob, ow := ow } (Loc.hand 0) d v := by
      intro d hd hr
      cases d with
      | own sz l =>
        have hr' : RD h G (fun _ => src 0) (.own sz l) v := by simpa only [RD] using hr
        have := RD.lowC (l := src 0) (l' := .hand 0 0) B (d := .own sz l) rfl (fun _ p hp => (q1 0).trans hp) hr'
        simpa only [RD] using this
      | clo f cs =>
        have hr' : RD h G (fun _ => src 0) (.clo f cs) v := by simpa only [RD] using hr
        have := RD.lowC (l := src 0) (l' := .hand 0 0) B (d := .clo f cs) hd (fun h => by cases h) hr'
        simpa only [RD] using this
      | ptr o off => exact RD.lowP B (by simpa [Mx.lowC, Mx.lowP] using hd) hr
      | v x => exact RD.lowP B rfl hr
      | cut sz l => exact RD.lowP B rfl hr
      | rp c => exact RD.lowP B rfl hr
      | undef => exact RD.lowP B rfl hr
      | bad => exact RD.lowP B rfl hr
      | nilp => exact RD.lowP B rfl hr
      | _ => simp [Mx.lowC, cellOk, stayC] at hd
    cases d with
    | al f sz l s =>
      cases s with
      | cell so sf =>
        simp only [outOk, decide_eq_true_eq] at ho
        simp only [RD] at *
        rw [show ow (.cell so sf) = G.ow (.cell so sf) from q3 so sf ho]; exact hr
      | _ => simp [outOk] at ho
    | ep s sz i off =>
      cases s with
      | cell so sf =>
        simp only [outOk, decide_eq_true_eq] at ho
        simp only [RD] at *
        rw [show ow (.cell so sf) = G.ow (.cell so sf) from q3 so sf ho]; exact hr
      | _ => simp [outOk] at ho
    | agg cs =>
      simp only [outOk] at ho
      have hl : cs.all (Mx.lowC n) = true := by
        rw [List.all_eq_true] at *
        intro d hd
        have := ho d hd
        simp only [Bool.and_eq_true] at this
        exact this.2
      simp only [RD] at *
      obtain ⟨vs, h1, h2⟩ := hr
      exact ⟨vs, h1, RDs.lowC B cs _ 0 0 hl (fun i d _ _ p hp => (q1 (0 + i)).trans hp) h2⟩
    | _ => simp only [outOk, Bool.and_eq_true] at ho; exact one _ ho.2 hr
  · intro k j p hp
    rcases hs (.hand k j) p hp with ⟨j', e, h1⟩ | ⟨o, j', e, _⟩
    · cases e; exact ⟨rfl, hown j p h1⟩
    · cases e
  · rintro b (⟨o, hb⟩ | ⟨l, f, hl⟩)
    · exact .inl ⟨o, (hobs o b hb).1⟩
    · obtain ⟨l0, h0⟩ := src_of l _ hl; exact .inr ⟨l0, f, h0⟩
end
end Go.Mx
