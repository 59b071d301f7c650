/- Functions: several results, frozen. -/
import Derived.Test.YtiicnbdolakdgaaMxZd
set_option linter.unusedVariables false
set_option linter.unusedSimpArgs false
set_option linter.constructorNameAsVariable false
set_option linter.unnecessarySimpa false
namespace Go.Mx
open Go

section
variable {P : Program} {w : World} {h : Array Obj} {G : Gh} {tmps : Array Value} {σ σ' : St} {ds : List Deferred} {C : Oracle} {ν : Note}

/-- Does that place stay a variable's of the caller? -/
def oldCell (n : Nat) : Loc → Bool
  | .cell o _ => decide (o < n)
  | _ => false

open Classical in
noncomputable def frzRd (h : Array Obj) (G : Gh) (n : Nat) : Rd := fun b => if (∃ l f, oldCell n l = false ∧ G.ow l = some (b, f)) then (match h[b]? with | some (.cells c _ _) => some c | _ => none) else G.rd b

/-- All that the registers and the younger variables own is frozen; they are left. -/
theorem leave_many {n : Nat} (R : Rel h G tmps σ) (low : Low σ.S) (hn : n ≤ σ.S.length) :
    ∃ G', Rel h G' #[] ⟨[], σ.S.take n⟩ ∧ Clean G' ∧ Below0 n G G' ∧ (∀ l b f c e fr, oldCell n l = false → G.ow l = some (b, f) → h[b]? = some (.cells c e fr) → G'.rd b = some c) ∧ (∀ o, o < n → G'.ob o = G.ob o) ∧ (∀ b, mine G' b → mine G b) ∧ (∀ b, G'.rd b ≠ none → G.rd b ≠ none ∨ mine G b) := by
  let ob : Nat → Option Nat := fun o => if o < n then G.ob o else none
  let ow : Loc → Option (Nat × Nat) := fun l => bif oldCell n l then G.ow l else none
  have hs : ∀ l p, ow l = some p → G.ow l = some p ∧ oldCell n l = true := by
    intro l p hl
    simp only [ow] at hl
    cases ho : oldCell n l with
    | true => rw [ho] at hl; exact ⟨hl, rfl⟩
    | false => rw [ho] at hl; cases hl
  have hk : ∀ l, oldCell n l = true → ow l = G.ow l := fun l hl => by simp [ow, hl]
  have hobs : ∀ o b, ob o = some b → G.ob o = some b ∧ o < n := by
    intro o b hb
    simp only [ob] at hb
    split at hb
    · rename_i h; exact ⟨hb, h⟩
    · cases hb
  have hobk : ∀ o, o < n → ob o = G.ob o := fun o ho => by simp [ob, ho]
  have r1 : ∀ b, (¬ ∃ l f, oldCell n l = false ∧ G.ow l = some (b, f)) → frzRd h G n b = G.rd b := fun b hb => by unfold frzRd; rw [if_neg hb]
  have r2 : ∀ l b f c e fr, oldCell n l = false → G.ow l = some (b, f) → h[b]? = some (.cells c e fr) → frzRd h G n b = some c := fun l b f c e fr h0 h1 h2 => by unfold frzRd; rw [if_pos ⟨l, f, h0, h1⟩, h2]
  have hle : RdLe G.rd (frzRd h G n) := by
    intro b c hc
    rw [r1]
    · exact hc
    · rintro ⟨l, f, _, hl⟩
      rw [R.inv.ow_rd l b f hl] at hc; cases hc
  have I : Inv h { rd := frzRd h G n, ob := ob, ow := ow } := {
    rd_ok := fun b c hc => by
      by_cases hb : ∃ l f, oldCell n l = false ∧ G.ow l = some (b, f)
      · have hc' : frzRd h G n b = some c := hc
        unfold frzRd at hc'
        rw [if_pos hb] at hc'
        split at hc'
        · rename_i c' e fr hcell; cases hc'; exact ⟨e, fr, hcell⟩
        · cases hc'
      · exact R.inv.rd_ok b c (by rw [← r1 b hb]; exact hc)
    ob_lt := fun o b hb => R.inv.ob_lt o b (hobs o b hb).1
    ob_rd := fun o b hb => by
      show frzRd h G n b = none
      rw [r1]
      · exact R.inv.ob_rd o b (hobs o b hb).1
      · rintro ⟨l, f, _, hl⟩
        exact R.inv.ow_ob l b f o hl (hobs o b hb).1
    ob_inj := fun o o' b h1 h2 => R.inv.ob_inj o o' b (hobs o b h1).1 (hobs o' b h2).1
    ow_lt := fun l b f hl => R.inv.ow_lt l b f (hs l _ hl).1
    ow_rd := fun l b f hl => by
      show frzRd h G n b = none
      obtain ⟨h1, h2⟩ := hs l _ hl
      rw [r1]
      · exact R.inv.ow_rd l b f h1
      · rintro ⟨l', f', h0, hl'⟩
        have := R.inv.ow_inj l l' b f f' h1 hl'
        rw [this, h0] at h2; cases h2
    ow_ob := fun l b f o hl ho => R.inv.ow_ob l b f o (hs l _ hl).1 (hobs o b ho).1
    ow_inj := fun l l' b f f' h1 h2 => R.inv.ow_inj l l' b f f' (hs l _ h1).1 (hs l' _ h2).1 }
  have B : Below0 n G { rd := frzRd h G n, ob := ob, ow := ow } := ⟨hle, fun o b ho hb => (by show ob o = some b; rw [hobk o ho]; exact hb)⟩
  refine ⟨{ rd := frzRd h G n, ob := ob, ow := ow }, ?_, fun k j => rfl, B, r2, hobk, ?_, ?_⟩
  · refine Rel.bare I ?_ ?_ ?_ ?_
    · intro o cs hcs
      have hoo : o < n ∧ σ.S[o]? = some cs := by
        rw [List.getElem?_take] at hcs
        split at hcs
        · rename_i h; exact ⟨h, hcs⟩
        · cases hcs
      obtain ⟨b, c, e, fr, h1, h2, h3, h4⟩ := R.obj o cs hoo.2
      refine ⟨b, c, e, fr, by show ob o = some b; rw [hobk o hoo.1]; exact h1, h2, h3, ?_⟩
      exact RDs.lowC B cs _ 0 0 (low_mono (Nat.le_of_lt hoo.1) (low o cs hoo.2)) (fun i d _ _ p hp => (hk (.cell o (0 + i)) (by simpa [oldCell] using hoo.1)).trans hp) h4
    · intro o cs hcs
      rw [List.getElem?_take] at hcs
      split at hcs
      · exact R.obc o cs hcs
      · cases hcs
    · intro o hoo
      show ob o = none
      simp only [List.length_take] at hoo
      simp only [ob]
      rw [if_neg (by omega)]
    · intro l p hh hl
      obtain ⟨h1, h2⟩ := hs l p hl
      have := R.own l p hh h1
      cases l with
      | cell o j =>
        have h0 : o < n := by simpa [oldCell] using h2
        unfold ownsAt at *
        simp only at *
        rw [List.getElem?_take, if_pos h0]; exact this
      | _ => cases h2
  · rintro b (⟨o, hb⟩ | ⟨l, f, hl⟩)
    · exact .inl ⟨o, (hobs o b hb).1⟩
    · exact .inr ⟨l, f, (hs l _ hl).1⟩
  · intro b hb
    have hb' : frzRd h G n b ≠ none := hb
    by_cases hx : ∃ l f, oldCell n l = false ∧ G.ow l = some (b, f)
    · obtain ⟨l, f, _, hl⟩ := hx; exact .inr (.inr ⟨l, f, hl⟩)
    · rw [r1 b hx] at hb'; exact .inl hb'

/-- A result, frozen. -/
theorem RD.out {n : Nat} {G' : Gh} {src : Nat → Loc} {d : D} {v : Value} (B : Below0 n G G') (hfz : ∀ l b f c e fr, oldCell n l = false → G.ow l = some (b, f) → h[b]? = some (.cells c e fr) → G'.rd b = some c) (hsrc : (∃ t, src = Loc.reg t) ∨ ∃ o, n ≤ o ∧ src = Loc.cell o)
    (ho : outTup n (frz d) = true) (hr : RD h G src d v) : ∀ loc, RD h G' loc (frz d) v := by
  have hold : ∀ j, oldCell n (src j) = false := by
    intro j
    rcases hsrc with ⟨t, rfl⟩ | ⟨o, h1, rfl⟩
    · rfl
    · simp [oldCell]; omega
  have cell : ∀ (j : Nat) (d : D) (v : Value) (loc : Loc), Mx.lowC n (frzC d) = true → RD h G (fun _ => src j) d v → RD h G' (fun _ => loc) (frzC d) v := by
    intro j d v loc hl hd
    cases d with
    | own sz l =>
      have := RD.toV (G := G) (loc := fun _ => src j) (d := .own sz l) (x := .sl sz l) B.rd (fun b f _ hb c e fr hcell => hfz _ b f c e fr (hold j) hb hcell) hd rfl
      simpa only [frzC, RD] using this
    | _ => exact RD.lowC (l := src j) (l' := loc) B hl (fun h => by cases h) hd
  have cells : ∀ (ds : List D) (vs : List Value) (j j' : Nat) (loc : Nat → Loc), (ds.map frzC).all (Mx.lowC n) = true → RDs h G src j ds vs → RDs h G' loc j' (ds.map frzC) vs := by
    intro ds
    induction ds with
    | nil => intro vs j j' loc _ hd; cases vs with
      | nil => simp only [List.map_nil, RDs]
      | cons _ _ => simp only [RDs] at hd
    | cons d r ih => intro vs j j' loc hok hd; cases vs with
      | nil => simp only [RDs] at hd
      | cons v vs =>
        simp only [List.map_cons, List.all_cons, Bool.and_eq_true] at hok
        simp only [List.map_cons, RDs] at *
        exact ⟨cell j d v _ hok.1 hd.1, ih vs _ _ loc hok.2 hd.2⟩
  intro loc
  cases d with
  | agg cs =>
    simp only [frz, outTup] at ho
    simp only [RD, frz] at *
    obtain ⟨vs, g1, g2⟩ := hr
    refine ⟨vs, g1, cells cs _ 0 0 loc ?_ g2⟩
    rw [List.all_eq_true] at *
    intro d hd
    have := ho d hd
    simp only [Bool.and_eq_true] at this
    exact this.2
  | own sz l =>
    have := cell 0 (.own sz l) v (loc 0) rfl (by simpa only [RD] using hr)
    simpa only [frz, frzC, RD] using this
  | clo f cs =>
    simp only [frz, frzC, outTup, Bool.and_eq_true] at ho
    have := cell 0 (.clo f cs) v (loc 0) ho.2 (by simpa only [RD] using hr)
    simpa only [frz, frzC, RD] using this
  | v x => exact RD.lowP B rfl hr
  | ptr q off =>
    simp only [frz, frzC, outTup, Bool.and_eq_true] at ho
    have : RD h G' loc (.ptr q off) v := RD.lowP (d := .ptr q off) B (by simpa [Mx.lowC, Mx.lowP] using ho.2) hr
    exact this
  | cut sz l => exact RD.lowP B rfl hr
  | rp c => exact RD.lowP B rfl hr
  | undef => exact RD.lowP B rfl hr
  | bad => exact RD.lowP B rfl hr
  | nilp => exact RD.lowP B rfl hr
  | _ => simp [frz, frzC, outTup, cellOk, stayC] at ho
end
end Go.Mx
