/- Variables that are gone. -/
import Derived.Test.YtiicnbdolakdgaaMxZ
set_option linter.unusedVariables false
set_option linter.unusedSimpArgs false
set_option linter.constructorNameAsVariable false
set_option linter.unnecessarySimpa false
namespace Go.Mx
open Go

section
variable {P : Program} {h : Array Obj} {G G' : Gh} {tmps : Array Value} {σ σ' : St}

/-- What is known of the places below n stays known. -/
structure Below0 (n : Nat) (G G' : Gh) : Prop where
  rd : RdLe G.rd G'.rd
  ob : ∀ o b, o < n → G.ob o = some b → G'.ob o = some b
structure Below' (n : Nat) (G G' : Gh) : Prop extends Below0 n G G' where
  ow : ∀ l p, lowLoc n l = true → G.ow l = some p → G'.ow l = some p

theorem RD.lowP {n : Nat} (B : Below0 n G G') {loc loc' : Nat → Loc} {d : D} {v : Value} (hl : Mx.lowP n d = true) (hr : RD h G loc d v) : RD h G' loc' d v := by
  cases d with
  | ptr o off =>
    simp only [RD] at *
    obtain ⟨b, h1, h2⟩ := hr
    exact ⟨b, B.ob o b (by simpa [Mx.lowP] using hl) h1, h2⟩
  | v x => simp only [RD] at *; exact RV.mono B.rd _ _ hr
  | cut sz l =>
    simp only [RD] at *
    obtain ⟨base, h1, h2⟩ := hr
    exact ⟨base, h1, h2.imp id (fun ⟨b, off, c, g1, g2, g3⟩ => ⟨b, off, c, g1, B.rd _ _ g2, RVr.mono B.rd _ _ _ _ g3⟩)⟩
  | rp c =>
    simp only [RD] at *
    obtain ⟨b, off, c', g1, g2, g3⟩ := hr
    exact ⟨b, off, c', g1, B.rd _ _ g2, RVc.mono B.rd _ _ _ g3⟩
  | undef => simpa only [RD] using hr
  | bad => simp only [RD]
  | nilp => simpa only [RD] using hr
  | _ => simp [Mx.lowP, stayC] at hl
theorem RDs.lowP {n : Nat} (B : Below0 n G G') : ∀ (cs : List D) (vs : List Value) (j j' : Nat) (loc loc' : Nat → Loc), cs.all (Mx.lowP n) = true → RDs h G loc j cs vs → RDs h G' loc' j' cs vs
  | [], [], _, _, _, _, _, _ => by simp only [RDs]
  | d :: cs, v :: vs, j, j', loc, loc', hl, hr => by
    simp only [List.all_cons, Bool.and_eq_true] at hl
    simp only [RDs] at *
    exact ⟨RD.lowP B hl.1 hr.1, RDs.lowP B cs vs _ _ _ _ hl.2 hr.2⟩
  | [], _ :: _, _, _, _, _, _, hr => by simp only [RDs] at hr
  | _ :: _, [], _, _, _, _, _, hr => by simp only [RDs] at hr

/-- A cell (it may own what its place owns). -/
theorem RD.lowC {n : Nat} (B : Below0 n G G') {l l' : Loc} {d : D} {v : Value} (hl : Mx.lowC n d = true) (ho : isOwn d = true → ∀ p, G.ow l = some p → G'.ow l' = some p) (hr : RD h G (fun _ => l) d v) : RD h G' (fun _ => l') d v := by
  cases d with
  | own sz m =>
    simp only [RD] at *
    rcases hr with hr | ⟨b, off, cap, c, e, fr, h1, h2, h3, h4, h5, h6, h7⟩
    · exact .inl hr
    · exact .inr ⟨b, off, cap, c, e, fr, h1, ho rfl _ h2, h3, h4, h5, h6, RVr.mono B.rd _ _ _ _ h7⟩
  | clo f cs =>
    simp only [RD] at *
    obtain ⟨vs, h1, h2⟩ := hr
    exact ⟨vs, h1, RDs.lowP B cs _ 0 0 _ _ (by simpa [Mx.lowC] using hl) h2⟩
  | ptr o off => exact RD.lowP B (by simpa [Mx.lowC, Mx.lowP] using hl) hr
  | v x => exact RD.lowP B rfl hr
  | cut sz l => exact RD.lowP B rfl hr
  | rp c => exact RD.lowP B rfl hr
  | undef => exact RD.lowP B rfl hr
  | bad => exact RD.lowP B rfl hr
  | nilp => exact RD.lowP B rfl hr
  | _ => simp [Mx.lowC, cellOk, stayC] at hl
theorem RDs.lowC {n : Nat} (B : Below0 n G G') {loc loc' : Nat → Loc} : ∀ (cs : List D) (vs : List Value) (j j' : Nat), cs.all (Mx.lowC n) = true → (∀ i d, cs[i]? = some d → isOwn d = true → ∀ p, G.ow (loc (j + i)) = some p → G'.ow (loc' (j' + i)) = some p) → RDs h G loc j cs vs → RDs h G' loc' j' cs vs
  | [], [], _, _, _, _, _ => by simp only [RDs]
  | d :: cs, v :: vs, j, j', hl, ho, hr => by
    simp only [List.all_cons, Bool.and_eq_true] at hl
    simp only [RDs] at *
    refine ⟨RD.lowC B hl.1 (fun hd => by simpa using ho 0 d rfl hd) hr.1, RDs.lowC B cs vs _ _ hl.2 (fun i d' hd hown p hp => ?_) hr.2⟩
    have := ho (i + 1) d' (by simpa using hd) hown p (by rw [show j + (i + 1) = j + 1 + i by omega]; exact hp)
    rw [show j' + 1 + i = j' + (i + 1) by omega]; exact this
  | [], _ :: _, _, _, _, _, hr => by simp only [RDs] at hr
  | _ :: _, [], _, _, _, _, hr => by simp only [RDs] at hr

theorem RD.lowA {n : Nat} (B : Below' n G G') {loc loc' : Nat → Loc} {d : D} {v : Value} (hl : Mx.lowA n d = true) (ho : ∀ j p, G.ow (loc j) = some p → G'.ow (loc' j) = some p) (hr : RD h G loc d v) : RD h G' loc' d v := by
  have one : ∀ (d : D) (v : Value), Mx.lowC n d = true → RD h G loc d v → RD h G' loc' d v := by
    intro d v hd hr
    cases d with
    | own sz l =>
      have hr' : RD h G (fun _ => loc 0) (.own sz l) v := by simpa only [RD] using hr
      have := RD.lowC (l := loc 0) (l' := loc' 0) B.toBelow0 (d := .own sz l) rfl (fun _ p hp => ho 0 p hp) hr'
      simpa only [RD] using this
    | clo f cs =>
      have hr' : RD h G (fun _ => loc 0) (.clo f cs) v := by simpa only [RD] using hr
      have := RD.lowC (l := loc 0) (l' := loc' 0) B.toBelow0 (d := .clo f cs) hd (fun h => by cases h) hr'
      simpa only [RD] using this
    | ptr o off => exact RD.lowP B.toBelow0 (by simpa [Mx.lowC, Mx.lowP] using hd) hr
    | v x => exact RD.lowP B.toBelow0 rfl hr
    | cut sz l => exact RD.lowP B.toBelow0 rfl hr
    | rp c => exact RD.lowP B.toBelow0 rfl hr
    | undef => exact RD.lowP B.toBelow0 rfl hr
    | bad => exact RD.lowP B.toBelow0 rfl hr
    | nilp => exact RD.lowP B.toBelow0 rfl hr
    | _ => simp [Mx.lowC, cellOk, stayC] at hd
  cases d with
  | al f sz l src =>
    simp only [Mx.lowA] at hl
    simp only [RD] at *
    obtain ⟨h1, h2, h3⟩ := hr
    refine ⟨fun hf => ?_, ?_, h3⟩
    · rcases h1 hf with hr | ⟨b, off, cap, c, e, fr, h1, h2, h3, h4, h5, h6, h7⟩
      · exact .inl hr
      · exact .inr ⟨b, off, cap, c, e, fr, h1, B.ow _ _ hl h2, h3, h4, h5, h6, RVr.mono B.rd _ _ _ _ h7⟩
    · obtain ⟨base, cap, g1, g2, g3⟩ := h2
      refine ⟨base, cap, g1, g2, g3.imp id ?_⟩
      rintro ⟨b, off, o, c, e, fr, k1, k2, k3, k4⟩
      exact ⟨b, off, o, c, e, fr, k1, B.ow _ _ hl k2, k3, RVr.mono B.rd _ _ _ _ k4⟩
  | ep src sz i off =>
    simp only [Mx.lowA] at hl
    simp only [RD] at *
    obtain ⟨b, base, h1, h2, h3⟩ := hr
    exact ⟨b, base, B.ow _ _ hl h1, h2, h3⟩
  | agg cs =>
    simp only [Mx.lowA] at hl
    simp only [RD] at *
    obtain ⟨vs, h1, h2⟩ := hr
    exact ⟨vs, h1, RDs.lowC B.toBelow0 cs _ 0 0 hl (fun i d _ _ p hp => by simpa using ho i p (by simpa using hp)) h2⟩
  | tup cs =>
    simp only [Mx.lowA] at hl
    simp only [RD] at *
    obtain ⟨vs, h1, h2⟩ := hr
    exact ⟨vs, h1, RDs.lowC B.toBelow0 cs _ 0 0 hl (fun i d _ _ p hp => B.ow _ _ rfl hp) h2⟩
  | mb g d =>
    simp only [Mx.lowA] at hl
    simp only [RD] at *
    exact ⟨fun hg => one d v hl (hr.1 hg), hr.2⟩
  | _ => exact one _ v (by simpa only [Mx.lowA] using hl) hr

theorem low_mono {m n : Nat} {cs : List D} (hmn : m ≤ n) (h : cs.all (Mx.lowC m) = true) : cs.all (Mx.lowC n) = true := by
  rw [List.all_eq_true] at *
  intro d hd
  have h1 := h d hd
  cases d with
  | ptr q off => simp only [Mx.lowC, decide_eq_true_eq] at *; omega
  | clo f xs =>
    simp only [Mx.lowC] at *
    rw [List.all_eq_true] at *
    intro x hx
    have h2 := h1 x hx
    cases x with
    | ptr q off => simp only [Mx.lowP, decide_eq_true_eq] at *; omega
    | _ => exact h2
  | _ => exact h1

/-- Variables from n on are forgotten. -/
theorem Rel.trunc (R : Rel h G tmps σ) (low : Low σ.S) {n : Nat} (hn : n ≤ σ.S.length) (he : ∀ t, Mx.lowA n (look σ.env t) = true) : ∃ G', Rel h G' tmps { σ with S := σ.S.take n } ∧ G'.rd = G.rd ∧ (∀ o, o < n → G'.ob o = G.ob o) ∧ (∀ k j, G'.ow (.hand k j) = G.ow (.hand k j)) ∧
    (∀ l p, G'.ow l = some p → G.ow l = some p) ∧ (∀ o b, G'.ob o = some b → G.ob o = some b) ∧ Below' n G G' := by
  let ob : Nat → Option Nat := fun o => if o < n then G.ob o else none
  let ow : Loc → Option (Nat × Nat) := fun l => bif lowLoc n l then G.ow l else none
  have hsub : ∀ l q, ow l = some q → G.ow l = some q ∧ lowLoc n l = true := by
    intro l q hl
    simp only [ow] at hl
    cases hpl : lowLoc n l with
    | true => rw [hpl] at hl; exact ⟨hl, rfl⟩
    | false => rw [hpl] at hl; cases hl
  have hk : ∀ l, lowLoc n l = true → ow l = G.ow l := fun l hl => by simp [ow, hl]
  have hobs : ∀ o b, ob o = some b → G.ob o = some b ∧ o < n := by
    intro o b hb
    simp only [ob] at hb
    split at hb
    · rename_i h; exact ⟨hb, h⟩
    · cases hb
  have hobk : ∀ o, o < n → ob o = G.ob o := fun o ho => by simp [ob, ho]
  have B : Below' n G { rd := G.rd, ob := ob, ow := ow } := ⟨⟨RdLe.refl _, fun o b ho hb => (by show ob o = some b; rw [hobk o ho]; exact hb)⟩, fun l p hl hp => (by show ow l = some p; rw [hk l hl]; exact hp)⟩
  refine ⟨{ rd := G.rd, ob := ob, ow := ow }, ⟨⟨R.inv.rd_ok, fun o b hb => R.inv.ob_lt o b (hobs o b hb).1, fun o b hb => R.inv.ob_rd o b (hobs o b hb).1, fun o o' b h1 h2 => R.inv.ob_inj o o' b (hobs o b h1).1 (hobs o' b h2).1, fun l b f hl => R.inv.ow_lt l b f (hsub l _ hl).1, fun l b f hl => R.inv.ow_rd l b f (hsub l _ hl).1, fun l b f o hl ho => R.inv.ow_ob l b f o (hsub l _ hl).1 (hobs o b ho).1, fun l l' b f f' h1 h2 => R.inv.ow_inj l l' b f f' (hsub l _ h1).1 (hsub l' _ h2).1⟩, ?_, ?_, ?_, ?_, ?_⟩, rfl, hobk, fun k j => hk (.hand k j) rfl, fun l p hl => (hsub l p hl).1, fun o b hb => (hobs o b hb).1, B⟩
  · intro t
    exact RD.lowA B (he t) (fun j p hp => B.ow _ p rfl hp) (R.env t)
  · intro o cs hcs
    have ho : o < n ∧ σ.S[o]? = some cs := by
      rw [List.getElem?_take] at hcs
      split at hcs
      · rename_i h; exact ⟨h, hcs⟩
      · cases hcs
    obtain ⟨b, c, e, fr, h1, h2, h3, h4⟩ := R.obj o cs ho.2
    refine ⟨b, c, e, fr, by show ob o = some b; rw [hobk o ho.1]; exact h1, h2, h3, ?_⟩
    have hlow : cs.all (Mx.lowC n) = true := by
      rw [List.all_eq_true]
      intro d hd
      have h1 := List.all_eq_true.1 (low o cs ho.2) d hd
      cases d with
      | ptr q off => simp only [Mx.lowC, decide_eq_true_eq] at *; omega
      | clo f xs =>
        simp only [Mx.lowC] at *
        rw [List.all_eq_true] at *
        intro x hx
        have h2 := h1 x hx
        cases x with
        | ptr q off => simp only [Mx.lowP, decide_eq_true_eq] at *; omega
        | _ => exact h2
      | _ => exact h1
    exact RDs.lowC B.toBelow0 cs _ 0 0 hlow (fun i d _ _ p hp => B.ow _ p (by simpa [lowLoc] using ho.1) hp) h4
  · intro o cs hcs
    rw [List.getElem?_take] at hcs
    split at hcs
    · exact R.obc o cs hcs
    · cases hcs
  · intro o ho
    show ob o = none
    simp only [List.length_take] at ho
    simp only [ob]
    rw [if_neg (by omega)]
  · intro l p hh hl
    obtain ⟨h1, h2⟩ := hsub l p hl
    have := R.own l p hh h1
    cases l with
    | cell o j =>
      have ho : o < n := by simpa [lowLoc] using h2
      unfold ownsAt at *
      simp only at *
      rw [List.getElem?_take, if_pos ho]; exact this
    | _ => exact this
theorem Low.take {S : Store} (L : Low S) (n : Nat) : Low (S.take n) := by
  intro o cs hcs
  rw [List.getElem?_take] at hcs
  split at hcs
  · exact L o cs hcs
  · cases hcs
end
end Go.Mx
