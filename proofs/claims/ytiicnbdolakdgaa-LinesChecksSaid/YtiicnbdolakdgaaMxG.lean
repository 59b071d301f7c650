/- What a step leaves: the frame, and a register that gets a value. -/
import Derived.Test.YtiicnbdolakdgaaMxF
set_option linter.unusedVariables false
set_option linter.unusedSimpArgs false
set_option linter.constructorNameAsVariable false
set_option linter.unnecessarySimpa false
namespace Go.Mx
open Go

/-- The blocks that the machine may write. -/
def mine (G : Gh) (b : Nat) : Prop := (∃ o, G.ob o = some b) ∨ (∃ l f, G.ow l = some (b, f))

/-- From (w, G) to (w', G'): what is not the machine's own stays; the outside world stays; what is the machine's own behind was so ahead, or is new. -/
structure Step (w : World) (G : Gh) (w' : World) (G' : Gh) : Prop where
  os : w'.os = w.os
  tape : w'.tape = w.tape
  output : w'.output = w.output
  size : w.heap.size ≤ w'.heap.size
  keep : ∀ b, b < w.heap.size → ¬ mine G b → w'.heap[b]? = w.heap[b]?
  mine : ∀ b, mine G' b → mine G b ∨ w.heap.size ≤ b
  rd : RdLe G.rd G'.rd
  rdn : ∀ b, G'.rd b ≠ none → G.rd b ≠ none ∨ Mx.mine G b ∨ w.heap.size ≤ b

theorem Step.refl (w : World) (G : Gh) : Step w G w G := ⟨rfl, rfl, rfl, Nat.le_refl _, fun _ _ _ => rfl, fun _ h => .inl h, RdLe.refl _, fun _ h => .inl h⟩
theorem Step.trans {w w1 w2 : World} {G G1 G2 : Gh} (h : Step w G w1 G1) (k : Step w1 G1 w2 G2) : Step w G w2 G2 where
  os := k.os.trans h.os
  tape := k.tape.trans h.tape
  output := k.output.trans h.output
  size := Nat.le_trans h.size k.size
  keep := fun b hb hm => (k.keep b (Nat.lt_of_lt_of_le hb h.size) (fun hm' => (h.mine b hm').elim hm (fun hs => absurd hb (Nat.not_lt.2 hs)))).trans (h.keep b hb hm)
  mine := fun b hm => (k.mine b hm).elim (h.mine b) (fun hs => .inr (Nat.le_trans h.size hs))
  rd := h.rd.trans k.rd
  rdn := fun b hb => (k.rdn b hb).elim (h.rdn b) (fun hm => hm.elim (fun hm => .inr (h.mine b hm)) (fun hs => .inr (.inr (Nat.le_trans h.size hs))))

theorem ownsAt_reg {σ : St} {t j : Nat} (h : ownsAt σ (.reg t j) = true) : hasOwn (look σ.env t) = true := by
  unfold ownsAt at h
  simp only at h
  split at h
  · rename_i sz l hl; rw [hl]; rfl
  · rename_i cs hcs
    rw [hcs]
    simp only [hasOwn, ownFree, Bool.not_eq_true']
    split at h
    · rename_i d hd
      refine Bool.eq_false_iff.2 fun ha => ?_
      have := List.all_eq_true.1 ha d (List.mem_of_getElem? hd)
      cases d <;> simp_all [isOwn, ownFreeC]
    · cases h
  · cases h

theorem getD_set (tmps : Array Value) (t u : Nat) (v : Value) (ht : t < tmps.size) : (tmps.setIfInBounds t v).getD u undef = if t = u then v else tmps.getD u undef := by
  by_cases h : t = u
  · subst h; simp [ht]
  · by_cases hu : u < tmps.size
    · simp [h, hu, Array.getElem_setIfInBounds]
    · simp [h, hu]

/-- Does a value of a register own something at its cell j? -/
def dOwns (d : D) (j : Nat) : Bool := match d with
  | .own .. => j == 0
  | .agg cs => match cs[j]? with | some d => isOwn d | none => false
  | _ => false
theorem ownsAt_eq {σ : St} {t j : Nat} : ownsAt σ (.reg t j) = dOwns (look σ.env t) j := rfl
theorem dOwns_kill {p : Loc → Bool} (d : D) (j : Nat) : dOwns (killB p d) j = dOwns d j := by
  cases d with
  | al full sz l src => simp only [killB]; cases p src <;> rfl
  | ep src sz i off => simp only [killB]; cases p src <;> rfl
  | agg cs =>
    simp only [killB, dOwns, killBs_get]
    cases cs[j]? with
    | none => rfl
    | some d => simp [killB_isOwn]
  | _ => simp only [killB, dOwns]

/-- A register gets a value, in a world that may have grown. -/
theorem Rel.reg {h h' : Array Obj} {G G' : Gh} {tmps : Array Value} {σ : St} (R : Rel h G tmps σ) {t : Nat} {d : D} {v : Value} (ht : t < tmps.size)
    (I : Inv h' G') (F : Fr (fun l => ∃ j, l = .reg t j) h G h' G') (hob : ∀ o, G'.ob o = G.ob o)
    (hobh : ∀ o b, G.ob o = some b → h'[b]? = h[b]?)
    (hown : ∀ l p, l.place = true → G'.ow l = some p → (∀ j, l ≠ .reg t j) → G.ow l = some p) (hd : RD h' G' (Loc.reg t) d v) (hdo : ∀ j p, G'.ow (.reg t j) = some p → dOwns d j = true) :
    Rel h' G' (tmps.setIfInBounds t v) { σ with env := setReg σ.env t d } := by
  -- a place of this register that owned nothing: nothing hangs on it
  have F' : hasOwn (look σ.env t) = false → Fr (fun _ => False) h G h' G' := fun hno => {
    rd := F.rd, ob := F.ob
    ow := fun l p hp _ hl => by
      refine F.ow l p hp ?_ hl
      rintro ⟨j, rfl⟩
      have := ownsAt_reg (R.own _ _ (fun _ _ h => by cases h) hl)
      rw [hno] at this; cases this
    owh := fun l b f hp _ hl => by
      refine F.owh l b f hp ?_ hl
      rintro ⟨j, rfl⟩
      have := ownsAt_reg (R.own _ _ (fun _ _ h => by cases h) hl)
      rw [hno] at this; cases this }
  have henv : ∀ u, look (setReg σ.env t d) u = if t = u then d else (bif hasOwn (look σ.env t) then killB (inReg t) (look σ.env u) else look σ.env u) := by
    intro u
    unfold setReg
    rw [look_put]
    split
    · rfl
    · cases hasOwn (look σ.env t) with
      | true => simp only [cond_true]; exact look_kill _ _ _
      | false => rfl
  refine ⟨I, ?_, ?_, R.obc, ?_, ?_⟩
  · intro u
    rw [henv, getD_set _ _ _ _ ht]
    by_cases hu : t = u
    · subst hu; simpa using hd
    · simp only [hu, if_false]
      cases hh : hasOwn (look σ.env t) with
      | false => simp only [cond_false]; exact RD.fr (F' hh) _ (fun _ => rfl) _ _ (free.none _ _) (R.env u)
      | true =>
        simp only [cond_true]
        refine RD.fr F _ (fun _ => rfl) _ _ (free.kill ?_ ?_ ?_ _) (RD.kill _ _ _ (R.env u))
        · rintro l ⟨j, rfl⟩; simp [inReg]
        · rintro ⟨j, hj⟩; cases hj
        · rintro j ⟨k, hk⟩; cases hk; exact hu rfl
  · intro o cs hcs
    obtain ⟨b, c, e, fr, h1, h2, h3, h4⟩ := R.obj o cs hcs
    refine ⟨b, c, e, fr, by rw [hob]; exact h1, by rw [hobh o b h1]; exact h2, h3, ?_⟩
    exact RDs.fr F _ (fun _ => rfl) _ _ _ (frees.cell 0 cs (R.obc o cs hcs) (by rintro i d _ _ ⟨j, hj⟩; cases hj)) h4
  · intro o ho; rw [hob]; exact R.obn o ho
  · intro l p hh hl
    by_cases hr : ∃ j, l = .reg t j
    · obtain ⟨j, rfl⟩ := hr
      rw [ownsAt_eq]
      simp only [look_put, setReg, if_true]
      exact hdo j p hl
    · have hl' := R.own l p hh (hown l p (by cases l <;> first | rfl | exact absurd rfl (hh _ _)) hl (fun j hj => hr ⟨j, hj⟩))
      cases l with
      | reg u j =>
        rw [ownsAt_eq] at *
        rw [henv]
        have hu : t ≠ u := fun hu => hr ⟨j, by rw [hu]⟩
        simp only [hu, if_false]
        cases hasOwn (look σ.env t) with
        | true => simpa only [cond_true, dOwns_kill] using hl'
        | false => simpa only [cond_false] using hl'
      | cell o off => exact hl'
      | hand k j => exact absurd rfl (hh k j)
      | nowhere => exact hl'
end Go.Mx
