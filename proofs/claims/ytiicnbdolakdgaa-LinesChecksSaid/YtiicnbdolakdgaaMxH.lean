/- Values on their way from one place to another ('hands'). -/
import Derived.Test.YtiicnbdolakdgaaMxG
set_option linter.unusedVariables false
set_option linter.unusedSimpArgs false
set_option linter.constructorNameAsVariable false
set_option linter.unnecessarySimpa false
namespace Go.Mx
open Go

structure More (h : Array Obj) (G : Gh) (h' : Array Obj) (G' : Gh) : Prop where
  rd : RdLe G.rd G'.rd
  ob : ∀ o b, G.ob o = some b → G'.ob o = some b

theorem RD.stay {h h' : Array Obj} {G G' : Gh} {loc loc' : Nat → Loc} {d : D} {v : Value} (M : More h G h' G') (hs : stayC d = true) (hr : RD h G loc d v) : RD h' G' loc' d v := by
  have F : Fr (fun _ => True) h G h' G' := ⟨M.rd, M.ob, fun l p _ hl => absurd trivial hl, fun l b f _ hl => absurd trivial hl⟩
  have hof : ownFree d = true := by cases d <;> simp_all [stayC, ownFree]
  exact RD.reloc hof (RD.fr F (fun _ => .nowhere) (fun _ => rfl) d v (free.stay hs) (RD.reloc hof hr))
theorem RDs.stay {h h' : Array Obj} {G G' : Gh} {loc loc' : Nat → Loc} (M : More h G h' G') : ∀ (j j' : Nat) (ds : List D) (vs : List Value), ds.all stayC = true → RDs h G loc j ds vs → RDs h' G' loc' j' ds vs
  | _, _, [], [], _, _ => by simp only [RDs]
  | j, j', d :: ds, v :: vs, hs, hr => by
    simp only [List.all_cons, Bool.and_eq_true] at hs
    simp only [RDs] at *
    exact ⟨RD.stay M hs.1 hr.1, RDs.stay M (j + 1) (j' + 1) ds vs hs.2 hr.2⟩
  | _, _, [], _ :: _, _, hr => by simp only [RDs] at hr
  | _, _, _ :: _, [], _, hr => by simp only [RDs] at hr

/-- A cell at another place, which owns there what it owned here. -/
theorem RD.cellMove {h h' : Array Obj} {G G' : Gh} {l l' : Loc} {d : D} {v : Value} (M : More h G h' G') (hc : cellOk d = true)
    (ho : isOwn d = true → ∀ b f, G.ow l = some (b, f) → G'.ow l' = some (b, f) ∧ h'[b]? = h[b]?) (hr : RD h G (fun _ => l) d v) : RD h' G' (fun _ => l') d v := by
  cases d with
  | own sz m =>
    simp only [RD] at *
    rcases hr with hr | ⟨b, off, cap, c, e, fr, h1, h2, h3, h4, h5, h6, h7⟩
    · exact .inl hr
    · obtain ⟨g1, g2⟩ := ho rfl b off h2
      exact .inr ⟨b, off, cap, c, e, fr, h1, g1, by rw [g2]; exact h3, h4, h5, h6, RVr.mono M.rd _ _ _ _ h7⟩
  | clo f cs =>
    simp only [RD] at *
    obtain ⟨vs, h1, h2⟩ := hr
    exact ⟨vs, h1, RDs.stay M _ _ _ _ (by simpa [cellOk] using hc) h2⟩
  | _ => exact RD.stay M hc hr
theorem RDs.cellMove {h h' : Array Obj} {G G' : Gh} {loc loc' : Nat → Loc} (M : More h G h' G') : ∀ (j j' : Nat) (ds : List D) (vs : List Value), ds.all cellOk = true →
    (∀ i d, ds[i]? = some d → isOwn d = true → ∀ b f, G.ow (loc (j + i)) = some (b, f) → G'.ow (loc' (j' + i)) = some (b, f) ∧ h'[b]? = h[b]?) → RDs h G loc j ds vs → RDs h' G' loc' j' ds vs
  | _, _, [], [], _, _, _ => by simp only [RDs]
  | j, j', d :: ds, v :: vs, hs, ho, hr => by
    simp only [List.all_cons, Bool.and_eq_true] at hs
    simp only [RDs] at *
    refine ⟨RD.cellMove M hs.1 (fun hd => by simpa using ho 0 d rfl hd) hr.1, RDs.cellMove M (j + 1) (j' + 1) ds vs hs.2 (fun i d' hd => ?_) hr.2⟩
    have := ho (i + 1) d' (by simpa using hd)
    rw [Nat.add_assoc, Nat.add_comm 1 i, Nat.add_assoc, Nat.add_comm 1 i]
    exact this
  | _, _, [], _ :: _, _, _, hr => by simp only [RDs] at hr
  | _, _, _ :: _, [], _, _, hr => by simp only [RDs] at hr

/-- A value at another place. -/
theorem RD.valMove {h h' : Array Obj} {G G' : Gh} {loc loc' : Nat → Loc} {d : D} {v : Value} (M : More h G h' G') (hc : valOk d = true)
    (ho : ∀ j, dOwns d j = true → ∀ b f, G.ow (loc j) = some (b, f) → G'.ow (loc' j) = some (b, f) ∧ h'[b]? = h[b]?) (hr : RD h G loc d v) : RD h' G' loc' d v := by
  cases d with
  | agg cs =>
    simp only [RD] at *
    obtain ⟨vs, h1, h2⟩ := hr
    refine ⟨vs, h1, RDs.cellMove M 0 0 cs _ (by simpa [valOk] using hc) (fun i d hd hown b f hb => ?_) h2⟩
    have := ho i (by simp [dOwns, hd, hown]) b f (by simpa using hb)
    simpa using this
  | own sz m =>
    have hr' : RD h G (fun _ => loc 0) (.own sz m) v := by simpa only [RD] using hr
    have := RD.cellMove (l := loc 0) (l' := loc' 0) M (d := .own sz m) (by rfl) (fun _ => ho 0 rfl) hr'
    simpa only [RD] using this
  | clo f cs =>
    have hr' : RD h G (fun _ => loc 0) (.clo f cs) v := by simpa only [RD] using hr
    have := RD.cellMove (l := loc 0) (l' := loc' 0) M (d := .clo f cs) hc (fun h => by cases h) hr'
    simpa only [RD] using this
  | _ => first | exact RD.stay M hc hr | (simp [valOk, cellOk, stayC] at hc)

theorem Inv.sub {h : Array Obj} {G : Gh} (I : Inv h G) {ow : Loc → Option (Nat × Nat)} (hs : ∀ l p, ow l = some p → ∃ l0, G.ow l0 = some p)
    (hi : ∀ l l' b f f', ow l = some (b, f) → ow l' = some (b, f') → l = l') : Inv h { G with ow := ow } where
  rd_ok := I.rd_ok
  ob_lt := I.ob_lt
  ob_rd := I.ob_rd
  ob_inj := I.ob_inj
  ow_lt := fun l b f hl => let ⟨l0, h0⟩ := hs l _ hl; I.ow_lt l0 b f h0
  ow_rd := fun l b f hl => let ⟨l0, h0⟩ := hs l _ hl; I.ow_rd l0 b f h0
  ow_ob := fun l b f o hl => let ⟨l0, h0⟩ := hs l _ hl; I.ow_ob l0 b f o h0
  ow_inj := hi

/-- A value in hand k. -/
structure Held (h : Array Obj) (G : Gh) (k : Nat) (d : D) (v : Value) : Prop where
  rd : RD h G (Loc.hand k) d v
  own : ∀ j p, G.ow (.hand k j) = some p → dOwns d j = true
  ok : valOk d = true

/-- What a taking changes: ownership alone. -/
structure Took (k : Nat) (h : Array Obj) (G : Gh) (G' : Gh) : Prop where
  rd : G'.rd = G.rd
  ob : G'.ob = G.ob
  mine : ∀ l p, G'.ow l = some p → ∃ l0, G.ow l0 = some p
  hand : ∀ q j, q ≠ k → G'.ow (.hand q j) = G.ow (.hand q j)
  cell : ∀ o off, G'.ow (.cell o off) = G.ow (.cell o off)
  keep : ∀ l p, l.place = true → G'.ow l = some p → G.ow l = some p

theorem Took.more {k : Nat} {h : Array Obj} {G G' : Gh} (T : Took k h G G') : More h G h G' := ⟨by rw [T.rd]; exact RdLe.refl _, fun o b hb => by rw [T.ob]; exact hb⟩
theorem Took.held {k q : Nat} {h : Array Obj} {G G' : Gh} (T : Took k h G G') (hq : q ≠ k) {d : D} {v : Value} (H : Held h G q d v) : Held h G' q d v :=
  ⟨RD.valMove T.more H.ok (fun j _ b f hb => ⟨by rw [T.hand q j hq]; exact hb, rfl⟩) H.rd, fun j p hp => H.own j p (by rw [← T.hand q j hq]; exact hp), H.ok⟩
theorem Took.step {k : Nat} {w : World} {G G' : Gh} (T : Took k w.heap G G') : Step w G w G' :=
  ⟨rfl, rfl, rfl, Nat.le_refl _, fun _ _ _ => rfl, fun b hb => .inl (by
    rcases hb with ⟨o, ho⟩ | ⟨l, f, hl⟩
    · exact .inl ⟨o, by rw [← T.ob]; exact ho⟩
    · obtain ⟨l0, h0⟩ := T.mine l _ hl; exact .inr ⟨l0, f, h0⟩), by rw [T.rd]; exact RdLe.refl _, fun b hb => .inl (by rw [← T.rd]; exact hb)⟩

section
variable {P : Program} {h : Array Obj} {G : Gh} {tmps : Array Value} {σ : St} {ds : List Deferred}

/-- No hand holds anything. -/
def Clean (G : Gh) : Prop := ∀ k j, G.ow (.hand k j) = none

/-- What was owned at a register, into a hand. -/
theorem Rel.takeReg (R : Rel h G tmps σ) (k u : Nat) (hk : ∀ j, G.ow (.hand k j) = none) : ∃ G', Rel h G' tmps { σ with env := put (kill (inReg u) σ.env) u .bad } ∧ Took k h G G' ∧ (∀ j, G'.ow (.hand k j) = G.ow (.reg u j)) ∧ (∀ t j, t ≠ u → G'.ow (.reg t j) = G.ow (.reg t j)) := by
  let ow : Loc → Option (Nat × Nat) := fun l => match l with
    | .hand q j => if q = k then G.ow (.reg u j) else G.ow (.hand q j)
    | .reg t j => if t = u then none else G.ow (.reg t j)
    | l => G.ow l
  have o1 : ∀ j, ow (.hand k j) = G.ow (.reg u j) := fun j => by simp [ow]
  have o2 : ∀ q j, q ≠ k → ow (.hand q j) = G.ow (.hand q j) := fun q j hq => by simp [ow, hq]
  have o3 : ∀ j, ow (.reg u j) = none := fun j => by simp [ow]
  have o4 : ∀ t j, t ≠ u → ow (.reg t j) = G.ow (.reg t j) := fun q j hq => by simp [ow, hq]
  -- where a place has what it owns from
  let r : Loc → Loc := fun l => match l with
    | .hand q j => if q = k then .reg u j else .hand q j
    | l => l
  have hr : ∀ l p, ow l = some p → G.ow (r l) = some p := by
    intro l p hl
    cases l with
    | hand q j =>
      by_cases hq : q = k
      · subst hq; rw [o1] at hl; simpa [r] using hl
      · rw [o2 q j hq] at hl; simpa [r, hq] using hl
    | reg t j =>
      by_cases ht : t = u
      · subst ht; rw [o3] at hl; cases hl
      · rw [o4 t j ht] at hl; exact hl
    | _ => exact hl
  have hinj : ∀ l l' b f f', ow l = some (b, f) → ow l' = some (b, f') → l = l' := by
    intro l l' b f f' h1 h2
    have e := R.inv.ow_inj _ _ b f f' (hr _ _ h1) (hr _ _ h2)
    cases l <;> cases l' <;> simp only [r] at e <;> (try split at e) <;> (try split at e) <;> simp_all
  refine ⟨{ G with ow := ow }, ⟨R.inv.sub (fun l p hl => ⟨_, hr l p hl⟩) hinj, ?_, ?_, R.obc, R.obn, ?_⟩, ⟨rfl, rfl, fun l p hl => ⟨_, hr l p hl⟩, o2, fun _ _ => rfl, fun l p hpl hl => (by have := hr l p hl; cases l <;> first | exact this | cases hpl)⟩, o1, o4⟩
  · have F : Fr (fun l => ∃ j, l = .reg u j) h G h { G with ow := ow } := ⟨RdLe.refl _, fun _ _ h => h, fun l p hpl hl hp => by
      show ow l = some p
      cases l with
      | hand q j => cases hpl
      | reg t j => rw [o4 t j (fun ht => hl ⟨j, by rw [ht]⟩)]; exact hp
      | _ => exact hp, fun _ _ _ _ _ _ => rfl⟩
    intro t
    rw [look_put]
    split
    · simp only [RD]
    · rename_i hu
      rw [look_kill]
      refine RD.fr F _ (fun _ => rfl) _ _ (free.kill ?_ ?_ ?_ _) (RD.kill _ _ _ (R.env t))
      · rintro l ⟨j, rfl⟩; simp [inReg]
      · rintro ⟨j, hj⟩; cases hj
      · rintro j ⟨q, hq⟩; cases hq; exact hu rfl
  · intro o cs hcs
    obtain ⟨b, c, e, fr, h1, h2, h3, h4⟩ := R.obj o cs hcs
    refine ⟨b, c, e, fr, h1, h2, h3, RDs.cellMove (G := G) (G' := { G with ow := ow }) ⟨RdLe.refl _, fun _ _ h => h⟩ 0 0 cs _ (R.obc o cs hcs) (fun i d _ _ b f hb => ⟨hb, rfl⟩) h4⟩
  · intro l p hh hl
    cases l with
    | hand q j => exact absurd rfl (hh q j)
    | reg t j =>
      by_cases ht : t = u
      · subst ht
        have : ow (.reg t j) = some p := hl
        rw [o3] at this; cases this
      · have hl' : G.ow (.reg t j) = some p := by rw [← o4 t j ht]; exact hl
        have := R.own _ p hh hl'
        rw [ownsAt_eq] at *
        rw [look_put, if_neg (fun e => ht e.symm), look_kill, dOwns_kill]
        exact this
    | cell o off => exact R.own _ p hh hl
    | nowhere => exact R.own _ p hh hl

/-- An operand's value, taken along with what it owns. -/
theorem Rel.take (R : Rel h G tmps σ) (k : Nat) (hk : ∀ j, G.ow (.hand k j) = none) {x : Operand} {d : D} (hf : force true (Mx.opnd σ.env x) = some d) (hv : valOk d = true) :
    ∃ G', Rel h G' tmps { σ with env := spend σ.env x } ∧ Took k h G G' ∧ Held h G' k d ((⟨tmps, ds⟩ : Act).eval x) := by
  have still : (∀ loc, RD h G loc d ((⟨tmps, ds⟩ : Act).eval x)) → spend σ.env x = σ.env → ∃ G', Rel h G' tmps { σ with env := spend σ.env x } ∧ Took k h G G' ∧ Held h G' k d ((⟨tmps, ds⟩ : Act).eval x) := by
    intro hrd he
    refine ⟨G, by rw [he]; exact R, ⟨rfl, rfl, fun l p hl => ⟨l, hl⟩, fun _ _ _ => rfl, fun _ _ => rfl, fun _ _ _ h => h⟩, ⟨hrd _, fun j p hp => (by rw [hk] at hp; cases hp), hv⟩⟩
  cases x with
  | const v =>
    refine still (fun loc => (force_ok hf (RD.ofConst loc v)).1) rfl
  | global g => simp [Mx.opnd, force, solid] at hf
  | func f =>
    refine still (fun loc => (force_ok hf ?_).1) rfl
    simp only [Mx.opnd, RD, Act.eval]
    exact ⟨#[], rfl, by simp only [RDs]⟩
  | tmp u =>
    have hr := R.env u
    have hfo := force_own hf
    simp only [Mx.opnd] at hf hfo
    cases hh : hasOwn (look σ.env u) with
    | false =>
      have hof : ownFree d = true := by
        rcases hfo with ⟨he, hkn⟩ | ⟨ho, _⟩
        · rw [he] at hh
          cases d <;> simp_all [hasOwn, known]
        · exact ho
      refine still (fun loc => RD.reloc hof (force_ok hf hr).1) (by simp [spend, hh])
    | true =>
      have he : look σ.env u = d := by
        rcases hfo with ⟨he, _⟩ | ⟨_, g, hg⟩
        · exact he
        · rw [hg] at hh; simp [hasOwn] at hh
      obtain ⟨G', R', T, h1, h2⟩ := R.takeReg k u hk
      refine ⟨G', by simpa [spend, hh] using R', T, ⟨?_, ?_, hv⟩⟩
      · rw [he] at hr
        exact RD.valMove T.more hv (fun j _ b f hb => ⟨by rw [h1]; exact hb, rfl⟩) hr
      · intro j p hp
        rw [h1] at hp
        have := R.own _ p (fun _ _ h => by cases h) hp
        rw [ownsAt_eq, he] at this
        exact this

end
end Go.Mx
