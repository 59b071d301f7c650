/- New blocks. -/
import Derived.Test.YtiicnbdolakdgaaMxI
set_option linter.unusedVariables false
set_option linter.unusedSimpArgs false
set_option linter.constructorNameAsVariable false
set_option linter.unnecessarySimpa false
namespace Go.Mx
open Go

section
variable {h : Array Obj} {G : Gh} {tmps : Array Value} {σ : St}

theorem push_old (o : Obj) {b : Nat} (hb : b < h.size) : (h.push o)[b]? = h[b]? := by
  rw [Array.getElem?_push]; rw [if_neg (by omega)]
theorem push_new (o : Obj) : (h.push o)[h.size]? = some o := by simp
theorem rd_lt (I : Inv h G) {b : Nat} {c : Array Value} (hb : G.rd b = some c) : b < h.size := by
  obtain ⟨e, fr, h1⟩ := I.rd_ok b c hb
  rcases Nat.lt_or_ge b h.size with hl | hl
  · exact hl
  · simp [Array.getElem?_eq_none hl] at h1

/-- More memory, and a new block that the machine says nothing of. -/
theorem Rel.grow (R : Rel h G tmps σ) (o : Obj) : Rel (h.push o) G tmps σ := by
  have I : Inv (h.push o) G := {
    rd_ok := fun b c hb => by
      obtain ⟨e, fr, h1⟩ := R.inv.rd_ok b c hb
      exact ⟨e, fr, by rw [push_old o (rd_lt R.inv hb)]; exact h1⟩
    ob_lt := fun o' b hb => by have := R.inv.ob_lt o' b hb; simp; omega
    ob_rd := R.inv.ob_rd
    ob_inj := R.inv.ob_inj
    ow_lt := fun l b f hb => by have := R.inv.ow_lt l b f hb; simp; omega
    ow_rd := R.inv.ow_rd
    ow_ob := R.inv.ow_ob
    ow_inj := R.inv.ow_inj }
  have F : Fr (fun _ => False) h G (h.push o) G := ⟨RdLe.refl _, fun _ _ h => h, fun _ _ _ _ h => h, fun l b f _ _ hb => push_old o (R.inv.ow_lt l b f hb)⟩
  refine ⟨I, fun t => RD.fr F _ (fun _ => rfl) _ _ (free.none _ _) (R.env t), ?_, R.obc, R.obn, R.own⟩
  intro q cs hcs
  obtain ⟨b, c, e, fr, h1, h2, h3, h4⟩ := R.obj q cs hcs
  exact ⟨b, c, e, fr, h1, by rw [push_old o (R.inv.ob_lt q b h1)]; exact h2, h3, RDs.fr F _ (fun _ => rfl) _ _ _ (frees.none _ _ _) h4⟩
theorem More.grow (I : Inv h G) (o : Obj) : More h G (h.push o) G := ⟨RdLe.refl _, fun _ _ h => h⟩
theorem Held.grow (R : Rel h G tmps σ) (o : Obj) {k : Nat} {d : D} {v : Value} (H : Held h G k d v) : Held (h.push o) G k d v :=
  ⟨RD.valMove (More.grow R.inv o) H.ok (fun j _ b f hb => ⟨hb, push_old o (R.inv.ow_lt _ b f hb)⟩) H.rd, H.own, H.ok⟩

/-- The new block never changes. -/
theorem Rel.newRd (R : Rel h G tmps σ) (c : Array Value) (e : TypeId) (fr : Nat × Nat) :
    ∃ G', Rel (h.push (.cells c e fr)) G' tmps σ ∧ G'.rd h.size = some c ∧ RdLe G.rd G'.rd ∧ G'.ob = G.ob ∧ G'.ow = G.ow ∧ (∀ b, G'.rd b ≠ none → G.rd b ≠ none ∨ b = h.size) := by
  let rd : Rd := fun b => if b = h.size then some c else G.rd b
  have r1 : rd h.size = some c := by simp [rd]
  have r2 : ∀ b, b ≠ h.size → rd b = G.rd b := fun b hb => by simp [rd, hb]
  have hle : RdLe G.rd rd := fun b c' hb => by rw [r2 b (by have := rd_lt R.inv hb; omega)]; exact hb
  have R' := R.grow (.cells c e fr)
  have I : Inv (h.push (.cells c e fr)) { G with rd := rd } := {
    rd_ok := fun b c' hb => by
      by_cases hbs : b = h.size
      · subst hbs
        have : rd h.size = some c' := hb
        rw [r1] at this; cases this
        exact ⟨e, fr, push_new _⟩
      · exact R'.inv.rd_ok b c' (by rw [← r2 b hbs]; exact hb)
    ob_lt := R'.inv.ob_lt
    ob_rd := fun o b hb => by
      show rd b = none
      rw [r2 b (by have := R.inv.ob_lt o b hb; omega)]; exact R.inv.ob_rd o b hb
    ob_inj := R.inv.ob_inj
    ow_lt := R'.inv.ow_lt
    ow_rd := fun l b f hb => by
      show rd b = none
      rw [r2 b (by have := R.inv.ow_lt l b f hb; omega)]; exact R.inv.ow_rd l b f hb
    ow_ob := R.inv.ow_ob
    ow_inj := R.inv.ow_inj }
  have F : Fr (fun _ => False) (h.push (.cells c e fr)) G (h.push (.cells c e fr)) { G with rd := rd } := ⟨hle, fun _ _ h => h, fun _ _ _ _ h => h, fun _ _ _ _ _ _ => rfl⟩
  refine ⟨{ G with rd := rd }, ⟨I, fun t => RD.fr F _ (fun _ => rfl) _ _ (free.none _ _) (R'.env t), ?_, R.obc, R.obn, R.own⟩, r1, hle, rfl, rfl, fun b hb => ?_⟩
  · intro q cs hcs
    obtain ⟨b, c', e', fr', h1, h2, h3, h4⟩ := R'.obj q cs hcs
    exact ⟨b, c', e', fr', h1, h2, h3, RDs.fr F _ (fun _ => rfl) _ _ _ (frees.none _ _ _) h4⟩
  · by_cases hbs : b = h.size
    · exact .inr hbs
    · exact .inl (by rw [← r2 b hbs]; exact hb)

/-- The new block is owned by a hand. -/
theorem Rel.newOwn (R : Rel h G tmps σ) {k : Nat} (hk : ∀ j, G.ow (.hand k j) = none) (c : Array Value) (e : TypeId) (fr : Nat × Nat) (hfr : unfrozen c fr) {sz len cap : Nat} {l : List (List V)}
    (hl : l.length = len) (hz : sz ≠ 0) (hc : len ≤ cap) (hs : cap * sz ≤ c.size) (hr : RVr G.rd sz l c 0) :
    ∃ G', Rel (h.push (.cells c e fr)) G' tmps σ ∧ Held (h.push (.cells c e fr)) G' k (.own sz l) (.slice (some ⟨h.size, 0, none⟩) len cap) ∧ G'.rd = G.rd ∧ G'.ob = G.ob ∧ (∀ l, (∀ j, l ≠ .hand k j) → G'.ow l = G.ow l) ∧
      (∀ l b f, G'.ow l = some (b, f) → G.ow l = some (b, f) ∨ b = h.size) := by
  let ow : Loc → Option (Nat × Nat) := fun l => if l = .hand k 0 then some (h.size, 0) else G.ow l
  have o1 : ow (.hand k 0) = some (h.size, 0) := by simp [ow]
  have o2 : ∀ l, l ≠ .hand k 0 → ow l = G.ow l := fun l hl => by simp [ow, hl]
  have R' := R.grow (.cells c e fr)
  have hcase : ∀ l b f, ow l = some (b, f) → G.ow l = some (b, f) ∨ (l = .hand k 0 ∧ b = h.size ∧ f = 0) := by
    intro l b f hb
    by_cases hl0 : l = .hand k 0
    · subst hl0; rw [o1] at hb; cases hb; exact .inr ⟨rfl, rfl, rfl⟩
    · exact .inl (by rw [← o2 l hl0]; exact hb)
  have I : Inv (h.push (.cells c e fr)) { G with ow := ow } := {
    rd_ok := R'.inv.rd_ok
    ob_lt := R'.inv.ob_lt
    ob_rd := R.inv.ob_rd
    ob_inj := R.inv.ob_inj
    ow_lt := fun l b f hb => by
      rcases hcase l b f hb with hb | ⟨_, rfl, _⟩
      · exact R'.inv.ow_lt l b f hb
      · simp
    ow_rd := fun l b f hb => by
      rcases hcase l b f hb with hb | ⟨_, rfl, _⟩
      · exact R.inv.ow_rd l b f hb
      · cases hrd : G.rd h.size with
        | none => rfl
        | some c' => have := rd_lt R.inv hrd; omega
    ow_ob := fun l b f o hb ho => by
      rcases hcase l b f hb with hb | ⟨_, rfl, _⟩
      · exact R.inv.ow_ob l b f o hb ho
      · have := R.inv.ob_lt o _ ho; omega
    ow_inj := fun l l' b f f' h1 h2 => by
      rcases hcase l b f h1 with h1 | ⟨rfl, rfl, rfl⟩ <;> rcases hcase l' _ f' h2 with h2 | ⟨rfl, hb, rfl⟩
      · exact R.inv.ow_inj l l' b f f' h1 h2
      · subst hb; have := R.inv.ow_lt l _ f h1; omega
      · have := R.inv.ow_lt l' _ f' h2; omega
      · rfl }
  have F : Fr (fun _ => False) (h.push (.cells c e fr)) G (h.push (.cells c e fr)) { G with ow := ow } := ⟨RdLe.refl _, fun _ _ h => h, fun l p hpl _ hp => by
    show ow l = some p
    rw [o2 l (by rintro rfl; cases hpl)]; exact hp, fun _ _ _ _ _ _ => rfl⟩
  refine ⟨{ G with ow := ow }, ⟨I, fun t => RD.fr F _ (fun _ => rfl) _ _ (free.none _ _) (R'.env t), ?_, R.obc, R.obn, ?_⟩, ⟨?_, ?_, rfl⟩, rfl, rfl, fun l hl' => o2 l (hl' 0), fun l b f hb => (hcase l b f hb).imp id (fun h => h.2.1)⟩
  · intro q cs hcs
    obtain ⟨b, c', e', fr', h1, h2, h3, h4⟩ := R'.obj q cs hcs
    exact ⟨b, c', e', fr', h1, h2, h3, RDs.fr F _ (fun _ => rfl) _ _ _ (frees.none _ _ _) h4⟩
  · intro l p hh hp
    have hp' : ow l = some p := hp
    rw [o2 l (hh k 0)] at hp'
    exact R.own l p hh hp'
  · simp only [RD]
    refine .inr ⟨h.size, 0, cap, c, e, fr, by rw [hl], o1, push_new _, hfr, by omega, by simpa using hs, hr⟩
  · intro j p hp
    have hp' : ow (.hand k j) = some p := hp
    by_cases hj : j = 0
    · subst hj; rfl
    · rw [o2 _ (by simpa using hj), hk] at hp'; cases hp'

/-- The new block is a new variable. -/
theorem Rel.newObj (R : Rel h G tmps σ) {k : Nat} {d : D} {v : Value} (H : Held h G k d v) (hok : (cellsOf d).all cellOk = true) (hcells : RDs h G (Loc.hand k) 0 (cellsOf d) v.cells.toList) (e : TypeId) :
    ∃ G', Rel (h.push (.cells v.cells e)) G' tmps { σ with S := σ.S ++ [cellsOf d] } ∧ G'.ob σ.S.length = some h.size ∧ G'.rd = G.rd ∧ (∀ o, o ≠ σ.S.length → G'.ob o = G.ob o) ∧ (∀ j, G'.ow (.hand k j) = none) ∧
      (∀ l, (∀ j, l ≠ .hand k j) → (∀ j, l ≠ .cell σ.S.length j) → G'.ow l = G.ow l) ∧ (∀ l b f, G'.ow l = some (b, f) → ∃ l0, G.ow l0 = some (b, f)) := by
  let N := σ.S.length
  let ow : Loc → Option (Nat × Nat) := fun l => match l with
    | .hand q j => if q = k then none else G.ow (.hand q j)
    | .cell o j => if o = N then G.ow (.hand k j) else G.ow (.cell o j)
    | l => G.ow l
  let ob : Nat → Option Nat := fun o => if o = N then some h.size else G.ob o
  have o1 : ∀ j, ow (.hand k j) = none := fun j => by simp [ow]
  have o3 : ∀ j, ow (.cell N j) = G.ow (.hand k j) := fun j => by simp [ow]
  have o2 : ∀ l, (∀ j, l ≠ .hand k j) → (∀ j, l ≠ .cell N j) → ow l = G.ow l := by
    intro l h1 h2
    cases l with
    | hand q j => simp only [ow]; rw [if_neg (fun hq => h1 j (by rw [hq]))]
    | cell o j => simp only [ow]; rw [if_neg (fun hq => h2 j (by rw [hq]))]
    | _ => rfl
  have b1 : ob N = some h.size := by simp [ob]
  have b2 : ∀ o, o ≠ N → ob o = G.ob o := fun o ho => by simp [ob, ho]
  have hobN : G.ob N = none := R.obn N (Nat.le_refl _)
  have hSN : σ.S[N]? = none := by simp [N]
  let r : Loc → Loc := fun l => match l with
    | .cell o j => if o = N then .hand k j else .cell o j
    | l => l
  have hr : ∀ l p, ow l = some p → G.ow (r l) = some p ∧ ∀ j, l ≠ .hand k j := by
    intro l p hl
    refine ⟨?_, by rintro j rfl; rw [o1] at hl; cases hl⟩
    cases l with
    | hand q j =>
      by_cases hq : q = k
      · subst hq; rw [o1] at hl; cases hl
      · simp only [ow] at hl; rw [if_neg hq] at hl; exact hl
    | cell o j =>
      by_cases ho : o = N
      · subst ho; rw [o3] at hl; simpa [r] using hl
      · simp only [ow] at hl; rw [if_neg ho] at hl; simpa [r, ho] using hl
    | _ => exact hl
  have R' := R.grow (.cells v.cells e)
  have hinj : ∀ l l' b f f', ow l = some (b, f) → ow l' = some (b, f') → l = l' := by
    intro l l' b f f' h1 h2
    have e := R.inv.ow_inj _ _ b f f' (hr _ _ h1).1 (hr _ _ h2).1
    have g1 := (hr _ _ h1).2
    have g2 := (hr _ _ h2).2
    cases l <;> cases l' <;> simp only [r] at e <;> (try split at e) <;> (try split at e) <;> simp_all
  have I : Inv (h.push (.cells v.cells e)) { rd := G.rd, ob := ob, ow := ow } := {
    rd_ok := R'.inv.rd_ok
    ob_lt := fun o b hb => by
      by_cases ho : o = N
      · subst ho
        have : ob N = some b := hb
        rw [b1] at this; cases this; simp
      · exact R'.inv.ob_lt o b (by rw [← b2 o ho]; exact hb)
    ob_rd := fun o b hb => by
      by_cases ho : o = N
      · subst ho
        have : ob N = some b := hb
        rw [b1] at this; cases this
        cases hrd : G.rd h.size with
        | none => rfl
        | some c' => have := rd_lt R.inv hrd; omega
      · exact R.inv.ob_rd o b (by rw [← b2 o ho]; exact hb)
    ob_inj := fun o o' b h1 h2 => by
      have h1' : ob o = some b := h1
      have h2' : ob o' = some b := h2
      by_cases ho : o = N <;> by_cases ho' : o' = N
      · rw [ho, ho']
      · rw [ho, b1] at h1'; cases h1'
        rw [b2 o' ho'] at h2'
        have := R.inv.ob_lt o' _ h2'; omega
      · rw [ho', b1] at h2'; cases h2'
        rw [b2 o ho] at h1'
        have := R.inv.ob_lt o _ h1'; omega
      · rw [b2 o ho] at h1'; rw [b2 o' ho'] at h2'
        exact R.inv.ob_inj o o' b h1' h2'
    ow_lt := fun l b f hl => R'.inv.ow_lt _ b f (hr l _ hl).1
    ow_rd := fun l b f hl => R.inv.ow_rd _ b f (hr l _ hl).1
    ow_ob := fun l b f o hl ho => by
      have hl' := (hr l _ hl).1
      have ho' : ob o = some b := ho
      by_cases hoN : o = N
      · rw [hoN, b1] at ho'; cases ho'
        have := R.inv.ow_lt _ _ f hl'; omega
      · rw [b2 o hoN] at ho'
        exact R.inv.ow_ob _ b f o hl' ho'
    ow_inj := hinj }
  have F : Fr (fun l => ∃ j, l = .cell N j) (h.push (.cells v.cells e)) G (h.push (.cells v.cells e)) { rd := G.rd, ob := ob, ow := ow } := ⟨RdLe.refl _, fun o b hb => by
      show ob o = some b
      rw [b2 o (by rintro rfl; rw [hobN] at hb; cases hb)]; exact hb, fun l p hpl hl hp => by
      show ow l = some p
      rw [o2 l (by rintro j rfl; cases hpl) (fun j hj => hl ⟨j, hj⟩)]; exact hp, fun _ _ _ _ _ _ => rfl⟩
  -- nothing is owned at the new variable's places till now
  have hNo : ∀ j, G.ow (.cell N j) = none := by
    intro j
    cases ho : G.ow (.cell N j) with
    | none => rfl
    | some p =>
      have := R.own _ p (fun _ _ h => by cases h) ho
      simp [ownsAt, hSN] at this
  have F0 : Fr (fun _ => False) (h.push (.cells v.cells e)) G (h.push (.cells v.cells e)) { rd := G.rd, ob := ob, ow := ow } := ⟨F.rd, F.ob, fun l p hpl _ hp => F.ow l p hpl (by rintro ⟨j, rfl⟩; rw [hNo] at hp; cases hp) hp, fun _ _ _ _ _ _ => rfl⟩
  refine ⟨{ rd := G.rd, ob := ob, ow := ow }, ⟨I, fun t => RD.fr F0 _ (fun _ => rfl) _ _ (free.none _ _) (R'.env t), ?_, ?_, ?_, ?_⟩, b1, rfl, b2, o1, o2, fun l b f hl => ⟨_, (hr l _ hl).1⟩⟩
  · intro q cs hcs
    by_cases hq : q < σ.S.length
    · rw [List.getElem?_append_left hq] at hcs
      obtain ⟨b, c', e', fr', h1, h2, h3, h4⟩ := R'.obj q cs hcs
      exact ⟨b, c', e', fr', F.ob q b h1, h2, h3, RDs.fr F0 _ (fun _ => rfl) _ _ _ (frees.none _ _ _) h4⟩
    · rw [List.getElem?_append_right (by omega)] at hcs
      have hqN : q - σ.S.length = 0 := by
        rcases Nat.eq_zero_or_pos (q - σ.S.length) with h0 | h0
        · exact h0
        · rw [List.getElem?_eq_none (by simp; omega)] at hcs; cases hcs
      rw [hqN] at hcs
      simp at hcs
      subst hcs
      have hqe : q = N := by simp only [N]; omega
      subst hqe
      refine ⟨h.size, v.cells, e, (0, 0), b1, push_new _, by intro i _; omega, ?_⟩
      refine RDs.cellMove (G := G) (G' := { rd := G.rd, ob := ob, ow := ow }) (h := h) ⟨RdLe.refl _, F.ob⟩ 0 0 _ _ hok (fun i d' hd _ b f hb => ⟨?_, push_old _ (R.inv.ow_lt _ b f hb)⟩) hcells
      show ow (.cell N (0 + i)) = some (b, f)
      rw [o3]; exact hb
  · intro q cs hcs
    by_cases hq : q < σ.S.length
    · rw [List.getElem?_append_left hq] at hcs; exact R.obc q cs hcs
    · rw [List.getElem?_append_right (by omega)] at hcs
      have hqN : q - σ.S.length = 0 := by
        rcases Nat.eq_zero_or_pos (q - σ.S.length) with h0 | h0
        · exact h0
        · rw [List.getElem?_eq_none (by simp; omega)] at hcs; cases hcs
      rw [hqN] at hcs
      simp at hcs
      subst hcs
      exact hok
  · intro o ho
    simp at ho
    show ob o = none
    rw [b2 o (by simp only [N]; omega)]
    exact R.obn o (by omega)
  · intro l p hh hp
    have hp' : ow l = some p := hp
    cases l with
    | hand q j => exact absurd rfl (hh q j)
    | cell o j =>
      by_cases ho : o = N
      · subst ho
        rw [o3] at hp'
        have := H.own j p hp'
        have hg : (σ.S ++ [cellsOf d])[N]? = some (cellsOf d) := by simp [N]
        unfold ownsAt
        simp only [hg]
        unfold dOwns at this
        cases d <;> simp only [cellsOf] at * <;> try (cases this; done)
        · have hj : j = 0 := by simpa using this
          subst hj; rfl
        · rename_i cs
          cases hcj : cs[j]? with
          | none => rw [hcj] at this; cases this
          | some d' => rw [hcj] at this; exact this
      · have hl' : G.ow (.cell o j) = some p := by simp only [ow] at hp'; rw [if_neg ho] at hp'; exact hp'
        have := R.own _ p hh hl'
        unfold ownsAt at this ⊢
        simp only at this ⊢
        have hlt : o < σ.S.length := by
          rcases Nat.lt_or_ge o σ.S.length with h' | h'
          · exact h'
          · rw [List.getElem?_eq_none h'] at this; cases this
        rw [List.getElem?_append_left hlt]
        exact this
    | reg t j =>
      have hl' : G.ow (.reg t j) = some p := hp'
      exact R.own _ p hh hl'
    | nowhere =>
      have hl' : G.ow .nowhere = some p := hp'
      exact R.own _ p hh hl'
end
end Go.Mx
