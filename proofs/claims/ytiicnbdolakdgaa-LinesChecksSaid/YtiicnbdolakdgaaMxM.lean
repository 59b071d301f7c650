/- Registers frozen, cells taken. -/
import Derived.Test.YtiicnbdolakdgaaMxL
set_option linter.unusedVariables false
set_option linter.unusedSimpArgs false
set_option linter.constructorNameAsVariable false
set_option linter.unnecessarySimpa false
namespace Go.Mx
open Go

/-- What a taking out of cells changes. -/
structure Took' (k : Nat) (h : Array Obj) (G : Gh) (G' : Gh) : Prop where
  rd : G'.rd = G.rd
  ob : G'.ob = G.ob
  mine : ∀ l p, G'.ow l = some p → ∃ l0, G.ow l0 = some p
  hand : ∀ q j, q ≠ k → G'.ow (.hand q j) = G.ow (.hand q j)
theorem Took'.same {k : Nat} {h : Array Obj} {G G' : Gh} (T : Took' k h G G') : Same h G G' :=
  ⟨by rw [T.rd]; exact RdLe.refl _, T.ob, fun l b f hl => by obtain ⟨l0, h0⟩ := T.mine l _ hl; exact ⟨l0, f, h0⟩, fun b hb => .inl (by rw [← T.rd]; exact hb)⟩

section
variable {h : Array Obj} {G : Gh} {tmps : Array Value} {σ : St} {ds : List Deferred}

theorem Rel.congr (R : Rel h G tmps σ) {σ' : St} (he : ∀ t, look σ'.env t = look σ.env t) (hS : σ'.S = σ.S) : Rel h G tmps σ' := by
  refine ⟨R.inv, fun t => by rw [he]; exact R.env t, by rw [hS]; exact R.obj, by rw [hS]; exact R.obc, by rw [hS]; exact R.obn, ?_⟩
  intro l p hh hp
  have := R.own l p hh hp
  cases l with
  | reg t j => rw [ownsAt_eq] at *; rw [he]; exact this
  | cell o j => unfold ownsAt at *; rw [hS]; exact this
  | _ => exact this

/-- A register that owns nothing, known in another way. -/
theorem Rel.putStay (R : Rel h G tmps σ) {u : Nat} (hu : ∀ j, G.ow (.reg u j) = none) {d : D} (hd : RD h G (Loc.reg u) d (tmps.getD u undef)) : Rel h G tmps { σ with env := Mx.put σ.env u d } := by
  refine ⟨R.inv, fun t => ?_, R.obj, R.obc, R.obn, ?_⟩
  · rw [look_put]
    by_cases ht : u = t
    · subst ht; simpa using hd
    · simp only [ht, if_false]; exact R.env t
  · intro l p hh hp
    have := R.own l p hh hp
    cases l with
    | reg t j =>
      rw [ownsAt_eq] at *
      rw [look_put]
      by_cases ht : u = t
      · subst ht; rw [hu j] at hp; cases hp
      · simp only [ht, if_false]; exact this
    | _ => exact this

/-- An argument is frozen: from now on it is plain data. -/
theorem Rel.frzReg (R : Rel h G tmps σ) (k : Nat) (hk : ∀ j, G.ow (.hand k j) = none) {x : Operand} {d : D} (hf : force true (Mx.opnd σ.env x) = some d) (hv : valOk d = true) :
    ∃ G', Rel h G' tmps { σ with env := Mx.frzReg σ.env x } ∧ Same h G G' ∧ (∀ loc, RD h G' loc (frz d) ((⟨tmps, ds⟩ : Act).eval x)) ∧ (∀ q j, G'.ow (.hand q j) = G.ow (.hand q j)) ∧ (∀ o off, G'.ow (.cell o off) = G.ow (.cell o off)) := by
  have frz_free : ∀ d : D, ownFree d = true → frz d = d := by
    intro d hd
    cases d with
    | agg cs =>
      simp only [frz]
      congr 1
      have : ∀ cs : List D, cs.all ownFreeC = true → cs.map frzC = cs := by
        intro cs
        induction cs with
        | nil => intro _; rfl
        | cons d r ih =>
          intro hc
          simp only [List.all_cons, Bool.and_eq_true] at hc
          simp only [List.map_cons, ih hc.2]
          congr 1
          cases d <;> first | rfl | (simp [ownFreeC] at hc)
      exact this cs (by simpa [ownFree] using hd)
    | own sz l => simp [ownFree] at hd
    | _ => rfl
  have still : ownFree d = true → Mx.frzReg σ.env x = σ.env → RD h G (opLoc x) d ((⟨tmps, ds⟩ : Act).eval x) → ∃ G', Rel h G' tmps { σ with env := Mx.frzReg σ.env x } ∧ Same h G G' ∧ (∀ loc, RD h G' loc (frz d) ((⟨tmps, ds⟩ : Act).eval x)) ∧ (∀ q j, G'.ow (.hand q j) = G.ow (.hand q j)) ∧ (∀ o off, G'.ow (.cell o off) = G.ow (.cell o off)) := by
    intro ho he hrd
    refine ⟨G, by rw [he]; exact R, Same.refl _ _, fun loc => ?_, fun _ _ => rfl, fun _ _ => rfl⟩
    rw [frz_free d ho]
    exact RD.reloc ho hrd
  have hrd := R.opndF ds hf
  cases x with
  | const v =>
    refine ?_
    have h1 : ∀ loc, RD h G loc d v := fun loc => (force_ok hf (RD.ofConst loc v)).1
    refine ⟨G, R, Same.refl _ _, fun loc => ?_, fun _ _ => rfl, fun _ _ => rfl⟩
    -- a constant owns nothing but the nil slice
    have key : ∀ (d : D) (v : Value), (∀ loc, RD h G loc d v) → valOk d = true → RD h G loc (frz d) v := by
      intro d v h1 hv
      have hw : ∀ j, G.ow ((fun _ => Loc.hand k j) 0) = none := fun j => hk j
      have cell : ∀ (d : D) (v : Value) (j : Nat) (loc : Nat → Loc), RD h G (fun _ => .hand k j) d v → cellOk d = true → RD h G loc (frzC d) v := by
        intro d v j loc hd hck
        cases d with
        | own sz l =>
          simp only [RD, frzC, ROwn, hk] at *
          rcases hd with ⟨rfl, rfl⟩ | ⟨b, _, _, _, _, _, _, h2, _⟩
          · simp only [RV]; exact ⟨none, 0, rfl, Nat.le_refl _, .inl trivial⟩
          · cases h2
        | clo f cs => simpa only [RD, frzC] using hd
        | _ => first | (exact RD.stay ⟨RdLe.refl _, fun _ _ h => h⟩ rfl hd) | (simp [cellOk, stayC] at hck)
      have cells : ∀ (ds : List D) (vs : List Value) (j j' : Nat) (loc : Nat → Loc), ds.all cellOk = true → RDs h G (Loc.hand k) j ds vs → RDs h G loc j' (ds.map frzC) vs := by
        intro ds
        induction ds with
        | nil => intro vs j j' loc _ hd; cases vs with
          | nil => simp only [List.map_nil, RDs]
          | cons _ _ => simp only [RDs] at hd
        | cons d r ih => intro vs j j' loc hok hd; cases vs with
          | nil => simp only [RDs] at hd
          | cons v vs =>
            simp only [List.all_cons, Bool.and_eq_true] at hok
            simp only [List.map_cons, RDs] at *
            exact ⟨cell d v _ _ hd.1 hok.1, ih vs _ _ loc hok.2 hd.2⟩
      have h2 := h1 (Loc.hand k)
      cases d with
      | agg cs =>
        simp only [RD, frz] at *
        obtain ⟨vs, g1, g2⟩ := h2
        exact ⟨vs, g1, cells cs _ 0 0 loc (by simpa [valOk] using hv) g2⟩
      | own sz l => exact cell (.own sz l) v 0 loc (by simpa only [RD] using h2) rfl
      | clo f cs => exact cell (.clo f cs) v 0 loc (by simpa only [RD] using h2) hv
      | _ => first | (exact RD.stay ⟨RdLe.refl _, fun _ _ h => h⟩ rfl h2) | (simp [valOk, cellOk, stayC] at hv)
    exact key d v h1 hv
  | global g => simp [Mx.opnd, force, solid] at hf
  | func f =>
    have : d = .clo f [] := by simpa [Mx.opnd, force, solid] using hf.symm
    exact still (by rw [this]; rfl) rfl hrd
  | tmp u =>
    have hfo := force_own hf
    simp only [Mx.opnd] at hfo hf
    cases hh : hasOwn (look σ.env u) with
    | false =>
      have hof : ownFree d = true := by
        rcases hfo with ⟨he, hkn⟩ | ⟨ho, _⟩
        · rw [he] at hh
          cases d <;> simp_all [hasOwn, known]
        · exact ho
      exact still hof (by simp [Mx.frzReg, hh]) hrd
    | true =>
      have he : look σ.env u = d := by
        rcases hfo with ⟨he, _⟩ | ⟨_, g, hg⟩
        · exact he
        · rw [hg] at hh; simp [hasOwn] at hh
      obtain ⟨G1, R1, T, h1, h2⟩ := R.takeReg k u hk
      have hr := R.env u
      rw [he] at hr
      have H : Held h G1 k d (tmps.getD u undef) := ⟨RD.valMove T.more hv (fun j _ b f hb => ⟨by rw [h1]; exact hb, rfl⟩) hr, by
        intro j p hp
        rw [h1] at hp
        have := R.own _ p (fun _ _ h => by cases h) hp
        rw [ownsAt_eq, he] at this
        exact this, hv⟩
      obtain ⟨G2, R2, S2, h3, h4, h5⟩ := R1.freezeF H
      have hu : ∀ j, G2.ow (.reg u j) = none := by
        intro j
        cases ho : G2.ow (.reg u j) with
        | none => rfl
        | some p =>
          have := R2.own _ p (fun _ _ h => by cases h) ho
          rw [ownsAt_eq, look_put] at this
          simp [dOwns] at this
      refine ⟨G2, ?_, T.same.trans S2, h3, ?_, ?_⟩
      · have R3 := R2.putStay hu (h3 (Loc.reg u))
        refine R3.congr (fun t => ?_) rfl
        simp only [Mx.frzReg, hh, cond_true, look_put]
        by_cases ht : u = t
        · simp only [ht, if_true]; rw [← ht, he]
        · simp only [ht, if_false]
      · intro q j
        by_cases hq : q = k
        · subst hq; rw [h4, hk]
        · rw [h5 _ (by rintro j' hj; cases hj; exact hq rfl), T.hand q j hq]
      · intro o off
        rw [h5 _ (by rintro j' hj; cases hj), T.cell]

/-- What cells of a variable own, into a hand. -/
theorem Rel.takeCells (R : Rel h G tmps σ) (k : Nat) (hk : ∀ j, G.ow (.hand k j) = none) {o off n : Nat} {cs cs' : List D} (hcs : σ.S[o]? = some cs) (p : Loc → Bool) (hp : ∀ j, off ≤ j → j < off + n → p (.cell o j) = true)
    (hlen : cs'.length = cs.length) (hout : ∀ j, ¬ (off ≤ j ∧ j < off + n) → cs'[j]? = cs[j]?) (hin : ∀ j d, off ≤ j → j < off + n → cs[j]? = some d → cs'[j]? = some .bad ∨ (isOwn d = false ∧ cs'[j]? = some d)) :
    ∃ G', Rel h G' tmps { env := kill p σ.env, S := σ.S.set o cs' } ∧ Took' k h G G' ∧ (∀ j, j < n → G'.ow (.hand k j) = G.ow (.cell o (off + j))) ∧ (∀ j, n ≤ j → G'.ow (.hand k j) = none) ∧ (∀ t j, G'.ow (.reg t j) = G.ow (.reg t j)) := by
  let ow : Loc → Option (Nat × Nat) := fun l => match l with
    | .hand q j => if q = k then (if j < n then G.ow (.cell o (off + j)) else none) else G.ow (.hand q j)
    | .cell q j => if q = o ∧ off ≤ j ∧ j < off + n then none else G.ow (.cell q j)
    | l => G.ow l
  have o1 : ∀ j, j < n → ow (.hand k j) = G.ow (.cell o (off + j)) := fun j hj => by simp [ow, hj]
  have o1' : ∀ j, n ≤ j → ow (.hand k j) = none := fun j hj => by simp [ow]; omega
  have o2 : ∀ q j, q ≠ k → ow (.hand q j) = G.ow (.hand q j) := fun q j hq => by simp [ow, hq]
  have o3 : ∀ j, off ≤ j → j < off + n → ow (.cell o j) = none := fun j h1 h2 => by simp [ow, h1, h2]
  have o4 : ∀ q j, ¬ (q = o ∧ off ≤ j ∧ j < off + n) → ow (.cell q j) = G.ow (.cell q j) := fun q j hq => by simp only [ow]; rw [if_neg hq]
  let r : Loc → Loc := fun l => match l with
    | .hand q j => if q = k then .cell o (off + j) else .hand q j
    | l => l
  have hr : ∀ l p, ow l = some p → G.ow (r l) = some p ∧ (∀ j, off ≤ j → j < off + n → l ≠ .cell o j) ∧ (∀ j, l = .hand k j → j < n) := by
    intro l p hl
    refine ⟨?_, ⟨(by rintro j h1 h2 rfl; rw [o3 j h1 h2] at hl; cases hl), ?_⟩⟩
    · cases l with
      | hand q j =>
        by_cases hq : q = k
        · subst hq
          by_cases hj : j < n
          · rw [o1 j hj] at hl; simpa [r] using hl
          · rw [o1' j (by omega)] at hl; cases hl
        · rw [o2 q j hq] at hl; simpa [r, hq] using hl
      | cell q j =>
        by_cases hq : q = o ∧ off ≤ j ∧ j < off + n
        · obtain ⟨rfl, h1, h2⟩ := hq
          rw [o3 j h1 h2] at hl; cases hl
        · rw [o4 q j hq] at hl; exact hl
      | _ => exact hl
    · rintro j rfl
      rcases Nat.lt_or_ge j n with hj | hj
      · exact hj
      · rw [o1' j hj] at hl; cases hl
  have hinj : ∀ l l' b f f', ow l = some (b, f) → ow l' = some (b, f') → l = l' := by
    intro l l' b f f' h1 h2
    have e := R.inv.ow_inj _ _ b f f' (hr _ _ h1).1 (hr _ _ h2).1
    have g1 := (hr _ _ h1).2
    have g2 := (hr _ _ h2).2
    cases l with
    | hand q j =>
      cases l' with
      | hand q' j' =>
        simp only [r] at e
        split at e <;> split at e
        · rename_i a1 a2
          injection e with e1 e2
          rw [a1, a2, show j = j' by omega]
        · cases e
        · cases e
        · exact e
      | cell q' j' =>
        simp only [r] at e
        split at e
        · rename_i a1
          injection e with e1 e2
          subst a1
          exact absurd (by rw [e1]) (g2.1 j' (by omega) (by have := g1.2 j rfl; omega))
        · cases e
      | _ => simp only [r] at e; split at e <;> cases e
    | cell q j =>
      cases l' with
      | hand q' j' =>
        simp only [r] at e
        split at e
        · rename_i a1
          injection e with e1 e2
          subst a1
          exact absurd (by rw [e1]) (g1.1 j (by omega) (by have := g2.2 j' rfl; omega))
        · cases e
      | _ => exact e
    | _ =>
      cases l' with
      | hand q' j' => simp only [r] at e; split at e <;> cases e
      | _ => exact e
  have F : Fr (fun l => ∃ j, off ≤ j ∧ j < off + n ∧ l = .cell o j) h G h { G with ow := ow } := ⟨RdLe.refl _, fun _ _ h => h, fun l p hpl hl hp => by
      show ow l = some p
      cases l with
      | hand q j => cases hpl
      | cell q j =>
        rw [o4 q j (fun ⟨a, b, c⟩ => hl ⟨j, b, c, by rw [a]⟩)]; exact hp
      | _ => exact hp, fun _ _ _ _ _ _ => rfl⟩
  have hol : o < σ.S.length := by
    rcases Nat.lt_or_ge o σ.S.length with hl | hl
    · exact hl
    · rw [List.getElem?_eq_none hl] at hcs; cases hcs
  -- the cells behind
  have hcell : ∀ j d', cs'[j]? = some d' → ∃ d, cs[j]? = some d ∧ ((¬ (off ≤ j ∧ j < off + n) ∧ d' = d) ∨ (off ≤ j ∧ j < off + n ∧ (d' = .bad ∨ (isOwn d = false ∧ d' = d)))) := by
    intro j d' hd'
    by_cases hj : off ≤ j ∧ j < off + n
    · cases hc : cs[j]? with
      | none =>
        have : cs.length ≤ j := by simpa using hc
        rw [List.getElem?_eq_none (by omega)] at hd'; cases hd'
      | some d =>
        rcases hin j d hj.1 hj.2 hc with hb | ⟨hno, hb⟩
        · rw [hb] at hd'; cases hd'
          exact ⟨d, rfl, .inr ⟨hj.1, hj.2, .inl rfl⟩⟩
        · rw [hb] at hd'; cases hd'
          exact ⟨_, rfl, .inr ⟨hj.1, hj.2, .inr ⟨hno, rfl⟩⟩⟩
    · rw [hout j hj] at hd'
      exact ⟨d', hd', .inl ⟨hj, rfl⟩⟩
  refine ⟨{ G with ow := ow }, ⟨R.inv.sub (fun l p hl => ⟨_, (hr l p hl).1⟩) hinj, ?_, ?_, ?_, ?_, ?_⟩, ⟨rfl, rfl, fun l p hl => ⟨_, (hr l p hl).1⟩, o2⟩, o1, o1', fun _ _ => rfl⟩
  · intro t
    rw [look_kill]
    refine RD.fr F _ (fun _ => rfl) _ _ (free.kill ?_ ?_ ?_ _) (RD.kill _ _ _ (R.env t))
    · rintro l ⟨j, h1, h2, rfl⟩; exact hp j h1 h2
    · rintro ⟨j, _, _, hj⟩; cases hj
    · rintro j ⟨q, _, _, hq⟩; cases hq
  · intro q cs2 hq
    simp only [List.getElem?_set] at hq
    by_cases hqo : o = q
    · subst hqo
      rw [if_pos rfl, if_pos hol] at hq
      cases hq
      obtain ⟨b, c, e, fr, h1, h2, h3, h4⟩ := R.obj o cs hcs
      refine ⟨b, c, e, fr, h1, h2, h3, RDs.of_get _ _ _ _ (by rw [RDs.length _ _ _ _ h4, hlen]) ?_⟩
      intro i d' hd'
      obtain ⟨d, hd, hor⟩ := hcell i d' hd'
      obtain ⟨v', hv1, hv2⟩ := RDs.get _ _ _ _ _ _ h4 hd
      rw [Nat.zero_add] at *
      refine ⟨v', hv1, ?_⟩
      have hck : cellOk d = true := List.all_eq_true.1 (R.obc o cs hcs) d (List.mem_of_getElem? hd)
      rcases hor with ⟨hno, rfl⟩ | ⟨hi1, hi2, rfl | ⟨hio, rfl⟩⟩
      · exact RD.cellMove (G := G) (G' := { G with ow := ow }) (h := h) (l := .cell o i) ⟨RdLe.refl _, fun _ _ h => h⟩ hck (fun _ b f hb => ⟨by
          show ow (.cell o i) = some (b, f)
          rw [o4 o i (fun ⟨_, a, b⟩ => hno ⟨a, b⟩)]; exact hb, rfl⟩) hv2
      · simp only [RD]
      · exact RD.cellMove (G := G) (G' := { G with ow := ow }) (h := h) (l := .cell o i) ⟨RdLe.refl _, fun _ _ h => h⟩ hck (fun hx => by rw [hio] at hx; cases hx) hv2
    · rw [if_neg hqo] at hq
      obtain ⟨b, c, e, fr, h1, h2, h3, h4⟩ := R.obj q cs2 hq
      exact ⟨b, c, e, fr, h1, h2, h3, RDs.fr F _ (fun _ => rfl) _ _ _ (frees.cell 0 cs2 (R.obc q cs2 hq) (by rintro i d _ _ ⟨j, _, _, hj⟩; cases hj; exact hqo rfl)) h4⟩
  · intro q cs2 hq
    simp only [List.getElem?_set] at hq
    by_cases hqo : o = q
    · subst hqo
      rw [if_pos rfl, if_pos hol] at hq
      cases hq
      rw [List.all_eq_true]
      intro d' hd'
      obtain ⟨i, hi⟩ := List.mem_iff_getElem?.1 hd'
      obtain ⟨d, hd, hor⟩ := hcell i d' hi
      have hck : cellOk d = true := List.all_eq_true.1 (R.obc o cs hcs) d (List.mem_of_getElem? hd)
      rcases hor with ⟨_, rfl⟩ | ⟨_, _, rfl | ⟨_, rfl⟩⟩
      · exact hck
      · rfl
      · exact hck
    · rw [if_neg hqo] at hq; exact R.obc q cs2 hq
  · intro q hq
    simp only [List.length_set] at hq
    exact R.obn q hq
  · intro l p0 hh hl
    have hl' : ow l = some p0 := hl
    cases l with
    | hand q j => exact absurd rfl (hh q j)
    | nowhere => exact R.own _ p0 hh hl'
    | reg t j =>
      have := R.own _ p0 hh hl'
      rw [ownsAt_eq] at *
      simp only [look_kill, dOwns_kill]; exact this
    | cell q j =>
      have hno := (hr (.cell q j) _ hl').2.1
      have hG := (hr (.cell q j) _ hl').1
      simp only [r] at hG
      have := R.own _ p0 hh hG
      unfold ownsAt at this ⊢
      simp only [List.getElem?_set] at this ⊢
      by_cases hqo : o = q
      · subst hqo
        rw [if_pos rfl, if_pos hol]
        simp only [hcs] at this ⊢
        rw [hout j (fun ⟨a, b⟩ => hno j a b rfl)]; exact this
      · rw [if_neg hqo]; exact this
end
end Go.Mx
