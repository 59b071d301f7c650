/- Operations that do more than yield: assign, box, alloc, convert, make. -/
import Derived.Test.YtiicnbdolakdgaaMxM
set_option linter.unusedVariables false
set_option linter.unusedSimpArgs false
set_option linter.constructorNameAsVariable false
set_option linter.unnecessarySimpa false
namespace Go.Mx
open Go

/-- Pointers in variables point to older ones. -/
def Low (S : Store) : Prop := ∀ (o : Nat) (cs : List D), S[o]? = some cs → cs.all (lowC o) = true

structure Fine (h : Array Obj) (G : Gh) (tmps : Array Value) (σ : St) : Prop where
  rel : Rel h G tmps σ
  clean : Clean G
  low : Low σ.S

structure Goes (w : World) (G : Gh) (σ : St) (w' : World) (G' : Gh) (σ' : St) : Prop where
  step : Step w G w' G'
  len : σ.S.length ≤ σ'.S.length
  ob : ∀ o, o < σ.S.length → G'.ob o = G.ob o
theorem Goes.refl (w : World) (G : Gh) (σ : St) : Goes w G σ w G σ := ⟨Step.refl _ _, Nat.le_refl _, fun _ _ => rfl⟩
theorem Goes.trans {w w1 w2 : World} {G G1 G2 : Gh} {σ σ1 σ2 : St} (a : Goes w G σ w1 G1 σ1) (b : Goes w1 G1 σ1 w2 G2 σ2) : Goes w G σ w2 G2 σ2 :=
  ⟨a.step.trans b.step, Nat.le_trans a.len b.len, fun o ho => (b.ob o (Nat.lt_of_lt_of_le ho a.len)).trans (a.ob o ho)⟩
theorem Same.goes {w : World} {G G' : Gh} (S : Same w.heap G G') {σ σ' : St} (h : σ'.S.length = σ.S.length) : Goes w G σ w G' σ' := ⟨S.step, by omega, fun o _ => by rw [S.ob]⟩

def Does (P : Program) (w : World) (G : Gh) (a : Act) (σ : St) (o : Oper) (σ' : St) : Prop :=
  ∀ (next : Act → World → Prop) (Q : Exit → Act → World → Prop), (∀ a' w' G', a'.defers = a.defers → a'.tmps.size = a.tmps.size → Fine w'.heap G' a'.tmps σ' → Goes w G σ w' G' σ' → next a' w') → o.wp P a w next Q

section
variable {P : Program} {w : World} {G : Gh} {tmps : Array Value} {σ σ' : St} {ds : List Deferred} {C : Oracle} {ro mv gv : Nat → Bool}

/-- What the operation yields lies in hand 0: its register gets it. -/
theorem Does.give {o : Oper} {v : Value} {w1 : World} {G1 : Gh} {σ1 : St} {t : Nat} {d : D} (hdst : o.dst = some t) (ht : t < tmps.size) (hrun : (execOp (⟨tmps, ds⟩ : Act).eval o).run P w = .ok (.value v) w1)
    (R : Rel w1.heap G1 tmps σ1) (H : Held w1.heap G1 0 d v) (hc : ∀ q j, q ≠ 0 → G1.ow (.hand q j) = none) (low : Low σ1.S) (hg : Goes w G σ w1 G1 σ1) : Does P w G ⟨tmps, ds⟩ σ o { σ1 with env := setReg σ1.env t d } := by
  intro next Q hn
  unfold Oper.wp
  rw [hrun, Oper.upon_value]
  obtain ⟨G2, R2, S2, h1, h2, h3⟩ := R.give H ht
  refine hn _ w1 G2 (by simp [Act.put, hdst]) (by simp [Act.put, hdst]) ⟨by simpa [Act.put, hdst] using R2, ?_, low⟩ (hg.trans (S2.goes rfl))
  intro q j
  by_cases hq : q = 0
  · subst hq; exact h1 j
  · rw [h2 q j hq, hc q j hq]

theorem Held.free (cl : Clean G) {h : Array Obj} {k : Nat} {d : D} {v : Value} (hr : ∀ loc, RD h G loc d v) (hv : valOk d = true) : Held h G k d v := ⟨hr _, fun j p hp => (by rw [cl k j] at hp; cases hp), hv⟩

theorem offReg_free {env : Env} {t : Nat} {d : D} (ho : ownFree d = true) : ownFree (offReg env (some t) d) = true := by
  unfold offReg
  simp only
  cases hasOwn (look env t) with
  | false => exact ho
  | true =>
    simp only [cond_true]
    cases d with
    | al f s l src => simp only [killB]; cases inReg t src <;> rfl
    | ep src s i off => simp only [killB]; cases inReg t src <;> rfl
    | agg cs =>
      simp only [killB, ownFree] at *
      have : ∀ cs : List D, cs.all ownFreeC = true → (killBs (inReg t) cs).all ownFreeC = true := by
        intro cs
        induction cs with
        | nil => intro _; rfl
        | cons d r ih =>
          intro hc
          simp only [List.all_cons, Bool.and_eq_true] at hc
          simp only [killBs, List.all_cons, Bool.and_eq_true]
          refine ⟨?_, ih hc.2⟩
          cases d with
          | al f s l src => simp only [killB]; cases inReg t src <;> rfl
          | ep src s i off => simp only [killB]; cases inReg t src <;> rfl
          | own _ _ => simp [ownFreeC] at hc
          | agg _ => simp [ownFreeC] at hc
          | mb _ _ => simp [ownFreeC] at hc
          | _ => rfl
      exact this cs ho
    | _ => first | rfl | (simp [ownFree] at ho)

theorem Rel.setFree {h : Array Obj} (R : Rel h G tmps σ) {t : Nat} {d : D} {v : Value} (ht : t < tmps.size) (ho : ownFree d = true) (hr : ∀ loc, RD h G loc d v) :
    ∃ G', Rel h G' (tmps.setIfInBounds t v) { σ with env := setReg σ.env t (offReg σ.env (some t) d) } ∧ Same h G G' ∧ (∀ k j, G'.ow (.hand k j) = G.ow (.hand k j)) := by
  let ow : Loc → Option (Nat × Nat) := fun l => match l with
    | .reg u j => if u = t then none else G.ow (.reg u j)
    | l => G.ow l
  have o3 : ∀ j, ow (.reg t j) = none := fun j => by simp [ow]
  have o4 : ∀ u j, u ≠ t → ow (.reg u j) = G.ow (.reg u j) := fun q j hq => by simp [ow, hq]
  have hr' : ∀ l p, ow l = some p → G.ow l = some p ∧ ∀ j, l ≠ .reg t j := by
    intro l p hl
    refine ⟨?_, by rintro j rfl; rw [o3] at hl; cases hl⟩
    cases l with
    | reg u j =>
      by_cases hu : u = t
      · subst hu; rw [o3] at hl; cases hl
      · rw [o4 u j hu] at hl; exact hl
    | _ => exact hl
  have I : Inv h { G with ow := ow } := R.inv.sub (fun l p hl => ⟨_, (hr' l p hl).1⟩) (fun l l' b f f' h1 h2 => R.inv.ow_inj l l' b f f' (hr' _ _ h1).1 (hr' _ _ h2).1)
  have F : Fr (fun l => ∃ j, l = .reg t j) h G h { G with ow := ow } := ⟨RdLe.refl _, fun _ _ h => h, fun l p hpl hl hp => by
      show ow l = some p
      cases l with
      | hand q j => cases hpl
      | reg u j => rw [o4 u j (fun hu => hl ⟨j, by rw [hu]⟩)]; exact hp
      | _ => exact hp, fun _ _ _ _ _ _ => rfl⟩
  refine ⟨{ G with ow := ow }, R.reg ht I F (fun _ => rfl) (fun _ _ _ => rfl) (fun l p hpl hl _ => (hr' l p hl).1) ?_ ?_, ⟨RdLe.refl _, rfl, fun l b f hl => ⟨l, f, (hr' l _ hl).1⟩, fun b hb => .inl hb⟩, fun _ _ => rfl⟩
  · -- the value
    have hd : RD h G (fun _ => Loc.nowhere) d v := hr _
    have key : RD h { G with ow := ow } (fun _ => Loc.nowhere) (offReg σ.env (some t) d) v := by
      unfold offReg
      simp only
      cases hh : hasOwn (look σ.env t) with
      | true =>
        simp only [cond_true]
        refine RD.fr F _ (fun _ => rfl) _ _ (free.kill ?_ ?_ ?_ _) (RD.kill _ _ _ hd)
        · rintro l ⟨j, rfl⟩; simp [inReg]
        · rintro ⟨j, hj⟩; cases hj
        · rintro j ⟨q, hq⟩; cases hq
      | false =>
        simp only [cond_false]
        have F0 : Fr (fun _ => False) h G h { G with ow := ow } := ⟨F.rd, F.ob, fun l p hpl _ hp => (by
          refine F.ow l p hpl ?_ hp
          rintro ⟨j, rfl⟩
          have := ownsAt_reg (R.own _ _ (fun _ _ h => by cases h) hp)
          rw [hh] at this; cases this), fun _ _ _ _ _ _ => rfl⟩
        exact RD.fr F0 _ (fun _ => rfl) _ _ (free.none _ _) hd
    exact RD.reloc (offReg_free ho) key
  · intro j p hp
    have hp' : ow (.reg t j) = some p := hp
    rw [o3] at hp'; cases hp'

/-- A pure value goes to the register. -/
theorem Does.free {o : Oper} {v : Value} {t : Nat} {d : D} (hdst : o.dst = some t) (ht : t < tmps.size) (hrun : (execOp (⟨tmps, ds⟩ : Act).eval o).run P w = .ok (.value v) w)
    (R : Fine w.heap G tmps σ) (ho : ownFree d = true) (hr : ∀ loc, RD w.heap G loc d v) : Does P w G ⟨tmps, ds⟩ σ o { σ with env := setReg σ.env t (offReg σ.env (some t) d) } := by
  intro next Q hn
  unfold Oper.wp
  rw [hrun, Oper.upon_value]
  obtain ⟨G2, R2, S2, h1⟩ := R.rel.setFree ht ho hr
  exact hn _ w G2 (by simp [Act.put, hdst]) (by simp [Act.put, hdst]) ⟨by simpa [Act.put, hdst] using R2, fun q j => by rw [h1]; exact R.clean q j, R.low⟩ (S2.goes rfl)

/-! ### A value made ready for a variable -/
theorem fitC_ok {h : Array Obj} {k : Nat} {d d' : D} {v : Value} {loc : Nat → Loc} (hf : fitC k d = some d') (hr : RD h G loc d v) : RD h G loc d' v ∧ isOwn d' = isOwn d ∧ cellOk d' = true := by
  cases d with
  | own sz l =>
    simp only [fitC] at hf
    cases hk : (k == 0) with
    | true => simp [hk] at hf
    | false =>
      simp only [hk, cond_false] at hf
      cases hc : (sz == k || (sz == 0 && l.isEmpty)) with
      | false => simp [hc] at hf
      | true =>
        simp only [hc, cond_true] at hf
        cases hf
        refine ⟨?_, rfl, rfl⟩
        simp only [RD] at *
        by_cases hsk : sz = k
        · subst hsk; exact hr
        · rcases hr with hr | ⟨b, off, cap, c, e, fr, h1, h2, h3, h4, h5, h6, h7⟩
          · exact .inl hr
          · simp at hc; omega
  | cut sz l =>
    simp only [fitC] at hf
    cases hk : (k == 0) with
    | true => simp [hk] at hf
    | false =>
      simp only [hk, cond_false] at hf
      cases hc : (sz == k || l.isEmpty) with
      | false => simp [hc] at hf
      | true =>
        simp only [hc, cond_true] at hf
        cases hf
        refine ⟨?_, rfl, rfl⟩
        simp only [RD, RV] at *
        obtain ⟨base, h1, h2⟩ := hr
        refine ⟨base, l.length, h1, Nat.le_refl _, ?_⟩
        rcases h2 with h2 | ⟨b, off, c, g1, g2, g3⟩
        · exact .inl h2
        · by_cases hsk : sz = k
          · subst hsk; exact .inr ⟨b, off, c, g1, g2, g3⟩
          · left; simp at hc; rcases hc with hc | hc
            · exact absurd hc hsk
            · exact hc
  | v x =>
    cases x with
    | sl sz l =>
      simp only [fitC] at hf
      cases hk : (k == 0) with
      | true => simp [hk] at hf
      | false =>
        simp only [hk, cond_false] at hf
        cases hc : (sz == k || l.isEmpty) with
        | false => simp [hc] at hf
        | true =>
          simp only [hc, cond_true] at hf
          cases hf
          refine ⟨?_, rfl, rfl⟩
          simp only [RD, RV] at *
          obtain ⟨base, cap, h1, h0, h2⟩ := hr
          refine ⟨base, cap, h1, h0, ?_⟩
          rcases h2 with h2 | ⟨b, off, c, g1, g2, g3⟩
          · exact .inl h2
          · by_cases hsk : sz = k
            · subst hsk; exact .inr ⟨b, off, c, g1, g2, g3⟩
            · left; simp at hc; rcases hc with hc | hc
              · exact absurd hc hsk
              · exact hc
    | _ =>
      simp only [fitC] at hf
      cases hk : (k == 0) <;> simp [hk] at hf
      subst hf
      exact ⟨hr, rfl, rfl⟩
  | ptr o f => simp [fitC] at hf; subst hf; exact ⟨hr, rfl, rfl⟩
  | rp c => simp [fitC] at hf; subst hf; exact ⟨hr, rfl, rfl⟩
  | nilp => simp [fitC] at hf; subst hf; exact ⟨hr, rfl, rfl⟩
  | clo f c =>
    simp only [fitC] at hf
    cases hc : c.all stayC with
    | false => simp [hc] at hf
    | true => simp [hc] at hf; subst hf; exact ⟨hr, rfl, by simpa [cellOk] using hc⟩
  | _ => simp [fitC] at hf
theorem fitC_ne {k : Nat} {d d' : D} (hf : fitC k d = some d') : d' ≠ .bad ∧ d' ≠ .undef := by
  cases d with
  | v x =>
    cases x <;> simp only [fitC, cond_eq_ite] at hf <;> (repeat' split at hf) <;> first | (cases hf; done) | (cases hf; exact ⟨fun h => (by cases h), fun h => (by cases h)⟩)
  | _ => simp only [fitC, cond_eq_ite] at hf <;> (repeat' split at hf) <;> first | (cases hf; done) | (cases hf; exact ⟨fun h => (by cases h), fun h => (by cases h)⟩)
theorem fitCs_ok {h : Array Obj} {loc : Nat → Loc} : ∀ (ks : List Nat) (j : Nat) (ds ds' : List D) (vs : List Value), fitCs ks ds = some ds' → RDs h G loc j ds vs → RDs h G loc j ds' vs ∧ ds'.all cellOk = true ∧ ds'.length = ds.length ∧ ∀ (i : Nat) (d : D), ds[i]? = some d → ∃ d', ds'[i]? = some d' ∧ isOwn d' = isOwn d
  | [], j, [], ds', vs, hf, hr => by simp [fitCs] at hf; subst hf; exact ⟨hr, rfl, rfl, fun i d hd => by simp at hd⟩
  | k :: ks, j, d :: ds, ds', vs, hf, hr => by
    cases vs with
    | nil => simp only [RDs] at hr
    | cons v vs =>
    simp only [fitCs] at hf
    cases h1 : fitC k d with
    | none => simp [h1] at hf
    | some d1 =>
      simp only [h1] at hf
      cases h2 : fitCs ks ds with
      | none => simp [h2] at hf
      | some r =>
        simp only [h2] at hf
        cases hf
        simp only [RDs] at *
        obtain ⟨g1, g2, g3⟩ := fitC_ok h1 hr.1
        obtain ⟨k1, k2, k3, k4⟩ := fitCs_ok ks (j + 1) ds r vs h2 hr.2
        refine ⟨⟨g1, k1⟩, by simp [g3, k2], by simp [k3], fun i d0 hd => ?_⟩
        cases i with
        | zero => simp at hd; subst hd; exact ⟨d1, rfl, g2⟩
        | succ i => simpa using k4 i d0 (by simpa using hd)
  | [], _, _ :: _, _, _, hf, _ => by simp [fitCs] at hf
  | _ :: _, _, [], _, _, hf, _ => by simp [fitCs] at hf

/-- Held, made ready. -/
theorem Held.fit {h : Array Obj} {k : Nat} {d d' : D} {v : Value} {ty : Ty} (H : Held h G k d v) (hf : Mx.fit ty d = some d') : Held h G k d' v ∧ (cellsOf d').all cellOk = true ∧ RDs h G (Loc.hand k) 0 (cellsOf d') v.cells.toList := by
  have one : ∀ q, fitC q d = some d' → (∀ cs, d ≠ .agg cs) → Held h G k d' v ∧ (cellsOf d').all cellOk = true ∧ RDs h G (Loc.hand k) 0 (cellsOf d') v.cells.toList := by
    intro q hq hna
    obtain ⟨g1, g2, g3⟩ := fitC_ok hq H.rd
    have hna' : ∀ cs, d' ≠ .agg cs := by rintro cs rfl; simp [cellOk, stayC] at g3
    have hok : valOk d' = true := by cases d' <;> first | exact g3 | exact absurd rfl (hna' _)
    have hH : Held h G k d' v := ⟨g1, fun j p hp => by
      have := H.own j p hp
      cases d <;> simp only [dOwns] at this <;> try (cases this; done)
      · have hd' : isOwn d' = true := by rw [g2]; rfl
        cases d' <;> simp only [isOwn] at hd' <;> try (cases hd'; done)
        simpa [dOwns] using this
      · exact absurd rfl (hna _), hok⟩
    have hco : cellsOf d' = [d'] := by cases d' <;> first | rfl | exact absurd rfl (hna' _)
    refine ⟨hH, by rw [hco]; simp [g3], ?_⟩
    rcases RD.cells hok g1 (fun _ _ => trivial) with rfl | rfl | hc
    · exact absurd rfl (fitC_ne hq).1
    · exact absurd rfl (fitC_ne hq).2
    · exact hc
  cases d with
  | agg cs =>
    simp only [Mx.fit] at hf
    cases ha : ty.agg with
    | false => simp [ha] at hf
    | true =>
      simp only [ha, cond_true] at hf
      cases h2 : fitCs ty.flat cs with
      | none => simp [h2] at hf
      | some r =>
        simp only [h2] at hf
        cases hf
        have hrd := H.rd
        simp only [RD] at hrd
        obtain ⟨vs, g1, g2⟩ := hrd
        obtain ⟨k1, k2, k3, k4⟩ := fitCs_ok _ _ _ _ _ h2 g2
        refine ⟨⟨by simp only [RD]; exact ⟨vs, g1, k1⟩, ?_, by simpa [valOk] using k2⟩, k2, by rw [g1]; exact k1⟩
        intro j p hp
        have := H.own j p hp
        simp only [dOwns] at *
        cases hcj : cs[j]? with
        | none => rw [hcj] at this; cases this
        | some d0 =>
          rw [hcj] at this
          obtain ⟨d1, e1, e2⟩ := k4 j d0 hcj
          rw [e1]; simpa [e2] using this
  | _ =>
    simp only [Mx.fit] at hf
    split at hf
    · rename_i q hq
      cases ha : ty.agg with
      | true => simp [ha] at hf
      | false =>
        simp only [ha, cond_false] at hf
        exact one q hf (by rintro cs h; cases h)
    · cases hf

theorem fit_valOk {ty : Ty} {d d' : D} (hf : Mx.fit ty d = some d') : valOk d = true ∨ d = .agg [] ∨ True := .inr (.inr trivial)
end
end Go.Mx
