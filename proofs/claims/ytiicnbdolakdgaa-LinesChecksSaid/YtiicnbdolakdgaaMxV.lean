/- Calls that see the variables. -/
import Derived.Test.YtiicnbdolakdgaaMxU
set_option linter.unusedVariables false
set_option linter.unusedSimpArgs false
set_option linter.constructorNameAsVariable false
set_option linter.unnecessarySimpa false
namespace Go.Mx
open Go

section
variable {P : Program} {w : World} {h : Array Obj} {G : Gh} {tmps : Array Value} {σ σ' : St} {ds : List Deferred} {C : Oracle} {ro mv gv : Nat → Bool} {o : Oper}

theorem Held.same {h : Array Obj} {G G' : Gh} {k : Nat} {d : D} {v : Value} (H : Held h G k d v) (S : Same h G G') (hh : ∀ j, G'.ow (.hand k j) = G.ow (.hand k j)) : Held h G' k d v :=
  ⟨RD.valMove S.more H.ok (fun j _ b f hb => ⟨by rw [hh]; exact hb, rfl⟩) H.rd, fun j p hp => H.own j p (by rw [← hh]; exact hp), H.ok⟩

theorem Low.argE {give : Nat → Bool} {x : Operand} {d : D} (L : Low σ.S) (ha : Mx.argE give σ x = some (d, σ')) : Low σ'.S ∧ σ'.S.length = σ.S.length := by
  unfold Mx.argE at ha
  split at ha
  · cases ha
  · rename_i d0 hf
    generalize isGive give x = g at ha
    cases g with
    | true =>
      simp only [cond_true] at ha
      split at ha
      · rename_i sz l src
        cases hs : spendOk σ src with
        | false => rw [hs] at ha; cases ha
        | true => rw [hs] at ha; simp only [cond_true, Option.some.injEq, Prod.mk.injEq] at ha; obtain ⟨_, rfl⟩ := ha; exact ⟨L.spendLoc, spendLoc_len⟩
      · cases hv : valOk d0 with
        | false => rw [hv] at ha; cases ha
        | true => rw [hv] at ha; simp only [cond_true, Option.some.injEq, Prod.mk.injEq] at ha; obtain ⟨_, rfl⟩ := ha; exact ⟨L, rfl⟩
    | false =>
      simp only [cond_false] at ha
      cases hv : valOk d0 with
      | false => rw [hv] at ha; cases ha
      | true => rw [hv] at ha; simp only [cond_true, Option.some.injEq, Prod.mk.injEq] at ha; obtain ⟨_, rfl⟩ := ha; exact ⟨L, rfl⟩

theorem frz_valOk {d : D} (hv : valOk d = true) : valOk (frz d) = true ∧ ∀ j, dOwns (frz d) j = false := by
  have cell : ∀ d : D, cellOk d = true → cellOk (frzC d) = true ∧ isOwn (frzC d) = false := by
    intro d hd
    cases d <;> first | exact ⟨rfl, rfl⟩ | exact ⟨hd, rfl⟩ | simp [cellOk, stayC] at hd
  cases d with
  | agg cs =>
    have hc : cs.all cellOk = true := by simpa [valOk] using hv
    refine ⟨?_, fun j => ?_⟩
    · simp only [frz, valOk]
      rw [List.all_eq_true] at *
      intro d hd
      obtain ⟨d0, h0, rfl⟩ := List.mem_map.1 hd
      exact (cell d0 (hc d0 h0)).1
    · simp only [frz, dOwns, List.getElem?_map]
      cases hj : cs[j]? with
      | none => rfl
      | some d => exact (cell d (List.all_eq_true.1 hc d (List.mem_of_getElem? hj))).2
  | own sz l => exact ⟨rfl, fun _ => rfl⟩
  | clo f cs => exact ⟨hv, fun _ => rfl⟩
  | _ => first | exact ⟨rfl, fun _ => rfl⟩ | simp [valOk, cellOk, stayC] at hv

theorem arg_ok {give : Nat → Bool} {x : Operand} {d : D} (R : Rel h G tmps σ) (k : Nat) (hk : ∀ q, k ≤ q → ∀ j, G.ow (.hand q j) = none) (ha : argE give σ x = some (d, σ')) :
    ∃ G', Rel h G' tmps σ' ∧ Same h G G' ∧ Held h G' k d ((⟨tmps, ds⟩ : Act).eval x) ∧ (∀ q j, q ≠ k → G'.ow (.hand q j) = G.ow (.hand q j)) := by
  unfold argE at ha
  split at ha
  · cases ha
  · rename_i d0 hf
    generalize isGive give x = g at ha
    cases g with
    | true =>
      simp only [cond_true] at ha
      split at ha
      · rename_i sz l src
        cases hs : spendOk σ src with
        | false => rw [hs] at ha; cases ha
        | true =>
          rw [hs] at ha
          simp only [cond_true, Option.some.injEq, Prod.mk.injEq] at ha
          obtain ⟨rfl, rfl⟩ := ha
          have hr := R.opndF ds hf
          simp only [RD] at hr
          obtain ⟨G1, R1, S1, H1, c1⟩ := R.spendLoc k (hk k (Nat.le_refl _)) hs (hr.1 trivial)
          exact ⟨G1, R1, S1, H1, c1⟩
      · cases hv : valOk d0 with
        | false => rw [hv] at ha; cases ha
        | true =>
          rw [hv] at ha
          simp only [cond_true, Option.some.injEq, Prod.mk.injEq] at ha
          obtain ⟨rfl, rfl⟩ := ha
          obtain ⟨G1, R1, T, H1⟩ := R.take (ds := ds) k (hk k (Nat.le_refl _)) hf hv
          exact ⟨G1, R1, T.same, H1, T.hand⟩
    | false =>
      simp only [cond_false] at ha
      cases hv : valOk d0 with
      | false => rw [hv] at ha; cases ha
      | true =>
        rw [hv] at ha
        simp only [cond_true, Option.some.injEq, Prod.mk.injEq] at ha
        obtain ⟨rfl, rfl⟩ := ha
        obtain ⟨G1, R1, S1, hr, c1, c2⟩ := R.frzReg (ds := ds) k (hk k (Nat.le_refl _)) hf hv
        obtain ⟨f1, f2⟩ := frz_valOk hv
        exact ⟨G1, R1, S1, ⟨hr _, fun j p hp => (by rw [c1, hk k (Nat.le_refl _)] at hp; cases hp), f1⟩, fun q j _ => c1 q j⟩

theorem args_ok {give : Nat → Bool} : ∀ (xs : List Operand) (k : Nat) (σ σ' : St) (args : List D) (G : Gh), Rel h G tmps σ → (∀ q, k ≤ q → ∀ j, G.ow (.hand q j) = none) → argsE give σ xs = some (args, σ') →
    ∃ G', Rel h G' tmps σ' ∧ Same h G G' ∧ args.length = xs.length ∧ (∀ (i : Nat) (d : D), args[i]? = some d → ∃ x, xs[i]? = some x ∧ Held h G' (k + i) d ((⟨tmps, ds⟩ : Act).eval x)) ∧ (∀ q j, q < k → G'.ow (.hand q j) = G.ow (.hand q j)) ∧ (∀ q, k + xs.length ≤ q → ∀ j, G'.ow (.hand q j) = none)
  | [], k, σ, σ', args, G, R, hk, ha => by
    simp only [argsE] at ha
    cases ha
    exact ⟨G, R, Same.refl _ _, rfl, fun i d hd => by simp at hd, fun _ _ _ => rfl, fun q hq => hk q (by simpa using hq)⟩
  | x :: xs, k, σ, σ', args, G, R, hk, ha => by
    simp only [argsE] at ha
    cases h1 : argE give σ x with
    | none => simp [h1] at ha
    | some p =>
      obtain ⟨d, σ1⟩ := p
      simp only [h1] at ha
      cases h2 : argsE give σ1 xs with
      | none => simp [h2] at ha
      | some p =>
        obtain ⟨r, σ2⟩ := p
        simp only [h2] at ha
        cases ha
        obtain ⟨G1, R1, S1, H1, c1⟩ := arg_ok (ds := ds) R k hk h1
        obtain ⟨G2, R2, S2, hl, hg, c2, c3⟩ := args_ok xs (k + 1) σ1 σ' r G1 R1 (fun q hq j => by rw [c1 q j (by omega)]; exact hk q (by omega) j) h2
        refine ⟨G2, R2, S1.trans S2, by simp [hl], fun i d' hd => ?_, fun q j hq => ?_, fun q hq => c3 q (by simp at hq; omega)⟩
        · cases i with
          | zero =>
            simp at hd
            subst hd
            exact ⟨x, rfl, H1.same S2 (fun j => c2 k j (by omega))⟩
          | succ i =>
            obtain ⟨x', hx, hH⟩ := hg i d' (by simpa using hd)
            exact ⟨x', by simpa using hx, by rw [show k + (i + 1) = k + 1 + i by omega]; exact hH⟩
        · rw [c2 q j (by omega), c1 q j (by omega)]
theorem Low.argsE {give : Nat → Bool} : ∀ (xs : List Operand) (σ σ' : St) (args : List D), Low σ.S → Mx.argsE give σ xs = some (args, σ') → Low σ'.S ∧ σ'.S.length = σ.S.length
  | [], σ, σ', args, L, ha => by
    simp only [Mx.argsE] at ha
    cases ha
    exact ⟨L, rfl⟩
  | x :: xs, σ, σ', args, L, ha => by
    simp only [Mx.argsE] at ha
    cases h1 : Mx.argE give σ x with
    | none => simp [h1] at ha
    | some p =>
      obtain ⟨d, σ1⟩ := p
      simp only [h1] at ha
      cases h2 : Mx.argsE give σ1 xs with
      | none => simp [h2] at ha
      | some p =>
        obtain ⟨r, σ2⟩ := p
        simp only [h2] at ha
        cases ha
        obtain ⟨L1, e1⟩ := Low.argE L h1
        obtain ⟨L2, e2⟩ := Low.argsE xs σ1 σ' r L1 h2
        exact ⟨L2, by rw [e2, e1]⟩

/-- The call itself: its arguments lie in the hands. -/
theorem eff_call (SC : SoundC P C) (R : Rel w.heap G tmps σ) (low : Low σ.S) {f : FuncId} {args : List D} {vals : List Value} {d : D} {S' : Store} (A : Args w.heap G args vals) (hC : C f args σ.S = some (d, S')) :
    Enters P f vals.toArray w fun v w' => ∃ G', Rel w'.heap G' tmps { env := kill isCell σ.env, S := S' } ∧ Low S' ∧ Goes w G σ w' G' { env := kill isCell σ.env, S := S' } ∧ Got w'.heap G' d v := by
  have I := R.inv
  let ow1 : Loc → Option (Nat × Nat) := fun l => match l with
    | .reg _ _ => none
    | l => G.ow l
  have hsub1 : ∀ l p, ow1 l = some p → G.ow l = some p ∧ ∀ t j, l ≠ .reg t j := by
    intro l p hl
    cases l with
    | reg t j => cases hl
    | _ => exact ⟨hl, fun _ _ h => (by cases h)⟩
  have I1 : Inv w.heap { G with ow := ow1 } := I.sub (fun l p hl => ⟨l, (hsub1 l p hl).1⟩) (fun l l' b f f' h1 h2 => I.ow_inj l l' b f f' (hsub1 _ _ h1).1 (hsub1 _ _ h2).1)
  have R1 : Rel w.heap { G with ow := ow1 } #[] ⟨[], σ.S⟩ := by
    refine Rel.bare I1 ?_ R.obc R.obn ?_
    · intro q cs hcs
      obtain ⟨b, c, e, fr, h1, h2, h3, h4⟩ := R.obj q cs hcs
      exact ⟨b, c, e, fr, h1, h2, h3, RDs.cellMove (G := G) (G' := { G with ow := ow1 }) (h := w.heap) ⟨RdLe.refl _, fun _ _ h => h⟩ 0 0 cs _ (R.obc q cs hcs) (fun i d' _ _ b f hb => ⟨hb, rfl⟩) h4⟩
    · intro l p hh hl
      have hl' := hsub1 l p hl
      have := R.own l p hh hl'.1
      cases l with
      | reg t j => exact absurd rfl (hl'.2 t j)
      | hand k j => exact absurd rfl (hh k j)
      | nowhere => simp [ownsAt] at this
      | cell q j => exact this
  have A1 : Args w.heap { G with ow := ow1 } args vals := ⟨A.len, fun j d hd => by
    obtain ⟨v, h1, h2, h3⟩ := A.rd j d hd
    exact ⟨v, h1, RD.valMove (G := G) (G' := { G with ow := ow1 }) (h := w.heap) ⟨RdLe.refl _, fun _ _ h => h⟩ h3 (fun i _ b f hb => ⟨hb, rfl⟩) h2, h3⟩, fun k j p hp => A.own k j p hp⟩
  refine (SC f _ _ d S' hC w _ vals R1 low A1).mono ?_
  rintro v w' ⟨G1, RG, lowS, hg, hlen, hres⟩
  -- a register's blocks
  have hregn : ∀ t j b f, G.ow (.reg t j) = some (b, f) → ¬ mine { G with ow := ow1 } b := by
    rintro t j b f hl (⟨q, hq⟩ | ⟨l, f', hl'⟩)
    · exact I.ow_ob _ b f q hl hq
    · have h1 := hsub1 l _ hl'
      exact h1.2 t j (I.ow_inj _ _ b f' f h1.1 hl)
  have hreg : ∀ t j b f, G.ow (.reg t j) = some (b, f) → w'.heap[b]? = w.heap[b]? := fun t j b f hl => hg.step.keep b (I.ow_lt _ b f hl) (hregn t j b f hl)
  have hregm : ∀ t j b f, G.ow (.reg t j) = some (b, f) → ¬ mine G1 b := by
    intro t j b f hl hm
    rcases hg.step.mine b hm with h1 | h1
    · exact hregn t j b f hl h1
    · have := I.ow_lt _ b f hl; omega
  have hregrd : ∀ t j b f, G.ow (.reg t j) = some (b, f) → G1.rd b = none := by
    intro t j b f hl
    cases hc : G1.rd b with
    | none => rfl
    | some c =>
      rcases hg.step.rdn b (by rw [hc]; exact fun h => by cases h) with h1 | h1 | h1
      · exact absurd (I.ow_rd _ b f hl) h1
      · exact absurd h1 (hregn t j b f hl)
      · have := I.ow_lt _ b f hl; omega
  let ow2 : Loc → Option (Nat × Nat) := fun l => match l with
    | .reg t j => G.ow (.reg t j)
    | l => G1.ow l
  have hs2 : ∀ l b f, ow2 l = some (b, f) → (∃ t j, l = .reg t j ∧ G.ow (.reg t j) = some (b, f)) ∨ ((∀ t j, l ≠ .reg t j) ∧ G1.ow l = some (b, f)) := by
    intro l b f hl
    cases l with
    | reg t j => exact .inl ⟨t, j, rfl, hl⟩
    | _ => exact .inr ⟨fun _ _ h => (by cases h), hl⟩
  have I2 : Inv w'.heap { G1 with ow := ow2 } := {
    rd_ok := RG.inv.rd_ok
    ob_lt := RG.inv.ob_lt
    ob_rd := RG.inv.ob_rd
    ob_inj := RG.inv.ob_inj
    ow_lt := fun l b f hl => by
      rcases hs2 l b f hl with ⟨t, j, rfl, h1⟩ | ⟨_, h1⟩
      · exact Nat.lt_of_lt_of_le (I.ow_lt _ b f h1) hg.step.size
      · exact RG.inv.ow_lt l b f h1
    ow_rd := fun l b f hl => by
      rcases hs2 l b f hl with ⟨t, j, rfl, h1⟩ | ⟨_, h1⟩
      · exact hregrd t j b f h1
      · exact RG.inv.ow_rd l b f h1
    ow_ob := fun l b f q hl hq => by
      rcases hs2 l b f hl with ⟨t, j, rfl, h1⟩ | ⟨_, h1⟩
      · exact hregm t j b f h1 (.inl ⟨q, hq⟩)
      · exact RG.inv.ow_ob l b f q h1 hq
    ow_inj := fun l l' b f f' h1 h2 => by
      rcases hs2 l b f h1 with ⟨t, j, rfl, g1⟩ | ⟨_, g1⟩ <;> rcases hs2 l' b f' h2 with ⟨t', j', rfl, k1⟩ | ⟨_, k1⟩
      · exact I.ow_inj _ _ b f f' g1 k1
      · exact absurd (.inr ⟨l', f', k1⟩) (hregm t j b f g1)
      · exact absurd (.inr ⟨l, f, g1⟩) (hregm t' j' b f' k1)
      · exact RG.inv.ow_inj l l' b f f' g1 k1 }
  have F2 : Fr (fun l => ∃ q j, l = .cell q j) w.heap G w'.heap { G1 with ow := ow2 } := ⟨hg.step.rd, fun q b hq => by
      have hql : q < σ.S.length := by
        rcases Nat.lt_or_ge q σ.S.length with hl | hl
        · exact hl
        · rw [R.obn q hl] at hq; cases hq
      show G1.ob q = some b
      rw [hg.ob q hql]; exact hq, fun l p hpl hl hp => (by
      cases l with
      | hand k j => cases hpl
      | reg t j => exact hp
      | cell q j => exact absurd ⟨q, j, rfl⟩ hl
      | nowhere =>
        have := R.own _ p (fun _ _ h => by cases h) hp
        simp [ownsAt] at this), fun l b f hpl hl hp => (by
      cases l with
      | hand k j => cases hpl
      | reg t j => exact hreg t j b f hp
      | cell q j => exact absurd ⟨q, j, rfl⟩ hl
      | nowhere =>
        have := R.own _ _ (fun _ _ h => by cases h) hp
        simp [ownsAt] at this)⟩
  have R2 : Rel w'.heap { G1 with ow := ow2 } tmps { env := kill isCell σ.env, S := S' } := by
    refine ⟨I2, ?_, ?_, RG.obc, RG.obn, ?_⟩
    · intro t
      rw [look_kill]
      refine RD.fr F2 _ (fun _ => rfl) _ _ (free.kill ?_ ?_ ?_ _) (RD.kill _ _ _ (R.env t))
      · rintro l ⟨q, j, rfl⟩; rfl
      · rintro ⟨q, j, hj⟩; cases hj
      · rintro j ⟨q, j', hq⟩; cases hq
    · intro q cs hcs
      obtain ⟨b, c, e, fr, h1, h2, h3, h4⟩ := RG.obj q cs hcs
      exact ⟨b, c, e, fr, h1, h2, h3, RDs.cellMove (G := G1) (G' := { G1 with ow := ow2 }) (h := w'.heap) ⟨RdLe.refl _, fun _ _ h => h⟩ 0 0 cs _ (RG.obc q cs hcs) (fun i d' _ _ b f hb => ⟨hb, rfl⟩) h4⟩
    · intro l p hh hl
      have hl' : ow2 l = some p := hl
      cases l with
      | hand k j => exact absurd rfl (hh k j)
      | reg t j =>
        have := R.own _ p hh hl'
        rw [ownsAt_eq] at *
        simp only [look_kill, dOwns_kill]; exact this
      | cell q j => exact RG.own _ p hh hl'
      | nowhere => exact RG.own _ p hh hl'
  have hmi : ∀ b, mine { G with ow := ow1 } b → mine G b := by
    rintro b (⟨q, hq⟩ | ⟨l, f, hl⟩)
    · exact .inl ⟨q, hq⟩
    · exact .inr ⟨l, f, (hsub1 l _ hl).1⟩
  refine ⟨_, R2, lowS, ⟨⟨hg.step.os, hg.step.tape, hg.step.output, hg.step.size, fun b hb hm => hg.step.keep b hb (fun hx => hm (hmi b hx)), ?_, hg.step.rd, fun b hb => (hg.step.rdn b hb).imp id (Or.imp (hmi b) id)⟩, by rw [hlen]; exact Nat.le_refl _, fun q hq => hg.ob q hq⟩, ?_⟩
  · rintro b (⟨q, hq⟩ | ⟨l, f, hl⟩)
    · exact (hg.step.mine b (.inl ⟨q, hq⟩)).imp (hmi b) id
    · rcases hs2 l b f hl with ⟨t, j, rfl, h1⟩ | ⟨_, h1⟩
      · exact .inl (.inr ⟨_, f, h1⟩)
      · exact (hg.step.mine b (.inr ⟨l, f, h1⟩)).imp (hmi b) id
  · refine ⟨?_, hres.ok, hres.own⟩
    rcases hres.ok with hv | hf
    · exact RD.valMove (G := G1) (h := w'.heap) ⟨RdLe.refl _, fun _ _ h => h⟩ hv (fun j _ b f hb => ⟨hb, rfl⟩) hres.rd
    · have F3 : Fr (fun _ => False) w'.heap G1 w'.heap { G1 with ow := ow2 } := ⟨RdLe.refl _, fun _ _ h => h, fun l p hpl _ hl => (by
        cases l with
        | hand k j => cases hpl
        | reg t j =>
          have := RG.own _ p (fun _ _ h => by cases h) hl
          simp [ownsAt, look] at this
        | _ => exact hl), fun _ _ _ _ _ _ => rfl⟩
      exact RD.reloc hf (RD.fr F3 (fun _ => .nowhere) (fun _ => rfl) _ _ (free.none _ _) (RD.reloc hf hres.rd))
end
end Go.Mx
