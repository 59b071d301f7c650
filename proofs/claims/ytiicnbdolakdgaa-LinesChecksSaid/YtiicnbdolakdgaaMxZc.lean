/- Functions: in and out. -/
import Derived.Test.YtiicnbdolakdgaaMxZb
set_option linter.unusedVariables false
set_option linter.unusedSimpArgs false
set_option linter.constructorNameAsVariable false
set_option linter.unnecessarySimpa false
namespace Go.Mx
open Go

section
variable {P : Program} {w : World} {G : Gh} {tmps : Array Value} {σ σ' : St} {ds : List Deferred} {C : Oracle} {ν : Note}

theorem look_enter : ∀ (args : List D) (j t : Nat), look (enter j args) t = if j ≤ t then (match args[t - j]? with | some d => d | none => .bad) else .bad
  | [], j, t => by simp [enter, look]
  | d :: r, j, t => by
    simp only [enter, look]
    cases hj : (j == t) with
    | true =>
      have : j = t := by simpa using hj
      subst this
      simp
    | false =>
      have hne : ¬ j = t := by simpa using hj
      simp only [cond_false]
      rw [look_enter r (j + 1) t]
      by_cases hle : j ≤ t
      · rw [if_pos hle, if_pos (by omega)]
        rw [show t - j = (t - (j + 1)) + 1 by omega, List.getElem?_cons_succ]
      · rw [if_neg hle, if_neg (by omega)]

/-- The arguments go from the hands to the first registers. -/
theorem enter_ok {h : Array Obj} {S : Store} {args : List D} {vals : List Value} {n : Nat} (R : Rel h G #[] ⟨[], S⟩) (A : Args h G args vals) (hn : args.length ≤ n) :
    ∃ G', Rel h G' (vals.toArray ++ Array.replicate (n - vals.toArray.size) undef) ⟨enter 0 args, S⟩ ∧ Clean G' ∧ G'.rd = G.rd ∧ G'.ob = G.ob ∧ (∀ l p, G'.ow l = some p → ∃ l0, G.ow l0 = some p) := by
  let ow : Loc → Option (Nat × Nat) := fun l => match l with
    | .reg t j => G.ow (.hand t j)
    | .hand _ _ => none
    | l => G.ow l
  let r : Loc → Loc := fun l => match l with
    | .reg t j => .hand t j
    | l => l
  have hr : ∀ l p, ow l = some p → G.ow (r l) = some p ∧ ∀ k j, l ≠ .hand k j := by
    intro l p hl
    cases l with
    | hand k j => cases hl
    | _ => exact ⟨hl, fun _ _ h => (by cases h)⟩
  have hinj : ∀ l l' b f f', ow l = some (b, f) → ow l' = some (b, f') → l = l' := by
    intro l l' b f f' h1 h2
    have e := R.inv.ow_inj _ _ b f f' (hr _ _ h1).1 (hr _ _ h2).1
    have g1 := (hr _ _ h1).2
    have g2 := (hr _ _ h2).2
    cases l with
    | hand k j => exact absurd rfl (g1 k j)
    | reg t j =>
      cases l' with
      | hand k j => exact absurd rfl (g2 k j)
      | reg t' j' => simp only [r] at e; cases e; rfl
      | _ => simp only [r] at e; cases e
    | _ =>
      cases l' with
      | hand k j => exact absurd rfl (g2 k j)
      | reg t' j' => simp only [r] at e; cases e
      | _ => exact e
  refine ⟨{ G with ow := ow }, ⟨R.inv.sub (fun l p hl => ⟨_, (hr l p hl).1⟩) hinj, ?_, ?_, R.obc, R.obn, ?_⟩, fun _ _ => rfl, rfl, rfl, fun l p hl => ⟨_, (hr l p hl).1⟩⟩
  · intro t
    rw [look_enter, if_pos (Nat.zero_le _), Nat.sub_zero]
    cases ht : args[t]? with
    | none => simp only [RD]
    | some d =>
      obtain ⟨v, h1, h2, h3⟩ := A.rd t d ht
      have htl : t < vals.length := (List.getElem?_eq_some_iff.1 h1).1
      have hv : (vals.toArray ++ Array.replicate (n - vals.toArray.size) undef).getD t undef = v := by
        rw [Array.getD_eq_getD_getElem?, Array.getElem?_append_left (by simpa using htl), List.getElem?_toArray, h1]; rfl
      rw [hv]
      exact RD.valMove (G := G) (G' := { G with ow := ow }) (h := h) ⟨RdLe.refl _, fun _ _ h => h⟩ h3 (fun j _ b f hb => ⟨hb, rfl⟩) h2
  · intro o cs hcs
    obtain ⟨b, c, e, fr, h1, h2, h3, h4⟩ := R.obj o cs hcs
    exact ⟨b, c, e, fr, h1, h2, h3, RDs.cellMove (G := G) (G' := { G with ow := ow }) (h := h) ⟨RdLe.refl _, fun _ _ h => h⟩ 0 0 cs _ (R.obc o cs hcs) (fun i d' _ _ b f hb => ⟨hb, rfl⟩) h4⟩
  · intro l p hh hl
    have h1 := (hr l p hl).1
    cases l with
    | hand k j => exact absurd rfl (hh k j)
    | reg t j =>
      obtain ⟨d, hd, ho⟩ := A.own t j p h1
      rw [ownsAt_eq]
      simp only
      rw [look_enter, if_pos (Nat.zero_le _), Nat.sub_zero, hd]; exact ho
    | cell o j => exact R.own _ p (fun _ _ h => by cases h) h1
    | nowhere => exact R.own _ p (fun _ _ h => by cases h) h1

/-! ### Results -/
/-- Where a result lies. -/
def resLoc (σ : St) : ResultVar → Nat → Loc
  | .tmp t => Loc.reg t
  | .cell a _ => match look σ.env a with
    | .ptr o _ => Loc.cell o
    | _ => fun _ => .nowhere
/-- A result's value. -/
theorem resOne_ok {n : Nat} {r : ResultVar} {d : D} (F : Fine w.heap G tmps σ) (hr : resOne (tyOf P) n σ r = some d) :
    ∃ v, (match r with | .tmp t => (pure (tmps.getD t undef) : Go.Sem Value) | .cell a t => do loadVar t (← asAddr (tmps.getD a undef))).run P w = .ok v w ∧ RD w.heap G (resLoc σ r) d v ∧ (∀ j p, G.ow (resLoc σ r j) = some p → dOwns d j = true) ∧
      ((∃ t, resLoc σ r = Loc.reg t) ∨ ∃ o, n ≤ o ∧ resLoc σ r = Loc.cell o) := by
  cases r with
  | tmp t =>
    simp only [resOne] at hr
    refine ⟨_, rfl, (force_ok hr (F.rel.env t)).1, ?_, .inl ⟨t, rfl⟩⟩
    intro j p hp
    simp only [resLoc] at hp
    have := F.rel.own _ p (fun _ _ h => by cases h) hp
    rw [ownsAt_eq] at this
    rcases force_own hr with ⟨he, _⟩ | ⟨_, g, hg⟩
    · rw [← he]; exact this
    · rw [hg] at this; cases this
  | cell a t =>
    simp only [resOne] at hr
    split at hr <;> try (cases hr; done)
    rename_i o hl
    split at hr <;> try (cases hr; done)
    rename_i cs hcs
    cases hc : (decide (n ≤ o) && cs.length == (tyOf P t).size && !(tyOf P t).flat.isEmpty) with
    | false => rw [hc] at hr; cases hr
    | true =>
      rw [hc, cond_true] at hr
      simp only [Bool.and_eq_true, decide_eq_true_eq, beq_iff_eq, Bool.not_eq_true'] at hc
      obtain ⟨⟨hno, hlen⟩, hfl⟩ := hc
      have hra := F.rel.env a
      rw [hl] at hra
      simp only [RD] at hra
      obtain ⟨b, hb, hva⟩ := hra
      obtain ⟨b0, c, e, fr, g1, g2, g3, g4⟩ := F.rel.obj o cs hcs
      have hbb : b0 = b := by rw [hb] at g1; cases g1; rfl
      subst hbb
      have hcl := RDs.length _ _ _ _ g4
      have hloc : resLoc σ (.cell a t) = Loc.cell o := by simp only [resLoc, hl]
      rw [hloc]
      have haddr : ∀ {α : Type} (k : Addr → Go.Sem α), (do k (← asAddr (tmps.getD a undef)) : Go.Sem α).run P w = (k ⟨b0, 0, none⟩).run P w := by
        intro α k
        rw [hva]
        simp [asAddr]
      cases hag : (tyOf P t).agg with
      | true =>
        rw [hag, cond_true, Option.some.injEq] at hr
        subst hr
        obtain ⟨i, dd, hi, hu, hrow, hisz, _⟩ := tyOf_agg hag
        have hrun := run_loadVar_mid (P := P) w b0 0 t c.toList dd (fun j v hv => by
          rw [cell_of rfl g2, Nat.zero_add]; simpa using hv) hu hrow (by rw [hi]; simp only [Option.map_some, hisz, hcl, hlen])
        refine ⟨.agg c, ?_, by simp only [RD]; exact ⟨c, rfl, g4⟩, ?_, .inr ⟨o, hno, rfl⟩⟩
        · simp only
          rw [haddr (loadVar t), hrun]
        · intro j p hp
          have := F.rel.own _ p (fun _ _ h => by cases h) hp
          simp only [ownsAt, hcs] at this
          simp only [dOwns]
          cases hj : cs[j]? with
          | none => rw [hj] at this; cases this
          | some d' => rw [hj] at this; exact this
      | false =>
        rw [hag, cond_false] at hr
        split at hr <;> try (cases hr; done)
        rename_i d0 k hflat
        cases hr
        obtain ⟨i, u, k1, k2, k3⟩ := tyOf_one hag hflat
        obtain ⟨v, hv, hrd⟩ := RDs.get _ 0 [d] c.toList 0 d g4 rfl
        rw [Nat.zero_add] at hrd
        have hv' : c[0]? = some v := by simpa using hv
        refine ⟨v, ?_, ?_, ?_, .inr ⟨o, hno, rfl⟩⟩
        · simp only
          rw [haddr (loadVar t)]
          simp [loadVar, isAgg_false w k2 k3, Sem.run_bind, load, Go.Sem.run, cell_of rfl g2, hv']
        · have hck : cellOk d = true := by simpa using F.rel.obc o [d] hcs
          cases d with
          | own sz l => simpa only [RD] using hrd
          | clo f xs => simpa only [RD] using hrd
          | _ => first | (exact RD.stay ⟨RdLe.refl _, fun _ _ h => h⟩ rfl hrd) | (simp [cellOk, stayC] at hck)
        · intro j p hp
          have := F.rel.own _ p (fun _ _ h => by cases h) hp
          simp only [ownsAt, hcs] at this
          cases j with
          | zero =>
            have h0 : isOwn d = true := by simpa using this
            cases d <;> first | rfl | (cases h0)
          | succ j => simp at this
end
end Go.Mx
