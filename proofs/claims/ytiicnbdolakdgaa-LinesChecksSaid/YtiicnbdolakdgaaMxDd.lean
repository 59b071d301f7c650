/- Swapping two operations that have nothing to do with each other. -/
import Derived.Test.YtiicnbdolakdgaaMxDc
set_option linter.unusedVariables false
set_option linter.unusedSimpArgs false
set_option linter.constructorNameAsVariable false
set_option linter.unnecessarySimpa false
namespace Go.Mx
open Go

section
variable {T : Nat → Ty} {C : Oracle} {ν : Note} {ops : List Oper} {o o1 o2 : Oper} {σ σ' σ1 σ2 : St} {g : Bool} {d : D} {t : Nat}

/-- The registers that an operation looks at. -/
def looks (ops : List Oper) (o : Oper) (u : Nat) : Prop := (.tmp u) ∈ o.op.operands.toList ∨ ∃ j b p, o.guard = some (j, b) ∧ ops[j]? = some p ∧ p.dst = some u

/-- A step that leaves everything alone but its register. -/
structure Still (T : Nat → Ty) (C : Oracle) (ν : Note) (ops : List Oper) (o : Oper) (σ : St) (g : Bool) (d : D) (t : Nat) : Prop where
  gd : guardB ops σ.env o.guard = some g
  nw : isWork T ν o = false
  cf : callFails C σ g o = false
  gx : Mx.gx g o.guard.isNone (pureOp T C σ g o.op) = some d
  dst : o.dst = some t
  fresh : hasOwn (look σ.env t) = false

theorem Still.step (h : Still T C ν ops o σ g d t) : stepOp T C ν ops o σ = some { σ with env := put σ.env t d } := by
  unfold stepOp
  simp only [h.gd, h.nw, cond_false, h.cf, h.gx, h.dst, putDst, offReg, h.fresh, setReg]
theorem Still.kind (h : Still T C ν ops o σ g d t) : kindOp T C ν ops o σ = .still (o.op.operands.toList.all (calmOp σ.env)) (hasOwn d) (readsAt T σ g o.op) (immB d) := by
  unfold kindOp
  simp only [h.gd, h.nw, cond_false, h.gx, h.dst, ownsDst, h.fresh]
theorem still_of {c w r m} (hs : stepOp T C ν ops o σ = some σ1) (hk : kindOp T C ν ops o σ = .still c w r m) : ∃ g d t, Still T C ν ops o σ g d t ∧ σ1 = { σ with env := put σ.env t d } := by
  unfold kindOp at hk
  split at hk
  · cases hk
  · rename_i g hg
    cases hw : isWork T ν o with
    | true =>
      rw [hw, cond_true] at hk
      cases g with
      | true =>
        simp only [cond_true] at hk
        exfalso
        revert hk
        unfold kindW
        repeat' split
        all_goals first
          | (intro hk; cases hk; done)
          | (intro hk; revert hk; cases _ : plainWork _ <;> intro hk <;> cases hk; done)
          | (intro hk; revert hk; generalize List.any _ _ = q; cases q <;> intro hk <;> cases hk; done)
      | false => simp only [cond_false, reduceCtorEq] at hk
    | false =>
      rw [hw, cond_false] at hk
      split at hk
      · rename_i d hd
        cases hdst : o.dst with
        | none => rw [hdst] at hk; simp only [ownsDst, cond_true, reduceCtorEq] at hk
        | some t =>
          rw [hdst] at hk
          simp only [ownsDst] at hk
          cases hf : hasOwn (look σ.env t) with
          | true => rw [hf] at hk; simp only [cond_true, reduceCtorEq] at hk
          | false =>
            cases hcf : callFails C σ g o with
            | true => unfold stepOp at hs; simp only [hg, hw, cond_false, hcf, cond_true, reduceCtorEq] at hs
            | false =>
              have S : Still T C ν ops o σ g d t := ⟨hg, hw, hcf, hd, hdst, hf⟩
              refine ⟨g, d, t, S, ?_⟩
              rw [S.step] at hs
              exact (Option.some.inj hs).symm
      · cases hk

theorem calm_of_guard {g : Bool} (hg : guardB ops σ.env o.guard = some g) {u : Nat} (hu : ∃ j b p, o.guard = some (j, b) ∧ ops[j]? = some p ∧ p.dst = some u) : calm (look σ.env u) = true ∧ hasOwn (look σ.env u) = false := by
  obtain ⟨j, b, p, h1, h2, h3⟩ := hu
  rw [h1] at hg
  simp only [guardB, yieldedD, h2, h3] at hg
  revert hg
  cases hl : look σ.env u with
  | v x => intro _; exact ⟨rfl, rfl⟩
  | undef => intro _; exact ⟨rfl, rfl⟩
  | mb q d =>
    intro hg
    cases d with
    | v x => exact ⟨rfl, rfl⟩
    | _ => simp at hg
  | _ => intro hg; simp at hg

/-- A still operation does the same where what it looks at is the same. -/
theorem Still.move {g : Bool} {d : D} {t : Nat} (h : Still T C ν ops o σ g d t) (hl : ∀ u, looks ops o u → look σ'.env u = look σ.env u) (hf : hasOwn (look σ'.env t) = false)
    (hld : ∀ t a d, o.op = .load t a → force g (opnd σ.env a) = some d → loadAt (T t) σ' d = loadAt (T t) σ d) : Still T C ν ops o σ' g d t ∧ kindOp T C ν ops o σ' = kindOp T C ν ops o σ := by
  have he : EA (fun u => ¬ looks ops o u) σ.env σ'.env := fun u hu => hl u (Classical.not_not.1 hu)
  have ho : offOp (fun u => ¬ looks ops o u) o.op := by
    intro x hx
    cases x with
    | tmp u => exact fun hn => hn (.inl hx)
    | _ => trivial
  have S : Still T C ν ops o σ' g d t := by
    refine ⟨?_, h.nw, ?_, ?_, h.dst, hf⟩
    · rw [guardB_ag he (fun j b p t h1 h2 h3 hn => hn (.inr ⟨j, b, p, h1, h2, h3⟩))]; exact h.gd
    · rw [callFails_ag he ho]; exact h.cf
    · rw [pureOp_ea he ho g hld]; exact h.gx
  refine ⟨S, ?_⟩
  rw [S.kind, h.kind]
  have e1 : o.op.operands.toList.all (calmOp σ'.env) = o.op.operands.toList.all (calmOp σ.env) := by
    have : ∀ x ∈ o.op.operands.toList, calmOp σ'.env x = calmOp σ.env x := by
      intro x hx
      cases x with
      | tmp u => simp only [calmOp]; rw [hl u (.inl hx)]
      | _ => rfl
    rw [Bool.eq_iff_iff, List.all_eq_true, List.all_eq_true]
    exact ⟨fun q x hx => by rw [← this x hx]; exact q x hx, fun q x hx => by rw [this x hx]; exact q x hx⟩
  have e2 : readsAt T σ' g o.op = readsAt T σ g o.op := by
    unfold readsAt
    split
    · rename_i t a hop
      have : opnd σ'.env a = opnd σ.env a := he.opnd (by
        have := ho a (by rw [hop]; simp [Op.operands]); exact this)
      rw [this]
    · rfl
  rw [e1, e2]

/-- A pair of operations of which neither looks at what the other makes. -/
structure Apart (ops : List Oper) (o1 o2 : Oper) : Prop where
  a : ∀ t, o1.dst = some t → ¬ looks ops o2 t
  b : ∀ t, o2.dst = some t → ¬ looks ops o1 t
  c : ∀ t, o1.dst = some t → o2.dst ≠ some t

theorem loadAt_noEp {ty : Ty} {d : D} (hS : σ'.S = σ.S) (hd : ∀ src sz i off, d ≠ .ep src sz i off) : loadAt ty σ' d = loadAt ty σ d := by
  unfold loadAt
  cases d <;> simp only [hS]
  exact absurd rfl (hd _ _ _ _)
theorem force_noEp {e : Env} {x : Operand} {d' : D} (hc : calmOp e x = true) (hf : force g (opnd e x) = some d') : ∀ src sz i off, d' ≠ .ep src sz i off := by
  have key : ∀ d : D, (∀ src sz i off, d ≠ .ep src sz i off) → (∀ q src sz i off, d ≠ .mb q (.ep src sz i off)) → force g d = some d' → ∀ src sz i off, d' ≠ .ep src sz i off := by
    intro d h1 h2 hf src sz i off he
    subst he
    unfold force at hf
    split at hf
    · rename_i q c
      cases hb : (!g || q) with
      | false => rw [hb] at hf; cases hf
      | true =>
        rw [hb, cond_true] at hf
        cases ho : ownFree c with
        | false => rw [ho] at hf; cases hf
        | true =>
          rw [ho, cond_true] at hf
          unfold solid at hf
          split at hf <;> first | cases hf; done | skip
          simp only [Option.some.injEq] at hf
          exact h2 _ _ _ _ _ (by rw [hf])
    · unfold solid at hf
      split at hf <;> first | cases hf; done | skip
      simp only [Option.some.injEq] at hf
      exact h1 _ _ _ _ hf
  refine key _ ?_ ?_ hf
  · intro src sz i off he
    cases x with
    | tmp u => simp only [opnd] at he; simp only [calmOp, he, calm, calmC] at hc; cases hc
    | const v =>
      simp only [opnd] at he
      unfold ofConst at he
      split at he
      · cases he
      · unfold ofCell at he; split at he <;> cases he
    | _ => simp only [opnd] at he; cases he
  · intro q src sz i off he
    cases x with
    | tmp u => simp only [opnd] at he; simp only [calmOp, he, calm, calmC] at hc; cases hc
    | const v =>
      simp only [opnd] at he
      unfold ofConst at he
      split at he
      · cases he
      · unfold ofCell at he; split at he <;> cases he
    | _ => simp only [opnd] at he; cases he

def E0 (σ σ' : St) : Prop := Ag (fun _ => False) σ σ'

theorem ownAt_put {t : Nat} {d : D} (h1 : hasOwn (look σ.env t) = false) (h2 : hasOwn d = false) (l : Loc) : ownAt { σ with env := put σ.env t d } l = ownAt σ l := by
  unfold ownAt
  cases l with
  | reg u j =>
    simp only [look_put]
    by_cases h : t = u
    · subst h
      rw [if_pos rfl]
      revert h1 h2
      cases d <;> cases look σ.env t <;> intro h1 h2 <;> first | rfl | (simp [hasOwn, ownFree] at h1; done) | (simp [hasOwn, ownFree] at h2; done)
    · rw [if_neg h]
  | _ => rfl
theorem put_put {t1 t2 : Nat} {d1 d2 : D} (hne : t1 ≠ t2) (e : Env) (u : Nat) : look (put (put e t2 d2) t1 d1) u = look (put (put e t1 d1) t2 d2) u := by
  simp only [look_put]
  by_cases h1 : t1 = u
  · by_cases h2 : t2 = u
    · exact absurd (h1.trans h2.symm) hne
    · rw [if_pos h1, if_neg h2, if_pos h1]
  · rw [if_neg h1, if_neg h1]

theorem swap_ss {g1 g2 : Bool} {d1 d2 : D} {t1 t2 : Nat} (h1 : Still T C ν ops o1 σ g1 d1 t1) (h2 : Still T C ν ops o2 { σ with env := put σ.env t1 d1 } g2 d2 t2) (ap : Apart ops o1 o2)
    (c2 : hasOwn d1 = false ∨ o2.op.operands.toList.all (calmOp (put σ.env t1 d1)) = true) (c1 : hasOwn d2 = false ∨ o1.op.operands.toList.all (calmOp σ.env) = true) :
    Still T C ν ops o2 σ g2 d2 t2 ∧ Still T C ν ops o1 { σ with env := put σ.env t2 d2 } g1 d1 t1 ∧ kindOp T C ν ops o2 σ = kindOp T C ν ops o2 { σ with env := put σ.env t1 d1 } ∧ kindOp T C ν ops o1 { σ with env := put σ.env t2 d2 } = kindOp T C ν ops o1 σ := by
  have hne : t1 ≠ t2 := fun h => ap.c t1 h1.dst (by rw [h, h2.dst])
  have fr2 : hasOwn (look σ.env t2) = false := by
    have := h2.fresh
    simp only [look_put, if_neg hne] at this
    exact this
  have m2 := h2.move (σ' := σ) (fun u hu => by
      simp only [look_put]
      have : t1 ≠ u := fun h => ap.a t1 h1.dst (by rw [h]; exact hu)
      rw [if_neg this]) fr2 (fun t a d hop hf => by
      rcases c2 with hn | hc
      · exact (loadAt_ag (σ := σ) (σ' := { σ with env := put σ.env t1 d1 }) rfl (fun l => ownAt_put h1.fresh hn l) d).symm
      · exact loadAt_noEp rfl (force_noEp (List.all_eq_true.1 hc a (by rw [hop]; simp [Op.operands])) hf))
  have m1 := h1.move (σ' := { σ with env := put σ.env t2 d2 }) (fun u hu => by
      simp only [look_put]
      have : t2 ≠ u := fun h => ap.b t2 h2.dst (by rw [h]; exact hu)
      rw [if_neg this]) (by simp only [look_put]; rw [if_neg (Ne.symm hne)]; exact h1.fresh) (fun t a d hop hf => by
      rcases c1 with hn | hc
      · exact loadAt_ag (σ := σ) (σ' := { σ with env := put σ.env t2 d2 }) rfl (fun l => ownAt_put fr2 hn l) d
      · exact loadAt_noEp rfl (force_noEp (List.all_eq_true.1 hc a (by rw [hop]; simp [Op.operands])) hf))
  exact ⟨m2.1, m1.1, m2.2, m1.2⟩

/-! ### Works -/
def memAfter (S S' : Store) : Option (Nat × Nat × Nat) → Prop
  | none => S' = S ∨ ∃ c, S' = S ++ [c]
  | some (a, off, l) => ∃ cs ds, S[a]? = some cs ∧ ds.length = l ∧ S' = S.set a (setCells cs off ds)
/-- A work that changes its operands' and its own register, and the cells wr. -/
structure Work (T : Nat → Ty) (C : Oracle) (ν : Note) (ops : List Oper) (o : Oper) (σ : St) (wr : Option (Nat × Nat × Nat)) (σ' : St) : Prop where
  step : stepOp T C ν ops o σ = some σ'
  quiet : Quiet (looks ops o) o.dst σ.env σ'.env
  mem : memAfter σ.S σ'.S wr

theorem work_of {wr : Option (Nat × Nat × Nat)} {n : Nat} (hs : stepOp T C ν ops o σ = some σ') (hk : kindOp T C ν ops o σ = .work wr n) : Work T C ν ops o σ wr σ' ∧ n = σ.S.length ∧ isWork T ν o = true ∧
    (guardB ops σ.env o.guard = some true → plainWork o.op = true ∨ ∃ t a x, o.op = .store t a x ∧ ∀ src sz i off, force true (opnd σ.env a) ≠ some (.ep src sz i off)) := by
  unfold kindOp at hk
  split at hk
  · cases hk
  · rename_i g hg
    cases hw : isWork T ν o with
    | false =>
      rw [hw, cond_false] at hk
      split at hk
      · cases hod : ownsDst σ.env o.dst <;> rw [hod] at hk <;> simp at hk
      · cases hk
    | true =>
      rw [hw, cond_true] at hk
      have hs' := hs
      unfold stepOp at hs'
      simp only [hg, hw, cond_true] at hs'
      cases g with
      | false =>
        simp only [cond_false, Kd.work.injEq] at hk
        obtain ⟨rfl, rfl⟩ := hk
        simp only [cond_false, Option.some.injEq] at hs'
        subst hs'
        exact ⟨⟨hs, Quiet.putDst, .inl rfl⟩, rfl, rfl, fun h => by rw [hg] at h; cases h⟩
      | true =>
        simp only [cond_true] at hk hs'
        cases hwk : workOk T σ.env o with
        | false => rw [hwk] at hs'; cases hs'
        | true =>
          rw [hwk, cond_true] at hs'
          have hY : ∀ x, x ∈ o.op.operands.toList → ∀ u, x = .tmp u → looks ops o u := fun x hx u hu => .inl (hu ▸ hx)
          cases hop : o.op <;> rw [hop] at hk hs' hY <;> try (simp only [kindW, plainWork, cond_false, reduceCtorEq] at hk; done)
          case store t a x =>
            have hdst : o.dst = none := by
              unfold workOk at hwk
              rw [hop] at hwk
              simpa using hwk
            unfold kindW at hk
            split at hk <;> first | (rename_i h1; cases h1; done) | skip
            · rename_i t' a' x' heq
              simp only [Op.store.injEq] at heq
              obtain ⟨rfl, rfl, rfl⟩ := heq
              split at hk
              · rename_i b off ha
                split at hk
                · rename_i cs hcs
                  cases hany : ((cs.drop off).take (T t).size).any isOwn with
                  | true => rw [hany] at hk; cases hk
                  | false =>
                    rw [hany] at hk
                    simp only [cond_false, Kd.work.injEq] at hk
                    obtain ⟨rfl, rfl⟩ := hk
                    simp only [workOp, ha, Bool.cond_eq_ite] at hs'
                    split at hs' <;> first | (cases hs'; done) | skip
                    · rename_i b' off' d hb' hx
                      simp only [Option.some.injEq, D.ptr.injEq] at hb'
                      obtain ⟨rfl, rfl⟩ := hb'
                      split at hs' <;> first | (cases hs'; done) | skip
                      rename_i d' hfit
                      rw [hcs] at hs'
                      simp only at hs'
                      split at hs' <;> first | (cases hs'; done) | skip
                      rename_i hc
                      simp only [Bool.and_eq_true, decide_eq_true_eq, beq_iff_eq] at hc
                      obtain ⟨⟨⟨c1, c2⟩, c3⟩, c4⟩ := hc
                      simp only [c3, hany, Bool.false_eq_true, if_false, Option.some.injEq] at hs'
                      subst hs'
                      refine ⟨⟨hs, Quiet.spend (hY x (by simp [Op.operands])), ⟨cs, cellsOf d', hcs, c3, rfl⟩⟩, rfl, rfl, fun _ => .inr ⟨t, a, x, rfl, fun src sz i off h => by rw [ha] at h; cases h⟩⟩
                    · rename_i h1 h2
                      cases h1
                · cases hk
              · cases hk
            · rename_i op hne
              exact absurd rfl (hne _ _ _)
          case assign x =>
            simp only [kindW, plainWork, cond_true, Kd.work.injEq] at hk
            obtain ⟨rfl, rfl⟩ := hk
            cases hdst : o.dst with
            | none =>
              exfalso
              rw [hdst] at hs'
              simp only [workOp, Bool.cond_eq_ite] at hs'
              repeat' (first | (cases hs'; done) | split at hs')
              all_goals (simp_all; done)
            | some u =>
              rw [hdst] at hs'
              simp only [workOp, Bool.cond_eq_ite] at hs'
              repeat' (first | (cases hs'; done) | split at hs')
              all_goals first
                | (simp only [Option.some.injEq] at *; subst_vars; exact ⟨⟨hs, by rw [hdst]; exact (Quiet.spend (hY x (by simp [Op.operands]))).trans Quiet.setReg, .inl rfl⟩, by first | rfl | trivial, by first | rfl | trivial, fun _ => .inl (by first | rfl | trivial)⟩)
                | (simp only [Option.some.injEq] at *; subst_vars; exact ⟨⟨hs, by rw [hdst]; exact Quiet.setReg, .inl rfl⟩, by first | rfl | trivial, by first | rfl | trivial, fun _ => .inl (by first | rfl | trivial)⟩)
                | (simp only [Option.some.injEq] at *; subst_vars; exact ⟨⟨hs, by rw [hdst]; exact (Quiet.spend (hY x (by simp [Op.operands]))).trans Quiet.setReg, .inr ⟨_, rfl⟩⟩, by first | rfl | trivial, by first | rfl | trivial, fun _ => .inl (by first | rfl | trivial)⟩)
          case box t x =>
            simp only [kindW, plainWork, cond_true, Kd.work.injEq] at hk
            obtain ⟨rfl, rfl⟩ := hk
            cases hdst : o.dst with
            | none =>
              exfalso
              rw [hdst] at hs'
              simp only [workOp, Bool.cond_eq_ite] at hs'
              repeat' (first | (cases hs'; done) | split at hs')
              all_goals (simp_all; done)
            | some u =>
              rw [hdst] at hs'
              simp only [workOp, Bool.cond_eq_ite] at hs'
              repeat' (first | (cases hs'; done) | split at hs')
              all_goals first
                | (simp only [Option.some.injEq] at *; subst_vars; exact ⟨⟨hs, by rw [hdst]; exact (Quiet.spend (hY x (by simp [Op.operands]))).trans Quiet.setReg, .inl rfl⟩, by first | rfl | trivial, by first | rfl | trivial, fun _ => .inl (by first | rfl | trivial)⟩)
                | (simp only [Option.some.injEq] at *; subst_vars; exact ⟨⟨hs, by rw [hdst]; exact Quiet.setReg, .inl rfl⟩, by first | rfl | trivial, by first | rfl | trivial, fun _ => .inl (by first | rfl | trivial)⟩)
                | (simp only [Option.some.injEq] at *; subst_vars; exact ⟨⟨hs, by rw [hdst]; exact (Quiet.spend (hY x (by simp [Op.operands]))).trans Quiet.setReg, .inr ⟨_, rfl⟩⟩, by first | rfl | trivial, by first | rfl | trivial, fun _ => .inl (by first | rfl | trivial)⟩)
          case alloc t =>
            simp only [kindW, plainWork, cond_true, Kd.work.injEq] at hk
            obtain ⟨rfl, rfl⟩ := hk
            cases hdst : o.dst with
            | none =>
              exfalso
              rw [hdst] at hs'
              simp only [workOp, Bool.cond_eq_ite] at hs'
              repeat' (first | (cases hs'; done) | split at hs')
              all_goals (simp_all; done)
            | some u =>
              rw [hdst] at hs'
              simp only [workOp, Bool.cond_eq_ite] at hs'
              repeat' (first | (cases hs'; done) | split at hs')
              all_goals first
                | (simp only [Option.some.injEq] at *; subst_vars; exact ⟨⟨hs, by rw [hdst]; exact Quiet.setReg, .inl rfl⟩, by first | rfl | trivial, by first | rfl | trivial, fun _ => .inl (by first | rfl | trivial)⟩)
                | (simp only [Option.some.injEq] at *; subst_vars; exact ⟨⟨hs, by rw [hdst]; exact Quiet.setReg, .inl rfl⟩, by first | rfl | trivial, by first | rfl | trivial, fun _ => .inl (by first | rfl | trivial)⟩)
                | (simp only [Option.some.injEq] at *; subst_vars; exact ⟨⟨hs, by rw [hdst]; exact Quiet.setReg, .inr ⟨_, rfl⟩⟩, by first | rfl | trivial, by first | rfl | trivial, fun _ => .inl (by first | rfl | trivial)⟩)
          case makeSlice t n m =>
            simp only [kindW, plainWork, cond_true, Kd.work.injEq] at hk
            obtain ⟨rfl, rfl⟩ := hk
            cases hdst : o.dst with
            | none =>
              exfalso
              rw [hdst] at hs'
              simp only [workOp, Bool.cond_eq_ite] at hs'
              repeat' (first | (cases hs'; done) | split at hs')
              all_goals (simp_all; done)
            | some u =>
              rw [hdst] at hs'
              simp only [workOp, Bool.cond_eq_ite] at hs'
              repeat' (first | (cases hs'; done) | split at hs')
              all_goals first
                | (simp only [Option.some.injEq] at *; subst_vars; exact ⟨⟨hs, by rw [hdst]; exact Quiet.setReg, .inl rfl⟩, by first | rfl | trivial, by first | rfl | trivial, fun _ => .inl (by first | rfl | trivial)⟩)
                | (simp only [Option.some.injEq] at *; subst_vars; exact ⟨⟨hs, by rw [hdst]; exact Quiet.setReg, .inl rfl⟩, by first | rfl | trivial, by first | rfl | trivial, fun _ => .inl (by first | rfl | trivial)⟩)
                | (simp only [Option.some.injEq] at *; subst_vars; exact ⟨⟨hs, by rw [hdst]; exact Quiet.setReg, .inr ⟨_, rfl⟩⟩, by first | rfl | trivial, by first | rfl | trivial, fun _ => .inl (by first | rfl | trivial)⟩)
          case convert q t x =>
            simp only [kindW, plainWork, cond_true, Kd.work.injEq] at hk
            obtain ⟨rfl, rfl⟩ := hk
            cases hdst : o.dst with
            | none =>
              exfalso
              rw [hdst] at hs'
              simp only [workOp, Bool.cond_eq_ite] at hs'
              repeat' (first | (cases hs'; done) | split at hs')
              all_goals (simp_all; done)
            | some u =>
              rw [hdst] at hs'
              simp only [workOp, Bool.cond_eq_ite] at hs'
              repeat' (first | (cases hs'; done) | split at hs')
              all_goals first
                | (simp only [Option.some.injEq] at *; subst_vars; exact ⟨⟨hs, by rw [hdst]; exact Quiet.setReg, .inl rfl⟩, by first | rfl | trivial, by first | rfl | trivial, fun _ => .inl (by first | rfl | trivial)⟩)
                | (simp only [Option.some.injEq] at *; subst_vars; exact ⟨⟨hs, by rw [hdst]; exact Quiet.setReg, .inl rfl⟩, by first | rfl | trivial, by first | rfl | trivial, fun _ => .inl (by first | rfl | trivial)⟩)
                | (simp only [Option.some.injEq] at *; subst_vars; exact ⟨⟨hs, by rw [hdst]; exact Quiet.setReg, .inr ⟨_, rfl⟩⟩, by first | rfl | trivial, by first | rfl | trivial, fun _ => .inl (by first | rfl | trivial)⟩)
          case build t parts =>
            simp only [kindW, plainWork, cond_true, Kd.work.injEq] at hk
            obtain ⟨rfl, rfl⟩ := hk
            cases hdst : o.dst with
            | none =>
              exfalso
              rw [hdst] at hs'
              simp only [workOp, Bool.cond_eq_ite] at hs'
              repeat' (first | (cases hs'; done) | split at hs')
              all_goals (simp_all; done)
            | some u =>
              rw [hdst] at hs'
              simp only [workOp, Bool.cond_eq_ite] at hs'
              repeat' (first | (cases hs'; done) | split at hs')
              all_goals first
                | (simp only [Option.some.injEq] at *; subst_vars; exact ⟨⟨hs, by rw [hdst]; exact (Quiet.takeParts (fun x hx => hY x.2 (by simp only [Op.operands, List.mem_map]; exact ⟨x, hx, rfl⟩)) (by assumption)).trans Quiet.setReg, .inl rfl⟩, by first | rfl | trivial, by first | rfl | trivial, fun _ => .inl (by first | rfl | trivial)⟩)
                | (simp only [Option.some.injEq] at *; subst_vars; exact ⟨⟨hs, by rw [hdst]; exact Quiet.setReg, .inl rfl⟩, by first | rfl | trivial, by first | rfl | trivial, fun _ => .inl (by first | rfl | trivial)⟩)
                | (simp only [Option.some.injEq] at *; subst_vars; exact ⟨⟨hs, by rw [hdst]; exact (Quiet.takeParts (fun x hx => hY x.2 (by simp only [Op.operands, List.mem_map]; exact ⟨x, hx, rfl⟩)) (by assumption)).trans Quiet.setReg, .inr ⟨_, rfl⟩⟩, by first | rfl | trivial, by first | rfl | trivial, fun _ => .inl (by first | rfl | trivial)⟩)
          case buildSlice t n parts =>
            simp only [kindW, plainWork, cond_true, Kd.work.injEq] at hk
            obtain ⟨rfl, rfl⟩ := hk
            cases hdst : o.dst with
            | none =>
              exfalso
              rw [hdst] at hs'
              simp only [workOp, Bool.cond_eq_ite] at hs'
              repeat' (first | (cases hs'; done) | split at hs')
              all_goals (simp_all; done)
            | some u =>
              rw [hdst] at hs'
              simp only [workOp, Bool.cond_eq_ite] at hs'
              repeat' (first | (cases hs'; done) | split at hs')
              all_goals first
                | (simp only [Option.some.injEq] at *; subst_vars; exact ⟨⟨hs, by rw [hdst]; exact (Quiet.takeParts (fun x hx => hY x.2 (by simp only [Op.operands, List.mem_map]; exact ⟨x, hx, rfl⟩)) (by assumption)).trans Quiet.setReg, .inl rfl⟩, by first | rfl | trivial, by first | rfl | trivial, fun _ => .inl (by first | rfl | trivial)⟩)
                | (simp only [Option.some.injEq] at *; subst_vars; exact ⟨⟨hs, by rw [hdst]; exact Quiet.setReg, .inl rfl⟩, by first | rfl | trivial, by first | rfl | trivial, fun _ => .inl (by first | rfl | trivial)⟩)
                | (simp only [Option.some.injEq] at *; subst_vars; exact ⟨⟨hs, by rw [hdst]; exact (Quiet.takeParts (fun x hx => hY x.2 (by simp only [Op.operands, List.mem_map]; exact ⟨x, hx, rfl⟩)) (by assumption)).trans Quiet.setReg, .inr ⟨_, rfl⟩⟩, by first | rfl | trivial, by first | rfl | trivial, fun _ => .inl (by first | rfl | trivial)⟩)
end
end Go.Mx
