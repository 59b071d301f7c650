/- Swaps with a work; any order of a region comes to the same. -/
import Derived.Test.YtiicnbdolakdgaaMxDd
import Derived.Test.YtiicnbdolakdgaaMxT
set_option linter.unusedVariables false
set_option linter.unusedSimpArgs false
set_option linter.constructorNameAsVariable false
set_option linter.unnecessarySimpa false
namespace Go.Mx
open Go

section
variable {T : Nat → Ty} {C : Oracle} {ν : Note} {ops : List Oper} {o o1 o2 : Oper} {σ σ' σ1 σ2 : St} {g : Bool} {d : D} {t : Nat} {X : Nat → Prop} {wr : Option (Nat × Nat × Nat)} {n : Nat}

theorem kindW_ag (ag : Ag X σ σ') {op : Op} (ho : offOp X op) : kindW T σ' op = kindW T σ op := by
  unfold kindW
  split
  · rename_i t a x
    have e1 := ag.env.opnd (ho a (by simp [Op.operands]))
    simp only [e1, ag.S]
  · simp only [ag.S]

theorem work_move (ag : Ag X σ σ') (ho : ∀ u, looks ops o u → ¬ X u) (hd : offD X o.dst) {s : St} (hs : stepOp T C ν ops o σ = some s) (hk : kindOp T C ν ops o σ = .work wr n) :
    ∃ s', stepOp T C ν ops o σ' = some s' ∧ Ag X s s' ∧ kindOp T C ν ops o σ' = .work wr n := by
  obtain ⟨W, hn, hw, hpl⟩ := work_of hs hk
  have hoo : offOp X o.op := by
    intro x hx
    cases x with
    | tmp u => exact ho u (.inl hx)
    | _ => trivial
  have eg : guardB ops σ'.env o.guard = guardB ops σ.env o.guard := guardB_ag ag.env (fun j b p t h1 h2 h3 => ho t (.inr ⟨j, b, p, h1, h2, h3⟩))
  have ek : kindOp T C ν ops o σ' = .work wr n := by
    rw [← hk]
    unfold kindOp
    simp only [eg, hw, cond_true, kindW_ag ag hoo, ag.S]
  have hs' := hs
  unfold stepOp at hs'
  cases hg : guardB ops σ.env o.guard with
  | none => rw [hg] at hs'; cases hs'
  | some q =>
    simp only [hg, hw, cond_true] at hs'
    cases q with
    | false =>
      simp only [cond_false, Option.some.injEq] at hs'
      subst hs'
      refine ⟨{ σ' with env := putDst σ'.env o.dst .undef }, ?_, ⟨ag.S, ag.env.putDst hd _⟩, ek⟩
      unfold stepOp
      simp only [eg, hg, hw, cond_true, cond_false]
    | true =>
      simp only [cond_true] at hs'
      cases hwk : workOk T σ.env o with
      | false => rw [hwk] at hs'; cases hs'
      | true =>
        rw [hwk, cond_true] at hs'
        have hr := workOp_ag (T := T) (C := C) (ro := ν.ro) (mv := ν.mv) (give := ν.give) ag (ot := o.type) hoo hd (.inr (hpl hg))
        rw [hs'] at hr
        revert hr
        cases hs2 : workOp T C ν.ro ν.mv ν.give σ' o.dst o.type o.op with
        | none => intro hr; exact hr.elim
        | some s' =>
          intro hr
          refine ⟨s', ?_, hr, ek⟩
          unfold stepOp
          simp only [eg, hg, hw, cond_true, workOk_ag ag.env hoo, hwk, hs2]

theorem partD_same {ty : Ty} {cs cs' : List D} {off : Nat} (h0 : cs'[off]? = cs[off]?) (h : ∀ i, i < ty.size → cs'[off + i]? = cs[off + i]?) : partD ty cs' off = partD ty cs off := by
  have e : (cs'.drop off).take ty.size = (cs.drop off).take ty.size := by
    apply List.ext_getElem?
    intro i
    simp only [List.getElem?_take, List.getElem?_drop]
    split
    · rename_i hi; exact h i hi
    · rfl
  unfold partD
  simp only [e, h0]

theorem loads_ok {g : Bool} {op : Op} (hrw : rwOk (readsAt T σ g op) wr n = true) (hn : n = σ1.S.length)
    (hm : memAfter σ1.S σ2.S wr) {t : Nat} {a : Operand} {d : D} (hop : op = .load t a) (hf : force g (opnd σ.env a) = some d) (hne : ∀ src sz i off, d ≠ .ep src sz i off) :
    loadAt (T t) σ2 d = loadAt (T t) σ1 d := by
  subst hop
  cases d with
  | ep src sz i off => exact absurd rfl (hne _ _ _ _)
  | ptr o off =>
    simp only [readsAt, hf] at hrw
    unfold loadAt
    simp only
    cases wr with
    | none =>
      simp only [rwOk, decide_eq_true_eq] at hrw
      simp only [memAfter] at hm
      have : σ2.S[o]? = σ1.S[o]? := by
        rcases hm with h | ⟨c, h⟩
        · rw [h]
        · rw [h, List.getElem?_append_left (by omega)]
      rw [this]
    | some p =>
      obtain ⟨a', off', l'⟩ := p
      simp only [rwOk, Bool.or_eq_true, Bool.not_eq_true', beq_eq_false_iff_ne, decide_eq_true_eq] at hrw
      simp only [memAfter] at hm
      obtain ⟨cs, ds, h1, h2, h3⟩ := hm
      by_cases ha : o = a'
      · subst ha
        have hlt : o < σ1.S.length := (List.getElem?_eq_some_iff.1 h1).1
        have h4 : σ2.S[o]? = some (setCells cs off' ds) := by rw [h3]; simp [hlt]
        rw [h4, h1]
        simp only
        have hr : off + ((T t).size - 1 + 1) ≤ off' ∨ off' + l' ≤ off := by
          rcases hrw with (h | h) | h
          · exact absurd rfl h
          · exact .inl h
          · exact .inr h
        have hc : ∀ i, i < (T t).size - 1 + 1 → (setCells cs off' ds)[off + i]? = cs[off + i]? := by
          intro i hi
          refine setCells_out ds cs off' (off + i) ?_
          rcases hr with h | h
          · exact .inl (by omega)
          · exact .inr (by omega)
        have h0 : (setCells cs off' ds)[off]? = cs[off]? := hc 0 (by omega)
        rw [h0, partD_same h0 (fun i hi => hc i (by omega))]
      · have : σ2.S[o]? = σ1.S[o]? := by rw [h3, List.getElem?_set_ne (Ne.symm ha)]
        rw [this]
  | _ => rfl

theorem swap_sw {g1 : Bool} {d1 : D} {t1 : Nat} (h1 : Still T C ν ops o1 σ g1 d1 t1) (hs : stepOp T C ν ops o2 { σ with env := put σ.env t1 d1 } = some σ2) (hk : kindOp T C ν ops o2 { σ with env := put σ.env t1 d1 } = .work wr n) (ap : Apart ops o1 o2)
    (hc : o1.op.operands.toList.all (calmOp σ.env) = true) (ho : hasOwn d1 = false) (hi : immB d1 = true) (hrw : rwOk (readsAt T σ g1 o1.op) wr n = true) :
    ∃ s, stepOp T C ν ops o2 σ = some s ∧ kindOp T C ν ops o2 σ = .work wr n ∧ Still T C ν ops o1 s g1 d1 t1 ∧ kindOp T C ν ops o1 s = kindOp T C ν ops o1 σ ∧ E0 σ2 { s with env := put s.env t1 d1 } := by
  have hdst : o2.dst ≠ some t1 := ap.c t1 h1.dst
  have ag : Ag (fun u => u = t1) { σ with env := put σ.env t1 d1 } σ := ⟨rfl, fun u hu => by simp only [look_put]; rw [if_neg (fun h => hu h.symm)]⟩
  obtain ⟨s, s1, s2, s3⟩ := work_move ag (fun u hu h => ap.a t1 h1.dst (by subst h; exact hu)) (by
    cases hd : o2.dst with
    | none => trivial
    | some u => exact fun h => hdst (by rw [hd, h])) hs hk
  obtain ⟨W, hn, _, _⟩ := work_of s1 s3
  obtain ⟨W2, _, _, _⟩ := work_of hs hk
  have hq : ∀ u, looks ops o1 u → look s.env u = look σ.env u := by
    intro u hu
    have hdu : o2.dst ≠ some u := fun h => ap.b u h hu
    rcases hu with hu | hu
    · have hcu := List.all_eq_true.1 hc _ hu
      simp only [calmOp] at hcu
      refine W.quiet.p1 u hdu ?_ ?_
      · unfold immB
        split
        · rfl
        · rfl
        · unfold noLoc
          split
          · rename_i cs heq
            rw [heq] at hcu
            simp only [calm] at hcu
            rw [List.all_eq_true] at *
            intro c hcc
            have := hcu c hcc
            unfold noLocC
            split
            · rfl
            · exact this
          · cases noLocC _ with
            | true => rfl
            | false => exact hcu
      · revert hcu
        cases look σ.env u with
        | agg cs =>
          intro hcu
          simp only [calm, List.all_eq_true] at hcu
          simp only [hasOwn, ownFree, Bool.not_eq_false', List.all_eq_true]
          intro c hcc
          have := hcu c hcc
          cases c <;> first | rfl | simp [calmC] at this
        | own sz l => intro hcu; simp [calm, calmC] at hcu
        | _ => intro _; rfl
    · obtain ⟨hcu, hou⟩ := calm_of_guard h1.gd hu
      refine W.quiet.p1 u hdu ?_ hou
      obtain ⟨j, b, p, e1, e2, e3⟩ := hu
      have hg := h1.gd
      rw [e1] at hg
      simp only [guardB, yieldedD, e2, e3] at hg
      revert hg
      cases hl : look σ.env u with
      | v x => intro _; rfl
      | undef => intro _; rfl
      | mb q d =>
        intro hg
        cases d with
        | v x => rfl
        | _ => simp at hg
      | _ => intro hg; simp at hg
  have hf : hasOwn (look s.env t1) = false := by
    rw [W.quiet.p3 t1 hdst (ap.a t1 h1.dst)]; exact h1.fresh
  have hm := h1.move (σ' := s) hq hf (fun t a d hop hff => loads_ok (σ := σ) hrw hn W.mem hop hff (force_noEp (List.all_eq_true.1 hc a (by rw [hop]; simp [Op.operands])) hff))
  refine ⟨s, s1, s3, hm.1, hm.2, s2.S, fun u _ => ?_⟩
  simp only [look_put]
  split
  · rename_i h
    subst h
    have := W2.quiet.p1 t1 hdst (by simp only [look_put, if_true]; exact hi) (by simp only [look_put, if_true]; exact ho)
    simp only [look_put, if_true] at this
    exact this.symm
  · rename_i h
    exact s2.env u (fun e => h e.symm)

theorem swap_ws {g2 : Bool} {d2 : D} {t2 : Nat} (hs : stepOp T C ν ops o1 σ = some σ1) (hk : kindOp T C ν ops o1 σ = .work wr n) (h2 : Still T C ν ops o2 σ1 g2 d2 t2) (ap : Apart ops o1 o2)
    (hc : o2.op.operands.toList.all (calmOp σ1.env) = true) (ho : hasOwn d2 = false) (hi : immB d2 = true) (hrw : rwOk (readsAt T σ1 g2 o2.op) wr n = true) :
    ∃ s, Still T C ν ops o2 σ g2 d2 t2 ∧ kindOp T C ν ops o2 σ = kindOp T C ν ops o2 σ1 ∧ stepOp T C ν ops o1 { σ with env := put σ.env t2 d2 } = some s ∧ kindOp T C ν ops o1 { σ with env := put σ.env t2 d2 } = .work wr n ∧ E0 { σ1 with env := put σ1.env t2 d2 } s := by
  obtain ⟨W, hn, _, _⟩ := work_of hs hk
  have hdst : o1.dst ≠ some t2 := fun h => ap.c t2 h h2.dst
  have hq : ∀ u, looks ops o2 u → look σ.env u = look σ1.env u := by
    intro u hu
    have hdu : o1.dst ≠ some u := fun h => ap.a u h hu
    have hcu : calm (look σ1.env u) = true := by
      rcases hu with hu | hu
      · have hcu := List.all_eq_true.1 hc _ hu
        simpa only [calmOp] using hcu
      · exact (calm_of_guard h2.gd hu).1
    exact (W.quiet.p2 u hdu hcu).symm
  have hf : hasOwn (look σ.env t2) = false := by
    rw [← W.quiet.p3 t2 hdst (ap.b t2 h2.dst)]; exact h2.fresh
  have hm := h2.move (σ' := σ) hq hf (fun t a d hop hff => (loads_ok (σ := σ1) hrw hn W.mem hop hff (force_noEp (List.all_eq_true.1 hc a (by rw [hop]; simp [Op.operands])) hff)).symm)
  have ag : Ag (fun u => u = t2) σ { σ with env := put σ.env t2 d2 } := ⟨rfl, fun u hu => by simp only [look_put]; rw [if_neg (fun h => hu h.symm)]⟩
  obtain ⟨s, s1, s2, s3⟩ := work_move ag (fun u hu h => ap.b t2 h2.dst (by subst h; exact hu)) (by
    cases hd : o1.dst with
    | none => trivial
    | some u => exact fun h => hdst (by rw [hd, h])) hs hk
  obtain ⟨W2, _, _, _⟩ := work_of s1 s3
  refine ⟨s, hm.1, hm.2, s1, s3, s2.S, fun u _ => ?_⟩
  simp only [look_put]
  split
  · rename_i h
    subst h
    have := W2.quiet.p1 t2 hdst (by simp only [look_put, if_true]; exact hi) (by simp only [look_put, if_true]; exact ho)
    simp only [look_put, if_true] at this
    exact this
  · rename_i h
    exact s2.env u (fun e => h e.symm)
end
end Go.Mx
