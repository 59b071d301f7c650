/- Regions that draw their order. -/
import Derived.Test.YtiicnbdolakdgaaMxDe
import Derived.Orders
set_option linter.unusedVariables false
set_option linter.unusedSimpArgs false
set_option linter.constructorNameAsVariable false
set_option linter.unnecessarySimpa false
namespace Go.Mx
open Go

section
variable {T : Nat → Ty} {C : Oracle} {ν : Note} {ops : List Oper} {o o1 o2 : Oper} {σ σ' σ1 σ2 : St}

theorem E0.refl (σ : St) : E0 σ σ := ⟨rfl, fun _ _ => rfl⟩
theorem E0.trans (a : E0 σ σ1) (b : E0 σ1 σ2) : E0 σ σ2 := ⟨b.S.trans a.S, fun u hu => (b.env u hu).trans (a.env u hu)⟩
theorem E0.symm (a : E0 σ σ1) : E0 σ1 σ := ⟨a.S.symm, fun u hu => (a.env u hu).symm⟩

theorem offAll (x : Operand) : offO (fun _ => False) x := by cases x <;> simp [offO]
theorem offDAll (x : Option Nat) : offD (fun _ => False) x := by cases x <;> simp [offD]

theorem stepOp_eqv (h : E0 σ σ') : ROs (fun _ => False) (stepOp T C ν ops o σ) (stepOp T C ν ops o σ') := by
  have eg : guardB ops σ'.env o.guard = guardB ops σ.env o.guard := guardB_ag h.env (fun _ _ _ _ _ _ _ hf => hf)
  have ew := workOp_ag (T := T) (C := C) (ro := ν.ro) (mv := ν.mv) (give := ν.give) h (dst := o.dst) (ot := o.type) (op := o.op) (fun x _ => offAll x) (offDAll _) (.inl (fun _ hf => hf))
  unfold stepOp
  simp only [eg]
  cases guardB ops σ.env o.guard with
  | none => trivial
  | some g =>
    simp only
    refine ROs.cond _ (ROs.cond _ ?_ ⟨h.S, h.env.putDst (offDAll _) _⟩) ?_
    · rw [workOk_ag h.env (fun x _ => offAll x)]
      exact ROs.cond _ ew trivial
    · rw [callFails_ag h.env (fun x _ => offAll x), pureOp_ag h (fun x _ => offAll x) (fun l => h.ownAt (fun _ hf => hf) l)]
      refine ROs.cond _ trivial ?_
      cases gx g o.guard.isNone (pureOp T C σ g o.op) with
      | none => exact ROs.cond _ ew trivial
      | some d =>
        simp only
        rw [h.env.offReg (offDAll _)]
        exact ⟨h.S, h.env.putDst (offDAll _) _⟩
theorem kindOp_eqv (h : E0 σ σ') : kindOp T C ν ops o σ' = kindOp T C ν ops o σ := by
  have eg : guardB ops σ'.env o.guard = guardB ops σ.env o.guard := guardB_ag h.env (fun _ _ _ _ _ _ _ hf => hf)
  have el : ∀ t, look σ'.env t = look σ.env t := fun t => h.env t (fun hf => hf)
  have eo : ∀ x, opnd σ'.env x = opnd σ.env x := fun x => h.env.opnd (offAll x)
  have ec : ∀ x, calmOp σ'.env x = calmOp σ.env x := fun x => by cases x <;> simp only [calmOp, el]
  unfold kindOp
  simp only [eg]
  cases guardB ops σ.env o.guard with
  | none => rfl
  | some g =>
    simp only
    rw [kindW_ag h (fun x _ => offAll x), pureOp_ag h (fun x _ => offAll x) (fun l => h.ownAt (fun _ hf => hf) l), h.S]
    have e1 : ownsDst σ'.env o.dst = ownsDst σ.env o.dst := by
      unfold ownsDst
      cases o.dst with
      | none => rfl
      | some t => simp only [el]
    have e2 : readsAt T σ' g o.op = readsAt T σ g o.op := by
      unfold readsAt
      split <;> simp only [eo]
    have e3 : o.op.operands.toList.all (calmOp σ'.env) = o.op.operands.toList.all (calmOp σ.env) := by
      congr 1; funext x; exact ec x
    rw [e1, e2, e3]

/-- The operations of that list, one behind the other, each of its kind. -/
def Run (T : Nat → Ty) (C : Oracle) (ν : Note) (ops : List Oper) : List (Nat × Kd) → St → St → Prop
  | [], σ, σ' => E0 σ σ'
  | (i, k) :: Z, σ, σ' => ∃ o σ1, ops[i]? = some o ∧ stepOp T C ν ops o σ = some σ1 ∧ kindOp T C ν ops o σ = k ∧ Run T C ν ops Z σ1 σ'

theorem Run.eqv : ∀ {Z : List (Nat × Kd)} {σ σ2 σ' : St}, E0 σ σ2 → Run T C ν ops Z σ σ' → Run T C ν ops Z σ2 σ'
  | [], σ, σ2, σ', h, r => h.symm.trans r
  | (i, k) :: Z, σ, σ2, σ', h, r => by
    obtain ⟨o, σ1, h1, h2, h3, h4⟩ := r
    have hr := stepOp_eqv (T := T) (C := C) (ν := ν) (ops := ops) (o := o) h
    rw [h2] at hr
    revert hr
    cases hs : stepOp T C ν ops o σ2 with
    | none => intro hr; exact hr.elim
    | some s => intro hr; exact ⟨o, s, h1, hs, by rw [kindOp_eqv h]; exact h3, Run.eqv hr h4⟩

/-- Two operations that may change places. -/
def Free (ops : List Oper) (p q : Nat × Kd) : Prop := ∃ o1 o2, ops[p.1]? = some o1 ∧ ops[q.1]? = some o2 ∧ Apart ops o1 o2 ∧ pairOk p.2 q.2 = true

theorem Run.swap {p q : Nat × Kd} {Z : List (Nat × Kd)} (hf : Free ops p q) (r : Run T C ν ops (p :: q :: Z) σ σ') : Run T C ν ops (q :: p :: Z) σ σ' := by
  obtain ⟨i, k1⟩ := p
  obtain ⟨j, k2⟩ := q
  obtain ⟨o1, o2, e1, e2, ap, hp⟩ := hf
  obtain ⟨a1, σ1, f1, s1, kk1, a2, σ2, f2, s2, kk2, rest⟩ := r
  simp only at e1 e2 hp
  rw [e1] at f1; obtain rfl := Option.some.inj f1
  rw [e2] at f2; obtain rfl := Option.some.inj f2
  cases k1 with
  | wild => simp [pairOk] at hp
  | still c1 w1 r1 m1 =>
    obtain ⟨g1, d1, t1, S1, rfl⟩ := still_of s1 kk1
    have K1 := S1.kind
    rw [kk1] at K1
    simp only [Kd.still.injEq] at K1
    obtain ⟨rfl, rfl, rfl, rfl⟩ := K1
    cases k2 with
    | wild => simp [pairOk] at hp
    | still c2 w2 r2 m2 =>
      obtain ⟨g2, d2, t2, S2, rfl⟩ := still_of s2 kk2
      have K2 := S2.kind
      rw [kk2] at K2
      simp only [Kd.still.injEq] at K2
      obtain ⟨rfl, rfl, rfl, rfl⟩ := K2
      simp only [pairOk, Bool.and_eq_true, Bool.or_eq_true, Bool.not_eq_true'] at hp
      obtain ⟨A, B, KA, KB⟩ := swap_ss S1 S2 ap hp.1 hp.2
      have hne : t1 ≠ t2 := fun h => ap.c t1 S1.dst (by rw [h, S2.dst])
      have he : E0 (St.mk (put (put σ.env t1 d1) t2 d2) σ.S) (St.mk (put (put σ.env t2 d2) t1 d1) σ.S) := ⟨rfl, fun u _ => put_put hne σ.env u⟩
      exact ⟨o2, _, e2, A.step, by rw [KA]; exact kk2, o1, _, e1, B.step, by rw [KB]; exact kk1, rest.eqv he⟩
    | work wr n =>
      simp only [pairOk, Bool.and_eq_true, Bool.not_eq_true'] at hp
      obtain ⟨s, h1, h2, h3, h4, h5⟩ := swap_sw S1 s2 kk2 ap hp.1.1.1 hp.1.1.2 hp.1.2 hp.2
      exact ⟨o2, s, e2, h1, h2, o1, _, e1, h3.step, by rw [h4]; exact kk1, rest.eqv h5⟩
  | work wr n =>
    cases k2 with
    | wild => simp [pairOk] at hp
    | work wr n => simp [pairOk] at hp
    | still c2 w2 r2 m2 =>
      obtain ⟨g2, d2, t2, S2, rfl⟩ := still_of s2 kk2
      have K2 := S2.kind
      rw [kk2] at K2
      simp only [Kd.still.injEq] at K2
      obtain ⟨rfl, rfl, rfl, rfl⟩ := K2
      simp only [pairOk, Bool.and_eq_true, Bool.not_eq_true'] at hp
      obtain ⟨s, h1, h2, h3, h4, h5⟩ := swap_ws s1 kk1 S2 ap hp.1.1.1 hp.1.1.2 hp.1.2 hp.2
      exact ⟨o2, _, e2, h1.step, by rw [h2]; exact kk2, o1, s, e1, h3, h4, rest.eqv h5⟩

theorem Run.front {q : Nat × Kd} {L2 : List (Nat × Kd)} : ∀ {L1 : List (Nat × Kd)} {σ : St}, (∀ p ∈ L1, Free ops p q) → Run T C ν ops (L1 ++ q :: L2) σ σ' → Run T C ν ops (q :: (L1 ++ L2)) σ σ'
  | [], σ, _, r => r
  | p :: L1, σ, hf, r => by
    obtain ⟨i, k⟩ := p
    obtain ⟨o, σ1, h1, h2, h3, h4⟩ := r
    have ih := Run.front (L1 := L1) (fun p hp => hf p (List.mem_cons_of_mem _ hp)) h4
    exact Run.swap (hf (i, k) List.mem_cons_self) ⟨o, σ1, h1, h2, h3, ih⟩

theorem run_of_ev : ∀ (rest : List Oper) (i : Nat) (σ σ' : St) (ks : List Kd), (∀ j, rest[j]? = ops[i + j]?) → evOpsK T C ν ops rest σ = some (σ', ks) → ks.length = rest.length ∧ Run T C ν ops ((List.range' i rest.length).zip ks) σ σ'
  | [], i, σ, σ', ks, _, h => by
    simp only [evOpsK, Option.some.injEq, Prod.mk.injEq] at h
    obtain ⟨rfl, rfl⟩ := h
    exact ⟨rfl, E0.refl _⟩
  | o :: rest, i, σ, σ', ks, hr, h => by
    simp only [evOpsK] at h
    split at h
    · rename_i σ1 hs
      split at h
      · rename_i σ2 ks2 hs2
        simp only [Option.some.injEq, Prod.mk.injEq] at h
        obtain ⟨rfl, rfl⟩ := h
        obtain ⟨l, r⟩ := run_of_ev rest (i + 1) σ1 σ2 ks2 (fun j => by have := hr (j + 1); simpa [Nat.add_assoc, Nat.add_comm 1] using this) hs2
        refine ⟨by simp [l], ?_⟩
        simp only [List.length_cons, List.range'_succ, List.zip_cons_cons]
        have := hr 0
        exact ⟨o, σ1, by simpa using this.symm, hs, rfl, r⟩
      · cases h
    · cases h

/-! ### The order -/
/-- That operation must wait for this one. -/
def Binds (ops : List Oper) (i j : Nat) : Prop := ∃ o e, ops[j]? = some o ∧ e ∈ o.after ∧ Region.binds .any e = true ∧ e.on = i
inductive Anc (ops : List Oper) : Nat → Nat → Prop
  | one {i j : Nat} : Binds ops i j → Anc ops i j
  | more {i j k : Nat} : Anc ops i j → Binds ops j k → Anc ops i k

def closed (ops : List Oper) (listed : Array Bool) : Prop := ∀ i j, listed.getD j false = true → Binds ops i j → listed.getD i false = true
theorem closed.anc {listed : Array Bool} (hc : closed ops listed) {i j : Nat} (ha : Anc ops i j) : (∀ k, Binds ops k j → listed.getD k false = true) → listed.getD i false = true := by
  induction ha with
  | one h => intro hk; exact hk _ h
  | more h1 h2 ih => intro hk; exact ih (fun k hb => hc _ _ (hk _ h2) hb)

theorem game {P : Program} (SC : SoundC P C) {oa : Array Oper} {ds : List Deferred} {Q : Exit → Act → World → Prop} {nt : Nat} (hsz : ∀ o ∈ oa.toList, ∀ t, o.dst = some t → t < nt) :
    ∀ (Z : List (Nat × Kd)) (listed : Array Bool) (w : World) (G : Gh) (tmps : Array Value) (σ : St), tmps.size = nt → listed.size = oa.size → Fine w.heap G tmps σ → Run (tyOf P) C ν oa.toList Z σ σ' →
    (∀ i, listed.getD i true = false ↔ ∃ k, (i, k) ∈ Z) → closed oa.toList listed → Z.Pairwise (fun p q => p.1 < q.1) → Z.Pairwise (fun p q => Anc oa.toList p.1 q.1 ∨ Free oa.toList p q) → (∀ i j, Binds oa.toList i j → i < j) →
    (∀ a' w' G', a'.defers = ds → a'.tmps.size = tmps.size → Fine w'.heap G' a'.tmps σ' → Goes w G σ w' G' σ' → Q .normal a' w') → wpAny P .any oa Q Z.length listed ⟨tmps, ds⟩ w := by
  intro Z
  generalize hn : Z.length = m
  induction m generalizing Z with
  | zero =>
    intro listed w G tmps σ ht hl F r hun hc hs hp hb hQ
    have : Z = [] := List.eq_nil_of_length_eq_zero hn
    subst this
    have h0 : E0 σ σ' := r
    refine ⟨?_, hQ _ w G rfl rfl ⟨F.rel.congr (fun t => h0.env t (fun h => h)) h0.S, F.clean, by rw [h0.S]; exact F.low⟩ ⟨Step.refl _ _, by rw [h0.S]; exact Nat.le_refl _, fun _ _ => rfl⟩⟩
    rw [List.eq_nil_iff_forall_not_mem]
    intro j hj
    obtain ⟨h1, _⟩ := mem_ready.1 hj
    obtain ⟨k, hk⟩ := (hun j).1 h1
    cases hk
  | succ m ih =>
    intro listed w G tmps σ ht hl F r hun hc hs hp hb hQ
    constructor
    · intro hr
      exfalso
      cases Z with
      | nil => simp at hn
      | cons p Z' =>
        obtain ⟨i, k⟩ := p
        obtain ⟨o, σ1, h1, _⟩ := r
        have hi : i ∈ Region.ready .any oa listed := by
          refine mem_ready.2 ⟨(hun i).2 ⟨k, List.mem_cons_self⟩, o, by simpa using h1, fun e he hbe => ?_⟩
          have hlt := hb e.on i ⟨o, e, h1, he, hbe, rfl⟩
          cases hge : listed.getD e.on false with
          | true => rfl
          | false =>
            exfalso
            have hilt : i < oa.size := by
              have := (List.getElem?_eq_some_iff.1 h1).1
              simpa using this
            have : listed.getD e.on true = false := by
              have hlt2 : e.on < listed.size := by omega
              simp [hlt2] at hge ⊢; exact hge
            obtain ⟨k', hk'⟩ := (hun e.on).1 this
            rcases List.mem_cons.1 hk' with h | h
            · simp only [Prod.mk.injEq] at h; omega
            · have := (List.pairwise_cons.1 hs).1 _ h
              simp only at this
              omega
        rw [hr] at hi; cases hi
    · intro i hi
      obtain ⟨h1, o, ho, hall⟩ := mem_ready.1 hi
      obtain ⟨k, hk⟩ := (hun i).1 h1
      obtain ⟨L1, L2, rfl⟩ := List.append_of_mem hk
      have hready : ∀ k', Binds oa.toList k' i → listed.getD k' false = true := by
        rintro k' ⟨o', e, e1, e2, e3, rfl⟩
        have : o' = o := by
          rw [Array.getElem?_toList, ho] at e1; exact (Option.some.inj e1).symm
        subst this
        exact hall e e2 e3
      have hfree : ∀ p ∈ L1, Free oa.toList p (i, k) := by
        intro p hpm
        rcases (List.pairwise_append.1 hp).2.2 p hpm (i, k) List.mem_cons_self with ha | hf
        · exfalso
          have h2 := hc.anc ha hready
          have h3 := (hun p.1).2 ⟨p.2, List.mem_append_left _ hpm⟩
          rcases Nat.lt_or_ge p.1 listed.size with h | h
          · simp [h] at h2 h3; rw [h2] at h3; cases h3
          · simp [Array.getElem?_eq_none h] at h2
        · exact hf
      obtain ⟨o', σ1, e1, e2, e3, e4⟩ := Run.front hfree r
      have : o' = o := by
        rw [Array.getElem?_toList, ho] at e1; exact (Option.some.inj e1).symm
      subst this
      refine wpOp_ok SC ho F (fun t hd => by rw [ht]; exact hsz o' (Array.mem_toList_iff.2 (Array.mem_of_getElem? ho)) t hd) e2 ?_
      intro a' w' G' q1 q2 q3 q4
      obtain ⟨tmps', ds'⟩ := a'
      simp only at q1 q2 q3
      subst q1
      have hilt : i < listed.size := by
        rcases Nat.lt_or_ge i listed.size with h | h
        · exact h
        · simp [Array.getElem?_eq_none h] at h1
      refine ih (L1 ++ L2) (by simp at hn ⊢; omega) (listed.setIfInBounds i true) w' G' tmps' σ1 (by omega) (by simpa using hl) q3 e4 ?_ ?_ ?_ ?_ hb ?_
      · intro j
        by_cases hji : i = j
        · subst hji
          constructor
          · intro h; simp [hilt] at h
          · rintro ⟨k', hk'⟩
            exfalso
            rw [List.pairwise_append] at hs
            rcases List.mem_append.1 hk' with h | h
            · have := hs.2.2 _ h (i, k) List.mem_cons_self; simp only at this; omega
            · have := (List.pairwise_cons.1 hs.2.1).1 _ h; simp only at this; omega
        · rw [getD_set_ne true hji, hun j]
          constructor
          · rintro ⟨k', hk'⟩
            refine ⟨k', ?_⟩
            rcases List.mem_append.1 hk' with h | h
            · exact List.mem_append_left _ h
            · rcases List.mem_cons.1 h with h | h
              · simp only [Prod.mk.injEq] at h; exact absurd h.1.symm hji
              · exact List.mem_append_right _ h
          · rintro ⟨k', hk'⟩
            refine ⟨k', ?_⟩
            rcases List.mem_append.1 hk' with h | h
            · exact List.mem_append_left _ h
            · exact List.mem_append_right _ (List.mem_cons_of_mem _ h)
      · intro a b hlb hab
        by_cases hbi : i = b
        · subst hbi
          exact getD_set_true (hready a hab)
        · rw [getD_set_ne false hbi] at hlb
          exact getD_set_true (hc a b hlb hab)
      · rw [List.pairwise_append] at hs ⊢
        exact ⟨hs.1, (List.pairwise_cons.1 hs.2.1).2, fun a ha b hb' => hs.2.2 a ha b (List.mem_cons_of_mem _ hb')⟩
      · rw [List.pairwise_append] at hp ⊢
        exact ⟨hp.1, (List.pairwise_cons.1 hp.2.1).2, fun a ha b hb' => hp.2.2 a ha b (List.mem_cons_of_mem _ hb')⟩
      · intro a'' w'' G'' y1 y2 y3 y4
        exact hQ a'' w'' G'' y1 (by omega) y3 (q4.trans y4)
end
end Go.Mx
