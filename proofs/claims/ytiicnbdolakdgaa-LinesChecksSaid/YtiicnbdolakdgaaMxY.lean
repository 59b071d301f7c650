/- Regions in text order; code; loops. -/
import Derived.Test.YtiicnbdolakdgaaMxX
import Derived.Orders
import Derived.Deep.LoopGhost
set_option linter.unusedVariables false
set_option linter.unusedSimpArgs false
set_option linter.constructorNameAsVariable false
set_option linter.unnecessarySimpa false
namespace Go.Mx
open Go

/-- What an exit of the machine is in the model. -/
def ExOk : Ex → Exit → Prop
  | .normal, e => e = .normal
  | .exit id, e => e = .exit id
  | .ret, e => e = .ret

/-- From here the code reaches that state. -/
def Reach (P : Program) (c : Code) (w : World) (G : Gh) (a : Act) (σ : St) (ex : Ex) (σ' : St) : Prop :=
  ∀ Q : Exit → Act → World → Prop, (∀ e a' w' G', ExOk ex e → a'.defers = a.defers → a'.tmps.size = a.tmps.size → Fine w'.heap G' a'.tmps σ' → Goes w G σ w' G' σ' → Q e a' w') → c.wp P Q a w

section
variable {P : Program} {w : World} {G : Gh} {tmps : Array Value} {σ σ' : St} {ds : List Deferred} {C : Oracle} {ν : Note} {o : Oper}

/-- One operation, whatever its guard says. -/
theorem wpOp_ok (SC : SoundC P C) {ops : Array Oper} {i : Nat} (hi : ops[i]? = some o) (F : Fine w.heap G tmps σ) (hsz : ∀ t, o.dst = some t → t < tmps.size) (hs : stepOp (tyOf P) C ν ops.toList o σ = some σ')
    {K : Act → World → Prop} {Q : Exit → Act → World → Prop} (hK : ∀ a' w' G', a'.defers = ds → a'.tmps.size = tmps.size → Fine w'.heap G' a'.tmps σ' → Goes w G σ w' G' σ' → K a' w') : wpOp P ops Q i K ⟨tmps, ds⟩ w := by
  unfold wpOp
  rw [hi]
  simp only
  have hg : ∃ g, guardB ops.toList σ.env o.guard = some g := by
    unfold stepOp at hs
    cases h : guardB ops.toList σ.env o.guard with
    | none => rw [h] at hs; cases hs
    | some g => exact ⟨g, rfl⟩
  obtain ⟨g, hg⟩ := hg
  have hw := guard_ok F.rel hg
  rw [hw]
  cases g with
  | true =>
    rw [if_pos rfl]
    exact .inl (step_does SC F hsz hg hs K Q hK)
  | false =>
    rw [if_neg (by decide)]
    obtain ⟨G', F', g'⟩ := step_skip (ds := ds) F hsz hg hs
    refine hK _ w G' ?_ ?_ F' g'
    · cases o.dst <;> rfl
    · cases o.dst <;> simp [Act.put]

/-- Operations in the order of a list. -/
theorem evOps_ok (SC : SoundC P C) {ops : Array Oper} : ∀ (idx : List Nat) (rest : List Oper) (w : World) (G : Gh) (tmps : Array Value) (σ : St), idx.map (ops[·]?) = rest.map some → (∀ o ∈ rest, ∀ t, o.dst = some t → t < tmps.size) →
    evOps (tyOf P) C ν ops.toList rest σ = some σ' → Fine w.heap G tmps σ → ∀ (Q : Exit → Act → World → Prop), (∀ a' w' G', a'.defers = ds → a'.tmps.size = tmps.size → Fine w'.heap G' a'.tmps σ' → Goes w G σ w' G' σ' → Q .normal a' w') →
    wpOps P ops Q idx ⟨tmps, ds⟩ w
  | [], [], w, G, tmps, σ, _, _, he, F, Q, hQ => by
    simp only [evOps, Option.some.injEq] at he
    subst he
    exact hQ _ w G rfl rfl F (Goes.refl _ _ _)
  | i :: idx, o :: rest, w, G, tmps, σ, hi, hsz, he, F, Q, hQ => by
    simp only [List.map_cons, List.cons.injEq] at hi
    rw [wpOps_cons]
    simp only [evOps] at he
    cases hs : stepOp (tyOf P) C ν ops.toList o σ with
    | none => rw [hs] at he; cases he
    | some σ1 =>
      rw [hs] at he
      simp only at he
      refine wpOp_ok (ν := ν) SC hi.1 F (hsz o (List.mem_cons_self ..)) hs ?_
      rintro ⟨tmps1, ds1⟩ w1 G1 hd1 hs1 F1 g1
      simp only at hd1 hs1 F1
      rw [hd1]
      refine evOps_ok SC idx rest w1 G1 tmps1 σ1 hi.2 (fun o' ho' t ht => by rw [hs1]; exact hsz o' (List.mem_cons_of_mem _ ho') t ht) he F1 Q ?_
      intro a2 w2 G2 hd2 hs2 F2 g2
      exact hQ a2 w2 G2 hd2 (hs2.trans hs1) F2 (g1.trans g2)
  | [], _ :: _, _, _, _, _, hi, _, _, _, _, _ => by simp at hi
  | _ :: _, [], _, _, _, _, hi, _, _, _, _, _ => by simp at hi

/-- What a region is worth, before its registers are forgotten. -/
def RegionOk (P : Program) (C : Oracle) (ν : Note) (n id : Nat) (ops : Array Oper) (draw : Bool) : Prop :=
  ∀ (w : World) (G : Gh) (tmps : Array Value) (ds : List Deferred) (σ σ' : St), tmps.size = n → Fine w.heap G tmps σ → evRegion (tyOf P) C ν id ops.toList draw σ = some σ' → Reach P (.region id ops draw) w G ⟨tmps, ds⟩ σ .normal σ'

theorem regionOk_text (SC : SoundC P C) {n id : Nat} {ops : Array Oper} (hsz : ∀ o ∈ ops.toList, ∀ t, o.dst = some t → t < n) : RegionOk P C ν n id ops false := by
  intro w G tmps ds σ σ' hn F he Q hQ
  unfold evRegion at he
  simp only [Bool.false_and, cond_false] at he
  refine wp_region ?_
  refine evOps_ok (ν := ν) SC (List.range ops.size) ops.toList w G tmps σ ?_ (by rw [hn]; exact hsz) he F Q (fun a' w' G' h1 h2 h3 h4 => hQ _ a' w' G' rfl h1 h2 h3 h4)
  apply List.ext_getElem?
  intro i
  simp only [List.getElem?_map, List.getElem?_range]
  by_cases hi : i < ops.size
  · simp [hi]
  · simp [hi]

theorem look_keys (f : Nat → D) : ∀ (keep : List Nat) (t : Nat), look (keep.map fun t => (t, f t)) t = if t ∈ keep then f t else .bad
  | [], t => by simp [look]
  | u :: r, t => by
    simp only [List.map_cons, look]
    cases hu : (u == t) with
    | true =>
      have : u = t := by simpa using hu
      subst this
      simp
    | false =>
      have : ¬ u = t := by simpa using hu
      simp only [cond_false]
      rw [look_keys f r t]
      have h2 : t ∈ u :: r ↔ t ∈ r := by
        constructor
        · intro h
          rcases List.mem_cons.1 h with h | h
          · exact absurd h.symm this
          · exact h
        · intro h; exact List.mem_cons_of_mem _ h
      by_cases ht : t ∈ r
      · rw [if_pos ht, if_pos (h2.2 ht)]
      · rw [if_neg ht, if_neg (fun h => ht (h2.1 h))]

theorem prune_look (keep : List Nat) (env : Env) (t : Nat) : look (Mx.prune keep env) t = if t ∈ keep then killB (gone keep) (look env t) else .bad := by
  unfold Mx.prune
  rw [look_keys]

theorem Rel.prune {h : Array Obj} (R : Rel h G tmps σ) (keep : List Nat) : ∃ G', Rel h G' tmps { σ with env := Mx.prune keep σ.env } ∧ Same h G G' ∧ (∀ k j, G'.ow (.hand k j) = G.ow (.hand k j)) := by
  let ow : Loc → Option (Nat × Nat) := fun l => bif gone keep l then none else G.ow l
  have hp : ∀ l, gone keep l = true → ow l = none := fun l h => by simp [ow, h]
  have hn : ∀ l, gone keep l = false → ow l = G.ow l := fun l h => by simp [ow, h]
  have hsub : ∀ l q, ow l = some q → G.ow l = some q ∧ gone keep l = false := by
    intro l q hl
    cases hpl : gone keep l with
    | true => rw [hp l hpl] at hl; cases hl
    | false => rw [hn l hpl] at hl; exact ⟨hl, rfl⟩
  have I : Inv h { G with ow := ow } := R.inv.sub (fun l q hl => ⟨l, (hsub l q hl).1⟩) (fun l l' b f f' h1 h2 => R.inv.ow_inj l l' b f f' (hsub _ _ h1).1 (hsub _ _ h2).1)
  have F : Fr (fun l => gone keep l = true) h G h { G with ow := ow } := ⟨RdLe.refl _, fun _ _ h => h, fun l q _ hl hq => (by
    show ow l = some q
    rw [hn l (by simpa using hl)]; exact hq), fun _ _ _ _ _ _ => rfl⟩
  refine ⟨{ G with ow := ow }, ⟨I, ?_, ?_, R.obc, R.obn, ?_⟩, ⟨RdLe.refl _, rfl, fun l b f hl => ⟨l, f, (hsub l _ hl).1⟩, fun b hb => .inl hb⟩, fun k j => hn (.hand k j) rfl⟩
  · intro t
    simp only
    rw [prune_look]
    by_cases ht : t ∈ keep
    · rw [if_pos ht]
      refine RD.fr F _ (fun _ => rfl) _ _ (free.kill (fun _ h => h) (by simp [gone]) ?_ _) (RD.kill _ _ _ (R.env t))
      intro j
      simp [gone, ht]
    · rw [if_neg ht]; simp only [RD]
  · intro o cs hcs
    obtain ⟨b, c, e, fr, h1, h2, h3, h4⟩ := R.obj o cs hcs
    exact ⟨b, c, e, fr, h1, h2, h3, RDs.fr F _ (fun _ => rfl) _ _ _ (frees.cell 0 cs (R.obc o cs hcs) (by intro i d _ _; simp [gone])) h4⟩
  · intro l q hh hl
    obtain ⟨h1, h2⟩ := hsub l q hl
    have := R.own l q hh h1
    cases l with
    | reg t j =>
      have ht : t ∈ keep := by simpa [gone] using h2
      rw [ownsAt_eq] at *
      simp only
      rw [prune_look, if_pos ht, dOwns_kill]; exact this
    | cell o j => exact this
    | hand k j => exact absurd rfl (hh k j)
    | nowhere => exact this
end
end Go.Mx
