/- THE FUNCTION: what the machine computes for its code is its contract. -/
import Derived.Test.YtiicnbdolakdgaaMxZe
import Derived.Laws.Tables
set_option linter.unusedVariables false
set_option linter.unusedSimpArgs false
set_option linter.constructorNameAsVariable false
set_option linter.unnecessarySimpa false
namespace Go.Mx
open Go

section
variable {P : Program} {w : World} {G : Gh} {tmps : Array Value} {σ σ' : St} {C : Oracle} {ν : Note}

def resGet (tmps : Array Value) : ResultVar → Go.Sem Value
  | .tmp t => pure (tmps.getD t undef)
  | .cell a t => do loadVar t (← asAddr (tmps.getD a undef))

def joinRes : List Value → Value
  | [v] => v
  | vl => .tuple vl.toArray

theorem resAll_ok {n : Nat} (F : Fine w.heap G tmps σ) : ∀ (rs : List ResultVar) (dsl : List D), resAll (tyOf P) n σ rs = some dsl →
    ∃ vl : List Value, (rs.mapM (resGet tmps)).run P w = .ok vl w ∧ vl.length = dsl.length ∧ ∀ (i : Nat) (d : D), dsl[i]? = some d → ∃ v src, vl[i]? = some v ∧ RD w.heap G src d v ∧ (∀ j p, G.ow (src j) = some p → dOwns d j = true) ∧ ((∃ t, src = Loc.reg t) ∨ ∃ o, n ≤ o ∧ src = Loc.cell o)
  | [], dsl, hr => by
    simp only [resAll, Option.some.injEq] at hr
    subst hr
    exact ⟨[], by simp, rfl, fun i d hd => by simp at hd⟩
  | r :: rs, dsl, hr => by
    simp only [resAll] at hr
    cases h1 : resOne (tyOf P) n σ r with
    | none => rw [h1] at hr; cases hr
    | some d =>
      rw [h1] at hr
      simp only at hr
      cases h2 : resAll (tyOf P) n σ rs with
      | none => rw [h2] at hr; cases hr
      | some dr =>
        rw [h2] at hr
        simp only [Option.some.injEq] at hr
        subst hr
        obtain ⟨v, e1, e2, e3, e4⟩ := resOne_ok F h1
        obtain ⟨vl, f1, f2, f3⟩ := resAll_ok F rs dr h2
        have e1' : (resGet tmps r).run P w = .ok v w := by
          cases r <;> exact e1
        refine ⟨v :: vl, ?_, by simp [f2], fun i d' hd => ?_⟩
        · rw [List.mapM_cons]
          simp [e1', f1]
        · cases i with
          | zero => simp at hd; subst hd; exact ⟨v, _, rfl, e2, e3, e4⟩
          | succ i => simpa using f3 i d' (by simpa using hd)

theorem results_run {fn : Func} {vl : List Value} (h : (fn.results.toList.mapM (resGet tmps)).run P w = .ok vl w) : (results fn tmps).run P w = .ok (joinRes vl) w := by
  have hg : (fun (x : ResultVar) => match x with | .tmp t => (pure (tmps.getD t undef) : Go.Sem Value) | .cell a t => do loadVar t (← asAddr (tmps.getD a undef))) = resGet tmps := by
    funext x; cases x <;> rfl
  have h2 : (fn.results.mapM (resGet tmps)).run P w = .ok vl.toArray w := by
    rw [Array.mapM_eq_mapM_toList]
    simp [h]
  have e : results fn tmps = (do
      let vs ← fn.results.mapM (resGet tmps)
      pure (if h : vs.size = 1 then vs[0] else .tuple vs)) := by
    unfold results
    refine congrArg (fun m : Go.Sem (Array Value) => m >>= fun vs => (pure (if h : vs.size = 1 then vs[0] else .tuple vs) : Go.Sem Value)) (congrArg (fun g => fn.results.mapM g) (funext fun x => ?_))
    cases x <;> rfl
  rw [e, Sem.run_bind, h2, Result.andThen_ok]
  match vl with
  | [] => rfl
  | [v] => rfl
  | _ :: _ :: _ => rfl

theorem fn_ok {f : FuncId} {fn : Func} {body : Code} {args : List D} {S S' : Store} {d : D} {k : Nat} (hf : P.funcs[f]? = some fn) (hb : fn.body = some body) (hname : (fn.name == "runtime.NumGoroutine") = false)
    (okb : CodeOk P C ν fn.ntmps body body) (okf : ∀ id c, findLoop id body = some c → CodeOk P C ν fn.ntmps body c) (hargs : args.length ≤ fn.ntmps)
    (he : evFn (tyOf P) C (evL (tyOf P) C ν body k) ν fn.results.toList body args S = some (d, S')) : Mx.Sem P f args S d S' := by
  intro w G vals R L A
  unfold Enters
  have hcf : (callFunc f vals.toArray).run P w = .ok (.enter f vals.toArray) w := by
    have h1 : fn.name ≠ "runtime.NumGoroutine" := by simpa using hname
    simp [callFunc, hf, h1, hb]
  rw [hcf]
  simp only
  obtain ⟨G0, R0, cl0, rd0, ob0, sub0⟩ := enter_ok R A hargs
  have F0 : Fine w.heap G0 (vals.toArray ++ Array.replicate (fn.ntmps - vals.toArray.size) undef) ⟨enter 0 args, S⟩ := ⟨R0, cl0, L⟩
  have hm0 : ∀ b, mine G0 b → mine G b := by
    rintro b (⟨o, ho⟩ | ⟨l, f, hl⟩)
    · exact .inl ⟨o, by rw [← ob0]; exact ho⟩
    · obtain ⟨l0, h0⟩ := sub0 l _ hl; exact .inr ⟨l0, f, h0⟩
  refine calls_of_wp hf hb ?_
  unfold evFn at he
  cases hc : evCode (tyOf P) C (evL (tyOf P) C ν body k) ν body ⟨enter 0 args, S⟩ with
  | none => rw [hc] at he; cases he
  | some p =>
    obtain ⟨e, σ⟩ := p
    rw [hc] at he
    have hsz : (vals.toArray ++ Array.replicate (fn.ntmps - vals.toArray.size) undef).size = fn.ntmps := by
      have := A.len
      simp; omega
    refine evCode_ok (evL_ok okf k) body w G0 _ ⟨enter 0 args, S⟩ e σ okb hsz F0 hc _ ?_
    intro ex a' w' G' h1 h2 h3 F' g'
    have key : giveBack (tyOf P) S.length fn.results.toList σ = some (d, S') →
        a'.defers = [] ∧ ∃ v, (results fn a'.tmps).run P w' = .ok v w' ∧ ∃ v', Ending.returned v = Ending.returned v' ∧ ∃ G', Rel w'.heap G' #[] ⟨[], S'⟩ ∧ Low S' ∧ Goes w G ⟨[], S⟩ w' G' ⟨[], S'⟩ ∧ S'.length = S.length ∧ Res w'.heap G' S.length d v' := by
      intro he
      unfold giveBack at he
      refine ⟨h2, ?_⟩
      cases hr : resAll (tyOf P) S.length σ fn.results.toList with
      | none => rw [hr] at he; cases he
      | some dsl =>
        rw [hr] at he
        simp only at he
        cases hod : outD S.length dsl with
        | none => rw [hod] at he; cases he
        | some d0 =>
          rw [hod] at he
          simp only [Option.some.injEq, Prod.mk.injEq] at he
          obtain ⟨rfl, rfl⟩ := he
          obtain ⟨vl, f1, f2, f3⟩ := resAll_ok F' fn.results.toList dsl hr
          refine ⟨_, results_run f1, _, rfl, ?_⟩
          have hlen : S.length ≤ σ.S.length := g'.len
          have hl' : (σ.S.take S.length).length = S.length := by simp; omega
          -- the way from the caller's world to the state behind
          have way : ∀ Gf : Gh, Below0 S.length G' Gf → (∀ o, o < S.length → Gf.ob o = G'.ob o) → (∀ b, mine Gf b → mine G' b) → (∀ b, Gf.rd b ≠ none → G'.rd b ≠ none ∨ mine G' b) → Goes w G ⟨[], S⟩ w' Gf ⟨[], σ.S.take S.length⟩ := by
            intro Gf B hob hmi hrdn
            have st := g'.step
            refine ⟨⟨st.os, st.tape, st.output, st.size, fun b hb hm => st.keep b hb (fun hx => hm (hm0 b hx)), fun b hm => (st.mine b (hmi b hm)).imp (hm0 b) id, ?_, ?_⟩, by rw [hl']; exact Nat.le_refl _, ?_⟩
            · intro b c hc
              exact B.rd b c (st.rd b c (by rw [rd0]; exact hc))
            · intro b hb
              rcases hrdn b hb with h1 | h1
              · rcases st.rdn b h1 with h2 | h2 | h2
                · left; rw [← rd0]; exact h2
                · exact .inr (.inl (hm0 b h2))
                · exact .inr (.inr h2)
              · rcases st.mine b h1 with h2 | h2
                · exact .inr (.inl (hm0 b h2))
                · exact .inr (.inr h2)
            · intro o ho
              have ho' : o < S.length := ho
              rw [hob o ho', g'.ob o ho', ob0]
          have one : ∀ d1 : D, dsl = [d1] → outOk S.length d1 = true → d0 = d1 → ∃ Gf, Rel w'.heap Gf #[] ⟨[], σ.S.take S.length⟩ ∧ Low (σ.S.take S.length) ∧ Goes w G ⟨[], S⟩ w' Gf ⟨[], σ.S.take S.length⟩ ∧ (σ.S.take S.length).length = S.length ∧ Res w'.heap Gf S.length d0 (joinRes vl) := by
            intro d1 hds hok hd
            subst hds
            subst hd
            obtain ⟨v, src, e1, e2, e3, e4⟩ := f3 0 d0 rfl
            have hvl : vl = [v] := by
              match vl, f2, e1 with
              | [x], _, e1 => simp at e1; rw [e1]
            obtain ⟨Gf, Rf, res, k1, k2, k3⟩ := leave_one F'.rel F'.low hlen e2 e3 e4 hok
            refine ⟨Gf, Rf, F'.low.take _, way Gf ⟨by rw [k1]; exact RdLe.refl _, fun o b ho hb => by rw [k2 o ho]; exact hb⟩ k2 k3 (fun b hb => .inl (by rw [← k1]; exact hb)), hl', ?_⟩
            rw [hvl]; exact res
          have many : dsl.all (fun d => outTup S.length (frz d)) = true → d0 = .tup (dsl.map frz) → (∀ d1, dsl ≠ [d1]) → ∃ Gf, Rel w'.heap Gf #[] ⟨[], σ.S.take S.length⟩ ∧ Low (σ.S.take S.length) ∧ Goes w G ⟨[], S⟩ w' Gf ⟨[], σ.S.take S.length⟩ ∧ (σ.S.take S.length).length = S.length ∧ Res w'.heap Gf S.length d0 (joinRes vl) := by
            intro hall hd hne
            obtain ⟨Gf, Rf, clf, B, hfz, k2, k3, k4⟩ := leave_many F'.rel F'.low hlen
            refine ⟨Gf, Rf, F'.low.take _, way Gf B k2 k3 k4, hl', ?_⟩
            have hvl : joinRes vl = .tuple vl.toArray := by
              match vl, f2 with
              | [], _ => rfl
              | [x], f2 =>
                exfalso
                match dsl, f2, hne with
                | [d1], _, hne => exact hne d1 rfl
              | _ :: _ :: _, _ => rfl
            rw [hvl, hd]
            refine ⟨?_, .inr rfl, fun k j p hp => by rw [clf k j] at hp; cases hp⟩
            simp only [RD]
            refine ⟨vl.toArray, rfl, RDs.of_get _ _ _ _ (by simp [f2]) ?_⟩
            intro i d hdd
            rw [List.getElem?_map] at hdd
            cases hj : dsl[i]? with
            | none => rw [hj] at hdd; cases hdd
            | some d1 =>
              rw [hj] at hdd
              cases hdd
              obtain ⟨v, src, e1, e2, e3, e4⟩ := f3 i d1 hj
              exact ⟨v, by simpa using e1, RD.out B hfz e4 (List.all_eq_true.1 hall d1 (List.mem_of_getElem? hj)) e2 _⟩
          unfold outD at hod
          split at hod
          · rename_i d1
            cases hok : outOk S.length d1 with
            | false => rw [hok] at hod; cases hod
            | true =>
              rw [hok, cond_true, Option.some.injEq] at hod
              exact one d1 rfl hok hod.symm
          · rename_i hne
            cases hok : dsl.all (fun d => outTup S.length (frz d)) with
            | false => rw [hok] at hod; cases hod
            | true =>
              rw [hok, cond_true, Option.some.injEq] at hod
              exact many hok hod.symm (fun d1 h => hne d1 h)
    cases e with
    | exit id => cases he
    | normal =>
      cases h1
      exact key he
    | ret =>
      cases h1
      exact key he
end
end Go.Mx
