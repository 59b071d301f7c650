/- The same: operations. -/
import Derived.Test.YtiicnbdolakdgaaMxDa
set_option linter.unusedVariables false
set_option linter.unusedSimpArgs false
set_option linter.constructorNameAsVariable false
set_option linter.unnecessarySimpa false
namespace Go.Mx
open Go

section
variable {X : Nat → Prop} {T : Nat → Ty} {C : Oracle} {σ σ' : St}

def offOp (X : Nat → Prop) (op : Op) : Prop := ∀ x ∈ op.operands.toList, offO X x

theorem loadAt_ag {ty : Ty} (hS : σ'.S = σ.S) (hp : ∀ l, ownAt σ' l = ownAt σ l) (d : D) : loadAt ty σ' d = loadAt ty σ d := by
  unfold loadAt
  cases d <;> simp only [hS, hp]

theorem pureOp_ea (he : EA X σ.env σ'.env) {op : Op} (ho : offOp X op) (g : Bool) (hl : ∀ t a d, op = .load t a → force g (opnd σ.env a) = some d → loadAt (T t) σ' d = loadAt (T t) σ d) : pureOp T C σ' g op = pureOp T C σ g op := by
  unfold offOp at ho
  cases op <;> try rfl
  case move x =>
    have e1 := he.opnd (ho x (by simp [Op.operands]))
    simp only [pureOp, e1]
  case nilCheck x =>
    have e1 := he.opnd (ho x (by simp [Op.operands]))
    simp only [pureOp, e1]
  case pick c a b =>
    have e1 := he.opnd (ho c (by simp [Op.operands]))
    have e2 := he.opnd (ho a (by simp [Op.operands]))
    have e3 := he.opnd (ho b (by simp [Op.operands]))
    simp only [pureOp, e1, e2, e3]
  case binOp op t a b u =>
    have e1 := he.opnd (ho a (by simp [Op.operands]))
    have e2 := he.opnd (ho b (by simp [Op.operands]))
    simp only [pureOp, e1, e2]
  case unOp op t x =>
    have e1 := he.opnd (ho x (by simp [Op.operands]))
    cases op <;> simp only [pureOp, e1]
  case convert s d x =>
    have e1 := he.opnd (ho x (by simp [Op.operands]))
    simp only [pureOp, e1]
  case fieldAddr t x f =>
    have e1 := he.opnd (ho x (by simp [Op.operands]))
    simp only [pureOp, e1]
  case field t x f =>
    have e1 := he.opnd (ho x (by simp [Op.operands]))
    simp only [pureOp, e1]
  case load t x =>
    have e1 := he.opnd (ho x (by simp [Op.operands]))
    simp only [pureOp, e1]
    cases hf : force g (opnd σ.env x) with
    | none => rfl
    | some d => simp only [hl t x d rfl hf]
  case indexAddr t a b =>
    have e1 := he.opnd (ho a (by simp [Op.operands]))
    have e2 := he.opnd (ho b (by simp [Op.operands]))
    simp only [pureOp, e1, e2]
  case index t a b =>
    have e1 := he.opnd (ho a (by simp [Op.operands]))
    have e2 := he.opnd (ho b (by simp [Op.operands]))
    simp only [pureOp, e1, e2]
  case extract t i =>
    have e1 := he.opnd (ho t (by simp [Op.operands]))
    simp only [pureOp, e1]
  case makeFunc f first caps =>
    have e1 := he.forceAll g (xs := caps.toList) (fun x hx => ho x (by simp [Op.operands, Array.mem_toList_iff.1 hx]))
    cases f <;> simp only [pureOp, e1]
  case slice t x lo hi mx =>
    have e1 := he.opnd (ho x (by simp [Op.operands]))
    have e2 := he.bound g (x := lo) (fun y hy => ho y (by simp [Op.operands, hy])) 0
    have e3 : ∀ n, bound g σ'.env hi n = bound g σ.env hi n := fun n => he.bound g (x := hi) (fun y hy => ho y (by simp [Op.operands, hy])) n
    have e4 : ∀ m, mx = some m → bound g σ'.env (some m) 0 = bound g σ.env (some m) 0 := fun m hm => he.bound g (x := some m) (fun y hy => ho y (by simp only [Option.some.injEq] at hy; subst hy; simp [Op.operands, hm])) 0
    cases mx with
    | none => simp only [pureOp, e1, e2, e3]
    | some m => simp only [pureOp, e1, e2, e3, e4 m rfl]
  case call c =>
    have e1 := he.forceAll g (xs := c.args.toList) (fun x hx => ho x (by simp only [Op.operands, Call.operands, Array.toList_append, List.mem_append]; exact .inr hx))
    have e2 : ∀ x ∈ c.args.toList, opnd σ'.env x = opnd σ.env x := fun x hx => he.opnd (ho x (by simp only [Op.operands, Call.operands, Array.toList_append, List.mem_append]; exact .inr hx))
    simp only [pureOp, e1]
    split
    · split
      · rename_i x t hx ht
        rw [e2 x (by rw [hx]; simp)]
      · rfl
    · split
      · rename_i x y hx
        rw [e2 x (by rw [hx]; simp), e2 y (by rw [hx]; simp)]
      · rfl
    · split
      · rename_i x y hx
        rw [e2 x (by rw [hx]; simp), e2 y (by rw [hx]; simp)]
      · rfl
    · rfl
    · rfl

theorem pureOp_ag (h : Ag X σ σ') {op : Op} (ho : offOp X op) (hp : ∀ l, ownAt σ' l = ownAt σ l) (g : Bool) : pureOp T C σ' g op = pureOp T C σ g op :=
  pureOp_ea h.env ho g (fun t a d _ _ => loadAt_ag h.S hp d)
theorem callFails_ag (h : EA X σ.env σ'.env) {o : Oper} (ho : offOp X o.op) (g : Bool) : callFails C σ' g o = callFails C σ g o := by
  unfold callFails
  split
  · rename_i c hc
    rw [hc] at ho
    have e1 := h.forceAll g (xs := c.args.toList) (fun x hx => ho x (by simp only [Op.operands, Call.operands, Array.toList_append, List.mem_append]; exact .inr hx))
    simp only [e1]
  · rfl

theorem yieldedD_ag {e e' : Env} (h : EA X e e') {ops : List Oper} {j : Nat} (hj : ∀ o t, ops[j]? = some o → o.dst = some t → ¬ X t) : yieldedD ops e' j = yieldedD ops e j := by
  unfold yieldedD
  cases ho : ops[j]? with
  | none => rfl
  | some o =>
    simp only
    cases ht : o.dst with
    | none => rfl
    | some t => simp only [h t (hj o t ho ht)]
theorem guardB_ag {e e' : Env} (h : EA X e e') {ops : List Oper} {gd : Option (Nat × Bool)} (hj : ∀ j b o t, gd = some (j, b) → ops[j]? = some o → o.dst = some t → ¬ X t) : guardB ops e' gd = guardB ops e gd := by
  unfold guardB
  cases gd with
  | none => rfl
  | some p =>
    obtain ⟨j, b⟩ := p
    simp only [yieldedD_ag h (fun o t ho ht => hj j b o t rfl ho ht)]

theorem workOk_ag {e e' : Env} (h : EA X e e') {o : Oper} (ho : offOp X o.op) : workOk T e' o = workOk T e o := by
  unfold workOk
  split
  · rfl
  · rename_i t n m hop
    rw [hop] at ho
    have e1 := h.opnd (ho n (by simp [Op.operands]))
    have e2 := h.opnd (ho m (by simp [Op.operands]))
    simp only [e1, e2]
  · rfl
  · rfl

theorem ROs.cond {a a' b b' : Option St} (c : Bool) (h1 : ROs X a a') (h2 : ROs X b b') : ROs X (bif c then a else b) (bif c then a' else b') := by
  cases c
  · exact h2
  · exact h1
theorem ROs.none : ROs X none none := trivial

theorem workOp_ag {ro mv give : Nat → Bool} (h : Ag X σ σ') {dst : Option Nat} {ot : Nat} {op : Op} (ho : offOp X op) (hd : offD X dst) (hX : (∀ u, ¬ X u) ∨ plainWork op = true ∨ ∃ t a x, op = .store t a x ∧ ∀ src sz i off, force true (opnd σ.env a) ≠ some (.ep src sz i off)) :
    ROs X (workOp T C ro mv give σ dst ot op) (workOp T C ro mv give σ' dst ot op) := by
  unfold offOp at ho
  cases op <;> try (simp only [workOp, ROs]; done)
  case assign x =>
    have hx : offO X x := ho x (by simp [Op.operands])
    have e1 := h.env.opnd hx
    have e2 := fun d => h.env.offReg hd d
    simp only [workOp, e1, h.S]
    repeat' first | exact ROs.none | apply ROs.cond | split
    all_goals first
      | (subst_vars; exact ⟨rfl, (h.env.spend hx).setReg hd _⟩)
      | (subst_vars; refine ⟨rfl, ?_⟩; simp only [e2]; exact h.env.setReg hd _)
  case box t x =>
    have hx : offO X x := ho x (by simp [Op.operands])
    have e1 := h.env.opnd hx
    simp only [workOp, e1, h.S]
    repeat' first | exact ROs.none | apply ROs.cond | split
    all_goals (subst_vars; exact ⟨rfl, (h.env.spend hx).setReg hd _⟩)
  case alloc t =>
    simp only [workOp, h.S]
    repeat' first | exact ROs.none | apply ROs.cond | split
    all_goals (subst_vars; exact ⟨rfl, h.env.setReg hd _⟩)
  case build t parts =>
    have hp := h.env.takeParts (ps := parts.toList) (fun x hx => ho x.2 (by simp only [Op.operands, List.mem_map]; exact ⟨x, hx, rfl⟩))
    simp only [workOp, h.S]
    revert hp
    rcases takeParts σ.env parts.toList with _ | ⟨ds, e1⟩ <;> rcases takeParts σ'.env parts.toList with _ | ⟨ds', e1'⟩ <;> intro hp <;> simp only [RO] at hp
    · exact ROs.none
    · obtain ⟨rfl, hp⟩ := hp
      cases dst with
      | none => exact ROs.none
      | some u =>
        simp only
        repeat' first | exact ROs.none | apply ROs.cond | split
        all_goals exact ⟨rfl, hp.setReg hd _⟩
  case buildSlice t n parts =>
    have hp := h.env.takeParts (ps := parts.toList) (fun x hx => ho x.2 (by simp only [Op.operands, List.mem_map]; exact ⟨x, hx, rfl⟩))
    simp only [workOp, h.S]
    revert hp
    rcases takeParts σ.env parts.toList with _ | ⟨ds, e1⟩ <;> rcases takeParts σ'.env parts.toList with _ | ⟨ds', e1'⟩ <;> intro hp <;> simp only [RO] at hp
    · exact ROs.none
    · obtain ⟨rfl, hp⟩ := hp
      cases dst with
      | none => exact ROs.none
      | some u =>
        simp only
        repeat' first | exact ROs.none | apply ROs.cond | split
        all_goals exact ⟨rfl, hp.setReg hd _⟩
  case makeSlice t n m =>
    have e1 := h.env.opnd (ho n (by simp [Op.operands]))
    simp only [workOp, e1, h.S]
    repeat' first | exact ROs.none | apply ROs.cond | split
    all_goals (subst_vars; exact ⟨rfl, h.env.setReg hd _⟩)
  case convert s t x =>
    have e1 := h.env.opnd (ho x (by simp [Op.operands]))
    simp only [workOp, e1, h.S]
    repeat' first | exact ROs.none | apply ROs.cond | split
    all_goals (subst_vars; exact ⟨rfl, h.env.setReg hd _⟩)
  case store t a x =>
    have hx : offO X x := ho x (by simp [Op.operands])
    have e1 := h.env.opnd (ho a (by simp [Op.operands]))
    have e2 := h.env.opnd hx
    have hag : Ag X { env := spend σ.env x, S := σ.S } { env := spend σ'.env x, S := σ.S } := ⟨rfl, h.env.spend hx⟩
    have e3 : (∀ u, ¬ X u) → ∀ l, ownAt { env := spend σ'.env x, S := σ.S } l = ownAt { env := spend σ.env x, S := σ.S } l := fun hX l => hag.ownAt hX l
    simp only [workOp, e1, e2, h.S]
    split
    · repeat' first | exact ROs.none | apply ROs.cond | split
      refine ⟨rfl, ?_⟩
      simp only
      cases ((List.drop _ _).take _).any isOwn with
      | true => exact (h.env.spend hx).kill _
      | false => exact h.env.spend hx
    · rename_i src sz i off d ha hd'
      rcases hX with hX | hX | ⟨t', a', x', hop, hno⟩
      · simp only [e3 hX]
        repeat' first | exact ROs.none | apply ROs.cond | split
        exact hag.setOwn _ _ _
      · simp [plainWork] at hX
      · simp only [Op.store.injEq] at hop
        obtain ⟨rfl, rfl, rfl⟩ := hop
        exact absurd ha (hno _ _ _ _)
    · exact ROs.none
  case load t a =>
    rcases hX with hX | hX | ⟨t', a', x', hop, _⟩
    · have e1 := h.env.opnd (ho a (by simp [Op.operands]))
      simp only [workOp, e1, h.S]
      repeat' first | exact ROs.none | apply ROs.cond | split
      all_goals (subst_vars; exact ⟨rfl, (h.env.kill _).setReg hd _⟩)
    · simp [plainWork] at hX
    · simp at hop
  case call c =>
    rcases hX with hX | hX | ⟨t', a', x', hop, _⟩
    · have hX' : ∀ x, offO X x := fun x => by cases x <;> simp [offO, hX]
      have e0 : ∀ x, opnd σ'.env x = opnd σ.env x := fun x => h.env.opnd (hX' x)
      have e2 := h.argsE hX give (xs := c.args.toList)
      have e3 : ∀ l, Mx.spendOk σ' l = Mx.spendOk σ l := h.spendOk hX
      have e4 : ∀ t, look σ'.env t = look σ.env t := h.all hX
      simp only [workOp, e0, e3, e4]
      split
      · repeat' first | exact ROs.none | apply ROs.cond | split
        all_goals first
          | (subst_vars; exact ⟨h.S, (h.env.spend (hX' _)).setReg hd _⟩)
          | (subst_vars; exact ⟨(h.spendLoc _).S, (h.spendLoc _).env.setReg hd _⟩)
          | (subst_vars; exact ⟨h.S, h.env.setReg hd _⟩)
      · revert e2
        rcases argsE give σ c.args.toList with _ | ⟨ds, s⟩ <;> rcases argsE give σ' c.args.toList with _ | ⟨ds', s'⟩ <;> intro e2 <;> simp only [ROd] at e2
        · exact ROs.none
        · obtain ⟨rfl, e2⟩ := e2
          simp only [e2.S]
          repeat' first | exact ROs.none | apply ROs.cond | split
          rw [(e2.env.kill isCell).offReg hd]
          exact ⟨rfl, (e2.env.kill _).putDst hd _⟩
      · revert e2
        rcases argsE give σ c.args.toList with _ | ⟨ds, s⟩ <;> rcases argsE give σ' c.args.toList with _ | ⟨ds', s'⟩ <;> intro e2 <;> simp only [ROd] at e2
        · repeat' first | exact ROs.none | apply ROs.cond | split
          all_goals (exfalso; simp_all; done)
        · obtain ⟨rfl, e2⟩ := e2
          rename_i x _
          rcases force true (look σ.env x) with _ | d
          · exact ROs.none
          · cases d <;> try exact ROs.none
            simp only [e2.S]
            repeat' first | exact ROs.none | apply ROs.cond | split
            rw [(e2.env.kill isCell).offReg hd]
            exact ⟨rfl, (e2.env.kill _).putDst hd _⟩
      · exact ROs.none
    · simp [plainWork] at hX
    · simp at hop
end
end Go.Mx
