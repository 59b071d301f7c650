/- Two states that agree off some registers: the machine's steps do the same in both. -/
import Derived.Test.YtiicnbdolakdgaaMxY
set_option linter.unusedVariables false
set_option linter.unusedSimpArgs false
set_option linter.constructorNameAsVariable false
set_option linter.unnecessarySimpa false
namespace Go.Mx
open Go

def EA (X : Nat → Prop) (e e' : Env) : Prop := ∀ u, ¬ X u → look e' u = look e u
structure Ag (X : Nat → Prop) (σ σ' : St) : Prop where
  S : σ'.S = σ.S
  env : EA X σ.env σ'.env
def offO (X : Nat → Prop) : Operand → Prop
  | .tmp u => ¬ X u
  | _ => True
def offD (X : Nat → Prop) : Option Nat → Prop
  | some t => ¬ X t
  | none => True

section
variable {X : Nat → Prop} {e e' : Env} {σ σ' : St}

theorem EA.put (h : EA X e e') (t : Nat) (d : D) : EA X (Mx.put e t d) (Mx.put e' t d) := by
  intro u hu
  rw [look_put, look_put]
  split
  · rfl
  · exact h u hu
theorem EA.kill (h : EA X e e') (p : Loc → Bool) : EA X (Mx.kill p e) (Mx.kill p e') := by
  intro u hu
  rw [look_kill, look_kill, h u hu]
theorem EA.map (h : EA X e e') (f : D → D) (hf : f .bad = .bad) : EA X (e.map fun x => (x.1, f x.2)) (e'.map fun x => (x.1, f x.2)) := by
  intro u hu
  rw [look_map f hf, look_map f hf, h u hu]
theorem EA.setReg (h : EA X e e') {t : Nat} (ht : ¬ X t) (d : D) : EA X (Mx.setReg e t d) (Mx.setReg e' t d) := by
  unfold Mx.setReg
  rw [h t ht]
  cases hasOwn (look e t)
  · exact h.put t d
  · exact (h.kill _).put t d
theorem EA.spend (h : EA X e e') {x : Operand} (hx : offO X x) : EA X (Mx.spend e x) (Mx.spend e' x) := by
  unfold Mx.spend
  cases x with
  | tmp u =>
    simp only
    rw [h u hx]
    cases hasOwn (look e u)
    · exact h
    · exact (h.kill _).put u .bad
  | _ => exact h
theorem EA.frzReg (h : EA X e e') {x : Operand} (hx : offO X x) : EA X (Mx.frzReg e x) (Mx.frzReg e' x) := by
  unfold Mx.frzReg
  cases x with
  | tmp u =>
    simp only
    rw [h u hx]
    cases hasOwn (look e u)
    · exact h
    · exact (h.kill _).put u _
  | _ => exact h
theorem EA.putDst (h : EA X e e') {dst : Option Nat} (hd : offD X dst) (d : D) : EA X (Mx.putDst e dst d) (Mx.putDst e' dst d) := by
  unfold Mx.putDst
  cases dst with
  | none => exact h
  | some t => exact h.setReg hd d
theorem EA.opnd (h : EA X e e') {x : Operand} (hx : offO X x) : Mx.opnd e' x = Mx.opnd e x := by
  cases x with
  | tmp u => exact h u hx
  | _ => rfl
theorem EA.offReg (h : EA X e e') {dst : Option Nat} (hd : offD X dst) (d : D) : Mx.offReg e' dst d = Mx.offReg e dst d := by
  unfold Mx.offReg
  cases dst with
  | none => rfl
  | some t => simp only; rw [h t hd]
theorem EA.forceAll (h : EA X e e') (g : Bool) : ∀ {xs : List Operand}, (∀ x ∈ xs, offO X x) → Mx.forceAll g e' xs = Mx.forceAll g e xs
  | [], _ => rfl
  | x :: xs, hx => by
    simp only [Mx.forceAll, h.opnd (hx x List.mem_cons_self), EA.forceAll h g (fun y hy => hx y (List.mem_cons_of_mem _ hy))]
theorem EA.bound (h : EA X e e') (g : Bool) {x : Option Operand} (hx : ∀ y, x = some y → offO X y) (d : Int) : Mx.bound g e' x d = Mx.bound g e x d := by
  unfold Mx.bound
  cases x with
  | none => rfl
  | some y => simp only [h.opnd (hx y rfl)]

/-- Both fail, or both come to the same and agree behind. -/
def RO {α : Type} (X : Nat → Prop) : Option (α × Env) → Option (α × Env) → Prop
  | some (a, e), some (b, e') => b = a ∧ EA X e e'
  | none, none => True
  | _, _ => False
theorem EA.takeParts : ∀ {ps : List (Nat × Operand)} {e e' : Env}, EA X e e' → (∀ x ∈ ps, offO X x.2) → RO X (Mx.takeParts e ps) (Mx.takeParts e' ps)
  | [], e, e', h, _ => ⟨rfl, h⟩
  | (i, x) :: r, e, e', h, hx => by
    have hx0 := hx (i, x) List.mem_cons_self
    have ih := EA.takeParts (ps := r) (h.spend hx0) (fun y hy => hx y (List.mem_cons_of_mem _ hy))
    simp only [Mx.takeParts, h.opnd hx0]
    cases force true (Mx.opnd e x) with
    | none => trivial
    | some d =>
      simp only
      cases valOk d with
      | false => trivial
      | true =>
        simp only [cond_true]
        revert ih
        rcases Mx.takeParts (Mx.spend e x) r with _ | ⟨ds, e1⟩ <;> rcases Mx.takeParts (Mx.spend e' x) r with _ | ⟨ds', e1'⟩ <;> intro ih <;> simp only [RO] at *
        exact ⟨by rw [ih.1], ih.2⟩

def ROs (X : Nat → Prop) : Option St → Option St → Prop
  | some σ, some σ' => Ag X σ σ'
  | none, none => True
  | _, _ => False
def ROd {α : Type} (X : Nat → Prop) : Option (α × St) → Option (α × St) → Prop
  | some (a, σ), some (b, σ') => b = a ∧ Ag X σ σ'
  | none, none => True
  | _, _ => False

theorem Ag.all (h : Ag X σ σ') (hX : ∀ u, ¬ X u) (t : Nat) : look σ'.env t = look σ.env t := h.env t (hX t)
theorem Ag.ownAt (h : Ag X σ σ') (hX : ∀ u, ¬ X u) (l : Loc) : Mx.ownAt σ' l = Mx.ownAt σ l := by
  unfold Mx.ownAt
  cases l with
  | reg t j => simp only [h.all hX t]
  | cell o off => simp only [h.S]
  | _ => rfl
theorem Ag.spendOk (h : Ag X σ σ') (hX : ∀ u, ¬ X u) (l : Loc) : Mx.spendOk σ' l = Mx.spendOk σ l := by
  unfold Mx.spendOk
  cases l with
  | reg t j => simp only [h.all hX t]
  | _ => rfl
theorem Ag.spendLoc (h : Ag X σ σ') (l : Loc) : Ag X (Mx.spendLoc σ l) (Mx.spendLoc σ' l) := by
  unfold Mx.spendLoc
  cases l with
  | reg t j => exact ⟨h.S, (h.env.kill _).put t .bad⟩
  | cell o off =>
    simp only [h.S]
    cases σ.S[o]? with
    | none => exact h
    | some cs => exact ⟨rfl, h.env.kill _⟩
  | _ => exact h
theorem dropAl_bad (src : Loc) : dropAl src .bad = .bad := by simp only [dropAl]
theorem Ag.setOwn (h : Ag X σ σ') (src : Loc) (sz : Nat) (l : List (List V)) : Ag X (Mx.setOwn σ src sz l) (Mx.setOwn σ' src sz l) := by
  unfold Mx.setOwn
  cases src with
  | reg t j => exact ⟨h.S, (h.env.map _ (dropAl_bad _)).put t _⟩
  | cell o off => exact ⟨by simp only [h.S], h.env.map _ (dropAl_bad _)⟩
  | _ => exact h
theorem Ag.withEnv {e e' : Env} (h : Ag X σ σ') (he : EA X e e') : Ag X { σ with env := e } { σ' with env := e' } := ⟨h.S, he⟩
theorem Ag.argE (h : Ag X σ σ') (hX : ∀ u, ¬ X u) (give : Nat → Bool) (x : Operand) : ROd X (Mx.argE give σ x) (Mx.argE give σ' x) := by
  have hx : offO X x := by cases x <;> simp [offO, hX]
  unfold Mx.argE
  simp only [h.env.opnd hx, h.spendOk hX]
  cases force true (opnd σ.env x) with
  | none => trivial
  | some d =>
    simp only
    cases isGive give x with
    | true =>
      simp only [cond_true]
      split
      · cases Mx.spendOk σ _ with
        | false => trivial
        | true => exact ⟨rfl, h.spendLoc _⟩
      · cases valOk d with
        | false => trivial
        | true => exact ⟨rfl, h.withEnv (h.env.spend hx)⟩
    | false =>
      simp only [cond_false]
      cases valOk d with
      | false => trivial
      | true => exact ⟨rfl, h.withEnv (h.env.frzReg hx)⟩
theorem Ag.argsE (hX : ∀ u, ¬ X u) (give : Nat → Bool) : ∀ {xs : List Operand} {σ σ' : St}, Ag X σ σ' → ROd X (Mx.argsE give σ xs) (Mx.argsE give σ' xs)
  | [], σ, σ', h => ⟨rfl, h⟩
  | x :: xs, σ, σ', h => by
    have h1 := h.argE hX give x
    simp only [Mx.argsE]
    revert h1
    rcases Mx.argE give σ x with _ | ⟨d, s⟩ <;> rcases Mx.argE give σ' x with _ | ⟨d', s'⟩ <;> intro h1 <;> simp only [ROd] at h1
    · trivial
    · obtain ⟨rfl, h1⟩ := h1
      have ih := Ag.argsE hX give (xs := xs) h1
      simp only
      revert ih
      rcases Mx.argsE give s xs with _ | ⟨ds, s2⟩ <;> rcases Mx.argsE give s' xs with _ | ⟨ds', s2'⟩ <;> intro ih <;> simp only [ROd] at *
      exact ⟨by rw [ih.1], ih.2⟩
end
end Go.Mx
