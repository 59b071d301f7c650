/- Running the machine by rewriting: the steps of a code, with branches kept as a tree. -/
import Derived.Test.YtiicnbdolakdgaaMxZf
set_option linter.unusedVariables false
set_option linter.unusedSimpArgs false
set_option linter.constructorNameAsVariable false
set_option linter.unnecessarySimpa false
namespace Go.Mx
open Go

section
variable (T : Nat → Ty) (C : Oracle) (L : Loops) (ν : Note)

def andThen (r : Option (Ex × St)) (k : St → Option (Ex × St)) : Option (Ex × St) := match r with
  | some (.normal, σ) => k σ
  | some (.exit i, σ) => some (.exit i, σ)
  | some (.ret, σ) => some (.ret, σ)
  | none => none
theorem andThen_normal (σ : St) (k) : andThen (some (.normal, σ)) k = k σ := rfl
theorem andThen_ret (σ : St) (k) : andThen (some (.ret, σ)) k = some (.ret, σ) := rfl
theorem andThen_exit (i : Nat) (σ : St) (k) : andThen (some (.exit i, σ)) k = some (.exit i, σ) := rfl
theorem andThen_none (k) : andThen none k = none := rfl
theorem andThen_bif (c : Bool) (a b) (k) : andThen (bif c then a else b) k = bif c then andThen a k else andThen b k := by cases c <;> rfl

def after (keep : List Nat) (r : Option St) : Option (Ex × St) := match r with
  | some σ => some (.normal, ⟨prune keep σ.env, σ.S⟩)
  | none => none
theorem after_some (keep : List Nat) (e : Env) (S : Store) : after keep (some ⟨e, S⟩) = some (.normal, ⟨prune keep e, S⟩) := rfl
theorem after_bif (keep : List Nat) (c : Bool) (a b : Option St) : after keep (bif c then a else b) = bif c then after keep a else after keep b := by cases c <;> rfl

def branch (d : D) (a b : Option (Ex × St)) : Option (Ex × St) := match d with
  | .v (.b x) => bif x then a else b
  | _ => none
theorem branch_b (x : Bool) (a b) : branch (.v (.b x)) a b = bif x then a else b := rfl

theorem evCode_skip (σ : St) : evCode T C L ν .skip σ = some (.normal, σ) := rfl
theorem evCode_region (id : Nat) (ops : Array Oper) (draw : Bool) (σ : St) : evCode T C L ν (.region id ops draw) σ = after (ν.keep id) (evRegion T C ν id ops.toList draw σ) := by
  simp only [evCode, after]
  cases evRegion T C ν id ops.toList draw σ <;> rfl
theorem evCode_seq (a b : Code) (σ : St) : evCode T C L ν (.seq a b) σ = andThen (evCode T C L ν a σ) (evCode T C L ν b) := by
  simp only [evCode, andThen]
  rcases evCode T C L ν a σ with _ | ⟨_ | _ | _, _⟩ <;> rfl
theorem evCode_cond (t : Nat) (a b : Code) (σ : St) : evCode T C L ν (.cond (.tmp t) a b) σ = branch (look σ.env t) (evCode T C L ν a σ) (evCode T C L ν b σ) := by
  simp only [evCode, branch]
  rcases look σ.env t with ⟨_ | _ | _ | _⟩ | _ | _ | _ | _ | _ | _ | _ | _ | _ | _ | _ | _ | _ <;> rfl
theorem evCode_loop (id : Nat) (c : Code) (σ : St) : evCode T C L ν (.block id (.loop c)) σ = L id σ := rfl
/-- A branch, of which only what is needed is run. -/
def branchC (d : D) (a b : Code) (σ : St) : Option (Ex × St) := match d with
  | .v (.b true) => evCode T C L ν a σ
  | .v (.b false) => evCode T C L ν b σ
  | _ => none
theorem branchC_t (a b : Code) (σ : St) : branchC T C L ν (.v (.b true)) a b σ = evCode T C L ν a σ := rfl
theorem branchC_f (a b : Code) (σ : St) : branchC T C L ν (.v (.b false)) a b σ = evCode T C L ν b σ := rfl
theorem branchC_b (x : Bool) (a b : Code) (σ : St) : branchC T C L ν (.v (.b x)) a b σ = bif x then evCode T C L ν a σ else evCode T C L ν b σ := by cases x <;> rfl
theorem evCode_condC (t : Nat) (a b : Code) (σ : St) : evCode T C L ν (.cond (.tmp t) a b) σ = branchC T C L ν (look σ.env t) a b σ := by
  simp only [evCode]
  rcases look σ.env t with ⟨(_ | _) | _ | _ | _⟩ | _ | _ | _ | _ | _ | _ | _ | _ | _ | _ | _ | _ | _ <;> rfl
theorem stepOp_m (ops : List Oper) (o : Oper) (σ : St) : stepOp T C ν ops o σ = match guardB ops σ.env o.guard with
  | none => none
  | some g => match isWork T ν o with
    | true => bif g then (match workOk T σ.env o with
        | true => workOp T C ν.ro ν.mv ν.give σ o.dst o.type o.op
        | false => none) else some { σ with env := putDst σ.env o.dst .undef }
    | false => match callFails C σ g o with
      | true => none
      | false => match gx g o.guard.isNone (pureOp T C σ g o.op) with
        | some d => some { σ with env := putDst σ.env o.dst (offReg σ.env o.dst d) }
        | none => bif g && isFuncCall o then workOp T C ν.ro ν.mv ν.give σ o.dst o.type o.op else none := by
  unfold stepOp
  cases guardB ops σ.env o.guard with
  | none => rfl
  | some g =>
    simp only
    cases isWork T ν o with
    | true => cases g <;> cases workOk T σ.env o <;> rfl
    | false => cases callFails C σ g o <;> rfl
theorem evRegion_f (id : Nat) (ops : List Oper) (σ : St) : evRegion T C ν id ops false σ = evOps T C ν ops ops σ := rfl
theorem evRegion_t (id : Nat) (ops : List Oper) (σ : St) : evRegion T C ν id ops true σ = match (ν.free id).isEmpty with
  | true => evOps T C ν ops ops σ
  | false => match evOpsK T C ν ops ops σ with
    | some (σ', ks) => match ks.all plainK with
      | true => some σ'
      | false => match freeOk ks (ν.free id) with
        | true => some σ'
        | false => none
    | none => none := by
  unfold evRegion
  cases (ν.free id).isEmpty with
  | true => rfl
  | false =>
    simp only [Bool.not_false, Bool.true_and, cond_true]
    cases evOpsK T C ν ops ops σ with
    | none => rfl
    | some p =>
      obtain ⟨σ', ks⟩ := p
      simp only
      cases ks.all plainK with
      | true => rfl
      | false => cases freeOk ks (ν.free id) <;> rfl
theorem kindOp_m (ops : List Oper) (o : Oper) (σ : St) : kindOp T C ν ops o σ = match guardB ops σ.env o.guard with
  | none => .wild
  | some g => match isWork T ν o with
    | true => bif g then kindW T σ o.op else .work none σ.S.length
    | false => match gx g o.guard.isNone (pureOp T C σ g o.op) with
      | some d => match ownsDst σ.env o.dst with
        | true => .wild
        | false => .still (o.op.operands.toList.all (calmOp σ.env)) (hasOwn d) (readsAt T σ g o.op) (immB d)
      | none => .wild := by
  unfold kindOp
  cases guardB ops σ.env o.guard with
  | none => rfl
  | some g =>
    simp only
    cases isWork T ν o with
    | true => rfl
    | false =>
      simp only [cond_false]
      cases gx g o.guard.isNone (pureOp T C σ g o.op) with
      | none => rfl
      | some d => simp only; cases ownsDst σ.env o.dst <;> rfl
theorem evCode_exit (id : Nat) (σ : St) : evCode T C L ν (.exit id) σ = some (.exit id, σ) := rfl
theorem evCode_ret (σ : St) : evCode T C L ν .ret σ = some (.ret, σ) := rfl
theorem evCode_block_seq (id : Nat) (a b : Code) (σ : St) : evCode T C L ν (.block id (.seq a b)) σ = unblock id (evCode T C L ν (.seq a b) σ) := rfl
theorem evCode_block_region (id i : Nat) (ops draw) (σ : St) : evCode T C L ν (.block id (.region i ops draw)) σ = unblock id (evCode T C L ν (.region i ops draw) σ) := rfl
theorem evCode_block_cond (id : Nat) (x a b) (σ : St) : evCode T C L ν (.block id (.cond x a b)) σ = unblock id (evCode T C L ν (.cond x a b) σ) := rfl
theorem evCode_block_block (id i : Nat) (c : Code) (σ : St) : evCode T C L ν (.block id (.block i c)) σ = unblock id (evCode T C L ν (.block i c) σ) := rfl
theorem evCode_block_skip (id : Nat) (σ : St) : evCode T C L ν (.block id .skip) σ = some (.normal, σ) := rfl
theorem unblock_normal (id : Nat) (σ : St) : unblock id (some (.normal, σ)) = some (.normal, σ) := rfl
theorem unblock_ret (id : Nat) (σ : St) : unblock id (some (.ret, σ)) = some (.ret, σ) := rfl
theorem unblock_exit (id i : Nat) (σ : St) : unblock id (some (.exit i, σ)) = bif i == id then some (.normal, σ) else some (.exit i, σ) := rfl
theorem unblock_none (id : Nat) : unblock id none = none := rfl
theorem unblock_bif (id : Nat) (c : Bool) (a b) : unblock id (bif c then a else b) = bif c then unblock id a else unblock id b := by cases c <;> rfl

/-- A function's end. -/
def finish (n : Nat) (res : List ResultVar) (r : Option (Ex × St)) : Option (D × Store) := match r with
  | some (.normal, σ) => giveBack T n res σ
  | some (.ret, σ) => giveBack T n res σ
  | _ => none
theorem evFn_finish (res : List ResultVar) (body : Code) (args : List D) (S : Store) : evFn T C L ν res body args S = finish T S.length res (evCode T C L ν body ⟨enter 0 args, S⟩) := by
  simp only [evFn, finish]
  rcases evCode T C L ν body ⟨enter 0 args, S⟩ with _ | ⟨_ | _ | _, _⟩ <;> rfl
theorem finish_ret (n : Nat) (res) (σ : St) : finish T n res (some (.ret, σ)) = giveBack T n res σ := rfl
theorem finish_normal (n : Nat) (res) (σ : St) : finish T n res (some (.normal, σ)) = giveBack T n res σ := rfl
theorem finish_bif (n : Nat) (res) (c : Bool) (a b) : finish T n res (bif c then a else b) = bif c then finish T n res a else finish T n res b := by cases c <;> rfl

/-- A loop's end of a round. -/
def again (n id : Nat) (L : Loops) (r : Option (Ex × St)) : Option (Ex × St) := match r with
  | some (.normal, σ) => match trunc n σ with
    | some σ' => L id σ'
    | none => none
  | r => unblock id r
theorem evLoop_again (id : Nat) (c : Code) (σ : St) : evLoop T C L ν id c σ = again σ.S.length id L (evCode T C L ν c σ) := by
  unfold evLoop again
  rcases evCode T C L ν c σ with _ | ⟨_ | _ | _, _⟩ <;> rfl
theorem again_normal (n id : Nat) (σ : St) (h : (σ.S.length == n) = true) : again n id L (some (.normal, σ)) = L id σ := by
  simp only [again, trunc, h, cond_true]
theorem again_ret (n id : Nat) (σ : St) : again n id L (some (.ret, σ)) = some (.ret, σ) := rfl
theorem again_exit (n id i : Nat) (σ : St) : again n id L (some (.exit i, σ)) = bif i == id then some (.normal, σ) else some (.exit i, σ) := rfl
theorem again_bif (n id : Nat) (c : Bool) (a b) : again n id L (bif c then a else b) = bif c then again n id L a else again n id L b := by cases c <;> rfl

theorem evL_step {C : Oracle} {body c : Code} {id : Nat} (h : findLoop id body = some c) (n : Nat) (σ : St) : evL T C ν body (n + 1) id σ = again σ.S.length id (evL T C ν body n) (evCode T C (evL T C ν body n) ν c σ) := by
  rw [evL, h]
  exact evLoop_again T C _ ν id c σ
end

theorem cond_nest_t {α : Type} (c : Bool) (a b d : α) : (bif c then (bif c then a else b) else d) = bif c then a else d := by cases c <;> rfl
theorem cond_nest_f {α : Type} (c : Bool) (a b d : α) : (bif c then a else (bif c then b else d)) = bif c then a else d := by cases c <;> rfl
theorem cond_same {α : Type} (c : Bool) (a : α) : (bif c then a else a) = a := by cases c <;> rfl
theorem setReg_m (env : Env) (t : Nat) (d : D) : setReg env t d = put (match hasOwn (look env t) with | true => kill (inReg t) env | false => env) t d := by
  unfold setReg; cases hasOwn (look env t) <;> rfl
theorem spend_m (env : Env) (x : Operand) : spend env x = match x with
  | .tmp u => (match hasOwn (look env u) with | true => put (kill (inReg u) env) u .bad | false => env)
  | _ => env := by
  unfold spend
  cases x with
  | tmp u => simp only; cases hasOwn (look env u) <;> rfl
  | _ => rfl
theorem frzReg_m (env : Env) (x : Operand) : frzReg env x = match x with
  | .tmp u => (match hasOwn (look env u) with | true => put (kill (inReg u) env) u (frz (look env u)) | false => env)
  | _ => env := by
  unfold frzReg
  cases x with
  | tmp u => simp only; cases hasOwn (look env u) <;> rfl
  | _ => rfl
theorem offReg_m (env : Env) (dst : Option Nat) (d : D) : offReg env dst d = match dst with
  | some t => (match hasOwn (look env t) with | true => killB (inReg t) d | false => d)
  | none => d := by
  unfold offReg
  cases dst with
  | some t => simp only; cases hasOwn (look env t) <;> rfl
  | none => rfl
theorem gx_m (g plain : Bool) (r : Option D) : gx g plain r = match r with
  | some d => (match plain with | true => some d | false => (match ownFree d with | true => some (.mb g d) | false => bif g then some d else some .undef))
  | none => bif g then none else some .undef := by
  unfold gx
  cases r with
  | none => rfl
  | some d => simp only; cases plain <;> cases ownFree d <;> rfl

/-- The body of a function. -/
noncomputable def bodyOf (f : Func) : Code := f.body.getD .skip
end Go.Mx
