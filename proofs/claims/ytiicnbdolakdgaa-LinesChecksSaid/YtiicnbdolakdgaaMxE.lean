/- The operations that change nothing but their own register: each yields what the machine says. -/
import Derived.Test.YtiicnbdolakdgaaMxEq
set_option linter.unusedVariables false
set_option linter.unusedSimpArgs false
set_option linter.constructorNameAsVariable false
set_option linter.unnecessarySimpa false
namespace Go.Mx
open Go

section
variable {P : Program} {h : Array Obj} {G : Gh} {tmps : Array Value} {σ : St}

theorem RD.ofCell (loc : Nat → Loc) (v : Value) : RD h G loc (ofCell v) v := by
  unfold Mx.ofCell
  split <;> simp only [RD, RV]
  exact .inl ⟨rfl, rfl⟩
theorem RDs.ofCells (loc : Nat → Loc) : ∀ (j : Nat) (vs : List Value), RDs h G loc j (vs.map Mx.ofCell) vs
  | _, [] => by simp only [List.map_nil, RDs]
  | j, v :: vs => by simp only [List.map_cons, RDs]; exact ⟨RD.ofCell _ v, RDs.ofCells loc (j + 1) vs⟩
theorem RD.ofConst (loc : Nat → Loc) (v : Value) : RD h G loc (ofConst v) v := by
  unfold Mx.ofConst
  split
  · rename_i cs
    simp only [RD]
    exact ⟨cs, rfl, RDs.ofCells loc 0 _⟩
  · exact RD.ofCell loc v

/-- Where an operand's value lies. -/
def opLoc : Operand → Nat → Loc
  | .tmp t => Loc.reg t
  | _ => Loc.reg 0

theorem Rel.opnd (R : Rel h G tmps σ) (ds : List Deferred) (x : Operand) : RD h G (opLoc x) (opnd σ.env x) ((⟨tmps, ds⟩ : Act).eval x) := by
  cases x with
  | tmp t => exact R.env t
  | const v => exact RD.ofConst _ v
  | global g => simp only [Mx.opnd, RD]
  | func f =>
    simp only [Mx.opnd, RD, Act.eval]
    exact ⟨#[], rfl, by simp only [RDs]⟩

/-- What is neither a mark nor unknown. -/
def known : D → Bool
  | .mb .. | .undef | .bad => false
  | _ => true

theorem solid_eq {d d' : D} (hf : solid d = some d') : d' = d ∧ known d = true := by
  cases d <;> simp [solid] at hf <;> exact ⟨hf.symm, rfl⟩
theorem force_ok {loc : Nat → Loc} {d d' : D} {v : Value} (hf : force true d = some d') (hr : RD h G loc d v) : RD h G loc d' v ∧ known d' = true := by
  cases d with
  | mb g d =>
    simp only [force] at hf
    cases g with
    | false => simp at hf
    | true =>
      simp only [Bool.or_true, cond_true] at hf
      cases hof : ownFree d with
      | false => simp [hof] at hf
      | true =>
        simp only [hof, cond_true] at hf
        obtain ⟨rfl, hk⟩ := solid_eq hf
        simp only [RD] at hr
        exact ⟨by simpa using hr.1, hk⟩
  | _ =>
    simp only [force] at hf
    obtain ⟨rfl, hk⟩ := solid_eq hf
    exact ⟨hr, hk⟩

theorem force_own {d d' : D} (hf : force true d = some d') : (d = d' ∧ known d = true) ∨ (ownFree d' = true ∧ ∃ g, d = .mb g d') := by
  cases d with
  | mb g d =>
    right
    cases g <;> cases hof : ownFree d <;> simp only [hof, force, Bool.or_true, Bool.or_self, Bool.not_true, cond_true, cond_false] at hf
    · cases hf
    · cases hf
    · cases hf
    · obtain ⟨rfl, hk⟩ := solid_eq hf; exact ⟨hof, true, rfl⟩
  | _ => left; simp only [force] at hf; obtain ⟨rfl, hk⟩ := solid_eq hf; exact ⟨rfl, hk⟩

theorem Rel.opndF (R : Rel h G tmps σ) (ds : List Deferred) {x : Operand} {d : D} (hf : force true (Mx.opnd σ.env x) = some d) : RD h G (opLoc x) d ((⟨tmps, ds⟩ : Act).eval x) :=
  (force_ok hf (R.opnd ds x)).1
theorem force_known {d d' : D} (hf : force true d = some d') : known d' = true := by
  cases d with
  | mb g d =>
    cases g <;> cases hof : ownFree d <;> simp only [hof, force, Bool.or_true, Bool.or_self, Bool.not_true, cond_true, cond_false] at hf
    · cases hf
    · cases hf
    · cases hf
    · obtain ⟨rfl, hk⟩ := solid_eq hf; exact hk
  | _ => simp only [force] at hf; obtain ⟨rfl, hk⟩ := solid_eq hf; exact hk

/-- A scalar as a value. -/
def scal : V → Value
  | .b x => .bool x
  | .i k n => .int k n
  | .s x => .string x
  | .sl .. => undef
theorem RV.scal {rd : Rd} {x : V} {v : Value} (hx : noSlV x = true) (h : RV rd x v) : v = scal x := by
  cases x <;> simp_all [RV, Mx.scal, noSlV]
theorem RV.ofScal {rd : Rd} {x : V} (hx : noSlV x = true) : RV rd x (Mx.scal x) := by
  cases x <;> simp_all [RV, Mx.scal, noSlV]

theorem binV_ok {op : BinOp} {x y z : V} {vx vy : Value} (t : TypeId) (w : World) (hx : RV G.rd x vx) (hy : RV G.rd y vy) (hb : binV op x y = some z) :
    (Go.binOp op t vx vy).run P w = .ok (scal z) w ∧ noSlV z = true ∧ noSlV x = true := by
  cases x <;> cases y <;> simp only [binV] at hb <;> try (simp at hb; done)
  case i.i k a k' b =>
    simp only [RV] at hx hy
    subst hx; subst hy
    by_cases hk : k = k'
    · subst hk
      simp only [if_true] at hb
      cases op <;> simp only at hb <;> first | (simp at hb; done) | (cases hb; exact ⟨by simp [Go.binOp, Op.intArith, Op.intCmp, scal], rfl, rfl⟩)
    · simp [hk] at hb
  case s.s p q =>
    simp only [RV] at hx hy
    subst hx; subst hy
    cases op <;> simp only at hb <;> first | (simp at hb; done) | (cases hb; exact ⟨by simp [Go.binOp, Op.stringOp, scal], rfl, rfl⟩)

theorem eqGuard_ok (w : World) (op : BinOp) (t : TypeId) (x y : Operand) (a b : Value) (ha : a ≠ .nilIface) (hg : ∀ c, a ≠ .agg c) : (eqGuard op t x y a b).run P w = .ok () w := by
  unfold eqGuard
  cases op <;> simp <;> (cases a <;> simp_all)

theorem eqC_ok {k : Nat} {x y : V} {vx vy : Value} {p : Bool} (hx : RV G.rd x vx) (hy : RV G.rd y vy) (hb : eqC k x y = some p) : eqVal k vx vy = some p := by
  unfold eqC at hb
  split at hb
  · simp only [RV] at hx hy; subst hx; subst hy; simpa [eqVal] using hb
  · simp only [RV] at hx hy; subst hx; subst hy; simpa [eqVal] using hb
  · simp only [RV] at hx hy; subst hx; subst hy; simpa [eqVal] using hb
  · simp at hb
theorem eqCells_ok {loc loc' : Nat → Loc} : ∀ (ks : List Nat) (j j' : Nat) (xs ys : List D) (vx vy : List Value) (q : Bool), RDs h G loc j xs vx → RDs h G loc' j' ys vy → eqCells ks xs ys = some q → eqVals ks vx vy = some q
  | [], _, _, [], [], [], [], q, _, _, hq => by simpa [eqCells, eqVals] using hq
  | k :: ks, j, j', .v x :: xs, .v y :: ys, vx :: vxs, vy :: vys, q, hx, hy, hq => by
    simp only [eqCells] at hq
    simp only [RDs, RD] at hx hy
    split at hq <;> try (simp at hq; done)
    rename_i p hp
    split at hq <;> try (simp at hq; done)
    rename_i r hr
    simp only [eqVals, eqC_ok hx.1 hy.1 hp, eqCells_ok ks (j + 1) (j' + 1) xs ys vxs vys r hx.2 hy.2 hr]
    exact hq
  | [], _, _, [], [], [], _ :: _, _, _, hy, _ => by simp only [RDs] at hy
  | [], _, _, [], [], _ :: _, _, _, hx, _, _ => by simp only [RDs] at hx
  | [], _, _, [], _ :: _, _, _, _, _, _, hq => by simp [eqCells] at hq
  | [], _, _, _ :: _, _, _, _, _, _, _, hq => by simp [eqCells] at hq
  | _ :: _, _, _, [], _, _, _, _, _, _, hq => by simp [eqCells] at hq
  | _ :: _, _, _, _ :: _, [], _, _, _, _, _, hq => by simp [eqCells] at hq
  | _ :: _, _, _, .v _ :: _, .v _ :: _, [], _, _, hx, _, _ => by simp only [RDs] at hx
  | _ :: _, _, _, .v _ :: _, .v _ :: _, _ :: _, [], _, _, hy, _ => by simp only [RDs] at hy
  | _ :: _, _, _, .v _ :: _, .undef :: _, _, _, _, _, _, hq => by simp [eqCells] at hq
  | _ :: _, _, _, .v _ :: _, .bad :: _, _, _, _, _, _, hq => by simp [eqCells] at hq
  | _ :: _, _, _, .v _ :: _, .mb .. :: _, _, _, _, _, _, hq => by simp [eqCells] at hq
  | _ :: _, _, _, .v _ :: _, .own .. :: _, _, _, _, _, _, hq => by simp [eqCells] at hq
  | _ :: _, _, _, .v _ :: _, .al .. :: _, _, _, _, _, _, hq => by simp [eqCells] at hq
  | _ :: _, _, _, .v _ :: _, .cut .. :: _, _, _, _, _, _, hq => by simp [eqCells] at hq
  | _ :: _, _, _, .v _ :: _, .rp .. :: _, _, _, _, _, _, hq => by simp [eqCells] at hq
  | _ :: _, _, _, .v _ :: _, .ptr .. :: _, _, _, _, _, _, hq => by simp [eqCells] at hq
  | _ :: _, _, _, .v _ :: _, .ep .. :: _, _, _, _, _, _, hq => by simp [eqCells] at hq
  | _ :: _, _, _, .v _ :: _, .agg .. :: _, _, _, _, _, _, hq => by simp [eqCells] at hq
  | _ :: _, _, _, .v _ :: _, .tup .. :: _, _, _, _, _, _, hq => by simp [eqCells] at hq
  | _ :: _, _, _, .v _ :: _, .clo .. :: _, _, _, _, _, _, hq => by simp [eqCells] at hq
  | _ :: _, _, _, .v _ :: _, .nilp :: _, _, _, _, _, _, hq => by simp [eqCells] at hq
  | _ :: _, _, _, .undef :: _, _ :: _, _, _, _, _, _, hq => by simp [eqCells] at hq
  | _ :: _, _, _, .bad :: _, _ :: _, _, _, _, _, _, hq => by simp [eqCells] at hq
  | _ :: _, _, _, .mb .. :: _, _ :: _, _, _, _, _, _, hq => by simp [eqCells] at hq
  | _ :: _, _, _, .own .. :: _, _ :: _, _, _, _, _, _, hq => by simp [eqCells] at hq
  | _ :: _, _, _, .al .. :: _, _ :: _, _, _, _, _, _, hq => by simp [eqCells] at hq
  | _ :: _, _, _, .cut .. :: _, _ :: _, _, _, _, _, _, hq => by simp [eqCells] at hq
  | _ :: _, _, _, .rp .. :: _, _ :: _, _, _, _, _, _, hq => by simp [eqCells] at hq
  | _ :: _, _, _, .ptr .. :: _, _ :: _, _, _, _, _, _, hq => by simp [eqCells] at hq
  | _ :: _, _, _, .ep .. :: _, _ :: _, _, _, _, _, _, hq => by simp [eqCells] at hq
  | _ :: _, _, _, .agg .. :: _, _ :: _, _, _, _, _, _, hq => by simp [eqCells] at hq
  | _ :: _, _, _, .tup .. :: _, _ :: _, _, _, _, _, _, hq => by simp [eqCells] at hq
  | _ :: _, _, _, .clo .. :: _, _ :: _, _, _, _, _, _, hq => by simp [eqCells] at hq
  | _ :: _, _, _, .nilp :: _, _ :: _, _, _, _, _, _, hq => by simp [eqCells] at hq

theorem eqkOf_guard {d : Nat} {t : TypeId} {ks : List Nat} {u : TypeDesc} (he : eqkOf P d t = some ks) (hu : P.underlying t = some u) (hr : u.isRow = true) : P.eqGuardType P.depth t = false := by
  cases d with
  | zero => simp [eqkOf] at he
  | succ d =>
    simp only [eqkOf, hu] at he
    cases u <;> simp at he hr
    cases hs : P.stoodInHeld t <;> simp [hs] at he
    split at he <;> try (simp at he; done)
    cases hg : P.eqGuardType P.depth t with
    | false => rfl
    | true => simp [hg] at he
theorem tyOf_eqk {t : TypeId} (ha : (tyOf P t).agg = true) (hk : (tyOf P t).eqk ≠ []) : eqkOf P 12 t = some (tyOf P t).eqk ∧ (∃ fs, P.underlying t = some (.struct fs)) ∧ P.eqGuardType P.depth t = false := by
  obtain ⟨i, d, h1, h2, h3, _⟩ := tyOf_agg ha
  have key : (tyOf P t).eqk = (eqkOf P 12 t).getD [] ∧ ∃ fs, P.underlying t = some (.struct fs) := by
    unfold tyOf at *
    split at hk <;> try (simp at hk; done)
    rename_i i fl hi hfl
    simp only [hi, hfl] at *
    cases hz : i.zero with
    | none => simp [hz] at hk
    | some z =>
      simp only [hz] at hk ⊢
      simp only [h2] at hk ⊢
      cases d <;> simp at hk h3 ⊢
  cases he : eqkOf P 12 t with
  | none => simp [key.1, he] at hk
  | some ks => exact ⟨by simp [key.1, he], key.2, eqkOf_guard he h2 h3⟩
theorem tyOf_bool {t : TypeId} (h : (tyOf P t).tk = .bool) : P.underlying t = some .bool := by
  unfold tyOf at *
  split at h <;> try (simp at h; done)
  rename_i i fl hi hf
  cases hz : i.zero with
  | none => simp [hz] at h
  | some z =>
    simp only [hz] at h
    cases hu : P.underlying t with
    | none => simp [hu] at h
    | some d =>
      simp only [hu] at h
      cases d <;> simp at h
      rfl

theorem run_eq_bool (w : World) {t : TypeId} (p q : Bool) (hu : P.underlying t = some .bool) : (Op.equal t (.bool p) (.bool q)).run P w = .ok (p == q) w := by
  have : Op.equal t (.bool p) (.bool q) = Op.equalIn (9999 + 1) t (.bool p) (.bool q) := rfl
  rw [this]
  exact run_equalIn_bool w 9999 t p q hu

theorem binD_ok {op : BinOp} {x y d : D} {vx vy : Value} {lx ly : Nat → Loc} (t : TypeId) (w : World) (ox oy : Operand) (hx : RD h G lx x vx) (hy : RD h G ly y vy) (hb : binD (tyOf P t) op x y = some d) :
    ∃ z, d = .v z ∧ noSlV z = true ∧ (do eqGuard op t ox oy vx vy; Go.binOp op t vx vy : Sem Value).run P w = .ok (scal z) w := by
  unfold binD at hb
  split at hb
  · rename_i x y
    simp only [RD] at hx hy
    split at hb
    · rename_i z hz
      cases hb
      obtain ⟨h1, h2, h3⟩ := binV_ok t w hx hy hz
      refine ⟨z, rfl, h2, ?_⟩
      have hv := RV.scal h3 hx
      rw [Sem.run_bind, eqGuard_ok w op t ox oy vx vy (by rw [hv]; cases x <;> simp [scal, noSlV] at h3 ⊢) (by rw [hv]; intro c; cases x <;> simp [scal, noSlV] at h3 ⊢)]
      exact h1
    · split at hb <;> try (simp at hb; done)
      · rename_i htk _
        simp only [RV] at hx hy
        subst hx; subst hy
        cases hb
        refine ⟨_, rfl, rfl, ?_⟩
        rw [Sem.run_bind, eqGuard_ok w .eql t ox oy _ _ (by simp) (by simp)]
        simp only [Result.andThen_ok, Go.binOp]
        rw [Sem.run_bind, run_eq_bool w _ _ (tyOf_bool htk)]
        rfl
      · rename_i htk _
        simp only [RV] at hx hy
        subst hx; subst hy
        cases hb
        refine ⟨_, rfl, rfl, ?_⟩
        rw [Sem.run_bind, eqGuard_ok w .neq t ox oy _ _ (by simp) (by simp)]
        simp only [Result.andThen_ok, Go.binOp]
        rw [Sem.run_bind, run_eq_bool w _ _ (tyOf_bool htk)]
        rfl
  · rename_i xs ys
    cases ha : ((tyOf P t).agg && !(tyOf P t).eqk.isEmpty) with
    | false => simp [ha] at hb
    | true =>
      simp only [ha, cond_true] at hb
      simp at ha
      obtain ⟨he, ⟨fs, hu⟩, hg⟩ := tyOf_eqk ha.1 ha.2
      simp only [RD] at hx hy
      obtain ⟨vx', rfl, hx⟩ := hx
      obtain ⟨vy', rfl, hy⟩ := hy
      have main : ∀ q, eqCells (tyOf P t).eqk xs ys = some q → (Op.equalIn 10000 t (.agg vx') (.agg vy')).run P w = .ok q w := fun q hq =>
        equalIn_ok w 12 t _ he 10000 (by omega) vx'.toList vy'.toList _ _ q (.inl ⟨fs, hu, by simp⟩) (.inl ⟨fs, hu, by simp⟩) (eqCells_ok _ _ _ _ _ _ _ _ hx hy hq)
      split at hb
      · split at hb <;> try (simp at hb; done)
        rename_i q hq
        cases hb
        refine ⟨_, rfl, rfl, ?_⟩
        rw [Sem.run_bind, run_eqGuard_agg w .eql t ox oy vx' vy' hg]
        simp only [Result.andThen_ok]
        rw [run_eql_struct, main q hq]
        rfl
      · split at hb <;> try (simp at hb; done)
        rename_i q hq
        cases hb
        refine ⟨_, rfl, rfl, ?_⟩
        rw [Sem.run_bind, run_eqGuard_agg w .neq t ox oy vx' vy' hg]
        simp only [Result.andThen_ok]
        rw [run_neq_struct, main q hq]
        rfl
      · simp at hb
  · simp at hb


/-! ### The parts of an aggregate -/
theorem RDs.drop {loc : Nat → Loc} : ∀ (k j : Nat) (ds : List D) (vs : List Value), RDs h G loc j ds vs → RDs h G loc (j + k) (ds.drop k) (vs.drop k)
  | 0, _, _, _, hr => by simpa using hr
  | k + 1, j, [], [], _ => by simp only [List.drop_nil, RDs]
  | k + 1, j, d :: ds, v :: vs, hr => by
    simp only [RDs] at hr
    have := RDs.drop k (j + 1) ds vs hr.2
    rw [Nat.add_assoc, Nat.add_comm 1 k] at this
    simpa using this
  | _ + 1, _, [], _ :: _, hr => by simp only [RDs] at hr
  | _ + 1, _, _ :: _, [], hr => by simp only [RDs] at hr
theorem RDs.take {loc : Nat → Loc} : ∀ (k j : Nat) (ds : List D) (vs : List Value), RDs h G loc j ds vs → RDs h G loc j (ds.take k) (vs.take k)
  | 0, _, _, _, _ => by simp only [List.take_zero, RDs]
  | k + 1, j, [], [], _ => by simp only [List.take_nil, RDs]
  | k + 1, j, d :: ds, v :: vs, hr => by
    simp only [RDs, List.take_succ_cons] at *
    exact ⟨hr.1, RDs.take k (j + 1) ds vs hr.2⟩
  | _ + 1, _, [], _ :: _, hr => by simp only [RDs] at hr
  | _ + 1, _, _ :: _, [], hr => by simp only [RDs] at hr
theorem RVc.RDs {loc : Nat → Loc} : ∀ (l : List V) (c : Array Value) (off j : Nat), RVc G.rd l c off → RDs h G loc j (l.map .v) ((c.toList.drop off).take l.length)
  | [], c, off, j, _ => by simp only [List.map_nil, List.length_nil, List.take_zero, Mx.RDs]
  | x :: l, c, off, j, hr => by
    simp only [RVc] at hr
    obtain ⟨⟨v, h1, h2⟩, h3⟩ := hr
    have hlt : off < c.size := by
      rcases Nat.lt_or_ge off c.size with h | h
      · exact h
      · simp [Array.getElem?_eq_none h] at h1
    have hv : c[off] = v := by simpa [hlt] using h1
    rw [List.drop_eq_getElem_cons (by simpa using hlt)]
    simp only [List.map_cons, List.length_cons, List.take_succ_cons, Mx.RDs, RD]
    refine ⟨by simpa [hv] using h2, RVc.RDs l c (off + 1) (j + 1) h3⟩

theorem isAgg_true (w : World) {t : TypeId} {d : TypeDesc} (hu : P.underlying t = some d) (hd : d.isRow = true) : (isAgg t).run P w = .ok true w := by
  unfold isAgg
  rw [Sem.run_bind, run_underlying hu w]
  cases d <;> simp_all
theorem isAgg_false (w : World) {t : TypeId} {d : TypeDesc} (hu : P.underlying t = some d) (hd : d.isRow = false) : (isAgg t).run P w = .ok false w := by
  unfold isAgg
  rw [Sem.run_bind, run_underlying hu w]
  cases d <;> simp_all

theorem partD_ok {loc loc' : Nat → Loc} {j : Nat} (w : World) {t : TypeId} {cs : List D} {off : Nat} {d : D} {va : Array Value} (hr : RDs h G loc j cs va.toList) (hd : partD (tyOf P t) cs off = some d) :
    ∃ v, (part t va off).run P w = .ok v w ∧ ownFree d = true ∧ RD h G loc' d v := by
  unfold partD at hd
  cases ha : (tyOf P t).agg with
  | true =>
    simp only [ha, cond_true] at hd
    obtain ⟨i, u, h1, h2, h3, h4, _⟩ := tyOf_agg ha
    generalize hq : (((cs.drop off).take (tyOf P t).size).length == (tyOf P t).size && ((cs.drop off).take (tyOf P t).size).all ownFreeC) = q at hd
    cases q with
    | false => simp at hd
    | true =>
      simp only [cond_true, Option.some.injEq] at hd
      subst hd
      rw [Bool.and_eq_true] at hq
      refine ⟨.agg (va.extract off (off + i.size)), ?_, by simpa [ownFree] using hq.2, ?_⟩
      · simp [part, isAgg_true w h2 h3, Sem.run_bind, sizeOf, typeInfo, h1]
      · simp only [RD]
        refine ⟨_, rfl, ?_⟩
        have := RDs.take (tyOf P t).size _ _ _ (RDs.drop off j cs va.toList hr)
        have e : (va.extract off (off + i.size)).toList = (va.toList.drop off).take (tyOf P t).size := by
          simp [List.extract_eq_take_drop, h4]
        rw [e]
        exact RDs.reloc _ _ _ _ (by simpa using hq.2) this
  | false =>
    simp only [ha, cond_false] at hd
    split at hd <;> try (simp at hd; done)
    rename_i k hf
    split at hd <;> try (simp at hd; done)
    rename_i d' hd'
    cases ho : ownFreeC d' with
    | false => simp [ho] at hd
    | true =>
      simp [ho] at hd
      subst hd
      obtain ⟨i, u, h1, h2, h3⟩ := tyOf_one ha hf
      obtain ⟨v, hv, hrd⟩ := RDs.get loc j cs va.toList off d' hr hd'
      refine ⟨v, ?_, ?_, RD.relocC ho hrd⟩
      · have hv' : va[off]? = some v := by simpa using hv
        simp [part, isAgg_false w h2 h3, Sem.run_bind, hv']
      · cases d' <;> simp_all [ownFree, ownFreeC]

/-! ### A load -/
theorem cell_of {h : Array Obj} {w : World} (hw : w.heap = h) {b : Nat} {c : Array Value} {e : TypeId} {fr : Nat × Nat} (hb : h[b]? = some (.cells c e fr)) (off : Nat) : w.cell? ⟨b, off, none⟩ = c[off]? := by
  subst hw
  simp [World.cell?, hb]

/-- What a variable of the type holds whose cells are known. -/
theorem loadVar_ok {loc loc' : Nat → Loc} {j : Nat} (w : World) {t : TypeId} {b base : Nat} {c : Array Value} {e : TypeId} {fr : Nat × Nat} {cs : List D} {vs : List Value} {off : Nat} {d : D} (hb : w.heap[b]? = some (.cells c e fr))
    (hr : RDs h G loc j cs vs) (hv : ∀ q v, vs[q]? = some v → c[base + q]? = some v) (hd : partD (tyOf P t) cs off = some d) :
    ∃ v, (loadVar t ⟨b, base + off, none⟩).run P w = .ok v w ∧ ownFree d = true ∧ RD h G loc' d v := by
  obtain ⟨v, h1, h2, h3⟩ := partD_ok (loc' := loc') w (va := vs.toArray) (by simpa using hr) hd
  refine ⟨v, ?_, h2, h3⟩
  have hl := RDs.length loc j cs _ hr
  unfold partD at hd
  cases ha : (tyOf P t).agg with
  | true =>
    simp only [ha, cond_true] at hd
    obtain ⟨i, u, k1, k2, k3, k4, _⟩ := tyOf_agg ha
    generalize hq : (((cs.drop off).take (tyOf P t).size).length == (tyOf P t).size && ((cs.drop off).take (tyOf P t).size).all ownFreeC) = q at hd
    cases q with
    | false => simp at hd
    | true =>
      rw [Bool.and_eq_true] at hq
      have hlen : off + (tyOf P t).size ≤ cs.length ∨ (tyOf P t).size = 0 := by have := hq.1; simp at this; omega
      simp [part, isAgg_true w k2 k3, Sem.run_bind, sizeOf, typeInfo, k1] at h1
      subst h1
      have := run_loadVar_mid (P := P) w b (base + off) t ((vs.drop off).take i.size) u (by
        intro q v hv'
        rw [cell_of rfl hb]
        rw [List.getElem?_take] at hv'
        split at hv'
        · rw [List.getElem?_drop] at hv'
          rw [Nat.add_assoc]
          exact hv _ _ hv'
        · simp at hv') k2 k3 (by
        rw [k1]
        simp only [Option.map_some, List.length_take, List.length_drop]
        congr 1
        omega)
      rw [this]
  | false =>
    simp only [ha, cond_false] at hd
    split at hd <;> try (simp at hd; done)
    rename_i k hf
    obtain ⟨i, u, k1, k2, k3⟩ := tyOf_one ha hf
    simp [part, isAgg_false w k2 k3, Sem.run_bind] at h1
    cases hc : vs[off]? with
    | none => simp [hc] at h1
    | some x =>
      simp [hc] at h1
      subst h1
      simp [loadVar, isAgg_false w k2 k3, Sem.run_bind, load, Sem.run, cell_of rfl hb, hv off x hc]

end
end Go.Mx
