/- The operations that change nothing but their own register, one by one. -/
import Derived.Test.YtiicnbdolakdgaaMxE
import Derived.Laws.BytesArg
set_option linter.unusedVariables false
set_option linter.unusedSimpArgs false
set_option linter.constructorNameAsVariable false
set_option linter.unnecessarySimpa false
namespace Go.Mx
open Go

section
variable {P : Program} {G : Gh} {tmps : Array Value} {σ : St} {w : World} {ds : List Deferred} {C : Oracle}

/-- The operation yields a value, and leaves the world as it is. -/
def Yields (P : Program) (G : Gh) (w : World) (a : Act) (o : Oper) (d : D) : Prop :=
  ∃ v, (execOp a.eval o).run P w = .ok (.value v) w ∧ ownFree d = true ∧ ∀ loc, RD w.heap G loc d v

theorem ok_move {o : Oper} {x : Operand} (R : Rel w.heap G tmps σ) (ho : o.op = .move x) {d : D} (hd : pureOp (tyOf P) C σ true o.op = some d) : Yields P G w ⟨tmps, ds⟩ o d := by
  simp only [ho, pureOp] at hd
  refine ⟨(⟨tmps, ds⟩ : Act).eval x, by simp [execOp, ho], ?_⟩
  cases hf : force true (opnd σ.env x) with
  | none => simp [hf] at hd
  | some d0 =>
    have hr := R.opndF ds hf
    rw [hf] at hd
    cases d0 with
    | own sz l =>
      cases x with
      | tmp p =>
        simp at hd; subst hd
        simp only [RD, opLoc] at hr
        refine ⟨rfl, fun loc => ?_⟩
        simp only [RD]
        refine ⟨fun _ => hr, ?_, rfl⟩
        rcases hr with ⟨h1, h2⟩ | ⟨b, off, cap, c, e, fr, h1, h2, h3, h4, h5, h6, h7⟩
        · exact ⟨none, 0, by simp [h1, h2], by simp [h2], .inl h2⟩
        · exact ⟨_, cap, h1, h5.1, .inr ⟨b, off, off, c, e, fr, rfl, h2, h3, h7⟩⟩
      | const v => simp at hd
      | global g => simp [opnd, force, solid] at hf
      | func f => simp [opnd, force, solid] at hf
    | agg cs =>
      simp only at hd
      cases ha : cs.all ownFreeC with
      | false => simp [ha] at hd
      | true =>
        simp [ha] at hd; subst hd
        exact ⟨by simpa [ownFree] using ha, fun loc => RD.reloc (by simpa [ownFree] using ha) hr⟩
    | mb g x' => have := force_known hf; simp [known] at this
    | undef => have := force_known hf; simp [known] at this
    | bad => have := force_known hf; simp [known] at this
    | _ => simp only [Option.some.injEq] at hd; subst hd; exact ⟨rfl, fun loc => RD.reloc rfl hr⟩

theorem ok_nilCheck {o : Oper} {x : Operand} (R : Rel w.heap G tmps σ) (ho : o.op = .nilCheck x) {d : D} (hd : pureOp (tyOf P) C σ true o.op = some d) : Yields P G w ⟨tmps, ds⟩ o d := by
  simp only [ho, pureOp] at hd
  cases hf : force true (opnd σ.env x) with
  | none => simp [hf] at hd
  | some d0 =>
    have hr := R.opndF ds hf
    rw [hf] at hd
    cases d0 <;> simp at hd <;> subst hd <;> simp only [RD] at hr
    case rp =>
      obtain ⟨b, off, c, h1, h2⟩ := hr
      exact ⟨.pointer (some ⟨b, off, none⟩), by simp [execOp, ho, h1], rfl, fun loc => by simp only [RD]; exact ⟨b, off, c, rfl, h2⟩⟩
    case ptr =>
      obtain ⟨b, h1, h2⟩ := hr
      exact ⟨_, by simp only [execOp, ho, h2]; rfl, rfl, fun loc => by simp only [RD]; exact ⟨b, h1, rfl⟩⟩
    case ep =>
      obtain ⟨b, base, h1, h2, h3⟩ := hr
      exact ⟨_, by simp only [execOp, ho, h2]; rfl, rfl, fun loc => by simp only [RD]; exact ⟨b, base, h1, rfl, h3⟩⟩

theorem RD.bool {loc : Nat → Loc} {p : Bool} {v : Value} {h : Array Obj} (hr : RD h G loc (.v (.b p)) v) : v = .bool p := by simpa only [RD, RV] using hr
theorem RD.int {loc : Nat → Loc} {k : IntKind} {n : Int} {v : Value} {h : Array Obj} (hr : RD h G loc (.v (.i k n)) v) : v = .int k n := by simpa only [RD, RV] using hr
theorem RD.str {loc : Nat → Loc} {s : ByteArray} {v : Value} {h : Array Obj} (hr : RD h G loc (.v (.s s)) v) : v = .string s := by simpa only [RD, RV] using hr

theorem ok_pick {o : Oper} {c x y : Operand} (R : Rel w.heap G tmps σ) (ho : o.op = .pick c x y) {d : D} (hd : pureOp (tyOf P) C σ true o.op = some d) : Yields P G w ⟨tmps, ds⟩ o d := by
  simp only [ho, pureOp] at hd
  cases hf : force true (opnd σ.env c) with
  | none => simp [hf] at hd
  | some d0 =>
    have hr := R.opndF ds hf
    rw [hf] at hd
    cases d0 <;> try (simp at hd; done)
    rename_i v0
    cases v0 <;> try (simp at hd; done)
    rename_i p
    have hp := RD.bool hr
    have hx := R.opnd ds x
    have hy := R.opnd ds y
    have fin : ∀ q : Bool, (if p then (⟨tmps, ds⟩ : Act).eval x else (⟨tmps, ds⟩ : Act).eval y) = .bool q → Yields P G w ⟨tmps, ds⟩ o (.v (.b q)) := by
      intro q hq
      refine ⟨.bool q, ?_, rfl, fun loc => by simp only [RD, RV]⟩
      simp only [execOp, ho, hp, asBool, Sem.run_bind, Sem.run_pure, Result.andThen_ok, hq]
    generalize (⟨tmps, ds⟩ : Act).eval x = vx at *
    generalize (⟨tmps, ds⟩ : Act).eval y = vy at *
    simp only at hd
    split at hd
    · rename_i q1 q2 e1 e2
      rw [e1] at hx; rw [e2] at hy
      have hx := RD.bool hx; have hy := RD.bool hy
      cases hd
      apply fin
      cases p
      · simpa using hy
      · simpa using hx
    · rename_i q1 h' q2 e1 e2
      rw [e1] at hx; rw [e2] at hy
      have hx := RD.bool hx
      simp only [RD, RV] at hy
      cases p with
      | true => simp [pickOk] at hd; subst hd; apply fin; simpa using hx
      | false =>
        cases h' with
        | false => simp [pickOk] at hd
        | true => simp [pickOk] at hd; subst hd; apply fin; simpa using hy
    · rename_i h' q1 q2 e1 e2
      rw [e1] at hx; rw [e2] at hy
      have hy := RD.bool hy
      simp only [RD, RV] at hx
      cases p with
      | false => simp [pickOk] at hd; subst hd; apply fin; simpa using hy
      | true =>
        cases h' with
        | false => simp [pickOk] at hd
        | true => simp [pickOk] at hd; subst hd; apply fin; simpa using hx
    · rename_i q1 e1 e2
      rw [e1] at hx
      have hx := RD.bool hx
      cases p with
      | true => simp [pickOk] at hd; subst hd; apply fin; simpa using hx
      | false => simp [pickOk] at hd
    · rename_i q1 e1 e2
      rw [e2] at hy
      have hy := RD.bool hy
      cases p with
      | false => simp [pickOk] at hd; subst hd; apply fin; simpa using hy
      | true => simp [pickOk] at hd
    · simp at hd

theorem ok_binOp {o : Oper} {op : BinOp} {t u : TypeId} {x y : Operand} (R : Rel w.heap G tmps σ) (ho : o.op = .binOp op t x y u) {d : D} (hd : pureOp (tyOf P) C σ true o.op = some d) : Yields P G w ⟨tmps, ds⟩ o d := by
  simp only [ho, pureOp] at hd
  split at hd <;> try (simp at hd; done)
  rename_i dx hx
  split at hd <;> try (simp at hd; done)
  rename_i dy hy
  obtain ⟨z, rfl, hz, hrun⟩ := binD_ok t w x y (R.opndF ds hx) (R.opndF ds hy) hd
  refine ⟨scal z, ?_, rfl, fun loc => by simp only [RD]; exact RV.ofScal hz⟩
  simp only [execOp, ho]
  rw [Sem.run_bind]
  rw [hrun]
  rfl

theorem ok_not {o : Oper} {t : TypeId} {x : Operand} (R : Rel w.heap G tmps σ) (ho : o.op = .unOp .not t x) {d : D} (hd : pureOp (tyOf P) C σ true o.op = some d) : Yields P G w ⟨tmps, ds⟩ o d := by
  simp only [ho, pureOp] at hd
  split at hd <;> try (simp at hd; done)
  rename_i p hx
  have hp := RD.bool (R.opndF ds hx)
  cases hd
  exact ⟨.bool (!p), by simp [execOp, ho, hp, Op.unary], rfl, fun loc => by simp only [RD, RV]⟩

theorem ok_extract {o : Oper} {x : Operand} {ix : Nat} (R : Rel w.heap G tmps σ) (ho : o.op = .extract x ix) {d : D} (hd : pureOp (tyOf P) C σ true o.op = some d) : Yields P G w ⟨tmps, ds⟩ o d := by
  simp only [ho, pureOp] at hd
  split at hd <;> try (simp at hd; done)
  rename_i cs hx
  have hr := R.opndF ds hx
  simp only [RD] at hr
  obtain ⟨vs, h1, h2⟩ := hr
  split at hd <;> try (simp at hd; done)
  rename_i d' hd'
  cases hof : ownFree d' with
  | false => simp [hof] at hd
  | true =>
    simp [hof] at hd; subst hd
    obtain ⟨v, hv, hrd⟩ := RDs.get _ 0 cs vs.toList ix d' h2 hd'
    have hv' : vs[ix]? = some v := by simpa using hv
    exact ⟨v, by simp [execOp, ho, h1, Instr.extract, hv'], hof, fun loc => RD.reloc hof hrd⟩

theorem fieldOff_ok {t f fo ft : Nat} (h : fieldOff (tyOf P) t f = some (fo, ft)) : ∃ fs fl, P.underlying t = some (.struct fs) ∧ fs[f]? = some fl ∧ fl.offset = fo ∧ fl.type = ft ∧ ∃ i, P.info? ft = some i ∧ i.size ≠ 0 := by
  unfold fieldOff at h
  split at h <;> try (simp at h; done)
  rename_i fs htk
  obtain ⟨i, fs0, h1, h2, rfl, h4⟩ := tyOf_struct htk
  split at h <;> try (simp at h; done)
  rename_i o u hou
  cases hc : ((tyOf P u).size == 0 || (tyOf P u).flat.isEmpty) with
  | true => simp [hc] at h
  | false =>
    simp [hc] at h
    obtain ⟨rfl, rfl⟩ := h
    simp at hc
    obtain ⟨i', k1, k2, k3⟩ := tyOf_info (P := P) (t := u) hc.2
    rw [List.getElem?_map] at hou
    cases hfl : fs0.toList[f]? with
    | none => simp [hfl] at hou
    | some fl =>
      simp [hfl] at hou
      exact ⟨fs0, fl, h2, by simpa using hfl, hou.1, hou.2, i', k1, by omega⟩

theorem run_fieldAt {t f fo ft : Nat} (h : fieldOff (tyOf P) t f = some (fo, ft)) (b off : Nat) : (Instr.fieldAt t (.pointer (some ⟨b, off, none⟩)) f).run P w = .ok (.pointer (some ⟨b, off + fo, none⟩)) w := by
  obtain ⟨fs, fl, h1, h2, rfl, rfl, i, k1, k2⟩ := fieldOff_ok h
  simp [Instr.fieldAt, Sem.run_bind, run_underlying h1, h2, Instr.sureAddr, fieldPlace, sizeOf, typeInfo, k1, k2, Addr.add_mid]

theorem ok_fieldAddr {o : Oper} {x : Operand} {t f : Nat} (R : Rel w.heap G tmps σ) (ho : o.op = .fieldAddr t x f) {d : D} (hd : pureOp (tyOf P) C σ true o.op = some d) : Yields P G w ⟨tmps, ds⟩ o d := by
  simp only [ho, pureOp] at hd
  split at hd <;> try (simp at hd; done)
  rename_i fo ft hf
  split at hd <;> try (simp at hd; done)
  · rename_i q off hx
    have hr := R.opndF ds hx
    simp only [RD] at hr
    obtain ⟨b, h1, h2⟩ := hr
    cases hd
    exact ⟨.pointer (some ⟨b, off + fo, none⟩), by simp only [execOp, ho, h2, Sem.run_bind, run_fieldAt hf]; rfl, rfl, fun loc => by simp only [RD]; exact ⟨b, h1, rfl⟩⟩
  · rename_i cells hx
    have hr := R.opndF ds hx
    simp only [RD] at hr
    obtain ⟨b, off, c, h1, h2, h3⟩ := hr
    cases hd
    exact ⟨.pointer (some ⟨b, off + fo, none⟩), by simp only [execOp, ho, h1, Sem.run_bind, run_fieldAt hf]; rfl, rfl, fun loc => by simp only [RD]; exact ⟨b, off + fo, c, rfl, h2, RVc.drop _ _ _ _ h3⟩⟩
  · rename_i src sz i off hx
    have hr := R.opndF ds hx
    simp only [RD] at hr
    obtain ⟨b, base, h1, h2, h3⟩ := hr
    cases hd
    exact ⟨.pointer (some ⟨b, base + i * sz + off + fo, none⟩), by simp only [execOp, ho, h2, Sem.run_bind, run_fieldAt hf]; rfl, rfl, fun loc => by simp only [RD]; exact ⟨b, base, h1, by rw [Nat.add_assoc], h3⟩⟩

theorem ok_field {o : Oper} {x : Operand} {t f : Nat} (R : Rel w.heap G tmps σ) (ho : o.op = .field t x f) {d : D} (hd : pureOp (tyOf P) C σ true o.op = some d) : Yields P G w ⟨tmps, ds⟩ o d := by
  simp only [ho, pureOp] at hd
  split at hd <;> try (simp at hd; done)
  rename_i fo ft hf
  split at hd <;> try (simp at hd; done)
  rename_i cs hx
  have hr := R.opndF ds hx
  simp only [RD] at hr
  obtain ⟨vs, h1, h2⟩ := hr
  obtain ⟨fs, fl, k1, k2, rfl, rfl, _⟩ := fieldOff_ok hf
  obtain ⟨v, hv, _, _⟩ := partD_ok (loc' := fun _ => Loc.reg 0 0) w h2 hd
  refine ⟨v, ?_, ?_, ?_⟩
  · simp [execOp, ho, h1, Instr.field, Sem.run_bind, run_underlying k1, k2, asAgg, hv]
  · obtain ⟨_, _, h, _⟩ := partD_ok (loc' := fun _ => Loc.reg 0 0) w h2 hd; exact h
  · intro loc
    obtain ⟨v', hv', _, hr'⟩ := partD_ok (loc' := loc) w h2 hd
    rw [hv] at hv'
    cases hv'
    exact hr'

theorem ownAt_ok (R : Rel w.heap G tmps σ) {src : Loc} {sz : Nat} {l : List (List V)} (h : ownAt σ src = some (sz, l)) : ∃ v, ROwn w.heap G.rd (G.ow src) sz l v := by
  unfold ownAt at h
  split at h
  · rename_i t j
    split at h <;> try (simp at h; done)
    rename_i sz' l' hl
    cases hj : j == 0 with
    | false => simp [hj] at h
    | true =>
      simp [hj] at h
      obtain ⟨rfl, rfl⟩ := h
      simp at hj; subst hj
      have := R.env t
      rw [hl] at this
      simp only [RD] at this
      exact ⟨_, this⟩
  · rename_i o off
    split at h <;> try (simp at h; done)
    rename_i cs hcs
    split at h <;> try (simp at h; done)
    rename_i sz' l' hl
    cases h
    obtain ⟨b, c, e, fr, h1, h2, h3, h4⟩ := R.obj o cs hcs
    obtain ⟨v, hv, hrd⟩ := RDs.get _ 0 cs c.toList off _ h4 hl
    simp only [RD, Nat.zero_add] at hrd
    exact ⟨v, hrd⟩
  · cases h

theorem ok_load {o : Oper} {x : Operand} {t : Nat} (R : Rel w.heap G tmps σ) (ho : o.op = .load t x) {d : D} (hd : pureOp (tyOf P) C σ true o.op = some d) : Yields P G w ⟨tmps, ds⟩ o d := by
  simp only [ho, pureOp] at hd
  split at hd <;> try (simp at hd; done)
  rename_i dx hx
  have hr := R.opndF ds hx
  have fin : ∀ (b off : Nat), (⟨tmps, ds⟩ : Act).eval x = .pointer (some ⟨b, off, none⟩) → (∃ v, (loadVar t ⟨b, off, none⟩).run P w = .ok v w ∧ ownFree d = true ∧ ∀ loc, RD w.heap G loc d v) → Yields P G w ⟨tmps, ds⟩ o d := by
    intro b off he ⟨v, h1, h2⟩
    exact ⟨v, by simp [execOp, ho, he, Instr.loadAt, Instr.sureAddr, Sem.run_bind, h1], h2⟩
  have all : ∀ {b base off : Nat} {c : Array Value} {e : TypeId} {fr : Nat × Nat} {cs : List D} {vs : List Value} {loc : Nat → Loc} {j : Nat}, w.heap[b]? = some (.cells c e fr) → RDs w.heap G loc j cs vs → (∀ q v, vs[q]? = some v → c[base + q]? = some v) →
      partD (tyOf P t) cs off = some d → ∃ v, (loadVar t ⟨b, base + off, none⟩).run P w = .ok v w ∧ ownFree d = true ∧ ∀ loc, RD w.heap G loc d v := by
    intro b base off c e fr cs vs loc j hb hr hv hd
    obtain ⟨v, h1, h2, _⟩ := loadVar_ok (loc' := fun _ => Loc.reg 0 0) w hb hr hv hd
    refine ⟨v, h1, h2, fun loc' => ?_⟩
    obtain ⟨v', h1', _, h3⟩ := loadVar_ok (loc' := loc') w hb hr hv hd
    rw [h1] at h1'; cases h1'
    exact h3
  unfold loadAt at hd
  split at hd <;> try (simp at hd; done)
  · rename_i q off
    simp only [RD] at hr
    obtain ⟨b, hob, he⟩ := hr
    split at hd <;> try (simp at hd; done)
    rename_i cs hcs
    obtain ⟨b', c, e, fr, h1, h2, h3, h4⟩ := R.obj q cs hcs
    rw [hob] at h1; cases h1
    refine fin b off he ?_
    split at hd
    · rename_i sz l k hown hagg hflat
      cases hd
      obtain ⟨v, hv, hrd⟩ := RDs.get _ 0 cs c.toList off _ h4 hown
      simp only [RD, Nat.zero_add] at hrd
      obtain ⟨i, u, k1, k2, k3⟩ := tyOf_one hagg hflat
      have hv' : c[off]? = some v := by simpa using hv
      refine ⟨v, ?_, rfl, fun loc => ?_⟩
      · simp [loadVar, isAgg_false w k2 k3, Sem.run_bind, load, Sem.run, cell_of rfl h2, hv']
      · simp only [RD]
        refine ⟨fun _ => hrd, ?_, rfl⟩
        rcases hrd with ⟨g1, g2⟩ | ⟨b2, off2, cap, c2, e2, fr2, g1, g2, g3, g4, g5, g6, g7⟩
        · exact ⟨none, 0, by simp [g1, g2], by simp [g2], .inl g2⟩
        · exact ⟨_, cap, g1, g5.1, .inr ⟨b2, off2, off2, c2, e2, fr2, rfl, g2, g3, g7⟩⟩
    · have := all (base := 0) h2 h4 (by simp) hd
      simpa using this
  · rename_i cells
    simp only [RD] at hr
    obtain ⟨b, off, c, he, h2, h3⟩ := hr
    obtain ⟨e, fr, hb⟩ := R.inv.rd_ok b c h2
    refine fin b off he ?_
    have := all (base := off) (off := 0) (loc := Loc.reg 0) (j := 0) hb (RVc.RDs cells c off 0 h3) (by
      intro q v hq
      rw [List.getElem?_take] at hq
      split at hq
      · simpa [List.getElem?_drop] using hq
      · simp at hq) hd
    simpa using this
  · rename_i src sz i off
    simp only [RD] at hr
    obtain ⟨b, base, how, he, _⟩ := hr
    split at hd <;> try (simp at hd; done)
    rename_i sz' l hown
    cases hsz : sz == sz' with
    | false => simp [hsz] at hd
    | true =>
      simp [hsz] at hd
      simp at hsz; subst hsz
      split at hd <;> try (simp at hd; done)
      rename_i row hrow
      obtain ⟨v0, hv0⟩ := ownAt_ok R hown
      rcases hv0 with ⟨_, rfl⟩ | ⟨b2, off2, cap, c2, e2, fr2, g1, g2, g3, g4, g5, g6, g7⟩
      · simp at hrow
      · rw [how] at g2; cases g2
        refine fin b _ he ?_
        obtain ⟨hlen, hrc⟩ := RVr.get sz l c2 base i row g7 hrow
        have hrc' := RVc.drop row c2 _ off hrc
        rw [← List.map_drop] at hd
        have := all (base := base + i * sz + off) (off := 0) (loc := Loc.reg 0) (j := 0) g3 (RVc.RDs _ c2 _ 0 hrc') (by
          intro q v hq
          rw [List.getElem?_take] at hq
          split at hq
          · simpa [List.getElem?_drop] using hq
          · simp at hq) hd
        simpa using this


theorem elemIs_ok {e sz : Nat} (h : elemIs (tyOf P e) sz = true) : ∃ i, P.info? e = some i ∧ i.size = sz ∧ (tyOf P e).bytes = i.bytes ∧ (tyOf P e).size = sz := by
  simp [elemIs] at h
  obtain ⟨i, h1, h2, h3⟩ := tyOf_info (P := P) (t := e) (by simpa using h.2)
  exact ⟨i, h1, by omega, h3, by omega⟩

theorem ok_indexAddr {o : Oper} {x ix : Operand} {t : Nat} (R : Rel w.heap G tmps σ) (ho : o.op = .indexAddr t x ix) {d : D} (hd : pureOp (tyOf P) C σ true o.op = some d) : Yields P G w ⟨tmps, ds⟩ o d := by
  simp only [ho, pureOp] at hd
  split at hd <;> try (simp at hd; done)
  rename_i k n hix
  have hn := RD.int (R.opndF ds hix)
  split at hd <;> try (simp at hd; done)
  · rename_i sz l e hx htk
    cases hb : (elemIs (tyOf P e) sz && decide (0 ≤ n)) with
    | false => simp only [hb, cond_false] at hd; cases hd
    | true =>
      simp only [hb, cond_true] at hd
      rw [Bool.and_eq_true, decide_eq_true_eq] at hb
      obtain ⟨i, h1, rfl, _, _⟩ := elemIs_ok hb.1
      obtain ⟨_, _, hu⟩ := tyOf_slice htk
      have hr := R.opndF ds hx
      simp only [RD, RV] at hr
      obtain ⟨base, cap, he, hc, hl⟩ := hr
      split at hd <;> try (simp at hd; done)
      rename_i r hr
      cases hd
      have hlt : n.toNat < l.length := by
        rcases Nat.lt_or_ge n.toNat l.length with h | h
        · exact h
        · simp [List.getElem?_eq_none h] at hr
      have hlt' : n < l.length := by omega
      rcases hl with rfl | ⟨b, off, c, rfl, h2, h3⟩
      · simp at hlt
      · obtain ⟨_, hrow⟩ := RVr.get _ l c off n.toNat r h3 hr
        refine ⟨.pointer (some ⟨b, off + n.toNat * i.size, none⟩), ?_, rfl, fun loc => by simp only [RD]; exact ⟨b, _, c, rfl, h2, hrow⟩⟩
        simp [execOp, ho, he, hn, Instr.indexAt, Sem.run_bind, asIntOf, run_underlying hu, hb.2, hlt', sizeOf, typeInfo, h1, Addr.add_mid]
  · rename_i sz l src e hx htk
    cases hb : (elemIs (tyOf P e) sz && decide (0 ≤ n ∧ n < l.length)) with
    | false => simp only [hb, cond_false] at hd; cases hd
    | true =>
      simp only [hb, cond_true] at hd
      rw [Bool.and_eq_true, decide_eq_true_eq] at hb
      obtain ⟨i, h1, rfl, _, _⟩ := elemIs_ok hb.1
      obtain ⟨_, _, hu⟩ := tyOf_slice htk
      have hr := R.opndF ds hx
      simp only [RD] at hr
      cases hd
      rcases hr.1 trivial with ⟨_, rfl⟩ | ⟨b, off, cap, c, e', fr, he, g2, g3, g4, g5, g6, g7⟩
      · have := hb.2; simp at this; omega
      · refine ⟨.pointer (some ⟨b, off + n.toNat * i.size, none⟩), ?_, rfl, fun loc => by simp only [RD]; exact ⟨b, off, g2, by simp, hr.2.2⟩⟩
        simp [execOp, ho, he, hn, Instr.indexAt, Sem.run_bind, asIntOf, run_underlying hu, hb.2, sizeOf, typeInfo, h1, Addr.add_mid]
  · rename_i q off len e hx htk
    cases hb : (elemIs (tyOf P e) (tyOf P e).size && decide (0 ≤ n ∧ n < len)) with
    | false => simp only [hb, cond_false] at hd; cases hd
    | true =>
      simp only [hb, cond_true] at hd
      rw [Bool.and_eq_true, decide_eq_true_eq] at hb
      obtain ⟨i, h1, h1', _, _⟩ := elemIs_ok hb.1
      obtain ⟨_, _, hu⟩ := tyOf_array htk
      have hr := R.opndF ds hx
      simp only [RD] at hr
      obtain ⟨b, hob, he⟩ := hr
      cases hd
      refine ⟨.pointer (some ⟨b, off + n.toNat * i.size, none⟩), ?_, rfl, fun loc => by simp only [RD]; exact ⟨b, hob, by rw [h1']⟩⟩
      simp [execOp, ho, he, hn, Instr.indexAt, Sem.run_bind, asIntOf, run_underlying hu, hb.2, Instr.sureAddr, sizeOf, typeInfo, h1, Addr.add_mid]
  · rename_i cells len e hx htk
    cases hb : (elemIs (tyOf P e) (tyOf P e).size && decide (0 ≤ n ∧ n < len)) with
    | false => simp only [hb, cond_false] at hd; cases hd
    | true =>
      simp only [hb, cond_true] at hd
      rw [Bool.and_eq_true, decide_eq_true_eq] at hb
      obtain ⟨i, h1, h1', _, _⟩ := elemIs_ok hb.1
      obtain ⟨_, _, hu⟩ := tyOf_array htk
      have hr := R.opndF ds hx
      simp only [RD] at hr
      obtain ⟨b, off, c, he, h2, h3⟩ := hr
      cases hd
      refine ⟨.pointer (some ⟨b, off + n.toNat * i.size, none⟩), ?_, rfl, fun loc => by simp only [RD]; exact ⟨b, _, c, rfl, h2, by rw [h1']; exact RVc.drop _ _ _ _ h3⟩⟩
      simp [execOp, ho, he, hn, Instr.indexAt, Sem.run_bind, asIntOf, run_underlying hu, hb.2, Instr.sureAddr, sizeOf, typeInfo, h1, Addr.add_mid]

theorem ok_index {o : Oper} {x ix : Operand} {t : Nat} (R : Rel w.heap G tmps σ) (ho : o.op = .index t x ix) {d : D} (hd : pureOp (tyOf P) C σ true o.op = some d) : Yields P G w ⟨tmps, ds⟩ o d := by
  simp only [ho, pureOp] at hd
  split at hd <;> try (simp at hd; done)
  rename_i k n hix
  have hn := RD.int (R.opndF ds hix)
  split at hd <;> try (simp at hd; done)
  · rename_i s hx htk
    have he := RD.str (R.opndF ds hx)
    obtain ⟨_, _, hu⟩ := tyOf_str htk
    cases hb : decide (0 ≤ n) with
    | false => simp only [hb, cond_false] at hd; cases hd
    | true =>
      simp only [hb, cond_true] at hd
      rw [decide_eq_true_eq] at hb
      split at hd <;> try (simp at hd; done)
      rename_i c hc
      cases hd
      refine ⟨.int .u8 c.toNat, ?_, rfl, fun loc => by simp only [RD, RV]⟩
      simp [execOp, ho, he, hn, Instr.index, Sem.run_bind, asIntOf, run_underlying hu, hb, hc]
  · rename_i cs len e hx htk
    have hr := R.opndF ds hx
    simp only [RD] at hr
    obtain ⟨vs, he, h2⟩ := hr
    cases hb : (elemIs (tyOf P e) (tyOf P e).size && decide (0 ≤ n ∧ n < len)) with
    | false => simp only [hb, cond_false] at hd; cases hd
    | true =>
      simp only [hb, cond_true] at hd
      rw [Bool.and_eq_true, decide_eq_true_eq] at hb
      obtain ⟨i, h1, h1', _, _⟩ := elemIs_ok hb.1
      obtain ⟨_, _, hu⟩ := tyOf_array htk
      obtain ⟨v, hv, hof, _⟩ := partD_ok (loc' := fun _ => Loc.reg 0 0) w h2 hd
      refine ⟨v, ?_, hof, ?_⟩
      · rw [← h1'] at hv
        simp [execOp, ho, he, hn, Instr.index, Sem.run_bind, asIntOf, run_underlying hu, hb.2, sizeOf, typeInfo, h1, hv]
      · intro loc
        obtain ⟨v', hv', _, hr'⟩ := partD_ok (loc' := loc) w h2 hd
        rw [hv] at hv'; cases hv'
        exact hr'

theorem forceAll_ok {loc : Nat → Loc} (R : Rel w.heap G tmps σ) : ∀ (j : Nat) (xs : List Operand) (cs : List D), forceAll true σ.env xs = some cs → cs.all ownFreeC = true → RDs w.heap G loc j cs (xs.map (⟨tmps, ds⟩ : Act).eval)
  | _, [], cs, h, _ => by simp [forceAll] at h; subst h; simp only [List.map_nil, RDs]
  | j, x :: xs, cs, h, ho => by
    simp only [forceAll] at h
    split at h <;> try (simp at h; done)
    rename_i d hd
    split at h <;> try (simp at h; done)
    rename_i s hs
    cases h
    simp only [List.all_cons, Bool.and_eq_true] at ho
    simp only [List.map_cons, RDs]
    exact ⟨RD.relocC ho.1 (R.opndF ds hd), forceAll_ok R (j + 1) xs s hs ho.2⟩

theorem ok_makeFunc {o : Oper} {f : Nat} {first caps : Array Operand} (R : Rel w.heap G tmps σ) (ho : o.op = .makeFunc (.func f) first caps) {d : D} (hd : pureOp (tyOf P) C σ true o.op = some d) : Yields P G w ⟨tmps, ds⟩ o d := by
  simp only [ho, pureOp] at hd
  cases hf : first.isEmpty with
  | false => simp [hf] at hd
  | true =>
    simp only [hf, cond_true] at hd
    split at hd <;> try (simp at hd; done)
    rename_i cs hcs
    cases ho3 : cs.all stayC with
    | false => simp only [ho3, cond_false] at hd; cases hd
    | true =>
      simp only [ho3, cond_true, Option.some.injEq] at hd; subst hd
      have ho2 : cs.all ownFreeC = true := List.all_eq_true.2 fun d hd => by
        have := List.all_eq_true.1 ho3 d hd
        cases d <;> simp_all [stayC, ownFreeC]
      have hfe : first = #[] := by simpa using hf
      subst hfe
      refine ⟨.func (.func f) #[] (caps.map (⟨tmps, ds⟩ : Act).eval), by simp [execOp, ho, Instr.makeFunc], rfl, fun loc => ?_⟩
      simp only [RD]
      exact ⟨_, rfl, by simpa using forceAll_ok (ds := ds) R 0 caps.toList cs hcs ho2⟩


def isBound (v : Option Value) (n dflt : Int) : Prop := (v = none ∧ n = dflt) ∨ ∃ k, v = some (.int k n)
theorem bound_ok (R : Rel w.heap G tmps σ) {x : Option Operand} {n dflt : Int} (h : bound true σ.env x dflt = some n) : isBound (x.map (⟨tmps, ds⟩ : Act).eval) n dflt := by
  unfold bound at h
  split at h
  · cases h; exact .inl ⟨rfl, rfl⟩
  · rename_i o
    split at h <;> try (simp at h; done)
    rename_i d hd
    unfold asNat at h
    split at h <;> try (simp at h; done)
    cases h
    exact .inr ⟨_, by simp [RD.int (R.opndF ds hd)]; rfl⟩

theorem run_sliceBound {v : Value} {k : IntKind} {n : Int} (hv : v = .int k n) (y : Nat) (code : BoundsCode) (h0 : 0 ≤ n) (h1 : n ≤ y) : (Instr.sliceBound v y code).run P w = .ok n.toNat w := by
  subst hv
  simp [Instr.sliceBound, Sem.run_bind, asIntOf, h0, h1]
theorem run_sliceBounds {isS : Bool} {len cap : Nat} {vlo vhi : Option Value} {a b : Int} (ha : isBound vlo a 0) (hb : isBound vhi b len) (h0 : 0 ≤ a) (h1 : a ≤ b) (h2 : b ≤ len) (h3 : len ≤ cap) :
    (Instr.sliceBounds isS len cap vlo vhi none).run P w = .ok (a.toNat, b.toNat, cap) w := by
  unfold Instr.sliceBounds
  rcases hb with ⟨rfl, rfl⟩ | ⟨k, rfl⟩ <;> rcases ha with ⟨rfl, rfl⟩ | ⟨k', rfl⟩
  · simp [Sem.run_bind]
  · simp only [Sem.run_bind, Sem.run_pure, Result.andThen_ok]
    rw [run_sliceBound rfl _ _ h0 (by omega)]
    simp
  · simp only [Sem.run_bind, Sem.run_pure, Result.andThen_ok]
    rw [run_sliceBound rfl _ _ (by omega) (by omega)]
    simp
  · simp only [Sem.run_bind, Sem.run_pure, Result.andThen_ok]
    rw [run_sliceBound rfl _ _ (by omega) (by omega)]
    simp only [Sem.run_pure, Result.andThen_ok]
    rw [run_sliceBound rfl _ _ h0 (by omega)]
    simp
theorem run_sliceBounds3 {isS : Bool} {len cap : Nat} {vlo : Option Value} {a b : Int} {k k' : IntKind} (ha : isBound vlo a 0) (h0 : 0 ≤ a) (h1 : a ≤ b) (h2 : b ≤ len) (h3 : len ≤ cap) :
    (Instr.sliceBounds isS len cap vlo (some (.int k b)) (some (.int k' b))).run P w = .ok (a.toNat, b.toNat, b.toNat) w := by
  unfold Instr.sliceBounds
  rcases ha with ⟨rfl, rfl⟩ | ⟨k'', rfl⟩
  · simp only [Sem.run_bind, Sem.run_pure, Result.andThen_ok]
    rw [run_sliceBound rfl _ _ (by omega) (by omega)]
    simp only [Sem.run_pure, Result.andThen_ok]
    rw [run_sliceBound rfl _ _ (by omega) (by omega)]
    simp
  · simp only [Sem.run_bind, Sem.run_pure, Result.andThen_ok]
    rw [run_sliceBound rfl _ _ (by omega) (by omega)]
    simp only [Sem.run_pure, Result.andThen_ok]
    rw [run_sliceBound rfl _ _ (by omega) (by omega)]
    simp only [Sem.run_pure, Result.andThen_ok]
    rw [run_sliceBound rfl _ _ (by omega) (by omega)]
    simp

theorem subList_length (l : List (List V)) (a b : Nat) (h1 : a ≤ b) (h2 : b ≤ l.length) : (subList l a b).length = b - a := by
  simp [subList]; omega
theorem RVr.sub {rd : Rd} (sz : Nat) (l : List (List V)) (c : Array Value) (off a b : Nat) (h : RVr rd sz l c off) : RVr rd sz (subList l a b) c (off + a * sz) :=
  RVr.drop sz _ c off a (RVr.take sz l c off b h)

/-- A slice of a slice: where it lies. -/
def subAddr (base : Option Addr) (m l size : Nat) : Option Addr := if m = l then base else base.map (·.add (l * size))

theorem run_slice_slice {t e : TypeId} {i : TypeInfo} (hu : P.underlying t = some (.slice e)) (hi : P.info? e = some i) {base : Option Addr} {len cap lo hj m : Nat} {vlo vhi vmx : Option Value}
    (hb : (Instr.sliceBounds true len cap vlo vhi vmx).run P w = .ok (lo, hj, m) w) :
    (Instr.sliceAt t (.slice base len cap) vlo vhi vmx).run P w = .ok (.slice (subAddr base m lo i.size) (hj - lo) (m - lo)) w := by
  simp [Instr.sliceAt, Sem.run_bind, run_underlying hu, Instr.slice, hb, sizeOf, typeInfo, hi, subAddr]

theorem subAddr_some {b off m l size : Nat} (h : l < m) : subAddr (some ⟨b, off, none⟩) m l size = some ⟨b, off + l * size, none⟩ := by
  unfold subAddr
  rw [if_neg (by omega)]
  simp [Addr.add_mid]

theorem ok_slice {o : Oper} {x : Operand} {lo hi mx : Option Operand} {t : Nat} (R : Rel w.heap G tmps σ) (ho : o.op = .slice t x lo hi mx) {d : D} (hd : pureOp (tyOf P) C σ true o.op = some d) : Yields P G w ⟨tmps, ds⟩ o d := by
  simp only [ho, pureOp] at hd
  split at hd <;> try (simp at hd; done)
  rename_i dx hx
  have hr := R.opndF ds hx
  split at hd <;> try (simp at hd; done)
  rename_i n hn
  split at hd <;> try (simp at hd; done)
  rename_i a b ha hb
  have hA := bound_ok (ds := ds) R ha
  have hB := bound_ok (ds := ds) R hb
  -- which bounds
  have key : ∀ cutAt, (cutAt = false ∧ mx = none ∨ cutAt = true ∧ ∃ k k', hi.map (⟨tmps, ds⟩ : Act).eval = some (.int k b) ∧ mx.map (⟨tmps, ds⟩ : Act).eval = some (.int k' b)) → sliceD (tyOf P) (tyOf P t).tk dx a b cutAt = some d → Yields P G w ⟨tmps, ds⟩ o d := by
    clear hd
    intro cutAt hcut hd
    have hexec : (execOp (⟨tmps, ds⟩ : Act).eval o) = (do pure (.value (← Instr.sliceAt t ((⟨tmps, ds⟩ : Act).eval x) (lo.map (⟨tmps, ds⟩ : Act).eval) (hi.map (⟨tmps, ds⟩ : Act).eval) (mx.map (⟨tmps, ds⟩ : Act).eval))) : Sem Next) := by
      simp only [execOp, ho]
    generalize htk : (tyOf P t).tk = tk at hd
    unfold sliceD at hd
    split at hd <;> try (simp at hd; done)
    · rename_i s
      obtain ⟨_, _, hu⟩ := tyOf_str htk
      have hs := RD.str hr
      cases hq : (decide (0 ≤ a ∧ a ≤ b ∧ b ≤ (s.size : Int)) && !cutAt) with
      | false => simp only [hq, cond_false] at hd; cases hd
      | true =>
        simp only [hq, cond_true] at hd
        rw [Bool.and_eq_true, decide_eq_true_eq] at hq
        cases hd
        rcases hcut with ⟨rfl, rfl⟩ | ⟨rfl, _⟩
        · simp only [lenD, Option.some.injEq] at hn
          subst hn
          have hsb := run_sliceBounds (P := P) (w := w) (isS := false) (len := s.size) (cap := s.size) hA hB hq.1.1 hq.1.2.1 hq.1.2.2 (Nat.le_refl _)
          refine ⟨.string (s.extract a.toNat b.toNat), ?_, rfl, fun loc => by simp only [RD, RV]⟩
          rw [hexec]
          simp [Sem.run_bind, hs, Instr.sliceAt, run_underlying hu, Instr.slice, hsb]
        · simp at hq
    · rename_i e sz l
      obtain ⟨_, _, hu⟩ := tyOf_slice htk
      cases hq : (elemIs (tyOf P e) sz && decide (0 ≤ a ∧ a ≤ b ∧ b ≤ (l.length : Int))) with
      | false => simp only [hq, cond_false] at hd; cases hd
      | true =>
        simp only [hq, cond_true] at hd
        rw [Bool.and_eq_true, decide_eq_true_eq] at hq
        obtain ⟨i, hi1, rfl, _, _⟩ := elemIs_ok hq.1
        simp only [lenD, Option.some.injEq] at hn
        subst hn
        simp only [RD, RV] at hr
        obtain ⟨base, cap, he, hc, hl⟩ := hr
        obtain ⟨q0, q1, q2⟩ := hq.2
        have hlen : (subList l a.toNat b.toNat).length = b.toNat - a.toNat := subList_length l _ _ (by omega) (by omega)
        rcases hcut with ⟨rfl, rfl⟩ | ⟨rfl, k, k', hh, hm⟩
        · simp only [cond_false, Option.some.injEq] at hd
          subst hd
          have hsb := run_sliceBounds (P := P) (w := w) (isS := true) hA hB q0 q1 q2 hc
          refine ⟨.slice (subAddr base cap a.toNat i.size) (b.toNat - a.toNat) (cap - a.toNat), ?_, rfl, fun loc => ?_⟩
          · rw [hexec]
            simp only [Sem.run_bind, he, Option.map_none, run_slice_slice hu hi1 hsb]
            rfl
          · simp only [RD, RV]
            refine ⟨_, _, by rw [hlen], by rw [hlen]; omega, ?_⟩
            by_cases h0 : b.toNat - a.toNat = 0
            · left; exact List.eq_nil_of_length_eq_zero (by omega)
            · right
              rcases hl with rfl | ⟨bb, off, c, rfl, h2, h3⟩
              · simp at q2; omega
              · exact ⟨bb, off + a.toNat * i.size, c, subAddr_some (by omega), h2, RVr.sub _ l c off _ _ h3⟩
        · simp only [cond_true, Option.some.injEq] at hd
          subst hd
          have hsb := run_sliceBounds3 (P := P) (w := w) (isS := true) (k := k) (k' := k') hA q0 q1 q2 hc
          refine ⟨.slice (subAddr base b.toNat a.toNat i.size) (b.toNat - a.toNat) (b.toNat - a.toNat), ?_, rfl, fun loc => ?_⟩
          · rw [hexec]
            simp only [Sem.run_bind, he, hh, hm, run_slice_slice hu hi1 hsb]
            rfl
          · simp only [RD]
            refine ⟨_, by rw [hlen], ?_⟩
            by_cases h0 : b.toNat - a.toNat = 0
            · left; exact List.eq_nil_of_length_eq_zero (by omega)
            · right
              rcases hl with rfl | ⟨bb, off, c, rfl, h2, h3⟩
              · simp at q2; omega
              · exact ⟨bb, off + a.toNat * i.size, c, subAddr_some (by omega), h2, RVr.sub _ l c off _ _ h3⟩
    · rename_i e full sz l src
      obtain ⟨_, _, hu⟩ := tyOf_slice htk
      cases hq : (elemIs (tyOf P e) sz && decide (0 ≤ a ∧ a ≤ b ∧ b ≤ (l.length : Int)) && !cutAt) with
      | false => simp only [hq, cond_false] at hd; cases hd
      | true =>
        simp only [hq, cond_true] at hd
        rw [Bool.and_eq_true, Bool.and_eq_true, decide_eq_true_eq] at hq
        obtain ⟨i, hi1, rfl, _, _⟩ := elemIs_ok hq.1.1
        simp only [lenD, Option.some.injEq] at hn
        subst hn
        simp only [RD] at hr
        obtain ⟨base, cap, he, hc, hl⟩ := hr.2.1
        obtain ⟨q0, q1, q2⟩ := hq.1.2
        have hlen : (subList l a.toNat b.toNat).length = b.toNat - a.toNat := subList_length l _ _ (by omega) (by omega)
        rcases hcut with ⟨rfl, rfl⟩ | ⟨rfl, _⟩
        · cases hd
          have hsb := run_sliceBounds (P := P) (w := w) (isS := true) hA hB q0 q1 q2 hc
          refine ⟨.slice (subAddr base cap a.toNat i.size) (b.toNat - a.toNat) (cap - a.toNat), ?_, rfl, fun loc => ?_⟩
          · rw [hexec]
            simp only [Sem.run_bind, he, Option.map_none, run_slice_slice hu hi1 hsb]
            rfl
          · simp only [RD]
            refine ⟨by simp, ⟨_, _, by rw [hlen], by rw [hlen]; omega, ?_⟩, hr.2.2⟩
            by_cases h0 : b.toNat - a.toNat = 0
            · left; exact List.eq_nil_of_length_eq_zero (by omega)
            · right
              rcases hl with rfl | ⟨bb, off, o', c, e', fr, rfl, h2, h3, h4⟩
              · simp at q2; omega
              · exact ⟨bb, off + a.toNat * i.size, o', c, e', fr, subAddr_some (by omega), h2, h3, RVr.sub _ l c off _ _ h4⟩
        · simp at hq
  split at hd
  · exact key false (.inl ⟨rfl, rfl⟩) hd
  · rename_i m
    split at hd <;> try (simp at hd; done)
    rename_i c hc
    have hC := bound_ok (ds := ds) R hc
    cases hq : (b == c && hi.isSome) with
    | false => simp only [hq, cond_false] at hd; cases hd
    | true =>
      simp only [hq, cond_true] at hd
      simp at hq
      obtain ⟨rfl, hs⟩ := hq
      refine key true (.inr ⟨rfl, ?_⟩) hd
      rcases hC with ⟨h, _⟩ | ⟨k', hk'⟩
      · simp at h
      · rcases hB with ⟨h, _⟩ | ⟨k, hk⟩
        · cases hi <;> simp at hs h
        · exact ⟨k, k', hk, hk'⟩


theorem lenD_ok {loc : Nat → Loc} {h : Array Obj} {d : D} {n : Int} {v : Value} (hr : RD h G loc d v) (hn : lenD d = some n) :
    (∃ s, d = .v (.s s) ∧ v = .string s ∧ n = s.size) ∨ ((∀ s, d ≠ .v (.s s)) ∧ ∃ base len cap, v = .slice base len cap ∧ n = (len : Nat)) := by
  unfold lenD at hn
  split at hn <;> try (simp at hn; done)
  · cases hn; exact .inl ⟨_, rfl, RD.str hr, rfl⟩
  · cases hn
    simp only [RD, RV] at hr
    obtain ⟨base, cap, he, _⟩ := hr
    exact .inr ⟨by simp, base, _, cap, he, rfl⟩
  · cases hn
    simp only [RD] at hr
    rcases hr with ⟨he, rfl⟩ | ⟨b, off, cap, c, e, fr, he, _⟩
    · exact .inr ⟨by simp, _, _, _, he, rfl⟩
    · exact .inr ⟨by simp, _, _, _, he, rfl⟩
  · cases hn
    simp only [RD] at hr
    obtain ⟨base, cap, he, _⟩ := hr.2.1
    exact .inr ⟨by simp, base, _, cap, he, rfl⟩
  · cases hn
    simp only [RD] at hr
    obtain ⟨base, he, _⟩ := hr
    exact .inr ⟨by simp, base, _, _, he, rfl⟩

theorem ok_len {o : Oper} {c : Call} (R : Rel w.heap G tmps σ) (ho : o.op = .call c) (hc : c.callee = .builtin .len) {d : D} (hd : pureOp (tyOf P) C σ true o.op = some d) : Yields P G w ⟨tmps, ds⟩ o d := by
  simp only [ho, pureOp, hc] at hd
  split at hd <;> try (simp at hd; done)
  rename_i x t hargs htys
  split at hd <;> try (simp at hd; done)
  rename_i dx hx
  have hr := R.opndF ds hx
  split at hd <;> try (simp at hd; done)
  rename_i n hn
  have ea : c.args = #[x] := by apply Array.ext'; simpa using hargs
  have et : c.argTypes = #[t] := by apply Array.ext'; simpa using htys
  have hexec : execOp (⟨tmps, ds⟩ : Act).eval o = (do pure (.value (← Builtin.len_ #[t] o.type #[(⟨tmps, ds⟩ : Act).eval x])) : Sem Next) := by
    simp [execOp, ho, resolve, hc, ea, et, invoke, builtin]
  split at hd <;> try (simp at hd; done)
  · rename_i htk
    obtain ⟨_, _, hu⟩ := tyOf_str htk
    split at hd <;> try (simp at hd; done)
    cases hd
    rename_i s
    rcases lenD_ok hr hn with ⟨s', h1, h2, h3⟩ | ⟨h1, _⟩
    · cases h1
      refine ⟨.int .i64 n, ?_, rfl, fun loc => by simp only [RD, RV]⟩
      rw [hexec]
      simp [Sem.run_bind, Builtin.len_, h2, run_underlying hu, goInt, h3]
    · exact absurd rfl (h1 s)
  · rename_i e htk
    obtain ⟨_, _, hu⟩ := tyOf_slice htk
    rcases lenD_ok hr hn with ⟨s', h1, h2, h3⟩ | ⟨h1, base, len, cap, h2, h3⟩
    · subst h1; simp at hd
    · split at hd
      · rename_i s; exact absurd rfl (h1 s)
      · cases hd
        refine ⟨.int .i64 n, ?_, rfl, fun loc => by simp only [RD, RV]⟩
        rw [hexec]
        simp [Sem.run_bind, Builtin.len_, h2, run_underlying hu, goInt, h3]

theorem ok_max {o : Oper} {c : Call} (R : Rel w.heap G tmps σ) (ho : o.op = .call c) (hc : c.callee = .builtin .max) {d : D} (hd : pureOp (tyOf P) C σ true o.op = some d) : Yields P G w ⟨tmps, ds⟩ o d := by
  simp only [ho, pureOp, hc] at hd
  split at hd <;> try (simp at hd; done)
  rename_i x y hargs
  split at hd <;> try (simp at hd; done)
  rename_i k a k' b hx hy
  have hx := RD.int (R.opndF ds hx)
  have hy := RD.int (R.opndF ds hy)
  cases hd
  have ea : c.args = #[x, y] := by apply Array.ext'; simpa using hargs
  refine ⟨.int k (if b > a then b else a), ?_, rfl, fun loc => by simp only [RD, RV]⟩
  simp [execOp, ho, resolve, hc, ea, invoke, builtin, Builtin.max_, Sem.run_bind, hx, hy, Builtin.max2]
theorem ok_min {o : Oper} {c : Call} (R : Rel w.heap G tmps σ) (ho : o.op = .call c) (hc : c.callee = .builtin .min) {d : D} (hd : pureOp (tyOf P) C σ true o.op = some d) : Yields P G w ⟨tmps, ds⟩ o d := by
  simp only [ho, pureOp, hc] at hd
  split at hd <;> try (simp at hd; done)
  rename_i x y hargs
  split at hd <;> try (simp at hd; done)
  rename_i k a k' b hx hy
  have hx := RD.int (R.opndF ds hx)
  have hy := RD.int (R.opndF ds hy)
  cases hd
  have ea : c.args = #[x, y] := by apply Array.ext'; simpa using hargs
  refine ⟨.int k (if b < a then b else a), ?_, rfl, fun loc => by simp only [RD, RV]⟩
  simp [execOp, ho, resolve, hc, ea, invoke, builtin, Builtin.min_, Sem.run_bind, hx, hy, Builtin.min2]

/-- A slice's bytes in memory, read one by one. -/
theorem allBytes_cells : ∀ (l : List (List V)) (c : Array Value) (off i : Nat), allBytes l = true → RVr G.rd 1 l c off → i < l.length → ∃ n : Int, 0 ≤ n ∧ n < 256 ∧ c[off + i]? = some (.int .u8 n) ∧ (rowsBytes l).data[i]? = some (UInt8.ofNat n.toNat)
  | [], _, _, _, _, _, h => by simp at h
  | r :: l, c, off, i, hb, hr, hi => by
    match r, hb with
    | [.i .u8 n], hb =>
      simp only [allBytes, Bool.and_eq_true, decide_eq_true_eq] at hb
      simp only [RVr, RVc, RV] at hr
      obtain ⟨_, ⟨⟨v, h1, rfl⟩, _⟩, h3⟩ := hr
      cases i with
      | zero => exact ⟨n, hb.1.1, hb.1.2, by simpa using h1, by simp [rowsBytes]⟩
      | succ i =>
        obtain ⟨m, g0, g1, g2, g3⟩ := allBytes_cells l c (off + 1) i hb.2 h3 (by simpa using hi)
        exact ⟨m, g0, g1, by rw [← g2]; congr 1; omega, by simpa [rowsBytes] using g3⟩

def numOf : List V → Int
  | [.i _ n] => n
  | _ => 0
theorem rowsBytes_eq (l : List (List V)) : rowsBytes l = ⟨((l.map numOf).map fun n => UInt8.ofNat n.toNat).toArray⟩ := by
  unfold rowsBytes
  congr 2
  rw [List.map_map]
  apply List.map_congr_left
  intro r _
  match r with
  | [] => rfl
  | [.i _ _] => rfl
  | [.b _] => rfl
  | [.s _] => rfl
  | [.sl ..] => rfl
  | .b _ :: _ :: _ => rfl
  | .i _ _ :: _ :: _ => rfl
  | .s _ :: _ :: _ => rfl
  | .sl .. :: _ :: _ => rfl
theorem allBytes_num : ∀ (l : List (List V)) (c : Array Value) (off i : Nat), allBytes l = true → RVr G.rd 1 l c off → i < l.length → c[off + i]? = some (.int .u8 ((l.map numOf).getD i 0))
  | [], _, _, _, _, _, h => by simp at h
  | r :: l, c, off, i, hb, hr, hi => by
    match r, hb with
    | [.i .u8 n], hb =>
      simp only [allBytes, Bool.and_eq_true, decide_eq_true_eq] at hb
      simp only [RVr, RVc, RV] at hr
      obtain ⟨_, ⟨⟨v, h1, rfl⟩, _⟩, h3⟩ := hr
      cases i with
      | zero => simpa [numOf] using h1
      | succ i =>
        have := allBytes_num l c (off + 1) i hb.2 h3 (by simpa using hi)
        rw [show off + (i + 1) = off + 1 + i by omega, this]
        simp

theorem run_bytes_str {src dst e : Nat} (hs : P.underlying src = some (.slice e)) (he : P.underlying e = some (.int .u8)) (hdst : P.underlying dst = some .string) {b off cap : Nat} {c : Array Value} {e' : TypeId} {fr : Nat × Nat} {l : List (List V)}
    (hb : w.heap[b]? = some (.cells c e' fr)) (hl : allBytes l = true) (hr : RVr G.rd 1 l c off) : (Go.convert src dst (.slice (some ⟨b, off, none⟩) l.length cap)).run P w = .ok (.string (rowsBytes l)) w := by
  rw [run_convert_bytes_arg w src e hs he b off l.length cap (l.map numOf) (by simp) (fun i hi => by rw [cell_of rfl hb]; exact allBytes_num l c off i hl hr hi) dst hdst, rowsBytes_eq]
  rfl

theorem allBytes_sz {sz : Nat} {c : Array Value} {off : Nat} : ∀ (l : List (List V)), allBytes l = true → l ≠ [] → RVr G.rd sz l c off → sz = 1
  | [], _, h, _ => absurd rfl h
  | r :: l, hb, _, hr => by
    match r, hb with
    | [.i .u8 n], hb => simp only [RVr] at hr; have := hr.1; simpa using this.symm

theorem ok_convert {o : Oper} {x : Operand} {src dst : Nat} (R : Rel w.heap G tmps σ) (ho : o.op = .convert src dst x) {d : D} (hd : pureOp (tyOf P) C σ true o.op = some d) : Yields P G w ⟨tmps, ds⟩ o d := by
  simp only [ho, pureOp] at hd
  split at hd <;> try (simp at hd; done)
  · rename_i k n hx
    have hn := RD.int (R.opndF ds hx)
    split at hd <;> try (simp at hd; done)
    rename_i k1 k2 h1 h2
    obtain ⟨_, _, hu⟩ := tyOf_int h2
    obtain ⟨_, _, hu1⟩ := tyOf_int h1
    cases hd
    refine ⟨.int k2 (k2.wrap n), ?_, rfl, fun loc => by simp only [RD, RV]⟩
    simp [execOp, ho, hn, Sem.run_bind, Go.convert, run_underlying hu, run_underlying hu1, Conv.intToInt]
  · rename_i s hx
    have hn := RD.str (R.opndF ds hx)
    split at hd <;> try (simp at hd; done)
    rename_i h1 h2
    obtain ⟨_, _, hu⟩ := tyOf_str h2
    obtain ⟨_, _, hu1⟩ := tyOf_str h1
    cases hd
    refine ⟨.string s, ?_, rfl, fun loc => by simp only [RD, RV]⟩
    simp [execOp, ho, hn, Sem.run_bind, Go.convert, run_underlying hu, run_underlying hu1]
  · rename_i dx _ _ hx
    have hr := R.opndF ds hx
    split at hd <;> try (simp at hd; done)
    rename_i e sz l h1 h2 hsl
    obtain ⟨_, _, hu1⟩ := tyOf_slice h1
    obtain ⟨_, _, hu2⟩ := tyOf_str h2
    split at hd <;> try (simp at hd; done)
    rename_i he
    obtain ⟨_, _, hu3⟩ := tyOf_int he
    cases hb : allBytes l with
    | false => simp [hb] at hd
    | true =>
      simp [hb] at hd; subst hd
      refine ⟨.string (rowsBytes l), ?_, rfl, fun loc => by simp only [RD, RV]⟩
      have hexec : execOp (⟨tmps, ds⟩ : Act).eval o = (do pure (.value (← Go.convert src dst ((⟨tmps, ds⟩ : Act).eval x))) : Sem Next) := by simp only [execOp, ho]
      rw [hexec, Sem.run_bind]
      -- what the operand is in memory
      have key : (∃ a len cap, (⟨tmps, ds⟩ : Act).eval x = .slice a len cap ∧ l = [] ∧ len = 0) ∨ ∃ b off cap c e' fr, (⟨tmps, ds⟩ : Act).eval x = .slice (some ⟨b, off, none⟩) l.length cap ∧ w.heap[b]? = some (.cells c e' fr) ∧ RVr G.rd sz l c off := by
        unfold sliceOf at hsl
        split at hsl <;> try (simp at hsl; done)
        · cases hsl
          simp only [RD, RV] at hr
          obtain ⟨base, cap, g1, g2, g3⟩ := hr
          rcases g3 with rfl | ⟨b, off, c, rfl, g4, g5⟩
          · exact .inl ⟨base, 0, cap, by simpa using g1, rfl, rfl⟩
          · obtain ⟨e', fr, g6⟩ := R.inv.rd_ok b c g4
            exact .inr ⟨b, off, cap, c, e', fr, g1, g6, g5⟩
        · cases hsl
          simp only [RD] at hr
          rcases hr with ⟨g1, rfl⟩ | ⟨b, off, cap, c, e', fr, g1, g2, g3, g4, g5, g6, g7⟩
          · exact .inl ⟨none, 0, 0, g1, rfl, rfl⟩
          · exact .inr ⟨b, off, cap, c, e', fr, g1, g3, g7⟩
        · cases hsl
          simp only [RD] at hr
          obtain ⟨base, cap, g1, g2, g3⟩ := hr.2.1
          rcases g3 with rfl | ⟨b, off, o', c, e', fr, rfl, g4, g5, g6⟩
          · exact .inl ⟨base, 0, cap, by simpa using g1, rfl, rfl⟩
          · exact .inr ⟨b, off, cap, c, e', fr, g1, g5, g6⟩
        · cases hsl
          simp only [RD] at hr
          obtain ⟨base, g1, g3⟩ := hr
          rcases g3 with rfl | ⟨b, off, c, rfl, g4, g5⟩
          · exact .inl ⟨base, 0, 0, by simpa using g1, rfl, rfl⟩
          · obtain ⟨e', fr, g6⟩ := R.inv.rd_ok b c g4
            exact .inr ⟨b, off, l.length, c, e', fr, g1, g6, g5⟩
      by_cases hl0 : l = []
      · subst hl0
        have : ∃ a cap, (⟨tmps, ds⟩ : Act).eval x = .slice a 0 cap := by
          rcases key with ⟨a, len, cap, g1, _, rfl⟩ | ⟨b, off, cap, c, e', fr, g1, _⟩
          · exact ⟨a, cap, g1⟩
          · exact ⟨_, cap, g1⟩
        obtain ⟨a, cap, g1⟩ := this
        rw [g1]
        cases a with
        | none => rw [run_convert_bytes_nil w src e hu1 hu3 0 cap dst hu2]; rfl
        | some a =>
          have hz : (loadCells a 0).run P w = .ok (([] : List Int).map (Value.int .u8)).toArray w := by simp [loadCells, loadCellsFrom]
          rw [run_convert_bytes_string w src dst e _ 0 cap hu1 hu3 hu2, run_bytesToString w a 0 cap [] hz]
          rfl
      · rcases key with ⟨a, len, cap, g1, g2, _⟩ | ⟨b, off, cap, c, e', fr, g1, g2, g3⟩
        · exact absurd g2 hl0
        · have := allBytes_sz l hb hl0 g3
          subst this
          rw [g1, run_bytes_str hu1 hu3 hu2 g2 hb g3]
          rfl

end
end Go.Mx
