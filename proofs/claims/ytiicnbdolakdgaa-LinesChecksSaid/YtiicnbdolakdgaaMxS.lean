/- Calls. -/
import Derived.Test.YtiicnbdolakdgaaMxR
import Derived.Conc.MuLone
set_option linter.unusedVariables false
set_option linter.unusedSimpArgs false
set_option linter.constructorNameAsVariable false
set_option linter.unnecessarySimpa false
namespace Go.Mx
open Go

/-- A function is called, and comes back. -/
def Enters (P : Program) (f : FuncId) (args : Array Value) (w : World) (R : Value → World → Prop) : Prop :=
  match (callFunc f args).run P w with
  | .ok (.enter g xs) w1 => Calls P g xs w1 fun e w2 => ∃ v, e = .returned v ∧ R v w2
  | .ok (.value v) w1 => R v w1
  | .ok (.row r xs) w1 => Rows P r xs w1 R
  | _ => False

theorem Enters.mono {P : Program} {f : FuncId} {args : Array Value} {w : World} {R R' : Value → World → Prop} (h : Enters P f args w R) (hr : ∀ v w', R v w' → R' v w') : Enters P f args w R' := by
  unfold Enters at *
  split at h
  · exact h.mono (fun e w2 ⟨v, h1, h2⟩ => ⟨v, h1, hr _ _ h2⟩)
  · exact hr _ _ h
  · exact h.mono hr
  · exact h.elim

/-- The arguments lie in the hands, each in its own. -/
structure Args (h : Array Obj) (G : Gh) (args : List D) (vals : List Value) : Prop where
  len : vals.length = args.length
  rd : ∀ (j : Nat) (d : D), args[j]? = some d → ∃ v, vals[j]? = some v ∧ RD h G (Loc.hand j) d v ∧ valOk d = true
  own : ∀ k j p, G.ow (.hand k j) = some p → ∃ d, args[k]? = some d ∧ dOwns d j = true

/-- What comes back lies in hand 0. -/
structure Res (h : Array Obj) (G : Gh) (n : Nat) (d : D) (v : Value) : Prop where
  rd : RD h G (Loc.hand 0) d v
  ok : valOk d = true ∨ ownFree d = true
  own : ∀ k j p, G.ow (.hand k j) = some p → k = 0 ∧ dOwns d j = true

/-- What a call does, said of data: THE CONTRACT of every function. -/
def Sem (P : Program) (f : FuncId) (args : List D) (S : Store) (d : D) (S' : Store) : Prop :=
  ∀ (w : World) (G : Gh) (vals : List Value), Rel w.heap G #[] ⟨[], S⟩ → Low S → Args w.heap G args vals →
    Enters P f vals.toArray w fun v w' => ∃ G', Rel w'.heap G' #[] ⟨[], S'⟩ ∧ Low S' ∧ Goes w G ⟨[], S⟩ w' G' ⟨[], S'⟩ ∧ S'.length = S.length ∧ Res w'.heap G' S.length d v

def SoundC (P : Program) (C : Oracle) : Prop := ∀ f args S d S', C f args S = some (d, S') → Sem P f args S d S'

section
variable {P : Program} {w : World} {h : Array Obj} {G : Gh} {tmps : Array Value} {σ σ' : St} {ds : List Deferred} {C : Oracle} {ro mv gv : Nat → Bool} {o : Oper}

/-! ### The bare world of a call -/
theorem Rel.bare {h : Array Obj} {G : Gh} {S : Store} (I : Inv h G) (obj : ∀ o cs, S[o]? = some cs → ROb h G o cs) (obc : ∀ (o : Nat) (cs : List D), S[o]? = some cs → cs.all cellOk = true) (obn : ∀ o, S.length ≤ o → G.ob o = none)
    (own : ∀ l p, (∀ k j, l ≠ .hand k j) → G.ow l = some p → ownsAt ⟨[], S⟩ l = true) : Rel h G #[] ⟨[], S⟩ :=
  ⟨I, fun t => by simp only [look, RD], obj, obc, obn, own⟩

/-- The call's operation, in terms of its function. -/
theorem execOp_func {c : Call} {f : FuncId} (ho : o.op = .call c) (hc : c.callee = .value (.func f)) : (execOp (⟨tmps, ds⟩ : Act).eval o).run P w = (callFunc f (c.args.map (⟨tmps, ds⟩ : Act).eval)).run P w := by
  simp [execOp, ho, resolve, hc, Deferred.ofValue, invoke, Act.eval]
theorem execOp_clo {c : Call} {x : Tmp} {f : FuncId} {caps : Array Value} (ho : o.op = .call c) (hc : c.callee = .value (.tmp x)) (hx : (⟨tmps, ds⟩ : Act).eval (.tmp x) = .func (.func f) #[] caps) :
    (execOp (⟨tmps, ds⟩ : Act).eval o).run P w = (callFunc f (c.args.map (⟨tmps, ds⟩ : Act).eval ++ caps)).run P w := by
  simp [execOp, ho, resolve, hc, hx, Deferred.ofValue, invoke]

theorem wp_enters {f : FuncId} {args : Array Value} {a : Act} {next : Act → World → Prop} {Q : Exit → Act → World → Prop} {R : Value → World → Prop} (hrun : (execOp a.eval o).run P w = (callFunc f args).run P w) (h : Enters P f args w R) (hR : ∀ v w', R v w' → next (a.put o.dst v) w') : o.wp P a w next Q := by
  unfold Oper.wp
  rw [hrun]
  unfold Enters at h
  split at h <;> rename_i heq <;> try rw [heq]
  · rw [Oper.upon_enter]
    refine h.mono (fun e w2 ⟨v, h1, h2⟩ => ?_)
    subst h1
    exact hR v w2 h2
  · rw [Oper.upon_value]; exact hR _ _ h
  · rw [Oper.upon_row]
    exact h.mono hR
  · exact h.elim

/-! ### Pure calls -/
open Classical in
/-- Every owned row is lent. -/
noncomputable def lentRd (h : Array Obj) (G : Gh) : Rd := fun b => if (∃ l f, G.ow l = some (b, f)) then (match h[b]? with | some (.cells c _ _) => some c | _ => none) else G.rd b
theorem lentRd_ow {l : Loc} {b f : Nat} {c : Array Value} {e : TypeId} {fr : Nat × Nat} (hl : G.ow l = some (b, f)) (hb : h[b]? = some (.cells c e fr)) : lentRd h G b = some c := by
  unfold lentRd
  rw [if_pos ⟨l, f, hl⟩, hb]
theorem lentRd_no {b : Nat} (hb : ¬ ∃ l f, G.ow l = some (b, f)) : lentRd h G b = G.rd b := by
  unfold lentRd
  rw [if_neg hb]
theorem lentRd_le (I : Inv h G) : RdLe G.rd (lentRd h G) := by
  intro b c hc
  rw [lentRd_no]
  · exact hc
  · rintro ⟨l, f, hl⟩
    rw [I.ow_rd l b f hl] at hc; cases hc

theorem RD.noSl {h h' : Array Obj} {G G' : Gh} {loc loc' : Nat → Loc} {d : D} {v : Value} (hn : noSl d = true) (hr : RD h G loc d v) : RD h' G' loc' d v := by
  have one : ∀ (d : D) (v : Value) (loc loc' : Nat → Loc), noSlC d = true → RD h G loc d v → RD h' G' loc' d v := by
    intro d v loc loc' hd hr
    cases d with
    | v x =>
      simp only [RD] at *
      have := RV.scal (by simpa [noSlC] using hd) hr
      rw [this]
      exact RV.ofScal (by simpa [noSlC] using hd)
    | _ => simp [noSlC] at hd
  have many : ∀ (cs : List D) (vs : List Value) (j j' : Nat) (loc loc' : Nat → Loc), cs.all noSlC = true → RDs h G loc j cs vs → RDs h' G' loc' j' cs vs := by
    intro cs
    induction cs with
    | nil => intro vs j j' loc loc' _ hr; cases vs with
      | nil => simp only [RDs]
      | cons _ _ => simp only [RDs] at hr
    | cons d r ih => intro vs j j' loc loc' hc hr; cases vs with
      | nil => simp only [RDs] at hr
      | cons v vs =>
        simp only [List.all_cons, Bool.and_eq_true] at hc
        simp only [RDs] at *
        exact ⟨one d v _ _ hc.1 hr.1, ih vs _ _ _ _ hc.2 hr.2⟩
  cases d with
  | agg cs =>
    simp only [RD] at *
    obtain ⟨vs, h1, h2⟩ := hr
    exact ⟨vs, h1, many cs _ 0 0 _ _ (by simpa [Mx.noSl] using hn) h2⟩
  | tup cs =>
    simp only [RD] at *
    obtain ⟨vs, h1, h2⟩ := hr
    exact ⟨vs, h1, many cs _ 0 0 _ _ (by simpa [Mx.noSl] using hn) h2⟩
  | v x => exact one (.v x) v loc loc' (by simpa [Mx.noSl] using hn) hr
  | _ => simp [Mx.noSl, noSlC] at hn
theorem noSl_ok {d : D} (hn : noSl d = true) : ownFree d = true ∧ ∀ j, dOwns d j = false := by
  have many : ∀ cs : List D, cs.all noSlC = true → cs.all ownFreeC = true ∧ ∀ (j : Nat) (d : D), cs[j]? = some d → isOwn d = false := by
    intro cs hc
    refine ⟨?_, ?_⟩
    · rw [List.all_eq_true] at *
      intro d hd
      have := hc d hd
      cases d <;> first | rfl | simp [noSlC] at this
    · intro j d hd
      have := List.all_eq_true.1 hc d (List.mem_of_getElem? hd)
      cases d <;> first | rfl | simp [noSlC] at this
  cases d with
  | agg cs =>
    obtain ⟨h1, h2⟩ := many cs (by simpa [Mx.noSl] using hn)
    refine ⟨by simpa [ownFree] using h1, fun j => ?_⟩
    simp only [dOwns]
    cases hj : cs[j]? with
    | none => rfl
    | some d => exact h2 j d hj
  | tup cs => exact ⟨rfl, fun _ => rfl⟩
  | v x => exact ⟨rfl, fun _ => rfl⟩
  | _ => simp [Mx.noSl, noSlC] at hn

/-- A lent argument. -/
theorem RD.lend {h : Array Obj} {G G1 : Gh} {loc loc' : Nat → Loc} {d : D} {v : Value} (hb : bareC (Mx.lend d) = true) (hle : RdLe G.rd G1.rd) (htr : tracked d = true → G1.rd = lentRd h G) (hr : RD h G loc d v) : RD h G1 loc' (Mx.lend d) v := by
  cases d with
  | v x => simp only [Mx.lend, RD] at *; exact RV.mono hle _ _ hr
  | own sz l =>
    simp only [Mx.lend, RD, RV, ROwn] at *
    rcases hr with ⟨rfl, rfl⟩ | ⟨b, off, cap, c, e, fr, h1, h2, h3, h4, h5, h6, h7⟩
    · exact ⟨none, 0, rfl, Nat.le_refl _, .inl rfl⟩
    · exact ⟨_, cap, h1, h5.1, .inr ⟨b, off, c, rfl, by rw [htr rfl]; exact lentRd_ow h2 h3, RVr.mono hle _ _ _ _ h7⟩⟩
  | al f sz l src =>
    simp only [Mx.lend, RD, RV, RPart] at *
    obtain ⟨_, ⟨base, cap, h1, h2, h3⟩, _⟩ := hr
    refine ⟨base, cap, h1, h2, h3.imp id ?_⟩
    rintro ⟨b, off, _, c, e, fr, g1, g2, g3, g4⟩
    exact ⟨b, off, c, g1, by rw [htr rfl]; exact lentRd_ow g2 g3, RVr.mono hle _ _ _ _ g4⟩
  | cut sz l =>
    simp only [Mx.lend, RD, RV] at *
    obtain ⟨base, h1, h2⟩ := hr
    refine ⟨base, _, h1, Nat.le_refl _, h2.imp id ?_⟩
    rintro ⟨b, off, c, g1, g2, g3⟩
    exact ⟨b, off, c, g1, hle _ _ g2, RVr.mono hle _ _ _ _ g3⟩
  | _ => simp [Mx.lend, bareC] at hb
theorem RD.lendA {h : Array Obj} {G G1 : Gh} {loc loc' : Nat → Loc} {d : D} {v : Value} (hb : Mx.bare (Mx.lendA d) = true) (hle : RdLe G.rd G1.rd) (htr : trackedA d = true → G1.rd = lentRd h G) (hr : RD h G loc d v) : RD h G1 loc' (Mx.lendA d) v ∧ valOk (Mx.lendA d) = true ∧ ∀ j, dOwns (Mx.lendA d) j = false := by
  have many : ∀ (cs : List D) (vs : List Value) (j j' : Nat) (loc loc' : Nat → Loc), (cs.map Mx.lend).all bareC = true → (cs.any tracked = true → G1.rd = lentRd h G) → RDs h G loc j cs vs → RDs h G1 loc' j' (cs.map Mx.lend) vs := by
    intro cs
    induction cs with
    | nil => intro vs j j' loc loc' _ _ hr; cases vs with
      | nil => simp only [List.map_nil, RDs]
      | cons _ _ => simp only [RDs] at hr
    | cons d r ih => intro vs j j' loc loc' hc ht hr; cases vs with
      | nil => simp only [RDs] at hr
      | cons v vs =>
        simp only [List.map_cons, List.all_cons, Bool.and_eq_true] at hc
        simp only [List.map_cons, RDs] at *
        exact ⟨RD.lend hc.1 hle (fun h => ht (by simp [h])) hr.1, ih vs _ _ _ _ hc.2 (fun h => ht (by simp at h; simp [h])) hr.2⟩
  have single : ∀ d' : D, bareC d' = true → valOk d' = true ∧ ∀ j, dOwns d' j = false := by
    intro d' hd
    cases d' <;> first | exact ⟨rfl, fun _ => rfl⟩ | simp [bareC] at hd
  cases d with
  | agg cs =>
    simp only [Mx.lendA, Mx.bare] at hb
    refine ⟨?_, ?_, ?_⟩
    · simp only [Mx.lendA, RD] at *
      obtain ⟨vs, h1, h2⟩ := hr
      exact ⟨vs, h1, many cs _ 0 0 _ _ hb (by simpa [trackedA] using htr) h2⟩
    · simp only [Mx.lendA, valOk]
      rw [List.all_eq_true] at *
      intro d hd
      have := hb d hd
      cases d <;> first | rfl | simp [bareC] at this
    · intro j
      simp only [Mx.lendA, dOwns]
      cases hj : (cs.map Mx.lend)[j]? with
      | none => rfl
      | some d =>
        have := List.all_eq_true.1 hb d (List.mem_of_getElem? hj)
        cases d <;> first | rfl | simp [bareC] at this
  | clo f cs =>
    cases cs with
    | nil => refine ⟨?_, rfl, fun _ => rfl⟩; simp only [Mx.lendA, Mx.lend, RD] at *; obtain ⟨vs, h1, h2⟩ := hr; refine ⟨vs, h1, ?_⟩; cases hv : vs.toList with
      | nil => simp only [RDs]
      | cons _ _ => rw [hv] at h2; simp only [RDs] at h2
    | cons _ _ => simp [Mx.lendA, Mx.lend, Mx.bare, bareC] at hb
  | v x => exact ⟨RD.lend (d := .v x) rfl hle (by simpa [trackedA] using htr) hr, single _ rfl⟩
  | own sz l => exact ⟨RD.lend (d := .own sz l) rfl hle (by simpa [trackedA] using htr) hr, single _ rfl⟩
  | al f sz l src => exact ⟨RD.lend (d := .al f sz l src) rfl hle (by simpa [trackedA] using htr) hr, single _ rfl⟩
  | cut sz l => exact ⟨RD.lend (d := .cut sz l) rfl hle (by simpa [trackedA] using htr) hr, single _ rfl⟩
  | _ => simp [Mx.lendA, Mx.lend, Mx.bare, bareC] at hb
end
end Go.Mx
