/- A law: it runs to 'true' on plain data, so it does at every input. -/
import Derived.Test.YtiicnbdolakdgaaMxZi
set_option linter.unusedVariables false
set_option linter.unusedSimpArgs false
set_option linter.constructorNameAsVariable false
set_option linter.unnecessarySimpa false
namespace Go.Mx
open Go Go.RowKit

section
variable (P : Program)
/-- An argument as plain data. -/
def argD (t : TypeId) (r : List V) : D := match P.underlying t with
  | some (.struct _) => .agg (r.map .v)
  | _ => match r with
    | [x] => .v x
    | _ => .bad
def argsD : List TypeId → List (List V) → List D
  | t :: ts, r :: rs => argD P t r :: argsD ts rs
  | _, _ => []
/-- The same, shut: so that nobody computes it. -/
structure HasV (k : Nat) (t : TypeId) (r : List V) : Prop where
  out : Has P k t r
def HasAll : List TypeId → List (List V) → Prop
  | [], [] => True
  | t :: ts, r :: rs => HasV P 12 t r ∧ HasAll ts rs
  | _, _ => False
end

section
variable {P : Program} {H : Type} {enc : TypeId × Value → H} {w : World}

def startG (w : World) : Gh := ⟨rdOf w, fun _ => none, fun _ => none⟩

theorem RDs_ofV {h : Array Obj} {G : Gh} {loc : Nat → Loc} : ∀ (r : List V) (j : Nat) (c : Array Value) (off : Nat), RVc G.rd r c off → off + r.length = c.size → RDs h G loc j (r.map .v) (c.toList.drop off)
  | [], j, c, off, _, hs => by
    have : c.toList.drop off = [] := by simp at hs ⊢; omega
    rw [this]; simp only [List.map_nil, RDs]
  | x :: r, j, c, off, hr, hs => by
    simp only [RVc] at hr
    obtain ⟨⟨v, h1, h2⟩, h3⟩ := hr
    have hlt : off < c.toList.length := by simp at hs ⊢; omega
    have : c.toList.drop off = v :: c.toList.drop (off + 1) := by
      rw [List.drop_eq_getElem_cons hlt]
      congr 1
      have := Array.getElem?_eq_some_iff.1 h1
      obtain ⟨_, e⟩ := this
      simpa using e
    rw [this]
    simp only [List.map_cons, RDs, RD]
    exact ⟨h2, RDs_ofV r (j + 1) c (off + 1) h3 (by simp at hs ⊢; omega)⟩

theorem argV_ok {base : Nat} {t : TypeId} {v : Value} {d : DataW H} {ps : List MemPlace} (hp : plainT P 12 t = true) (hok : Value.okWide P w .any base t v) (ht : DataW.Trod enc P w 0 (fun _ => true) true t v d ps) (hw : ∀ n ∈ d.weights P t, n ≤ reachBytes) (loc : Nat → Loc) :
    ∃ r, Has P 12 t r ∧ RD w.heap (startG w) loc (argD P t r) v ∧ valOk (argD P t r) = true := by
  obtain ⟨fuel, ht⟩ := ht
  obtain ⟨r, r1, r2, r3⟩ := trod_V 12 fuel t _ d ps hp ht hw
  refine ⟨r, r2, ?_⟩
  have hone : P.cellsOf t = 1 → (∀ cs, v ≠ .agg cs) → ∀ x, r = [x] → RD w.heap (startG w) loc (.v x) v ∧ valOk (.v x) = true := by
    intro _ hna x hx
    subst hx
    simp only [RVc, and_true] at r1
    obtain ⟨v', h1, h2⟩ := r1
    have : v.cells = #[v] := by cases v <;> first | rfl | exact absurd rfl (hna _)
    rw [this] at h1
    simp only [List.getElem?_toArray, List.getElem?_cons_zero, Option.some.injEq] at h1
    subst h1
    exact ⟨by simp only [RD]; exact h2, rfl⟩
  have hnon : (∀ fs, P.underlying t ≠ some (.struct fs)) → (∀ cs, v ≠ .agg cs) ∧ P.cellsOf t = 1 := by
    intro hns
    unfold plainT at hp
    unfold Value.okWide Cell.okWide Cell.ok at hok
    cases hu : P.underlying t with
    | none => rw [hu] at hp; cases hp
    | some desc =>
      rw [hu] at hp hok
      cases desc <;> simp only [Bool.and_eq_true, beq_iff_eq, reduceCtorEq, Bool.false_eq_true] at hp
      case struct fs => exact absurd hu (hns fs)
      all_goals (refine ⟨fun cs hc => ?_, by first | exact hp | exact hp.2⟩; subst hc; simp at hok)
  unfold argD
  cases hu : P.underlying t with
  | none => unfold plainT at hp; rw [hu] at hp; cases hp
  | some desc =>
    cases desc with
    | struct fs =>
      simp only
      unfold Value.okWide at hok
      rw [hu] at hok
      simp only at hok
      obtain ⟨cs, rfl, hs, _⟩ := hok
      refine ⟨?_, ?_⟩
      · simp only [RD]
        refine ⟨cs, rfl, ?_⟩
        have := RDs_ofV (h := w.heap) (G := startG w) (loc := loc) r 0 cs 0 (by simpa [Value.cells, startG] using r1) (by rw [r3, hs]; simp)
        simpa using this
      · simp only [valOk, List.all_map, List.all_eq_true]
        intro x _
        rfl
    | _ =>
      obtain ⟨hna, hc⟩ := hnon (fun fs => by rw [hu]; simp)
      have hr : ∃ x, r = [x] := by
        rw [hc] at r3
        match r, r3 with
        | [x], _ => exact ⟨x, rfl⟩
      obtain ⟨x, rfl⟩ := hr
      exact hone hc hna x rfl

theorem argsV_ok {base : Nat} : ∀ {ts : List TypeId} {vs : List Value} {ds : List (DataW H)} {ps : List MemPlace} (k : Nat), ts.all (plainT P 12) = true → (∀ (j : Nat) t v, ts[j]? = some t → vs[j]? = some v → Value.okWide P w .any base t v) → DataW.TrodAll enc P w 0 (fun _ => true) true ts vs ds ps →
    (∀ n ∈ DataW.weightsEach P ts ds, n ≤ reachBytes) → ∃ rs, HasAll P ts rs ∧ vs.length = (argsD P ts rs).length ∧ ∀ (j : Nat) (d : D), (argsD P ts rs)[j]? = some d → ∃ v, vs[j]? = some v ∧ RD w.heap (startG w) (Loc.hand (k + j)) d v ∧ valOk d = true
  | [], vs, ds, ps, k, hp, hok, ht, hw => by
    obtain ⟨rfl, rfl, rfl⟩ := ChangeShapes.trodAll_nil ht
    exact ⟨[], trivial, rfl, fun j d hd => by simp [argsD] at hd⟩
  | t :: ts, vs, ds, ps, k, hp, hok, ht, hw => by
    obtain ⟨v, vs', d, ds', p, q, rfl, rfl, rfl, hd, hrest⟩ := ChangeShapes.trodAll_cons ht
    simp only [List.all_cons, Bool.and_eq_true] at hp
    rw [DataW.weightsEach] at hw
    obtain ⟨r, r1, r2, r3⟩ := argV_ok hp.1 (hok 0 t v rfl rfl) hd (fun n hn => hw n (List.mem_append_left _ hn)) (Loc.hand k)
    obtain ⟨rs, s1, s2, s3⟩ := argsV_ok (k + 1) hp.2 (fun j t v h1 h2 => hok (j + 1) t v (by simpa using h1) (by simpa using h2)) hrest (fun n hn => hw n (List.mem_append_right _ hn))
    refine ⟨r :: rs, ⟨⟨r1⟩, s1⟩, by simp [argsD, s2], fun j d hd => ?_⟩
    cases j with
    | zero =>
      simp only [argsD, List.getElem?_cons_zero, Option.some.injEq] at hd
      subst hd
      exact ⟨v, rfl, by simpa using r2, r3⟩
    | succ j =>
      simp only [argsD, List.getElem?_cons_succ] at hd
      obtain ⟨v', h1, h2, h3⟩ := s3 j d hd
      exact ⟨v', by simpa using h1, by simpa [Nat.add_assoc, Nat.add_comm 1] using h2, h3⟩

theorem law_calls {base : Nat} {f : FuncId} {fn : Func} {ts : List TypeId} {args : Array Value} {ds : List (DataW H)} {ps : List MemPlace} (hf : P.funcs[f]? = some fn) (hok : fnOk fn = true) (hp : ts.all (plainT P 12) = true)
    (hsem : ∀ rs, HasAll P ts rs → Mx.Sem P f (argsD P ts rs) [] (.v (.b true)) [])
    (hval : ∀ (j : Nat) t v, ts[j]? = some t → args.toList[j]? = some v → Value.okWide P w .any base t v) (ht : DataW.TrodAll enc P w 0 (fun _ => true) true ts args.toList ds ps) (hw : ∀ n ∈ DataW.weightsEach P ts ds, n ≤ reachBytes) :
    Calls P f args w fun e w' => e = .returned (.bool true) ∧ Below w.heap.size w w' := by
  obtain ⟨rs, h1, h2, h3⟩ := argsV_ok 0 hp hval ht hw
  have hrel : Rel w.heap (startG w) #[] ⟨[], []⟩ := by
    refine ⟨⟨?_, ?_, ?_, ?_, ?_, ?_, ?_, ?_⟩, fun t => by simp only [look, RD], ?_, ?_, fun o _ => rfl, fun l p _ h => by simp [startG] at h⟩
    · intro b c hb
      simp only [startG, rdOf] at hb
      split at hb
      · rename_i c' e fr heq
        simp only [Option.some.injEq] at hb
        subst hb
        exact ⟨e, fr, heq⟩
      · cases hb
    all_goals (intros; simp_all [startG])
  have hs := hsem rs h1 w (startG w) args.toList hrel (fun o cs h => by simp at h) ⟨h2, fun j d hd => by simpa using h3 j d hd, fun k j p h => by simp [startG] at h⟩
  unfold Enters at hs
  simp only [fnOk, Bool.and_eq_true, Bool.not_eq_true'] at hok
  obtain ⟨⟨⟨hb, hn⟩, _⟩, _⟩ := hok
  have hcf : (callFunc f args.toList.toArray).run P w = .ok (.enter f args.toList.toArray) w := by
    have h1 : fn.name ≠ "runtime.NumGoroutine" := by simpa using hn
    cases hb' : fn.body with
    | none => rw [hb'] at hb; cases hb
    | some body => simp [callFunc, hf, h1, hb']
  rw [hcf] at hs
  simp only [Array.toArray_toList] at hs
  refine hs.mono fun e w' ⟨v, he, G', hR, _, hg, _, hres⟩ => ?_
  subst he
  refine ⟨?_, hg.step.os, hg.step.tape, hg.step.output, hg.step.size, fun k hk => hg.step.keep k hk ?_⟩
  · have := hres.rd
    simp only [RD, RV] at this
    rw [this]
  · rintro (⟨o, ho⟩ | ⟨l, f, hl⟩)
    · simp [startG] at ho
    · simp [startG] at hl
end
end Go.Mx
