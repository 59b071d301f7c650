/- Pure calls. -/
import Derived.Test.YtiicnbdolakdgaaMxS
set_option linter.unusedVariables false
set_option linter.unusedSimpArgs false
set_option linter.constructorNameAsVariable false
set_option linter.unnecessarySimpa false
namespace Go.Mx
open Go

section
variable {P : Program} {w : World} {h : Array Obj} {G : Gh} {tmps : Array Value} {σ σ' : St} {ds : List Deferred} {C : Oracle} {ro mv gv : Nat → Bool} {o : Oper}

theorem forceAll_get {env : Env} : ∀ (xs : List Operand) (args : List D), forceAll true env xs = some args → xs.length = args.length ∧ ∀ (j : Nat) (d : D), args[j]? = some d → ∃ x, xs[j]? = some x ∧ force true (Mx.opnd env x) = some d
  | [], args, hf => by simp [forceAll] at hf; subst hf; exact ⟨rfl, fun j d hd => by simp at hd⟩
  | x :: xs, args, hf => by
    simp only [forceAll] at hf
    cases h1 : force true (Mx.opnd env x) with
    | none => simp [h1] at hf
    | some d =>
      simp only [h1] at hf
      cases h2 : forceAll true env xs with
      | none => simp [h2] at hf
      | some r =>
        simp only [h2] at hf
        cases hf
        obtain ⟨g1, g2⟩ := forceAll_get xs r h2
        refine ⟨by simp [g1], fun j d' hd => ?_⟩
        cases j with
        | zero => simp at hd; subst hd; exact ⟨x, rfl, h1⟩
        | succ j => simpa using g2 j d' (by simpa using hd)

/-- What a call left in hand 0, for the caller. -/
structure Got (h : Array Obj) (G : Gh) (d : D) (v : Value) : Prop where
  rd : RD h G (Loc.hand 0) d v
  ok : valOk d = true ∨ ownFree d = true
  own : ∀ k j p, G.ow (.hand k j) = some p → k = 0 ∧ dOwns d j = true

theorem pure_call (SC : SoundC P C) (F : Fine w.heap G tmps σ) {f : FuncId} {xs : List Operand} {args : List D} {d : D} (hall : forceAll true σ.env xs = some args) (hb : (args.map lendA).all bare = true) (hC : C f (args.map lendA) [] = some (d, [])) (ht : (args.any trackedA && !noSl d) = false) :
    Enters P f (xs.map (⟨tmps, ds⟩ : Act).eval).toArray w fun v w' => ∃ G', Rel w'.heap G' tmps σ ∧ Goes w G σ w' G' σ ∧ Got w'.heap G' d v := by
  obtain ⟨hlen, hget⟩ := forceAll_get xs args hall
  have I := F.rel.inv
  let tr := args.any trackedA
  let rd1 : Rd := if tr then lentRd w.heap G else G.rd
  have hle : RdLe G.rd rd1 := by
    simp only [rd1]
    split
    · exact lentRd_le I
    · exact RdLe.refl _
  have hrd1 : ∀ b c, rd1 b = some c → ∃ e fr, w.heap[b]? = some (.cells c e fr) := by
    intro b c hc
    simp only [rd1] at hc
    split at hc
    · by_cases hl : ∃ l f, G.ow l = some (b, f)
      · unfold lentRd at hc
        rw [if_pos hl] at hc
        split at hc
        · rename_i c' e fr hcell; cases hc; exact ⟨e, fr, hcell⟩
        · cases hc
      · rw [lentRd_no hl] at hc; exact I.rd_ok b c hc
    · exact I.rd_ok b c hc
  have I1 : Inv w.heap { rd := rd1, ob := fun _ => none, ow := fun _ => none } := ⟨hrd1, fun _ _ h => (by cases h), fun _ _ h => (by cases h), fun _ _ _ h => (by cases h), fun _ _ _ h => (by cases h), fun _ _ _ h => (by cases h), fun _ _ _ _ h => (by cases h), fun _ _ _ _ _ h => (by cases h)⟩
  have R1 : Rel w.heap { rd := rd1, ob := fun _ => none, ow := fun _ => none } #[] ⟨[], []⟩ := Rel.bare I1 (fun o cs h => by simp at h) (fun o cs h => by simp at h) (fun _ _ => rfl) (fun _ _ _ h => by cases h)
  have A1 : Args w.heap { rd := rd1, ob := fun _ => none, ow := fun _ => none } (args.map lendA) (xs.map (⟨tmps, ds⟩ : Act).eval) := by
    refine ⟨by simp [hlen], fun j d' hd => ?_, fun _ _ _ h => by cases h⟩
    rw [List.getElem?_map] at hd
    cases hj : args[j]? with
    | none => rw [hj] at hd; cases hd
    | some d0 =>
      rw [hj] at hd
      cases hd
      obtain ⟨x, hx, hf⟩ := hget j d0 hj
      refine ⟨(⟨tmps, ds⟩ : Act).eval x, by rw [List.getElem?_map, hx]; rfl, ?_⟩
      have hbd : Mx.bare (lendA d0) = true := List.all_eq_true.1 hb _ (List.mem_map.2 ⟨d0, List.mem_of_getElem? hj, rfl⟩)
      have := RD.lendA (G := G) (G1 := { rd := rd1, ob := fun _ => none, ow := fun _ => none }) (loc' := Loc.hand j) hbd hle (fun hx => by
        simp only [rd1]
        rw [if_pos]
        simp only [tr]
        rw [List.any_eq_true]
        exact ⟨d0, List.mem_of_getElem? hj, hx⟩) (F.rel.opndF ds hf)
      exact ⟨this.1, this.2.1⟩
  refine (SC f _ _ d [] hC w _ _ R1 (fun o cs h => by simp at h) A1).mono ?_
  rintro v w' ⟨G1, RG, _, hg, _, hres⟩
  -- old blocks stand
  have nomine : ∀ b, ¬ mine { rd := rd1, ob := fun _ => none, ow := fun _ => none } b := by
    rintro b (⟨o, ho⟩ | ⟨l, f, hl⟩)
    · cases ho
    · cases hl
  have hold : ∀ b, b < w.heap.size → w'.heap[b]? = w.heap[b]? := fun b hbl => hg.step.keep b hbl (nomine b)
  have hnew : ∀ b, mine G1 b → w.heap.size ≤ b := fun b hm => (hg.step.mine b hm).resolve_left (nomine b)
  have hobn : ∀ q, G1.ob q = none := fun q => RG.obn q (Nat.zero_le _)
  have hplace : ∀ l, l.place = true → G1.ow l = none := by
    intro l hl
    cases ho : G1.ow l with
    | none => rfl
    | some p =>
      have := RG.own l p (by rintro k j rfl; cases hl) ho
      cases l <;> simp [ownsAt, look] at this
  have howrd : ∀ l b f, G.ow l = some (b, f) → tr = false → G1.rd b = none := by
    intro l b f hl htr
    cases hb1 : G1.rd b with
    | none => rfl
    | some c =>
      have := hg.step.rdn b (by rw [hb1]; exact fun h => by cases h)
      rcases this with h1 | h1 | h1
      · simp only [rd1, htr] at h1
        exact absurd (I.ow_rd l b f hl) h1
      · exact absurd h1 (nomine b)
      · have := I.ow_lt l b f hl; omega
  have hobrd : ∀ q b, G.ob q = some b → G1.rd b = none := by
    intro q b hq
    cases hb1 : G1.rd b with
    | none => rfl
    | some c =>
      have := hg.step.rdn b (by rw [hb1]; exact fun h => by cases h)
      rcases this with h1 | h1 | h1
      · simp only [rd1] at h1
        split at h1
        · rw [lentRd_no (by rintro ⟨l, f, hl⟩; exact I.ow_ob l b f q hl hq)] at h1
          exact absurd (I.ob_rd q b hq) h1
        · exact absurd (I.ob_rd q b hq) h1
      · exact absurd h1 (nomine b)
      · have := I.ob_lt q b hq; omega
  -- the caller's knowledge behind
  let rd2 : Rd := fun b => open Classical in if (∃ l f, G.ow l = some (b, f)) then none else G1.rd b
  let ow2 : Loc → Option (Nat × Nat) := fun l => match l with
    | .hand k j => if k = 0 then G1.ow (.hand 0 j) else none
    | l => G.ow l
  have q1 : ∀ j, ow2 (.hand 0 j) = G1.ow (.hand 0 j) := fun j => by simp [ow2]
  have q2 : ∀ k j, k ≠ 0 → ow2 (.hand k j) = none := fun k j hk => by simp [ow2, hk]
  have hsplit : ∀ l b f, ow2 l = some (b, f) → (∃ j, l = .hand 0 j ∧ G1.ow (.hand 0 j) = some (b, f) ∧ w.heap.size ≤ b) ∨ (l.place = true ∧ G.ow l = some (b, f)) := by
    intro l b f hl
    cases l with
    | hand k j =>
      by_cases hk : k = 0
      · subst hk
        rw [q1] at hl
        exact .inl ⟨j, rfl, hl, hnew b (.inr ⟨_, f, hl⟩)⟩
      · rw [q2 k j hk] at hl; cases hl
    | _ => exact .inr ⟨rfl, hl⟩
  have rd2_le : ∀ b c, rd2 b = some c → G1.rd b = some c := by
    intro b c hc
    simp only [rd2] at hc
    split at hc
    · cases hc
    · exact hc
  have rd2_no : ∀ b, (¬ ∃ l f, G.ow l = some (b, f)) → rd2 b = G1.rd b := fun b hb => by simp only [rd2]; rw [if_neg hb]
  have hGle : RdLe G.rd rd2 := by
    intro b c hc
    rw [rd2_no b (by rintro ⟨l, f, hl⟩; rw [I.ow_rd l b f hl] at hc; cases hc)]
    exact hg.step.rd b c (hle b c hc)
  have I2 : Inv w'.heap { rd := rd2, ob := G.ob, ow := ow2 } := {
    rd_ok := fun b c hc => RG.inv.rd_ok b c (rd2_le b c hc)
    ob_lt := fun q b hq => Nat.lt_of_lt_of_le (I.ob_lt q b hq) hg.step.size
    ob_rd := fun q b hq => by
      show rd2 b = none
      rw [rd2_no b (by rintro ⟨l, f, hl⟩; exact I.ow_ob l b f q hl hq)]
      exact hobrd q b hq
    ob_inj := I.ob_inj
    ow_lt := fun l b f hl => by
      rcases hsplit l b f hl with ⟨j, _, h1, _⟩ | ⟨_, h1⟩
      · exact RG.inv.ow_lt _ b f h1
      · exact Nat.lt_of_lt_of_le (I.ow_lt l b f h1) hg.step.size
    ow_rd := fun l b f hl => by
      show rd2 b = none
      rcases hsplit l b f hl with ⟨j, _, h1, h2⟩ | ⟨_, h1⟩
      · rw [rd2_no b (by rintro ⟨l', f', hl'⟩; have := I.ow_lt l' b f' hl'; omega)]
        exact RG.inv.ow_rd _ b f h1
      · simp only [rd2]; rw [if_pos ⟨l, f, h1⟩]
    ow_ob := fun l b f q hl hq => by
      have hq' : G.ob q = some b := hq
      rcases hsplit l b f hl with ⟨j, _, h1, h2⟩ | ⟨_, h1⟩
      · have := I.ob_lt q b hq'; omega
      · exact I.ow_ob l b f q h1 hq'
    ow_inj := fun l l' b f f' h1 h2 => by
      rcases hsplit l b f h1 with ⟨j, rfl, g1, g2⟩ | ⟨p1, g1⟩ <;> rcases hsplit l' b f' h2 with ⟨j', rfl, k1, k2⟩ | ⟨p2, k1⟩
      · exact RG.inv.ow_inj _ _ b f f' g1 k1
      · have := I.ow_lt l' b f' k1; omega
      · have := I.ow_lt l b f g1; omega
      · exact I.ow_inj l l' b f f' g1 k1 }
  have F2 : Fr (fun _ => False) w.heap G w'.heap { rd := rd2, ob := G.ob, ow := ow2 } := ⟨hGle, fun _ _ h => h, fun l p hpl _ hl => (by
    show ow2 l = some p
    cases l <;> first | exact hl | cases hpl), fun l b f _ _ hl => hold b (I.ow_lt l b f hl)⟩
  have R2 : Rel w'.heap { rd := rd2, ob := G.ob, ow := ow2 } tmps σ := by
    refine ⟨I2, fun t => RD.fr F2 _ (fun _ => rfl) _ _ (free.none _ _) (F.rel.env t), ?_, F.rel.obc, F.rel.obn, ?_⟩
    · intro q cs hcs
      obtain ⟨b, c, e, fr, h1, h2, h3, h4⟩ := F.rel.obj q cs hcs
      exact ⟨b, c, e, fr, h1, by rw [hold b (I.ob_lt q b h1)]; exact h2, h3, RDs.fr F2 _ (fun _ => rfl) _ _ _ (frees.none _ _ _) h4⟩
    · intro l p hh hl
      have hl' : ow2 l = some p := hl
      cases l with
      | hand k j => exact absurd rfl (hh k j)
      | _ => exact F.rel.own _ p hh hl'
  refine ⟨_, R2, ⟨⟨hg.step.os, hg.step.tape, hg.step.output, hg.step.size, fun b hbl _ => hold b hbl, ?_, hGle, ?_⟩, Nat.le_refl _, fun _ _ => rfl⟩, ?_⟩
  · rintro b (⟨q, hq⟩ | ⟨l, f, hl⟩)
    · exact .inl (.inl ⟨q, hq⟩)
    · rcases hsplit l b f hl with ⟨j, _, _, g2⟩ | ⟨_, g1⟩
      · exact .inr g2
      · exact .inl (.inr ⟨l, f, g1⟩)
  · intro b hb2
    have hb2' : rd2 b ≠ none := hb2
    cases hc : rd2 b with
    | none => exact absurd hc hb2'
    | some c =>
      by_cases hl : ∃ l f, G.ow l = some (b, f)
      · simp only [rd2] at hc; rw [if_pos hl] at hc; cases hc
      · have h1 := rd2_le b c hc
        rcases hg.step.rdn b (by rw [h1]; exact fun h => by cases h) with h2 | h2 | h2
        · left
          simp only [rd1] at h2
          split at h2
          · rw [lentRd_no hl] at h2; exact h2
          · exact h2
        · exact absurd h2 (nomine b)
        · exact .inr (.inr h2)
  · -- the result
    have hown : ∀ k j p, ow2 (.hand k j) = some p → k = 0 ∧ dOwns d j = true := by
      intro k j p hp
      by_cases hk : k = 0
      · subst hk
        rw [q1] at hp
        exact ⟨rfl, (hres.own 0 j p hp).2⟩
      · rw [q2 k j hk] at hp; cases hp
    cases htr : tr with
    | true =>
      have hns : noSl d = true := by
        have : args.any trackedA = true := htr
        rw [this] at ht
        simpa using ht
      exact ⟨RD.noSl hns hres.rd, hres.ok, hown⟩
    | false =>
      have hrdl : RdLe G1.rd rd2 := by
        intro b c hc
        rw [rd2_no b]
        · exact hc
        · rintro ⟨l, f, hl⟩
          rw [howrd l b f hl htr] at hc; cases hc
      refine ⟨?_, hres.ok, hown⟩
      rcases hres.ok with hv | hf
      · exact RD.valMove (G := G1) (h := w'.heap) ⟨hrdl, fun q b hq => (by rw [hobn] at hq; cases hq)⟩ hv (fun j _ b f hb => ⟨by show ow2 (.hand 0 j) = some (b, f); rw [q1]; exact hb, rfl⟩) hres.rd
      · have F3 : Fr (fun _ => False) w'.heap G1 w'.heap { rd := rd2, ob := G.ob, ow := ow2 } := ⟨hrdl, fun q b hq => (by rw [hobn] at hq; cases hq), fun l p hpl _ hl => (by rw [hplace l hpl] at hl; cases hl), fun _ _ _ _ _ _ => rfl⟩
        exact RD.reloc hf (RD.fr F3 (fun _ => .nowhere) (fun _ => rfl) _ _ (free.none _ _) (RD.reloc hf hres.rd))

theorem killB_valOk {p : Loc → Bool} {d : D} (hv : valOk d = true) : killB p d = d := by
  have stay : ∀ d : D, stayC d = true → killB p d = d := by
    intro d hd
    cases d <;> first | rfl | simp [stayC] at hd
  have stays : ∀ cs : List D, cs.all stayC = true → killBs p cs = cs := by
    intro cs
    induction cs with
    | nil => intro _; rfl
    | cons d r ih =>
      intro hc
      simp only [List.all_cons, Bool.and_eq_true] at hc
      simp only [killBs, stay d hc.1, ih hc.2]
  have cell : ∀ d : D, cellOk d = true → killB p d = d := by
    intro d hd
    cases d with
    | clo f cs => simp only [killB, stays cs (by simpa [cellOk] using hd)]
    | _ => first | rfl | simp [cellOk, stayC] at hd
  have cells : ∀ cs : List D, cs.all cellOk = true → killBs p cs = cs := by
    intro cs
    induction cs with
    | nil => intro _; rfl
    | cons d r ih =>
      intro hc
      simp only [List.all_cons, Bool.and_eq_true] at hc
      simp only [killBs, cell d hc.1, ih hc.2]
  cases d with
  | agg cs => simp only [killB, cells cs (by simpa [valOk] using hv)]
  | _ => exact cell _ hv
theorem offReg_valOk {env : Env} {dst : Option Nat} {d : D} (hv : valOk d = true) : offReg env dst d = d := by
  unfold offReg
  cases dst with
  | none => rfl
  | some t => simp only; cases hasOwn (look env t) <;> simp [killB_valOk hv]

/-- What a call left goes to the register (or nowhere). -/
theorem Got.put {h : Array Obj} {G : Gh} {tmps : Array Value} {σ : St} {d : D} {v : Value} {dst : Option Nat} (R : Rel h G tmps σ) (H : Got h G d v) (hsz : ∀ t, dst = some t → t < tmps.size) :
    ∃ G', Rel h G' ((⟨tmps, ds⟩ : Act).put dst v).tmps { σ with env := putDst σ.env dst (offReg σ.env dst d) } ∧ Same h G G' ∧ Clean G' := by
  cases dst with
  | none =>
    -- what is owned is left
    let ow : Loc → Option (Nat × Nat) := fun l => match l with
      | .hand _ _ => none
      | l => G.ow l
    have hsub : ∀ l p, ow l = some p → G.ow l = some p := by
      intro l p hl
      cases l <;> first | exact hl | cases hl
    have R2 := R.hands (ow := ow) (fun l hl => by cases l <;> first | rfl | cases hl) (fun l p hl => ⟨l, hsub l p hl⟩) (fun l l' b f f' h1 h2 => R.inv.ow_inj l l' b f f' (hsub _ _ h1) (hsub _ _ h2))
    exact ⟨_, R2, ⟨RdLe.refl _, rfl, fun l b f hl => ⟨l, f, hsub l _ hl⟩, fun b hb => .inl hb⟩, fun _ _ => rfl⟩
  | some t =>
    rcases H.ok with hv | hf
    · obtain ⟨G', R', S', h1, h2, _⟩ := R.give (k := 0) ⟨H.rd, fun j p hp => (H.own 0 j p hp).2, hv⟩ (hsz t rfl)
      refine ⟨G', by simpa only [Act.put, putDst, offReg_valOk hv] using R', S', fun k j => ?_⟩
      by_cases hk : k = 0
      · subst hk; exact h1 j
      · rw [h2 k j hk]
        cases ho : G.ow (.hand k j) with
        | none => rfl
        | some p => exact absurd (H.own k j p ho).1 hk
    · obtain ⟨G', R', S', h1⟩ := R.setFree (hsz t rfl) hf (fun loc => RD.reloc hf H.rd)
      refine ⟨G', R', S', fun k j => ?_⟩
      rw [h1]
      cases ho : G.ow (.hand k j) with
      | none => rfl
      | some p =>
        exfalso
        have := (H.own k j p ho).2
        cases d with
        | agg cs =>
          simp only [dOwns] at this
          cases hj : cs[j]? with
          | none => rw [hj] at this; cases this
          | some d' =>
            rw [hj] at this
            have hff := List.all_eq_true.1 (by simpa [ownFree] using hf) d' (List.mem_of_getElem? hj)
            cases d' <;> first | (cases this; done) | simp [ownFreeC] at hff
        | _ => first | (cases this; done) | simp [ownFree] at hf
end
end Go.Mx
