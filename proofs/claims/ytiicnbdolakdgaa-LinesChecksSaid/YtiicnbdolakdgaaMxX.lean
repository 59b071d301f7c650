/- The step. -/
import Derived.Test.YtiicnbdolakdgaaMxW
set_option linter.unusedVariables false
set_option linter.unusedSimpArgs false
set_option linter.constructorNameAsVariable false
set_option linter.unnecessarySimpa false
namespace Go.Mx
open Go

section
variable {P : Program} {w : World} {G : Gh} {tmps : Array Value} {σ σ' : St} {ds : List Deferred} {C : Oracle} {ν : Note} {o : Oper}

theorem pure_yields {d : D} (R : Rel w.heap G tmps σ) (hd : pureOp (tyOf P) C σ true o.op = some d) (hnc : isFuncCall o = false) : Yields P G w ⟨tmps, ds⟩ o d := by
  cases ho : o.op with
  | move x => exact ok_move R ho hd
  | nilCheck x => exact ok_nilCheck R ho hd
  | pick c x y => exact ok_pick R ho hd
  | binOp op t x y u => exact ok_binOp R ho hd
  | unOp op t x => cases op <;> first | exact ok_not R ho hd | (rw [ho] at hd; simp [pureOp] at hd)
  | extract x ix => exact ok_extract R ho hd
  | fieldAddr t x f => exact ok_fieldAddr R ho hd
  | field t x f => exact ok_field R ho hd
  | load t x => exact ok_load R ho hd
  | indexAddr t x ix => exact ok_indexAddr R ho hd
  | index t x ix => exact ok_index R ho hd
  | makeFunc f first caps => cases f <;> first | exact ok_makeFunc R ho hd | (rw [ho] at hd; simp [pureOp] at hd)
  | slice t x lo hi mx => exact ok_slice R ho hd
  | convert s t x => exact ok_convert R ho hd
  | call c =>
    cases hc : c.callee with
    | builtin b => cases b <;> first | exact ok_len R ho hc hd | exact ok_max R ho hc hd | exact ok_min R ho hc hd | (rw [ho] at hd; simp [pureOp, hc] at hd)
    | value x => cases x <;> first | (rw [ho] at hd; simp [pureOp, hc] at hd; done) | (simp [isFuncCall, ho, hc] at hnc)
    | invoke r n => rw [ho] at hd; simp [pureOp, hc] at hd
  | _ => rw [ho] at hd; simp [pureOp] at hd

theorem Does.yields {d d' : D} (F : Fine w.heap G tmps σ) (hsz : ∀ t, o.dst = some t → t < tmps.size) (hy : Yields P G w ⟨tmps, ds⟩ o d) (hd : d' = d ∨ d' = .mb true d) : Does P w G ⟨tmps, ds⟩ σ o { σ with env := putDst σ.env o.dst (offReg σ.env o.dst d') } := by
  obtain ⟨v, hrun, ho, hr⟩ := hy
  cases hdst : o.dst with
  | none =>
    intro next Q hn
    unfold Oper.wp
    rw [hrun, Oper.upon_value]
    exact hn _ w G (by simp [Act.put, hdst]) (by simp [Act.put, hdst]) (by simpa [Act.put, hdst, putDst] using F) (Goes.refl _ _ _)
  | some t =>
    rcases hd with rfl | rfl
    · exact Does.free hdst (hsz t hdst) hrun F ho hr
    · intro next Q hn
      unfold Oper.wp
      rw [hrun, Oper.upon_value]
      obtain ⟨G2, R2, S2, h1⟩ := F.rel.setMb (g := true) (v := v) (hsz t hdst) ho (fun _ => hr) (fun h => by cases h)
      exact hn _ w G2 (by simp [Act.put, hdst]) (by simp [Act.put, hdst]) ⟨by simpa [Act.put, hdst, putDst] using R2, fun q j => by rw [h1]; exact F.clean q j, F.low⟩ (S2.goes rfl)

/-- What is not done leaves nothing. -/
theorem skip_ok {d : D} (F : Fine w.heap G tmps σ) (hsz : ∀ t, o.dst = some t → t < tmps.size) (hd : d = .undef ∨ ∃ d0, ownFree d0 = true ∧ d = .mb false d0) : ∃ G', Fine w.heap G' ((⟨tmps, ds⟩ : Act).put o.dst undef).tmps { σ with env := putDst σ.env o.dst (offReg σ.env o.dst d) } ∧ Goes w G σ w G' { σ with env := putDst σ.env o.dst (offReg σ.env o.dst d) } := by
  cases hdst : o.dst with
  | none => exact ⟨G, by simpa [Act.put, putDst] using F, Goes.refl _ _ _⟩
  | some t =>
    rcases hd with rfl | ⟨d0, h0, rfl⟩
    · obtain ⟨G2, R2, S2, h1⟩ := F.rel.setFree (v := undef) (d := .undef) (hsz t hdst) rfl (fun _ => by simp only [RD])
      exact ⟨G2, ⟨by simpa [Act.put, putDst] using R2, fun q j => by rw [h1]; exact F.clean q j, F.low⟩, S2.goes rfl⟩
    · obtain ⟨G2, R2, S2, h1⟩ := F.rel.setMb (g := false) (v := undef) (hsz t hdst) h0 (fun h => by cases h) (fun _ => rfl)
      exact ⟨G2, ⟨by simpa [Act.put, putDst] using R2, fun q j => by rw [h1]; exact F.clean q j, F.low⟩, S2.goes rfl⟩

theorem Does.got {f : FuncId} {args : Array Value} {σ1 : St} {d : D} (hsz : ∀ t, o.dst = some t → t < tmps.size) (hrun : (execOp (⟨tmps, ds⟩ : Act).eval o).run P w = (callFunc f args).run P w)
    (he : Enters P f args w fun v w' => ∃ G', Rel w'.heap G' tmps σ1 ∧ Low σ1.S ∧ Goes w G σ w' G' σ1 ∧ Got w'.heap G' d v) : Does P w G ⟨tmps, ds⟩ σ o { σ1 with env := putDst σ1.env o.dst (offReg σ1.env o.dst d) } := by
  intro next Q hn
  refine wp_enters hrun he ?_
  rintro v w' ⟨G1, R1, L1, g1, H1⟩
  obtain ⟨G2, R2, S2, c2⟩ := H1.put (ds := ds) (dst := o.dst) R1 hsz
  refine hn _ w' G2 ?_ ?_ ⟨R2, c2, L1⟩ (g1.trans (S2.goes rfl))
  · cases o.dst <;> simp [Act.put]
  · cases o.dst <;> simp [Act.put]

/-- Masked: the same. -/
theorem Does.gotMb {f : FuncId} {args : Array Value} {σ1 : St} {d : D} (hsz : ∀ t, o.dst = some t → t < tmps.size) (ho : ownFree d = true) (hrun : (execOp (⟨tmps, ds⟩ : Act).eval o).run P w = (callFunc f args).run P w)
    (he : Enters P f args w fun v w' => ∃ G', Rel w'.heap G' tmps σ1 ∧ Low σ1.S ∧ Goes w G σ w' G' σ1 ∧ Got w'.heap G' d v) : Does P w G ⟨tmps, ds⟩ σ o { σ1 with env := putDst σ1.env o.dst (offReg σ1.env o.dst (.mb true d)) } := by
  intro next Q hn
  refine wp_enters hrun he ?_
  rintro v w' ⟨G1, R1, L1, g1, H1⟩
  cases hdst : o.dst with
  | none =>
    obtain ⟨G2, R2, S2, c2⟩ := H1.put (ds := ds) (dst := none) R1 (fun t h => by cases h)
    exact hn _ w' G2 (by simp [Act.put, hdst]) (by simp [Act.put, hdst]) ⟨by simpa [Act.put, hdst, putDst] using R2, c2, L1⟩ (g1.trans (S2.goes rfl))
  | some t =>
    obtain ⟨G2, R2, S2, h1⟩ := R1.setMb (g := true) (v := v) (hsz t hdst) ho (fun _ loc => RD.reloc ho H1.rd) (fun h => by cases h)
    refine hn _ w' G2 (by simp [Act.put, hdst]) (by simp [Act.put, hdst]) ⟨by simpa [Act.put, hdst, putDst] using R2, fun q j => ?_, L1⟩ (g1.trans (S2.goes rfl))
    rw [h1]
    cases hw : G1.ow (.hand q j) with
    | none => rfl
    | some p =>
      exfalso
      have := (H1.own q j p hw).2
      cases d with
      | agg cs =>
        simp only [dOwns] at this
        cases hj : cs[j]? with
        | none => rw [hj] at this; cases this
        | some d' =>
          rw [hj] at this
          have hff := List.all_eq_true.1 (by simpa [ownFree] using ho) d' (List.mem_of_getElem? hj)
          cases d' <;> first | (cases this; done) | simp [ownFreeC] at hff
      | _ => first | (cases this; done) | simp [ownFree] at ho

theorem args_of {G1 : Gh} {h : Array Obj} {xs : List Operand} {args : List D} (hl : args.length = xs.length) (hg : ∀ (i : Nat) (d : D), args[i]? = some d → ∃ x, xs[i]? = some x ∧ Held h G1 (0 + i) d ((⟨tmps, ds⟩ : Act).eval x)) (hc : ∀ q, 0 + xs.length ≤ q → ∀ j, G1.ow (.hand q j) = none) : Args h G1 args (xs.map (⟨tmps, ds⟩ : Act).eval) := by
  refine ⟨by simp [hl], fun j d hd => ?_, fun k j p hp => ?_⟩
  · obtain ⟨x, hx, H⟩ := hg j d hd
    rw [Nat.zero_add] at H
    exact ⟨_, by rw [List.getElem?_map, hx]; rfl, H.rd, H.ok⟩
  · rcases Nat.lt_or_ge k xs.length with hk | hk
    · obtain ⟨d, hd⟩ : ∃ d, args[k]? = some d := ⟨_, List.getElem?_eq_getElem (by omega)⟩
      obtain ⟨x, hx, H⟩ := hg k d hd
      rw [Nat.zero_add] at H
      exact ⟨d, hd, H.own j p hp⟩
    · rw [hc k (by omega) j] at hp; cases hp

theorem does_callEff {c : Call} {f : FuncId} {ro mv gv : Nat → Bool} (SC : SoundC P C) (F : Fine w.heap G tmps σ) (ho : o.op = .call c) (hc : c.callee = .value (.func f)) (hsz : ∀ t, o.dst = some t → t < tmps.size) (hd : workOp (tyOf P) C ro mv gv σ o.dst o.type o.op = some σ') : Does P w G ⟨tmps, ds⟩ σ o σ' := by
  rw [ho] at hd
  simp only [workOp, hc] at hd
  cases ha : argsE gv σ c.args.toList with
  | none => simp [ha] at hd
  | some p =>
    obtain ⟨args, σ1⟩ := p
    simp only [ha] at hd
    cases hb : args.all bare with
    | true => rw [hb] at hd; cases hd
    | false =>
      rw [hb, cond_false] at hd
      cases hC : C f args σ1.S with
      | none => simp [hC] at hd
      | some q =>
        obtain ⟨d, S'⟩ := q
        simp only [hC] at hd
        cases hd
        obtain ⟨G1, R1, S1, hl, hg, _, hcl⟩ := args_ok (ds := ds) c.args.toList 0 σ σ1 args G F.rel (fun q _ j => F.clean q j) ha
        obtain ⟨L1, e1⟩ := Low.argsE _ _ _ _ F.low ha
        have hcall := eff_call (SC := SC) R1 L1 (args_of (ds := ds) hl hg hcl) hC
        refine Does.got (σ1 := { env := kill isCell σ1.env, S := S' }) hsz (execOp_func ho hc) ?_
        have : (c.args.map (⟨tmps, ds⟩ : Act).eval) = (c.args.toList.map (⟨tmps, ds⟩ : Act).eval).toArray := by apply Array.ext'; simp
        rw [this]
        exact hcall.mono (fun v w' ⟨G2, R2, L2, g2, H2⟩ => ⟨G2, R2, L2, (S1.goes (w := w) (σ := σ) (σ' := σ1) e1).trans g2, H2⟩)

theorem does_callClo {c : Call} {x : Tmp} {ro mv gv : Nat → Bool} (SC : SoundC P C) (F : Fine w.heap G tmps σ) (ho : o.op = .call c) (hc : c.callee = .value (.tmp x)) (hsz : ∀ t, o.dst = some t → t < tmps.size) (hd : workOp (tyOf P) C ro mv gv σ o.dst o.type o.op = some σ') : Does P w G ⟨tmps, ds⟩ σ o σ' := by
  rw [ho] at hd
  simp only [workOp, hc] at hd
  split at hd <;> try (cases hd; done)
  rename_i f caps args σ1 hx ha
  cases hst : caps.all stayC with
  | false => rw [hst] at hd; cases hd
  | true =>
  rw [hst, cond_true] at hd
  cases hC : C f (args ++ caps) σ1.S with
  | none => simp [hC] at hd
  | some q =>
    obtain ⟨d, S'⟩ := q
    simp only [hC] at hd
    cases hd
    obtain ⟨G1, R1, S1, hl, hg, _, hcl⟩ := args_ok (ds := ds) c.args.toList 0 σ σ1 args G F.rel (fun q _ j => F.clean q j) ha
    obtain ⟨L1, e1⟩ := Low.argsE _ _ _ _ F.low ha
    have hrx := F.rel.opndF ds (x := .tmp x) hx
    simp only [RD] at hrx
    obtain ⟨vcaps, hv, hcaps⟩ := hrx
    have A := args_of (ds := ds) hl hg hcl
    have hvl := RDs.length _ _ _ _ hcaps
    have A' : Args w.heap G1 (args ++ caps) (c.args.toList.map (⟨tmps, ds⟩ : Act).eval ++ vcaps.toList) := by
      refine ⟨by simp only [List.length_append, A.len, hvl], fun j d hd => ?_, fun k j p hp => ?_⟩
      · rcases Nat.lt_or_ge j args.length with hj | hj
        · rw [List.getElem?_append_left hj] at hd
          obtain ⟨v, h1, h2⟩ := A.rd j d hd
          exact ⟨v, by rw [List.getElem?_append_left (by rw [A.len]; exact hj)]; exact h1, h2⟩
        · rw [List.getElem?_append_right hj] at hd
          obtain ⟨v, h1, h2⟩ := RDs.get _ _ _ _ _ _ hcaps hd
          have hsd := List.all_eq_true.1 hst d (List.mem_of_getElem? hd)
          refine ⟨v, by rw [List.getElem?_append_right (by rw [A.len]; exact hj), A.len]; exact h1, RD.stay S1.more hsd h2, ?_⟩
          cases d <;> first | rfl | simp [stayC] at hsd
      · obtain ⟨d, h1, h2⟩ := A.own k j p hp
        have hk : k < args.length := (List.getElem?_eq_some_iff.1 h1).1
        exact ⟨d, by rw [List.getElem?_append_left hk]; exact h1, h2⟩
    have hcall := eff_call (SC := SC) R1 L1 A' hC
    refine Does.got (σ1 := { env := kill isCell σ1.env, S := S' }) hsz (execOp_clo ho hc hv) ?_
    have : (c.args.map (⟨tmps, ds⟩ : Act).eval ++ vcaps) = (c.args.toList.map (⟨tmps, ds⟩ : Act).eval ++ vcaps.toList).toArray := by apply Array.ext'; simp
    rw [this]
    exact hcall.mono (fun v w' ⟨G2, R2, L2, g2, H2⟩ => ⟨G2, R2, L2, (S1.goes (w := w) (σ := σ) (σ' := σ1) e1).trans g2, H2⟩)

theorem isStrK_eq {k : TK} (h : isStrK k = true) : k = .str := by cases k <;> first | rfl | cases h

/-- THE STEP of one operation that is to be done. -/
theorem step_does (SC : SoundC P C) (F : Fine w.heap G tmps σ) {ops : List Oper} (hsz : ∀ t, o.dst = some t → t < tmps.size) (hg : guardB ops σ.env o.guard = some true) (hs : stepOp (tyOf P) C ν ops o σ = some σ') : Does P w G ⟨tmps, ds⟩ σ o σ' := by
  unfold stepOp at hs
  rw [hg] at hs
  simp only at hs
  cases hw : isWork (tyOf P) ν o with
  | true =>
    rw [hw, cond_true, cond_true] at hs
    cases hok : workOk (tyOf P) σ.env o with
    | false => rw [hok] at hs; cases hs
    | true =>
      rw [hok, cond_true] at hs
      cases ho : o.op with
      | assign x => exact does_assign F ho hsz hs
      | box t x => exact does_box F ho hsz hs
      | alloc t => exact does_alloc F ho hsz hs
      | build t parts => exact does_build F ho hsz hs
      | buildSlice t n parts => exact does_buildSlice F ho hsz hs
      | makeSlice t n m =>
        refine does_make F ho ?_ hsz hs
        unfold workOk at hok
        rw [ho] at hok
        simp only at hok
        unfold sameInt at hok
        split at hok
        · rename_i k a k' b h1 h2
          simp only [Bool.and_eq_true, decide_eq_true_eq, beq_iff_eq] at hok
          obtain ⟨rfl, rfl⟩ := hok
          rw [RD.int (F.rel.opndF ds h1), RD.int (F.rel.opndF ds h2)]
        · cases hok
      | store t a x =>
        refine does_store F ho ?_ hs
        unfold workOk at hok
        rw [ho] at hok
        simpa using hok
      | convert s t x =>
        refine does_convert F ho hsz ?_ hs
        unfold workOk at hok
        rw [ho] at hok
        obtain ⟨_, _, hu⟩ := tyOf_str (isStrK_eq hok)
        exact hu
      | load t a => exact does_loadMv F ho hsz hs
      | call c =>
        cases hc : c.callee with
        | builtin b =>
          unfold isWork at hw
          rw [ho] at hw
          simp only [hc] at hw
          cases b <;> first | exact does_append F ho hc hsz hs | (cases hw)
        | value x =>
          unfold isWork at hw
          rw [ho] at hw
          simp only [hc] at hw
          cases x <;> first | exact does_callClo SC F ho hc hsz hs | (cases hw)
        | invoke r n =>
          unfold isWork at hw
          rw [ho] at hw
          simp only [hc] at hw
          cases hw
      | _ => unfold isWork at hw; rw [ho] at hw; cases hw
  | false =>
    rw [hw, cond_false] at hs
    cases hcf : callFails C σ true o with
    | true => rw [hcf] at hs; cases hs
    | false =>
    rw [hcf, cond_false] at hs
    cases hp : gx true o.guard.isNone (pureOp (tyOf P) C σ true o.op) with
    | none =>
      rw [hp] at hs
      simp only [Bool.true_and] at hs
      cases hf : isFuncCall o with
      | false => rw [hf] at hs; cases hs
      | true =>
        rw [hf, cond_true] at hs
        unfold isFuncCall at hf
        split at hf <;> try (cases hf; done)
        rename_i c ho
        split at hf <;> try (cases hf; done)
        rename_i f hc
        exact does_callEff SC F ho hc hsz hs
    | some d' =>
      rw [hp] at hs
      simp only [Option.some.injEq] at hs
      subst hs
      -- what it yields
      have key : ∃ d, pureOp (tyOf P) C σ true o.op = some d ∧ (d' = d ∨ (d' = .mb true d ∧ ownFree d = true)) := by
        unfold gx at hp
        split at hp
        · rename_i d hd
          refine ⟨d, hd, ?_⟩
          cases hgn : o.guard.isNone with
          | true => rw [hgn] at hp; simp only [cond_true, Option.some.injEq] at hp; exact .inl hp.symm
          | false =>
            rw [hgn] at hp
            simp only [cond_false] at hp
            cases hof : ownFree d with
            | true => rw [hof] at hp; simp only [cond_true, Option.some.injEq] at hp; exact .inr ⟨hp.symm, rfl⟩
            | false => rw [hof] at hp; simp only [cond_false, cond_true, Option.some.injEq] at hp; exact .inl hp.symm
        · simp at hp
      obtain ⟨d, hd, hor⟩ := key
      cases hf : isFuncCall o with
      | false => exact Does.yields F hsz (pure_yields F.rel hd hf) (hor.imp id (fun h => h.1))
      | true =>
        unfold isFuncCall at hf
        split at hf <;> try (cases hf; done)
        rename_i c ho
        split at hf <;> try (cases hf; done)
        rename_i f hc
        rw [ho] at hd
        simp only [pureOp, hc] at hd
        split at hd <;> try (cases hd; done)
        rename_i args hall
        cases hb : (args.map lendA).all bare with
        | false => rw [hb] at hd; cases hd
        | true =>
          rw [hb, cond_true] at hd
          split at hd
          · rename_i d0 hC
            cases ht : (args.any trackedA && !noSl d0) with
            | true => rw [ht] at hd; cases hd
            | false =>
              rw [ht, cond_false, Option.some.injEq] at hd
              subst hd
              have hcall := pure_call (ds := ds) SC F hall hb hC ht
              have he : (c.args.map (⟨tmps, ds⟩ : Act).eval) = (c.args.toList.map (⟨tmps, ds⟩ : Act).eval).toArray := by apply Array.ext'; simp
              have hcall' := hcall.mono (R' := fun v w' => ∃ G', Rel w'.heap G' tmps σ ∧ Low σ.S ∧ Goes w G σ w' G' σ ∧ Got w'.heap G' d0 v) (fun v w' ⟨G2, R2, g2, H2⟩ => ⟨G2, R2, F.low, g2, H2⟩)
              rw [← he] at hcall'
              rcases hor with rfl | ⟨rfl, hof⟩
              · exact Does.got hsz (execOp_func ho hc) hcall'
              · exact Does.gotMb hsz hof (execOp_func ho hc) hcall'
          · cases hd

/-- … and of one that is not. -/
theorem step_skip (F : Fine w.heap G tmps σ) {ops : List Oper} (hsz : ∀ t, o.dst = some t → t < tmps.size) (hg : guardB ops σ.env o.guard = some false) (hs : stepOp (tyOf P) C ν ops o σ = some σ') : ∃ G', Fine w.heap G' ((⟨tmps, ds⟩ : Act).put o.dst undef).tmps σ' ∧ Goes w G σ w G' σ' := by
  have hgn : o.guard.isNone = false := by
    cases h : o.guard with
    | none => rw [h] at hg; simp [guardB] at hg
    | some _ => rfl
  unfold stepOp at hs
  rw [hg] at hs
  simp only at hs
  cases hw : isWork (tyOf P) ν o with
  | true =>
    rw [hw, cond_true, cond_false, Option.some.injEq] at hs
    subst hs
    have := skip_ok (ds := ds) F hsz (d := .undef) (.inl rfl)
    have he : offReg σ.env o.dst .undef = .undef := by
      unfold offReg
      cases o.dst with
      | none => rfl
      | some t => simp only; cases hasOwn (look σ.env t) <;> rfl
    rw [he] at this
    exact this
  | false =>
    rw [hw, cond_false, hgn] at hs
    cases hcf : callFails C σ false o with
    | true => rw [hcf] at hs; cases hs
    | false =>
    rw [hcf, cond_false] at hs
    cases hp : gx false false (pureOp (tyOf P) C σ false o.op) with
    | none => rw [hp] at hs; simp at hs
    | some d' =>
      rw [hp] at hs
      simp only [Option.some.injEq] at hs
      subst hs
      refine skip_ok F hsz ?_
      unfold gx at hp
      split at hp
      · rename_i d hd
        simp only [cond_false] at hp
        cases hof : ownFree d with
        | true => rw [hof] at hp; simp only [cond_true, Option.some.injEq] at hp; exact .inr ⟨d, hof, hp.symm⟩
        | false => rw [hof] at hp; simp only [cond_false, Option.some.injEq] at hp; exact .inl hp.symm
      · simp only [cond_false, Option.some.injEq] at hp; exact .inl hp.symm
end
end Go.Mx
