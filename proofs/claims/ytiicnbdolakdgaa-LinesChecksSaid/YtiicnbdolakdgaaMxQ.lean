/- Stores, loads that take along. -/
import Derived.Test.YtiicnbdolakdgaaMxP
set_option linter.unusedVariables false
set_option linter.unusedSimpArgs false
set_option linter.constructorNameAsVariable false
set_option linter.unnecessarySimpa false
namespace Go.Mx
open Go

section
variable {P : Program} {w : World} {h : Array Obj} {G : Gh} {tmps : Array Value} {σ σ' : St} {ds : List Deferred} {C : Oracle} {ro mv gv : Nat → Bool} {o : Oper}

theorem oneCell_scal {loc : Nat → Loc} {d : D} {v : Value} (hc : cellOk d = true) (hk : known d = true) (hr : RD h G loc d v) : v.oneCell' = true := by
  cases d with
  | v x =>
    cases x with
    | b x => simp only [RD, RV] at hr; subst hr; rfl
    | i k n => simp only [RD, RV] at hr; subst hr; rfl
    | s x => simp only [RD, RV] at hr; subst hr; rfl
    | sl sz l => simp only [RD, RV] at hr; obtain ⟨_, _, rfl, _⟩ := hr; rfl
  | own sz l => simp only [RD, ROwn] at hr; rcases hr with ⟨rfl, _⟩ | ⟨_, _, _, _, _, _, rfl, _⟩ <;> rfl
  | cut sz l => simp only [RD] at hr; obtain ⟨_, rfl, _⟩ := hr; rfl
  | rp c => simp only [RD] at hr; obtain ⟨_, _, _, rfl, _⟩ := hr; rfl
  | ptr o f => simp only [RD] at hr; obtain ⟨_, _, rfl⟩ := hr; rfl
  | clo f c => simp only [RD] at hr; obtain ⟨_, rfl, _⟩ := hr; rfl
  | nilp => simp only [RD] at hr; subst hr; rfl
  | undef => simp [known] at hk
  | bad => simp [known] at hk
  | _ => simp [cellOk, stayC] at hc

theorem fitC_known {k : Nat} {d d' : D} (hf : fitC k d = some d') : known d' = true := by
  obtain ⟨h1, h2⟩ := fitC_ne hf
  cases d with
  | v x =>
    cases x <;> simp only [fitC, cond_eq_ite] at hf <;> (repeat' split at hf) <;> first | (cases hf; done) | (cases hf; rfl)
  | _ => simp only [fitC, cond_eq_ite] at hf <;> (repeat' split at hf) <;> first | (cases hf; done) | (cases hf; rfl)
theorem fitCs_known : ∀ (ks : List Nat) (cs r : List D), fitCs ks cs = some r → r.all known = true ∧ r.length = ks.length
  | [], [], r, hf => by simp [fitCs] at hf; subst hf; exact ⟨rfl, rfl⟩
  | k :: ks, d :: ds, r, hf => by
    simp only [fitCs] at hf
    cases h1 : fitC k d with
    | none => simp [h1] at hf
    | some d1 =>
      simp only [h1] at hf
      cases h2 : fitCs ks ds with
      | none => simp [h2] at hf
      | some r' =>
        simp only [h2] at hf
        cases hf
        obtain ⟨g1, g2⟩ := fitCs_known ks ds r' h2
        exact ⟨by simp [fitC_known h1, g1], by simp [g2]⟩
  | [], _ :: _, _, hf => by simp [fitCs] at hf
  | _ :: _, [], _, hf => by simp [fitCs] at hf
theorem fit_cells {ty : Ty} {d d' : D} (hf : Mx.fit ty d = some d') : (cellsOf d').all known = true ∧ (cellsOf d').length = ty.flat.length := by
  cases d with
  | agg cs =>
    simp only [Mx.fit] at hf
    cases ha : ty.agg with
    | false => simp [ha] at hf
    | true =>
      simp only [ha, cond_true] at hf
      cases h2 : fitCs ty.flat cs with
      | none => simp [h2] at hf
      | some r =>
        simp only [h2] at hf
        cases hf
        exact fitCs_known _ _ _ h2
  | _ =>
    simp only [Mx.fit] at hf
    split at hf
    · rename_i q hq
      cases ha : ty.agg with
      | true => simp [ha] at hf
      | false =>
        simp only [ha, cond_false] at hf
        have hk := fitC_known hf
        have hne : ∀ cs, d' ≠ .agg cs := by
          rintro cs rfl
          have := fitC_ok (G := ⟨fun _ => none, fun _ => none, fun _ => none⟩) (h := #[]) (loc := fun _ => .nowhere) (v := .bool true) hf
          simp only [fitC, cond_eq_ite] at hf
          (repeat' split at hf) <;> cases hf
        have hco : cellsOf d' = [d'] := by cases d' <;> first | rfl | exact absurd rfl (hne _)
        rw [hco, hq]
        exact ⟨by simp [hk], rfl⟩
    · cases hf

theorem RDs.oneCell {loc : Nat → Loc} : ∀ (j : Nat) (cs : List D) (vs : List Value), RDs h G loc j cs vs → cs.all cellOk = true → cs.all known = true → ∀ v ∈ vs, v.oneCell' = true
  | _, [], [], _, _, _, _, hv => by cases hv
  | j, d :: cs, v :: vs, hr, hc, hk, x, hx => by
    simp only [List.all_cons, Bool.and_eq_true] at hc hk
    simp only [RDs] at hr
    rcases List.mem_cons.1 hx with rfl | hx
    · exact oneCell_scal hc.1 hk.1 hr.1
    · exact RDs.oneCell _ cs vs hr.2 hc.2 hk.2 x hx
  | _, [], _ :: _, hr, _, _, _, _ => by simp only [RDs] at hr
  | _, _ :: _, [], hr, _, _, _, _ => by simp only [RDs] at hr

/-- A store's run. -/
theorem run_storeAt' {t : TypeId} {i : TypeInfo} {b off : Nat} {v : Value} {c : Array Value} {e : TypeId} {fr : Nat × Nat} (hi : P.info? t = some i) (hs : v.cells.size = i.size) (hb : w.heap[b]? = some (.cells c e fr)) (hf : unfrozen c fr) (hn : off + v.cells.size ≤ c.size)
    (h1 : ∀ x ∈ v.cells.toList, x.oneCell' = true) : (Instr.storeAt t (.pointer (some ⟨b, off, none⟩)) v).run P w = .ok () (w.setCells b off v.cells.toList) := by
  have ht := there_of hb hf hn
  have := run_storeCells_cells (P := P) b off v.cells.toList 0 w (fun j hj => by simpa using (ht j (by simpa using hj)).1) (fun j hj => by simpa using (ht j (by simpa using hj)).2) h1
  simp only [Nat.add_zero] at this
  simp only [Instr.storeAt, Instr.sureAddr, Sem.run_bind, Sem.run_pure, Result.andThen_ok, storeVar, sizeOf, typeInfo, Sem.run_bind]
  simp [hi, hs, this]

theorem Low.set {S : Store} (L : Low S) {o : Nat} {cs : List D} (h : cs.all (lowC o) = true) : Low (S.set o cs) := by
  intro q cs' hq
  rw [List.getElem?_set] at hq
  by_cases hqo : o = q
  · subst hqo
    rw [if_pos rfl] at hq
    split at hq
    · cases hq; exact h
    · cases hq
  · rw [if_neg hqo] at hq; exact L q cs' hq

theorem all_setCells {p : D → Bool} {cs dd : List D} {off : Nat} (h1 : cs.all p = true) (h2 : dd.all p = true) (hoff : off + dd.length ≤ cs.length) : (setCells cs off dd).all p = true := by
  rw [List.all_eq_true]
  intro d' hd'
  obtain ⟨i, hi⟩ := List.mem_iff_getElem?.1 hd'
  by_cases hin : off ≤ i ∧ i < off + dd.length
  · rw [show i = off + (i - off) by omega, setCells_in _ _ _ _ hoff (by omega)] at hi
    exact List.all_eq_true.1 h2 d' (List.mem_of_getElem? hi)
  · rw [setCells_out _ _ _ _ (by omega)] at hi
    exact List.all_eq_true.1 h1 d' (List.mem_of_getElem? hi)

theorem Step.setCells {G' : Gh} {b off : Nat} {vs : List Value} (hm : Mx.mine G b) (hrd : RdLe G.rd G'.rd) (hmi : ∀ b, Mx.mine G' b → Mx.mine G b) (hrdn : ∀ b, G'.rd b ≠ none → G.rd b ≠ none ∨ Mx.mine G b) : Step w G (w.setCells b off vs) G' :=
  ⟨os_setCells' b vs w off, tape_setCells b vs w off, output_setCells' b vs w off, by rw [heap_setCells_size]; exact Nat.le_refl _, fun q hq hnm => heap_setCells_ne b (by rintro rfl; exact hnm hm) vs w off, fun q hq => .inl (hmi q hq), hrd, fun q hq => (hrdn q hq).imp id .inl⟩

theorem Same.mineB {G' : Gh} (S : Same h G G') {b : Nat} (hm : Mx.mine G' b) : Mx.mine G b := by
  rcases hm with ⟨q, hq⟩ | ⟨l, f, hl⟩
  · exact .inl ⟨q, by rw [← S.ob]; exact hq⟩
  · obtain ⟨l0, f0, h0⟩ := S.mine l b f hl; exact .inr ⟨l0, f0, h0⟩
theorem Same.rdB {G' : Gh} (S : Same h G G') {b : Nat} (hb : G'.rd b ≠ none) : G.rd b ≠ none ∨ Mx.mine G b := (S.rdn b hb).imp id (fun ⟨l, f, hl⟩ => .inr ⟨l, f, hl⟩)

theorem RVl.get {rd : Rd} : ∀ (xs : List V) (vs : List Value) (i : Nat) (x : V), RVl rd xs vs → xs[i]? = some x → ∃ v, vs[i]? = some v ∧ RV rd x v
  | [], _, _, _, _, h => by simp at h
  | y :: xs, [], _, _, h, _ => h.elim
  | y :: xs, v :: vs, 0, x, h, hx => by simp at hx; subst hx; exact ⟨v, rfl, h.1⟩
  | y :: xs, v :: vs, i + 1, x, h, hx => by
    obtain ⟨v', h1, h2⟩ := RVl.get xs vs i x h.2 (by simpa using hx)
    exact ⟨v', by simpa using h1, h2⟩

theorem Low.setOwn {σ : St} (L : Low σ.S) {src : Loc} {sz : Nat} {l : List (List V)} : Low (Mx.setOwn σ src sz l).S := by
  cases src with
  | cell o off =>
    intro q cs hq
    simp only [Mx.setOwn, List.getElem?_modify] at hq
    cases hs : σ.S[q]? with
    | none => rw [hs] at hq; simp at hq
    | some cs0 =>
      rw [hs] at hq
      by_cases hqo : o = q
      · simp [hqo] at hq
        subst hq
        rw [List.all_eq_true]
        intro d hd
        rcases List.mem_or_eq_of_mem_set hd with hd | rfl
        · exact List.all_eq_true.1 (L q cs0 hs) d hd
        · rfl
      · simp [hqo] at hq
        subst hq
        exact L q cs0 hs
  | _ => exact L

theorem does_store {t : Nat} {a x : Operand} (F : Fine w.heap G tmps σ) (ho : o.op = .store t a x) (hdst : o.dst = none) (hd : workOp (tyOf P) C ro mv gv σ o.dst o.type o.op = some σ') : Does P w G ⟨tmps, ds⟩ σ o σ' := by
  rw [ho] at hd
  simp only [workOp] at hd
  -- the run, once the store itself is known
  have fin : ∀ (w1 : World) (G1 : Gh), (Instr.storeAt t ((⟨tmps, ds⟩ : Act).eval a) ((⟨tmps, ds⟩ : Act).eval x)).run P w = .ok () w1 → Fine w1.heap G1 tmps σ' → Goes w G σ w1 G1 σ' → Does P w G ⟨tmps, ds⟩ σ o σ' := by
    intro w1 G1 hrun F1 hg next Q hn
    unfold Oper.wp execOp
    simp only [ho, Sem.run_bind, hrun, Result.andThen_ok, Sem.run_pure, Oper.upon_skip]
    exact hn _ w1 G1 (by simp [Act.put, hdst]) (by simp [Act.put, hdst]) (by simpa [Act.put, hdst] using F1) hg
  split at hd
  · rename_i q off d hfa hfx
    cases hft : Mx.fit (tyOf P t) d with
    | none => simp [hft] at hd
    | some d' =>
      simp only [hft] at hd
      cases hcs : σ.S[q]? with
      | none => simp [hcs] at hd
      | some cs =>
        simp only [hcs] at hd
        cases hc : (decide (off + (cellsOf d').length ≤ cs.length) && (cellsOf d').all (lowC q) && (cellsOf d').length == (tyOf P t).size && !(tyOf P t).flat.isEmpty) with
        | false => rw [hc] at hd; cases hd
        | true =>
          rw [hc, cond_true] at hd
          simp only [Bool.and_eq_true, decide_eq_true_eq, beq_iff_eq, Bool.not_eq_true'] at hc
          obtain ⟨⟨⟨hoff, hlow⟩, hsize⟩, hne⟩ := hc
          have hra := F.rel.opndF ds hfa
          simp only [RD] at hra
          obtain ⟨b, hb, hva⟩ := hra
          obtain ⟨G1, R1, T, H1⟩ := F.rel.take (ds := ds) 0 (F.clean 0) hfx (fit_src hft)
          obtain ⟨H2, hok, hcells⟩ := H1.fit hft
          have hcs1 : ({ σ with env := spend σ.env x } : St).S[q]? = some cs := hcs
          obtain ⟨b0, c, e, fr, g1, g2, g3, g4⟩ := R1.obj q cs hcs1
          have hb1 : G1.ob q = some b := by rw [T.ob]; exact hb
          have hbb : b0 = b := by rw [hb1] at g1; cases g1; rfl
          subst hbb
          have hvl := RDs.length _ _ _ _ hcells
          have hlen := RDs.length _ _ _ _ g4
          have hfl := fit_cells hft
          obtain ⟨i, hi, hsz, _⟩ := tyOf_info (P := P) (t := t) (by intro h0; rw [h0] at hne; cases hne)
          have hrun := run_storeAt' (P := P) (w := w) (t := t) (v := (⟨tmps, ds⟩ : Act).eval x) (off := off) hi (by rw [← Array.length_toList, hvl, hsize, hsz]) g2 g3 (by rw [← Array.length_toList, hvl, ← Array.length_toList (xs := c), hlen]; exact hoff)
            (RDs.oneCell _ _ _ hcells hok hfl.1)
          obtain ⟨G2, R2, r1, r2, r3, r4, r5⟩ := R1.put H2 hok hcells (h' := (w.setCells b0 off ((⟨tmps, ds⟩ : Act).eval x).cells.toList).heap) hcs1 hb1 g2 hoff (heap_setCells_size _ _ _ _) (fun q hq => heap_setCells_ne _ hq _ _ _) (heap_setCells _ _ _ _ _ g2)
          cases hd
          refine fin _ G2 (by rw [hva]; exact hrun) ⟨R2, ?_, ?_⟩ ⟨Step.setCells (.inl ⟨q, hb⟩) ?_ ?_ ?_, ?_, ?_⟩
          · intro q' j
            by_cases hq : q' = 0
            · subst hq; exact r3 j
            · rw [r5 q' j hq, T.hand q' j hq]; exact F.clean q' j
          · exact F.low.set (all_setCells (F.low q cs hcs) hlow hoff)
          · rw [r1, T.rd]; exact RdLe.refl _
          · intro b' hm
            rcases hm with ⟨p, hp⟩ | ⟨l, f, hl⟩
            · rw [r2, T.ob] at hp; exact .inl ⟨p, hp⟩
            · obtain ⟨l0, h0⟩ := r4 l _ hl
              obtain ⟨l1, h1⟩ := T.mine l0 _ h0
              exact .inr ⟨l1, f, h1⟩
          · intro b' hb'; rw [r1, T.rd] at hb'; exact .inl hb'
          · simp
          · intro p _; rw [r2, T.ob]
  · rename_i src sz i off d hfa hfx
    cases hft : Mx.fit (tyOf P t) d with
    | none => simp [hft] at hd
    | some d' =>
      simp only [hft] at hd
      split at hd
      · rename_i xs sz' l hxs hown
        split at hd
        · rename_i row hrow
          cases hc : (sz == sz' && decide (off + xs.length ≤ row.length) && (cellsOf d').length == (tyOf P t).size && !(tyOf P t).flat.isEmpty) with
          | false => rw [hc] at hd; cases hd
          | true =>
            rw [hc, cond_true] at hd
            simp only [Bool.and_eq_true, decide_eq_true_eq, beq_iff_eq, Bool.not_eq_true'] at hc
            obtain ⟨⟨⟨rfl, hoff⟩, hsize⟩, hne⟩ := hc
            have hra := F.rel.opndF ds hfa
            simp only [RD] at hra
            obtain ⟨b, base, hb, hva, hpl⟩ := hra
            obtain ⟨G1, R1, T, H1⟩ := F.rel.take (ds := ds) 0 (F.clean 0) hfx (fit_src hft)
            obtain ⟨H2, hok, hcells⟩ := H1.fit hft
            obtain ⟨G2, R2, S2, hl2, c1, c2⟩ := R1.freeze H2 hxs
            have hfl := fit_cells hft
            have hvl := RVl.length _ _ hl2
            obtain ⟨it, hi, hsz, _⟩ := tyOf_info (P := P) (t := t) (by intro h0; rw [h0] at hne; cases hne)
            have hcl := RDs.length _ _ _ _ hcells
            obtain ⟨v0, hv0⟩ := ownAt_ok R2 hown
            rcases hv0 with ⟨_, hl0⟩ | ⟨b', base', cap, c, e, fr, k1, k2, k3, k4, k5, k6, k7⟩
            · rw [hl0] at hrow; cases hrow
            have hsame : G2.ow src = G.ow src := by
              rw [hb]
              have h2 : G1.ow src = some (b', base') := by
                rw [← c2 src (by rintro j rfl; cases hpl)]; exact k2
              rw [k2]
              have := T.keep src _ hpl h2
              rw [hb] at this; exact this.symm
            have hbb : b' = b ∧ base' = base := by
              rw [hsame, hb] at k2; cases k2; exact ⟨rfl, rfl⟩
            obtain ⟨rfl, rfl⟩ := hbb
            have hil : i < l.length := (List.getElem?_eq_some_iff.1 hrow).1
            have hrl := (RVr.get _ _ _ _ _ _ k7 hrow).1
            have hfit : base' + i * sz + off + xs.length ≤ c.size := by
              have h1 : (i + 1) * sz ≤ cap * sz := Nat.mul_le_mul_right _ (by omega)
              rw [Nat.succ_mul] at h1
              omega
            have hvs : ((⟨tmps, ds⟩ : Act).eval x).cells.toList.length = xs.length := hvl
            have hrun := run_storeAt' (P := P) (w := w) (t := t) (v := (⟨tmps, ds⟩ : Act).eval x) (b := b') (off := base' + i * sz + off) hi (by rw [← Array.length_toList, hcl, hsize, hsz]) k3 k4 (by rw [← Array.length_toList, hvs]; exact hfit)
              (RDs.oneCell _ _ _ hcells hok hfl.1)
            have R3 := R2.setOwn (sz' := sz) (l2 := l.set i (setVs row off xs)) (h' := (w.setCells b' (base' + i * sz + off) ((⟨tmps, ds⟩ : Act).eval x).cells.toList).heap) (by rw [hsame]; exact hb) hown (heap_setCells_size _ _ _ _) (fun q hq => heap_setCells_ne _ hq _ _ _) (by
              intro v hv
              rcases hv with ⟨_, hl0⟩ | ⟨b2, base2, cap2, c2', e2, fr2, j1, j2, j3, j4, j5, j6, j7⟩
              · rw [hl0] at hrow; cases hrow
              · rw [hsame, hb] at j2
                cases j2
                rw [k3] at j3
                cases j3
                refine .inr ⟨b', base', cap2, _, e, fr, by rw [j1]; simp, by rw [hsame]; exact hb, heap_setCells _ _ _ _ _ k3, ?_, by simpa using j5, by rw [wr_size]; exact j6, ?_⟩
                · intro p hp; rw [wr_size] at hp; exact k4 p hp
                · refine RVr.of_get _ _ _ _ (fun p r hr => ?_)
                  rw [List.getElem?_set] at hr
                  by_cases hpi : i = p
                  · subst hpi
                    rw [if_pos rfl, if_pos hil] at hr
                    cases hr
                    obtain ⟨g1, g2⟩ := RVr.get _ _ _ _ _ _ j7 hrow
                    refine ⟨by rw [setVs_length]; exact g1, RVc.of_get _ _ _ (fun p x hx => ?_)⟩
                    by_cases hin : off ≤ p ∧ p < off + xs.length
                    · rw [show p = off + (p - off) by omega, setVs_in _ _ _ _ hoff (by omega)] at hx
                      have hvx : ∃ v, ((⟨tmps, ds⟩ : Act).eval _).cells.toList[p - off]? = some v ∧ RV G2.rd x v := RVl.get _ _ _ _ hl2 hx
                      obtain ⟨v, hv1, hv2⟩ := hvx
                      refine ⟨v, ?_, hv2⟩
                      rw [show base' + i * sz + p = base' + i * sz + off + (p - off) by omega, wr_in _ _ _ _ (by rw [hvs]; exact hfit) (by rw [hvs]; omega)]
                      exact hv1
                    · rw [setVs_out _ _ _ _ (by omega)] at hx
                      obtain ⟨v, hv1, hv2⟩ := RVc.get _ _ _ _ _ g2 hx
                      exact ⟨v, by rw [wr_out _ _ _ _ (by rw [hvs]; omega)]; exact hv1, hv2⟩
                  · rw [if_neg hpi] at hr
                    obtain ⟨g1, g2⟩ := RVr.get _ _ _ _ _ _ j7 hr
                    refine ⟨g1, RVc.same _ _ _ _ (fun q hq1 hq2 => ?_) g2⟩
                    refine wr_out _ _ _ _ ?_
                    rw [hvs]
                    rcases Nat.lt_or_ge p i with hlt | hge
                    · left
                      have h1 : (p + 1) * sz ≤ i * sz := Nat.mul_le_mul_right _ hlt
                      rw [Nat.succ_mul] at h1
                      omega
                    · right
                      have h1 : (i + 1) * sz ≤ p * sz := Nat.mul_le_mul_right _ (by omega)
                      rw [Nat.succ_mul] at h1
                      omega)
            cases hd
            have S12 := T.same.trans S2
            have hmb : Mx.mine G b' := .inr ⟨src, base', hb⟩
            have hlenS : (Mx.setOwn { σ with env := spend σ.env x } src sz (l.set i (setVs row off xs))).S.length = σ.S.length := by
              cases src <;> simp [Mx.setOwn]
            refine fin _ G2 (by rw [hva]; exact hrun) ⟨R3, ?_, ?_⟩ ⟨Step.setCells hmb S12.rd (fun b hb => S12.mineB hb) (fun b hb => S12.rdB hb), by rw [hlenS]; exact Nat.le_refl _, fun q _ => by rw [S12.ob]⟩
            · intro q j
              by_cases hq : q = 0
              · subst hq; exact c1 j
              · rw [c2 _ (by rintro j' hj; cases hj; exact hq rfl), T.hand q j hq]; exact F.clean q j
            · exact Low.setOwn (σ := { σ with env := spend σ.env x }) F.low
        · cases hd
      · cases hd
  · cases hd
end
end Go.Mx
