/- assign, box, alloc, convert, make. -/
import Derived.Test.YtiicnbdolakdgaaMxN
import Derived.Laws.IdiomStrings
import Derived.Laws.MakeOwn
import Derived.Laws.Tables
import Derived.Great.BuildSlice
set_option linter.unusedVariables false
set_option linter.unusedSimpArgs false
set_option linter.constructorNameAsVariable false
set_option linter.unnecessarySimpa false
namespace Go.Mx
open Go

section
variable {P : Program} {w : World} {G : Gh} {tmps : Array Value} {σ σ' : St} {ds : List Deferred} {C : Oracle} {ro mv gv : Nat → Bool} {o : Oper}

theorem fit_some {ty : Ty} {d d' : D} (hf : Mx.fit ty d = some d') : (∃ cs, d = .agg cs) ∨ ∃ k, fitC k d = some d' := by
  cases d with
  | agg cs => exact .inl ⟨cs, rfl⟩
  | _ =>
    right
    simp only [Mx.fit] at hf
    split at hf
    · rename_i q hq
      cases ha : ty.agg with
      | true => simp [ha] at hf
      | false => simp only [ha, cond_false] at hf; exact ⟨q, hf⟩
    · cases hf
/-- What fits may be taken along. -/
theorem fit_src {ty : Ty} {d d' : D} (hf : Mx.fit ty d = some d') : valOk d = true := by
  have one : ∀ (k : Nat) (d d' : D), fitC k d = some d' → cellOk d = true := by
    intro k d d' hk
    cases d with
    | clo f c =>
      simp only [fitC] at hk
      cases hc : c.all stayC with
      | false => simp [hc] at hk
      | true => simpa [cellOk] using hc
    | v x => rfl
    | own _ _ => rfl
    | cut _ _ => rfl
    | ptr _ _ => rfl
    | rp _ => rfl
    | nilp => rfl
    | undef => rfl
    | bad => rfl
    | _ => simp [fitC] at hk
  cases d with
  | agg cs =>
    simp only [Mx.fit] at hf
    cases ha : ty.agg with
    | false => simp [ha] at hf
    | true =>
      simp only [ha, cond_true] at hf
      cases h2 : fitCs ty.flat cs with
      | none => simp [h2] at hf
      | some r =>
        have : ∀ (ks : List Nat) (cs r : List D), fitCs ks cs = some r → cs.all cellOk = true := by
          intro ks
          induction ks with
          | nil => intro cs r h; cases cs with
            | nil => rfl
            | cons _ _ => simp [fitCs] at h
          | cons k ks ih => intro cs r h; cases cs with
            | nil => rfl
            | cons d ds =>
              simp only [fitCs] at h
              cases h1 : fitC k d with
              | none => simp [h1] at h
              | some d1 =>
                simp only [h1] at h
                cases h2 : fitCs ks ds with
                | none => simp [h2] at h
                | some r' => simp [one k d d1 h1, ih ds r' h2]
        simpa [valOk] using this _ _ _ h2
  | _ =>
    rcases fit_some hf with ⟨cs, hcs⟩ | ⟨k, hk⟩
    · cases hcs
    · exact one k _ _ hk

theorem Took.goes {k : Nat} {G' : Gh} (T : Took k w.heap G G') {σ' : St} (h : σ'.S.length = σ.S.length) : Goes w G σ w G' σ' := T.same.goes h

theorem does_assign {x : Operand} (F : Fine w.heap G tmps σ) (ho : o.op = .assign x) (hsz : ∀ t, o.dst = some t → t < tmps.size) (hd : workOp (tyOf P) C ro mv gv σ o.dst o.type o.op = some σ') : Does P w G ⟨tmps, ds⟩ σ o σ' := by
  rw [ho] at hd
  simp only [workOp] at hd
  have hrun : (execOp (⟨tmps, ds⟩ : Act).eval o).run P w = .ok (.value ((⟨tmps, ds⟩ : Act).eval x)) w := by unfold execOp; simp only [ho]; rfl
  cases hf : force true (Mx.opnd σ.env x) with
  | none => simp [hf] at hd
  | some d =>
    cases hdst : o.dst with
    | none => simp [hf, hdst] at hd
    | some t =>
      simp only [hf, hdst] at hd
      have hrd := F.rel.opndF ds hf
      cases hft : Mx.fit (tyOf P o.type) d with
      | some d' =>
        simp only [hft] at hd
        cases hd
        obtain ⟨G1, R1, T, H1⟩ := F.rel.take (ds := ds) 0 (F.clean 0) hf (fit_src hft)
        exact Does.give hdst (hsz t hdst) hrun R1 (H1.fit hft).1 (fun q j hq => by rw [T.hand q j hq]; exact F.clean q j) F.low (T.goes rfl)
      | none =>
        simp only [hft] at hd
        cases d with
        | tup cs =>
          cases hd
          exact Does.free hdst (hsz t hdst) hrun F rfl (fun loc => RD.reloc (d := .tup cs) rfl hrd)
        | ep src sz i off =>
          cases hd
          exact Does.free hdst (hsz t hdst) hrun F rfl (fun loc => RD.reloc (d := .ep src sz i off) rfl hrd)
        | al f sz l src =>
          cases hd
          exact Does.free hdst (hsz t hdst) hrun F rfl (fun loc => RD.reloc (d := .al f sz l src) rfl hrd)
        | _ => simp at hd

/-! ### New variables -/
theorem Goes.push {G' : Gh} {w' : World} (ob : Obj) (hw : w' = w.alloc ob ∨ w' = w.drew.alloc ob) (hrd : RdLe G.rd G'.rd) (hm : ∀ b, mine G' b → mine G b ∨ b = w.heap.size) (hrdn : ∀ b, G'.rd b ≠ none → G.rd b ≠ none ∨ mine G b ∨ b = w.heap.size)
    (hlen : σ.S.length ≤ σ'.S.length) (hob : ∀ q, q < σ.S.length → G'.ob q = G.ob q) : Goes w G σ w' G' σ' := by
  have hheap : w'.heap = w.heap.push ob := by rcases hw with rfl | rfl <;> rfl
  refine ⟨⟨?_, ?_, ?_, ?_, ?_, fun b hb => (hm b hb).imp id (fun e => by rw [e]; exact Nat.le_refl _), hrd, fun b hb => (hrdn b hb).imp id (Or.imp id (fun e => by rw [e]; exact Nat.le_refl _))⟩, hlen, hob⟩
  · rcases hw with rfl | rfl <;> rfl
  · rcases hw with rfl | rfl <;> rfl
  · rcases hw with rfl | rfl <;> rfl
  · rw [hheap]; simp
  · intro b hb _
    rw [hheap]; exact push_old ob hb

theorem lowC_of {h : Array Obj} (R : Rel h G tmps σ) {loc : Nat → Loc} : ∀ (j : Nat) (cs : List D) (vs : List Value), RDs h G loc j cs vs → cs.all cellOk = true → cs.all (lowC σ.S.length) = true := by
  have hp : ∀ q b, G.ob q = some b → q < σ.S.length := by
    intro q b hb
    rcases Nat.lt_or_ge q σ.S.length with hl | hl
    · exact hl
    · rw [R.obn q hl] at hb; cases hb
  have inner : ∀ (cs : List D) (vs : List Value) (loc : Nat → Loc) (j : Nat), RDs h G loc j cs vs → cs.all stayC = true → cs.all (lowP σ.S.length) = true := by
    intro cs
    induction cs with
    | nil => intros; rfl
    | cons d r ih =>
      intro vs loc j hr hc
      cases vs with
      | nil => simp only [RDs] at hr
      | cons v vs =>
        simp only [RDs] at hr
        simp only [List.all_cons, Bool.and_eq_true] at hc ⊢
        refine ⟨?_, ih _ _ _ hr.2 hc.2⟩
        cases d with
        | ptr q off =>
          have h1 := hr.1
          simp only [RD] at h1
          obtain ⟨b, hb, _⟩ := h1
          simpa [lowP] using hp q b hb
        | _ => first | exact hc.1 | rfl
  intro j cs
  induction cs generalizing j with
  | nil => intros; rfl
  | cons d r ih =>
    intro vs hr hc
    cases vs with
    | nil => simp only [RDs] at hr
    | cons v vs =>
      simp only [RDs] at hr
      simp only [List.all_cons, Bool.and_eq_true] at hc ⊢
      refine ⟨?_, ih _ _ hr.2 hc.2⟩
      cases d with
      | ptr q off =>
        have h1 := hr.1
        simp only [RD] at h1
        obtain ⟨b, hb, _⟩ := h1
        simpa [lowC] using hp q b hb
      | clo f cs =>
        have h1 := hr.1
        simp only [RD] at h1
        obtain ⟨vs, _, h2⟩ := h1
        simpa only [lowC] using inner cs _ _ _ h2 (by simpa [cellOk] using hc.1)
      | _ => first | exact hc.1 | rfl
theorem Low.push {S : Store} (L : Low S) {cs : List D} (h : cs.all (lowC S.length) = true) : Low (S ++ [cs]) := by
  intro q cs' hq
  by_cases hl : q < S.length
  · rw [List.getElem?_append_left hl] at hq; exact L q cs' hq
  · rw [List.getElem?_append_right (by omega)] at hq
    have hqN : q - S.length = 0 := by
      rcases Nat.eq_zero_or_pos (q - S.length) with h0 | h0
      · exact h0
      · rw [List.getElem?_eq_none (by simp; omega)] at hq; cases hq
    rw [hqN] at hq
    simp at hq
    subst hq
    rw [show q = S.length by omega]; exact h

/-- A new variable: what it holds comes from hand 0. -/
theorem Does.new {t : Nat} {v1 : Value} {w1 : World} {e : TypeId} {G1 : Gh} {σ1 : St} {d : D} {v : Value} (hdst : o.dst = some t) (ht : t < tmps.size)
    (hrun : (execOp (⟨tmps, ds⟩ : Act).eval o).run P w = .ok (.value (.pointer (some ⟨w.heap.size, 0, none⟩))) (w.alloc (.cells v.cells e)))
    (R : Rel w.heap G1 tmps σ1) (S1 : Same w.heap G G1) (H : Held w.heap G1 0 d v) (hcl : ∀ q j, q ≠ 0 → G1.ow (.hand q j) = none) (hlen : σ1.S = σ.S) (low : Low σ.S)
    (hok : (cellsOf d).all cellOk = true) (hcells : RDs w.heap G1 (Loc.hand 0) 0 (cellsOf d) v.cells.toList) :
    Does P w G ⟨tmps, ds⟩ σ o { env := setReg σ1.env t (.ptr σ.S.length 0), S := σ1.S ++ [cellsOf d] } := by
  obtain ⟨G2, R2, b1, b2, b3, b4, b5, b6⟩ := R.newObj H hok hcells e
  have hlow := lowC_of R 0 _ _ hcells hok
  have hb : ∀ l b f, G2.ow l = some (b, f) → mine G b := by
    intro l b f hl
    obtain ⟨l0, h0⟩ := b6 l b f hl
    obtain ⟨l1, f1, h1⟩ := S1.mine l0 b f h0
    exact .inr ⟨l1, f1, h1⟩
  have R2' : Rel (w.alloc (.cells v.cells e)).heap G2 tmps { σ1 with S := σ1.S ++ [cellsOf d] } := R2
  refine Does.give (σ1 := { σ1 with S := σ1.S ++ [cellsOf d] }) hdst ht hrun R2' (d := .ptr σ.S.length 0) ?_ ?_ ?_ ?_
  · refine ⟨by simp only [RD]; exact ⟨w.heap.size, by rw [← hlen]; exact b1, rfl⟩, fun j p hp => ?_, rfl⟩
    rw [b4] at hp; cases hp
  · intro q j hq
    rw [b5 (.hand q j) (by rintro j' hj; cases hj; exact hq rfl) (by rintro j' hj; cases hj)]
    exact hcl q j hq
  · show Low (σ1.S ++ [cellsOf d])
    rw [hlen] at *
    exact low.push (by rw [← hlen]; exact hlow)
  · refine Goes.push (.cells v.cells e) (.inl rfl) ?_ ?_ ?_ ?_ ?_
    · rw [b2]; exact S1.rd
    · intro b hm
      rcases hm with ⟨q, hq⟩ | ⟨l, f, hl⟩
      · by_cases hqn : q = σ1.S.length
        · subst hqn; rw [b1] at hq; cases hq; exact .inr rfl
        · rw [b3 q hqn, S1.ob] at hq; exact .inl (.inl ⟨q, hq⟩)
      · exact .inl (hb l b f hl)
    · intro b hb'
      rw [b2] at hb'
      rcases S1.rdn b hb' with h1 | ⟨l, f, h1⟩
      · exact .inl h1
      · exact .inr (.inl (.inr ⟨l, f, h1⟩))
    · simp [hlen]
    · intro q hq
      rw [b3 q (by rw [hlen]; omega), S1.ob]

theorem does_box {t : Nat} {x : Operand} (F : Fine w.heap G tmps σ) (ho : o.op = .box t x) (hsz : ∀ t, o.dst = some t → t < tmps.size) (hd : workOp (tyOf P) C ro mv gv σ o.dst o.type o.op = some σ') : Does P w G ⟨tmps, ds⟩ σ o σ' := by
  rw [ho] at hd
  simp only [workOp] at hd
  cases hf : force true (Mx.opnd σ.env x) with
  | none => simp [hf] at hd
  | some d =>
    cases hdst : o.dst with
    | none => simp [hf, hdst] at hd
    | some u =>
      simp only [hf, hdst] at hd
      cases hft : Mx.fit (tyOf P t) d with
      | none => simp [hft] at hd
      | some d' =>
        simp only [hft] at hd
        have hrun : (execOp (⟨tmps, ds⟩ : Act).eval o).run P w = .ok (.value (.pointer (some ⟨w.heap.size, 0, none⟩))) (w.alloc (.cells ((⟨tmps, ds⟩ : Act).eval x).cells t)) := by
          unfold execOp; simp only [ho, Instr.box, newVar, newRow]; rfl
        obtain ⟨G1, R1, T, H1⟩ := F.rel.take (ds := ds) 0 (F.clean 0) hf (fit_src hft)
        obtain ⟨H2, hok, hcells⟩ := H1.fit hft
        have hcl : ∀ q j, q ≠ 0 → G1.ow (.hand q j) = none := fun q j hq => by rw [T.hand q j hq]; exact F.clean q j
        cases hro : ro u with
        | false =>
          simp only [hro, cond_false] at hd
          cases hd
          exact Does.new (v1 := .bool true) (w1 := w) hdst (hsz u hdst) hrun R1 T.same H2 hcl rfl F.low hok hcells
        | true =>
          simp only [hro, cond_true] at hd
          cases hx : toVs (cellsOf d') with
          | none => simp [hx] at hd
          | some xs =>
            simp only [hx] at hd
            cases hd
            obtain ⟨G2, R2, S2, hl, k1, k2⟩ := R1.freeze H2 hx
            obtain ⟨G3, R3, r1, r2, r3, r4, r5⟩ := R2.newRd ((⟨tmps, ds⟩ : Act).eval x).cells t (0, 0)
            have S12 := T.same.trans S2
            refine Does.give (d := .rp xs) (σ1 := { σ with env := spend σ.env x }) hdst (hsz u hdst) hrun R3 ?_ ?_ F.low ?_
            · refine ⟨?_, fun j p hp => ?_, rfl⟩
              · simp only [RD]
                refine ⟨w.heap.size, 0, _, rfl, r1, ?_⟩
                exact RVc.ofRVl xs _ _ 0 (RVl.mono r2 _ _ hl) (fun q v hv => by rw [Nat.zero_add]; simpa using hv)
              · rw [r4, k1] at hp; cases hp
            · intro q j hq
              rw [r4, k2 _ (by rintro j' hj; cases hj; exact hq rfl)]; exact hcl q j hq
            · refine Goes.push _ (.inl rfl) (S12.rd.trans r2) ?_ ?_ (Nat.le_refl _) ?_
              · intro b hm
                rcases hm with ⟨q, hq⟩ | ⟨l, f, hl⟩
                · rw [r3, S12.ob] at hq; exact .inl (.inl ⟨q, hq⟩)
                · rw [r4] at hl
                  obtain ⟨l1, f1, h1⟩ := S12.mine l b f hl
                  exact .inl (.inr ⟨l1, f1, h1⟩)
              · intro b hb
                rcases r5 b hb with hb | hb
                · rcases S12.rdn b hb with h1 | ⟨l, f, h1⟩
                  · exact .inl h1
                  · exact .inr (.inl (.inr ⟨l, f, h1⟩))
                · exact .inr (.inr hb)
              · intro q _; rw [r3, S12.ob]

theorem RD.zeroCell {h : Array Obj} {loc : Nat → Loc} (k : Nat) (v : Value) : RD h G loc (Mx.zeroCell k v) v ∧ cellOk (Mx.zeroCell k v) = true := by
  unfold Mx.zeroCell
  split <;> try (exact ⟨by simp only [RD, RV], rfl⟩)
  cases (k == 0) with
  | true => exact ⟨by simp only [cond_true, RD], rfl⟩
  | false => exact ⟨by simp only [cond_false, RD]; exact .inl ⟨rfl, rfl⟩, rfl⟩
theorem RDs.zero {h : Array Obj} {loc : Nat → Loc} : ∀ (j : Nat) (fl : List Nat) (vs : List Value), fl.length = vs.length → RDs h G loc j (List.zipWith Mx.zeroCell fl vs) vs ∧ (List.zipWith Mx.zeroCell fl vs).all cellOk = true
  | _, [], [], _ => ⟨by simp only [List.zipWith, RDs], rfl⟩
  | j, k :: fl, v :: vs, hl => by
    obtain ⟨h1, h2⟩ := RDs.zero (loc := loc) (h := h) (j + 1) fl vs (by simpa using hl)
    obtain ⟨g1, g2⟩ := RD.zeroCell (G := G) (h := h) (loc := fun _ => loc j) k v
    simp only [List.zipWith, RDs]
    exact ⟨⟨g1, h1⟩, by simp [g2, h2]⟩
  | _, [], _ :: _, hl => by simp at hl
  | _, _ :: _, [], hl => by simp at hl
theorem tyOf_zero {t : TypeId} (hz : (tyOf P t).zero.length = (tyOf P t).size) (h0 : (tyOf P t).size ≠ 0) : ∃ i z, P.info? t = some i ∧ i.zero = some z ∧ z.cells.size = (tyOf P t).size ∧ i.size = (tyOf P t).size ∧ i.bytes = (tyOf P t).bytes ∧
    ∀ (h : Array Obj) (loc : Nat → Loc) (j : Nat), RDs h G loc j (tyOf P t).zero z.cells.toList ∧ (tyOf P t).zero.all cellOk = true := by
  unfold tyOf at *
  cases hi : P.info? t with
  | none => simp [hi] at hz
  | some i =>
    simp only [hi] at *
    cases hfl : flatOf P 12 t with
    | none => simp [hfl] at hz
    | some fl =>
      simp only [hfl] at *
      cases hzz : i.zero with
      | none => simp [hzz] at hz
      | some z =>
        have hzk := hzz
        simp only [hzz] at hz h0 ⊢
        have key : (zeroOf fl z i.size).length = i.size → i.size ≠ 0 → z.cells.size = i.size ∧ ∀ (h : Array Obj) (loc : Nat → Loc) (j : Nat), RDs h G loc j (zeroOf fl z i.size) z.cells.toList ∧ (zeroOf fl z i.size).all cellOk = true := by
          intro h1 h2
          unfold zeroOf at *
          cases hc : (fl.length == i.size && z.cells.size == i.size && i.size != 0) with
          | false => simp [hc] at h1; exact absurd h1.symm h2
          | true =>
            simp at hc
            refine ⟨hc.1.2, fun h loc j => ?_⟩
            simp only [cond_true]
            exact RDs.zero j fl _ (by rw [Array.length_toList]; exact hc.1.1.trans hc.1.2.symm)
        cases hu : P.underlying t with
        | none => simp [hu] at hz
        | some u =>
          simp only [hu] at hz h0 ⊢
          cases u with
          | bool => obtain ⟨k1, k2⟩ := key hz h0; exact ⟨i, z, rfl, hzk, k1, rfl, rfl, k2⟩
          | int _ => obtain ⟨k1, k2⟩ := key hz h0; exact ⟨i, z, rfl, hzk, k1, rfl, rfl, k2⟩
          | string => obtain ⟨k1, k2⟩ := key hz h0; exact ⟨i, z, rfl, hzk, k1, rfl, rfl, k2⟩
          | slice _ => obtain ⟨k1, k2⟩ := key hz h0; exact ⟨i, z, rfl, hzk, k1, rfl, rfl, k2⟩
          | pointer _ => obtain ⟨k1, k2⟩ := key hz h0; exact ⟨i, z, rfl, hzk, k1, rfl, rfl, k2⟩
          | struct _ => obtain ⟨k1, k2⟩ := key hz h0; exact ⟨i, z, rfl, hzk, k1, rfl, rfl, k2⟩
          | array _ _ => obtain ⟨k1, k2⟩ := key hz h0; exact ⟨i, z, rfl, hzk, k1, rfl, rfl, k2⟩
          | func _ _ _ => exact absurd (show i.size = 0 from hz.symm) h0
          | _ => exact absurd hz (by intro h; cases h)

theorem run_zeroValue' {t : TypeId} {i : TypeInfo} {z : Value} (hi : P.info? t = some i) (hz : i.zero = some z) : (zeroValue t).run P w = .ok z w := by
  simp [zeroValue, typeInfo, hi, hz]

theorem does_alloc {t : Nat} (F : Fine w.heap G tmps σ) (ho : o.op = .alloc t) (hsz : ∀ t, o.dst = some t → t < tmps.size) (hd : workOp (tyOf P) C ro mv gv σ o.dst o.type o.op = some σ') : Does P w G ⟨tmps, ds⟩ σ o σ' := by
  rw [ho] at hd
  simp only [workOp] at hd
  cases hdst : o.dst with
  | none => simp [hdst] at hd
  | some u =>
    simp only [hdst] at hd
    cases hc : ((tyOf P t).zero.length == (tyOf P t).size && (tyOf P t).size != 0) with
    | false => simp [hc] at hd
    | true =>
      simp only [hc, cond_true] at hd
      cases hd
      simp at hc
      obtain ⟨i, z, hi, hz, h1, h2, _, h3⟩ := tyOf_zero (G := G) hc.1 hc.2
      obtain ⟨h4, h5⟩ := h3 w.heap (Loc.hand 0) 0
      have hrun : (execOp (⟨tmps, ds⟩ : Act).eval o).run P w = .ok (.value (.pointer (some ⟨w.heap.size, 0, none⟩))) (w.alloc (.cells (Value.agg z.cells).cells t)) := by
        unfold execOp; simp only [ho, Instr.alloc, Sem.run_bind, run_zeroValue' hi hz, Result.andThen_ok, newVar, newRow]; rfl
      have := Does.new (v1 := .bool true) (w1 := w) (d := .agg (tyOf P t).zero) (v := .agg z.cells) hdst (hsz u hdst) hrun F.rel (Same.refl _ _) (Held.free F.clean (fun loc => by
        simp only [RD]; exact ⟨_, rfl, (h3 w.heap loc 0).1⟩) (by simpa [valOk] using h5)) (fun q j _ => F.clean q j) rfl F.low h5 h4
      exact this

/-- A new row that hand 0 owns goes to the register. -/
theorem Does.newOwn {t : Nat} {w1 : World} {G1 : Gh} {σ1 : St} {c : Array Value} {e : TypeId} {fr : Nat × Nat} {sz len cap : Nat} {l : List (List V)} (hdst : o.dst = some t) (ht : t < tmps.size)
    (hrun : (execOp (⟨tmps, ds⟩ : Act).eval o).run P w = .ok (.value (.slice (some ⟨w.heap.size, 0, none⟩) len cap)) w1) (hw : w1 = w.alloc (.cells c e fr) ∨ w1 = w.drew.alloc (.cells c e fr))
    (R : Rel w.heap G1 tmps σ1) (hcl : Clean G1) (hS : σ1.S.length = σ.S.length) (low : Low σ1.S) (S1 : Same w.heap G G1)
    (hfr : unfrozen c fr) (hl : l.length = len) (hz : sz ≠ 0) (hc : len ≤ cap) (hs : cap * sz ≤ c.size) (hr : RVr G1.rd sz l c 0) : Does P w G ⟨tmps, ds⟩ σ o { σ1 with env := setReg σ1.env t (.own sz l) } := by
  obtain ⟨G2, R2, H, b1, b2, b3, b4⟩ := R.newOwn (k := 0) (hcl 0) c e fr hfr hl hz hc hs hr
  have hheap : w1.heap = w.heap.push (.cells c e fr) := by rcases hw with rfl | rfl <;> rfl
  refine Does.give hdst ht hrun (by rw [hheap]; exact R2) (by rw [hheap]; exact H) ?_ low ?_
  · intro q j hq
    rw [b3 _ (by rintro j' hj; cases hj; exact hq rfl)]; exact hcl q j
  · refine Goes.push _ hw (by rw [b1]; exact S1.rd) ?_ ?_ (by rw [hS]; exact Nat.le_refl _) (fun q _ => by rw [b2, S1.ob])
    · intro b hm
      rcases hm with ⟨q, hq⟩ | ⟨l, f, hl⟩
      · rw [b2, S1.ob] at hq; exact .inl (.inl ⟨q, hq⟩)
      · rcases b4 l b f hl with h1 | h1
        · obtain ⟨l1, f1, h2⟩ := S1.mine l b f h1; exact .inl (.inr ⟨l1, f1, h2⟩)
        · exact .inr h1
    · intro b hb
      rw [b1] at hb
      rcases S1.rdn b hb with h1 | ⟨l, f, h1⟩
      · exact .inl h1
      · exact .inr (.inl (.inr ⟨l, f, h1⟩))

theorem does_convert {src dst : Nat} {x : Operand} (F : Fine w.heap G tmps σ) (ho : o.op = .convert src dst x) (hsz : ∀ t, o.dst = some t → t < tmps.size) (hus : P.underlying src = some .string) (hd : workOp (tyOf P) C ro mv gv σ o.dst o.type o.op = some σ') : Does P w G ⟨tmps, ds⟩ σ o σ' := by
  rw [ho] at hd
  simp only [workOp] at hd
  split at hd
  · rename_i s u hf hdst
    split at hd
    · rename_i e hte
      split at hd
      · rename_i hue
        cases hd
        have hx : (⟨tmps, ds⟩ : Act).eval x = .string s := RD.str (F.rel.opndF ds hf)
        obtain ⟨i1, hi1, hu1⟩ := tyOf_slice hte
        obtain ⟨i2, hi2, hu2⟩ := tyOf_int hue
        have hrun := run_bytes_of_string (P := P) w src dst e s hus hu1 hu2
        refine Does.newOwn (w1 := w.drew.alloc (.cells (bytesRow s (grownCap w s.size 0 e)) e ((bytesRow s (grownCap w s.size 0 e)).size, (bytesRow s (grownCap w s.size 0 e)).size + 1))) (c := bytesRow s (grownCap w s.size 0 e)) (e := e) (fr := ((bytesRow s (grownCap w s.size 0 e)).size, (bytesRow s (grownCap w s.size 0 e)).size + 1)) (σ1 := σ) (len := s.size) (cap := grownCap w s.size 0 e) hdst (hsz u hdst) ?_ (.inr rfl) F.rel F.clean rfl F.low (Same.refl _ _) ?_ ?_ (by decide) (grownCap_ge _ _ _ _) ?_ ?_
        · unfold execOp
          simp only [ho, hx, Sem.run_bind, hrun, Result.andThen_ok]; rfl
        · intro i hi; omega
        · simp [bytesRows]
        · have := grownCap_ge w s.size 0 e
          have hss : s.data.size = s.size := rfl
          simp [bytesRow]; omega
        · refine RVr.of_get 1 _ _ 0 (fun i r hr => ?_)
          unfold bytesRows at hr
          rw [List.getElem?_map] at hr
          cases hb : s.data.toList[i]? with
          | none => rw [hb] at hr; cases hr
          | some b =>
            rw [hb] at hr
            simp at hr
            subst hr
            have hi : i < s.data.size := by
              have := (List.getElem?_eq_some_iff.1 hb).1
              simpa using this
            have hbi : s.data[i] = b := by
              have := (List.getElem?_eq_some_iff.1 hb).2
              simpa using this
            refine ⟨rfl, ?_⟩
            simp only [RVc, Nat.zero_add, Nat.mul_one]
            exact ⟨⟨_, bytesRow_at s _ i hi, by simp only [RV, hbi]⟩, trivial⟩
      · cases hd
    · cases hd
  · cases hd

theorem madeCells_get (z : Array Value) (n i q : Nat) (hz : z.size ≠ 0) (hi : i * z.size + q < n) (hq : q < z.size) : (madeCells z n)[i * z.size + q]? = z[q]? := by
  unfold madeCells
  rw [Array.getElem?_map]
  have : (Array.range n)[i * z.size + q]? = some (i * z.size + q) := by
    rw [Array.getElem?_range]; simp [hi]
  rw [this]
  simp only [Option.map_some]
  rw [Nat.mul_add_mod_self_right, Nat.mod_eq_of_lt hq, Array.getElem?_eq_getElem hq]
  simp [hq]

theorem does_make {t : Nat} {n m : Operand} (F : Fine w.heap G tmps σ) (ho : o.op = .makeSlice t n m) (hnm : (⟨tmps, ds⟩ : Act).eval m = (⟨tmps, ds⟩ : Act).eval n) (hsz : ∀ t, o.dst = some t → t < tmps.size) (hd : workOp (tyOf P) C ro mv gv σ o.dst o.type o.op = some σ') : Does P w G ⟨tmps, ds⟩ σ o σ' := by
  rw [ho] at hd
  simp only [workOp] at hd
  split at hd
  · rename_i k n0 u hf hdst
    split at hd
    · rename_i e hte
      cases hc : ((tyOf P e).zero.length == (tyOf P e).size && (tyOf P e).size != 0 && decide (0 ≤ n0 ∧ n0 * (tyOf P e).bytes ≤ 140737488355328 ∧ n0 ≤ 140737488355328)) with
      | false => rw [hc] at hd; cases hd
      | true =>
        rw [hc, cond_true] at hd
        simp at hc
        obtain ⟨⟨hc1, hc2⟩, hc3, hc4, hc5⟩ := hc
        split at hd
        · rename_i z0 hz0
          cases hd
          obtain ⟨i, z, hi, hz, h1, h2, hby, h3⟩ := tyOf_zero (G := G) hc1 hc2
          obtain ⟨i1, hi1, hu1⟩ := tyOf_slice hte
          have hx : (⟨tmps, ds⟩ : Act).eval n = .int k n0 := RD.int (F.rel.opndF ds hf)
          have hrow : RVl G.rd z0 z.cells.toList := by
            refine RDs.toVs (G := G) (h := w.heap) (loc := Loc.hand 0) (RdLe.refl _) 0 (tyOf P e).zero z.cells.toList z0 (fun i d _ _ b f hb => ?_) (h3 w.heap (Loc.hand 0) 0).1 hz0
            rw [F.clean] at hb; cases hb
          have hzl := RVl.length _ _ hrow
          have hrun := run_make (P := P) w t e i z hu1 hi hz k k n0 n0 hc3 (Int.le_refl _) (by rw [hby, Int.mul_comm]; omega) (by omega)
          have hzs : z.cells.size = (tyOf P e).size := h1
          refine Does.newOwn (w1 := w.alloc (.cells (madeCells z.cells (n0.toNat * i.size)) e)) (c := madeCells z.cells (n0.toNat * i.size)) (e := e) (fr := (0, 0)) (σ1 := σ) (len := n0.toNat) (cap := n0.toNat) hdst (hsz u hdst) ?_ (.inl rfl) F.rel F.clean rfl F.low (Same.refl _ _) ?_ (by simp) hc2 (Nat.le_refl _) ?_ ?_
          · unfold execOp
            simp only [ho, hx, hnm, Sem.run_bind, hrun, Result.andThen_ok]; rfl
          · intro i hi; omega
          · rw [size_madeCells, h2]; exact Nat.le_refl _
          · refine RVr.of_get _ _ _ 0 (fun q r hr => ?_)
            rw [List.getElem?_replicate] at hr
            split at hr
            · rename_i hq
              cases hr
              have hl0 : z0.length = (tyOf P e).size := by rw [← hzl, Array.length_toList, h1]
              refine ⟨hl0, ?_⟩
              rw [Nat.zero_add]
              refine RVc.ofRVl z0 _ _ _ hrow (fun p v hv => ?_)
              have hp : p < z.cells.size := by
                have := (List.getElem?_eq_some_iff.1 hv).1
                simpa using this
              rw [← hzs, madeCells_get z.cells _ q p (by omega) ?_ hp]
              · simpa using hv
              · rw [h2, ← hzs]
                calc q * z.cells.size + p < q * z.cells.size + z.cells.size := by omega
                  _ = (q + 1) * z.cells.size := by rw [Nat.succ_mul]
                  _ ≤ n0.toNat * z.cells.size := Nat.mul_le_mul_right _ hq
            · cases hr
        · cases hd
    · cases hd
  · cases hd
end
end Go.Mx
