/- Structs and rows built. -/
import Derived.Test.YtiicnbdolakdgaaMxO
set_option linter.unusedVariables false
set_option linter.unusedSimpArgs false
set_option linter.constructorNameAsVariable false
set_option linter.unnecessarySimpa false
namespace Go.Mx
open Go

section
variable {P : Program} {w : World} {h : Array Obj} {G : Gh} {tmps : Array Value} {σ σ' : St} {ds : List Deferred} {C : Oracle} {ro mv gv : Nat → Bool} {o : Oper}

/-- Hands alone change. -/
theorem Rel.hands (R : Rel h G tmps σ) {ow : Loc → Option (Nat × Nat)} (hp : ∀ l, l.place = true → ow l = G.ow l) (hs : ∀ l p, ow l = some p → ∃ l0, G.ow l0 = some p)
    (hi : ∀ l l' b f f', ow l = some (b, f) → ow l' = some (b, f') → l = l') : Rel h { G with ow := ow } tmps σ := by
  have F : Fr (fun _ => False) h G h { G with ow := ow } := ⟨RdLe.refl _, fun _ _ h => h, fun l p hpl _ hl => by
    show ow l = some p
    rw [hp l hpl]; exact hl, fun _ _ _ _ _ _ => rfl⟩
  refine ⟨R.inv.sub hs hi, fun t => RD.fr F _ (fun _ => rfl) _ _ (free.none _ _) (R.env t), ?_, R.obc, R.obn, ?_⟩
  · intro q cs hcs
    obtain ⟨b, c, e, fr, h1, h2, h3, h4⟩ := R.obj q cs hcs
    exact ⟨b, c, e, fr, h1, h2, h3, RDs.fr F _ (fun _ => rfl) _ _ _ (frees.none _ _ _) h4⟩
  · intro l p hh hl
    have hl' : ow l = some p := hl
    rw [hp l (by cases l <;> first | rfl | exact absurd rfl (hh _ _))] at hl'
    exact R.own l p hh hl'

/-- What hand 1 holds becomes a part of what hand 0 holds. -/
theorem Rel.merge (R : Rel h G tmps σ) {cs : List D} {vs : Array Value} (H0 : Held h G 0 (.agg cs) (.agg vs)) {d : D} {v : Value} (H1 : Held h G 1 d v) {off : Nat}
    (hok : (cellsOf d).all cellOk = true) (hcells : RDs h G (Loc.hand 1) 0 (cellsOf d) v.cells.toList) (hoff : off + (cellsOf d).length ≤ cs.length) :
    ∃ G', Rel h G' tmps σ ∧ Held h G' 0 (.agg (setCells cs off (cellsOf d))) (.agg (wr vs off v.cells.toList)) ∧ Same h G G' ∧ (∀ j, G'.ow (.hand 1 j) = none) ∧ (∀ q j, q ≠ 0 → q ≠ 1 → G'.ow (.hand q j) = G.ow (.hand q j)) := by
  let n := (cellsOf d).length
  have hn : (cellsOf d).length = n := rfl
  let ow : Loc → Option (Nat × Nat) := fun l => match l with
    | .hand q j => if q = 1 then none else if q = 0 ∧ off ≤ j ∧ j < off + n then G.ow (.hand 1 (j - off)) else G.ow (.hand q j)
    | l => G.ow l
  have o1 : ∀ j, ow (.hand 1 j) = none := fun j => by simp [ow]
  have o2 : ∀ j, off ≤ j → j < off + n → ow (.hand 0 j) = G.ow (.hand 1 (j - off)) := fun j h1 h2 => by simp [ow, h1, h2]
  have o3 : ∀ j, ¬ (off ≤ j ∧ j < off + n) → ow (.hand 0 j) = G.ow (.hand 0 j) := fun j hj => by simp only [ow]; rw [if_neg (by decide), if_neg (fun hx => hj hx.2)]
  have o4 : ∀ q j, q ≠ 0 → q ≠ 1 → ow (.hand q j) = G.ow (.hand q j) := fun q j h0 h1 => by simp [ow, h0, h1]
  let r : Loc → Loc := fun l => match l with
    | .hand q j => if q = 0 ∧ off ≤ j ∧ j < off + n then .hand 1 (j - off) else .hand q j
    | l => l
  have hr : ∀ l p, ow l = some p → G.ow (r l) = some p ∧ ∀ j, l ≠ .hand 1 j := by
    intro l p hl
    refine ⟨?_, by rintro j rfl; rw [o1] at hl; cases hl⟩
    cases l with
    | hand q j =>
      by_cases hq : q = 1
      · subst hq; rw [o1] at hl; cases hl
      · by_cases h0 : q = 0
        · subst h0
          by_cases hj : off ≤ j ∧ j < off + n
          · rw [o2 j hj.1 hj.2] at hl; simpa [r, hj.1, hj.2] using hl
          · rw [o3 j hj] at hl; simp only [r]; rw [if_neg (fun hx => hj hx.2)]; exact hl
        · rw [o4 q j h0 hq] at hl; simp only [r]; rw [if_neg (fun hx => h0 hx.1)]; exact hl
    | _ => exact hl
  have hinj : ∀ l l' b f f', ow l = some (b, f) → ow l' = some (b, f') → l = l' := by
    intro l l' b f f' h1 h2
    have e := R.inv.ow_inj _ _ b f f' (hr _ _ h1).1 (hr _ _ h2).1
    have g1 := (hr _ _ h1).2
    have g2 := (hr _ _ h2).2
    cases l with
    | hand q j =>
      cases l' with
      | hand q' j' =>
        simp only [r] at e
        split at e <;> split at e
        · rename_i a1 a2
          injection e with e1 e2
          rw [a1.1, a2.1, show j = j' by omega]
        · injection e with e1 e2; subst e1; exact absurd rfl (g2 _)
        · injection e with e1 e2; subst e1; exact absurd rfl (g1 _)
        · exact e
      | _ => simp only [r] at e; split at e <;> cases e
    | _ =>
      cases l' with
      | hand q' j' => simp only [r] at e; split at e <;> cases e
      | _ => exact e
  refine ⟨{ G with ow := ow }, R.hands (fun l hl => by cases l <;> first | rfl | cases hl) (fun l p hl => ⟨_, (hr l p hl).1⟩) hinj, ⟨?_, ?_, ?_⟩, ⟨RdLe.refl _, rfl, fun l b f hl => ⟨_, f, (hr l _ hl).1⟩, fun b hb => .inl hb⟩, o1, o4⟩
  · have hr0 := H0.rd
    simp only [RD] at hr0 ⊢
    obtain ⟨vs', e1, h4⟩ := hr0
    cases e1
    refine ⟨_, rfl, RDs.of_get _ _ _ _ ?_ ?_⟩
    · rw [Array.length_toList, wr_size, setCells_length, ← RDs.length _ _ _ _ h4, Array.length_toList]
    · have hvl := RDs.length _ _ _ _ hcells
      have hlen := RDs.length _ _ _ _ h4
      intro i d' hd'
      rw [Nat.zero_add]
      have hok0 : cs.all cellOk = true := by simpa [valOk] using H0.ok
      by_cases hin : off ≤ i ∧ i < off + n
      · have hi' : i = off + (i - off) := by omega
        rw [hi', setCells_in _ _ _ _ hoff (by omega)] at hd'
        obtain ⟨v', hv1, hv2⟩ := RDs.get _ _ _ _ _ _ hcells hd'
        refine ⟨v', ?_, ?_⟩
        · rw [Array.getElem?_toList, hi', wr_in _ _ _ _ (by rw [hvl, ← Array.length_toList, hlen]; exact hoff) (by rw [hvl]; omega)]; exact hv1
        · rw [Nat.zero_add] at hv2
          have hck : cellOk d' = true := List.all_eq_true.1 hok d' (List.mem_of_getElem? hd')
          refine RD.cellMove (G := G) (G' := { G with ow := ow }) (h := h) (l := .hand 1 (i - off)) ⟨RdLe.refl _, fun _ _ h => h⟩ hck (fun _ b f hb => ⟨?_, rfl⟩) hv2
          show ow (.hand 0 i) = some (b, f)
          rw [o2 i hin.1 hin.2]; exact hb
      · rw [setCells_out _ _ _ _ (by omega)] at hd'
        obtain ⟨v', hv1, hv2⟩ := RDs.get _ _ _ _ _ _ h4 hd'
        refine ⟨v', ?_, ?_⟩
        · rw [Array.getElem?_toList] at *
          rw [wr_out _ _ _ _ (by rw [hvl]; omega)]; exact hv1
        · rw [Nat.zero_add] at hv2
          have hck : cellOk d' = true := List.all_eq_true.1 hok0 d' (List.mem_of_getElem? hd')
          refine RD.cellMove (G := G) (G' := { G with ow := ow }) (h := h) (l := .hand 0 i) ⟨RdLe.refl _, fun _ _ h => h⟩ hck (fun _ b f hb => ⟨?_, rfl⟩) hv2
          show ow (.hand 0 i) = some (b, f)
          rw [o3 i hin]; exact hb
  · intro j p hp
    have hp' : ow (.hand 0 j) = some p := hp
    simp only [dOwns]
    by_cases hin : off ≤ j ∧ j < off + n
    · rw [o2 j hin.1 hin.2] at hp'
      obtain ⟨d', h1, h2⟩ := dOwns_cells (H1.own _ p hp')
      have hj : (setCells cs off (cellsOf d))[j]? = some d' := by
        rw [show j = off + (j - off) by omega, setCells_in _ _ _ _ hoff (by omega)]; exact h1
      rw [hj]; exact h2
    · rw [o3 j hin] at hp'
      have := H0.own _ p hp'
      simp only [dOwns] at this
      rw [setCells_out _ _ _ _ (by omega)]; exact this
  · have hok0 : cs.all cellOk = true := by simpa [valOk] using H0.ok
    simp only [valOk]
    rw [List.all_eq_true]
    intro d' hd'
    obtain ⟨i, hi⟩ := List.mem_iff_getElem?.1 hd'
    by_cases hin : off ≤ i ∧ i < off + n
    · rw [show i = off + (i - off) by omega, setCells_in _ _ _ _ hoff (by omega)] at hi
      exact List.all_eq_true.1 hok d' (List.mem_of_getElem? hi)
    · rw [setCells_out _ _ _ _ (by omega)] at hi
      exact List.all_eq_true.1 hok0 d' (List.mem_of_getElem? hi)

theorem foldl_wr : ∀ (vs : List Value) (c : Array Value) (off k : Nat), (vs.zipIdx k).foldl (fun cs (x : Value × Nat) => cs.setIfInBounds (off + x.2) x.1) c = wr c (off + k) vs
  | [], _, _, _ => rfl
  | v :: r, c, off, k => by
    simp only [List.zipIdx_cons, List.foldl_cons]
    rw [foldl_wr r, wr, Nat.add_assoc]
theorem fill_step {place : Nat → Option (Nat × Nat)} {cells : Array Value} {i off n : Nat} {v : Value} {rest : List (Nat × Value)} (hp : place i = some (off, n)) (hv : v.cells.size = n) (hc : off + n ≤ cells.size) :
    Instr.fill place cells ((i, v) :: rest) = Instr.fill place (wr cells off v.cells.toList) rest := by
  simp only [Instr.fill, hp]
  have hno : (decide (v.cells.size ≠ n) || decide (off + v.cells.size > cells.size)) = false := by simp [hv]; omega
  rw [if_neg (by rw [hno]; decide)]
  congr 1
  rw [← Array.foldl_toList, Array.toList_zipIdx, foldl_wr, Nat.add_zero]

theorem known_cells {loc : Nat → Loc} {d : D} {v : Value} (hk : known d = true) (hv : valOk d = true) (hr : RD h G loc d v) : RDs h G loc 0 (cellsOf d) v.cells.toList ∧ (cellsOf d).all cellOk = true := by
  refine ⟨?_, ?_⟩
  · rcases RD.cells hv hr (fun _ _ => trivial) with rfl | rfl | hc
    · simp [known] at hk
    · simp [known] at hk
    · exact hc
  · cases d with
    | agg cs => simpa [valOk, cellsOf] using hv
    | _ => simpa [valOk, cellsOf] using hv

theorem Took.others {k : Nat} {G' : Gh} (T : Took k h G G') {q : Nat} (hc : ∀ q j, q ≠ 0 → G.ow (.hand q j) = none) : ∀ q j, q ≠ 0 → q ≠ k → G'.ow (.hand q j) = none := fun q j h0 hk => by rw [T.hand q j hk]; exact hc q j h0

theorem build_parts {pa pc : Nat → Option (Nat × Nat)} (hpl : ∀ i x, pa i = some x → pc i = some x) : ∀ (parts : List (Nat × Operand)) (env env' : Env) (dsl : List (Nat × D)) (cs cs' : List D) (vs : Array Value) (G : Gh),
    Rel h G tmps { σ with env := env } → Held h G 0 (.agg cs) (.agg vs) → (∀ q j, q ≠ 0 → G.ow (.hand q j) = none) → takeParts env parts = some (dsl, env') → fill pa cs dsl = some cs' →
    ∃ G' vs', Instr.fill pc vs (parts.map fun p => (p.1, (⟨tmps, ds⟩ : Act).eval p.2)) = some vs' ∧ Rel h G' tmps { σ with env := env' } ∧ Held h G' 0 (.agg cs') (.agg vs') ∧ Same h G G' ∧ (∀ q j, q ≠ 0 → G'.ow (.hand q j) = none)
  | [], env, env', dsl, cs, cs', vs, G, R, H0, hc, ht, hf => by
    simp only [takeParts] at ht
    cases ht
    simp only [fill] at hf
    cases hf
    exact ⟨G, vs, rfl, R, H0, Same.refl _ _, hc⟩
  | (i, x) :: rest, env, env', dsl, cs, cs', vs, G, R, H0, hc, ht, hf => by
    simp only [takeParts] at ht
    cases hfo : force true (Mx.opnd env x) with
    | none => simp [hfo] at ht
    | some d =>
      simp only [hfo] at ht
      cases hv : valOk d with
      | false => simp [hv] at ht
      | true =>
        simp only [hv, cond_true] at ht
        cases htr : takeParts (spend env x) rest with
        | none => simp [htr] at ht
        | some p =>
          obtain ⟨s, env1⟩ := p
          simp only [htr] at ht
          cases ht
          simp only [fill] at hf
          cases hpa : pa i with
          | none => simp [hpa] at hf
          | some q =>
            obtain ⟨off, n⟩ := q
            simp only [hpa] at hf
            cases hcnd : ((cellsOf d).length == n && decide (off + n ≤ cs.length)) with
            | false => simp [hcnd] at hf
            | true =>
              simp only [hcnd, cond_true] at hf
              simp at hcnd
              obtain ⟨G1, R1, T, H1⟩ := R.take (σ := { σ with env := env }) (ds := ds) 1 (fun j => hc 1 j (by decide)) (x := x) hfo hv
              obtain ⟨hcells, hok⟩ := known_cells (force_known hfo) hv H1.rd
              have H0' := T.held (q := 0) (by decide) H0
              obtain ⟨G2, R2, H2, S2, c1, c2⟩ := R1.merge H0' H1 (off := off) hok hcells (by omega)
              have hvl := RDs.length _ _ _ _ hcells
              obtain ⟨G3, vs', f3, R3, H3, S3, c3⟩ := build_parts hpl rest (spend env x) env' s _ cs' _ G2 R2 H2 (fun q j h0 => by
                by_cases hq : q = 1
                · subst hq; exact c1 j
                · rw [c2 q j h0 hq, T.hand q j hq]; exact hc q j h0) htr hf
              refine ⟨G3, vs', ?_, R3, H3, (T.same.trans S2).trans S3, c3⟩
              simp only [List.map_cons]
              have hvs : vs.size = cs.length := by
                have := H0.rd
                simp only [RD] at this
                obtain ⟨vs0, e0, h4⟩ := this
                cases e0
                have := RDs.length _ _ _ _ h4
                simpa using this
              rw [fill_step (hpl i _ hpa) (by rw [← Array.length_toList, hvl]; exact hcnd.1) (by omega)]
              exact f3

theorem does_build {t : Nat} {parts : Array (Nat × Operand)} (F : Fine w.heap G tmps σ) (ho : o.op = .build t parts) (hsz : ∀ t, o.dst = some t → t < tmps.size) (hd : workOp (tyOf P) C ro mv gv σ o.dst o.type o.op = some σ') : Does P w G ⟨tmps, ds⟩ σ o σ' := by
  rw [ho] at hd
  simp only [workOp] at hd
  split at hd
  · rename_i dsl env' u htp hdst
    split at hd
    · rename_i fs htk
      cases hc : ((tyOf P t).zero.length == (tyOf P t).size && (tyOf P t).size != 0 && fs.all (fun f => !(tyOf P f.2).flat.isEmpty)) with
      | false => rw [hc] at hd; cases hd
      | true =>
        rw [hc, cond_true] at hd
        split at hd
        · rename_i cs hfill
          split at hd
          · rename_i cs' hfit
            cases hd
            simp only [Bool.and_eq_true, beq_iff_eq, bne_iff_ne] at hc
            obtain ⟨⟨hc1, hc2⟩, hc3⟩ := hc
            obtain ⟨i, z, hi, hz, h1, h2, hby, h3⟩ := tyOf_zero (G := G) hc1 hc2
            obtain ⟨i1, fs0, hi1, hu1, hfs, hagg⟩ := tyOf_struct htk
            have hplaces : fs0.toList.mapM (fun f => (P.info? f.type).map fun i => (f.offset, i.size)) = some (fs.map fun f => (f.1, (tyOf P f.2).size)) := by
              rw [hfs] at hc3 ⊢
              generalize fs0.toList = l at hc3
              induction l with
              | nil => rfl
              | cons f r ih =>
                simp only [List.map_cons, List.all_cons, Bool.and_eq_true] at hc3
                obtain ⟨i2, e1, e2, _⟩ := tyOf_info (P := P) (t := f.type) (by intro hx; rw [hx] at hc3; simp at hc3)
                simp only [List.mapM_cons, e1, Option.map_some, List.map_cons, e2]
                rw [ih hc3.2]; rfl
            have Hz : Held w.heap G 0 (.agg (tyOf P t).zero) (.agg z.cells) := Held.free F.clean (fun loc => by simp only [RD]; exact ⟨_, rfl, (h3 w.heap loc 0).1⟩) (by simpa [valOk] using (h3 w.heap (Loc.hand 0) 0).2)
            obtain ⟨G1, vs', f1, R1, H1, S1, c1⟩ := build_parts (ds := ds) (σ := σ) (pa := fun i => (fs[i]?).map fun f => (f.1, (tyOf P f.2).size)) (pc := ((fs.map fun f => (f.1, (tyOf P f.2).size)).toArray[·]?)) (fun i x hx => by simpa using hx)
              parts.toList σ.env env' dsl _ cs _ G F.rel Hz (fun q j _ => F.clean q j) htp hfill
            have hb : P.built t (parts.map fun p => (p.1, (⟨tmps, ds⟩ : Act).eval p.2)).toList = some vs' := by
              unfold Program.built
              simp only [hi, hu1, hz, hplaces]
              simpa using f1
            have H2 : Held w.heap G1 0 (.agg cs') (.agg vs') := by
              have hft : Mx.fit (tyOf P t) (.agg cs) = some (.agg cs') := by simp [Mx.fit, hagg, hfit]
              exact (H1.fit hft).1
            refine Does.give (σ1 := { σ with env := env' }) hdst (hsz u hdst) ?_ R1 H2 c1 F.low (S1.goes rfl)
            unfold execOp
            simp only [ho, Sem.run_bind, run_build w t _ vs' hb, Result.andThen_ok]; rfl
          · cases hd
        · cases hd
    · cases hd
  · cases hd

theorem slice_parts {sz : Nat} : ∀ (parts : List (Nat × Operand)) (m : Nat) (env env' : Env) (dsl : List (Nat × D)) (rows : List (List V)) (vs : Array Value) (G : Gh),
    Rel h G tmps { σ with env := env } → Clean G → takeParts env parts = some (dsl, env') → rowsOf sz dsl = some rows → inOrder m dsl = true → (m + dsl.length) * sz ≤ vs.size →
    ∃ G' vs', Instr.fill (fun i => some (i * sz, sz)) vs (parts.map fun p => (p.1, (⟨tmps, ds⟩ : Act).eval p.2)) = some vs' ∧ vs'.size = vs.size ∧ (∀ i, i < m * sz → vs'[i]? = vs[i]?) ∧ RVr G'.rd sz rows vs' (m * sz) ∧ rows.length = dsl.length ∧
      Rel h G' tmps { σ with env := env' } ∧ Same h G G' ∧ Clean G'
  | [], m, env, env', dsl, rows, vs, G, R, cl, ht, hr, hi, hsz => by
    simp only [takeParts] at ht
    cases ht
    simp only [rowsOf] at hr
    cases hr
    exact ⟨G, vs, rfl, rfl, fun _ _ => rfl, by simp only [RVr], rfl, R, Same.refl _ _, cl⟩
  | (i, x) :: rest, m, env, env', dsl, rows, vs, G, R, cl, ht, hr, hi, hsz => by
    simp only [takeParts] at ht
    cases hfo : force true (Mx.opnd env x) with
    | none => simp [hfo] at ht
    | some d =>
      simp only [hfo] at ht
      cases hv : valOk d with
      | false => simp [hv] at ht
      | true =>
        simp only [hv, cond_true] at ht
        cases htr : takeParts (spend env x) rest with
        | none => simp [htr] at ht
        | some p =>
          obtain ⟨s, env1⟩ := p
          simp only [htr] at ht
          cases ht
          simp only [rowsOf] at hr
          cases hx : toVs (cellsOf d) with
          | none => simp [hx] at hr
          | some row =>
            simp only [hx] at hr
            cases hl : (row.length == sz) with
            | false => simp [hl] at hr
            | true =>
              simp only [hl, cond_true] at hr
              cases hrr : rowsOf sz s with
              | none => simp [hrr] at hr
              | some rows1 =>
                simp only [hrr] at hr
                cases hr
                simp only [inOrder, Bool.and_eq_true, beq_iff_eq] at hi
                obtain ⟨rfl, hi2⟩ := hi
                have hl' : row.length = sz := by simpa using hl
                obtain ⟨G1, R1, T, H1⟩ := R.take (σ := { σ with env := env }) (ds := ds) 1 (fun j => cl 1 j) (x := x) hfo hv
                obtain ⟨G2, R2, S2, l2, c1, c2⟩ := R1.freeze H1 hx
                have cl2 : Clean G2 := fun q j => by
                  by_cases hq : q = 1
                  · subst hq; exact c1 j
                  · rw [c2 _ (by rintro j' hj; cases hj; exact hq rfl), T.hand q j hq]; exact cl q j
                have hvl := RVl.length _ _ l2
                have hvs : ((⟨tmps, ds⟩ : Act).eval x).cells.size = sz := by rw [← Array.length_toList, hvl, hl']
                have hroom : i * sz + sz ≤ vs.size := by
                  refine Nat.le_trans ?_ hsz
                  simp only [List.length_cons]
                  rw [← Nat.succ_mul]
                  exact Nat.mul_le_mul_right _ (by omega)
                obtain ⟨G3, vs', f3, hs3, hk3, r3, len3, R3, S3, c3⟩ := slice_parts rest (i + 1) (spend env x) env' s rows1 (wr vs (i * sz) ((⟨tmps, ds⟩ : Act).eval x).cells.toList) G2 R2 cl2 htr hrr hi2 (by
                  rw [wr_size]; simp only [List.length_cons] at hsz; rw [show i + 1 + s.length = i + (s.length + 1) by omega]; exact hsz)
                refine ⟨G3, vs', ?_, by rw [hs3, wr_size], ?_, ?_, by simp [len3], R3, (T.same.trans S2).trans S3, c3⟩
                · simp only [List.map_cons]
                  rw [fill_step rfl hvs hroom]; exact f3
                · intro q hq
                  rw [hk3 q (by rw [Nat.succ_mul]; omega), wr_out _ _ _ _ (.inl hq)]
                · simp only [RVr]
                  refine ⟨hl', ?_, by rw [← Nat.succ_mul]; exact r3⟩
                  refine RVc.ofRVl row _ _ _ (RVl.mono S3.rd _ _ l2) (fun q v hv' => ?_)
                  have hq : q < sz := by
                    have := (List.getElem?_eq_some_iff.1 hv').1
                    rw [hvl] at this; omega
                  rw [hk3 _ (by rw [Nat.succ_mul]; omega), wr_in _ _ _ _ (by rw [Array.length_toList, hvs]; exact hroom) (by rw [Array.length_toList, hvs]; exact hq)]
                  exact hv'

theorem does_buildSlice {t n : Nat} {parts : Array (Nat × Operand)} (F : Fine w.heap G tmps σ) (ho : o.op = .buildSlice t n parts) (hsz : ∀ t, o.dst = some t → t < tmps.size) (hd : workOp (tyOf P) C ro mv gv σ o.dst o.type o.op = some σ') : Does P w G ⟨tmps, ds⟩ σ o σ' := by
  rw [ho] at hd
  simp only [workOp] at hd
  split at hd
  · rename_i dsl env' u htp hdst
    split at hd
    · rename_i e htk
      cases hc : ((tyOf P e).zero.length == (tyOf P e).size && (tyOf P e).size != 0 && decide (n * (tyOf P e).size ≤ 16777216) && inOrder 0 dsl && dsl.length == n) with
      | false => rw [hc] at hd; cases hd
      | true =>
        rw [hc, cond_true] at hd
        split at hd
        · rename_i rows hrows
          cases hd
          simp only [Bool.and_eq_true, beq_iff_eq, bne_iff_ne, decide_eq_true_eq] at hc
          obtain ⟨⟨⟨⟨hc1, hc2⟩, hc3⟩, hc4⟩, hc5⟩ := hc
          obtain ⟨i, z, hi, hz, h1, h2, hby, h3⟩ := tyOf_zero (G := G) hc1 hc2
          obtain ⟨i1, hi1, hu1⟩ := tyOf_slice htk
          obtain ⟨G1, vs', f1, hs1, _, r1, len1, R1, S1, c1⟩ := slice_parts (ds := ds) (σ := σ) (sz := (tyOf P e).size) parts.toList 0 σ.env env' dsl rows (if n * (tyOf P e).size = 0 then #[] else (Array.range (n * i.size)).map (z.cells[· % z.cells.size]!)) G F.rel F.clean htp hrows hc4 (by
            rw [Nat.zero_add, hc5]
            split
            · rename_i hz0; rw [hz0]; exact Nat.zero_le _
            · simp [h2])
          have hrun : (Instr.buildSlice t n (parts.map fun p => (p.1, (⟨tmps, ds⟩ : Act).eval p.2))).run P w = .ok (.slice (some ⟨w.heap.size, 0, none⟩) n n) (w.alloc (.cells vs' e)) := by
            by_cases hn0 : n * (tyOf P e).size = 0
            · have hn : n = 0 := by
                rcases Nat.mul_eq_zero.1 hn0 with h | h
                · exact h
                · exact absurd h hc2
              subst hn
              have hdl : dsl = [] := List.length_eq_zero_iff.1 hc5
              have hpl : parts.toList = [] := by
                cases hpp : parts.toList with
                | nil => rfl
                | cons p r =>
                  rw [hpp] at htp
                  obtain ⟨a, b⟩ := p
                  simp only [takeParts] at htp
                  split at htp
                  · cases hv : valOk _ <;> rw [hv] at htp
                    · cases htp
                    · simp only [cond_true] at htp
                      split at htp
                      · cases htp; cases hdl
                      · cases htp
                  · cases htp
              have hpa : parts = #[] := by apply Array.ext'; simpa using hpl
              subst hpa
              rw [if_pos hn0] at f1
              simp [Instr.fill] at f1
              subst f1
              simp [Instr.buildSlice, run_underlying hu1, sizeOf, typeInfo, hi, newRow, Instr.fill]
              congr 2
              apply Array.ext'
              simp [Array.range]
            · refine run_buildSlice w t e n _ vs' i z hu1 hi hz (by rw [h2]; omega) (by rw [h2]; exact hn0) ?_
              rw [if_neg hn0] at f1
              rw [h2] at f1 ⊢
              simpa using f1
          refine Does.newOwn (w1 := w.alloc (.cells vs' e)) (c := vs') (e := e) (fr := (0, 0)) (σ1 := { σ with env := env' }) (len := n) (cap := n) hdst (hsz u hdst) ?_ (.inl rfl) R1 c1 rfl F.low S1 ?_ (by rw [len1, hc5]) hc2 (Nat.le_refl _) ?_ (by simpa using r1)
          · unfold execOp
            simp only [ho, Sem.run_bind]
            rw [hrun]; rfl
          · intro i hi; omega
          · rw [hs1]
            split
            · rename_i hz0; rw [hz0]; exact Nat.zero_le _
            · simp [h2]
        · cases hd
    · cases hd
  · cases hd
end
end Go.Mx
