/- Loads that take along; append. -/
import Derived.Test.YtiicnbdolakdgaaMxQ
import Derived.Room.Entries
set_option linter.unusedVariables false
set_option linter.unusedSimpArgs false
set_option linter.constructorNameAsVariable false
set_option linter.unnecessarySimpa false
namespace Go.Mx
open Go

section
variable {P : Program} {w : World} {h : Array Obj} {G : Gh} {tmps : Array Value} {σ σ' : St} {ds : List Deferred} {C : Oracle} {ro mv gv : Nat → Bool} {o : Oper}

theorem Took'.goes {k : Nat} {G' : Gh} (T : Took' k w.heap G G') {σ' : St} (h : σ'.S.length = σ.S.length) : Goes w G σ w G' σ' := T.same.goes h

theorem does_loadMv {t : Nat} {a : Operand} (F : Fine w.heap G tmps σ) (ho : o.op = .load t a) (hsz : ∀ t, o.dst = some t → t < tmps.size) (hd : workOp (tyOf P) C ro mv gv σ o.dst o.type o.op = some σ') : Does P w G ⟨tmps, ds⟩ σ o σ' := by
  rw [ho] at hd
  simp only [workOp] at hd
  cases hdst : o.dst with
  | none => simp [hdst] at hd
  | some u =>
    simp only [hdst] at hd
    cases hc : (mv u && (tyOf P t).agg) with
    | false => rw [hc] at hd; cases hd
    | true =>
      rw [hc, cond_true] at hd
      simp only [Bool.and_eq_true] at hc
      split at hd
      · rename_i q off hfa
        cases hcs : σ.S[q]? with
        | none => simp [hcs] at hd
        | some cs =>
          simp only [hcs] at hd
          cases hl : (((cs.drop off).take (tyOf P t).size).length == (tyOf P t).size) with
          | false => rw [hl] at hd; cases hd
          | true =>
            rw [hl, cond_true] at hd
            cases hd
            simp only [beq_iff_eq] at hl
            obtain ⟨i, dd, hi, hu, hrow, hisz, _⟩ := tyOf_agg hc.2
            have hra := F.rel.opndF ds hfa
            simp only [RD] at hra
            obtain ⟨b, hb, hva⟩ := hra
            obtain ⟨b0, c, e, fr, g1, g2, g3, g4⟩ := F.rel.obj q cs hcs
            have hbb : b0 = b := by rw [hb] at g1; cases g1; rfl
            subst hbb
            have hlen := RDs.length _ _ _ _ g4
            have hoff : off + (tyOf P t).size ≤ cs.length ∨ (tyOf P t).size = 0 := by
              rw [List.length_take, List.length_drop] at hl
              omega
            -- the value
            let vs : List Value := (c.toList.drop off).take (tyOf P t).size
            have hvsl : vs.length = (tyOf P t).size := by
              have := hl
              rw [List.length_take, List.length_drop] at this ⊢
              rw [hlen]; exact this
            have hrun := run_loadAt_mid (P := P) w b0 off t vs dd (fun j v hv => by
              rw [cell_of rfl g2]
              simp only [vs] at hv
              rw [List.getElem?_take] at hv
              split at hv
              · rw [List.getElem?_drop] at hv; simpa using hv
              · cases hv) hu hrow (by rw [hi]; simp [hisz, hvsl])
            obtain ⟨G1, R1, T, k1, k2, k3⟩ := F.rel.takeCells 0 (F.clean 0) (off := off) (n := (tyOf P t).size) (cs' := setCells cs off (((cs.drop off).take (tyOf P t).size).map noOwn)) hcs (inObj q) (fun j _ _ => by simp [inObj]) (setCells_length _ _ _) (by
                intro j hj
                refine setCells_out _ _ _ _ ?_
                rw [List.length_map, hl]; omega) (by
                intro j d h1 h2 hd
                have hjl : j < cs.length := (List.getElem?_eq_some_iff.1 hd).1
                have hin := setCells_in (((cs.drop off).take (tyOf P t).size).map noOwn) cs off (j - off) (by rw [List.length_map, hl]; omega) (by rw [List.length_map, hl]; omega)
                rw [show off + (j - off) = j by omega] at hin
                rw [hin, List.getElem?_map, List.getElem?_take, if_pos (by omega), List.getElem?_drop, show off + (j - off) = j by omega, hd]
                simp only [Option.map_some, noOwn]
                cases ho : isOwn d with
                | true => left; rfl
                | false => right; exact ⟨rfl, rfl⟩)
            have H1 : Held w.heap G1 0 (.agg ((cs.drop off).take (tyOf P t).size)) (.agg vs.toArray) := by
              refine ⟨?_, ?_, ?_⟩
              · simp only [RD]
                refine ⟨_, rfl, RDs.of_get _ _ _ _ (by rw [hl]; simpa using hvsl) ?_⟩
                intro i d hd
                rw [List.getElem?_take] at hd
                split at hd
                · rename_i hin
                  rw [List.getElem?_drop] at hd
                  obtain ⟨v', hv1, hv2⟩ := RDs.get _ _ _ _ _ _ g4 hd
                  refine ⟨v', ?_, ?_⟩
                  · simp only [vs]
                    rw [List.getElem?_take, if_pos hin, List.getElem?_drop]; exact hv1
                  · rw [Nat.zero_add] at *
                    have hck : cellOk d = true := List.all_eq_true.1 (F.rel.obc q cs hcs) d (List.mem_of_getElem? hd)
                    exact RD.cellMove (G := G) (G' := G1) (h := w.heap) (l := .cell q (off + i)) T.same.more hck (fun _ b f hb => ⟨by rw [k1 i hin]; exact hb, rfl⟩) hv2
                · cases hd
              · intro j p hp
                rcases Nat.lt_or_ge j (tyOf P t).size with hj | hj
                · rw [k1 j hj] at hp
                  have := F.rel.own _ p (fun _ _ h => by cases h) hp
                  simp only [ownsAt, hcs] at this
                  simp only [dOwns]
                  rw [List.getElem?_take, if_pos hj, List.getElem?_drop]; exact this
                · rw [k2 j hj] at hp; cases hp
              · simp only [valOk]
                rw [List.all_eq_true]
                intro d hd
                exact List.all_eq_true.1 (F.rel.obc q cs hcs) d (List.mem_of_mem_drop (List.mem_of_mem_take hd))
            refine Does.give (σ1 := { env := kill (inObj q) σ.env, S := σ.S.set q (setCells cs off (((cs.drop off).take (tyOf P t).size).map noOwn)) }) hdst (hsz u hdst) ?_ R1 H1 (fun q' j hq => by rw [T.hand q' j hq]; exact F.clean q' j) ?_ (T.goes (by simp))
            · unfold execOp
              simp only [ho, hva, Sem.run_bind, hrun, Result.andThen_ok]; rfl
            · refine F.low.set ?_
              rcases hoff with hoff | h0
              · refine all_setCells (F.low q cs hcs) ?_ (by rw [List.length_map, hl]; exact hoff)
                rw [List.all_eq_true]
                intro d hd
                obtain ⟨d0, hd0, rfl⟩ := List.mem_map.1 hd
                have := List.all_eq_true.1 (F.low q cs hcs) d0 (List.mem_of_mem_drop (List.mem_of_mem_take hd0))
                unfold noOwn
                cases isOwn d0 with
                | true => rfl
                | false => exact this
              · rw [h0]; simpa [setCells] using F.low q cs hcs
      · cases hd

/-- What an alias to a variable's cell stands for, taken. -/
theorem Rel.spendCell (R : Rel h G tmps σ) (k : Nat) (hk : ∀ j, G.ow (.hand k j) = none) {so sf sz : Nat} {l : List (List V)} {v : Value} (hr : ROwn h G.rd (G.ow (.cell so sf)) sz l v) :
    ∃ G', Rel h G' tmps (Mx.spendLoc σ (.cell so sf)) ∧ Same h G G' ∧ Held h G' k (.own sz l) v ∧ (∀ q j, q ≠ k → G'.ow (.hand q j) = G.ow (.hand q j)) := by
  cases hcs : σ.S[so]? with
  | none =>
    refine ⟨G, by simpa [Mx.spendLoc, hcs] using R, Same.refl _ _, ⟨?_, fun j p hp => (by rw [hk] at hp; cases hp), rfl⟩, fun _ _ _ => rfl⟩
    rcases hr with hr | ⟨b, off, cap, c, e, fr, h1, h2, _⟩
    · simp only [RD]; exact .inl hr
    · have := R.own _ _ (fun _ _ h => by cases h) h2
      simp [ownsAt, hcs] at this
  | some cs =>
    obtain ⟨G1, R1, T, k1, k2, k3⟩ := R.takeCells k hk (off := sf) (n := 1) (cs' := cs.set sf .bad) hcs (fun l => l == .cell so sf) (fun j h1 h2 => by rw [show j = sf by omega]; simp) (by simp) (fun j hj => by rw [List.getElem?_set, if_neg (by omega)]) (fun j d h1 h2 hd => by
      have : j = sf := by omega
      subst this
      left
      have hjl : j < cs.length := (List.getElem?_eq_some_iff.1 hd).1
      rw [List.getElem?_set, if_pos rfl, if_pos hjl])
    refine ⟨G1, by simpa [Mx.spendLoc, hcs] using R1, T.same, ⟨?_, ?_, rfl⟩, fun q j hq => T.hand q j hq⟩
    · simp only [RD]
      have := k1 0 (by decide)
      rw [Nat.add_zero] at this
      rw [this, T.rd]; exact hr
    · intro j p hp
      rcases Nat.lt_or_ge j 1 with hj | hj
      · have : j = 0 := by omega
        subst this; rfl
      · rw [k2 j hj] at hp; cases hp
theorem Rel.spendLoc (R : Rel h G tmps σ) (k : Nat) (hk : ∀ j, G.ow (.hand k j) = none) {src : Loc} {sz : Nat} {l : List (List V)} {v : Value} (hsp : spendOk σ src = true) (hr : ROwn h G.rd (G.ow src) sz l v) :
    ∃ G', Rel h G' tmps (Mx.spendLoc σ src) ∧ Same h G G' ∧ Held h G' k (.own sz l) v ∧ (∀ q j, q ≠ k → G'.ow (.hand q j) = G.ow (.hand q j)) := by
  cases src with
  | cell so sf => exact R.spendCell k hk hr
  | reg p j =>
    simp only [spendOk, Bool.and_eq_true, beq_iff_eq] at hsp
    obtain ⟨rfl, ho⟩ := hsp
    obtain ⟨G1, R1, T, h1, h2⟩ := R.takeReg k p hk
    refine ⟨G1, R1, T.same, ⟨?_, ?_, rfl⟩, T.hand⟩
    · simp only [RD]
      rw [h1, T.rd]; exact hr
    · intro j p0 hp
      rw [h1] at hp
      have := R.own _ p0 (fun _ _ h => by cases h) hp
      rw [ownsAt_eq] at this
      cases hl : look σ.env p <;> rw [hl] at ho this <;> first | (cases ho; done) | (simpa [dOwns] using this)
  | _ => simp [spendOk] at hsp
theorem spendLoc_len {src : Loc} : (Mx.spendLoc σ src).S.length = σ.S.length := by
  cases src with
  | cell o off => simp only [Mx.spendLoc]; cases hcs : σ.S[o]? <;> simp
  | _ => rfl
theorem Low.spendLoc (L : Low σ.S) {src : Loc} : Low (Mx.spendLoc σ src).S := by
  cases src with
  | cell o off =>
    simp only [Mx.spendLoc]
    cases hcs : σ.S[o]? with
    | none => exact L
    | some cs =>
      refine L.set ?_
      rw [List.all_eq_true]
      intro d hd
      rcases List.mem_or_eq_of_mem_set hd with hd | rfl
      · exact List.all_eq_true.1 (L o cs hcs) d hd
      · rfl
  | _ => exact L

/-! ### append -/
theorem oneCell_RV {rd : Rd} {x : V} {v : Value} (hr : RV rd x v) : v.oneCell' = true := by
  cases x with
  | b x => simp only [RV] at hr; subst hr; rfl
  | i k n => simp only [RV] at hr; subst hr; rfl
  | s x => simp only [RV] at hr; subst hr; rfl
  | sl sz l => simp only [RV] at hr; obtain ⟨_, _, rfl, _⟩ := hr; rfl

/-- The rows of a list, one behind the other. -/
theorem RVr.cells {rd : Rd} {sz : Nat} : ∀ (l : List (List V)) (c : Array Value) (off : Nat), RVr rd sz l c off → ∀ j, j < l.length * sz → ∃ v x, c[off + j]? = some v ∧ RV rd x v
  | [], _, _, _, j, hj => by simp at hj
  | r :: l, c, off, hr, j, hj => by
    simp only [RVr] at hr
    obtain ⟨h1, h2, h3⟩ := hr
    by_cases hjs : j < sz
    · obtain ⟨x, hx⟩ : ∃ x, r[j]? = some x := ⟨_, List.getElem?_eq_getElem (by omega)⟩
      obtain ⟨v, e1, e2⟩ := RVc.get _ _ _ _ _ h2 hx
      exact ⟨v, x, e1, e2⟩
    · simp only [List.length_cons, Nat.succ_mul] at hj
      obtain ⟨v, x, e1, e2⟩ := RVr.cells l c (off + sz) h3 (j - sz) (by omega)
      exact ⟨v, x, by rw [← e1]; congr 1; omega, e2⟩
/-- The same rows in other cells. -/
theorem RVr.shift {rd : Rd} {sz : Nat} (l : List (List V)) (c c' : Array Value) (off off' : Nat) (hr : RVr rd sz l c off) (hs : ∀ j, j < l.length * sz → c'[off' + j]? = c[off + j]?) : RVr rd sz l c' off' := by
  refine RVr.of_get _ _ _ _ (fun i r hi => ?_)
  obtain ⟨h1, h2⟩ := RVr.get _ _ _ _ _ _ hr hi
  refine ⟨h1, RVc.of_get _ _ _ (fun q x hx => ?_)⟩
  obtain ⟨v, e1, e2⟩ := RVc.get _ _ _ _ _ h2 hx
  refine ⟨v, ?_, e2⟩
  have hil : i < l.length := (List.getElem?_eq_some_iff.1 hi).1
  have hql : q < r.length := (List.getElem?_eq_some_iff.1 hx).1
  have : (i + 1) * sz ≤ l.length * sz := Nat.mul_le_mul_right _ hil
  rw [Nat.succ_mul] at this
  rw [Nat.add_assoc, hs (i * sz + q) (by omega), ← Nat.add_assoc]; exact e1

/-- What is to be appended. -/
theorem src_ok {loc : Nat → Loc} {d : D} {v : Value} {zy : Nat} {l : List (List V)} {sz : Nat} {ty e' : TypeId} (hu : P.underlying ty = some (.slice e')) (hr : RD w.heap G loc d v) (rdo : ∀ b c, G.rd b = some c → ∃ e fr, w.heap[b]? = some (.cells c e fr)) (hs : sliceOf d = some (zy, l)) (hz : zy = sz ∨ l = []) :
    ∃ news, Src P sz ty v l.length news w ∧ RVr G.rd sz l news.toArray 0 := by
  -- the slice's rows in memory
  have key : ∃ base cap, v = .slice base l.length cap ∧ (l = [] ∨ ∃ b off c e fr, base = some ⟨b, off, none⟩ ∧ w.heap[b]? = some (.cells c e fr) ∧ RVr G.rd zy l c off) := by
    cases d with
    | v x =>
      cases x with
      | sl s m =>
        simp only [sliceOf, Option.some.injEq, Prod.mk.injEq] at hs
        obtain ⟨rfl, rfl⟩ := hs
        simp only [RD, RV] at hr
        obtain ⟨base, cap, h1, _, h2⟩ := hr
        refine ⟨base, cap, h1, h2.imp id ?_⟩
        rintro ⟨b, off, c, g1, g2, g3⟩
        obtain ⟨e, fr, g4⟩ := rdo b c g2
        exact ⟨b, off, c, e, fr, g1, g4, g3⟩
      | _ => simp [sliceOf] at hs
    | own s m =>
      simp only [sliceOf, Option.some.injEq, Prod.mk.injEq] at hs
      obtain ⟨rfl, rfl⟩ := hs
      simp only [RD, ROwn] at hr
      rcases hr with ⟨rfl, rfl⟩ | ⟨b, off, cap, c, e, fr, h1, h2, h3, h4, h5, h6, h7⟩
      · exact ⟨none, 0, rfl, .inl rfl⟩
      · exact ⟨_, cap, h1, .inr ⟨b, off, c, e, fr, rfl, h3, h7⟩⟩
    | al f s m src =>
      simp only [sliceOf, Option.some.injEq, Prod.mk.injEq] at hs
      obtain ⟨rfl, rfl⟩ := hs
      simp only [RD, RPart] at hr
      obtain ⟨_, ⟨base, cap, h1, _, h2⟩, _⟩ := hr
      refine ⟨base, cap, h1, h2.imp id ?_⟩
      rintro ⟨b, off, _, c, e, fr, g1, _, g3, g4⟩
      exact ⟨b, off, c, e, fr, g1, g3, g4⟩
    | cut s m =>
      simp only [sliceOf, Option.some.injEq, Prod.mk.injEq] at hs
      obtain ⟨rfl, rfl⟩ := hs
      simp only [RD] at hr
      obtain ⟨base, h1, h2⟩ := hr
      refine ⟨base, _, h1, h2.imp id ?_⟩
      rintro ⟨b, off, c, g1, g2, g3⟩
      obtain ⟨e, fr, g4⟩ := rdo b c g2
      exact ⟨b, off, c, e, fr, g1, g4, g3⟩
    | _ => simp [sliceOf] at hs
  obtain ⟨base, cap, rfl, hor⟩ := key
  have emp : l = [] → ∃ news, Src P sz ty (.slice base l.length cap) l.length news w ∧ RVr G.rd sz l news.toArray 0 := by
    rintro rfl
    refine ⟨[], ?_, by simp only [RVr]⟩
    cases base with
    | none => exact Src.ofNil w hu cap
    | some a => exact Src.ofSlice w hu a 0 cap [] (by simp) (fun j u hj => by simp at hj) (fun _ h => by cases h)
  rcases hor with hl | ⟨b, off, c, e, fr, rfl, h3, h7⟩
  · exact emp hl
  · rcases hz with rfl | hl
    · refine ⟨(c.toList.drop off).take (l.length * zy), ?_, ?_⟩
      · have hcell : ∀ (j : Nat) (u : Value), ((c.toList.drop off).take (l.length * zy))[j]? = some u → j < l.length * zy ∧ c[off + j]? = some u := by
          intro j u hj
          rw [List.getElem?_take] at hj
          split at hj
          · rename_i hlt
            rw [List.getElem?_drop] at hj
            exact ⟨hlt, by simpa using hj⟩
          · cases hj
        refine Src.ofSlice w hu ⟨b, off, none⟩ _ cap _ ?_ ?_ ?_
        · rw [List.length_take, List.length_drop, Array.length_toList]
          have h0 : 0 < l.length * zy → off + (l.length * zy - 1) < c.size := by
            intro h0
            obtain ⟨v, x, e1, _⟩ := RVr.cells _ _ _ h7 (l.length * zy - 1) (by omega)
            exact (Array.getElem?_eq_some_iff.1 e1).1
          generalize l.length * zy = N at h0
          rcases Nat.eq_zero_or_pos N with hN | hN
          · rw [hN]; simp
          · have := h0 hN
            have hcs : c.toList.length = c.size := Array.length_toList
            omega
        · intro j u hj
          rw [Addr.add_mid, cell_of rfl h3]
          exact (hcell j u hj).2
        · intro u hu'
          obtain ⟨j, hj⟩ := List.mem_iff_getElem?.1 hu'
          obtain ⟨h1, h2⟩ := hcell j u hj
          obtain ⟨v, x, e1, e2⟩ := RVr.cells _ _ _ h7 j h1
          rw [h2] at e1; cases e1
          exact oneCell_RV e2
      · refine RVr.shift l c _ off 0 h7 (fun j hj => ?_)
        rw [Nat.zero_add, List.getElem?_toArray, List.getElem?_take, if_pos hj, List.getElem?_drop]; simp
    · exact emp hl
theorem src_str {v : Value} {s : ByteArray} {ty : TypeId} {rd : Rd} (hu : P.underlying ty = some .string) (hv : v = .string s) : ∃ news, Src P 1 ty v (bytesRows s).length news w ∧ RVr rd 1 (bytesRows s) news.toArray 0 := by
  subst hv
  have hl : (bytesRows s).length = s.size := by simp [bytesRows]
  refine ⟨byteCells s, by rw [hl]; exact Src.ofString w hu s, ?_⟩
  refine RVr.of_get 1 _ _ 0 (fun i r hr => ?_)
  unfold bytesRows at hr
  rw [List.getElem?_map] at hr
  cases hb : s.data.toList[i]? with
  | none => rw [hb] at hr; cases hr
  | some b =>
    rw [hb] at hr
    simp at hr
    subst hr
    refine ⟨rfl, ?_⟩
    simp only [RVc, Nat.zero_add, Nat.mul_one]
    refine ⟨⟨.int .u8 b.toNat, ?_, show RV rd (.i .u8 b.toNat) (.int .u8 b.toNat) from by unfold RV; rfl⟩, trivial⟩
    rw [List.getElem?_toArray]
    unfold byteCells
    rw [List.getElem?_map, hb]; rfl

/-- append: a new row. -/
theorem append_grow {w : World} {G1 : Gh} {σ1 : St} {u sz : Nat} {lx ly : List (List V)} {vx vy : Value} {news : List Value} {tx ty rt e : TypeId} (hdst : o.dst = some u) (hu : u < tmps.size)
    (R2 : Rel w.heap G1 tmps σ1) (hS2 : Same w.heap G G1) (hc : Clean G1) (hlen : σ1.S.length = σ.S.length) (low : Low σ1.S)
    (hexec : execOp (⟨tmps, ds⟩ : Act).eval o = (do pure (.value (← Builtin.append_ #[tx, ty] rt #[vx, vy])) : Sem Next))
    (htx : P.underlying tx = some (.slice e)) (hzl : (tyOf P e).zero.length = (tyOf P e).size) (hsz : (tyOf P e).size = sz) (hz0 : sz ≠ 0) (hb0 : (tyOf P e).bytes ≠ 0) (hbound : (((lx.length + ly.length : Nat) : Int) * (tyOf P e).bytes ≤ 140737488355328))
    (hsrc : Src P sz ty vy ly.length news w) (hrows : RVr G1.rd sz ly news.toArray 0) {base : Option Addr} {cap : Nat} {olds : List Value} (hvx : vx = .slice base lx.length cap) (hgr : cap < lx.length + ly.length) (hol : olds.length = lx.length * sz) (horows : RVr G1.rd sz lx olds.toArray 0)
    (hold0 : ∀ i, P.info? e = some i → (Builtin.firstCells i.size lx.length (.slice base lx.length cap)).run P w.drew = .ok olds.toArray w.drew) :
    Does P w G ⟨tmps, ds⟩ σ o { σ1 with env := setReg σ1.env u (.own sz (lx ++ ly)) } := by
  obtain ⟨i, z, hi, hz, hzs, his, hib, _⟩ := tyOf_zero (G := G) hzl (by rw [hsz]; exact hz0)
  have hold := hold0 i hi
  have hisz : i.size = sz := by rw [his, hsz]
  have hneed : (lx.length + ly.length) * i.bytes ≤ 140737488355328 := by
    rw [hib]
    have h1 : (((lx.length + ly.length) * (tyOf P e).bytes : Nat) : Int) ≤ ((140737488355328 : Nat) : Int) := by rw [Int.natCast_mul]; exact hbound
    exact Int.ofNat_le.1 h1
  have hb1 : 1 ≤ i.bytes := by rw [hib]; omega
  have hneed1 : lx.length + ly.length ≤ 140737488355328 := Nat.le_trans (Nat.le_mul_of_pos_right _ hb1) hneed
  have hnl : news.length = ly.length * sz := hsrc.newsLen
  have hrun := run_append_grow_src (P := P) w tx ty rt e i z htx hi hz base lx.length cap olds hold vy ly.length news (by rw [hisz]; exact hsrc) hgr (by omega) (growslice_fits hgr hneed)
  have hcap := grownCap_ge w (lx.length + ly.length) cap e
  have hrun' : (execOp (⟨tmps, ds⟩ : Act).eval o).run P w = .ok (.value (.slice (some ⟨w.heap.size, 0, none⟩) (lx.length + ly.length) (grownCap w (lx.length + ly.length) cap e)))
      (w.drew.alloc (.cells ((olds ++ news).toArray ++ Builtin.zeroCells z.cells (grownCap w (lx.length + ly.length) cap e - (lx.length + ly.length))) e)) := by
    rw [hexec, hvx, Sem.run_bind, hrun, Result.andThen_ok]; rfl
  have hsplit : (lx.length + ly.length) * sz = lx.length * sz + ly.length * sz := Nat.add_mul _ _ _
  refine Does.newOwn (w1 := w.drew.alloc (.cells ((olds ++ news).toArray ++ Builtin.zeroCells z.cells (grownCap w (lx.length + ly.length) cap e - (lx.length + ly.length))) e)) (c := (olds ++ news).toArray ++ Builtin.zeroCells z.cells (grownCap w (lx.length + ly.length) cap e - (lx.length + ly.length))) (e := e) (fr := (0, 0)) (len := lx.length + ly.length) (cap := grownCap w (lx.length + ly.length) cap e) hdst hu hrun' (.inr rfl) R2 hc hlen low hS2 (fun i _ => by omega) (by simp) hz0 hcap ?_ ?_
  · rw [Array.size_append, size_zeroCells, hzs, hsz]
    simp only [List.size_toArray, List.length_append, hol, hnl]
    rw [← hsplit, ← Nat.add_mul]
    exact Nat.mul_le_mul_right _ (by omega)
  · refine RVr.append sz lx ly _ 0 (RVr.shift lx _ _ 0 0 horows (fun j hj => ?_)) (RVr.shift ly _ _ 0 _ hrows (fun j hj => ?_))
    · rw [Nat.zero_add, Array.getElem?_append_left (by simp; omega), List.getElem?_toArray, List.getElem?_toArray, List.getElem?_append_left (by omega)]
    · rw [Nat.zero_add, Nat.zero_add, Array.getElem?_append_left (by simp; omega), List.getElem?_toArray, List.getElem?_toArray, List.getElem?_append_right (by omega), hol]
      congr 1; omega

/-- append to what hand 0 owns. -/
theorem append_own {w : World} {G1 : Gh} {σ1 : St} {u sz : Nat} {lx ly : List (List V)} {vx vy : Value} {news : List Value} {tx ty rt e : TypeId} (hdst : o.dst = some u) (hu : u < tmps.size)
    (R : Rel w.heap G1 tmps σ1) (S1 : Same w.heap G G1) (H : Held w.heap G1 0 (.own sz lx) vx) (hc : ∀ q j, q ≠ 0 → G1.ow (.hand q j) = none) (hlen : σ1.S.length = σ.S.length) (low : Low σ1.S)
    (hexec : execOp (⟨tmps, ds⟩ : Act).eval o = (do pure (.value (← Builtin.append_ #[tx, ty] rt #[vx, vy])) : Sem Next))
    (htx : P.underlying tx = some (.slice e)) (hzl : (tyOf P e).zero.length = (tyOf P e).size) (hsz : (tyOf P e).size = sz) (hz0 : sz ≠ 0) (hb0 : (tyOf P e).bytes ≠ 0) (hbound : (((lx.length + ly.length : Nat) : Int) * (tyOf P e).bytes ≤ 140737488355328))
    (hsrc : Src P sz ty vy ly.length news w) (hrows : RVr G1.rd sz ly news.toArray 0) :
    Does P w G ⟨tmps, ds⟩ σ o { σ1 with env := setReg σ1.env u (.own sz (lx ++ ly)) } := by
  obtain ⟨i, z, hi, hz, hzs, his, hib, _⟩ := tyOf_zero (G := G) hzl (by rw [hsz]; exact hz0)
  have hisz : i.size = sz := by rw [his, hsz]
  have hneed : (lx.length + ly.length) * i.bytes ≤ 140737488355328 := by
    rw [hib]
    have h1 : (((lx.length + ly.length) * (tyOf P e).bytes : Nat) : Int) ≤ ((140737488355328 : Nat) : Int) := by rw [Int.natCast_mul]; exact hbound
    exact Int.ofNat_le.1 h1
  have hb1 : 1 ≤ i.bytes := by rw [hib]; omega
  have hneed1 : lx.length + ly.length ≤ 140737488355328 := Nat.le_trans (Nat.le_mul_of_pos_right _ hb1) hneed
  have hnl : news.length = ly.length * sz := hsrc.newsLen
  -- a new row: what was owned ahead is left behind
  have grow : ∀ (base : Option Addr) (cap : Nat) (olds : List Value), vx = .slice base lx.length cap → cap < lx.length + ly.length → olds.length = lx.length * sz → RVr G1.rd sz lx olds.toArray 0 →
      (Builtin.firstCells i.size lx.length (.slice base lx.length cap)).run P w.drew = .ok olds.toArray w.drew →
      Does P w G ⟨tmps, ds⟩ σ o { σ1 with env := setReg σ1.env u (.own sz (lx ++ ly)) } := by
    intro base cap olds hvx hgr hol horows hold
    let ow : Loc → Option (Nat × Nat) := fun l => match l with
      | .hand _ _ => none
      | l => G1.ow l
    have hsub : ∀ l p, ow l = some p → G1.ow l = some p := by
      intro l p hl
      cases l <;> first | exact hl | cases hl
    have R2 := R.hands (ow := ow) (fun l hl => by cases l <;> first | rfl | cases hl) (fun l p hl => ⟨l, hsub l p hl⟩) (fun l l' b f f' h1 h2 => R.inv.ow_inj l l' b f f' (hsub _ _ h1) (hsub _ _ h2))
    have hS2 : Same w.heap G { G1 with ow := ow } := S1.trans ⟨RdLe.refl _, rfl, fun l b f hl => ⟨l, f, hsub l _ hl⟩, fun b hb => .inl hb⟩
    exact append_grow hdst hu R2 hS2 (fun _ _ => rfl) hlen low hexec htx hzl hsz hz0 hb0 hbound hsrc hrows hvx hgr hol horows (fun i' hi' => by rw [hi] at hi'; cases hi'; exact hold)
  have hrd := H.rd
  simp only [RD] at hrd
  rcases hrd with ⟨hv0, hl0⟩ | ⟨b, off, cap, c, e0, fr, k1, k2, k3, k4, k5, k6, k7⟩
  · -- nil
    subst hl0
    simp only [List.nil_append, List.length_nil, Nat.zero_add] at *
    rcases Nat.eq_zero_or_pos ly.length with h0 | h0
    · have hly : ly = [] := List.length_eq_zero_iff.1 h0
      subst hly
      have hrun : (Builtin.append_ #[tx, ty] rt #[vx, vy]).run P w = .ok vx w := by
        have hk := hsrc.kind
        have hlen' := hsrc.len
        have hcs := hsrc.cells
        simp only [List.length_nil] at hlen' hcs
        rw [hv0]
        rcases hk with ⟨e', hk⟩ | hk <;> simp [Builtin.append_, run_underlying htx, run_underlying hk, sizeOf, typeInfo, hi, hlen', hisz, hcs]
      refine Does.give hdst hu (by rw [hexec, Sem.run_bind, hrun, Result.andThen_ok]; rfl) R ⟨by simp only [RD]; exact .inl ⟨hv0, rfl⟩, H.own, rfl⟩ hc low (S1.goes hlen)
    · exact grow none 0 [] hv0 h0 (by simp) (by simp only [RVr]) (run_firstCells_none w.drew i.size 0 0 0)
  · rcases Nat.lt_or_ge cap (lx.length + ly.length) with hgr | hroom
    · refine grow _ cap ((c.toList.drop off).take (lx.length * sz)) k1 hgr ?_ ?_ ?_
      · rw [List.length_take, List.length_drop, Array.length_toList]
        have : lx.length * sz ≤ cap * sz := Nat.mul_le_mul_right _ k5.1
        refine Nat.min_eq_left (Nat.le_sub_of_add_le ?_)
        have := Nat.add_le_add_left this off
        have := Nat.le_trans this k6
        rw [Nat.add_comm]; simpa using this
      · refine RVr.shift lx c _ off 0 k7 (fun j hj => ?_)
        rw [Nat.zero_add, List.getElem?_toArray, List.getElem?_take, if_pos hj, List.getElem?_drop]; simp
      · rw [hisz]
        refine run_firstCells_some w.drew sz lx.length ⟨b, off, none⟩ lx.length cap _ ?_ ?_
        · rw [List.length_take, List.length_drop, Array.length_toList]
          have : lx.length * sz ≤ cap * sz := Nat.mul_le_mul_right _ k5.1
          refine Nat.min_eq_left (Nat.le_sub_of_add_le ?_)
          have := Nat.add_le_add_left this off
          have := Nat.le_trans this k6
          rw [Nat.add_comm]; simpa using this
        · intro j v hj
          rw [Addr.add_mid, cell_of (w := w.drew) (h := w.heap) rfl k3]
          rw [List.getElem?_take] at hj
          split at hj
          · rw [List.getElem?_drop] at hj; simpa using hj
          · cases hj
    · -- there is room
      have hroomc : off + lx.length * sz + news.length ≤ c.size := by
        have h1 : (lx.length + ly.length) * sz ≤ cap * sz := Nat.mul_le_mul_right _ hroom
        rw [Nat.add_mul] at h1
        omega
      have ht := there_of (w := w) k3 k4 hroomc
      have hrun := run_append_room_src (P := P) w tx ty rt e i htx hi b off lx.length cap vy ly.length news (by rw [hisz]; exact hsrc) hroom (by rw [hisz]; exact fun j hj => (ht j hj).1) (by rw [hisz]; exact fun j hj => (ht j hj).2)
      rw [hisz] at hrun
      have hw := R.writeHand (h' := (w.setCells b (off + lx.length * sz) news).heap) k2 (heap_setCells_size _ _ _ _) (fun q hq => heap_setCells_ne _ hq _ _ _)
      have hk3 := heap_setCells b news w c (off + lx.length * sz) k3
      refine Does.give hdst hu (by rw [hexec, k1, Sem.run_bind, hrun, Result.andThen_ok]; rfl) hw ⟨?_, ?_, rfl⟩ hc low ⟨Step.setCells (S1.mineB (.inr ⟨_, _, k2⟩)) S1.rd (fun b hb => S1.mineB hb) (fun b hb => S1.rdB hb), by rw [hlen]; exact Nat.le_refl _, fun q _ => by rw [S1.ob]⟩
      · simp only [RD]
        refine .inr ⟨b, off, cap, _, e0, fr, by simp, k2, hk3, ?_, ⟨by simpa using hroom, hz0⟩, by rw [wr_size]; exact k6, ?_⟩
        · intro p hp; rw [wr_size] at hp; exact k4 p hp
        · refine RVr.append sz lx ly _ off (RVr.shift lx _ _ off off k7 (fun j hj => wr_out _ _ _ _ (.inl (by omega)))) (RVr.shift ly _ _ 0 _ hrows (fun j hj => ?_))
          rw [wr_in _ _ _ _ hroomc (by omega), Nat.zero_add, List.getElem?_toArray]
      · intro j p hp
        have := H.own j p hp
        simpa only [dOwns] using this

theorem does_append {c : Call} (F : Fine w.heap G tmps σ) (ho : o.op = .call c) (hcb : c.callee = .builtin .append) (hsz : ∀ t, o.dst = some t → t < tmps.size) (hd : workOp (tyOf P) C ro mv gv σ o.dst o.type o.op = some σ') : Does P w G ⟨tmps, ds⟩ σ o σ' := by
  rw [ho] at hd
  simp only [workOp, hcb] at hd
  split at hd <;> try (cases hd; done)
  rename_i x y tx ty u hargs htys hdst
  split at hd <;> try (cases hd; done)
  rename_i e dx dy htx hfx hfy
  obtain ⟨_, _, hux⟩ := tyOf_slice htx
  have ea : c.args = #[x, y] := by apply Array.ext'; simpa using hargs
  have et : c.argTypes = #[tx, ty] := by apply Array.ext'; simpa using htys
  have hexec : execOp (⟨tmps, ds⟩ : Act).eval o = (do pure (.value (← Builtin.append_ #[tx, ty] o.type #[(⟨tmps, ds⟩ : Act).eval x, (⟨tmps, ds⟩ : Act).eval y])) : Sem Next) := by
    simp [execOp, ho, resolve, hcb, ea, et, invoke, builtin]
  have hry := F.rel.opndF ds hfy
  have hrx := F.rel.opndF ds hfx
  split at hd <;> try (cases hd; done)
  rename_i zy ly hsy
  cases hc : ((zy == (tyOf P e).size || (ly.isEmpty && isSliceK (tyOf P ty).tk)) && (tyOf P e).zero.length == (tyOf P e).size && (tyOf P e).size != 0 && (tyOf P e).bytes != 0) with
  | false => rw [hc] at hd; cases hd
  | true =>
    rw [hc, cond_true] at hd
    simp only [Bool.and_eq_true, Bool.or_eq_true, beq_iff_eq, bne_iff_ne, List.isEmpty_iff] at hc
    obtain ⟨⟨⟨hzy, hzl⟩, hz0⟩, hb0⟩ := hc
    -- the source
    have hsrc : ∃ news, Src P (tyOf P e).size ty ((⟨tmps, ds⟩ : Act).eval y) ly.length news w ∧ RVr G.rd (tyOf P e).size ly news.toArray 0 := by
      split at hsy
      · rename_i e' hty
        obtain ⟨_, _, huy⟩ := tyOf_slice hty
        exact src_ok huy hry (fun b c hb => F.rel.inv.rd_ok b c hb) hsy (hzy.imp id (fun h => h.1))
      · rename_i hty
        obtain ⟨_, _, huy⟩ := tyOf_str hty
        have h1 : zy = (tyOf P e).size := by
          rcases hzy with h | ⟨_, h⟩
          · exact h
          · rw [hty] at h; cases h
        cases dy with
        | v xv =>
          cases xv with
          | s str =>
            simp only [tailOf, Option.some.injEq, Prod.mk.injEq] at hsy
            obtain ⟨rfl, rfl⟩ := hsy
            rw [← h1]
            exact src_str huy (RD.str hry)
          | _ => simp [tailOf] at hsy
        | _ => simp [tailOf] at hsy
      · cases hsy
    obtain ⟨news, hs1, hs2⟩ := hsrc
    split at hd
    · rename_i zx lx
      cases hc2 : ((zx == (tyOf P e).size || (zx == 0 && lx.isEmpty)) && decide (((lx.length + ly.length : Nat) : Int) * (tyOf P e).bytes ≤ 140737488355328)) with
      | false => rw [hc2] at hd; cases hd
      | true =>
        rw [hc2, cond_true] at hd
        cases hd
        simp only [Bool.and_eq_true, decide_eq_true_eq] at hc2
        obtain ⟨G1, R1, T, H1⟩ := F.rel.take (ds := ds) 0 (F.clean 0) hfx rfl
        have H2 : Held w.heap G1 0 (.own (tyOf P e).size lx) ((⟨tmps, ds⟩ : Act).eval x) := by
          have hfc : fitC (tyOf P e).size (.own zx lx) = some (.own (tyOf P e).size lx) := by
            simp only [fitC]
            rw [show ((tyOf P e).size == 0) = false by simpa using hz0, cond_false, hc2.1, cond_true]
          exact ⟨(fitC_ok hfc H1.rd).1, fun j p hp => by have := H1.own j p hp; simpa [dOwns] using this, rfl⟩
        exact append_own hdst (hsz u hdst) R1 T.same H2 (fun q j hq => by rw [T.hand q j hq]; exact F.clean q j) rfl F.low hexec hux hzl rfl hz0 hb0 hc2.2 hs1 (RVr.mono T.same.rd _ _ _ _ hs2)
    · rename_i zx lx src
      cases hc2 : (spendOk σ src && zx == (tyOf P e).size && decide (((lx.length + ly.length : Nat) : Int) * (tyOf P e).bytes ≤ 140737488355328)) with
      | false => rw [hc2] at hd; cases hd
      | true =>
        rw [hc2, cond_true] at hd
        cases hd
        simp only [Bool.and_eq_true, decide_eq_true_eq, beq_iff_eq] at hc2
        obtain ⟨⟨hsp, rfl⟩, hbd⟩ := hc2
        simp only [RD] at hrx
        obtain ⟨G1, R1, S1, H1, c1⟩ := F.rel.spendLoc 0 (F.clean 0) hsp (hrx.1 trivial)
        exact append_own hdst (hsz u hdst) R1 S1 H1 (fun q j hq => by rw [c1 q j hq]; exact F.clean q j) spendLoc_len F.low.spendLoc hexec hux hzl rfl hz0 hb0 hbd hs1 (RVr.mono S1.rd _ _ _ _ hs2)
    · rename_i zx lx
      cases hc2 : (zx == (tyOf P e).size && !ly.isEmpty && decide (((lx.length + ly.length : Nat) : Int) * (tyOf P e).bytes ≤ 140737488355328)) with
      | false => rw [hc2] at hd; cases hd
      | true =>
        rw [hc2, cond_true] at hd
        cases hd
        simp only [Bool.and_eq_true, decide_eq_true_eq, beq_iff_eq, Bool.not_eq_true'] at hc2
        obtain ⟨⟨rfl, hly⟩, hbd⟩ := hc2
        simp only [RD] at hrx
        obtain ⟨base, hvx, hor⟩ := hrx
        have hpos : 0 < ly.length := by
          cases ly with
          | nil => simp at hly
          | cons _ _ => simp
        rcases hor with hl0 | ⟨b, off, c0, hbase, hrd, hrw⟩
        · subst hl0
          refine append_grow hdst (hsz u hdst) F.rel (Same.refl _ _) F.clean rfl F.low hexec hux hzl rfl hz0 hb0 hbd hs1 hs2 (olds := []) hvx (by omega) (by simp) (by simp only [RVr]) (fun i _ => ?_)
          cases base with
          | none => exact run_firstCells_none w.drew _ 0 0 0
          | some a => exact run_firstCells_some w.drew _ 0 a 0 0 [] (by simp) (fun j v hj => by simp at hj)
        · obtain ⟨e0, fr, hcell⟩ := F.rel.inv.rd_ok b c0 hrd
          have hfit : off + lx.length * (tyOf P e).size ≤ c0.size ∨ lx.length * (tyOf P e).size = 0 := by
            rcases Nat.eq_zero_or_pos (lx.length * (tyOf P e).size) with h0 | h0
            · exact .inr h0
            · left
              obtain ⟨v, x, e1, _⟩ := RVr.cells _ _ _ hrw (lx.length * (tyOf P e).size - 1) (by omega)
              have := (Array.getElem?_eq_some_iff.1 e1).1
              omega
          have hlen : ((c0.toList.drop off).take (lx.length * (tyOf P e).size)).length = lx.length * (tyOf P e).size := by
            rw [List.length_take, List.length_drop, show c0.toList.length = c0.size from Array.length_toList]
            rcases hfit with h | h
            · exact Nat.min_eq_left (by omega)
            · rw [h]; simp
          refine append_grow hdst (hsz u hdst) F.rel (Same.refl _ _) F.clean rfl F.low hexec hux hzl rfl hz0 hb0 hbd hs1 hs2 (olds := (c0.toList.drop off).take (lx.length * (tyOf P e).size)) hvx (by omega) hlen ?_ (fun i hi => ?_)
          · refine RVr.shift lx c0 _ off 0 hrw (fun j hj => ?_)
            rw [Nat.zero_add, List.getElem?_toArray, List.getElem?_take, if_pos hj, List.getElem?_drop]; simp
          · obtain ⟨i1, z, hi1, hz, hzs, his, hib, _⟩ := tyOf_zero (G := G) hzl hz0
            rw [hi] at hi1; cases hi1
            rw [hbase, his]
            refine run_firstCells_some w.drew _ lx.length ⟨b, off, none⟩ lx.length lx.length _ hlen ?_
            intro j v hj
            rw [Addr.add_mid, cell_of (w := w.drew) (h := w.heap) rfl hcell]
            rw [List.getElem?_take] at hj
            split at hj
            · rw [List.getElem?_drop] at hj; simpa using hj
            · cases hj
    · cases hd
end
end Go.Mx
