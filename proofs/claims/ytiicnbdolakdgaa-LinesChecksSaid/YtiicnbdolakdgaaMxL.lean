/- A write into an owned block. -/
import Derived.Test.YtiicnbdolakdgaaMxK
set_option linter.unusedVariables false
set_option linter.unusedSimpArgs false
set_option linter.constructorNameAsVariable false
set_option linter.unnecessarySimpa false
namespace Go.Mx
open Go

section
variable {h h' : Array Obj} {G : Gh} {tmps : Array Value} {σ : St}

theorem Inv.write (I : Inv h G) {b : Nat} (hrd : G.rd b = none) (hs : h'.size = h.size) (hne : ∀ q, q ≠ b → h'[q]? = h[q]?) : Inv h' G where
  rd_ok := fun q c' hq => by
    have hqb : q ≠ b := by rintro rfl; rw [hrd] at hq; cases hq
    rw [hne q hqb]; exact I.rd_ok q c' hq
  ob_lt := fun q b' hq => by rw [hs]; exact I.ob_lt q b' hq
  ob_rd := I.ob_rd
  ob_inj := I.ob_inj
  ow_lt := fun l b f hl => by rw [hs]; exact I.ow_lt _ b f hl
  ow_rd := I.ow_rd
  ow_ob := I.ow_ob
  ow_inj := I.ow_inj

/-- What a hand owns changes: no place sees it. -/
theorem Rel.writeHand (R : Rel h G tmps σ) {k j b f : Nat} (hw : G.ow (.hand k j) = some (b, f)) (hs : h'.size = h.size) (hne : ∀ q, q ≠ b → h'[q]? = h[q]?) : Rel h' G tmps σ := by
  have hrd := R.inv.ow_rd _ b f hw
  have F : Fr (fun _ => False) h G h' G := ⟨RdLe.refl _, fun _ _ h => h, fun _ _ _ _ h => h, fun l b' f' hp _ hl => hne b' (by
    rintro rfl
    have := R.inv.ow_inj _ _ _ _ _ hl hw
    subst this; cases hp)⟩
  refine ⟨R.inv.write hrd hs hne, fun t => RD.fr F _ (fun _ => rfl) _ _ (free.none _ _) (R.env t), ?_, R.obc, R.obn, R.own⟩
  intro o cs hcs
  obtain ⟨b', c', e', fr', h1, h2, h3, h4⟩ := R.obj o cs hcs
  have hbb : b' ≠ b := by rintro rfl; exact R.inv.ow_ob _ _ f o hw h1
  exact ⟨b', c', e', fr', h1, by rw [hne b' hbb]; exact h2, h3, RDs.fr F _ (fun _ => rfl) _ _ _ (frees.none _ _ _) h4⟩

mutual
theorem RD.dropAl {src : Loc} {b f : Nat} (hw : G.ow src = some (b, f)) (I : Inv h G) (hne : ∀ q, q ≠ b → h'[q]? = h[q]?) (hn : src ≠ .nowhere) (loc : Nat → Loc) (hl : ∀ j, loc j ≠ src) : ∀ (d : D) (v : Value), RD h G loc d v → RD h' G loc (dropAl src d) v
  | .v x, v, hr => by simpa only [Mx.dropAl, RD] using hr
  | .undef, v, hr => by simpa only [Mx.dropAl, RD] using hr
  | .bad, v, hr => by simp only [Mx.dropAl, RD]
  | .mb g d, v, hr => by
    simp only [Mx.dropAl, RD] at *
    exact ⟨fun hg => RD.dropAl hw I hne hn loc hl d v (hr.1 hg), hr.2⟩
  | .own sz l, v, hr => by
    simp only [Mx.dropAl, RD] at *
    rcases hr with hr | ⟨b', off, cap, c, e, fr, h1, h2, h3, h4, h5, h6, h7⟩
    · exact .inl hr
    · exact .inr ⟨b', off, cap, c, e, fr, h1, h2, by rw [hne b' (by rintro rfl; exact hl 0 (I.ow_inj _ _ _ _ _ h2 hw))]; exact h3, h4, h5, h6, h7⟩
  | .al full sz l s, v, hr => by
    simp only [Mx.dropAl]
    cases hs : (s == src) with
    | true => simp only [cond_true, RD]
    | false =>
      have hs' : s ≠ src := by simpa using hs
      simp only [cond_false, RD] at *
      obtain ⟨h1, h2, h3⟩ := hr
      refine ⟨fun hf => ?_, ?_, h3⟩
      · rcases h1 hf with hr | ⟨b', off, cap, c, e, fr, h1, h2, h3, h4, h5, h6, h7⟩
        · exact .inl hr
        · exact .inr ⟨b', off, cap, c, e, fr, h1, h2, by rw [hne b' (by rintro rfl; exact hs' (I.ow_inj _ _ _ _ _ h2 hw))]; exact h3, h4, h5, h6, h7⟩
      · obtain ⟨base, cap, g1, g2, g3⟩ := h2
        refine ⟨base, cap, g1, g2, g3.imp id ?_⟩
        rintro ⟨b', off, o, c, e, fr, k1, k2, k3, k4⟩
        exact ⟨b', off, o, c, e, fr, k1, k2, by rw [hne b' (by rintro rfl; exact hs' (I.ow_inj _ _ _ _ _ k2 hw))]; exact k3, k4⟩
  | .cut sz l, v, hr => by simpa only [Mx.dropAl, RD] using hr
  | .rp c, v, hr => by simpa only [Mx.dropAl, RD] using hr
  | .ptr o off, v, hr => by simpa only [Mx.dropAl, RD] using hr
  | .ep s sz i off, v, hr => by simpa only [Mx.dropAl, RD] using hr
  | .agg cs, v, hr => by
    simp only [Mx.dropAl, RD] at *
    obtain ⟨vs, h1, h2⟩ := hr
    exact ⟨vs, h1, RDs.dropAl hw I hne hn loc hl 0 cs _ h2⟩
  | .tup cs, v, hr => by
    simp only [Mx.dropAl, RD] at *
    obtain ⟨vs, h1, h2⟩ := hr
    exact ⟨vs, h1, RDs.dropAl hw I hne hn _ (fun j hj => hn hj.symm) 0 cs _ h2⟩
  | .clo g cs, v, hr => by
    simp only [Mx.dropAl, RD] at *
    obtain ⟨vs, h1, h2⟩ := hr
    exact ⟨vs, h1, RDs.dropAl hw I hne hn _ (fun j hj => hn hj.symm) 0 cs _ h2⟩
  | .nilp, v, hr => by simpa only [Mx.dropAl, RD] using hr
theorem RDs.dropAl {src : Loc} {b f : Nat} (hw : G.ow src = some (b, f)) (I : Inv h G) (hne : ∀ q, q ≠ b → h'[q]? = h[q]?) (hn : src ≠ .nowhere) (loc : Nat → Loc) (hl : ∀ j, loc j ≠ src) : ∀ (j : Nat) (ds : List D) (vs : List Value), RDs h G loc j ds vs → RDs h' G loc j (dropAls src ds) vs
  | _, [], [], _ => by simp only [dropAls, RDs]
  | j, d :: ds, v :: vs, hr => by
    simp only [dropAls, RDs] at *
    exact ⟨RD.dropAl hw I hne hn _ (fun _ => hl j) d v hr.1, RDs.dropAl hw I hne hn loc hl (j + 1) ds vs hr.2⟩
  | _, [], _ :: _, hr => by simp only [RDs] at hr
  | _, _ :: _, [], hr => by simp only [RDs] at hr
end

theorem dropAl_isOwn {src : Loc} (d : D) : isOwn (dropAl src d) = isOwn d := by
  cases d with
  | al f z m s => simp only [Mx.dropAl]; cases (s == src) <;> rfl
  | _ => simp only [Mx.dropAl] <;> rfl
theorem dropAls_get {src : Loc} : ∀ (cs : List D) (j : Nat), (dropAls src cs)[j]? = (cs[j]?).map (dropAl src)
  | [], _ => by simp [dropAls]
  | d :: r, 0 => by simp [dropAls]
  | d :: r, j + 1 => by simp [dropAls, dropAls_get r j]
theorem dOwns_drop {src : Loc} (d : D) (j : Nat) : dOwns (Mx.dropAl src d) j = dOwns d j := by
  cases d with
  | al f z m s => simp only [Mx.dropAl]; cases (s == src) <;> rfl
  | agg cs =>
    simp only [Mx.dropAl, dOwns, dropAls_get]
    cases cs[j]? with
    | none => rfl
    | some d => simp [dropAl_isOwn]
  | _ => simp only [Mx.dropAl, dOwns]

/-- What is owned at a place changes. -/
theorem Rel.setOwn (R : Rel h G tmps σ) {src : Loc} {b f sz sz' : Nat} {l l2 : List (List V)} (hw : G.ow src = some (b, f)) (hown : ownAt σ src = some (sz, l)) (hs : h'.size = h.size) (hne : ∀ q, q ≠ b → h'[q]? = h[q]?)
    (hnew : ∀ v, ROwn h G.rd (G.ow src) sz l v → ROwn h' G.rd (G.ow src) sz' l2 v) : Rel h' G tmps (Mx.setOwn σ src sz' l2) := by
  have hnw : src ≠ .nowhere := by rintro rfl; simp [ownAt] at hown
  have I' := R.inv.write (R.inv.ow_rd _ b f hw) hs hne
  cases src with
  | hand k j => simp [ownAt] at hown
  | nowhere => exact absurd rfl hnw
  | reg t j =>
    have hlk : look σ.env t = .own sz l ∧ j = 0 := by
      simp only [ownAt] at hown
      split at hown
      · rename_i sz0 l0 hl
        by_cases hj : j = 0
        · subst hj
          simp at hown; rw [hl, hown.1, hown.2]; exact ⟨rfl, rfl⟩
        · have : (j == 0) = false := by simpa using hj
          rw [this] at hown; simp at hown
      · cases hown
    obtain ⟨hlk, rfl⟩ := hlk
    have hlook : ∀ u, look (Mx.setOwn σ (.reg t 0) sz' l2).env u = if t = u then .own sz' l2 else Mx.dropAl (.reg t 0) (look σ.env u) := by
      intro u
      simp only [Mx.setOwn, look_put]
      split
      · rfl
      · exact look_map (Mx.dropAl (.reg t 0)) rfl _ _
    refine ⟨I', ?_, ?_, R.obc, R.obn, ?_⟩
    · intro u
      rw [hlook]
      by_cases hu : t = u
      · subst hu
        simp only [if_true]
        have := R.env t
        rw [hlk] at this
        simp only [RD] at *
        exact hnew _ this
      · simp only [hu, if_false]
        exact RD.dropAl hw R.inv hne hnw _ (fun j hj => by cases hj; exact hu rfl) _ _ (R.env u)
    · intro q cs hcs
      obtain ⟨b', c', e', fr', h1, h2, h3, h4⟩ := R.obj q cs hcs
      have hbb : b' ≠ b := by rintro rfl; exact R.inv.ow_ob _ _ f q hw h1
      refine ⟨b', c', e', fr', h1, by rw [hne b' hbb]; exact h2, h3, RDs.cellMove (G := G) (G' := G) (h := h) ⟨RdLe.refl _, fun _ _ h => h⟩ 0 0 cs _ (R.obc q cs hcs) (fun i d' _ _ b2 f2 hb2 => ⟨hb2, hne b2 (by
        rintro rfl
        have := R.inv.ow_inj _ _ _ _ _ hb2 hw
        cases this)⟩) h4⟩
    · intro l0 p hh hp
      have := R.own l0 p hh hp
      cases l0 with
      | reg u j =>
        rw [ownsAt_eq] at *
        rw [hlook]
        by_cases hu : t = u
        · subst hu; rw [hlk] at this; simpa [dOwns] using this
        · simp only [hu, if_false, dOwns_drop]; exact this
      | _ => exact this
  | cell o off =>
    simp only [ownAt] at hown
    cases hcs : σ.S[o]? with
    | none => rw [hcs] at hown; cases hown
    | some cs =>
      rw [hcs] at hown
      simp only at hown
      have hcell : cs[off]? = some (.own sz l) := by
        split at hown
        · rename_i sz0 l0 hl; cases hown; exact hl
        · cases hown
      have hlook : ∀ u, look (Mx.setOwn σ (.cell o off) sz' l2).env u = Mx.dropAl (.cell o off) (look σ.env u) := by
        intro u
        exact look_map (Mx.dropAl (.cell o off)) rfl _ _
      have hS : ∀ q cs', (Mx.setOwn σ (.cell o off) sz' l2).S[q]? = some cs' → (q = o ∧ cs' = cs.set off (.own sz' l2)) ∨ (q ≠ o ∧ σ.S[q]? = some cs') := by
        intro q cs' hq
        simp only [Mx.setOwn, List.getElem?_modify] at hq
        by_cases hqo : o = q
        · subst hqo
          rw [hcs] at hq
          simp at hq
          exact .inl ⟨rfl, hq.symm⟩
        · right
          refine ⟨fun e => hqo e.symm, ?_⟩
          cases hq' : σ.S[q]? with
          | none => rw [hq'] at hq; simp at hq
          | some x => rw [hq'] at hq; simp [hqo] at hq; rw [hq]
      have hSo : (Mx.setOwn σ (.cell o off) sz' l2).S[o]? = some (cs.set off (.own sz' l2)) := by
        simp [Mx.setOwn, List.getElem?_modify, hcs]
      refine ⟨I', ?_, ?_, ?_, ?_, ?_⟩
      · intro u
        rw [hlook]
        exact RD.dropAl hw R.inv hne hnw _ (fun j hj => by cases hj) _ _ (R.env u)
      · intro q cs' hq
        rcases hS q cs' hq with ⟨rfl, rfl⟩ | ⟨hqo, hq⟩
        · obtain ⟨b', c', e', fr', h1, h2, h3, h4⟩ := R.obj q cs hcs
          have hbb : b' ≠ b := by rintro rfl; exact R.inv.ow_ob _ _ f q hw h1
          refine ⟨b', c', e', fr', h1, by rw [hne b' hbb]; exact h2, h3, ?_⟩
          refine RDs.of_get _ _ _ _ ?_ ?_
          · rw [RDs.length _ _ _ _ h4]; simp
          · intro i d' hd'
            rw [Nat.zero_add]
            by_cases hi : off = i
            · subst hi
              obtain ⟨v', hv1, hv2⟩ := RDs.get _ _ _ _ _ _ h4 hcell
              rw [List.getElem?_set] at hd'
              rw [if_pos rfl] at hd'
              split at hd'
              · cases hd'
                rw [Nat.zero_add] at hv2
                refine ⟨v', hv1, ?_⟩
                simp only [RD] at *
                exact hnew _ hv2
              · cases hd'
            · rw [List.getElem?_set, if_neg hi] at hd'
              obtain ⟨v', hv1, hv2⟩ := RDs.get _ _ _ _ _ _ h4 hd'
              rw [Nat.zero_add] at hv2
              refine ⟨v', hv1, ?_⟩
              have hck : cellOk d' = true := List.all_eq_true.1 (R.obc q cs hcs) d' (List.mem_of_getElem? hd')
              refine RD.cellMove (G := G) (h := h) (l := .cell q i) ⟨RdLe.refl _, fun _ _ h => h⟩ hck (fun _ b2 f2 hb2 => ⟨hb2, hne b2 ?_⟩) hv2
              rintro rfl
              have := R.inv.ow_inj _ _ _ _ _ hb2 hw
              cases this; exact hi rfl
        · obtain ⟨b', c', e', fr', h1, h2, h3, h4⟩ := R.obj q cs' hq
          have hbb : b' ≠ b := by rintro rfl; exact R.inv.ow_ob _ _ f q hw h1
          refine ⟨b', c', e', fr', h1, by rw [hne b' hbb]; exact h2, h3, RDs.cellMove (G := G) (G' := G) (h := h) ⟨RdLe.refl _, fun _ _ h => h⟩ 0 0 cs' _ (R.obc q cs' hq) (fun i d' _ _ b2 f2 hb2 => ⟨hb2, hne b2 (by
            rintro rfl
            have := R.inv.ow_inj _ _ _ _ _ hb2 hw
            cases this; exact hqo rfl)⟩) h4⟩
      · intro q cs' hq
        rcases hS q cs' hq with ⟨rfl, rfl⟩ | ⟨hqo, hq⟩
        · rw [List.all_eq_true]
          intro d' hd'
          rcases List.mem_or_eq_of_mem_set hd' with hd' | rfl
          · exact List.all_eq_true.1 (R.obc q cs hcs) d' hd'
          · rfl
        · exact R.obc q cs' hq
      · intro q hq
        refine R.obn q ?_
        simpa [Mx.setOwn] using hq
      · intro l0 p hh hp
        have := R.own l0 p hh hp
        cases l0 with
        | reg u j =>
          rw [ownsAt_eq] at *
          rw [hlook, dOwns_drop]; exact this
        | cell q j =>
          unfold ownsAt at this ⊢
          simp only at this ⊢
          by_cases hq : q = o
          · subst hq
            rw [hSo]
            simp only [hcs] at this
            simp only [List.getElem?_set]
            by_cases hj : off = j
            · subst hj
              rw [if_pos rfl]
              rw [hcell] at this
              have : off < cs.length := by
                rcases Nat.lt_or_ge off cs.length with h' | h'
                · exact h'
                · rw [List.getElem?_eq_none h'] at hcell; cases hcell
              rw [if_pos this]; rfl
            · rw [if_neg hj]; exact this
          · have he : (Mx.setOwn σ (.cell o off) sz' l2).S[q]? = σ.S[q]? := by
              have hq' : ¬ o = q := fun e => hq e.symm
              simp only [Mx.setOwn, List.getElem?_modify]
              cases σ.S[q]? <;> simp [hq']
            rw [he]; exact this
        | _ => exact this
end
end Go.Mx
