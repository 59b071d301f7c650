/- From a hand into a register; from a hand into what never changes. -/
import Derived.Test.YtiicnbdolakdgaaMxH
set_option linter.unusedVariables false
set_option linter.unusedSimpArgs false
set_option linter.constructorNameAsVariable false
set_option linter.unnecessarySimpa false
namespace Go.Mx
open Go

/-- The same memory: what is owned has moved, or been dropped, or frozen. -/
structure Same (h : Array Obj) (G G' : Gh) : Prop where
  rd : RdLe G.rd G'.rd
  ob : G'.ob = G.ob
  mine : ∀ l b f, G'.ow l = some (b, f) → ∃ l0 f0, G.ow l0 = some (b, f0)
  rdn : ∀ b, G'.rd b ≠ none → G.rd b ≠ none ∨ ∃ l f, G.ow l = some (b, f)
theorem Same.step {w : World} {G G' : Gh} (S : Same w.heap G G') : Step w G w G' :=
  ⟨rfl, rfl, rfl, Nat.le_refl _, fun _ _ _ => rfl, fun b hb => .inl (by
    rcases hb with ⟨o, ho⟩ | ⟨l, f, hl⟩
    · exact .inl ⟨o, by rw [← S.ob]; exact ho⟩
    · obtain ⟨l0, f0, h0⟩ := S.mine l b f hl; exact .inr ⟨l0, f0, h0⟩), S.rd, fun b hb => (S.rdn b hb).imp id (fun ⟨l, f, hl⟩ => .inl (.inr ⟨l, f, hl⟩))⟩
theorem Same.refl (h : Array Obj) (G : Gh) : Same h G G := ⟨RdLe.refl _, rfl, fun l b f hl => ⟨l, f, hl⟩, fun b hb => .inl hb⟩
theorem Same.trans {h : Array Obj} {G G1 G2 : Gh} (S : Same h G G1) (T : Same h G1 G2) : Same h G G2 :=
  ⟨S.rd.trans T.rd, T.ob.trans S.ob, fun l b f hl => by
    obtain ⟨l0, f0, h0⟩ := T.mine l b f hl
    exact S.mine l0 b f0 h0, fun b hb => (T.rdn b hb).elim (S.rdn b) (fun ⟨l, f, hl⟩ => by
      obtain ⟨l0, f0, h0⟩ := S.mine l b f hl; exact .inr ⟨l0, f0, h0⟩)⟩
theorem Took.same {k : Nat} {h : Array Obj} {G G' : Gh} (T : Took k h G G') : Same h G G' :=
  ⟨by rw [T.rd]; exact RdLe.refl _, T.ob, fun l b f hl => by obtain ⟨l0, h0⟩ := T.mine l _ hl; exact ⟨l0, f, h0⟩, fun b hb => .inl (by rw [← T.rd]; exact hb)⟩

section
variable {h : Array Obj} {G : Gh} {tmps : Array Value} {σ : St}

/-- A register gets what a hand holds. -/
theorem Rel.give (R : Rel h G tmps σ) {k t : Nat} {d : D} {v : Value} (H : Held h G k d v) (ht : t < tmps.size) :
    ∃ G', Rel h G' (tmps.setIfInBounds t v) { σ with env := setReg σ.env t d } ∧ Same h G G' ∧ (∀ j, G'.ow (.hand k j) = none) ∧ (∀ q j, q ≠ k → G'.ow (.hand q j) = G.ow (.hand q j)) ∧ (∀ o off, G'.ow (.cell o off) = G.ow (.cell o off)) := by
  let ow : Loc → Option (Nat × Nat) := fun l => match l with
    | .hand q j => if q = k then none else G.ow (.hand q j)
    | .reg u j => if u = t then G.ow (.hand k j) else G.ow (.reg u j)
    | l => G.ow l
  have o1 : ∀ j, ow (.hand k j) = none := fun j => by simp [ow]
  have o2 : ∀ q j, q ≠ k → ow (.hand q j) = G.ow (.hand q j) := fun q j hq => by simp [ow, hq]
  have o3 : ∀ j, ow (.reg t j) = G.ow (.hand k j) := fun j => by simp [ow]
  have o4 : ∀ u j, u ≠ t → ow (.reg u j) = G.ow (.reg u j) := fun q j hq => by simp [ow, hq]
  let r : Loc → Loc := fun l => match l with
    | .reg u j => if u = t then .hand k j else .reg u j
    | l => l
  have hr : ∀ l p, ow l = some p → G.ow (r l) = some p := by
    intro l p hl
    cases l with
    | hand q j =>
      by_cases hq : q = k
      · subst hq; rw [o1] at hl; cases hl
      · rw [o2 q j hq] at hl; exact hl
    | reg u j =>
      by_cases hu : u = t
      · subst hu; rw [o3] at hl; simpa [r] using hl
      · rw [o4 u j hu] at hl; simpa [r, hu] using hl
    | _ => exact hl
  have hk0 : ∀ l p, ow l = some p → ∀ j, l ≠ .hand k j := by
    rintro l p hl j rfl
    rw [o1] at hl; cases hl
  have hinj : ∀ l l' b f f', ow l = some (b, f) → ow l' = some (b, f') → l = l' := by
    intro l l' b f f' h1 h2
    have e := R.inv.ow_inj _ _ b f f' (hr _ _ h1) (hr _ _ h2)
    have g1 := hk0 _ _ h1
    have g2 := hk0 _ _ h2
    cases l <;> cases l' <;> simp only [r] at e <;> (try split at e) <;> (try split at e) <;> simp_all
  have I : Inv h { G with ow := ow } := R.inv.sub (fun l p hl => ⟨_, hr l p hl⟩) hinj
  have F : Fr (fun l => ∃ j, l = .reg t j) h G h { G with ow := ow } := ⟨RdLe.refl _, fun _ _ h => h, fun l p hpl hl hp => by
      show ow l = some p
      cases l with
      | hand q j => cases hpl
      | reg u j => rw [o4 u j (fun hu => hl ⟨j, by rw [hu]⟩)]; exact hp
      | _ => exact hp, fun _ _ _ _ _ _ => rfl⟩
  refine ⟨{ G with ow := ow }, R.reg ht I F (fun _ => rfl) (fun _ _ _ => rfl) ?_ ?_ ?_, ⟨RdLe.refl _, rfl, fun l b f hl => ⟨_, f, hr l _ hl⟩, fun b hb => .inl hb⟩, o1, o2, fun _ _ => rfl⟩
  · intro l p hpl hl hn
    cases l with
    | hand q j => cases hpl
    | reg u j => rw [← o4 u j (fun hu => hn j (by rw [hu]))]; exact hl
    | _ => exact hl
  · exact RD.valMove (G := G) (G' := { G with ow := ow }) ⟨RdLe.refl _, fun _ _ h => h⟩ H.ok (fun j _ b f hb => ⟨by rw [show ({ G with ow := ow } : Gh).ow = ow from rfl, o3]; exact hb, rfl⟩) H.rd
  · intro j p hp
    exact H.own j p (by rw [← o3]; exact hp)

def RVl (rd : Rd) : List V → List Value → Prop
  | [], [] => True
  | x :: xs, v :: vs => RV rd x v ∧ RVl rd xs vs
  | _, _ => False
theorem RVl.mono {rd rd' : Rd} (hl : RdLe rd rd') : ∀ (xs : List V) (vs : List Value), RVl rd xs vs → RVl rd' xs vs
  | [], [], _ => trivial
  | x :: xs, v :: vs, hr => ⟨RV.mono hl x v hr.1, RVl.mono hl xs vs hr.2⟩
  | [], _ :: _, hr => hr.elim
  | _ :: _, [], hr => hr.elim
theorem RVl.length {rd : Rd} : ∀ (xs : List V) (vs : List Value), RVl rd xs vs → vs.length = xs.length
  | [], [], _ => rfl
  | x :: xs, v :: vs, hr => by simp [RVl.length xs vs hr.2]
  | [], _ :: _, hr => hr.elim
  | _ :: _, [], hr => hr.elim
/-- Cells of a row, as the row says. -/
theorem RVc.ofRVl {rd : Rd} : ∀ (xs : List V) (vs : List Value) (c : Array Value) (off : Nat), RVl rd xs vs → (∀ q v, vs[q]? = some v → c[off + q]? = some v) → RVc rd xs c off
  | [], [], _, _, _, _ => by simp only [RVc]
  | x :: xs, v :: vs, c, off, hr, hc => by
    simp only [RVc]
    refine ⟨⟨v, by simpa using hc 0 v rfl, hr.1⟩, RVc.ofRVl xs vs c (off + 1) hr.2 (fun q u hu => ?_)⟩
    have := hc (q + 1) u (by simpa using hu)
    rw [show off + 1 + q = off + (q + 1) by omega]
    exact this
  | [], _ :: _, _, _, hr, _ => hr.elim
  | _ :: _, [], _, _, hr, _ => hr.elim

theorem RD.toV {loc : Nat → Loc} {d : D} {v : Value} {x : V} {rd' : Rd} (hl : RdLe G.rd rd') (ho : ∀ b f, isOwn d = true → G.ow (loc 0) = some (b, f) → ∀ c e fr, h[b]? = some (.cells c e fr) → rd' b = some c)
    (hr : RD h G loc d v) (hx : Mx.toV d = some x) : RV rd' x v := by
  cases d <;> simp [Mx.toV] at hx <;> subst hx
  · simp only [RD] at hr; exact RV.mono hl _ _ hr
  · rename_i sz l
    simp only [RD, RV] at *
    rcases hr with ⟨h1, rfl⟩ | ⟨b, off, cap, c, e, fr, h1, h2, h3, h4, h5, h6, h7⟩
    · exact ⟨none, 0, by simp [h1], by simp, .inl rfl⟩
    · exact ⟨_, cap, h1, h5.1, .inr ⟨b, off, c, rfl, ho b off rfl h2 c e fr h3, RVr.mono hl _ _ _ _ h7⟩⟩
  · rename_i sz l
    simp only [RD, RV] at *
    obtain ⟨base, h1, h2⟩ := hr
    refine ⟨base, l.length, h1, Nat.le_refl _, h2.imp id ?_⟩
    rintro ⟨b, off, c, g1, g2, g3⟩
    exact ⟨b, off, c, g1, hl _ _ g2, RVr.mono hl _ _ _ _ g3⟩
theorem RDs.toVs {loc : Nat → Loc} {rd' : Rd} (hl : RdLe G.rd rd') : ∀ (j : Nat) (ds : List D) (vs : List Value) (xs : List V),
    (∀ i d, ds[i]? = some d → isOwn d = true → ∀ b f, G.ow (loc (j + i)) = some (b, f) → ∀ c e fr, h[b]? = some (.cells c e fr) → rd' b = some c) → RDs h G loc j ds vs → Mx.toVs ds = some xs → RVl rd' xs vs
  | _, [], [], xs, _, _, hx => by simp [Mx.toVs] at hx; subst hx; trivial
  | j, d :: ds, v :: vs, xs, ho, hr, hx => by
    simp only [RDs] at hr
    simp only [Mx.toVs] at hx
    split at hx <;> try (simp at hx; done)
    rename_i x h1
    split at hx <;> try (simp at hx; done)
    rename_i s h2
    cases hx
    refine ⟨RD.toV hl (fun b f hd => by simpa using ho 0 d rfl hd b f) hr.1 h1, RDs.toVs hl (j + 1) ds vs s (fun i d' hd => ?_) hr.2 h2⟩
    have := ho (i + 1) d' (by simpa using hd)
    rw [Nat.add_assoc, Nat.add_comm 1 i]
    exact this
  | _, [], _ :: _, _, _, hr, _ => by simp only [RDs] at hr
  | _, _ :: _, [], _, _, hr, _ => by simp only [RDs] at hr

theorem RD.cells {loc : Nat → Loc} {d : D} {v : Value} (hv : valOk d = true) (hr : RD h G loc d v) (hb : ∀ x, d = .v x → True) : d = .bad ∨ d = .undef ∨ RDs h G loc 0 (cellsOf d) v.cells.toList := by
  cases d with
  | agg cs =>
    simp only [RD] at hr
    obtain ⟨vs, rfl, h2⟩ := hr
    exact .inr (.inr (by simpa [cellsOf, Value.cells] using h2))
  | bad => exact .inl rfl
  | undef => exact .inr (.inl rfl)
  | v x =>
    refine .inr (.inr ?_)
    have hc : v.cells = #[v] := by
      simp only [RD] at hr
      cases x <;> simp only [RV] at hr <;> first | (subst hr; rfl) | (obtain ⟨_, _, rfl, _⟩ := hr; rfl)
    rw [hc]
    simp only [cellsOf, RDs]
    exact ⟨by simpa only [RD] using hr, trivial⟩
  | own sz l =>
    refine .inr (.inr ?_)
    have hc : v.cells = #[v] := by
      simp only [RD] at hr
      rcases hr with ⟨rfl, _⟩ | ⟨_, _, _, _, _, _, rfl, _⟩ <;> rfl
    rw [hc]
    simp only [cellsOf, RDs]
    exact ⟨by simpa only [RD] using hr, trivial⟩
  | cut sz l =>
    refine .inr (.inr ?_)
    have hc : v.cells = #[v] := by
      simp only [RD] at hr
      obtain ⟨_, rfl, _⟩ := hr; rfl
    rw [hc]
    simp only [cellsOf, RDs]
    exact ⟨by simpa only [RD] using hr, trivial⟩
  | rp cs =>
    refine .inr (.inr ?_)
    have hc : v.cells = #[v] := by
      simp only [RD] at hr
      obtain ⟨_, _, _, rfl, _⟩ := hr; rfl
    rw [hc]
    simp only [cellsOf, RDs]
    exact ⟨by simpa only [RD] using hr, trivial⟩
  | ptr o f =>
    refine .inr (.inr ?_)
    have hc : v.cells = #[v] := by
      simp only [RD] at hr
      obtain ⟨_, _, rfl⟩ := hr; rfl
    rw [hc]
    simp only [cellsOf, RDs]
    exact ⟨by simpa only [RD] using hr, trivial⟩
  | clo f cs =>
    refine .inr (.inr ?_)
    have hc : v.cells = #[v] := by
      simp only [RD] at hr
      obtain ⟨_, rfl, _⟩ := hr; rfl
    rw [hc]
    simp only [cellsOf, RDs]
    exact ⟨by simpa only [RD] using hr, trivial⟩
  | nilp =>
    refine .inr (.inr ?_)
    have hc : v.cells = #[v] := by
      simp only [RD] at hr
      subst hr; rfl
    rw [hc]
    simp only [cellsOf, RDs]
    exact ⟨by simpa only [RD] using hr, trivial⟩
  | _ => simp [valOk, cellOk, stayC] at hv

/-- What a hand holds never changes any more. -/
theorem Rel.freeze0 (R : Rel h G tmps σ) (k : Nat) :
    ∃ G', Rel h G' tmps σ ∧ Same h G G' ∧ (∀ b j f c e fr, G.ow (.hand k j) = some (b, f) → h[b]? = some (.cells c e fr) → G'.rd b = some c) ∧ (∀ j, G'.ow (.hand k j) = none) ∧ (∀ l, (∀ j, l ≠ .hand k j) → G'.ow l = G.ow l) := by
  let ow : Loc → Option (Nat × Nat) := fun l => match l with
    | .hand q j => if q = k then none else G.ow (.hand q j)
    | l => G.ow l
  have o1 : ∀ j, ow (.hand k j) = none := fun j => by simp [ow]
  have o2 : ∀ l, (∀ j, l ≠ .hand k j) → ow l = G.ow l := by
    intro l hl
    cases l with
    | hand q j => simp only [ow]; rw [if_neg (fun hq => hl j (by rw [hq]))]
    | _ => rfl
  have hsub : ∀ l p, ow l = some p → G.ow l = some p ∧ ∀ j, l ≠ .hand k j := by
    intro l p hl
    have hn : ∀ j, l ≠ .hand k j := by rintro j rfl; rw [o1] at hl; cases hl
    exact ⟨by rw [← o2 l hn]; exact hl, hn⟩
  let rd : Rd := fun b => open Classical in if (∃ j f, G.ow (.hand k j) = some (b, f)) then (match h[b]? with | some (.cells c _ _) => some c | _ => none) else G.rd b
  have r1 : ∀ b, (¬ ∃ j f, G.ow (.hand k j) = some (b, f)) → rd b = G.rd b := fun b hb => by simp only [rd]; rw [if_neg hb]
  have r2 : ∀ b j f c e fr, G.ow (.hand k j) = some (b, f) → h[b]? = some (.cells c e fr) → rd b = some c := fun b j f c e fr hb hc => by simp only [rd]; rw [if_pos ⟨j, f, hb⟩, hc]
  have hle : RdLe G.rd rd := by
    intro b c hc
    rw [r1 b]
    · exact hc
    · rintro ⟨j, f, hb⟩
      rw [R.inv.ow_rd _ b f hb] at hc; cases hc
  have I : Inv h { G with rd := rd, ow := ow } := {
    rd_ok := fun b c hc => by
      by_cases hb : ∃ j f, G.ow (.hand k j) = some (b, f)
      · have hc' : rd b = some c := hc
        simp only [rd] at hc'
        rw [if_pos hb] at hc'
        split at hc'
        · rename_i c' e fr hcell
          cases hc'
          exact ⟨e, fr, hcell⟩
        · cases hc'
      · exact R.inv.rd_ok b c (by rw [← r1 b hb]; exact hc)
    ob_lt := R.inv.ob_lt
    ob_rd := fun o b hb => by
      show rd b = none
      rw [r1 b]
      · exact R.inv.ob_rd o b hb
      · rintro ⟨j, f, hj⟩
        exact R.inv.ow_ob _ b f o hj hb
    ob_inj := R.inv.ob_inj
    ow_lt := fun l b f hl => R.inv.ow_lt l b f (hsub l _ hl).1
    ow_rd := fun l b f hl => by
      show rd b = none
      have hl' := hsub l _ hl
      rw [r1 b]
      · exact R.inv.ow_rd l b f hl'.1
      · rintro ⟨j, f', hj⟩
        exact hl'.2 j (R.inv.ow_inj l _ b f f' hl'.1 hj)
    ow_ob := fun l b f o hl => R.inv.ow_ob l b f o (hsub l _ hl).1
    ow_inj := fun l l' b f f' h1 h2 => R.inv.ow_inj l l' b f f' (hsub _ _ h1).1 (hsub _ _ h2).1 }
  have F : Fr (fun _ => False) h G h { G with rd := rd, ow := ow } := ⟨hle, fun _ _ h => h, fun l p hpl _ hp => by
    show ow l = some p
    rw [o2 l (by rintro j rfl; cases hpl)]; exact hp, fun _ _ _ _ _ _ => rfl⟩
  refine ⟨{ G with rd := rd, ow := ow }, ⟨I, fun t => RD.fr F _ (fun _ => rfl) _ _ (free.none _ _) (R.env t), ?_, R.obc, R.obn, fun l p hh hl => R.own l p hh (hsub l p hl).1⟩, ⟨hle, rfl, fun l b f hl => ⟨l, f, (hsub l _ hl).1⟩, ?_⟩, r2, o1, o2⟩
  · intro o cs hcs
    obtain ⟨b, c, e, fr, h1, h2, h3, h4⟩ := R.obj o cs hcs
    exact ⟨b, c, e, fr, h1, h2, h3, RDs.fr F _ (fun _ => rfl) _ _ _ (frees.none _ _ _) h4⟩
  · intro b hb
    by_cases hb' : ∃ j f, G.ow (.hand k j) = some (b, f)
    · obtain ⟨j, f, hj⟩ := hb'; exact .inr ⟨_, f, hj⟩
    · exact .inl (by rw [← r1 b hb']; exact hb)

theorem Rel.freeze (R : Rel h G tmps σ) {k : Nat} {d : D} {v : Value} (H : Held h G k d v) {xs : List V} (hx : Mx.toVs (cellsOf d) = some xs) :
    ∃ G', Rel h G' tmps σ ∧ Same h G G' ∧ RVl G'.rd xs v.cells.toList ∧ (∀ j, G'.ow (.hand k j) = none) ∧ (∀ l, (∀ j, l ≠ .hand k j) → G'.ow l = G.ow l) := by
  obtain ⟨G', R', S', hr, h1, h2⟩ := R.freeze0 k
  refine ⟨G', R', S', ?_, h1, h2⟩
  rcases RD.cells H.ok H.rd (fun _ _ => trivial) with rfl | rfl | hc
  · simp [cellsOf, Mx.toVs, toV] at hx
  · simp [cellsOf, Mx.toVs, toV] at hx
  · exact RDs.toVs S'.rd 0 _ _ xs (fun i d' _ _ b f hb c e fr hcell => hr b _ f c e fr (by simpa using hb) hcell) hc hx

theorem Same.more {G G' : Gh} (S : Same h G G') : More h G h G' := ⟨S.rd, fun o b hb => by rw [S.ob]; exact hb⟩

/-- … whatever it is. -/
theorem Rel.freezeF (R : Rel h G tmps σ) {k : Nat} {d : D} {v : Value} (H : Held h G k d v) :
    ∃ G', Rel h G' tmps σ ∧ Same h G G' ∧ (∀ loc, RD h G' loc (frz d) v) ∧ (∀ j, G'.ow (.hand k j) = none) ∧ (∀ l, (∀ j, l ≠ .hand k j) → G'.ow l = G.ow l) := by
  obtain ⟨G', R', S', hr, h1, h2⟩ := R.freeze0 k
  refine ⟨G', R', S', ?_, h1, h2⟩
  have cell : ∀ (j : Nat) (d : D) (v : Value) (loc : Nat → Loc), cellOk d = true → RD h G (fun _ => .hand k j) d v → RD h G' loc (frzC d) v := by
    intro j d v loc hck hd
    cases d with
    | own sz l =>
      have := RD.toV (G := G) (loc := fun _ => .hand k j) (d := .own sz l) (x := .sl sz l) S'.rd (fun b f _ hb c e fr hcell => hr b _ f c e fr hb hcell) hd rfl
      simpa only [frzC, RD] using this
    | clo f cs =>
      simp only [frzC, RD] at *
      obtain ⟨vs, g1, g2⟩ := hd
      exact ⟨vs, g1, RDs.stay S'.more 0 0 _ _ (by simpa [cellOk] using hck) g2⟩
    | _ => first | (exact RD.stay S'.more rfl hd) | (simp [cellOk, stayC] at hck)
  have cells : ∀ (ds : List D) (vs : List Value) (j j' : Nat) (loc : Nat → Loc), ds.all cellOk = true → RDs h G (Loc.hand k) j ds vs → RDs h G' loc j' (ds.map frzC) vs := by
    intro ds
    induction ds with
    | nil => intro vs j j' loc _ hd; cases vs with
      | nil => simp only [List.map_nil, RDs]
      | cons _ _ => simp only [RDs] at hd
    | cons d r ih => intro vs j j' loc hok hd; cases vs with
      | nil => simp only [RDs] at hd
      | cons v vs =>
        simp only [List.all_cons, Bool.and_eq_true] at hok
        simp only [List.map_cons, RDs] at *
        exact ⟨cell j d v _ hok.1 hd.1, ih vs _ _ loc hok.2 hd.2⟩
  intro loc
  cases d with
  | agg cs =>
    have hd := H.rd
    simp only [RD, frz] at *
    obtain ⟨vs, g1, g2⟩ := hd
    exact ⟨vs, g1, cells cs _ 0 0 loc (by simpa [valOk] using H.ok) g2⟩
  | own sz l => exact cell 0 (.own sz l) v loc rfl (by simpa only [RD] using H.rd)
  | clo f cs => exact cell 0 (.clo f cs) v loc H.ok (by simpa only [RD] using H.rd)
  | _ => first | (exact RD.stay S'.more rfl H.rd) | (have := H.ok; simp [valOk, cellOk, stayC] at this)
end
end Go.Mx
