/- The machine Mx: Go code run on plain data in place of memory, and that it tells the truth of the model (part MxFour). -/
import Derived.Test.YtnjkmbogbfjffaaMxThree
import Derived.Laws.Tables
import Derived.ChangeShapes
import Derived.Below
import Derived.SizedLaws
import Derived.Lib.Bytealg
set_option linter.unusedSimpArgs false
set_option linter.unusedVariables false
set_option linter.constructorNameAsVariable false
set_option linter.unnecessarySimpa false
namespace Go.Mx
open Go
section
variable {P : Program} {w : World} {G : Gh} {tmps : Array Value} {σ σ' : St} {ds : List Deferred} {C : ak} {ν : cC} {o : Oper}
def CodeOk (P : Program) (C : ak) (ν : cC) (n : Nat) (body : Code) : Code → Prop
  | .region id ops draw => RegionOk P C ν n id ops draw
  | .seq a b => CodeOk P C ν n body a ∧ CodeOk P C ν n body b
  | .cond _ a b => CodeOk P C ν n body a ∧ CodeOk P C ν n body b
  | .block id (.loop c) => bz id body = some c ∧ CodeOk P C ν n body c
  | .block _ c => CodeOk P C ν n body c
  | _ => True
def LoopsOk (P : Program) (n : Nat) (body : Code) (L : Loops) : Prop :=
  ∀ id c, bz id body = some c → ∀ (w : World) (G : Gh) (tmps : Array Value) (ds : List Deferred) (σ : St) (ex : Ex) (σ' : St), tmps.size = n → Fine w.heap G tmps σ → L id σ = some (ex, σ') → Reach P (.block id (.loop c)) w G ⟨tmps, ds⟩ σ ex σ'
theorem evCode_ok {n : Nat} {body : Code} {L : Loops} (LO : LoopsOk P n body L) : ∀ (c : Code) (w : World) (G : Gh) (tmps : Array Value) (σ : St) (ex : Ex) (σ' : St), CodeOk P C ν n body c → tmps.size = n → Fine w.heap G tmps σ → aH (cq P) C L ν c σ = some (ex, σ') → Reach P c w G ⟨tmps, ds⟩ σ ex σ' := by
  intro c
  induction c with
  | skip =>
    intro w G tmps σ ex σ' _ _ F he Q hQ
    simp only [aH, Option.some.injEq, Prod.mk.injEq] at he
    obtain ⟨rfl, rfl⟩ := he
    exact wp_skip (hQ _ _ w G rfl rfl rfl F (Goes.refl _ _ _))
  | region id ops draw =>
    intro w G tmps σ ex σ' ok hn F he Q hQ
    simp only [aH] at he
    cases hr : evRegion (cq P) C ν id ops.toList draw σ with
    | none => rw [hr] at he; cases he
    | some σ1 =>
      rw [hr] at he
      simp only [Option.some.injEq, Prod.mk.injEq] at he
      obtain ⟨rfl, rfl⟩ := he
      refine ok w G tmps ds σ σ1 hn F hr Q ?_
      intro e a' w' G' h1 h2 h3 F' g'
      obtain ⟨G2, R2, S2, c2⟩ := F'.rel.prune (ν.keep id)
      exact hQ e a' w' G2 h1 h2 h3 ⟨R2, fun k j => by rw [c2]; exact F'.clean k j, F'.low⟩ (g'.trans (S2.goes rfl))
  | seq a b iha ihb =>
    intro w G tmps σ ex σ' ok hn F he Q hQ
    simp only [CodeOk] at ok
    simp only [aH] at he
    refine wp_seq ?_
    cases ha : aH (cq P) C L ν a σ with
    | none => rw [ha] at he; cases he
    | some p =>
      obtain ⟨e1, σ1⟩ := p
      rw [ha] at he
      refine iha w G tmps σ e1 σ1 ok.1 hn F ha _ ?_
      intro e a' w' G' h1 h2 h3 F' g'
      cases e1 with
      | normal =>
        simp only at he
        cases h1
        obtain ⟨tmps', ds'⟩ := a'
        simp only at h2 h3 F'
        simp only [Exit.then]
        rw [h2]
        refine ihb w' G' tmps' σ1 ex σ' ok.2 (h3.trans hn) F' he Q ?_
        intro e2 a2 w2 G2 k1 k2 k3 F2 g2
        exact hQ e2 a2 w2 G2 k1 k2 (k3.trans h3) F2 (g'.trans g2)
      | exit id =>
        simp only [Option.some.injEq, Prod.mk.injEq] at he
        obtain ⟨rfl, rfl⟩ := he
        cases h1
        exact hQ _ a' w' G' rfl h2 h3 F' g'
      | ret =>
        simp only [Option.some.injEq, Prod.mk.injEq] at he
        obtain ⟨rfl, rfl⟩ := he
        cases h1
        exact hQ _ a' w' G' rfl h2 h3 F' g'
  | cond x a b iha ihb =>
    intro w G tmps σ ex σ' ok hn F he Q hQ
    simp only [CodeOk] at ok
    cases x with
    | tmp t =>
      simp only [aH] at he
      split at he
      · rename_i x hl
        have hr := F.rel.env t
        rw [hl] at hr
        have hv : (⟨tmps, ds⟩ : Act).eval (.tmp t) = .bool x := RD.bool hr
        refine wp_cond hv ?_
        have key : ∀ x, ∃ G2, Fine w.heap G2 tmps (aw ν t x σ) ∧ Goes w G σ w G2 (aw ν t x σ) := by
          intro x
          unfold aw
          split
          · rename_i l _
            obtain ⟨G2, R2, S2, c2⟩ := F.rel.prune l
            exact ⟨G2, ⟨R2, fun k j => by rw [c2]; exact F.clean k j, F.low⟩, S2.goes rfl⟩
          · exact ⟨G, F, Goes.refl _ _ _⟩
        obtain ⟨G2, F2, g2⟩ := key x
        cases x with
        | true => rw [cond_true] at he; exact iha w G2 tmps _ ex σ' ok.1 hn F2 he Q (fun e a' w' G' h1 h2 h3 F' g' => hQ e a' w' G' h1 h2 h3 F' (g2.trans g'))
        | false => rw [cond_false] at he; exact ihb w G2 tmps _ ex σ' ok.2 hn F2 he Q (fun e a' w' G' h1 h2 h3 F' g' => hQ e a' w' G' h1 h2 h3 F' (g2.trans g'))
      · cases he
    | _ => simp [aH] at he
  | block id c ih =>
    intro w G tmps σ ex σ' ok hn F he Q hQ
    have other : CodeOk P C ν n body c → de id (aH (cq P) C L ν c σ) = some (ex, σ') → (Code.block id c).wp P Q ⟨tmps, ds⟩ w := by
      intro ok he
      refine wp_block ?_
      cases hc : aH (cq P) C L ν c σ with
      | none => rw [hc] at he; cases he
      | some p =>
        obtain ⟨e1, σ1⟩ := p
        rw [hc] at he
        refine ih w G tmps σ e1 σ1 ok hn F hc _ ?_
        intro e a' w' G' h1 h2 h3 F' g'
        cases e1 with
        | normal =>
          simp only [de, Option.some.injEq, Prod.mk.injEq] at he
          obtain ⟨rfl, rfl⟩ := he
          cases h1
          exact hQ _ a' w' G' rfl h2 h3 F' g'
        | ret =>
          simp only [de, Option.some.injEq, Prod.mk.injEq] at he
          obtain ⟨rfl, rfl⟩ := he
          cases h1
          exact hQ _ a' w' G' rfl h2 h3 F' g'
        | exit id' =>
          cases h1
          simp only [de] at he
          simp only [Exit.inBlock]
          by_cases hid : id' = id
          · subst hid
            simp only [beq_self_eq_true, cond_true, Option.some.injEq, Prod.mk.injEq] at he
            obtain ⟨rfl, rfl⟩ := he
            rw [if_pos rfl]
            exact hQ _ a' w' G' rfl h2 h3 F' g'
          · have hb : (id' == id) = false := by simpa using hid
            rw [hb, cond_false] at he
            simp only [Option.some.injEq, Prod.mk.injEq] at he
            obtain ⟨rfl, rfl⟩ := he
            rw [if_neg hid]
            exact hQ _ a' w' G' rfl h2 h3 F' g'
    cases c with
    | loop c' =>
      simp only [CodeOk] at ok
      simp only [aH] at he
      exact LO id c' ok.1 w G tmps ds σ ex σ' hn F he Q hQ
    | _ => exact other ok he
  | exit id =>
    intro w G tmps σ ex σ' _ _ F he Q hQ
    simp only [aH, Option.some.injEq, Prod.mk.injEq] at he
    obtain ⟨rfl, rfl⟩ := he
    exact wp_exit (hQ _ _ w G rfl rfl rfl F (Goes.refl _ _ _))
  | ret =>
    intro w G tmps σ ex σ' _ _ F he Q hQ
    simp only [aH, Option.some.injEq, Prod.mk.injEq] at he
    obtain ⟨rfl, rfl⟩ := he
    exact wp_ret (hQ _ _ w G rfl rfl rfl F (Goes.refl _ _ _))
  | _ =>
    intro w G tmps σ ex σ' _ _ F he Q hQ
    simp [aH] at he
end
end Go.Mx
namespace Go.Mx
open Go
section
variable {P : Program} {h : Array Obj} {G G' : Gh} {tmps : Array Value} {σ σ' : St}
structure Below0 (n : Nat) (G G' : Gh) : Prop where
  rd : cN G.rd G'.rd
  ob : ∀ o b, o < n → G.ob o = some b → G'.ob o = some b
structure Below' (n : Nat) (G G' : Gh) : Prop extends Below0 n G G' where
  ow : ∀ l p, bi n l = true → G.ow l = some p → G'.ow l = some p
theorem RD.lowP {n : Nat} (B : Below0 n G G') {loc loc' : Nat → Loc} {d : D} {v : Value} (hl : Mx.lowP n d = true) (hr : RD h G loc d v) : RD h G' loc' d v := by
  cases d with
  | ptr o off =>
    simp only [RD] at *
    obtain ⟨b, h1, h2⟩ := hr
    exact ⟨b, B.ob o b (by simpa [Mx.lowP] using hl) h1, h2⟩
  | v x => simp only [RD] at *; exact RV.mono B.rd _ _ hr
  | cut sz l =>
    simp only [RD] at *
    obtain ⟨base, h1, h2⟩ := hr
    exact ⟨base, h1, h2.imp id (fun ⟨b, off, c, g1, g2, g3⟩ => ⟨b, off, c, g1, B.rd _ _ g2, RVr.mono B.rd _ _ _ _ g3⟩)⟩
  | rp c =>
    simp only [RD] at *
    obtain ⟨b, off, c', g1, g2, g3⟩ := hr
    exact ⟨b, off, c', g1, B.rd _ _ g2, RVc.mono B.rd _ _ _ g3⟩
  | undef => simpa only [RD] using hr
  | bad => simp only [RD]
  | nilp => simpa only [RD] using hr
  | _ => simp [Mx.lowP, bD] at hl
theorem RDs.lowP {n : Nat} (B : Below0 n G G') : ∀ (cs : List D) (vs : List Value) (j j' : Nat) (loc loc' : Nat → Loc), cs.all (Mx.lowP n) = true → RDs h G loc j cs vs → RDs h G' loc' j' cs vs
  | [], [], _, _, _, _, _, _ => by simp only [RDs]
  | d :: cs, v :: vs, j, j', loc, loc', hl, hr => by
    simp only [List.all_cons, Bool.and_eq_true] at hl
    simp only [RDs] at *
    exact ⟨RD.lowP B hl.1 hr.1, RDs.lowP B cs vs _ _ _ _ hl.2 hr.2⟩
  | [], _ :: _, _, _, _, _, _, hr => by simp only [RDs] at hr
  | _ :: _, [], _, _, _, _, _, hr => by simp only [RDs] at hr
theorem RD.lowC {n : Nat} (B : Below0 n G G') {l l' : Loc} {d : D} {v : Value} (hl : Mx.lowC n d = true) (ho : bB d = true → ∀ p, G.ow l = some p → G'.ow l' = some p) (hr : RD h G (fun _ => l) d v) : RD h G' (fun _ => l') d v := by
  cases d with
  | own sz m =>
    simp only [RD] at *
    rcases hr with hr | ⟨b, off, cap, c, e, fr, h1, h2, h3, h4, h5, h6, h7⟩
    · exact .inl hr
    · exact .inr ⟨b, off, cap, c, e, fr, h1, ho rfl _ h2, h3, h4, h5, h6, RVr.mono B.rd _ _ _ _ h7⟩
  | clo f cs =>
    simp only [RD] at *
    obtain ⟨vs, h1, h2⟩ := hr
    exact ⟨vs, h1, RDs.lowP B cs _ 0 0 _ _ (by simpa [Mx.lowC] using hl) h2⟩
  | ptr o off => exact RD.lowP B (by simpa [Mx.lowC, Mx.lowP] using hl) hr
  | v x => exact RD.lowP B rfl hr
  | cut sz l => exact RD.lowP B rfl hr
  | rp c => exact RD.lowP B rfl hr
  | undef => exact RD.lowP B rfl hr
  | bad => exact RD.lowP B rfl hr
  | nilp => exact RD.lowP B rfl hr
  | _ => simp [Mx.lowC, aL, bD] at hl
theorem RDs.lowC {n : Nat} (B : Below0 n G G') {loc loc' : Nat → Loc} : ∀ (cs : List D) (vs : List Value) (j j' : Nat), cs.all (Mx.lowC n) = true → (∀ i d, cs[i]? = some d → bB d = true → ∀ p, G.ow (loc (j + i)) = some p → G'.ow (loc' (j' + i)) = some p) → RDs h G loc j cs vs → RDs h G' loc' j' cs vs
  | [], [], _, _, _, _, _ => by simp only [RDs]
  | d :: cs, v :: vs, j, j', hl, ho, hr => by
    simp only [List.all_cons, Bool.and_eq_true] at hl
    simp only [RDs] at *
    refine ⟨RD.lowC B hl.1 (fun hd => by simpa using ho 0 d rfl hd) hr.1, RDs.lowC B cs vs _ _ hl.2 (fun i d' hd hown p hp => ?_) hr.2⟩
    have := ho (i + 1) d' (by simpa using hd) hown p (by rw [show j + (i + 1) = j + 1 + i by omega]; exact hp)
    rw [show j' + 1 + i = j' + (i + 1) by omega]; exact this
  | [], _ :: _, _, _, _, _, hr => by simp only [RDs] at hr
  | _ :: _, [], _, _, _, _, hr => by simp only [RDs] at hr
theorem RD.lowA {n : Nat} (B : Below' n G G') {loc loc' : Nat → Loc} {d : D} {v : Value} (hl : Mx.lowA n d = true) (ho : ∀ j p, G.ow (loc j) = some p → G'.ow (loc' j) = some p) (hr : RD h G loc d v) : RD h G' loc' d v := by
  have one : ∀ (d : D) (v : Value), Mx.lowC n d = true → RD h G loc d v → RD h G' loc' d v := by
    intro d v hd hr
    cases d with
    | own sz l =>
      have hr' : RD h G (fun _ => loc 0) (.own sz l) v := by simpa only [RD] using hr
      have := RD.lowC (l := loc 0) (l' := loc' 0) B.toBelow0 (d := .own sz l) rfl (fun _ p hp => ho 0 p hp) hr'
      simpa only [RD] using this
    | clo f cs =>
      have hr' : RD h G (fun _ => loc 0) (.clo f cs) v := by simpa only [RD] using hr
      have := RD.lowC (l := loc 0) (l' := loc' 0) B.toBelow0 (d := .clo f cs) hd (fun h => by cases h) hr'
      simpa only [RD] using this
    | ptr o off => exact RD.lowP B.toBelow0 (by simpa [Mx.lowC, Mx.lowP] using hd) hr
    | v x => exact RD.lowP B.toBelow0 rfl hr
    | cut sz l => exact RD.lowP B.toBelow0 rfl hr
    | rp c => exact RD.lowP B.toBelow0 rfl hr
    | undef => exact RD.lowP B.toBelow0 rfl hr
    | bad => exact RD.lowP B.toBelow0 rfl hr
    | nilp => exact RD.lowP B.toBelow0 rfl hr
    | _ => simp [Mx.lowC, aL, bD] at hd
  cases d with
  | al f sz l src =>
    simp only [Mx.lowA] at hl
    simp only [RD] at *
    obtain ⟨h1, h2, h3⟩ := hr
    refine ⟨fun hf => ?_, ?_, h3⟩
    · rcases h1 hf with hr | ⟨b, off, cap, c, e, fr, h1, h2, h3, h4, h5, h6, h7⟩
      · exact .inl hr
      · exact .inr ⟨b, off, cap, c, e, fr, h1, B.ow _ _ hl h2, h3, h4, h5, h6, RVr.mono B.rd _ _ _ _ h7⟩
    · obtain ⟨base, cap, g1, g2, g3⟩ := h2
      refine ⟨base, cap, g1, g2, g3.imp id ?_⟩
      rintro ⟨b, off, o, c, e, fr, k1, k2, k3, k4⟩
      exact ⟨b, off, o, c, e, fr, k1, B.ow _ _ hl k2, k3, RVr.mono B.rd _ _ _ _ k4⟩
  | ep src sz i off =>
    simp only [Mx.lowA] at hl
    simp only [RD] at *
    obtain ⟨b, base, h1, h2, h3⟩ := hr
    exact ⟨b, base, B.ow _ _ hl h1, h2, h3⟩
  | agg cs =>
    simp only [Mx.lowA] at hl
    simp only [RD] at *
    obtain ⟨vs, h1, h2⟩ := hr
    exact ⟨vs, h1, RDs.lowC B.toBelow0 cs _ 0 0 hl (fun i d _ _ p hp => by simpa using ho i p (by simpa using hp)) h2⟩
  | tup cs =>
    simp only [Mx.lowA] at hl
    simp only [RD] at *
    obtain ⟨vs, h1, h2⟩ := hr
    exact ⟨vs, h1, RDs.lowC B.toBelow0 cs _ 0 0 hl (fun i d _ _ p hp => B.ow _ _ rfl hp) h2⟩
  | mb g d =>
    simp only [Mx.lowA] at hl
    simp only [RD] at *
    exact ⟨fun hg => one d v hl (hr.1 hg), hr.2⟩
  | _ => exact one _ v (by simpa only [Mx.lowA] using hl) hr
theorem low_mono {m n : Nat} {cs : List D} (hmn : m ≤ n) (h : cs.all (Mx.lowC m) = true) : cs.all (Mx.lowC n) = true := by
  rw [List.all_eq_true] at *
  intro d hd
  have h1 := h d hd
  cases d with
  | ptr q off => simp only [Mx.lowC, decide_eq_true_eq] at *; omega
  | clo f xs =>
    simp only [Mx.lowC] at *
    rw [List.all_eq_true] at *
    intro x hx
    have h2 := h1 x hx
    cases x with
    | ptr q off => simp only [Mx.lowP, decide_eq_true_eq] at *; omega
    | _ => exact h2
  | _ => exact h1
theorem Rel.trunc (R : Rel h G tmps σ) (low : Low σ.S) {n : Nat} (hn : n ≤ σ.S.length) (he : ∀ t, Mx.lowA n (bF σ.env t) = true) : ∃ G', Rel h G' tmps { σ with S := σ.S.take n } ∧ G'.rd = G.rd ∧ (∀ o, o < n → G'.ob o = G.ob o) ∧ (∀ k j, G'.ow (.hand k j) = G.ow (.hand k j)) ∧
    (∀ l p, G'.ow l = some p → G.ow l = some p) ∧ (∀ o b, G'.ob o = some b → G.ob o = some b) ∧ Below' n G G' := by
  let ob : Nat → Option Nat := fun o => if o < n then G.ob o else none
  let ow : Loc → Option (Nat × Nat) := fun l => bif bi n l then G.ow l else none
  have hsub : ∀ l q, ow l = some q → G.ow l = some q ∧ bi n l = true := by
    intro l q hl
    simp only [ow] at hl
    cases hpl : bi n l with
    | true => rw [hpl] at hl; exact ⟨hl, rfl⟩
    | false => rw [hpl] at hl; cases hl
  have hk : ∀ l, bi n l = true → ow l = G.ow l := fun l hl => by simp [ow, hl]
  have hobs : ∀ o b, ob o = some b → G.ob o = some b ∧ o < n := by
    intro o b hb
    simp only [ob] at hb
    split at hb
    · rename_i h; exact ⟨hb, h⟩
    · cases hb
  have hobk : ∀ o, o < n → ob o = G.ob o := fun o ho => by simp [ob, ho]
  have B : Below' n G { rd := G.rd, ob := ob, ow := ow } := ⟨⟨cN.refl _, fun o b ho hb => (by show ob o = some b; rw [hobk o ho]; exact hb)⟩, fun l p hl hp => (by show ow l = some p; rw [hk l hl]; exact hp)⟩
  refine ⟨{ rd := G.rd, ob := ob, ow := ow }, ⟨⟨R.inv.rd_ok, fun o b hb => R.inv.ob_lt o b (hobs o b hb).1, fun o b hb => R.inv.ob_rd o b (hobs o b hb).1, fun o o' b h1 h2 => R.inv.ob_inj o o' b (hobs o b h1).1 (hobs o' b h2).1, fun l b f hl => R.inv.ow_lt l b f (hsub l _ hl).1, fun l b f hl => R.inv.ow_rd l b f (hsub l _ hl).1, fun l b f o hl ho => R.inv.ow_ob l b f o (hsub l _ hl).1 (hobs o b ho).1, fun l l' b f f' h1 h2 => R.inv.ow_inj l l' b f f' (hsub l _ h1).1 (hsub l' _ h2).1⟩, ?_, ?_, ?_, ?_, ?_⟩, rfl, hobk, fun k j => hk (.hand k j) rfl, fun l p hl => (hsub l p hl).1, fun o b hb => (hobs o b hb).1, B⟩
  · intro t
    exact RD.lowA B (he t) (fun j p hp => B.ow _ p rfl hp) (R.env t)
  · intro o cs hcs
    have ho : o < n ∧ σ.S[o]? = some cs := by
      rw [List.getElem?_take] at hcs
      split at hcs
      · rename_i h; exact ⟨h, hcs⟩
      · cases hcs
    obtain ⟨b, c, e, fr, h1, h2, h3, h4⟩ := R.obj o cs ho.2
    refine ⟨b, c, e, fr, by show ob o = some b; rw [hobk o ho.1]; exact h1, h2, h3, ?_⟩
    have hlow : cs.all (Mx.lowC n) = true := by
      rw [List.all_eq_true]
      intro d hd
      have h1 := List.all_eq_true.1 (low o cs ho.2) d hd
      cases d with
      | ptr q off => simp only [Mx.lowC, decide_eq_true_eq] at *; omega
      | clo f xs =>
        simp only [Mx.lowC] at *
        rw [List.all_eq_true] at *
        intro x hx
        have h2 := h1 x hx
        cases x with
        | ptr q off => simp only [Mx.lowP, decide_eq_true_eq] at *; omega
        | _ => exact h2
      | _ => exact h1
    exact RDs.lowC B.toBelow0 cs _ 0 0 hlow (fun i d _ _ p hp => B.ow _ p (by simpa [bi] using ho.1) hp) h4
  · intro o cs hcs
    rw [List.getElem?_take] at hcs
    split at hcs
    · exact R.obc o cs hcs
    · cases hcs
  · intro o ho
    show ob o = none
    simp only [List.length_take] at ho
    simp only [ob]
    rw [if_neg (by omega)]
  · intro l p hh hl
    obtain ⟨h1, h2⟩ := hsub l p hl
    have := R.own l p hh h1
    cases l with
    | cell o j =>
      have ho : o < n := by simpa [bi] using h2
      unfold cZ at *
      simp only at *
      rw [List.getElem?_take, if_pos ho]; exact this
    | _ => exact this
theorem Low.take {S : aA} (L : Low S) (n : Nat) : Low (S.take n) := by
  intro o cs hcs
  rw [List.getElem?_take] at hcs
  split at hcs
  · exact L o cs hcs
  · cases hcs
end
end Go.Mx
namespace Go.Mx
open Go
section
variable {P : Program} {w : World} {G : Gh} {tmps : Array Value} {σ σ' : St} {ds : List Deferred} {C : ak} {ν : cC}
theorem all_look {n : Nat} : ∀ (env : Env), env.all (fun e => lowA n e.2) = true → ∀ t, lowA n (bF env t) = true
  | [], _, t => rfl
  | (u, d) :: r, h, t => by
    simp only [List.all_cons, Bool.and_eq_true] at h
    simp only [bF]
    cases u == t with
    | true => exact h.1
    | false => exact all_look r h.2 t
theorem trunc_ok {n : Nat} {w' : World} {G' : Gh} {σ0 σ2 : St} (F : Fine w'.heap G' tmps σ') (g : Goes w G σ0 w' G' σ') (hn : σ0.S.length = n) (ht : Mx.trunc n σ' = some σ2) : ∃ G2, Fine w'.heap G2 tmps σ2 ∧ Goes w G σ0 w' G2 σ2 := by
  unfold Mx.trunc at ht
  cases hl : (σ'.S.length == n) with
  | true =>
    rw [hl, cond_true, Option.some.injEq] at ht
    subst ht
    exact ⟨G', F, g⟩
  | false =>
    rw [hl, cond_false] at ht
    cases ha : σ'.env.all (fun e => lowA n e.2) with
    | false => rw [ha] at ht; cases ht
    | true =>
      rw [ha, cond_true, Option.some.injEq] at ht
      subst ht
      have hle : n ≤ σ'.S.length := by rw [← hn]; exact g.len
      obtain ⟨G2, R2, h1, h2, h3, h4, h5, _⟩ := F.rel.trunc F.low hle (all_look _ ha)
      refine ⟨G2, ⟨R2, fun k j => by rw [h3]; exact F.clean k j, F.low.take n⟩, ⟨⟨g.step.os, g.step.tape, g.step.output, g.step.size, g.step.keep, ?_, by rw [h1]; exact g.step.rd, by rw [h1]; exact g.step.rdn⟩, ?_, ?_⟩⟩
      · rintro b (⟨o, ho⟩ | ⟨l, f, hl⟩)
        · exact g.step.mine b (.inl ⟨o, h5 o b ho⟩)
        · exact g.step.mine b (.inr ⟨l, f, h4 l _ hl⟩)
      · simp only [List.length_take]; omega
      · intro o ho
        rw [h2 o (by omega), g.ob o ho]
theorem evL_ok {n : Nat} {body : Code} (okf : ∀ id c, bz id body = some c → CodeOk P C ν n body c) : ∀ k, LoopsOk P n body (evL (cq P) C ν body k) := by
  intro k
  induction k using Nat.strongRecOn with
  | _ k ih =>
    intro id c hf w G tmps ds σ ex σ' hn F he Q hQ
    -- the rounds that are left
    let I : Nat → Act → World → Prop := fun m a w1 => m ≤ k ∧ ∃ G1 σ1, a.defers = ds ∧ a.tmps.size = n ∧ Fine w1.heap G1 a.tmps σ1 ∧ Goes w G σ w1 G1 σ1 ∧ evL (cq P) C ν body m id σ1 = some (ex, σ')
    refine wp_block (wp_loop_ghost I k ⟨Nat.le_refl _, G, σ, rfl, hn, F, Goes.refl _ _ _, he⟩ ?_)
    rintro m ⟨tmps1, ds1⟩ w1 ⟨hmk, G1, σ1, hd1, hn1, F1, g1, he1⟩
    simp only at hd1 hn1 F1
    cases m with
    | zero => simp [evL] at he1
    | succ m =>
      simp only [evL, hf, evLoop] at he1
      have LO := ih m (by omega)
      cases hc : aH (cq P) C (evL (cq P) C ν body m) ν c σ1 with
      | none => rw [hc] at he1; simp [de] at he1
      | some p =>
        obtain ⟨e1, σ2⟩ := p
        rw [hc] at he1
        refine evCode_ok LO c w1 G1 tmps1 σ1 e1 σ2 (okf id c hf) hn1 F1 hc _ ?_
        intro e a' w' G' h1 h2 h3 F' g'
        have fin : ∀ (e2 : Exit), Goes w G σ w' G' σ2 → (ex, σ') = (.normal, σ2) → Exit.inBlock id Q .normal a' w' := by
          intro _ gg hx
          cases hx
          exact hQ _ a' w' G' rfl (h2.trans hd1) (by rw [h3, hn1, hn]) F' gg
        cases e1 with
        | normal =>
          cases h1
          simp only at he1
          cases htr : trunc σ1.S.length σ2 with
          | none => rw [htr] at he1; cases he1
          | some σ3 =>
            rw [htr] at he1
            obtain ⟨G2, F2, g2⟩ := trunc_ok F' g' rfl htr
            exact ⟨m, by omega, by omega, G2, σ3, h2.trans hd1, h3.trans hn1, F2, g1.trans g2, he1⟩
        | ret =>
          cases h1
          simp only [de, Option.some.injEq, Prod.mk.injEq] at he1
          obtain ⟨rfl, rfl⟩ := he1
          exact hQ _ a' w' G' rfl (h2.trans hd1) (by rw [h3, hn1, hn]) F' (g1.trans g')
        | exit id' =>
          cases h1
          simp only [de] at he1
          simp only [Exit.then, Exit.inBlock]
          by_cases hid : id' = id
          · subst hid
            simp only [beq_self_eq_true, cond_true, Option.some.injEq, Prod.mk.injEq] at he1
            obtain ⟨rfl, rfl⟩ := he1
            rw [if_pos rfl]
            exact hQ _ a' w' G' rfl (h2.trans hd1) (by rw [h3, hn1, hn]) F' (g1.trans g')
          · have hb : (id' == id) = false := by simpa using hid
            rw [hb, cond_false] at he1
            simp only [Option.some.injEq, Prod.mk.injEq] at he1
            obtain ⟨rfl, rfl⟩ := he1
            rw [if_neg hid]
            exact hQ _ a' w' G' rfl (h2.trans hd1) (by rw [h3, hn1, hn]) F' (g1.trans g')
end
end Go.Mx
namespace Go.Mx
open Go
section
variable {P : Program} {w : World} {G : Gh} {tmps : Array Value} {σ σ' : St} {ds : List Deferred} {C : ak} {ν : cC}
theorem look_enter : ∀ (args : List D) (j t : Nat), bF (enter j args) t = if j ≤ t then (match args[t - j]? with | some d => d | none => .bad) else .bad
  | [], j, t => by simp [enter, bF]
  | d :: r, j, t => by
    simp only [enter, bF]
    cases hj : (j == t) with
    | true =>
      have : j = t := by simpa using hj
      subst this
      simp
    | false =>
      have hne : ¬ j = t := by simpa using hj
      simp only [cond_false]
      rw [look_enter r (j + 1) t]
      by_cases hle : j ≤ t
      · rw [if_pos hle, if_pos (by omega)]
        rw [show t - j = (t - (j + 1)) + 1 by omega, List.getElem?_cons_succ]
      · rw [if_neg hle, if_neg (by omega)]
theorem enter_ok {h : Array Obj} {S : aA} {args : List D} {vals : List Value} {n : Nat} (R : Rel h G #[] ⟨[], S⟩) (A : Args h G args vals) (hn : args.length ≤ n) :
    ∃ G', Rel h G' (vals.toArray ++ Array.replicate (n - vals.toArray.size) undef) ⟨enter 0 args, S⟩ ∧ Clean G' ∧ G'.rd = G.rd ∧ G'.ob = G.ob ∧ (∀ l p, G'.ow l = some p → ∃ l0, G.ow l0 = some p) := by
  let ow : Loc → Option (Nat × Nat) := fun l => match l with
    | .reg t j => G.ow (.hand t j)
    | .hand _ _ => none
    | l => G.ow l
  let r : Loc → Loc := fun l => match l with
    | .reg t j => .hand t j
    | l => l
  have hr : ∀ l p, ow l = some p → G.ow (r l) = some p ∧ ∀ k j, l ≠ .hand k j := by
    intro l p hl
    cases l with
    | hand k j => cases hl
    | _ => exact ⟨hl, fun _ _ h => (by cases h)⟩
  have hinj : ∀ l l' b f f', ow l = some (b, f) → ow l' = some (b, f') → l = l' := by
    intro l l' b f f' h1 h2
    have e := R.inv.ow_inj _ _ b f f' (hr _ _ h1).1 (hr _ _ h2).1
    have g1 := (hr _ _ h1).2
    have g2 := (hr _ _ h2).2
    cases l with
    | hand k j => exact absurd rfl (g1 k j)
    | reg t j =>
      cases l' with
      | hand k j => exact absurd rfl (g2 k j)
      | reg t' j' => simp only [r] at e; cases e; rfl
      | _ => simp only [r] at e; cases e
    | _ =>
      cases l' with
      | hand k j => exact absurd rfl (g2 k j)
      | reg t' j' => simp only [r] at e; cases e
      | _ => exact e
  refine ⟨{ G with ow := ow }, ⟨R.inv.sub (fun l p hl => ⟨_, (hr l p hl).1⟩) hinj, ?_, ?_, R.obc, R.obn, ?_⟩, fun _ _ => rfl, rfl, rfl, fun l p hl => ⟨_, (hr l p hl).1⟩⟩
  · intro t
    rw [look_enter, if_pos (Nat.zero_le _), Nat.sub_zero]
    cases ht : args[t]? with
    | none => simp only [RD]
    | some d =>
      obtain ⟨v, h1, h2, h3⟩ := A.rd t d ht
      have htl : t < vals.length := (List.getElem?_eq_some_iff.1 h1).1
      have hv : (vals.toArray ++ Array.replicate (n - vals.toArray.size) undef).getD t undef = v := by
        rw [Array.getD_eq_getD_getElem?, Array.getElem?_append_left (by simpa using htl), List.getElem?_toArray, h1]; rfl
      rw [hv]
      exact RD.valMove (G := G) (G' := { G with ow := ow }) (h := h) ⟨cN.refl _, fun _ _ h => h⟩ h3 (fun j _ b f hb => ⟨hb, rfl⟩) h2
  · intro o cs hcs
    obtain ⟨b, c, e, fr, h1, h2, h3, h4⟩ := R.obj o cs hcs
    exact ⟨b, c, e, fr, h1, h2, h3, RDs.cellMove (G := G) (G' := { G with ow := ow }) (h := h) ⟨cN.refl _, fun _ _ h => h⟩ 0 0 cs _ (R.obc o cs hcs) (fun i d' _ _ b f hb => ⟨hb, rfl⟩) h4⟩
  · intro l p hh hl
    have h1 := (hr l p hl).1
    cases l with
    | hand k j => exact absurd rfl (hh k j)
    | reg t j =>
      obtain ⟨d, hd, ho⟩ := A.own t j p h1
      rw [cV]
      simp only
      rw [look_enter, if_pos (Nat.zero_le _), Nat.sub_zero, hd]; exact ho
    | cell o j => exact R.own _ p (fun _ _ h => by cases h) h1
    | nowhere => exact R.own _ p (fun _ _ h => by cases h) h1
def resLoc (σ : St) : ResultVar → Nat → Loc
  | .tmp t => match bF σ.env t with
    | .al true _ _ (.reg p 0) => Loc.reg p
    | _ => Loc.reg t
  | .cell a _ => match bF σ.env a with
    | .ptr o _ => Loc.cell o
    | _ => fun _ => .nowhere
theorem resOne_ok {n : Nat} {r : ResultVar} {d : D} (F : Fine w.heap G tmps σ) (hr : bq (cq P) n σ r = some d) :
    ∃ v, (match r with | .tmp t => (pure (tmps.getD t undef) : Go.Sem Value) | .cell a t => do loadVar t (← asAddr (tmps.getD a undef))).run P w = .ok v w ∧ RD w.heap G (resLoc σ r) d v ∧ (∀ j p, G.ow (resLoc σ r j) = some p → cT d j = true) ∧
      ((∃ t, resLoc σ r = Loc.reg t) ∨ ∃ o, n ≤ o ∧ resLoc σ r = Loc.cell o) := by
  cases r with
  | tmp t =>
    simp only [bq] at hr
    split at hr
    · rename_i sz l p hl
      cases hi : bB (bF σ.env p) with
      | false => rw [hi] at hr; cases hr
      | true =>
        rw [hi, cond_true, Option.some.injEq] at hr
        subst hr
        have hra := F.rel.env t
        rw [hl] at hra
        simp only [RD] at hra
        have hloc : resLoc σ (.tmp t) = Loc.reg p := by simp only [resLoc, hl]
        rw [hloc]
        refine ⟨_, rfl, by simp only [RD]; exact hra.1 trivial, ?_, .inl ⟨p, rfl⟩⟩
        intro j q hq
        have := F.rel.own _ q (fun _ _ h => by cases h) hq
        rw [cV] at this
        revert this hi
        cases bF σ.env p <;> intro hi this <;> simp_all [bB, cT]
    · rename_i hne
      have hloc : resLoc σ (.tmp t) = Loc.reg t := by
        simp only [resLoc]
      rw [hloc]
      refine ⟨_, rfl, (force_ok hr (F.rel.env t)).1, ?_, .inl ⟨t, rfl⟩⟩
      intro j p hp
      have := F.rel.own _ p (fun _ _ h => by cases h) hp
      rw [cV] at this
      rcases force_own hr with ⟨he, _⟩ | ⟨_, g, hg⟩
      · rw [← he]; exact this
      · rw [hg] at this; cases this
  | cell a t =>
    simp only [bq] at hr
    split at hr <;> try (cases hr; done)
    rename_i o hl
    split at hr <;> try (cases hr; done)
    rename_i cs hcs
    cases hc : (decide (n ≤ o) && cs.length == (cq P t).size && !(cq P t).flat.isEmpty) with
    | false => rw [hc] at hr; cases hr
    | true =>
      rw [hc, cond_true] at hr
      simp only [Bool.and_eq_true, decide_eq_true_eq, beq_iff_eq, Bool.not_eq_true'] at hc
      obtain ⟨⟨hno, hlen⟩, hfl⟩ := hc
      have hra := F.rel.env a
      rw [hl] at hra
      simp only [RD] at hra
      obtain ⟨b, hb, hva⟩ := hra
      obtain ⟨b0, c, e, fr, g1, g2, g3, g4⟩ := F.rel.obj o cs hcs
      have hbb : b0 = b := by rw [hb] at g1; cases g1; rfl
      subst hbb
      have hcl := RDs.length _ _ _ _ g4
      have hloc : resLoc σ (.cell a t) = Loc.cell o := by simp only [resLoc, hl]
      rw [hloc]
      have haddr : ∀ {α : Type} (k : Addr → Go.Sem α), (do k (← asAddr (tmps.getD a undef)) : Go.Sem α).run P w = (k ⟨b0, 0, none⟩).run P w := by
        intro α k
        rw [hva]
        simp [asAddr]
      cases hag : (cq P t).agg with
      | true =>
        rw [hag, cond_true, Option.some.injEq] at hr
        subst hr
        obtain ⟨i, dd, hi, hu, hrow, hisz, _⟩ := tyOf_agg hag
        have hrun := run_loadVar_mid (P := P) w b0 0 t c.toList dd (fun j v hv => by
          rw [cell_of rfl g2, Nat.zero_add]; simpa using hv) hu hrow (by rw [hi]; simp only [Option.map_some, hisz, hcl, hlen])
        refine ⟨.agg c, ?_, by simp only [RD]; exact ⟨c, rfl, g4⟩, ?_, .inr ⟨o, hno, rfl⟩⟩
        · simp only
          rw [haddr (loadVar t), hrun]
        · intro j p hp
          have := F.rel.own _ p (fun _ _ h => by cases h) hp
          simp only [cZ, hcs] at this
          simp only [cT]
          cases hj : cs[j]? with
          | none => rw [hj] at this; cases this
          | some d' => rw [hj] at this; exact this
      | false =>
        rw [hag, cond_false] at hr
        split at hr <;> try (cases hr; done)
        rename_i d0 k hflat
        cases hr
        obtain ⟨i, u, k1, k2, k3⟩ := tyOf_one hag hflat
        obtain ⟨v, hv, hrd⟩ := RDs.get _ 0 [d] c.toList 0 d g4 rfl
        rw [Nat.zero_add] at hrd
        have hv' : c[0]? = some v := by simpa using hv
        refine ⟨v, ?_, ?_, ?_, .inr ⟨o, hno, rfl⟩⟩
        · simp only
          rw [haddr (loadVar t)]
          simp [loadVar, isAgg_false w k2 k3, Sem.run_bind, load, Go.Sem.run, cell_of rfl g2, hv']
        · have hck : aL d = true := by simpa using F.rel.obc o [d] hcs
          cases d with
          | own sz l => simpa only [RD] using hrd
          | clo f xs => simpa only [RD] using hrd
          | _ => first | (exact RD.stay ⟨cN.refl _, fun _ _ h => h⟩ rfl hrd) | (simp [aL, bD] at hck)
        · intro j p hp
          have := F.rel.own _ p (fun _ _ h => by cases h) hp
          simp only [cZ, hcs] at this
          cases j with
          | zero =>
            have h0 : bB d = true := by simpa using this
            cases d <;> first | rfl | (cases h0)
          | succ j => simp at this
end
end Go.Mx
namespace Go.Mx
open Go
section
variable {P : Program} {w : World} {h : Array Obj} {G : Gh} {tmps : Array Value} {σ σ' : St} {ds : List Deferred} {C : ak} {ν : cC}
theorem outOk_ok {n : Nat} {d : D} (ho : bN n d = true) : bx d = true ∨ aB d = true := by
  cases d with
  | al _ _ _ _ => exact .inr rfl
  | ep _ _ _ _ => exact .inr rfl
  | agg cs =>
    left
    simp only [bN, bx] at *
    rw [List.all_eq_true] at *
    intro d hd
    have := ho d hd
    simp only [Bool.and_eq_true] at this
    exact this.1
  | _ => left; simp only [bN, Bool.and_eq_true] at ho; exact ho.1
theorem leave_one {n : Nat} (R : Rel h G tmps σ) (low : Low σ.S) (hn : n ≤ σ.S.length) {src : Nat → Loc} {d : D} {v : Value} (hr : RD h G src d v) (hown : ∀ j p, G.ow (src j) = some p → cT d j = true) (hsrc : (∃ t, src = Loc.reg t) ∨ ∃ o, n ≤ o ∧ src = Loc.cell o) (ho : bN n d = true) :
    ∃ G', Rel h G' #[] ⟨[], σ.S.take n⟩ ∧ Res h G' n d v ∧ G'.rd = G.rd ∧ (∀ o, o < n → G'.ob o = G.ob o) ∧ (∀ b, mine G' b → mine G b) := by
  have hinjs : ∀ j j', src j = src j' → j = j' := by
    intro j j' e
    rcases hsrc with ⟨t, rfl⟩ | ⟨o, _, rfl⟩ <;> cases e <;> rfl
  have hnot : ∀ j o i, src j = .cell o i → n ≤ o := by
    intro j o i e
    rcases hsrc with ⟨t, rfl⟩ | ⟨o', h1, rfl⟩
    · cases e
    · cases e; exact h1
  have hnoth : ∀ j k i, src j ≠ .hand k i := by
    intro j k i e
    rcases hsrc with ⟨t, rfl⟩ | ⟨o', h1, rfl⟩ <;> cases e
  let ob : Nat → Option Nat := fun o => if o < n then G.ob o else none
  let ow : Loc → Option (Nat × Nat) := fun l => match l with
    | .hand k j => if k = 0 then G.ow (src j) else none
    | .cell o j => if o < n then G.ow (.cell o j) else none
    | _ => none
  have q1 : ∀ j, ow (.hand 0 j) = G.ow (src j) := fun j => by simp [ow]
  have q2 : ∀ k j, k ≠ 0 → ow (.hand k j) = none := fun k j hk => by simp [ow, hk]
  have q3 : ∀ o j, o < n → ow (.cell o j) = G.ow (.cell o j) := fun o j hl => by simp [ow, hl]
  have hs : ∀ l p, ow l = some p → (∃ j, l = .hand 0 j ∧ G.ow (src j) = some p) ∨ (∃ o j, l = .cell o j ∧ o < n ∧ G.ow l = some p) := by
    intro l p hl
    cases l with
    | hand k j =>
      by_cases hk : k = 0
      · subst hk; rw [q1] at hl; exact .inl ⟨j, rfl, hl⟩
      · rw [q2 k j hk] at hl; cases hl
    | cell o j =>
      by_cases hl' : o < n
      · rw [q3 o j hl'] at hl; exact .inr ⟨o, j, rfl, hl', hl⟩
      · simp only [ow] at hl; rw [if_neg hl'] at hl; cases hl
    | _ => cases hl
  have hobs : ∀ o b, ob o = some b → G.ob o = some b ∧ o < n := by
    intro o b hb
    simp only [ob] at hb
    split at hb
    · rename_i h; exact ⟨hb, h⟩
    · cases hb
  have hobk : ∀ o, o < n → ob o = G.ob o := fun o ho => by simp [ob, ho]
  have src_of : ∀ l p, ow l = some p → ∃ l0, G.ow l0 = some p := by
    intro l p hl
    rcases hs l p hl with ⟨j, _, h1⟩ | ⟨o, j, _, _, h1⟩
    · exact ⟨_, h1⟩
    · exact ⟨_, h1⟩
  have I : Inv h { rd := G.rd, ob := ob, ow := ow } := {
    rd_ok := R.inv.rd_ok
    ob_lt := fun o b hb => R.inv.ob_lt o b (hobs o b hb).1
    ob_rd := fun o b hb => R.inv.ob_rd o b (hobs o b hb).1
    ob_inj := fun o o' b h1 h2 => R.inv.ob_inj o o' b (hobs o b h1).1 (hobs o' b h2).1
    ow_lt := fun l b f hl => let ⟨l0, h0⟩ := src_of l _ hl; R.inv.ow_lt l0 b f h0
    ow_rd := fun l b f hl => let ⟨l0, h0⟩ := src_of l _ hl; R.inv.ow_rd l0 b f h0
    ow_ob := fun l b f o hl ho => let ⟨l0, h0⟩ := src_of l _ hl; R.inv.ow_ob l0 b f o h0 (hobs o b ho).1
    ow_inj := fun l l' b f f' h1 h2 => by
      rcases hs l _ h1 with ⟨j, rfl, g1⟩ | ⟨o, j, rfl, g0, g1⟩ <;> rcases hs l' _ h2 with ⟨j', rfl, k1⟩ | ⟨o', j', rfl, k0, k1⟩
      · rw [hinjs j j' (R.inv.ow_inj _ _ b f f' g1 k1)]
      · have := hnot j o' j' (R.inv.ow_inj _ _ b f f' g1 k1); omega
      · have := hnot j' o j (R.inv.ow_inj _ _ b f f' g1 k1).symm; omega
      · exact R.inv.ow_inj _ _ b f f' g1 k1 }
  have B : Below0 n G { rd := G.rd, ob := ob, ow := ow } := ⟨cN.refl _, fun o b ho hb => (by show ob o = some b; rw [hobk o ho]; exact hb)⟩
  refine ⟨{ rd := G.rd, ob := ob, ow := ow }, ?_, ⟨?_, outOk_ok ho, ?_⟩, rfl, hobk, ?_⟩
  · refine Rel.bare I ?_ ?_ ?_ ?_
    · intro o cs hcs
      have hoo : o < n ∧ σ.S[o]? = some cs := by
        rw [List.getElem?_take] at hcs
        split at hcs
        · rename_i h; exact ⟨h, hcs⟩
        · cases hcs
      obtain ⟨b, c, e, fr, h1, h2, h3, h4⟩ := R.obj o cs hoo.2
      refine ⟨b, c, e, fr, by show ob o = some b; rw [hobk o hoo.1]; exact h1, h2, h3, ?_⟩
      exact RDs.lowC B cs _ 0 0 (low_mono (Nat.le_of_lt hoo.1) (low o cs hoo.2)) (fun i d _ _ p hp => (q3 o _ hoo.1).trans hp) h4
    · intro o cs hcs
      rw [List.getElem?_take] at hcs
      split at hcs
      · exact R.obc o cs hcs
      · cases hcs
    · intro o hoo
      show ob o = none
      simp only [List.length_take] at hoo
      simp only [ob]
      rw [if_neg (by omega)]
    · intro l p hh hl
      rcases hs l p hl with ⟨j, rfl, _⟩ | ⟨o, j, rfl, h0, h1⟩
      · exact absurd rfl (hh _ _)
      · have := R.own _ p hh h1
        unfold cZ at *
        simp only at *
        rw [List.getElem?_take, if_pos h0]; exact this
  · have one : ∀ d : D, Mx.lowC n d = true → RD h G src d v → RD h { rd := G.rd, ob := ob, ow := ow } (Loc.hand 0) d v := by
      intro d hd hr
      cases d with
      | own sz l =>
        have hr' : RD h G (fun _ => src 0) (.own sz l) v := by simpa only [RD] using hr
        have := RD.lowC (l := src 0) (l' := .hand 0 0) B (d := .own sz l) rfl (fun _ p hp => (q1 0).trans hp) hr'
        simpa only [RD] using this
      | clo f cs =>
        have hr' : RD h G (fun _ => src 0) (.clo f cs) v := by simpa only [RD] using hr
        have := RD.lowC (l := src 0) (l' := .hand 0 0) B (d := .clo f cs) hd (fun h => by cases h) hr'
        simpa only [RD] using this
      | ptr o off => exact RD.lowP B (by simpa [Mx.lowC, Mx.lowP] using hd) hr
      | v x => exact RD.lowP B rfl hr
      | cut sz l => exact RD.lowP B rfl hr
      | rp c => exact RD.lowP B rfl hr
      | undef => exact RD.lowP B rfl hr
      | bad => exact RD.lowP B rfl hr
      | nilp => exact RD.lowP B rfl hr
      | _ => simp [Mx.lowC, aL, bD] at hd
    cases d with
    | al f sz l s =>
      cases s with
      | cell so sf =>
        simp only [bN, decide_eq_true_eq] at ho
        simp only [RD] at *
        rw [show ow (.cell so sf) = G.ow (.cell so sf) from q3 so sf ho]; exact hr
      | _ => simp [bN] at ho
    | ep s sz i off =>
      cases s with
      | cell so sf =>
        simp only [bN, decide_eq_true_eq] at ho
        simp only [RD] at *
        rw [show ow (.cell so sf) = G.ow (.cell so sf) from q3 so sf ho]; exact hr
      | _ => simp [bN] at ho
    | agg cs =>
      simp only [bN] at ho
      have hl : cs.all (Mx.lowC n) = true := by
        rw [List.all_eq_true] at *
        intro d hd
        have := ho d hd
        simp only [Bool.and_eq_true] at this
        exact this.2
      simp only [RD] at *
      obtain ⟨vs, h1, h2⟩ := hr
      exact ⟨vs, h1, RDs.lowC B cs _ 0 0 hl (fun i d _ _ p hp => (q1 (0 + i)).trans hp) h2⟩
    | _ => simp only [bN, Bool.and_eq_true] at ho; exact one _ ho.2 hr
  · intro k j p hp
    rcases hs (.hand k j) p hp with ⟨j', e, h1⟩ | ⟨o, j', e, _⟩
    · cases e; exact ⟨rfl, hown j p h1⟩
    · cases e
  · rintro b (⟨o, hb⟩ | ⟨l, f, hl⟩)
    · exact .inl ⟨o, (hobs o b hb).1⟩
    · obtain ⟨l0, h0⟩ := src_of l _ hl; exact .inr ⟨l0, f, h0⟩
end
end Go.Mx
namespace Go.Mx
open Go
section
variable {P : Program} {w : World} {h : Array Obj} {G : Gh} {tmps : Array Value} {σ σ' : St} {ds : List Deferred} {C : ak} {ν : cC}
def dw (n : Nat) : Loc → Bool
  | .cell o _ => decide (o < n)
  | _ => false
open Classical in
noncomputable def frzRd (h : Array Obj) (G : Gh) (n : Nat) : Rd := fun b => if (∃ l f, dw n l = false ∧ G.ow l = some (b, f)) then (match h[b]? with | some (.cells c _ _) => some c | _ => none) else G.rd b
theorem leave_many {n : Nat} (R : Rel h G tmps σ) (low : Low σ.S) (hn : n ≤ σ.S.length) :
    ∃ G', Rel h G' #[] ⟨[], σ.S.take n⟩ ∧ Clean G' ∧ Below0 n G G' ∧ (∀ l b f c e fr, dw n l = false → G.ow l = some (b, f) → h[b]? = some (.cells c e fr) → G'.rd b = some c) ∧ (∀ o, o < n → G'.ob o = G.ob o) ∧ (∀ b, mine G' b → mine G b) ∧ (∀ b, G'.rd b ≠ none → G.rd b ≠ none ∨ mine G b) := by
  let ob : Nat → Option Nat := fun o => if o < n then G.ob o else none
  let ow : Loc → Option (Nat × Nat) := fun l => bif dw n l then G.ow l else none
  have hs : ∀ l p, ow l = some p → G.ow l = some p ∧ dw n l = true := by
    intro l p hl
    simp only [ow] at hl
    cases ho : dw n l with
    | true => rw [ho] at hl; exact ⟨hl, rfl⟩
    | false => rw [ho] at hl; cases hl
  have hk : ∀ l, dw n l = true → ow l = G.ow l := fun l hl => by simp [ow, hl]
  have hobs : ∀ o b, ob o = some b → G.ob o = some b ∧ o < n := by
    intro o b hb
    simp only [ob] at hb
    split at hb
    · rename_i h; exact ⟨hb, h⟩
    · cases hb
  have hobk : ∀ o, o < n → ob o = G.ob o := fun o ho => by simp [ob, ho]
  have r1 : ∀ b, (¬ ∃ l f, dw n l = false ∧ G.ow l = some (b, f)) → frzRd h G n b = G.rd b := fun b hb => by unfold frzRd; rw [if_neg hb]
  have r2 : ∀ l b f c e fr, dw n l = false → G.ow l = some (b, f) → h[b]? = some (.cells c e fr) → frzRd h G n b = some c := fun l b f c e fr h0 h1 h2 => by unfold frzRd; rw [if_pos ⟨l, f, h0, h1⟩, h2]
  have hle : cN G.rd (frzRd h G n) := by
    intro b c hc
    rw [r1]
    · exact hc
    · rintro ⟨l, f, _, hl⟩
      rw [R.inv.ow_rd l b f hl] at hc; cases hc
  have I : Inv h { rd := frzRd h G n, ob := ob, ow := ow } := {
    rd_ok := fun b c hc => by
      by_cases hb : ∃ l f, dw n l = false ∧ G.ow l = some (b, f)
      · have hc' : frzRd h G n b = some c := hc
        unfold frzRd at hc'
        rw [if_pos hb] at hc'
        split at hc'
        · rename_i c' e fr hcell; cases hc'; exact ⟨e, fr, hcell⟩
        · cases hc'
      · exact R.inv.rd_ok b c (by rw [← r1 b hb]; exact hc)
    ob_lt := fun o b hb => R.inv.ob_lt o b (hobs o b hb).1
    ob_rd := fun o b hb => by
      show frzRd h G n b = none
      rw [r1]
      · exact R.inv.ob_rd o b (hobs o b hb).1
      · rintro ⟨l, f, _, hl⟩
        exact R.inv.ow_ob l b f o hl (hobs o b hb).1
    ob_inj := fun o o' b h1 h2 => R.inv.ob_inj o o' b (hobs o b h1).1 (hobs o' b h2).1
    ow_lt := fun l b f hl => R.inv.ow_lt l b f (hs l _ hl).1
    ow_rd := fun l b f hl => by
      show frzRd h G n b = none
      obtain ⟨h1, h2⟩ := hs l _ hl
      rw [r1]
      · exact R.inv.ow_rd l b f h1
      · rintro ⟨l', f', h0, hl'⟩
        have := R.inv.ow_inj l l' b f f' h1 hl'
        rw [this, h0] at h2; cases h2
    ow_ob := fun l b f o hl ho => R.inv.ow_ob l b f o (hs l _ hl).1 (hobs o b ho).1
    ow_inj := fun l l' b f f' h1 h2 => R.inv.ow_inj l l' b f f' (hs l _ h1).1 (hs l' _ h2).1 }
  have B : Below0 n G { rd := frzRd h G n, ob := ob, ow := ow } := ⟨hle, fun o b ho hb => (by show ob o = some b; rw [hobk o ho]; exact hb)⟩
  refine ⟨{ rd := frzRd h G n, ob := ob, ow := ow }, ?_, fun k j => rfl, B, r2, hobk, ?_, ?_⟩
  · refine Rel.bare I ?_ ?_ ?_ ?_
    · intro o cs hcs
      have hoo : o < n ∧ σ.S[o]? = some cs := by
        rw [List.getElem?_take] at hcs
        split at hcs
        · rename_i h; exact ⟨h, hcs⟩
        · cases hcs
      obtain ⟨b, c, e, fr, h1, h2, h3, h4⟩ := R.obj o cs hoo.2
      refine ⟨b, c, e, fr, by show ob o = some b; rw [hobk o hoo.1]; exact h1, h2, h3, ?_⟩
      exact RDs.lowC B cs _ 0 0 (low_mono (Nat.le_of_lt hoo.1) (low o cs hoo.2)) (fun i d _ _ p hp => (hk (.cell o (0 + i)) (by simpa [dw] using hoo.1)).trans hp) h4
    · intro o cs hcs
      rw [List.getElem?_take] at hcs
      split at hcs
      · exact R.obc o cs hcs
      · cases hcs
    · intro o hoo
      show ob o = none
      simp only [List.length_take] at hoo
      simp only [ob]
      rw [if_neg (by omega)]
    · intro l p hh hl
      obtain ⟨h1, h2⟩ := hs l p hl
      have := R.own l p hh h1
      cases l with
      | cell o j =>
        have h0 : o < n := by simpa [dw] using h2
        unfold cZ at *
        simp only at *
        rw [List.getElem?_take, if_pos h0]; exact this
      | _ => cases h2
  · rintro b (⟨o, hb⟩ | ⟨l, f, hl⟩)
    · exact .inl ⟨o, (hobs o b hb).1⟩
    · exact .inr ⟨l, f, (hs l _ hl).1⟩
  · intro b hb
    have hb' : frzRd h G n b ≠ none := hb
    by_cases hx : ∃ l f, dw n l = false ∧ G.ow l = some (b, f)
    · obtain ⟨l, f, _, hl⟩ := hx; exact .inr (.inr ⟨l, f, hl⟩)
    · rw [r1 b hx] at hb'; exact .inl hb'
theorem RD.out {n : Nat} {G' : Gh} {src : Nat → Loc} {d : D} {v : Value} (B : Below0 n G G') (hfz : ∀ l b f c e fr, dw n l = false → G.ow l = some (b, f) → h[b]? = some (.cells c e fr) → G'.rd b = some c) (hsrc : (∃ t, src = Loc.reg t) ∨ ∃ o, n ≤ o ∧ src = Loc.cell o)
    (ho : bl n (frz d) = true) (hr : RD h G src d v) : ∀ loc, RD h G' loc (frz d) v := by
  have hold : ∀ j, dw n (src j) = false := by
    intro j
    rcases hsrc with ⟨t, rfl⟩ | ⟨o, h1, rfl⟩
    · rfl
    · simp [dw]; omega
  have cell : ∀ (j : Nat) (d : D) (v : Value) (loc : Loc), Mx.lowC n (bZ d) = true → RD h G (fun _ => src j) d v → RD h G' (fun _ => loc) (bZ d) v := by
    intro j d v loc hl hd
    cases d with
    | own sz l =>
      have := RD.toV (G := G) (loc := fun _ => src j) (d := .own sz l) (x := .sl sz l) B.rd (fun b f _ hb c e fr hcell => hfz _ b f c e fr (hold j) hb hcell) hd rfl
      simpa only [bZ, RD] using this
    | _ => exact RD.lowC (l := src j) (l' := loc) B hl (fun h => by cases h) hd
  have cells : ∀ (ds : List D) (vs : List Value) (j j' : Nat) (loc : Nat → Loc), (ds.map bZ).all (Mx.lowC n) = true → RDs h G src j ds vs → RDs h G' loc j' (ds.map bZ) vs := by
    intro ds
    induction ds with
    | nil => intro vs j j' loc _ hd; cases vs with
      | nil => simp only [List.map_nil, RDs]
      | cons _ _ => simp only [RDs] at hd
    | cons d r ih => intro vs j j' loc hok hd; cases vs with
      | nil => simp only [RDs] at hd
      | cons v vs =>
        simp only [List.map_cons, List.all_cons, Bool.and_eq_true] at hok
        simp only [List.map_cons, RDs] at *
        exact ⟨cell j d v _ hok.1 hd.1, ih vs _ _ loc hok.2 hd.2⟩
  intro loc
  cases d with
  | agg cs =>
    simp only [frz, bl] at ho
    simp only [RD, frz] at *
    obtain ⟨vs, g1, g2⟩ := hr
    refine ⟨vs, g1, cells cs _ 0 0 loc ?_ g2⟩
    rw [List.all_eq_true] at *
    intro d hd
    have := ho d hd
    simp only [Bool.and_eq_true] at this
    exact this.2
  | own sz l =>
    have := cell 0 (.own sz l) v (loc 0) rfl (by simpa only [RD] using hr)
    simpa only [frz, bZ, RD] using this
  | clo f cs =>
    simp only [frz, bZ, bl, Bool.and_eq_true] at ho
    have := cell 0 (.clo f cs) v (loc 0) ho.2 (by simpa only [RD] using hr)
    simpa only [frz, bZ, RD] using this
  | v x => exact RD.lowP B rfl hr
  | ptr q off =>
    simp only [frz, bZ, bl, Bool.and_eq_true] at ho
    have : RD h G' loc (.ptr q off) v := RD.lowP (d := .ptr q off) B (by simpa [Mx.lowC, Mx.lowP] using ho.2) hr
    exact this
  | cut sz l => exact RD.lowP B rfl hr
  | rp c => exact RD.lowP B rfl hr
  | undef => exact RD.lowP B rfl hr
  | bad => exact RD.lowP B rfl hr
  | nilp => exact RD.lowP B rfl hr
  | _ => simp [frz, bZ, bl, aL, bD] at ho
end
end Go.Mx
namespace Go.Mx
open Go
section
variable {P : Program} {w : World} {G : Gh} {tmps : Array Value} {σ σ' : St} {C : ak} {ν : cC}
def resGet (tmps : Array Value) : ResultVar → Go.Sem Value
  | .tmp t => pure (tmps.getD t undef)
  | .cell a t => do loadVar t (← asAddr (tmps.getD a undef))
def joinRes : List Value → Value
  | [v] => v
  | vl => .tuple vl.toArray
theorem resAll_ok {n : Nat} (F : Fine w.heap G tmps σ) : ∀ (rs : List ResultVar) (dsl : List D), bn (cq P) n σ rs = some dsl →
    ∃ vl : List Value, (rs.mapM (resGet tmps)).run P w = .ok vl w ∧ vl.length = dsl.length ∧ ∀ (i : Nat) (d : D), dsl[i]? = some d → ∃ v src, vl[i]? = some v ∧ RD w.heap G src d v ∧ (∀ j p, G.ow (src j) = some p → cT d j = true) ∧ ((∃ t, src = Loc.reg t) ∨ ∃ o, n ≤ o ∧ src = Loc.cell o)
  | [], dsl, hr => by
    simp only [bn, Option.some.injEq] at hr
    subst hr
    exact ⟨[], by simp, rfl, fun i d hd => by simp at hd⟩
  | r :: rs, dsl, hr => by
    simp only [bn] at hr
    cases h1 : bq (cq P) n σ r with
    | none => rw [h1] at hr; cases hr
    | some d =>
      rw [h1] at hr
      simp only at hr
      cases h2 : bn (cq P) n σ rs with
      | none => rw [h2] at hr; cases hr
      | some dr =>
        rw [h2] at hr
        simp only [Option.some.injEq] at hr
        subst hr
        obtain ⟨v, e1, e2, e3, e4⟩ := resOne_ok F h1
        obtain ⟨vl, f1, f2, f3⟩ := resAll_ok F rs dr h2
        have e1' : (resGet tmps r).run P w = .ok v w := by
          cases r <;> exact e1
        refine ⟨v :: vl, ?_, by simp [f2], fun i d' hd => ?_⟩
        · rw [List.mapM_cons]
          simp [e1', f1]
        · cases i with
          | zero => simp at hd; subst hd; exact ⟨v, _, rfl, e2, e3, e4⟩
          | succ i => simpa using f3 i d' (by simpa using hd)
theorem results_run {fn : Func} {vl : List Value} (h : (fn.results.toList.mapM (resGet tmps)).run P w = .ok vl w) : (results fn tmps).run P w = .ok (joinRes vl) w := by
  have hg : (fun (x : ResultVar) => match x with | .tmp t => (pure (tmps.getD t undef) : Go.Sem Value) | .cell a t => do loadVar t (← asAddr (tmps.getD a undef))) = resGet tmps := by
    funext x; cases x <;> rfl
  have h2 : (fn.results.mapM (resGet tmps)).run P w = .ok vl.toArray w := by
    rw [Array.mapM_eq_mapM_toList]
    simp [h]
  have e : results fn tmps = (do
      let vs ← fn.results.mapM (resGet tmps)
      pure (if h : vs.size = 1 then vs[0] else .tuple vs)) := by
    unfold results
    refine congrArg (fun m : Go.Sem (Array Value) => m >>= fun vs => (pure (if h : vs.size = 1 then vs[0] else .tuple vs) : Go.Sem Value)) (congrArg (fun g => fn.results.mapM g) (funext fun x => ?_))
    cases x <;> rfl
  rw [e, Sem.run_bind, h2, Result.andThen_ok]
  match vl with
  | [] => rfl
  | [v] => rfl
  | _ :: _ :: _ => rfl
theorem fn_from {f : FuncId} {fn : Func} {body : Code} {args : List D} {S S' : aA} {d : D} (hf : P.funcs[f]? = some fn) (hb : fn.body = some body) (hname : (fn.name == "runtime.NumGoroutine") = false)
    (hargs : args.length ≤ fn.ntmps)
    (run : ∀ (w : World) (G0 : Gh) (tmps : Array Value), tmps.size = fn.ntmps → Fine w.heap G0 tmps ⟨enter 0 args, S⟩ → ∀ Q : Exit → Act → World → Prop, (∀ ex e σ a' w' G', ExOk ex e → (ex = .normal ∨ ex = .ret) → az (cq P) S.length fn.results.toList σ = some (d, S') → a'.defers = [] → a'.tmps.size = tmps.size → Fine w'.heap G' a'.tmps σ → Goes w G0 ⟨enter 0 args, S⟩ w' G' σ → Q e a' w') → body.wp P Q ⟨tmps, []⟩ w) : Mx.Sem P f args S d S' := by
  intro w G vals R L A
  unfold Enters
  have hcf : (callFunc f vals.toArray).run P w = .ok (.enter f vals.toArray) w := by
    have h1 : fn.name ≠ "runtime.NumGoroutine" := by simpa using hname
    simp [callFunc, hf, h1, hb]
  rw [hcf]
  simp only
  obtain ⟨G0, R0, cl0, rd0, ob0, sub0⟩ := enter_ok R A hargs
  have F0 : Fine w.heap G0 (vals.toArray ++ Array.replicate (fn.ntmps - vals.toArray.size) undef) ⟨enter 0 args, S⟩ := ⟨R0, cl0, L⟩
  have hm0 : ∀ b, mine G0 b → mine G b := by
    rintro b (⟨o, ho⟩ | ⟨l, f, hl⟩)
    · exact .inl ⟨o, by rw [← ob0]; exact ho⟩
    · obtain ⟨l0, h0⟩ := sub0 l _ hl; exact .inr ⟨l0, f, h0⟩
  refine calls_of_wp hf hb ?_
  have hsz : (vals.toArray ++ Array.replicate (fn.ntmps - vals.toArray.size) undef).size = fn.ntmps := by
    have := A.len
    simp; omega
  refine run w G0 _ hsz F0 _ ?_
  intro ex e σ a' w' G' h1 hex he h2 h3 F' g'
  have key : az (cq P) S.length fn.results.toList σ = some (d, S') →
      a'.defers = [] ∧ ∃ v, (results fn a'.tmps).run P w' = .ok v w' ∧ ∃ v', Ending.returned v = Ending.returned v' ∧ ∃ G', Rel w'.heap G' #[] ⟨[], S'⟩ ∧ Low S' ∧ Goes w G ⟨[], S⟩ w' G' ⟨[], S'⟩ ∧ S'.length = S.length ∧ Res w'.heap G' S.length d v' := by
    intro he
    unfold az at he
    refine ⟨h2, ?_⟩
    cases hr : bn (cq P) S.length σ fn.results.toList with
    | none => rw [hr] at he; cases he
    | some dsl =>
      rw [hr] at he
      simp only at he
      cases hod : co S.length dsl with
      | none => rw [hod] at he; cases he
      | some d0 =>
        rw [hod] at he
        simp only [Option.some.injEq, Prod.mk.injEq] at he
        obtain ⟨rfl, rfl⟩ := he
        obtain ⟨vl, f1, f2, f3⟩ := resAll_ok F' fn.results.toList dsl hr
        refine ⟨_, results_run f1, _, rfl, ?_⟩
        have hlen : S.length ≤ σ.S.length := g'.len
        have hl' : (σ.S.take S.length).length = S.length := by simp; omega
        -- the way from the caller's world to the state behind
        have way : ∀ Gf : Gh, Below0 S.length G' Gf → (∀ o, o < S.length → Gf.ob o = G'.ob o) → (∀ b, mine Gf b → mine G' b) → (∀ b, Gf.rd b ≠ none → G'.rd b ≠ none ∨ mine G' b) → Goes w G ⟨[], S⟩ w' Gf ⟨[], σ.S.take S.length⟩ := by
          intro Gf B hob hmi hrdn
          have st := g'.step
          refine ⟨⟨st.os, st.tape, st.output, st.size, fun b hb hm => st.keep b hb (fun hx => hm (hm0 b hx)), fun b hm => (st.mine b (hmi b hm)).imp (hm0 b) id, ?_, ?_⟩, by rw [hl']; exact Nat.le_refl _, ?_⟩
          · intro b c hc
            exact B.rd b c (st.rd b c (by rw [rd0]; exact hc))
          · intro b hb
            rcases hrdn b hb with h1 | h1
            · rcases st.rdn b h1 with h2 | h2 | h2
              · left; rw [← rd0]; exact h2
              · exact .inr (.inl (hm0 b h2))
              · exact .inr (.inr h2)
            · rcases st.mine b h1 with h2 | h2
              · exact .inr (.inl (hm0 b h2))
              · exact .inr (.inr h2)
          · intro o ho
            have ho' : o < S.length := ho
            rw [hob o ho', g'.ob o ho', ob0]
        have one : ∀ d1 : D, dsl = [d1] → bN S.length d1 = true → d0 = d1 → ∃ Gf, Rel w'.heap Gf #[] ⟨[], σ.S.take S.length⟩ ∧ Low (σ.S.take S.length) ∧ Goes w G ⟨[], S⟩ w' Gf ⟨[], σ.S.take S.length⟩ ∧ (σ.S.take S.length).length = S.length ∧ Res w'.heap Gf S.length d0 (joinRes vl) := by
          intro d1 hds hok hd
          subst hds
          subst hd
          obtain ⟨v, src, e1, e2, e3, e4⟩ := f3 0 d0 rfl
          have hvl : vl = [v] := by
            match vl, f2, e1 with
            | [x], _, e1 => simp at e1; rw [e1]
          obtain ⟨Gf, Rf, res, k1, k2, k3⟩ := leave_one F'.rel F'.low hlen e2 e3 e4 hok
          refine ⟨Gf, Rf, F'.low.take _, way Gf ⟨by rw [k1]; exact cN.refl _, fun o b ho hb => by rw [k2 o ho]; exact hb⟩ k2 k3 (fun b hb => .inl (by rw [← k1]; exact hb)), hl', ?_⟩
          rw [hvl]; exact res
        have many : dsl.all (fun d => bl S.length (frz d)) = true → d0 = .tup (dsl.map frz) → (∀ d1, dsl ≠ [d1]) → ∃ Gf, Rel w'.heap Gf #[] ⟨[], σ.S.take S.length⟩ ∧ Low (σ.S.take S.length) ∧ Goes w G ⟨[], S⟩ w' Gf ⟨[], σ.S.take S.length⟩ ∧ (σ.S.take S.length).length = S.length ∧ Res w'.heap Gf S.length d0 (joinRes vl) := by
          intro hall hd hne
          obtain ⟨Gf, Rf, clf, B, hfz, k2, k3, k4⟩ := leave_many F'.rel F'.low hlen
          refine ⟨Gf, Rf, F'.low.take _, way Gf B k2 k3 k4, hl', ?_⟩
          have hvl : joinRes vl = .tuple vl.toArray := by
            match vl, f2 with
            | [], _ => rfl
            | [x], f2 =>
              exfalso
              match dsl, f2, hne with
              | [d1], _, hne => exact hne d1 rfl
            | _ :: _ :: _, _ => rfl
          rw [hvl, hd]
          refine ⟨?_, .inr rfl, fun k j p hp => by rw [clf k j] at hp; cases hp⟩
          simp only [RD]
          refine ⟨vl.toArray, rfl, RDs.of_get _ _ _ _ (by simp [f2]) ?_⟩
          intro i d hdd
          rw [List.getElem?_map] at hdd
          cases hj : dsl[i]? with
          | none => rw [hj] at hdd; cases hdd
          | some d1 =>
            rw [hj] at hdd
            cases hdd
            obtain ⟨v, src, e1, e2, e3, e4⟩ := f3 i d1 hj
            exact ⟨v, by simpa using e1, RD.out B hfz e4 (List.all_eq_true.1 hall d1 (List.mem_of_getElem? hj)) e2 _⟩
        unfold co at hod
        split at hod
        · rename_i d1
          cases hok : bN S.length d1 with
          | false => rw [hok] at hod; cases hod
          | true =>
            rw [hok, cond_true, Option.some.injEq] at hod
            exact one d1 rfl hok hod.symm
        · rename_i hne
          cases hok : dsl.all (fun d => bl S.length (frz d)) with
          | false => rw [hok] at hod; cases hod
          | true =>
            rw [hok, cond_true, Option.some.injEq] at hod
            exact many hok hod.symm (fun d1 h => hne d1 h)
  rcases hex with rfl | rfl
  · cases h1
    exact key he
  · cases h1
    exact key he
theorem fn_ok {f : FuncId} {fn : Func} {body : Code} {args : List D} {S S' : aA} {d : D} {k : Nat} (hf : P.funcs[f]? = some fn) (hb : fn.body = some body) (hname : (fn.name == "runtime.NumGoroutine") = false)
    (okb : CodeOk P C ν fn.ntmps body body) (okf : ∀ id c, bz id body = some c → CodeOk P C ν fn.ntmps body c) (hargs : args.length ≤ fn.ntmps)
    (he : cF (cq P) C (evL (cq P) C ν body k) ν fn.results.toList body args S = some (d, S')) : Mx.Sem P f args S d S' := by
  refine fn_from hf hb hname hargs ?_
  intro w G0 tmps hsz F0 Q hQ
  unfold cF at he
  cases hc : aH (cq P) C (evL (cq P) C ν body k) ν body ⟨enter 0 args, S⟩ with
  | none => rw [hc] at he; cases he
  | some p =>
    obtain ⟨e, σ⟩ := p
    rw [hc] at he
    refine evCode_ok (evL_ok okf k) body w G0 tmps ⟨enter 0 args, S⟩ e σ okb hsz F0 hc Q ?_
    intro ex a' w' G' h1 h2 h3 F' g'
    cases e with
    | exit id => cases he
    | normal => exact hQ _ _ σ a' w' G' h1 (.inl rfl) he h2 h3 F' g'
    | ret => exact hQ _ _ σ a' w' G' h1 (.inr rfl) he h2 h3 F' g'
end
end Go.Mx
namespace Go.Mx
open Go
section
variable (T : Nat → Ty) (C : ak) (L : Loops) (ν : cC)
def andThen (r : Option (Ex × St)) (k : St → Option (Ex × St)) : Option (Ex × St) := match r with
  | some (.normal, σ) => k σ
  | some (.exit i, σ) => some (.exit i, σ)
  | some (.ret, σ) => some (.ret, σ)
  | none => none
def after (keep : List Nat) (r : Option St) : Option (Ex × St) := match r with
  | some σ => some (.normal, ⟨prune keep σ.env, σ.S⟩)
  | none => none
theorem after_some (keep : List Nat) (e : Env) (S : aA) : after keep (some ⟨e, S⟩) = some (.normal, ⟨prune keep e, S⟩) := rfl
def branch (d : D) (a b : Option (Ex × St)) : Option (Ex × St) := match d with
  | .v (.b x) => bif x then a else b
  | _ => none
theorem evCode_skip (σ : St) : aH T C L ν .skip σ = some (.normal, σ) := rfl
theorem evCode_region (id : Nat) (ops : Array Oper) (draw : Bool) (σ : St) : aH T C L ν (.region id ops draw) σ = after (ν.keep id) (evRegion T C ν id ops.toList draw σ) := by
  simp only [aH, after]
  cases evRegion T C ν id ops.toList draw σ <;> rfl
theorem evCode_seq (a b : Code) (σ : St) : aH T C L ν (.seq a b) σ = andThen (aH T C L ν a σ) (aH T C L ν b) := by
  simp only [aH, andThen]
  rcases aH T C L ν a σ with _ | ⟨_ | _ | _, _⟩ <;> rfl
theorem evCode_cond (t : Nat) (a b : Code) (σ : St) : aH T C L ν (.cond (.tmp t) a b) σ = branch (bF σ.env t) (aH T C L ν a (aw ν t true σ)) (aH T C L ν b (aw ν t false σ)) := by
  simp only [aH, branch]
  rcases bF σ.env t with ⟨_ | _ | _ | _⟩ | _ | _ | _ | _ | _ | _ | _ | _ | _ | _ | _ | _ | _ <;> rfl
theorem evCode_loop (id : Nat) (c : Code) (σ : St) : aH T C L ν (.block id (.loop c)) σ = L id σ := rfl
noncomputable def branchC (d : D) (t : Nat) (a b : Code) (σ : St) : Option (Ex × St) := match d with
  | .v (.b true) => aH T C L ν a (aw ν t true σ)
  | .v (.b false) => aH T C L ν b (aw ν t false σ)
  | _ => none
theorem evCode_condC (t : Nat) (a b : Code) (σ : St) : aH T C L ν (.cond (.tmp t) a b) σ = branchC T C L ν (bF σ.env t) t a b σ := by
  simp only [aH]
  rcases bF σ.env t with ⟨(_ | _) | _ | _ | _⟩ | _ | _ | _ | _ | _ | _ | _ | _ | _ | _ | _ | _ | _ <;> rfl
theorem stepOp_m (ops : List Oper) (o : Oper) (σ : St) : cQ T C ν ops o σ = match aW ops σ.env o.guard with
  | none => none
  | some g => match aZ T ν o with
    | true => bif g then (match be T σ.env o with
        | true => aM T C ν.ro ν.mv ν.give σ o.dst o.type o.op
        | false => none) else some { σ with env := putDst σ.env o.dst .undef }
    | false => match au C σ g o with
      | true => none
      | false => match gx g o.guard.isNone (aK T C σ g o.op) with
        | some d => some { σ with env := putDst σ.env o.dst (offReg σ.env o.dst d) }
        | none => bif g && ao o then aM T C ν.ro ν.mv ν.give σ o.dst o.type o.op else none := by
  unfold cQ
  cases aW ops σ.env o.guard with
  | none => rfl
  | some g =>
    simp only
    cases aZ T ν o with
    | true => cases g <;> cases be T σ.env o <;> rfl
    | false => cases au C σ g o <;> rfl
theorem evRegion_t (id : Nat) (ops : List Oper) (σ : St) : evRegion T C ν id ops true σ = match (ν.free id).isEmpty with
  | true => evOps T C ν ops ops σ
  | false => match evOpsK T C ν ops ops σ with
    | some (σ', ks) => match ks.all bh with
      | true => some σ'
      | false => match bj ks (ν.free id) with
        | true => some σ'
        | false => none
    | none => none := by
  unfold evRegion
  cases (ν.free id).isEmpty with
  | true => rfl
  | false =>
    simp only [Bool.not_false, Bool.true_and, cond_true]
    cases evOpsK T C ν ops ops σ with
    | none => rfl
    | some p =>
      obtain ⟨σ', ks⟩ := p
      simp only
      cases ks.all bh with
      | true => rfl
      | false => cases bj ks (ν.free id) <;> rfl
theorem kindOp_m (ops : List Oper) (o : Oper) (σ : St) : cO T C ν ops o σ = match aW ops σ.env o.guard with
  | none => .wild
  | some g => match aZ T ν o with
    | true => bif g then bJ T σ o.op else .work none σ.S.length
    | false => match gx g o.guard.isNone (aK T C σ g o.op) with
      | some d => match aJ σ.env o.dst with
        | true => .wild
        | false => .still (o.op.operands.toList.all (aX σ.env)) (aO d) (aI T σ g o.op) (bm d) (bX d)
      | none => bif g && bH σ.env o.op then .eff else .wild := by
  unfold cO
  cases aW ops σ.env o.guard with
  | none => rfl
  | some g =>
    simp only
    cases aZ T ν o with
    | true => rfl
    | false =>
      simp only [cond_false]
      cases gx g o.guard.isNone (aK T C σ g o.op) with
      | none => rfl
      | some d => simp only; cases aJ σ.env o.dst <;> rfl
theorem evCode_exit (id : Nat) (σ : St) : aH T C L ν (.exit id) σ = some (.exit id, σ) := rfl
theorem evCode_ret (σ : St) : aH T C L ν .ret σ = some (.ret, σ) := rfl
theorem ah (id : Nat) (a b : Code) (σ : St) : aH T C L ν (.block id (.seq a b)) σ = de id (aH T C L ν (.seq a b) σ) := rfl
theorem ac (id i : Nat) (ops draw) (σ : St) : aH T C L ν (.block id (.region i ops draw)) σ = de id (aH T C L ν (.region i ops draw) σ) := rfl
theorem unblock_normal (id : Nat) (σ : St) : de id (some (.normal, σ)) = some (.normal, σ) := rfl
theorem unblock_ret (id : Nat) (σ : St) : de id (some (.ret, σ)) = some (.ret, σ) := rfl
theorem unblock_exit (id i : Nat) (σ : St) : de id (some (.exit i, σ)) = bif i == id then some (.normal, σ) else some (.exit i, σ) := rfl
def cp (n : Nat) (res : List ResultVar) (r : Option (Ex × St)) : Option (D × aA) := match r with
  | some (.normal, σ) => az T n res σ
  | some (.ret, σ) => az T n res σ
  | _ => none
theorem ba (res : List ResultVar) (body : Code) (args : List D) (S : aA) : cF T C L ν res body args S = cp T S.length res (aH T C L ν body ⟨enter 0 args, S⟩) := by
  simp only [cF, cp]
  rcases aH T C L ν body ⟨enter 0 args, S⟩ with _ | ⟨_ | _ | _, _⟩ <;> rfl
theorem finish_ret (n : Nat) (res) (σ : St) : cp T n res (some (.ret, σ)) = az T n res σ := rfl
theorem finish_normal (n : Nat) (res) (σ : St) : cp T n res (some (.normal, σ)) = az T n res σ := rfl
def cD (n id : Nat) (L : Loops) (r : Option (Ex × St)) : Option (Ex × St) := match r with
  | some (.normal, σ) => match trunc n σ with
    | some σ' => L id σ'
    | none => none
  | r => de id r
theorem evLoop_again (id : Nat) (c : Code) (σ : St) : evLoop T C L ν id c σ = cD σ.S.length id L (aH T C L ν c σ) := by
  unfold evLoop cD
  rcases aH T C L ν c σ with _ | ⟨_ | _ | _, _⟩ <;> rfl
def againN (id : Nat) (L : Loops) (r : Option St) : Option (Ex × St) := match r with
  | some σ => L id σ
  | none => none
theorem again_norm (n id : Nat) (σ : St) : cD n id L (some (.normal, σ)) = againN id L (trunc n σ) := by
  simp only [cD, againN]
theorem againN_some (id : Nat) (σ : St) : againN id L (some σ) = L id σ := rfl
theorem trunc_m (n : Nat) (σ : St) : trunc n σ = match (σ.S.length == n) with
  | true => some σ
  | false => match σ.env.all (fun e => lowA n e.2) with
    | true => some { σ with S := σ.S.take n }
    | false => none := by
  unfold trunc
  cases (σ.S.length == n) with
  | true => rfl
  | false => cases σ.env.all (fun e => lowA n e.2) <;> rfl
theorem again_ret (n id : Nat) (σ : St) : cD n id L (some (.ret, σ)) = some (.ret, σ) := rfl
theorem again_exit (n id i : Nat) (σ : St) : cD n id L (some (.exit i, σ)) = bif i == id then some (.normal, σ) else some (.exit i, σ) := rfl
theorem evL_step {C : ak} {body c : Code} {id : Nat} (h : bz id body = some c) (n : Nat) (σ : St) : evL T C ν body (n + 1) id σ = cD σ.S.length id (evL T C ν body n) (aH T C (evL T C ν body n) ν c σ) := by
  rw [evL, h]
  exact evLoop_again T C _ ν id c σ
end
theorem cond_nest_t {α : Type} (c : Bool) (a b d : α) : (bif c then (bif c then a else b) else d) = bif c then a else d := by cases c <;> rfl
theorem cond_nest_f {α : Type} (c : Bool) (a b d : α) : (bif c then a else (bif c then b else d)) = bif c then a else d := by cases c <;> rfl
theorem cond_same {α : Type} (c : Bool) (a : α) : (bif c then a else a) = a := by cases c <;> rfl
theorem setReg_m (env : Env) (t : Nat) (d : D) : setReg env t d = put (match aO (bF env t) with | true => kill (bG t) env | false => env) t d := by
  unfold setReg; cases aO (bF env t) <;> rfl
theorem spend_m (env : Env) (x : Operand) : spend env x = match x with
  | .tmp u => (match aO (bF env u) with | true => put (kill (bG u) env) u .bad | false => env)
  | _ => env := by
  unfold spend
  cases x with
  | tmp u => simp only; cases aO (bF env u) <;> rfl
  | _ => rfl
theorem frzReg_m (env : Env) (x : Operand) : frzReg env x = match x with
  | .tmp u => (match aO (bF env u) with | true => put (kill (bG u) env) u (frz (bF env u)) | false => env)
  | _ => env := by
  unfold frzReg
  cases x with
  | tmp u => simp only; cases aO (bF env u) <;> rfl
  | _ => rfl
theorem offReg_m (env : Env) (dst : Option Nat) (d : D) : offReg env dst d = match dst with
  | some t => (match aO (bF env t) with | true => killB (bG t) d | false => d)
  | none => d := by
  unfold offReg
  cases dst with
  | some t => simp only; cases aO (bF env t) <;> rfl
  | none => rfl
theorem gx_t (p : Bool) (r : Option D) : gx true p r = r := by cases p <;> rfl
theorem gx_f (r : Option D) : gx false false r = some .undef := rfl
theorem callFails_f (C : ak) (σ : St) (o : Oper) : au C σ false o = false := by
  unfold au
  split
  · split
    · rfl
    · rfl
  · rfl
theorem stepOp_w (T : Nat → Ty) (C : ak) (ν : cC) (ops : List Oper) (o : Oper) (σ : St) : cQ T C ν ops o σ = match aW ops σ.env o.guard with
  | none => none
  | some false => some { σ with env := putDst σ.env o.dst .undef }
  | some true => match aZ T ν o with
    | true => match be T σ.env o with
      | true => aM T C ν.ro ν.mv ν.give σ o.dst o.type o.op
      | false => none
    | false => match au C σ true o with
      | true => none
      | false => match aK T C σ true o.op with
        | some d => some { σ with env := putDst σ.env o.dst (offReg σ.env o.dst d) }
        | none => match ao o with
          | true => aM T C ν.ro ν.mv ν.give σ o.dst o.type o.op
          | false => none := by
  rw [stepOp_m]
  cases hg : aW ops σ.env o.guard with
  | none => rfl
  | some g =>
    cases g with
    | true =>
      simp only [gx_t, Bool.true_and, cond_true]
      cases aZ T ν o with
      | true => cases be T σ.env o <;> rfl
      | false =>
        simp only
        cases au C σ true o with
        | true => rfl
        | false =>
          simp only
          cases aK T C σ true o.op with
          | some d => rfl
          | none => cases ao o <;> rfl
    | false =>
      have hn : o.guard.isNone = false := by
        cases h : o.guard with
        | none => rw [h] at hg; simp [aW] at hg
        | some _ => rfl
      simp only [callFails_f, hn, gx_f, cond_false]
      cases aZ T ν o with
      | true => rfl
      | false =>
        have he : offReg σ.env o.dst .undef = .undef := by
          unfold offReg
          cases o.dst with
          | none => rfl
          | some t => simp only; cases aO (bF σ.env t) <;> rfl
        simp only [he]
theorem kindOp_w (T : Nat → Ty) (C : ak) (ν : cC) (ops : List Oper) (o : Oper) (σ : St) : cO T C ν ops o σ = match aW ops σ.env o.guard with
  | none => .wild
  | some false => match aZ T ν o with
    | true => .work none σ.S.length
    | false => match aJ σ.env o.dst with
      | true => .wild
      | false => .still (o.op.operands.toList.all (aX σ.env)) false (aI T σ false o.op) true true
  | some true => match aZ T ν o with
    | true => bJ T σ o.op
    | false => match aK T C σ true o.op with
      | some d => match aJ σ.env o.dst with
        | true => .wild
        | false => .still (o.op.operands.toList.all (aX σ.env)) (aO d) (aI T σ true o.op) (bm d) (bX d)
      | none => bif bH σ.env o.op then .eff else .wild := by
  rw [kindOp_m]
  cases hg : aW ops σ.env o.guard with
  | none => rfl
  | some g =>
    cases g with
    | true =>
      simp only [gx_t, cond_true, Bool.true_and]
    | false =>
      have hn : o.guard.isNone = false := by
        cases h : o.guard with
        | none => rw [h] at hg; simp [aW] at hg
        | some _ => rfl
      simp only [hn, gx_f, cond_false]
      rfl
noncomputable def aQ (f : Func) : Code := f.body.getD .skip
end Go.Mx
namespace Go.Mx
open Go
def dq : Code → List Nat
  | .block i (.loop c) => i :: dq c
  | .block _ c => dq c
  | .loop c => dq c
  | .seq a b => dq a ++ dq b
  | .cond _ a b => dq a ++ dq b
  | _ => []
def cW (id : Nat) (c : Code) : Code → Prop
  | .block i (.loop c') => (id = i ∧ c = c') ∨ cW id c c'
  | .block _ c' => cW id c c'
  | .loop c' => cW id c c'
  | .seq a b => cW id c a ∨ cW id c b
  | .cond _ a b => cW id c a ∨ cW id c b
  | _ => False
theorem cW.mem {id : Nat} {c : Code} : ∀ {c0 : Code}, cW id c c0 → id ∈ dq c0 := by
  intro c0
  fun_induction dq c0 <;> intro h <;> simp only [cW] at h <;> first | contradiction | skip
  · rename_i i c' ih
    rcases h with ⟨rfl, _⟩ | h
    · exact List.mem_cons_self
    · exact List.mem_cons_of_mem _ (ih h)
  · rename_i i c' hne ih
    exact ih h
  · rename_i ih; exact ih h
  · rename_i iha ihb
    rcases h with h | h
    · exact List.mem_append_left _ (iha h)
    · exact List.mem_append_right _ (ihb h)
  · rename_i iha ihb
    rcases h with h | h
    · exact List.mem_append_left _ (iha h)
    · exact List.mem_append_right _ (ihb h)
theorem findLoop_none {id : Nat} : ∀ {c0 : Code}, id ∉ dq c0 → bz id c0 = none := by
  intro c0
  fun_induction dq c0 <;> intro h <;> simp only [bz]
  · rename_i i c' ih
    simp only [List.mem_cons, not_or] at h
    have : (i == id) = false := by simpa using fun e => h.1 e.symm
    rw [this, cond_false]; exact ih h.2
  · rename_i ih; exact ih h
  · rename_i ih; exact ih h
  · rename_i iha ihb
    simp only [List.mem_append, not_or] at h
    rw [iha h.1]; exact ihb h.2
  · rename_i iha ihb
    simp only [List.mem_append, not_or] at h
    rw [iha h.1]; exact ihb h.2
theorem cW.find {id : Nat} {c : Code} : ∀ {c0 : Code}, cW id c c0 → (dq c0).Nodup → bz id c0 = some c := by
  intro c0
  fun_induction dq c0 <;> intro h hn <;> simp only [cW] at h <;> first | contradiction | skip
  · rename_i i c' ih
    simp only [List.nodup_cons] at hn
    simp only [bz]
    rcases h with ⟨rfl, rfl⟩ | h
    · simp
    · have : (i == id) = false := by rw [beq_eq_false_iff_ne]; intro e; subst e; exact hn.1 h.mem
      rw [this, cond_false]; exact ih h hn.2
  · rename_i i c' hne ih
    simp only [bz]; exact ih h hn
  · rename_i ih; simp only [bz]; exact ih h hn
  · rename_i iha ihb
    rw [List.nodup_append] at hn
    simp only [bz]
    rcases h with h | h
    · rw [iha h hn.1]
    · rw [findLoop_none (fun hm => hn.2.2 _ hm _ h.mem rfl)]; exact ihb h hn.2.1
  · rename_i iha ihb
    rw [List.nodup_append] at hn
    simp only [bz]
    rcases h with h | h
    · rw [iha h hn.1]
    · rw [findLoop_none (fun hm => hn.2.2 _ hm _ h.mem rfl)]; exact ihb h hn.2.1
def drawn : Code → List (Nat × Array Oper)
  | .region id ops true => [(id, ops)]
  | .block _ c => drawn c
  | .loop c => drawn c
  | .seq a b => drawn a ++ drawn b
  | .cond _ a b => drawn a ++ drawn b
  | _ => []
def cX (n : Nat) : Code → Bool
  | .region _ ops _ => ops.toList.all fun o => match o.dst with | some t => decide (t < n) | none => true
  | .block _ c => cX n c
  | .loop c => cX n c
  | .seq a b => cX n a && cX n b
  | .cond _ a b => cX n a && cX n b
  | _ => true
def nodupB : List Nat → Bool
  | [] => true
  | a :: r => !(r.contains a) && nodupB r
theorem nodupB_ok : ∀ {l : List Nat}, nodupB l = true → l.Nodup := by
  intro l
  induction l with
  | nil => intro _; exact List.nodup_nil
  | cons a r ih =>
    intro h
    simp only [nodupB, Bool.and_eq_true, Bool.not_eq_true', List.contains_eq_mem, decide_eq_false_iff_not] at h
    exact List.nodup_cons.2 ⟨h.1, ih h.2⟩
section
variable {P : Program} {C : ak} {ν : cC} {n : Nat} {body : Code}
theorem codeOk_of (SC : cE P C) (hb : (dq body).Nodup) : ∀ (c : Code), (∀ id c', cW id c' c → cW id c' body) → cX n c = true → (∀ p ∈ drawn c, RegionOk P C ν n p.1 p.2 true) → CodeOk P C ν n body c := by
  intro c
  fun_induction dq c <;> intro ho hs hd
  · rename_i i c' ih
    simp only [CodeOk]
    refine ⟨(ho _ _ ?_).find hb, ih (fun id c'' h => ho _ _ ?_) (by simpa only [cX] using hs) (by simpa only [drawn] using hd)⟩
    · simp [cW]
    · simp only [cW]; exact .inr h
  · rename_i i c' hne ih
    have : CodeOk P C ν n body (.block i c') = CodeOk P C ν n body c' := by
      cases c' with
      | loop c'' => exact absurd rfl (hne c'')
      | _ => rfl
    rw [this]
    refine ih (fun id c'' h => ho _ _ ?_) (by simpa only [cX] using hs) (by simpa only [drawn] using hd)
    have : cW id c'' (.block i c') = cW id c'' c' := by
      cases c' with
      | loop c3 => exact absurd rfl (hne c3)
      | _ => rfl
    rw [this]; exact h
  · trivial
  · rename_i a b iha ihb
    simp only [cX, Bool.and_eq_true] at hs
    simp only [drawn, List.mem_append] at hd
    exact ⟨iha (fun id c' h => ho _ _ (by simp only [cW]; exact .inl h)) hs.1 (fun p h => hd p (.inl h)), ihb (fun id c' h => ho _ _ (by simp only [cW]; exact .inr h)) hs.2 (fun p h => hd p (.inr h))⟩
  · rename_i x a b iha ihb
    simp only [cX, Bool.and_eq_true] at hs
    simp only [drawn, List.mem_append] at hd
    exact ⟨iha (fun id c' h => ho _ _ (by simp only [cW]; exact .inl h)) hs.1 (fun p h => hd p (.inl h)), ihb (fun id c' h => ho _ _ (by simp only [cW]; exact .inr h)) hs.2 (fun p h => hd p (.inr h))⟩
  · rename_i c h1 h2 h3 h4 h5
    cases c with
    | region id ops draw =>
      cases draw with
      | false =>
        refine regionOk_text SC ?_
        intro o ho t ht
        simp only [cX, List.all_eq_true] at hs
        have := hs o ho
        rw [ht] at this
        simpa using this
      | true => exact hd (id, ops) (by simp only [drawn, List.mem_singleton])
    | block i c => exact absurd rfl (h2 i c)
    | loop c => exact absurd rfl (h3 c)
    | seq a b => exact absurd rfl (h4 a b)
    | cond x a b => exact absurd rfl (h5 x a b)
    | _ => trivial
theorem find_sub {n : Nat} {id : Nat} {c : Code} : ∀ {c0 : Code}, bz id c0 = some c → (∀ i c', cW i c' c → cW i c' c0) ∧ (cX n c0 = true → cX n c = true) ∧ (∀ p ∈ drawn c, p ∈ drawn c0) := by
  intro c0
  fun_induction bz id c0 <;> intro hf
  · rename_i i c' hi
    simp only [Option.some.injEq] at hf
    subst hf
    refine ⟨fun j c'' h => by simp only [cW]; exact .inr h, fun h => by simpa only [cX] using h, fun p h => by simpa only [drawn] using h⟩
  · rename_i i c' hi ih
    obtain ⟨h1, h2, h3⟩ := ih hf
    exact ⟨fun j c'' h => by simp only [cW]; exact .inr (h1 _ _ h), fun h => h2 (by simpa only [cX] using h), fun p h => by simpa only [drawn] using h3 p h⟩
  · rename_i i c' hne ih
    obtain ⟨h1, h2, h3⟩ := ih hf
    refine ⟨fun j c'' h => ?_, fun h => h2 (by simpa only [cX] using h), fun p h => by simpa only [drawn] using h3 p h⟩
    have : cW j c'' (.block i c') = cW j c'' c' := by
      cases c' with
      | loop c3 => exact absurd rfl (hne c3)
      | _ => rfl
    rw [this]; exact h1 _ _ h
  · rename_i c' ih
    obtain ⟨h1, h2, h3⟩ := ih hf
    exact ⟨fun j c'' h => by simp only [cW]; exact h1 _ _ h, fun h => h2 (by simpa only [cX] using h), fun p h => by simpa only [drawn] using h3 p h⟩
  · rename_i a b c1 heq ih
    rw [← hf] at ih
    obtain ⟨h1, h2, h3⟩ := ih heq
    exact ⟨fun j c'' h => by simp only [cW]; exact .inl (h1 _ _ h), fun h => h2 (by simp only [cX, Bool.and_eq_true] at h; exact h.1), fun p h => by simp only [drawn, List.mem_append]; exact .inl (h3 p h)⟩
  · rename_i a b heq ih1 ih2
    obtain ⟨h1, h2, h3⟩ := ih2 hf
    exact ⟨fun j c'' h => by simp only [cW]; exact .inr (h1 _ _ h), fun h => h2 (by simp only [cX, Bool.and_eq_true] at h; exact h.2), fun p h => by simp only [drawn, List.mem_append]; exact .inr (h3 p h)⟩
  · rename_i x a b c1 heq ih
    rw [← hf] at ih
    obtain ⟨h1, h2, h3⟩ := ih heq
    exact ⟨fun j c'' h => by simp only [cW]; exact .inl (h1 _ _ h), fun h => h2 (by simp only [cX, Bool.and_eq_true] at h; exact h.1), fun p h => by simp only [drawn, List.mem_append]; exact .inl (h3 p h)⟩
  · rename_i x a b heq ih1 ih2
    obtain ⟨h1, h2, h3⟩ := ih2 hf
    exact ⟨fun j c'' h => by simp only [cW]; exact .inr (h1 _ _ h), fun h => h2 (by simp only [cX, Bool.and_eq_true] at h; exact h.2), fun p h => by simp only [drawn, List.mem_append]; exact .inr (h3 p h)⟩
  · cases hf
end
theorem drawn_dsts {n : Nat} : ∀ (c : Code), cX n c = true → ∀ p ∈ drawn c, ∀ o ∈ p.2.toList, ∀ t, o.dst = some t → t < n := by
  intro c
  fun_induction drawn c <;> intro h p hp
  · rename_i id ops
    simp only [List.mem_singleton] at hp
    subst hp
    intro o ho t ht
    simp only [cX, List.all_eq_true] at h
    have := h o ho
    rw [ht] at this
    simpa using this
  · rename_i ih; exact ih (by simpa only [cX] using h) p hp
  · rename_i ih; exact ih (by simpa only [cX] using h) p hp
  · rename_i iha ihb
    simp only [cX, Bool.and_eq_true] at h
    rcases List.mem_append.1 hp with hp | hp
    · exact iha h.1 p hp
    · exact ihb h.2 p hp
  · rename_i iha ihb
    simp only [cX, Bool.and_eq_true] at h
    rcases List.mem_append.1 hp with hp | hp
    · exact iha h.1 p hp
    · exact ihb h.2 p hp
  · cases hp
def fnOk (fn : Func) : Bool := fn.body.isSome && !(fn.name == "runtime.NumGoroutine") && nodupB (dq (fn.body.getD .skip)) && cX fn.ntmps (fn.body.getD .skip)
theorem sem_fn {P : Program} {C : ak} {ν : cC} {f : FuncId} {fn : Func} {args : List D} {S S' : aA} {d : D} {k : Nat} (SC : cE P C) (hf : P.funcs[f]? = some fn) (ok : fnOk fn = true) (hm : P.follows .mixedOrders = true) (hd' : (drawn (aQ fn)).all (fun p => drawOk p.2 (ν.free p.1)) = true) (hargs : args.length ≤ fn.ntmps)
    (he : cF (cq P) C (evL (cq P) C ν (aQ fn) k) ν fn.results.toList (aQ fn) args S = some (d, S')) : Mx.Sem P f args S d S' := by
  simp only [fnOk, Bool.and_eq_true, Bool.not_eq_true'] at ok
  obtain ⟨⟨⟨h1, h2⟩, h3⟩, h4⟩ := ok
  cases hb : fn.body with
  | none => rw [hb] at h1; cases h1
  | some body =>
    have e : aQ fn = body := by simp [aQ, hb]
    rw [e] at he hd'
    rw [hb] at h3 h4
    simp only [Option.getD_some] at h3 h4
    have hnd := nodupB_ok h3
    have hd : ∀ p ∈ drawn body, RegionOk P C ν fn.ntmps p.1 p.2 true := fun p hp => regionOk_draw SC hm (drawn_dsts _ h4 p hp) (List.all_eq_true.1 hd' p hp)
    have okb : CodeOk P C ν fn.ntmps body body := codeOk_of SC hnd body (fun _ _ h => h) h4 hd
    refine fn_ok hf hb h2 okb (fun id c hc => ?_) hargs he
    obtain ⟨s1, s2, s3⟩ := find_sub (n := fn.ntmps) hc
    exact codeOk_of SC hnd c s1 (s2 h4) (fun p hp => hd p (s3 p hp))
open Classical in
noncomputable def ak.add (C : ak) (f : Nat) {X : Type} (A : X → Prop) (arg : X → List D × aA) (res : X → D × aA) : ak := fun f' a S =>
  if f' = f then (if h : ∃ x, A x ∧ arg x = (a, S) then some (res h.choose) else none) else C f' a S
def noC : ak := fun _ _ _ => none
theorem noC_sound (P : Program) : cE P noC := fun _ _ _ _ _ h => by cases h
end Go.Mx
namespace Go.Mx
open Go
section
variable (P : Program)
def hasFs (rec : TypeId → List V → Prop) : List Field → List V → Prop
  | [], r => r = []
  | f :: fs, r => ∃ a b, r = a ++ b ∧ rec f.type a ∧ hasFs rec fs b
def Has : Nat → TypeId → List V → Prop
  | 0, _, _ => False
  | k + 1, t, r => match P.underlying t with
    | some .bool => ∃ x, r = [.b x]
    | some (.int q) => ∃ n, r = [.i q n] ∧ q.min ≤ n ∧ n ≤ q.max
    | some .string => ∃ s : ByteArray, r = [.s s] ∧ s.size ≤ reachBytes
    | some (.slice e) => ∃ l, r = [.sl (P.cellsOf e) l] ∧ l.length * P.bytesOf e ≤ reachBytes ∧ ∀ x ∈ l, Has k e x
    | some (.struct fs) => hasFs (Has k) fs.toList r
    | _ => False
def tile (rec : TypeId → Bool) : List Field → Nat → Nat → Bool
  | [], off, n => off == n
  | f :: fs, off, n => f.offset == off && rec f.type && tile rec fs (off + P.cellsOf f.type) n
def plainT : Nat → TypeId → Bool
  | 0, _ => false
  | k + 1, t => match P.underlying t with
    | some .bool | some (.int _) | some .string => P.cellsOf t == 1
    | some (.slice e) => plainT k e && P.cellsOf e != 0 && P.cellsOf t == 1
    | some (.struct fs) => tile P (plainT k) fs.toList 0 (P.cellsOf t)
    | _ => false
def rdOf (w : World) : Rd := fun b => match w.heap[b]? with
  | some (.cells c _ _) => some c
  | _ => none
theorem RVc.move {rd : Rd} : ∀ (r : List V) (c c' : Array Value) (i off : Nat), (∀ j v, c[j]? = some v → c'[off + j]? = some v) → RVc rd r c i → RVc rd r c' (off + i)
  | [], _, _, _, _, _, _ => by simp only [RVc]
  | x :: r, c, c', i, off, h, hr => by
    simp only [RVc] at *
    obtain ⟨⟨v, h1, h2⟩, h3⟩ := hr
    exact ⟨⟨v, h _ _ h1, h2⟩, RVc.move r c c' (i + 1) off h h3⟩
theorem RVc.append {rd : Rd} : ∀ (a b : List V) (c : Array Value) (off : Nat), RVc rd a c off → RVc rd b c (off + a.length) → RVc rd (a ++ b) c off
  | [], b, c, off, _, h => by simpa using h
  | x :: a, b, c, off, h, k => by
    simp only [RVc, List.cons_append, List.length_cons] at *
    exact ⟨h.1, RVc.append a b c (off + 1) h.2 (by rwa [Nat.add_assoc, Nat.add_comm 1])⟩
theorem mapM_range {α : Type} {f : Nat → Option α} {n : Nat} {l : List α} (h : (List.range n).mapM f = some l) : l.length = n ∧ ∀ i, i < n → ∃ x, f i = some x ∧ l[i]? = some x := by
  have gen : ∀ (ks : List Nat) (l : List α), ks.mapM f = some l → l.length = ks.length ∧ ∀ (i k : Nat), ks[i]? = some k → ∃ x, f k = some x ∧ l[i]? = some x := by
    intro ks
    induction ks with
    | nil => intro l h; simp at h; subst h; exact ⟨rfl, fun i k hk => by simp at hk⟩
    | cons k ks ih =>
      intro l h
      simp only [List.mapM_cons] at h
      cases hk : f k with
      | none => simp [hk] at h
      | some x =>
        cases hm : ks.mapM f with
        | none => simp [hk, hm] at h
        | some r =>
          simp only [hk, hm, bind, Option.bind, pure, Option.some.injEq] at h
          subst h
          obtain ⟨h1, h2⟩ := ih r hm
          refine ⟨by simp [h1], fun i k' hi => ?_⟩
          cases i with
          | zero => simp only [List.getElem?_cons_zero, Option.some.injEq] at hi; subst hi; exact ⟨x, hk, rfl⟩
          | succ i => simp only [List.getElem?_cons_succ] at hi ⊢; exact h2 i k' hi
  obtain ⟨h1, h2⟩ := gen _ _ h
  refine ⟨by simpa using h1, fun i hi => h2 i i (by simp [hi])⟩
theorem cells_get {w : World} {a : Addr} {n : Nat} {cs : List Value} (h : w.cells? 0 a n = some cs) : cs.length = n ∧ ∀ i, i < n → w.cell? (a.add i) = cs[i]? := by
  simp only [World.cells?, Nat.zero_le, if_true] at h
  obtain ⟨h1, h2⟩ := mapM_range h
  refine ⟨h1, fun i hi => ?_⟩
  obtain ⟨x, hx, hl⟩ := h2 i hi
  rw [hx, hl]
theorem cell_get {w : World} {a : Addr} {v : Value} (h : w.cell? a = some v) : a.spot = none ∧ ∃ c e fr, w.heap[a.block]? = some (.cells c e fr) ∧ c[a.off]? = some v := by
  unfold World.cell? at h
  split at h
  · rename_i c e fr hb
    split at h
    · cases h
    · rename_i hs
      refine ⟨by cases h2 : a.spot with | none => rfl | some _ => simp [h2] at hs, c, e, fr, hb, h⟩
  · cases h
end
section
variable {P : Program} {H : Type} {enc : TypeId × Value → H} {w : World}
theorem tile_le {rec : TypeId → Bool} {n : Nat} : ∀ (fs : List Field) (o : Nat), tile P rec fs o n = true → o ≤ n := by
  intro fs
  induction fs with
  | nil => intro o h; simp only [tile, beq_iff_eq] at h; omega
  | cons g gs ih => intro o h; simp only [tile, Bool.and_eq_true, beq_iff_eq] at h; have := ih _ h.2; omega
theorem tile_ok {rec : TypeId → Bool} {R : TypeId → List V → Prop} {rd : Rd} {c : Array Value} {n : Nat} :
    ∀ (fs : List Field) (off : Nat), tile P rec fs off n = true → (∀ (j : Nat) (f : Field), fs[j]? = some f → rec f.type = true → f.offset + P.cellsOf f.type ≤ n → ∃ r, RVc rd r c f.offset ∧ R f.type r ∧ r.length = P.cellsOf f.type) →
      ∃ r, RVc rd r c off ∧ hasFs R fs r ∧ r.length = n - off
  | [], off, ht, h => by
    simp only [tile, beq_iff_eq] at ht
    exact ⟨[], by simp only [RVc], rfl, by simp [ht]⟩
  | f :: fs, off, ht, h => by
    simp only [tile, Bool.and_eq_true, beq_iff_eq] at ht
    obtain ⟨⟨h1, h2⟩, h3⟩ := ht
    have hlen := tile_le _ _ h3
    obtain ⟨a, ha1, ha2, ha3⟩ := h 0 f rfl h2 (by omega)
    obtain ⟨b, hb1, hb2, hb3⟩ := tile_ok fs (off + P.cellsOf f.type) h3 (fun j g hg => h (j + 1) g (by simpa using hg))
    rw [h1] at ha1
    exact ⟨a ++ b, RVc.append a b _ _ ha1 (by rw [ha3]; exact hb1), ⟨a, b, rfl, ha2, hb2⟩, by rw [List.length_append, ha3, hb3]; omega⟩
theorem weightsAll_mem {e : TypeId} : ∀ {l : List (DataW H)} {i : Nat} {d : DataW H}, l[i]? = some d → ∀ n ∈ d.weights P e, n ∈ DataW.weightsAll P e l
  | [], i, d, h => by simp at h
  | x :: l, i, d, h => by
    intro n hn
    rw [DataW.weightsAll, List.mem_append]
    cases i with
    | zero => simp only [List.getElem?_cons_zero, Option.some.injEq] at h; subst h; exact .inl hn
    | succ i => simp only [List.getElem?_cons_succ] at h; exact .inr (weightsAll_mem h n hn)
theorem weightsEach_mem : ∀ {ts : List TypeId} {ds : List (DataW H)} {j : Nat} {t : TypeId} {d : DataW H}, ts[j]? = some t → ds[j]? = some d → ∀ n ∈ d.weights P t, n ∈ DataW.weightsEach P ts ds := DataW.weights_mem_each
theorem rows_ok {sz : Nat} {c : Array Value} {off : Nat} {R : List V → Prop} : ∀ (len : Nat), (∀ i, i < len → ∃ r, RVc (rdOf w) r c (off + i * sz) ∧ R r ∧ r.length = sz) → ∃ l : List (List V), l.length = len ∧ RVr (rdOf w) sz l c off ∧ ∀ x ∈ l, R x := by
  intro len h
  have gen : ∀ k, k ≤ len → ∃ l : List (List V), l.length = k ∧ RVr (rdOf w) sz l c (off + (len - k) * sz) ∧ ∀ x ∈ l, R x := by
    intro k
    induction k with
    | zero => intro _; exact ⟨[], rfl, by simp only [RVr], fun x hx => by cases hx⟩
    | succ k ih =>
      intro hk
      obtain ⟨l, h1, h2, h3⟩ := ih (by omega)
      obtain ⟨r, r1, r2, r3⟩ := h (len - (k + 1)) (by omega)
      refine ⟨r :: l, by simp [h1], ?_, fun x hx => ?_⟩
      · simp only [RVr]
        refine ⟨r3, r1, ?_⟩
        have : off + (len - (k + 1)) * sz + sz = off + (len - k) * sz := by
          have e : len - k = (len - (k + 1)) + 1 := by omega
          rw [e, Nat.add_mul, Nat.one_mul]; omega
        rw [this]; exact h2
      · rcases List.mem_cons.1 hx with rfl | hx
        · exact r2
        · exact h3 x hx
  obtain ⟨l, h1, h2, h3⟩ := gen len (Nat.le_refl _)
  exact ⟨l, h1, by simpa using h2, h3⟩
theorem trod_V : ∀ (k fuel : Nat) (t : TypeId) (cs : List Value) (d : DataW H) (ps : List MemPlace), plainT P k t = true → DataW.trod enc P w 0 (fun _ => true) true fuel t cs = some (d, ps) → (∀ n ∈ d.weights P t, n ≤ reachBytes) →
    ∃ r, RVc (rdOf w) r cs.toArray 0 ∧ Has P k t r ∧ r.length = P.cellsOf t := by
  intro k
  induction k with
  | zero => intro fuel t cs d ps hp; cases hp
  | succ k ih =>
    intro fuel t cs d ps hp ht hw
    unfold plainT at hp
    simp only [Has]
    cases hu : P.underlying t with
    | none => rw [hu] at hp; cases hp
    | some desc =>
      rw [hu] at hp
      cases desc with
      | bool =>
        simp only [beq_iff_eq] at hp ⊢
        obtain ⟨b, rfl, _⟩ := DataW.trod_bool hu ht
        exact ⟨[.b b], by simp [RVc, RV], ⟨b, rfl⟩, by simp [hp]⟩
      | int q =>
        simp only [beq_iff_eq] at hp ⊢
        obtain ⟨n, rfl, _, hn⟩ := DataW.trod_int hu ht
        simp only [Lit.wf, Bool.and_eq_true, decide_eq_true_eq] at hn
        exact ⟨[.i q n], by simp [RVc, RV], ⟨n, rfl, hn⟩, by simp [hp]⟩
      | string =>
        simp only [beq_iff_eq] at hp ⊢
        obtain ⟨s, rfl, hd, hs⟩ := DataW.trod_string hu ht
        refine ⟨[.s s], by simp [RVc, RV], ⟨s, rfl, ?_⟩, by simp [hp]⟩
        simp only [Prod.mk.injEq] at hd
        have := hw s.data.toList.length (by rw [hd.1]; simp [DataW.weights])
        simpa using this
      | slice e =>
        simp only [Bool.and_eq_true, bne_iff_ne, ne_eq, beq_iff_eq] at hp ⊢
        obtain ⟨hp, hsz⟩ := hp
        rcases DataW.trod_slice hu ht with ⟨rfl, _⟩ | ⟨a, len, cap, elems, rest, m, _, rfl, hd, _, hlc, _, hel, hge, _⟩
        · refine ⟨[.sl (P.cellsOf e) []], ?_, ⟨[], rfl, by simp, fun x hx => by cases hx⟩, by simp [hsz]⟩
          simp [RVc, RV]
        · simp only [Prod.mk.injEq] at hd
          have hwt : ∀ n ∈ DataW.weights P t (.slice (elems.map (·.1)) (rest.map (·.1))), n ≤ reachBytes := by rw [← hd.1]; exact hw
          rw [DataW.weights, hu] at hwt
          simp only [List.mem_cons, List.mem_append, List.length_map] at hwt
          have hlen : len * P.bytesOf e ≤ reachBytes := by
            have := hwt _ (.inl rfl)
            rw [hel] at this
            exact Nat.le_trans (Nat.mul_le_mul_right _ (Nat.le_add_right _ _)) this
          cases len with
          | zero =>
            refine ⟨[.sl (P.cellsOf e) []], ?_, ⟨[], rfl, by simp, fun x hx => by cases hx⟩, by simp [hsz]⟩
            simp [RVc, RV]
          | succ len =>
            have hpos : 0 < P.cellsOf e := Nat.pos_of_ne_zero hp.2
            -- the block
            have h0 := hge 0 (by omega)
            obtain ⟨x0, hx0⟩ : ∃ x, elems[0]? = some x := ⟨elems[0]'(by omega), by simp [List.getElem?_eq_getElem]⟩
            rw [hx0] at h0
            simp only [Option.bind_eq_some_iff] at h0
            obtain ⟨cs0, hc0, ht0⟩ := h0
            obtain ⟨hl0, hg0⟩ := cells_get hc0
            have hg00 := hg0 0 hpos
            rw [List.getElem?_eq_getElem (by omega)] at hg00
            obtain ⟨hsp, c, ety, fr, hb, hc⟩ := cell_get hg00
            simp only [Nat.zero_mul, Addr.add, if_true] at hsp hb hc
            obtain ⟨b, off, sp⟩ := a
            simp only at hsp hb hc
            subst hsp
            have hcell : ∀ i j, i < len + 1 → j < P.cellsOf e → ((⟨b, off, none⟩ : Addr).add (i * P.cellsOf e)).add j = ⟨b, off + i * P.cellsOf e + j, none⟩ := by
              intro i j _ _
              simp only [Addr.add]
              by_cases h1 : i * P.cellsOf e = 0 <;> by_cases h2 : j = 0 <;> simp [h1, h2]
            obtain ⟨l, l1, l2, l3⟩ := rows_ok (w := w) (sz := P.cellsOf e) (c := c) (off := off) (R := Has P k e) (len + 1) (by
              intro i hi
              have h1 := hge i hi
              obtain ⟨xi, hxi⟩ : ∃ x, elems[i]? = some x := ⟨elems[i]'(by omega), by simp [List.getElem?_eq_getElem]⟩
              rw [hxi] at h1
              simp only [Option.bind_eq_some_iff] at h1
              obtain ⟨csi, hci, hti⟩ := h1
              obtain ⟨hli, hgi⟩ := cells_get hci
              obtain ⟨r, r1, r2, r3⟩ := ih m e csi xi.1 xi.2 hp.1 hti (fun n hn => hwt n (.inr (.inl (weightsAll_mem (i := i) (by simp [hxi]) n hn))))
              refine ⟨r, ?_, r2, r3⟩
              have := RVc.move (rd := rdOf w) r csi.toArray c 0 (off + i * P.cellsOf e) (by
                intro j v hv
                simp only [List.getElem?_toArray] at hv
                have hj : j < P.cellsOf e := by
                  rw [← hli]; exact (List.getElem?_eq_some_iff.1 hv).1
                have h2 := hgi j hj
                rw [hcell i j hi hj, hv] at h2
                obtain ⟨_, c', e', fr', hb', hc'⟩ := cell_get h2
                simp only at hb' hc'
                rw [hb] at hb'
                simp only [Option.some.injEq, Obj.cells.injEq] at hb'
                rw [hb'.1]; exact hc') r1
              simpa using this)
            refine ⟨[.sl (P.cellsOf e) l], ?_, ⟨l, rfl, by rw [l1]; exact hlen, l3⟩, by simp [hsz]⟩
            simp only [RVc, RV, and_true]
            refine ⟨_, by simp; rfl, some ⟨b, off, none⟩, cap, by rw [l1], by omega, .inr ⟨b, off, c, rfl, by simp [rdOf, hb], l2⟩⟩
      | struct fs =>
        simp only at hp ⊢
        obtain ⟨xs, m, _, hd, hcl, hxl, hge⟩ := DataW.trod_struct hu ht
        simp only [Prod.mk.injEq] at hd
        have hwt : ∀ n ∈ DataW.weights P t (.agg (xs.map (·.1))), n ≤ reachBytes := by rw [← hd.1]; exact hw
        rw [DataW.weights, hu] at hwt
        simp only at hwt
        obtain ⟨r, r1, r2, r3⟩ := tile_ok (P := P) (R := Has P k) (rd := rdOf w) (c := cs.toArray) fs.toList 0 hp (by
          intro j f hf hr hle
          have hf' : fs[j]? = some f := by simpa using hf
          have h1 := hge j f hf'
          obtain ⟨x, hx⟩ : ∃ x, xs[j]? = some x := by
            have : j < fs.size := by simpa using (List.getElem?_eq_some_iff.1 hf).1
            exact ⟨xs[j]'(by omega), by simp [List.getElem?_eq_getElem]⟩
          rw [hx] at h1
          obtain ⟨r, r1, r2, r3⟩ := ih m f.type _ x.1 x.2 hr h1 (fun n hn => hwt n (weightsEach_mem (j := j) (t := f.type) (d := x.1) (by simp [hf]) (by simp [hx]) n hn))
          refine ⟨r, ?_, r2, r3⟩
          have := RVc.move (rd := rdOf w) r _ cs.toArray 0 f.offset (by
            intro j v hv
            simp only [List.getElem?_toArray, List.getElem?_take, List.getElem?_drop] at hv ⊢
            split at hv
            · exact hv
            · cases hv) r1
          simpa using this)
        exact ⟨r, r1, r2, by simpa using r3⟩
      | _ => simp at hp
end
end Go.Mx
namespace Go.Mx
open Go Go.RowKit
section
variable (P : Program)
def argD (t : TypeId) (r : List V) : D := match P.underlying t with
  | some (.struct _) => .agg (r.map .v)
  | _ => match r with
    | [x] => .v x
    | _ => .bad
def argsD : List TypeId → List (List V) → List D
  | t :: ts, r :: rs => argD P t r :: argsD ts rs
  | _, _ => []
structure HasV (k : Nat) (t : TypeId) (r : List V) : Prop where
  out : Has P k t r
def HasAll : List TypeId → List (List V) → Prop
  | [], [] => True
  | t :: ts, r :: rs => HasV P 12 t r ∧ HasAll ts rs
  | _, _ => False
end
section
variable {P : Program} {H : Type} {enc : TypeId × Value → H} {w : World}
def startG (w : World) : Gh := ⟨rdOf w, fun _ => none, fun _ => none⟩
theorem RDs_ofV {h : Array Obj} {G : Gh} {loc : Nat → Loc} : ∀ (r : List V) (j : Nat) (c : Array Value) (off : Nat), RVc G.rd r c off → off + r.length = c.size → RDs h G loc j (r.map .v) (c.toList.drop off)
  | [], j, c, off, _, hs => by
    have : c.toList.drop off = [] := by simp at hs ⊢; omega
    rw [this]; simp only [List.map_nil, RDs]
  | x :: r, j, c, off, hr, hs => by
    simp only [RVc] at hr
    obtain ⟨⟨v, h1, h2⟩, h3⟩ := hr
    have hlt : off < c.toList.length := by simp at hs ⊢; omega
    have : c.toList.drop off = v :: c.toList.drop (off + 1) := by
      rw [List.drop_eq_getElem_cons hlt]
      congr 1
      have := Array.getElem?_eq_some_iff.1 h1
      obtain ⟨_, e⟩ := this
      simpa using e
    rw [this]
    simp only [List.map_cons, RDs, RD]
    exact ⟨h2, RDs_ofV r (j + 1) c (off + 1) h3 (by simp at hs ⊢; omega)⟩
theorem argV_ok {base : Nat} {t : TypeId} {v : Value} {d : DataW H} {ps : List MemPlace} (hp : plainT P 12 t = true) (hok : Value.okWide P w .any base t v) (ht : DataW.Trod enc P w 0 (fun _ => true) true t v d ps) (hw : ∀ n ∈ d.weights P t, n ≤ reachBytes) (loc : Nat → Loc) :
    ∃ r, Has P 12 t r ∧ RD w.heap (startG w) loc (argD P t r) v ∧ bx (argD P t r) = true := by
  obtain ⟨fuel, ht⟩ := ht
  obtain ⟨r, r1, r2, r3⟩ := trod_V 12 fuel t _ d ps hp ht hw
  refine ⟨r, r2, ?_⟩
  have hone : P.cellsOf t = 1 → (∀ cs, v ≠ .agg cs) → ∀ x, r = [x] → RD w.heap (startG w) loc (.v x) v ∧ bx (.v x) = true := by
    intro _ hna x hx
    subst hx
    simp only [RVc, and_true] at r1
    obtain ⟨v', h1, h2⟩ := r1
    have : v.cells = #[v] := by cases v <;> first | rfl | exact absurd rfl (hna _)
    rw [this] at h1
    simp only [List.getElem?_toArray, List.getElem?_cons_zero, Option.some.injEq] at h1
    subst h1
    exact ⟨by simp only [RD]; exact h2, rfl⟩
  have hnon : (∀ fs, P.underlying t ≠ some (.struct fs)) → (∀ cs, v ≠ .agg cs) ∧ P.cellsOf t = 1 := by
    intro hns
    unfold plainT at hp
    unfold Value.okWide Cell.okWide Cell.ok at hok
    cases hu : P.underlying t with
    | none => rw [hu] at hp; cases hp
    | some desc =>
      rw [hu] at hp hok
      cases desc <;> simp only [Bool.and_eq_true, beq_iff_eq, reduceCtorEq, Bool.false_eq_true] at hp
      case struct fs => exact absurd hu (hns fs)
      all_goals (refine ⟨fun cs hc => ?_, by first | exact hp | exact hp.2⟩; subst hc; simp at hok)
  unfold argD
  cases hu : P.underlying t with
  | none => unfold plainT at hp; rw [hu] at hp; cases hp
  | some desc =>
    cases desc with
    | struct fs =>
      simp only
      unfold Value.okWide at hok
      rw [hu] at hok
      simp only at hok
      obtain ⟨cs, rfl, hs, _⟩ := hok
      refine ⟨?_, ?_⟩
      · simp only [RD]
        refine ⟨cs, rfl, ?_⟩
        have := RDs_ofV (h := w.heap) (G := startG w) (loc := loc) r 0 cs 0 (by simpa [Value.cells, startG] using r1) (by rw [r3, hs]; simp)
        simpa using this
      · simp only [bx, List.all_map, List.all_eq_true]
        intro x _
        rfl
    | _ =>
      obtain ⟨hna, hc⟩ := hnon (fun fs => by rw [hu]; simp)
      have hr : ∃ x, r = [x] := by
        rw [hc] at r3
        match r, r3 with
        | [x], _ => exact ⟨x, rfl⟩
      obtain ⟨x, rfl⟩ := hr
      exact hone hc hna x rfl
theorem argsV_ok {base : Nat} : ∀ {ts : List TypeId} {vs : List Value} {ds : List (DataW H)} {ps : List MemPlace} (k : Nat), ts.all (plainT P 12) = true → (∀ (j : Nat) t v, ts[j]? = some t → vs[j]? = some v → Value.okWide P w .any base t v) → DataW.TrodAll enc P w 0 (fun _ => true) true ts vs ds ps →
    (∀ n ∈ DataW.weightsEach P ts ds, n ≤ reachBytes) → ∃ rs, HasAll P ts rs ∧ vs.length = (argsD P ts rs).length ∧ ∀ (j : Nat) (d : D), (argsD P ts rs)[j]? = some d → ∃ v, vs[j]? = some v ∧ RD w.heap (startG w) (Loc.hand (k + j)) d v ∧ bx d = true
  | [], vs, ds, ps, k, hp, hok, ht, hw => by
    obtain ⟨rfl, rfl, rfl⟩ := ChangeShapes.trodAll_nil ht
    exact ⟨[], trivial, rfl, fun j d hd => by simp [argsD] at hd⟩
  | t :: ts, vs, ds, ps, k, hp, hok, ht, hw => by
    obtain ⟨v, vs', d, ds', p, q, rfl, rfl, rfl, hd, hrest⟩ := ChangeShapes.trodAll_cons ht
    simp only [List.all_cons, Bool.and_eq_true] at hp
    rw [DataW.weightsEach] at hw
    obtain ⟨r, r1, r2, r3⟩ := argV_ok hp.1 (hok 0 t v rfl rfl) hd (fun n hn => hw n (List.mem_append_left _ hn)) (Loc.hand k)
    obtain ⟨rs, s1, s2, s3⟩ := argsV_ok (k + 1) hp.2 (fun j t v h1 h2 => hok (j + 1) t v (by simpa using h1) (by simpa using h2)) hrest (fun n hn => hw n (List.mem_append_right _ hn))
    refine ⟨r :: rs, ⟨⟨r1⟩, s1⟩, by simp [argsD, s2], fun j d hd => ?_⟩
    cases j with
    | zero =>
      simp only [argsD, List.getElem?_cons_zero, Option.some.injEq] at hd
      subst hd
      exact ⟨v, rfl, by simpa using r2, r3⟩
    | succ j =>
      simp only [argsD, List.getElem?_cons_succ] at hd
      obtain ⟨v', h1, h2, h3⟩ := s3 j d hd
      exact ⟨v', by simpa using h1, by simpa [Nat.add_assoc, Nat.add_comm 1] using h2, h3⟩
theorem law_calls {base : Nat} {f : FuncId} {fn : Func} {ts : List TypeId} {args : Array Value} {ds : List (DataW H)} {ps : List MemPlace} (hf : P.funcs[f]? = some fn) (hok : fnOk fn = true) (hp : ts.all (plainT P 12) = true)
    (hsem : ∀ rs, HasAll P ts rs → Mx.Sem P f (argsD P ts rs) [] (.v (.b true)) [])
    (hval : ∀ (j : Nat) t v, ts[j]? = some t → args.toList[j]? = some v → Value.okWide P w .any base t v) (ht : DataW.TrodAll enc P w 0 (fun _ => true) true ts args.toList ds ps) (hw : ∀ n ∈ DataW.weightsEach P ts ds, n ≤ reachBytes) :
    Calls P f args w fun e w' => e = .returned (.bool true) ∧ Below w.heap.size w w' := by
  obtain ⟨rs, h1, h2, h3⟩ := argsV_ok 0 hp hval ht hw
  have hrel : Rel w.heap (startG w) #[] ⟨[], []⟩ := by
    refine ⟨⟨?_, ?_, ?_, ?_, ?_, ?_, ?_, ?_⟩, fun t => by simp only [bF, RD], ?_, ?_, fun o _ => rfl, fun l p _ h => by simp [startG] at h⟩
    · intro b c hb
      simp only [startG, rdOf] at hb
      split at hb
      · rename_i c' e fr heq
        simp only [Option.some.injEq] at hb
        subst hb
        exact ⟨e, fr, heq⟩
      · cases hb
    all_goals (intros; simp_all [startG])
  have hs := hsem rs h1 w (startG w) args.toList hrel (fun o cs h => by simp at h) ⟨h2, fun j d hd => by simpa using h3 j d hd, fun k j p h => by simp [startG] at h⟩
  unfold Enters at hs
  simp only [fnOk, Bool.and_eq_true, Bool.not_eq_true'] at hok
  obtain ⟨⟨⟨hb, hn⟩, _⟩, _⟩ := hok
  have hcf : (callFunc f args.toList.toArray).run P w = .ok (.enter f args.toList.toArray) w := by
    have h1 : fn.name ≠ "runtime.NumGoroutine" := by simpa using hn
    cases hb' : fn.body with
    | none => rw [hb'] at hb; cases hb
    | some body => simp [callFunc, hf, h1, hb']
  rw [hcf] at hs
  simp only [Array.toArray_toList] at hs
  refine hs.mono fun e w' ⟨v, he, G', hR, _, hg, _, hres⟩ => ?_
  subst he
  refine ⟨?_, hg.step.os, hg.step.tape, hg.step.output, hg.step.size, fun k hk => hg.step.keep k hk ?_⟩
  · have := hres.rd
    simp only [RD, RV] at this
    rw [this]
  · rintro (⟨o, ho⟩ | ⟨l, f, hl⟩)
    · simp [startG] at ho
    · simp [startG] at hl
end
end Go.Mx
namespace Go.Mx
open Go
section
variable {P : Program} {t e : TypeId} {k : Nat} {r : List V}
theorem hasFs_shut : ∀ (fs : List Field) (r : List V), hasFs (Has P k) fs r → hasFs (HasV P k) fs r
  | [], r, h => h
  | f :: fs, r, h => by
    simp only [hasFs] at *
    obtain ⟨a, b, h1, h2, h3⟩ := h
    exact ⟨a, b, h1, ⟨h2⟩, hasFs_shut fs b h3⟩
theorem cY {q : IntKind} (hu : P.underlying t = some (.int q)) (h : HasV P k t r) : ∃ n, r = [.i q n] ∧ q.min ≤ n ∧ n ≤ q.max := by
  replace h := h.out
  cases k with
  | zero => exact h.elim
  | succ k => simp only [Has, hu] at h; exact h
theorem has_str (hu : P.underlying t = some .string) (h : HasV P k t r) : ∃ s : ByteArray, r = [.s s] ∧ s.size ≤ reachBytes := by
  replace h := h.out
  cases k with
  | zero => exact h.elim
  | succ k => simp only [Has, hu] at h; exact h
theorem dk {n m : Nat} (hu : P.underlying t = some (.slice e)) (hc : P.cellsOf e = n) (hb : P.bytesOf e = m) (h : HasV P k t r) : ∃ l j, r = [.sl n l] ∧ l.length * m ≤ reachBytes ∧ ∀ x ∈ l, HasV P j e x := by
  replace h := h.out
  cases k with
  | zero => exact h.elim
  | succ k =>
    simp only [Has, hu, hc, hb] at h
    obtain ⟨l, h1, h2, h3⟩ := h
    exact ⟨l, k, h1, h2, fun x hx => ⟨h3 x hx⟩⟩
theorem cU {fs : Array Field} (hu : P.underlying t = some (.struct fs)) (h : HasV P k t r) : ∃ j, hasFs (HasV P j) fs.toList r := by
  replace h := h.out
  cases k with
  | zero => exact h.elim
  | succ k => simp only [Has, hu] at h; exact ⟨k, hasFs_shut _ _ h⟩
theorem rows_of {X : Type} {f : X → List V} {ok : X → Prop} : ∀ {l : List (List V)}, (∀ r ∈ l, ∃ x, r = f x ∧ ok x) → ∃ xs : List X, l = xs.map f ∧ ∀ x ∈ xs, ok x
  | [], _ => ⟨[], rfl, fun x hx => by cases hx⟩
  | r :: l, h => by
    obtain ⟨x, h1, h2⟩ := h r List.mem_cons_self
    obtain ⟨xs, h3, h4⟩ := rows_of (l := l) (fun r hr => h r (List.mem_cons_of_mem _ hr))
    refine ⟨x :: xs, by rw [h1, h3]; rfl, fun y hy => ?_⟩
    rcases List.mem_cons.1 hy with rfl | hy
    · exact h2
    · exact h4 y hy
theorem map_inj {X Y : Type} {f : X → Y} (hf : ∀ a b, f a = f b → a = b) : ∀ {a b : List X}, a.map f = b.map f ↔ a = b := by
  intro a b
  constructor
  · intro h
    induction a generalizing b with
    | nil => cases b with
      | nil => rfl
      | cons _ _ => cases h
    | cons x a ih => cases b with
      | nil => cases h
      | cons y b =>
        simp only [List.map_cons, List.cons.injEq] at h
        rw [hf _ _ h.1, ih h.2]
  · intro h; rw [h]
theorem HasAll.nil {rs : List (List V)} (h : HasAll P [] rs) : rs = [] := by
  cases rs with
  | nil => rfl
  | cons _ _ => exact h.elim
theorem HasAll.cons {ts : List TypeId} {rs : List (List V)} (h : HasAll P (t :: ts) rs) : ∃ r rs', rs = r :: rs' ∧ HasV P 12 t r ∧ HasAll P ts rs' := by
  cases rs with
  | nil => exact h.elim
  | cons r rs => exact ⟨r, rs, rfl, h.1, h.2⟩
theorem argD_struct {fs : Array Field} (hu : P.underlying t = some (.struct fs)) : argD P t r = .agg (r.map .v) := by simp only [argD, hu]
def aY (s : ByteArray) : List V := [.s s]
def rowI (n : Int) : List V := [.i .i64 n]
def bA (n : Int) : List V := [.i .u8 n]
theorem rowS_inj {a b : List ByteArray} : a.map aY = b.map aY ↔ a = b := map_inj (fun a b h => by simpa [aY] using h)
theorem rowI_inj {a b : List Int} : a.map rowI = b.map rowI ↔ a = b := map_inj (fun a b h => by simpa [rowI] using h)
theorem rowB_inj {a b : List Int} : a.map bA = b.map bA ↔ a = b := map_inj (fun a b h => by simpa [bA] using h)
def okI (n : Int) : Prop := -9223372036854775808 ≤ n ∧ n ≤ 9223372036854775807
theorem dg {n : Int} (h : IntKind.i64.min ≤ n ∧ n ≤ IntKind.i64.max) : okI n := by
  simp only [IntKind.min, IntKind.max, IntKind.bits, IntKind.signed] at h
  exact ⟨by have := h.1; simp at this; omega, by have := h.2; simp at this; omega⟩
def okS (s : ByteArray) : Prop := s.size ≤ 140737488351232
def okN (m n : Nat) : Prop := n * m ≤ 140737488351232
theorem wrap_id {n : Int} (h1 : -9223372036854775808 ≤ n) (h2 : n ≤ 9223372036854775807) : IntKind.i64.wrap n = n := by
  simp [IntKind.wrap, IntKind.min, IntKind.max, IntKind.bits, IntKind.signed]; omega
end
end Go.Mx
namespace Go.Mx
open Go
section
variable (T : Nat → Ty) (C : ak) (ν : cC)
end
section
variable {P : Program} {w : World} {G : Gh} {tmps : Array Value} {σ σ' : St} {ds : List Deferred} {C : ak} {ν : cC} {o : Oper}
end
end Go.Mx
namespace Go.Mx
open Go
theorem Sem.frozen {P : Program} {f : FuncId} {args : List D} {S S' : aA} {d : D} (h : Mx.Sem P f args S d S') (hv : bx d = true) : Mx.Sem P f args S (frz d) S' := by
  intro w G vals R L A
  refine (h w G vals R L A).mono fun v w' ⟨G', R', L', g, len, res⟩ => ?_
  obtain ⟨G2, R2, S2, rd2, h1, h2⟩ := R'.freezeF (k := 0) (d := d) (v := v) ⟨res.rd, fun j p hp => (res.own 0 j p hp).2, hv⟩
  refine ⟨G2, R2, L', g.trans (S2.goes rfl), len, rd2 _, .inl (frz_valOk hv).1, ?_⟩
  intro k j p hp
  by_cases hk : k = 0
  · subst hk; rw [h1 j] at hp; cases hp
  · rw [h2 _ (fun q hq => by simp only [Loc.hand.injEq] at hq; exact hk hq.1)] at hp
    exact absurd (res.own k j p hp).1 hk
end Go.Mx
namespace Go.Mx
open Go
end Go.Mx
namespace Go.Mx
open Go
def whileM {α β : Type} (step : α → Option (α ⊕ β)) : Nat → α → Option β
  | 0, _ => none
  | n + 1, a => match step a with
    | none => none
    | some (.inl a') => whileM step n a'
    | some (.inr b) => some b
theorem whileM_mono {α β : Type} {step : α → Option (α ⊕ β)} : ∀ (n m : Nat) (a : α) (b : β), n ≤ m → whileM step n a = some b → whileM step m a = some b
  | 0, _, _, _, _, h => by cases h
  | n + 1, 0, _, _, hm, _ => by omega
  | n + 1, m + 1, a, b, hm, h => by
    simp only [whileM] at *
    cases hs : step a with
    | none => rw [hs] at h; cases h
    | some o =>
      rw [hs] at h
      cases o with
      | inl a' => exact whileM_mono n m a' b (by omega) h
      | inr b' => exact h
open Classical in
noncomputable def ci {α β : Type} (step : α → Option (α ⊕ β)) (a : α) : Option β := if h : ∃ b n, whileM step n a = some b then some h.choose else none
theorem loopM_of {α β : Type} {step : α → Option (α ⊕ β)} {n : Nat} {a : α} {b : β} (h : whileM step n a = some b) : ci step a = some b := by
  have hx : ∃ b n, whileM step n a = some b := ⟨b, n, h⟩
  unfold ci
  rw [dif_pos hx]
  obtain ⟨m, hm⟩ := hx.choose_spec
  rcases Nat.le_total n m with hl | hl
  · rw [whileM_mono n m a b hl h] at hm; exact hm.symm
  · rw [whileM_mono m n a _ hl hm] at h; exact h
theorem loopM_some {α β : Type} {step : α → Option (α ⊕ β)} {a : α} {b : β} (h : ci step a = some b) : ∃ n, whileM step n a = some b := by
  unfold ci at h
  split at h
  · rename_i hx
    obtain ⟨n, hn⟩ := hx.choose_spec
    rw [Option.some.inj h] at hn
    exact ⟨n, hn⟩
  · cases h
theorem loopM_eq {α β : Type} (step : α → Option (α ⊕ β)) (a : α) : ci step a = match step a with
    | none => none
    | some (.inl a') => ci step a'
    | some (.inr b) => some b := by
  cases hs : step a with
  | none =>
    simp only
    cases h : ci step a with
    | none => rfl
    | some b =>
      obtain ⟨n, hn⟩ := loopM_some h
      cases n with
      | zero => cases hn
      | succ n => simp only [whileM, hs] at hn; cases hn
  | some o => cases o with
    | inr b => exact loopM_of (n := 1) (by simp only [whileM, hs])
    | inl a' =>
      simp only
      cases h : ci step a' with
      | some b =>
        obtain ⟨n, hn⟩ := loopM_some h
        exact loopM_of (n := n + 1) (by simp only [whileM, hs]; exact hn)
      | none =>
        cases h2 : ci step a with
        | none => rfl
        | some b =>
          obtain ⟨n, hn⟩ := loopM_some h2
          cases n with
          | zero => cases hn
          | succ n =>
            simp only [whileM, hs] at hn
            rw [loopM_of hn] at h; cases h
theorem loopM_on {α β : Type} {step : α → Option (α ⊕ β)} {a a' : α} (h : step a = some (.inl a')) : ci step a = ci step a' := by rw [loopM_eq, h]
theorem loopM_end {α β : Type} {step : α → Option (α ⊕ β)} {a : α} {b : β} (h : step a = some (.inr b)) : ci step a = some b := by rw [loopM_eq, h]
theorem loopM_ind {α β : Type} {step : α → Option (α ⊕ β)} {R : α → β → Prop} (h1 : ∀ a a' b, step a = some (.inl a') → R a' b → R a b) (h2 : ∀ a b, step a = some (.inr b) → R a b) {a : α} {b : β} (h : ci step a = some b) : R a b := by
  obtain ⟨n, hn⟩ := loopM_some h
  clear h
  induction n generalizing a with
  | zero => cases hn
  | succ n ih =>
    simp only [whileM] at hn
    cases hs : step a with
    | none => rw [hs] at hn; cases hn
    | some o =>
      rw [hs] at hn
      cases o with
      | inl a' => exact h1 a a' b hs (ih hn)
      | inr b' => cases hn; exact h2 a b hs
def idx {α : Type} (l : List α) (i : Int) : Option α := if 0 ≤ i then l[i.toNat]? else none
theorem cc {α : Type} {l : List α} {i : Int} {x : α} (h : idx l i = some x) : decide (0 ≤ i) = true ∧ l[i.toNat]? = some x := by
  unfold idx at h
  by_cases hi : 0 ≤ i
  · rw [if_pos hi] at h; exact ⟨decide_eq_true hi, h⟩
  · rw [if_neg hi] at h; cases h
theorem idx_map {α : Type} {l : List α} {i : Int} {x : α} {f : α → List V} (h : idx l i = some x) : (l.map f)[i.toNat]? = some (f x) := by
  rw [List.getElem?_map, (cc h).2]; rfl
section
variable (T : Nat → Ty) (C : ak) (ν : cC) (body : Code)
def Loops.le (L L' : Loops) : Prop := ∀ id σ r, L id σ = some r → L' id σ = some r
theorem evCode_blockN {id : Nat} {c : Code} {σ : St} (L : Loops) (h : ¬ ∃ c', c = .loop c') : aH T C L ν (.block id c) σ = de id (aH T C L ν c σ) := by
  cases c <;> first | rfl | exact absurd ⟨_, rfl⟩ h
theorem evCode_le {L L' : Loops} (hl : Loops.le L L') : ∀ (c : Code) (σ : St) (r : Ex × St), aH T C L ν c σ = some r → aH T C L' ν c σ = some r := by
  intro c
  induction c with
  | skip => intro σ r h; exact h
  | region id ops draw => intro σ r h; exact h
  | seq a b iha ihb =>
    intro σ r h
    rw [evCode_seq] at *
    cases ha : aH T C L ν a σ with
    | none => rw [ha] at h; cases h
    | some p =>
      rw [ha] at h
      rw [iha σ p ha]
      obtain ⟨e, σ'⟩ := p
      cases e with
      | normal => exact ihb _ _ h
      | exit i => exact h
      | ret => exact h
  | cond x a b iha ihb =>
    intro σ r h
    cases x with
    | tmp t =>
      rw [evCode_cond] at *
      unfold branch at *
      split at h
      · rename_i x heq
        cases x with
        | true => exact iha _ _ h
        | false => exact ihb _ _ h
      · cases h
    | _ => simp [aH] at h
  | loop c ih => intro σ r h; simp [aH] at h
  | block id c ih =>
    intro σ r h
    by_cases hq : ∃ c', c = .loop c'
    · obtain ⟨c', rfl⟩ := hq; exact hl id σ r h
    · rw [evCode_blockN T C ν L hq] at h
      rw [evCode_blockN T C ν L' hq]
      cases hc : aH T C L ν c σ with
      | none => rw [hc] at h; cases h
      | some p => rw [hc] at h; rw [ih σ p hc]; exact h
  | exit id => intro σ r h; exact h
  | ret => intro σ r h; exact h
  | _ => intro σ r h; simp [aH] at h
theorem again_le {L L' : Loops} (hl : Loops.le L L') (n id : Nat) (x : Option (Ex × St)) (r : Ex × St) (h : cD n id L x = some r) : cD n id L' x = some r := by
  unfold cD at *
  split at h
  · split at h
    · exact hl _ _ _ h
    · cases h
  · exact h
theorem evL_mono : ∀ n m, n ≤ m → Loops.le (evL T C ν body n) (evL T C ν body m)
  | 0, _, _ => fun id σ r h => by cases h
  | n + 1, 0, hm => by omega
  | n + 1, m + 1, hm => fun id σ r h => by
    have ih := evL_mono n m (by omega)
    rw [evL] at *
    split at h
    · rename_i c hc
      skip
      rw [evLoop_again] at h ⊢
      cases hx : aH T C (evL T C ν body n) ν c σ with
      | none => rw [hx] at h; cases h
      | some p => rw [hx] at h; rw [evCode_le T C ν ih c σ p hx]; exact again_le ih _ _ _ _ h
    · cases h
open Classical in
noncomputable def evW : Loops := fun id σ => if h : ∃ r n, evL T C ν body n id σ = some r then some h.choose else none
theorem evW_of {n id : Nat} {σ : St} {r : Ex × St} (h : evL T C ν body n id σ = some r) : evW T C ν body id σ = some r := by
  have hx : ∃ r n, evL T C ν body n id σ = some r := ⟨r, n, h⟩
  unfold evW
  rw [dif_pos hx]
  obtain ⟨m, hm⟩ := hx.choose_spec
  rcases Nat.le_total n m with hl | hl
  · rw [evL_mono T C ν body n m hl _ _ _ h] at hm; exact hm.symm
  · rw [evL_mono T C ν body m n hl _ _ _ hm] at h; exact h
theorem evW_some {id : Nat} {σ : St} {r : Ex × St} (h : evW T C ν body id σ = some r) : ∃ n, evL T C ν body n id σ = some r := by
  unfold evW at h
  split at h
  · rename_i hx
    obtain ⟨n, hn⟩ := hx.choose_spec
    rw [Option.some.inj h] at hn
    exact ⟨n, hn⟩
  · cases h
theorem evL_leW (n : Nat) : Loops.le (evL T C ν body n) (evW T C ν body) := fun _ _ _ h => evW_of T C ν body h
theorem evCode_fin : ∀ (c : Code) (σ : St) (r : Ex × St), aH T C (evW T C ν body) ν c σ = some r → ∃ n, aH T C (evL T C ν body n) ν c σ = some r := by
  intro c
  induction c with
  | skip => intro σ r h; exact ⟨0, h⟩
  | region id ops draw => intro σ r h; exact ⟨0, h⟩
  | seq a b iha ihb =>
    intro σ r h
    simp only [evCode_seq] at *
    cases ha : aH T C (evW T C ν body) ν a σ with
    | none => rw [ha] at h; cases h
    | some p =>
      rw [ha] at h
      obtain ⟨n, hn⟩ := iha σ p ha
      obtain ⟨e, σ'⟩ := p
      cases e with
      | normal =>
        obtain ⟨m, hm⟩ := ihb _ _ h
        refine ⟨n + m, ?_⟩
        rw [evCode_le T C ν (evL_mono T C ν body n (n + m) (by omega)) a σ _ hn]
        exact evCode_le T C ν (evL_mono T C ν body m (n + m) (by omega)) b σ' _ hm
      | exit i => exact ⟨n, by rw [hn]; exact h⟩
      | ret => exact ⟨n, by rw [hn]; exact h⟩
  | cond x a b iha ihb =>
    intro σ r h
    cases x with
    | tmp t =>
      simp only [evCode_cond, branch] at *
      split at h
      · rename_i x heq
        cases x with
        | true => exact iha _ _ h
        | false => exact ihb _ _ h
      · cases h
    | _ => simp [aH] at h
  | loop c ih => intro σ r h; simp [aH] at h
  | block id c ih =>
    intro σ r h
    by_cases hq : ∃ c', c = .loop c'
    · obtain ⟨c', rfl⟩ := hq; exact evW_some T C ν body h
    · rw [evCode_blockN T C ν _ hq] at h
      cases hc : aH T C (evW T C ν body) ν c σ with
      | none => rw [hc] at h; cases h
      | some p =>
        rw [hc] at h
        obtain ⟨n, hn⟩ := ih σ p hc
        exact ⟨n, by rw [evCode_blockN T C ν _ hq, hn]; exact h⟩
  | exit id => intro σ r h; exact ⟨0, h⟩
  | ret => intro σ r h; exact ⟨0, h⟩
  | _ => intro σ r h; simp [aH] at h
theorem ct {C : ak} {body c : Code} {id : Nat} (h : bz id body = some c) (σ : St) : evW T C ν body id σ = cD σ.S.length id (evW T C ν body) (aH T C (evW T C ν body) ν c σ) := by
  have key : ∀ r, evW T C ν body id σ = some r ↔ cD σ.S.length id (evW T C ν body) (aH T C (evW T C ν body) ν c σ) = some r := by
    intro r
    constructor
    · intro he
      obtain ⟨n, hn⟩ := evW_some T C ν body he
      cases n with
      | zero => cases hn
      | succ n =>
        rw [evL_step T ν h] at hn
        cases hx : aH T C (evL T C ν body n) ν c σ with
        | none => rw [hx] at hn; cases hn
        | some p => rw [hx] at hn; rw [evCode_le T C ν (evL_leW T C ν body n) c σ p hx]; exact again_le (evL_leW T C ν body n) _ _ _ _ hn
    · intro he
      cases hx : aH T C (evW T C ν body) ν c σ with
      | none => rw [hx] at he; cases he
      | some p =>
        rw [hx] at he
        obtain ⟨n, hn⟩ := evCode_fin T C ν body c σ p hx
        obtain ⟨e, σ'⟩ := p
        have fin : ∃ m, cD σ.S.length id (evL T C ν body m) (some (e, σ')) = some r := by
          unfold cD at he
          split at he
          · rename_i σ1 heq
            cases heq
            split at he
            · rename_i σ2 hσ2
              obtain ⟨m, hm⟩ := evW_some T C ν body he
              exact ⟨m, by simp only [cD, hσ2]; exact hm⟩
            · cases he
          · rename_i hne
            exact ⟨0, by rw [← he]; unfold cD; split <;> first | rfl | (rename_i heq; exact absurd heq (hne _))⟩
        obtain ⟨m, hm⟩ := fin
        refine evW_of T C ν body (n := (n + m) + 1) ?_
        rw [evL_step T ν h]
        rw [evCode_le T C ν (evL_mono T C ν body n (n + m) (by omega)) c σ _ hn]
        exact again_le (evL_mono T C ν body m (n + m) (by omega)) _ _ _ _ hm
  cases ha : evW T C ν body id σ with
  | some r => exact ((key r).1 ha).symm
  | none =>
    cases hb : cD σ.S.length id (evW T C ν body) (aH T C (evW T C ν body) ν c σ) with
    | none => rfl
    | some r => rw [(key r).2 hb] at ha; cases ha
theorem cy {α β : Type} {step : α → Option (α ⊕ β)} {L : Loops} {id : Nat} (enc : α → St) (out : β → Option (Ex × St)) (h : ∀ a o, step a = some o → L id (enc a) = Sum.elim (fun a' => L id (enc a')) (fun b => out b) o) {a : α} {b : β} (hl : ci step a = some b) : L id (enc a) = out b := by
  refine loopM_ind (R := fun a b => L id (enc a) = out b) ?_ ?_ hl
  · intro a a' b hs hr; rw [h a _ hs]; exact hr
  · intro a b hs; exact h a _ hs
end
theorem cL {P : Program} {C : ak} {ν : cC} {f : FuncId} {fn : Func} {args : List D} {S S' : aA} {d : D} (SC : cE P C) (hf : P.funcs[f]? = some fn) (ok : fnOk fn = true) (hm : P.follows .mixedOrders = true) (hd' : (drawn (aQ fn)).all (fun p => drawOk p.2 (ν.free p.1)) = true) (hargs : args.length ≤ fn.ntmps)
    (he : cF (cq P) C (evW (cq P) C ν (aQ fn)) ν fn.results.toList (aQ fn) args S = some (d, S')) : Mx.Sem P f args S d S' := by
  have : ∃ k, cF (cq P) C (evL (cq P) C ν (aQ fn) k) ν fn.results.toList (aQ fn) args S = some (d, S') := by
    unfold cF at he ⊢
    cases hx : aH (cq P) C (evW (cq P) C ν (aQ fn)) ν (aQ fn) ⟨enter 0 args, S⟩ with
    | none => rw [hx] at he; cases he
    | some p =>
      obtain ⟨n, hn⟩ := evCode_fin _ _ _ _ _ _ _ hx
      exact ⟨n, by rw [hn]; rw [hx] at he; exact he⟩
  obtain ⟨k, hk⟩ := this
  exact sem_fn SC hf ok hm hd' hargs hk
open Classical in
noncomputable def ak.addF (C : ak) (f : Nat) {X R : Type} (arg : X → List D × aA) (G : X → Option R) (res : X → R → D × aA) : ak := fun f' a S =>
  if h : f' = f ∧ ∃ p : X × R, G p.1 = some p.2 ∧ arg p.1 = (a, S) then some (res h.2.choose.1 h.2.choose.2) else C f' a S
theorem cM {C : ak} {f : Nat} {X R : Type} {arg : X → List D × aA} {G : X → Option R} {res : X → R → D × aA} (inj : ∀ x y, arg x = arg y → x = y) {x : X} {r : R} (h : G x = some r) : (ak.addF C f arg G res) f (arg x).1 (arg x).2 = some (res x r) := by
  have hx : f = f ∧ ∃ p : X × R, G p.1 = some p.2 ∧ arg p.1 = ((arg x).1, (arg x).2) := ⟨rfl, (x, r), h, rfl⟩
  simp only [ak.addF]
  rw [dif_pos hx]
  obtain ⟨h1, h2⟩ := hx.2.choose_spec
  have e := inj _ _ h2
  rw [e, h] at h1
  rw [e, ← Option.some.inj h1]
theorem aV {C : ak} {f f' : Nat} {X R : Type} {arg : X → List D × aA} {G : X → Option R} {res : X → R → D × aA} (h : f' ≠ f) (a : List D) (S : aA) : (ak.addF C f arg G res) f' a S = C f' a S := by
  simp only [ak.addF]
  rw [dif_neg]
  rintro ⟨h1, _⟩
  exact h h1
theorem addF_other {C : ak} {f : Nat} {X R : Type} {arg : X → List D × aA} {G : X → Option R} {res : X → R → D × aA} {a : List D} {S : aA} (h : ∀ x, arg x ≠ (a, S)) : (ak.addF C f arg G res) f a S = C f a S := by
  simp only [ak.addF]
  rw [dif_neg]
  rintro ⟨_, p, _, hp⟩
  exact h _ hp
theorem cA {P : Program} {C : ak} {f : Nat} {X R : Type} {arg : X → List D × aA} {G : X → Option R} {res : X → R → D × aA} (SC : cE P C) (h : ∀ x r, G x = some r → Mx.Sem P f (arg x).1 (arg x).2 (res x r).1 (res x r).2) : cE P (ak.addF C f arg G res) := by
  intro f' a S d S' he
  unfold ak.addF at he
  split at he
  · rename_i hx
    obtain ⟨h1, h2⟩ := hx.2.choose_spec
    have h3 := h _ _ h1
    rw [h2] at h3
    simp only [Option.some.injEq] at he
    rw [he] at h3
    rw [hx.1]
    exact h3
  · exact SC f' a S d S' he
end Go.Mx
namespace Go.Mx
open Go
def noPtrC : D → Bool
  | .v _ | .undef | .cut .. | .rp _ | .own .. | .nilp => true
  | _ => false
def calmV : D → Bool
  | .v _ | .undef | .cut .. | .rp _ | .nilp => true
  | _ => false
def calmT : D → Bool
  | .agg cs => cs.all calmV
  | d => calmV d
def noPtr : D → Bool
  | .agg cs => cs.all noPtrC
  | .tup cs => cs.all calmT
  | d => noPtrC d
def seenP (acc : List Nat) : D → List Nat
  | .ptr o _ => bif acc.contains o then acc else acc ++ [o]
  | _ => acc
def seenD (acc : List Nat) : D → List Nat
  | .clo _ cs => cs.foldl seenP acc
  | d => seenP acc d
def objsOf (args : List D) : List Nat := args.foldl seenD []
def toP (os : List Nat) : D → D
  | .ptr o f => .ptr (os.idxOf o) f
  | d => d
def toD (os : List Nat) : D → D
  | .clo f cs => .clo f (cs.map (toP os))
  | d => toP os d
def argP (n : Nat) : D → Bool
  | .ptr o _ => decide (o < n)
  | d => noPtrC d && !bB d
def argOk (n : Nat) : D → Bool
  | .clo _ cs => cs.all (argP n)
  | .ptr o _ => decide (o < n)
  | d => noPtr d
def pickS (S : aA) : List Nat → Option aA
  | [] => some []
  | o :: os => match S[o]? with
    | some cs => match pickS S os with
      | some r => some (cs :: r)
      | none => none
    | none => none
def putS : aA → List Nat → aA → aA
  | S, o :: os, cs :: r => putS (S.set o cs) os r
  | S, _, _ => S
def plainS (S : aA) : Bool := S.all (fun cs => cs.all noPtrC)
def ak.wide (C : ak) : ak := fun f args S => match S with
  | [] => C f args []
  | S => match pickS S (objsOf args) with
    | some S0 => bif plainS S0 && args.all (argOk S.length) && (objsOf args).Nodup then (match C f (args.map (toD (objsOf args))) S0 with
      | some (d, S1) => bif noPtr d && plainS S1 && S1.length == S0.length then some (d, putS S (objsOf args) S1) else none
      | none => none) else none
    | none => none
theorem pickS_len {S : aA} : ∀ {os : List Nat} {S0 : aA}, pickS S os = some S0 → S0.length = os.length
  | [], _, h => by cases h; rfl
  | o :: os, S0, h => by
    simp only [pickS] at h
    split at h <;> try (cases h; done)
    split at h <;> try (cases h; done)
    rename_i r hr
    cases h
    simp [pickS_len hr]
theorem pickS_get {S : aA} : ∀ {os : List Nat} {S0 : aA}, pickS S os = some S0 → ∀ (i o : Nat), os[i]? = some o → ∃ cs, S0[i]? = some cs ∧ S[o]? = some cs
  | [], _, _, i, o, ho => by simp at ho
  | q :: os, S0, h, i, o, ho => by
    simp only [pickS] at h
    split at h <;> try (cases h; done)
    rename_i cs hcs
    split at h <;> try (cases h; done)
    rename_i r hr
    cases h
    cases i with
    | zero => simp at ho; subst ho; exact ⟨cs, rfl, hcs⟩
    | succ i => simpa using pickS_get hr i o (by simpa using ho)
theorem putS_len : ∀ (S : aA) (os : List Nat) (S1 : aA), (putS S os S1).length = S.length
  | S, [], _ => by simp [putS]
  | S, _ :: _, [] => by simp [putS]
  | S, o :: os, cs :: r => by simp only [putS]; rw [putS_len]; simp
theorem putS_out : ∀ (S : aA) (os : List Nat) (S1 : aA) (o : Nat), o ∉ os → (putS S os S1)[o]? = S[o]?
  | S, [], _, _, _ => by simp [putS]
  | S, _ :: _, [], _, _ => by simp [putS]
  | S, q :: os, cs :: r, o, h => by
    simp only [List.mem_cons, not_or] at h
    simp only [putS]
    rw [putS_out _ os r o h.2, List.getElem?_set_ne (Ne.symm h.1)]
theorem putS_in : ∀ (S : aA) (os : List Nat) (S1 : aA), os.Nodup → S1.length = os.length → (∀ o ∈ os, o < S.length) → ∀ (i o : Nat), os[i]? = some o → (putS S os S1)[o]? = S1[i]?
  | S, [], _, _, _, _, i, o, h => by simp at h
  | S, _ :: _, [], _, hl, _, _, _, _ => by simp at hl
  | S, q :: os, cs :: r, nd, hl, lt, i, o, h => by
    simp only [List.nodup_cons] at nd
    simp only [putS]
    cases i with
    | zero =>
      simp at h; subst h
      rw [putS_out _ os r q nd.1]
      simp [lt q (by simp)]
    | succ i =>
      have := putS_in (S.set q cs) os r nd.2 (by simpa using hl) (fun o ho => by simpa using lt o (by simp [ho])) i o (by simpa using h)
      simpa using this
theorem RD.plainC {h : Array Obj} {G G' : Gh} {l l' : Loc} {d : D} {v : Value} (hd : noPtrC d = true) (hrd : cN G.rd G'.rd) (how : ∀ p, G.ow l = some p → G'.ow l' = some p) (hr : RD h G (fun _ => l) d v) : RD h G' (fun _ => l') d v := by
  cases d with
  | v x => simp only [RD] at *; exact RV.mono hrd _ _ hr
  | undef => simpa only [RD] using hr
  | own sz m =>
    simp only [RD, ROwn] at *
    rcases hr with hr | ⟨b, off, cap, c, e, fr, h1, h2, h3, h4, h5, h6, h7⟩
    · exact .inl hr
    · exact .inr ⟨b, off, cap, c, e, fr, h1, how _ h2, h3, h4, h5, h6, RVr.mono hrd _ _ _ _ h7⟩
  | cut sz m =>
    simp only [RD] at *
    obtain ⟨base, h1, h2⟩ := hr
    exact ⟨base, h1, h2.imp id (fun ⟨b, off, c, g1, g2, g3⟩ => ⟨b, off, c, g1, hrd _ _ g2, RVr.mono hrd _ _ _ _ g3⟩)⟩
  | rp c =>
    simp only [RD] at *
    obtain ⟨b, off, c', g1, g2, g3⟩ := hr
    exact ⟨b, off, c', g1, hrd _ _ g2, RVc.mono hrd _ _ _ g3⟩
  | nilp => simpa only [RD] using hr
  | _ => simp [noPtrC] at hd
theorem RDs.plainC {h : Array Obj} {G G' : Gh} {loc loc' : Nat → Loc} (hrd : cN G.rd G'.rd) : ∀ (cs : List D) (vs : List Value) (j j' : Nat), cs.all noPtrC = true → (∀ i p, G.ow (loc (j + i)) = some p → G'.ow (loc' (j' + i)) = some p) → RDs h G loc j cs vs → RDs h G' loc' j' cs vs
  | [], [], _, _, _, _, _ => by simp only [RDs]
  | d :: cs, v :: vs, j, j', hd, how, hr => by
    simp only [List.all_cons, Bool.and_eq_true] at hd
    simp only [RDs] at *
    refine ⟨RD.plainC hd.1 hrd (fun p hp => by simpa using how 0 p (by simpa using hp)) hr.1, RDs.plainC hrd cs vs (j + 1) (j' + 1) hd.2 (fun i p hp => ?_) hr.2⟩
    have := how (i + 1) p (by rw [show j + (i + 1) = j + 1 + i by omega]; exact hp)
    rw [show j' + 1 + i = j' + (i + 1) by omega]; exact this
  | [], _ :: _, _, _, _, _, hr => by simp only [RDs] at hr
  | _ :: _, [], _, _, _, _, hr => by simp only [RDs] at hr
theorem RD.calmV {h : Array Obj} {G G' : Gh} {loc loc' : Nat → Loc} {d : D} {v : Value} (hd : Mx.calmV d = true) (hrd : cN G.rd G'.rd) (hr : RD h G loc d v) : RD h G' loc' d v := by
  cases d with
  | v x => simp only [RD] at *; exact RV.mono hrd _ _ hr
  | undef => simpa only [RD] using hr
  | cut sz m =>
    simp only [RD] at *
    obtain ⟨base, h1, h2⟩ := hr
    exact ⟨base, h1, h2.imp id (fun ⟨b, off, c, g1, g2, g3⟩ => ⟨b, off, c, g1, hrd _ _ g2, RVr.mono hrd _ _ _ _ g3⟩)⟩
  | rp c =>
    simp only [RD] at *
    obtain ⟨b, off, c', g1, g2, g3⟩ := hr
    exact ⟨b, off, c', g1, hrd _ _ g2, RVc.mono hrd _ _ _ g3⟩
  | nilp => simpa only [RD] using hr
  | _ => simp [Mx.calmV] at hd
theorem RDs.calmV {h : Array Obj} {G G' : Gh} {loc loc' : Nat → Loc} (hrd : cN G.rd G'.rd) : ∀ (cs : List D) (vs : List Value) (j j' : Nat), cs.all Mx.calmV = true → RDs h G loc j cs vs → RDs h G' loc' j' cs vs
  | [], [], _, _, _, _ => by simp only [RDs]
  | d :: cs, v :: vs, j, j', hd, hr => by
    simp only [List.all_cons, Bool.and_eq_true] at hd
    simp only [RDs] at *
    exact ⟨RD.calmV hd.1 hrd hr.1, RDs.calmV hrd cs vs (j + 1) (j' + 1) hd.2 hr.2⟩
  | [], _ :: _, _, _, _, hr => by simp only [RDs] at hr
  | _ :: _, [], _, _, _, hr => by simp only [RDs] at hr
theorem RD.calmT {h : Array Obj} {G G' : Gh} {loc loc' : Nat → Loc} {d : D} {v : Value} (hd : Mx.calmT d = true) (hrd : cN G.rd G'.rd) (hr : RD h G loc d v) : RD h G' loc' d v := by
  cases d with
  | agg cs =>
    simp only [RD] at *
    obtain ⟨vs, h1, h2⟩ := hr
    exact ⟨vs, h1, RDs.calmV hrd cs _ 0 0 (by simpa [Mx.calmT] using hd) h2⟩
  | _ => exact RD.calmV (by simpa [Mx.calmT] using hd) hrd hr
theorem RD.plain {h : Array Obj} {G G' : Gh} {k : Nat} {d : D} {v : Value} (hd : noPtr d = true) (hrd : cN G.rd G'.rd) (how : ∀ j p, G.ow (.hand k j) = some p → G'.ow (.hand k j) = some p) (hr : RD h G (Loc.hand k) d v) : RD h G' (Loc.hand k) d v := by
  have one : ∀ d v, noPtrC d = true → RD h G (Loc.hand k) d v → RD h G' (Loc.hand k) d v := by
    intro d v hd hr
    cases d with
    | own sz m =>
      have hr' : RD h G (fun _ => Loc.hand k 0) (.own sz m) v := by simpa only [RD] using hr
      have := RD.plainC (l' := Loc.hand k 0) hd hrd (how 0) hr'
      simpa only [RD] using this
    | v x => simp only [RD] at *; exact RV.mono hrd _ _ hr
    | undef => simpa only [RD] using hr
    | cut sz m =>
      have hr' : RD h G (fun _ => Loc.hand k 0) (.cut sz m) v := by simpa only [RD] using hr
      have := RD.plainC (l' := Loc.hand k 0) hd hrd (how 0) hr'
      simpa only [RD] using this
    | rp c =>
      have hr' : RD h G (fun _ => Loc.hand k 0) (.rp c) v := by simpa only [RD] using hr
      have := RD.plainC (l' := Loc.hand k 0) hd hrd (how 0) hr'
      simpa only [RD] using this
    | nilp => simpa only [RD] using hr
    | _ => simp [noPtrC] at hd
  cases d with
  | agg cs =>
    simp only [RD] at *
    obtain ⟨vs, h1, h2⟩ := hr
    exact ⟨vs, h1, RDs.plainC hrd cs _ 0 0 (by simpa [noPtr] using hd) (fun i p hp => how _ p hp) h2⟩
  | tup cs =>
    simp only [RD] at *
    obtain ⟨vs, h1, h2⟩ := hr
    have hh : ∀ (cs : List D) (vs : List Value) (j : Nat), cs.all Mx.calmT = true → RDs h G (fun _ => Loc.nowhere) j cs vs → RDs h G' (fun _ => Loc.nowhere) j cs vs := by
      intro cs
      induction cs with
      | nil => intro vs j _ hr; cases vs with
        | nil => simp only [RDs]
        | cons _ _ => simp only [RDs] at hr
      | cons d r ih => intro vs j hc hr; cases vs with
        | nil => simp only [RDs] at hr
        | cons v vs =>
          simp only [List.all_cons, Bool.and_eq_true] at hc
          simp only [RDs] at *
          exact ⟨RD.calmT hc.1 hrd hr.1, ih vs _ hc.2 hr.2⟩
    exact ⟨vs, h1, hh cs _ 0 (by simpa [noPtr] using hd) h2⟩
  | _ => exact one _ v (by simpa [noPtr] using hd) hr
def subG (G : Gh) (os : List Nat) : Gh where
  rd := G.rd
  ob := fun i => match os[i]? with | some o => G.ob o | none => none
  ow := fun l => match l with
    | .hand k j => G.ow (.hand k j)
    | .cell i off => match os[i]? with | some o => G.ow (.cell o off) | none => none
    | _ => none
theorem subG_cell {G : Gh} {os : List Nat} {i o : Nat} (h : os[i]? = some o) (off : Nat) : (subG G os).ow (.cell i off) = G.ow (.cell o off) := by simp only [subG, h]
theorem subG_ob {G : Gh} {os : List Nat} {i o : Nat} (h : os[i]? = some o) : (subG G os).ob i = G.ob o := by simp only [subG, h]
theorem subG_ob' {G : Gh} {os : List Nat} {i b : Nat} (h : (subG G os).ob i = some b) : ∃ o, os[i]? = some o ∧ G.ob o = some b := by
  simp only [subG] at h
  split at h
  · rename_i o ho; exact ⟨o, ho, h⟩
  · cases h
theorem subG_ow' {G : Gh} {os : List Nat} {l : Loc} {p : Nat × Nat} (h : (subG G os).ow l = some p) : (∃ k j, l = .hand k j ∧ G.ow (.hand k j) = some p) ∨ (∃ i off o, l = .cell i off ∧ os[i]? = some o ∧ G.ow (.cell o off) = some p) := by
  cases l with
  | hand k j => exact .inl ⟨k, j, rfl, h⟩
  | cell i off =>
    simp only [subG] at h
    split at h
    · rename_i o ho; exact .inr ⟨i, off, o, rfl, ho, h⟩
    · cases h
  | _ => cases h
def upL (os : List Nat) : Loc → Loc
  | .cell i off => match os[i]? with | some o => .cell o off | none => .nowhere
  | l => l
theorem subG_up {G : Gh} {os : List Nat} {l : Loc} {p : Nat × Nat} (h : (subG G os).ow l = some p) : G.ow (upL os l) = some p := by
  rcases subG_ow' h with ⟨k, j, rfl, h1⟩ | ⟨i, off, o, rfl, h1, h2⟩
  · exact h1
  · simp only [upL, h1]; exact h2
theorem nodup_get {os : List Nat} (nd : os.Nodup) {i i' o : Nat} (h : os[i]? = some o) (h' : os[i']? = some o) : i = i' := by
  have hi : i < os.length := by
    rcases Nat.lt_or_ge i os.length with hl | hl
    · exact hl
    · rw [List.getElem?_eq_none hl] at h; cases h
  exact (List.getElem?_inj hi nd).1 (h.trans h'.symm)
theorem subG_inv {h : Array Obj} {G : Gh} {os : List Nat} (nd : os.Nodup) (I : Inv h G) : Inv h (subG G os) where
  rd_ok := I.rd_ok
  ob_lt := fun i b hb => by obtain ⟨o, _, h2⟩ := subG_ob' hb; exact I.ob_lt o b h2
  ob_rd := fun i b hb => by obtain ⟨o, _, h2⟩ := subG_ob' hb; exact I.ob_rd o b h2
  ob_inj := fun i i' b hb hb' => by
    obtain ⟨o, h1, h2⟩ := subG_ob' hb
    obtain ⟨o', h1', h2'⟩ := subG_ob' hb'
    have := I.ob_inj o o' b h2 h2'
    subst this
    exact nodup_get nd h1 h1'
  ow_lt := fun l b f hl => I.ow_lt _ b f (subG_up hl)
  ow_rd := fun l b f hl => I.ow_rd _ b f (subG_up hl)
  ow_ob := fun l b f i hl hb => by obtain ⟨o, _, h2⟩ := subG_ob' hb; exact I.ow_ob _ b f o (subG_up hl) h2
  ow_inj := fun l l' b f f' hl hl' => by
    have e := I.ow_inj _ _ b f f' (subG_up hl) (subG_up hl')
    rcases subG_ow' hl with ⟨k, j, rfl, h1⟩ | ⟨i, off, o, rfl, h1, h2⟩ <;> rcases subG_ow' hl' with ⟨k', j', rfl, h1'⟩ | ⟨i', off', o', rfl, h1', h2'⟩
    · exact e
    · simp only [upL, h1'] at e; cases e
    · simp only [upL, h1] at e; cases e
    · simp only [upL, h1, h1', Loc.cell.injEq] at e
      obtain ⟨rfl, rfl⟩ := e
      rw [nodup_get nd h1 h1']
theorem subG_mine {G : Gh} {os : List Nat} {b : Nat} (h : mine (subG G os) b) : mine G b := by
  rcases h with ⟨i, hi⟩ | ⟨l, f, hl⟩
  · obtain ⟨o, _, h2⟩ := subG_ob' hi; exact .inl ⟨o, h2⟩
  · exact .inr ⟨_, f, subG_up hl⟩
theorem RD.toP {h : Array Obj} {G : Gh} {os : List Nat} {l : Loc} {n : Nat} {d : D} {v : Value} (ha : argP n d = true) (hin : ∀ o f, d = .ptr o f → os[os.idxOf o]? = some o) (hr : RD h G (fun _ => l) d v) : RD h (subG G os) (fun _ => l) (Mx.toP os d) v := by
  cases d with
  | ptr o f =>
    simp only [Mx.toP, RD] at *
    obtain ⟨b, h1, h2⟩ := hr
    exact ⟨b, by rw [subG_ob (hin o f rfl)]; exact h1, h2⟩
  | own sz m => simp [argP, bB] at ha
  | v x => exact RD.calmV (G := G) rfl (cN.refl _) hr
  | undef => exact RD.calmV (G := G) rfl (cN.refl _) hr
  | cut _ _ => exact RD.calmV (G := G) rfl (cN.refl _) hr
  | rp _ => exact RD.calmV (G := G) rfl (cN.refl _) hr
  | nilp => exact RD.calmV (G := G) rfl (cN.refl _) hr
  | _ => simp [argP, noPtrC] at ha
theorem RDs.toP {h : Array Obj} {G : Gh} {os : List Nat} {n : Nat} : ∀ (cs : List D) (vs : List Value) (j : Nat), cs.all (argP n) = true → (∀ o f, D.ptr o f ∈ cs → os[os.idxOf o]? = some o) → RDs h G (fun _ => Loc.nowhere) j cs vs → RDs h (subG G os) (fun _ => Loc.nowhere) j (cs.map (Mx.toP os)) vs
  | [], [], _, _, _, _ => by simp only [List.map_nil, RDs]
  | d :: cs, v :: vs, j, ha, hin, hr => by
    simp only [List.all_cons, Bool.and_eq_true] at ha
    simp only [List.map_cons, RDs] at *
    exact ⟨RD.toP ha.1 (fun o f hd => hin o f (by rw [hd]; simp)) hr.1, RDs.toP cs vs (j + 1) ha.2 (fun o f hd => hin o f (by simp [hd])) hr.2⟩
  | [], _ :: _, _, _, _, hr => by simp only [RDs] at hr
  | _ :: _, [], _, _, _, hr => by simp only [RDs] at hr
def hasP (o : Nat) : D → Prop
  | .ptr q _ => q = o
  | .clo _ cs => ∃ f, D.ptr o f ∈ cs
  | _ => False
theorem RD.toD {h : Array Obj} {G : Gh} {os : List Nat} {k n : Nat} {d : D} {v : Value} (ha : argOk n d = true) (hin : ∀ o, hasP o d → os[os.idxOf o]? = some o) (hr : RD h G (Loc.hand k) d v) : RD h (subG G os) (Loc.hand k) (Mx.toD os d) v := by
  cases d with
  | clo f cs =>
    simp only [Mx.toD, RD] at *
    obtain ⟨vs, h1, h2⟩ := hr
    exact ⟨vs, h1, RDs.toP cs _ 0 (by simpa [argOk] using ha) (fun o g hg => hin o ⟨g, hg⟩) h2⟩
  | ptr o f =>
    simp only [Mx.toD, Mx.toP, RD] at *
    obtain ⟨b, h1, h2⟩ := hr
    exact ⟨b, by rw [subG_ob (hin o rfl)]; exact h1, h2⟩
  | _ => exact RD.plain (G := G) (G' := subG G os) ha (cN.refl _) (fun _ _ hp => hp) hr
theorem toD_ok {os : List Nat} {n : Nat} {d : D} (ha : argOk n d = true) (hv : bx d = true) : bx (toD os d) = true ∧ ∀ j, cT (toD os d) j = cT d j := by
  cases d with
  | clo f cs =>
    refine ⟨?_, fun _ => rfl⟩
    simp only [toD, bx, aL] at *
    rw [List.all_eq_true] at *
    intro d' hd'
    obtain ⟨d, hd, rfl⟩ := List.mem_map.1 hd'
    have := hv d hd
    cases d <;> first | rfl | simp [bD] at this
  | ptr o f => exact ⟨rfl, fun _ => rfl⟩
  | _ => exact ⟨hv, fun _ => rfl⟩
def joinG (G G1 : Gh) (os : List Nat) : Gh where
  rd := G1.rd
  ob := G.ob
  ow := fun l => match l with
    | .hand k j => G1.ow (.hand k j)
    | .cell o off => bif os.contains o then G1.ow (.cell (os.idxOf o) off) else G.ow (.cell o off)
    | _ => none
theorem idx_in {os : List Nat} {o : Nat} (h : o ∈ os) : os[os.idxOf o]? = some o := by
  have hl : os.idxOf o < os.length := List.idxOf_lt_length_of_mem h
  rw [List.getElem?_eq_getElem hl, List.getElem_idxOf hl]
theorem joinG_in {G G1 : Gh} {os : List Nat} {o : Nat} (h : o ∈ os) (off : Nat) : (joinG G G1 os).ow (.cell o off) = G1.ow (.cell (os.idxOf o) off) := by
  simp [joinG, h]
theorem joinG_out {G G1 : Gh} {os : List Nat} {o : Nat} (h : o ∉ os) (off : Nat) : (joinG G G1 os).ow (.cell o off) = G.ow (.cell o off) := by
  simp [joinG, h]
theorem joinG_ow' {G G1 : Gh} {os : List Nat} {l : Loc} {p : Nat × Nat} (h : (joinG G G1 os).ow l = some p) :
    (∃ k j, l = .hand k j ∧ G1.ow (.hand k j) = some p) ∨ (∃ o off, l = .cell o off ∧ o ∈ os ∧ G1.ow (.cell (os.idxOf o) off) = some p) ∨ (∃ o off, l = .cell o off ∧ o ∉ os ∧ G.ow (.cell o off) = some p) := by
  cases l with
  | hand k j => exact .inl ⟨k, j, rfl, h⟩
  | cell o off =>
    by_cases ho : o ∈ os
    · rw [joinG_in ho] at h; exact .inr (.inl ⟨o, off, rfl, ho, h⟩)
    · rw [joinG_out ho] at h; exact .inr (.inr ⟨o, off, rfl, ho, h⟩)
  | _ => cases h
theorem Sem.frame {P : Program} {f : FuncId} {args : List D} {S S0 S1 : aA} {d : D} {os : List Nat} (nd : os.Nodup) (hin : ∀ a ∈ args, ∀ o, hasP o a → o ∈ os) (hp : pickS S os = some S0) (pl : plainS S0 = true) (ha : args.all (argOk S.length) = true) (hd : noPtr d = true) (pl1 : plainS S1 = true) (hl : S1.length = S0.length)
    (hs : Mx.Sem P f (args.map (toD os)) S0 d S1) : Mx.Sem P f args S d (putS S os S1) := by
  intro w G vals R low A
  have I := R.inv
  have get := fun i o h => pickS_get hp i o h
  have len := pickS_len hp
  have ltS : ∀ o ∈ os, o < S.length := by
    intro o ho
    obtain ⟨cs, _, h2⟩ := get _ o (idx_in ho)
    rcases Nat.lt_or_ge o S.length with hlt | hge
    · exact hlt
    · rw [List.getElem?_eq_none hge] at h2; cases h2
  have osget : ∀ i, i < S0.length → ∃ o, os[i]? = some o := fun i hi => ⟨os[i]'(by omega), List.getElem?_eq_getElem _⟩
  have R0 : Rel w.heap (subG G os) #[] ⟨[], S0⟩ := by
    refine Rel.bare (subG_inv nd I) ?_ ?_ ?_ ?_
    · intro i cs hcs
      have hi : i < S0.length := by
        rcases Nat.lt_or_ge i S0.length with hlt | hge
        · exact hlt
        · rw [List.getElem?_eq_none hge] at hcs; cases hcs
      obtain ⟨o, ho⟩ := osget i hi
      obtain ⟨cs', h1, h2⟩ := get i o ho
      rw [hcs] at h1; cases h1
      obtain ⟨b, c, e, fr, g1, g2, g3, g4⟩ := R.obj o cs h2
      refine ⟨b, c, e, fr, by rw [subG_ob ho]; exact g1, g2, g3, RDs.plainC (G := G) (G' := subG G os) (loc := Loc.cell o) (loc' := Loc.cell i) (cN.refl _) cs _ 0 0 ?_ (fun j p hp => by rw [subG_cell ho]; exact hp) g4⟩
      exact List.all_eq_true.1 pl cs (List.mem_of_getElem? hcs)
    · intro i cs hcs
      have hi : i < S0.length := by
        rcases Nat.lt_or_ge i S0.length with hlt | hge
        · exact hlt
        · rw [List.getElem?_eq_none hge] at hcs; cases hcs
      obtain ⟨o, ho⟩ := osget i hi
      obtain ⟨cs', h1, h2⟩ := get i o ho
      rw [hcs] at h1; cases h1
      exact R.obc o cs h2
    · intro i hi
      have : os[i]? = none := List.getElem?_eq_none (by omega)
      simp only [subG, this]
    · intro l p hh hl'
      rcases subG_ow' hl' with ⟨k, j, rfl, _⟩ | ⟨i, off, o, rfl, h1, h2⟩
      · exact absurd rfl (hh k j)
      · have := R.own (.cell o off) p (fun _ _ h => by cases h) h2
        obtain ⟨cs', g1, g2⟩ := get i o h1
        simp only [cZ, g2] at this
        simp only [cZ, g1]
        exact this
  have low0 : Low S0 := by
    intro i cs hcs
    have := List.all_eq_true.1 pl cs (List.mem_of_getElem? hcs)
    rw [List.all_eq_true] at *
    intro d hd
    have := this d hd
    cases d <;> first | rfl | simp [noPtrC] at this
  have A0 : Args w.heap (subG G os) (args.map (toD os)) vals := by
    refine ⟨by simp [A.len], ?_, ?_⟩
    · intro j d' hd'
      rw [List.getElem?_map] at hd'
      cases hj : args[j]? with
      | none => rw [hj] at hd'; cases hd'
      | some a =>
        rw [hj] at hd'; cases hd'
        obtain ⟨v, h1, h2, h3⟩ := A.rd j a hj
        have hm := List.mem_of_getElem? hj
        have hao := List.all_eq_true.1 ha a hm
        exact ⟨v, h1, RD.toD hao (fun o ho => idx_in (hin a hm o ho)) h2, (toD_ok hao h3).1⟩
    · intro k j p hp'
      obtain ⟨a, h1, h2⟩ := A.own k j p hp'
      obtain ⟨v, _, _, h3⟩ := A.rd k a h1
      have hm := List.mem_of_getElem? h1
      exact ⟨toD os a, by rw [List.getElem?_map, h1]; rfl, by rw [(toD_ok (List.all_eq_true.1 ha a hm) h3).2]; exact h2⟩
  refine (hs w (subG G os) vals R0 low0 A0).mono ?_
  rintro v w' ⟨G1, R1, low1, hg, hlen1, hres⟩
  have I1 := R1.inv
  have hob1 : ∀ i o, os[i]? = some o → G1.ob i = G.ob o := by
    intro i o ho
    have hi : i < S0.length := by
      rw [len]
      rcases Nat.lt_or_ge i os.length with hlt | hge
      · exact hlt
      · rw [List.getElem?_eq_none hge] at ho; cases ho
    rw [hg.ob i hi, subG_ob ho]
  have sub_mine : ∀ b, mine (subG G os) b → mine G b := fun b h => subG_mine h
  -- a block of what was not handed on
  have notin_ob : ∀ o b, o ∉ os → G.ob o = some b → ¬ mine (subG G os) b := by
    intro o b ho hb hm
    rcases hm with ⟨i, hi⟩ | ⟨l, f, hl'⟩
    · obtain ⟨o', h1, h2⟩ := subG_ob' hi
      have := I.ob_inj o o' b hb h2
      subst this
      exact ho (List.mem_of_getElem? h1)
    · exact I.ow_ob _ b f o (subG_up hl') hb
  have notin_ow : ∀ o off b f, o ∉ os → G.ow (.cell o off) = some (b, f) → ¬ mine (subG G os) b := by
    intro o off b f ho hb hm
    rcases hm with ⟨i, hi⟩ | ⟨l, f', hl'⟩
    · obtain ⟨o', h1, h2⟩ := subG_ob' hi
      exact I.ow_ob _ b f o' hb h2
    · have e := I.ow_inj _ _ b f f' hb (subG_up hl')
      rcases subG_ow' hl' with ⟨k, j, rfl, h1⟩ | ⟨i, off', o', rfl, h1, h2⟩
      · cases e
      · simp only [upL, h1, Loc.cell.injEq] at e
        exact ho (e.1 ▸ List.mem_of_getElem? h1)
  have keep : ∀ b, b < w.heap.size → ¬ mine (subG G os) b → w'.heap[b]? = w.heap[b]? := hg.step.keep
  have rd_none : ∀ b, b < w.heap.size → G.rd b = none → ¬ mine (subG G os) b → G1.rd b = none := by
    intro b hb hr hm
    cases h : G1.rd b with
    | none => rfl
    | some c =>
      rcases hg.step.rdn b (by rw [h]; exact fun h => by cases h) with h1 | h1 | h1
      · exact absurd hr h1
      · exact absurd h1 hm
      · omega
  have mine1 : ∀ b, mine G1 b → mine (subG G os) b ∨ w.heap.size ≤ b := hg.step.mine
  have I2 : Inv w'.heap (joinG G G1 os) := {
    rd_ok := I1.rd_ok
    ob_lt := fun o b hb => Nat.lt_of_lt_of_le (I.ob_lt o b hb) hg.step.size
    ob_rd := fun o b hb => by
      by_cases ho : o ∈ os
      · exact I1.ob_rd (os.idxOf o) b (by rw [hob1 _ o (idx_in ho)]; exact hb)
      · exact rd_none b (I.ob_lt o b hb) (I.ob_rd o b hb) (notin_ob o b ho hb)
    ob_inj := I.ob_inj
    ow_lt := fun l b f hl' => by
      rcases joinG_ow' hl' with ⟨k, j, rfl, h1⟩ | ⟨o, off, rfl, ho, h1⟩ | ⟨o, off, rfl, ho, h1⟩
      · exact I1.ow_lt _ b f h1
      · exact I1.ow_lt _ b f h1
      · exact Nat.lt_of_lt_of_le (I.ow_lt _ b f h1) hg.step.size
    ow_rd := fun l b f hl' => by
      rcases joinG_ow' hl' with ⟨k, j, rfl, h1⟩ | ⟨o, off, rfl, ho, h1⟩ | ⟨o, off, rfl, ho, h1⟩
      · exact I1.ow_rd _ b f h1
      · exact I1.ow_rd _ b f h1
      · exact rd_none b (I.ow_lt _ b f h1) (I.ow_rd _ b f h1) (notin_ow o off b f ho h1)
    ow_ob := fun l b f o hl' hb => by
      have hb' : G.ob o = some b := hb
      have hself : ∀ l1, G1.ow l1 = some (b, f) → False := by
        intro l1 h1
        by_cases ho : o ∈ os
        · exact I1.ow_ob _ b f (os.idxOf o) h1 (by rw [hob1 _ o (idx_in ho)]; exact hb')
        · rcases mine1 b (.inr ⟨_, f, h1⟩) with h2 | h2
          · exact notin_ob o b ho hb' h2
          · have := I.ob_lt o b hb'; omega
      rcases joinG_ow' hl' with ⟨k, j, rfl, h1⟩ | ⟨o', off, rfl, ho, h1⟩ | ⟨o', off, rfl, ho, h1⟩
      · exact hself _ h1
      · exact hself _ h1
      · exact I.ow_ob _ b f o h1 hb'
    ow_inj := fun l l' b f f' h1 h2 => by
      have cross : ∀ l1 o off f f', o ∉ os → G1.ow l1 = some (b, f) → G.ow (.cell o off) = some (b, f') → False := by
        intro l1 o off f f' ho g1 g2
        rcases mine1 b (.inr ⟨_, f, g1⟩) with h | h
        · exact notin_ow o off b f' ho g2 h
        · have := I.ow_lt _ b f' g2; omega
      rcases joinG_ow' h1 with ⟨k, j, rfl, g1⟩ | ⟨o, off, rfl, ho, g1⟩ | ⟨o, off, rfl, ho, g1⟩ <;> rcases joinG_ow' h2 with ⟨k', j', rfl, k1⟩ | ⟨o', off', rfl, ho', k1⟩ | ⟨o', off', rfl, ho', k1⟩
      · exact I1.ow_inj _ _ b f f' g1 k1
      · have := I1.ow_inj _ _ b f f' g1 k1; cases this
      · exact (cross _ _ _ _ _ ho' g1 k1).elim
      · have := I1.ow_inj _ _ b f f' g1 k1; cases this
      · have := I1.ow_inj _ _ b f f' g1 k1
        simp only [Loc.cell.injEq] at this
        obtain ⟨e1, rfl⟩ := this
        have e2 := idx_in ho
        rw [e1, idx_in ho'] at e2
        cases e2; rfl
      · exact (cross _ _ _ _ _ ho' g1 k1).elim
      · exact (cross _ _ _ _ _ ho k1 g1).elim
      · exact (cross _ _ _ _ _ ho k1 g1).elim
      · exact I.ow_inj _ _ b f f' g1 k1 }
  have hrd : cN G.rd G1.rd := hg.step.rd
  have F2 : Mx.Fr (fun l => ¬ ∃ o off, l = .cell o off ∧ o ∉ os) w.heap G w'.heap (joinG G G1 os) := by
    refine ⟨hrd, fun _ _ h => h, ?_, ?_⟩
    · intro l p _ ht hl'
      obtain ⟨o, off, rfl, ho⟩ := Classical.not_not.1 ht
      rw [joinG_out ho]; exact hl'
    · intro l b f _ ht hl'
      obtain ⟨o, off, rfl, ho⟩ := Classical.not_not.1 ht
      exact keep b (I.ow_lt _ b f hl') (notin_ow o off b f ho hl')
  have Sget : ∀ o cs, (putS S os S1)[o]? = some cs → (o ∈ os ∧ S1[os.idxOf o]? = some cs) ∨ (o ∉ os ∧ S[o]? = some cs) := by
    intro o cs hcs
    by_cases ho : o ∈ os
    · rw [putS_in S os S1 nd (by rw [hl, len]) ltS _ o (idx_in ho)] at hcs; exact .inl ⟨ho, hcs⟩
    · rw [putS_out S os S1 o ho] at hcs; exact .inr ⟨ho, hcs⟩
  have R2 : Rel w'.heap (joinG G G1 os) #[] ⟨[], putS S os S1⟩ := by
    refine Rel.bare I2 ?_ ?_ ?_ ?_
    · intro o cs hcs
      rcases Sget o cs hcs with ⟨ho, h1⟩ | ⟨ho, h1⟩
      · obtain ⟨b, c, e, fr, g1, g2, g3, g4⟩ := R1.obj _ cs h1
        refine ⟨b, c, e, fr, by rw [hob1 _ o (idx_in ho)] at g1; exact g1, g2, g3, RDs.plainC (G := G1) (G' := joinG G G1 os) (loc := Loc.cell (os.idxOf o)) (loc' := Loc.cell o) (cN.refl _) cs _ 0 0 ?_ (fun j p hp => by rw [joinG_in ho]; exact hp) g4⟩
        exact List.all_eq_true.1 pl1 cs (List.mem_of_getElem? h1)
      · obtain ⟨b, c, e, fr, g1, g2, g3, g4⟩ := R.obj o cs h1
        refine ⟨b, c, e, fr, g1, by rw [keep b (I.ob_lt o b g1) (notin_ob o b ho g1)]; exact g2, g3, RDs.fr F2 _ (fun _ => rfl) _ _ _ (frees.cell 0 cs (R.obc o cs h1) (fun i d' _ _ => ?_)) g4⟩
        exact fun h => h ⟨o, _, rfl, ho⟩
    · intro o cs hcs
      rcases Sget o cs hcs with ⟨ho, h1⟩ | ⟨ho, h1⟩
      · exact R1.obc _ cs h1
      · exact R.obc _ cs h1
    · intro o ho
      exact R.obn o (by rw [putS_len] at ho; exact ho)
    · intro l p hh hl'
      rcases joinG_ow' hl' with ⟨k, j, rfl, h1⟩ | ⟨o, off, rfl, ho, h1⟩ | ⟨o, off, rfl, ho, h1⟩
      · exact absurd rfl (hh k j)
      · have := R1.own (.cell (os.idxOf o) off) p (fun _ _ h => by cases h) h1
        simp only [cZ] at this ⊢
        rw [putS_in S os S1 nd (by rw [hl, len]) ltS _ o (idx_in ho)]
        exact this
      · have := R.own (.cell o off) p (fun _ _ h => by cases h) h1
        simp only [cZ] at this ⊢
        rw [putS_out S os S1 o ho]
        exact this
  have low2 : Low (putS S os S1) := by
    intro o cs hcs
    rcases Sget o cs hcs with ⟨ho, h1⟩ | ⟨ho, h1⟩
    · have := List.all_eq_true.1 pl1 cs (List.mem_of_getElem? h1)
      rw [List.all_eq_true] at *
      intro d hd
      have := this d hd
      cases d <;> first | rfl | simp [noPtrC] at this
    · exact low o cs h1
  refine ⟨joinG G G1 os, R2, low2, ⟨⟨hg.step.os, hg.step.tape, hg.step.output, hg.step.size, ?_, ?_, hrd, ?_⟩, by simp [putS_len], fun _ _ => rfl⟩, putS_len _ _ _, ?_⟩
  · intro b hb hm
    exact keep b hb (fun h => hm (sub_mine b h))
  · rintro b (⟨o, ho⟩ | ⟨l, f, hl'⟩)
    · exact .inl (.inl ⟨o, ho⟩)
    · rcases joinG_ow' hl' with ⟨k, j, rfl, h1⟩ | ⟨o, off, rfl, ho, h1⟩ | ⟨o, off, rfl, ho, h1⟩
      · exact (mine1 b (.inr ⟨_, f, h1⟩)).imp (sub_mine b) id
      · exact (mine1 b (.inr ⟨_, f, h1⟩)).imp (sub_mine b) id
      · exact .inl (.inr ⟨_, f, h1⟩)
  · intro b hb
    exact (hg.step.rdn b hb).imp id (fun h => h.imp (sub_mine b) id)
  · refine ⟨RD.plain (G := G1) (G' := joinG G G1 os) hd (cN.refl _) (fun _ _ hp => hp) hres.rd, hres.ok, ?_⟩
    intro k j p hp'
    exact hres.own k j p hp'
theorem seen_mem (a : D) : ∀ (acc : List Nat) (o : Nat), (o ∈ acc → o ∈ seenD acc a) ∧ (hasP o a → o ∈ seenD acc a) ∧ (acc.Nodup → (seenD acc a).Nodup) := by
  have one : ∀ (d : D) (acc : List Nat) (o : Nat), (o ∈ acc → o ∈ seenP acc d) ∧ (∀ f, d = .ptr o f → o ∈ seenP acc d) ∧ (acc.Nodup → (seenP acc d).Nodup) := by
    intro d acc o
    cases d with
    | ptr q f =>
      simp only [seenP]
      cases hc : acc.contains q with
      | true =>
        have hq : q ∈ acc := by simpa using hc
        refine ⟨fun h => h, fun f h => ?_, fun h => h⟩
        cases h; exact hq
      | false =>
        have hq : q ∉ acc := by simpa using hc
        refine ⟨fun h => by simp [h], fun f h => (by cases h; simp), fun h => ?_⟩
        simp only [cond_false]
        rw [List.nodup_append]
        refine ⟨h, by simp, ?_⟩
        intro a ha b hb
        simp at hb; subst hb
        exact fun e => hq (e ▸ ha)
    | _ => exact ⟨fun h => h, fun f h => (by cases h), fun h => h⟩
  intro acc o
  cases a with
  | clo f cs =>
    simp only [seenD, hasP]
    induction cs generalizing acc with
    | nil => exact ⟨fun h => h, fun ⟨_, h⟩ => by simp at h, fun h => h⟩
    | cons d cs ih =>
      simp only [List.foldl_cons]
      obtain ⟨i1, i2, i3⟩ := ih (seenP acc d)
      obtain ⟨o1, o2, o3⟩ := one d acc o
      refine ⟨fun h => i1 (o1 h), fun ⟨g, hg⟩ => ?_, fun h => i3 (o3 h)⟩
      rcases List.mem_cons.1 hg with hg | hg
      · exact i1 (o2 g hg.symm)
      · exact i2 ⟨g, hg⟩
  | ptr q f =>
    obtain ⟨o1, o2, o3⟩ := one (.ptr q f) acc o
    exact ⟨o1, fun h => o2 f (by rw [show q = o from h]), o3⟩
  | _ => exact ⟨fun h => h, fun h => h.elim, fun h => h⟩
theorem objsOf_ok (args : List D) : (objsOf args).Nodup ∧ ∀ a ∈ args, ∀ o, hasP o a → o ∈ objsOf args := by
  have key : ∀ (args : List D) (acc : List Nat), (acc.Nodup → (args.foldl seenD acc).Nodup) ∧ (∀ o ∈ acc, o ∈ args.foldl seenD acc) ∧ ∀ a ∈ args, ∀ o, hasP o a → o ∈ args.foldl seenD acc := by
    intro args
    induction args with
    | nil => intro acc; exact ⟨fun h => h, fun o h => h, fun a h => by simp at h⟩
    | cons a args ih =>
      intro acc
      simp only [List.foldl_cons]
      obtain ⟨i1, i2, i3⟩ := ih (seenD acc a)
      refine ⟨fun h => i1 ((seen_mem a acc 0).2.2 h), fun o h => i2 o ((seen_mem a acc o).1 h), fun a' ha' o ho => ?_⟩
      rcases List.mem_cons.1 ha' with rfl | ha'
      · exact i2 o ((seen_mem a' acc o).2.1 ho)
      · exact i3 a' ha' o ho
  obtain ⟨h1, _, h3⟩ := key args []
  exact ⟨h1 (by simp), h3⟩
theorem cz {P : Program} {C : ak} (SC : cE P C) : cE P C.wide := by
  intro f args S d S' he
  unfold ak.wide at he
  split at he
  · exact SC f args [] d S' he
  · rename_i hne
    split at he
    · rename_i S0 hp
      cases hc : (plainS S0 && args.all (argOk S.length) && decide (objsOf args).Nodup) with
      | false => rw [hc] at he; cases he
      | true =>
        rw [hc, cond_true] at he
        split at he
        · rename_i d1 S1 hC
          cases hq : (noPtr d1 && plainS S1 && S1.length == S0.length) with
          | false => rw [hq] at he; cases he
          | true =>
            rw [hq, cond_true] at he
            simp only [Option.some.injEq, Prod.mk.injEq] at he
            obtain ⟨rfl, rfl⟩ := he
            simp only [Bool.and_eq_true, beq_iff_eq, decide_eq_true_eq] at hc hq
            obtain ⟨nd, hin⟩ := objsOf_ok args
            exact Sem.frame nd hin hp hc.1.1 hc.1.2 hq.1.1 hq.1.2 hq.2 (SC _ _ _ _ _ hC)
        · cases he
    · cases he
theorem cB {C : ak} {f : Nat} {args args0 : List D} {cs : List D} {S S0 S1 S' : aA} {d : D} (os : List Nat) (h1 : objsOf args = os) (h2 : pickS (cs :: S) os = some S0) (h3 : (plainS S0 && args.all (argOk (cs :: S).length)) = true) (h4 : args.map (toD os) = args0) (h : C f args0 S0 = some (d, S1)) (h5 : (noPtr d && plainS S1 && S1.length == S0.length) = true) (h6 : putS (cs :: S) os S1 = S') : C.wide f args (cs :: S) = some (d, S') := by
  subst h1 h4 h6
  have nd := (objsOf_ok args).1
  simp only [ak.wide, h2, h3, decide_eq_true nd, Bool.and_true, cond_true, h, h5]
end Go.Mx
namespace Go.Mx
open Go
def ab {α : Type} (f : α → List V) (l : List α) : List (List V) := l.map f
section
variable {α : Type} (f : α → List V) (l m : List α)
theorem mapR_len : (ab f l).length = l.length := by simp [ab]
theorem mapR_app : ab f l ++ ab f m = ab f (l ++ m) := by simp [ab]
theorem mapR_nil : ab f [] = [] := rfl
theorem mapR_emp : (ab f l).isEmpty = l.isEmpty := by cases l <;> rfl
def cI (l : List α) (lo hi : Int) : List α := (l.take hi.toNat).drop lo.toNat
theorem mapR_sub (lo hi : Int) : subList (ab f l) lo.toNat hi.toNat = ab f (cI l lo hi) := by simp [ab, subList, cI]
theorem ca {l : List α} {i : Int} {x : α} (h : idx l i = some x) : (ab f l)[i.toNat]? = some (f x) := idx_map h
theorem db (n : Nat) (x : α) : (ab f l).set n (f x) = ab f (l.set n x) := by simp [ab]
theorem df (n : Nat) (x : α) : List.replicate n (f x) = ab f (List.replicate n x) := by simp [ab]
theorem dj {f : α → List V} (hf : ∀ a b, f a = f b → a = b) {l m : List α} : ab f l = ab f m ↔ l = m := map_inj hf
theorem mapR_flat {f : α → List V} (hf : ∀ x, flatR (f x) = true) : (ab f l).all flatR = true := by
  simp only [ab, List.all_eq_true, List.mem_map]
  rintro _ ⟨x, _, rfl⟩; exact hf x
end
def setL {α : Type} (l : List α) (i : Int) (x : α) : List α := l.set i.toNat x
def cJ (a b : ByteArray) : Bool := a.toList == b.toList
def sltB (a b : ByteArray) : Bool := Op.bytesLess a.toList b.toList
theorem seq_m (a b : ByteArray) : (a.toList == b.toList) = cJ a b := rfl
theorem slt_m (a b : ByteArray) : Op.bytesLess a.toList b.toList = sltB a b := rfl
theorem str0 : ({ data := #[] } : ByteArray) = ByteArray.empty := rfl
def byL (s : ByteArray) : List Int := s.data.toList.map fun b => (b.toNat : Int)
theorem byL_m (s : ByteArray) : dv s = ab bA (byL s) := by simp [dv, ab, byL, bA]
def strL (l : List Int) : ByteArray := ⟨(l.map fun n => UInt8.ofNat n.toNat).toArray⟩
theorem strL_m (l : List Int) : du (ab bA l) = strL l := by simp [du, ab, strL, bA]
def allB (l : List Int) : Bool := l.all fun n => decide (0 ≤ n ∧ n < 256)
theorem allB_m : ∀ l : List Int, allBytes (ab bA l) = allB l
  | [] => rfl
  | n :: l => by
    have := allB_m l
    simp only [ab, List.map_cons, bA, allBytes, allB, List.all_cons] at *
    rw [this]
theorem strL0 : du [] = ByteArray.empty := rfl
theorem row_oneB (n : Int) : [[V.i .u8 n]] = ab bA [n] := rfl
theorem row_consB (n : Int) (l : List Int) : [V.i .u8 n] :: ab bA l = ab bA (n :: l) := rfl
theorem row_oneI (n : Int) : [[V.i .i64 n]] = ab rowI [n] := rfl
theorem row_consI (n : Int) (l : List Int) : [V.i .i64 n] :: ab rowI l = ab rowI (n :: l) := rfl
theorem row_oneS (n : ByteArray) : [[V.s n]] = ab aY [n] := rfl
theorem row_consS (n : ByteArray) (l : List ByteArray) : [V.s n] :: ab aY l = ab aY (n :: l) := rfl
theorem flatB (l : List Int) : (ab bA l).all flatR = true := mapR_flat l (fun _ => rfl)
theorem flatI (l : List Int) : (ab rowI l).all flatR = true := mapR_flat l (fun _ => rfl)
theorem flatS (l : List ByteArray) : (ab aY l).all flatR = true := mapR_flat l (fun _ => rfl)
theorem rep_B (k : Nat) (n : Int) : List.replicate k [V.i .u8 n] = ab bA (List.replicate k n) := df bA k n
theorem rep_I (k : Nat) (n : Int) : List.replicate k [V.i .i64 n] = ab rowI (List.replicate k n) := df rowI k n
theorem set_B (l : List Int) (i n : Int) : (ab bA l).set i.toNat [V.i .u8 n] = ab bA (setL l i n) := db bA l _ n
theorem set_I (l : List Int) (i n : Int) : (ab rowI l).set i.toNat [V.i .i64 n] = ab rowI (setL l i n) := db rowI l _ n
theorem set_S (l : List ByteArray) (i : Int) (n : ByteArray) : (ab aY l).set i.toNat [V.s n] = ab aY (setL l i n) := db aY l _ n
theorem cw {l m : List Int} : ab bA l = ab bA m ↔ l = m := rowB_inj
theorem cv {l m : List Int} : ab rowI l = ab rowI m ↔ l = m := rowI_inj
theorem cu {l m : List ByteArray} : ab aY l = ab aY m ↔ l = m := rowS_inj
theorem cx {α : Type} (c : Bool) (a b : α) : (bif c then some a else some b) = some (bif c then a else b) := by cases c <;> rfl
theorem modS_0 (f : List D → List D) (c : List D) (S : aA) : List.modify (c :: S) 0 f = f c :: S := rfl
theorem modS_s (f : List D → List D) (c : List D) (S : aA) (n : Nat) : List.modify (c :: S) (n + 1) f = c :: List.modify S n f := rfl
end Go.Mx
namespace Go.Mx
open Go
section
variable (T : Nat → Ty) (C : ak) (L : Loops) (ν : cC)
class Boxed (α : Type) where
  val : α
noncomputable def thenI (r : Option (Ex × St)) [b : Boxed Code] : Option (Ex × St) := andThen r (aH T C L ν b.val)
theorem aj (a b : Code) (σ : St) : aH T C L ν (.seq a b) σ = @thenI T C L ν (aH T C L ν a σ) ⟨b⟩ := evCode_seq T C L ν a b σ
theorem thenI_normal (σ : St) (b : Code) : @thenI T C L ν (some (.normal, σ)) ⟨b⟩ = aH T C L ν b σ := rfl
theorem thenI_ret (σ : St) (b : Code) : @thenI T C L ν (some (.ret, σ)) ⟨b⟩ = some (.ret, σ) := rfl
theorem thenI_exit (i : Nat) (σ : St) (b : Code) : @thenI T C L ν (some (.exit i, σ)) ⟨b⟩ = some (.exit i, σ) := rfl
noncomputable def branchI (d : D) (t : Nat) (σ : St) [a : Boxed Code] [b : Boxed (Unit × Code)] : Option (Ex × St) := branchC T C L ν d t a.val b.val.2 σ
theorem ai (t : Nat) (a b : Code) (σ : St) : aH T C L ν (.cond (.tmp t) a b) σ = @branchI T C L ν (bF σ.env t) t σ ⟨a⟩ ⟨((), b)⟩ := evCode_condC T C L ν t a b σ
theorem branchI_t (t : Nat) (a b : Code) (σ : St) : @branchI T C L ν (.v (.b true)) t σ ⟨a⟩ ⟨((), b)⟩ = aH T C L ν a (aw ν t true σ) := rfl
theorem branchI_f (t : Nat) (a b : Code) (σ : St) : @branchI T C L ν (.v (.b false)) t σ ⟨a⟩ ⟨((), b)⟩ = aH T C L ν b (aw ν t false σ) := rfl
noncomputable def opsI (r : Option St) [ops : Boxed (List Oper)] [rest : Boxed (Unit × List Oper)] : Option St := match r with
  | some σ => evOps T C ν ops.val rest.val.2 σ
  | none => none
noncomputable def runI (σ : St) [ops : Boxed (List Oper)] [rest : Boxed (Unit × List Oper)] : Option St := evOps T C ν ops.val rest.val.2 σ
noncomputable def guardI (env : Env) (g : Option (Nat × Bool)) [ops : Boxed (List Oper)] : Option Bool := aW ops.val env g
theorem guardI_none (env : Env) (ops : List Oper) : @guardI env none ⟨ops⟩ = some true := rfl
theorem guardI_some (env : Env) (j : Nat) (w : Bool) (ops : List Oper) : @guardI env (some (j, w)) ⟨ops⟩ = aW ops env (some (j, w)) := rfl
noncomputable def stepI (o : Oper) (σ : St) (g : Option Bool) : Option St := match g with
  | none => none
  | some false => some { σ with env := putDst σ.env o.dst .undef }
  | some true => match aZ T ν o with
    | true => match be T σ.env o with
      | true => aM T C ν.ro ν.mv ν.give σ o.dst o.type o.op
      | false => none
    | false => match au C σ true o with
      | true => none
      | false => match aK T C σ true o.op with
        | some d => some { σ with env := putDst σ.env o.dst (offReg σ.env o.dst d) }
        | none => match ao o with
          | true => aM T C ν.ro ν.mv ν.give σ o.dst o.type o.op
          | false => none
theorem stepI_f (o : Oper) (σ : St) : stepI T C ν o σ (some false) = some { σ with env := putDst σ.env o.dst .undef } := rfl
theorem stepI_t (o : Oper) (σ : St) : stepI T C ν o σ (some true) = match aZ T ν o with
    | true => match be T σ.env o with
      | true => aM T C ν.ro ν.mv ν.give σ o.dst o.type o.op
      | false => none
    | false => match au C σ true o with
      | true => none
      | false => match aK T C σ true o.op with
        | some d => some { σ with env := putDst σ.env o.dst (offReg σ.env o.dst d) }
        | none => match ao o with
          | true => aM T C ν.ro ν.mv ν.give σ o.dst o.type o.op
          | false => none := rfl
theorem runI_nil (ops : List Oper) (σ : St) : @runI T C ν σ ⟨ops⟩ ⟨((), [])⟩ = some σ := rfl
theorem runI_cons (ops rest : List Oper) (o : Oper) (σ : St) : @runI T C ν σ ⟨ops⟩ ⟨((), o :: rest)⟩ = @opsI T C ν (stepI T C ν o σ (@guardI σ.env o.guard ⟨ops⟩)) ⟨ops⟩ ⟨((), rest)⟩ := by
  simp only [runI, opsI, evOps, guardI]
  rw [stepOp_w]
  rfl
theorem opsI_some (ops rest : List Oper) (σ : St) : @opsI T C ν (some σ) ⟨ops⟩ ⟨((), rest)⟩ = @runI T C ν σ ⟨ops⟩ ⟨((), rest)⟩ := rfl
theorem aa (id : Nat) (l : List Oper) (σ : St) : aH T C L ν (.region id (List.toArray l) false) σ = after (ν.keep id) (@runI T C ν σ ⟨l⟩ ⟨((), l)⟩) := by
  rw [evCode_region]
  simp only [List.toList_toArray]
  rfl
noncomputable def kindI (o : Oper) (σ : St) (g : Option Bool) : Kd := match g with
  | none => .wild
  | some false => match aZ T ν o with
    | true => .work none σ.S.length
    | false => match aJ σ.env o.dst with
      | true => .wild
      | false => .still (o.op.operands.toList.all (aX σ.env)) false (aI T σ false o.op) true true
  | some true => match aZ T ν o with
    | true => bJ T σ o.op
    | false => match aK T C σ true o.op with
      | some d => match aJ σ.env o.dst with
        | true => .wild
        | false => .still (o.op.operands.toList.all (aX σ.env)) (aO d) (aI T σ true o.op) (bm d) (bX d)
      | none => bif bH σ.env o.op then .eff else .wild
noncomputable def kindI2 (o : Oper) (σ : St) (g : Option Bool) : Kd := match g with
  | some true => fineK (aJ σ.env o.dst) o.op (kindI T C ν o σ (some true))
  | some false => kindI T C ν o σ (some false)
  | none => kindI T C ν o σ none
theorem kindI_f (o : Oper) (σ : St) : kindI2 T C ν o σ (some false) = match aZ T ν o with
    | true => .work none σ.S.length
    | false => match aJ σ.env o.dst with
      | true => .wild
      | false => .still (o.op.operands.toList.all (aX σ.env)) false (aI T σ false o.op) true true := rfl
theorem kindI_t (o : Oper) (σ : St) : kindI2 T C ν o σ (some true) = fineK (aJ σ.env o.dst) o.op (match aZ T ν o with
    | true => bJ T σ o.op
    | false => match aK T C σ true o.op with
      | some d => match aJ σ.env o.dst with
        | true => .wild
        | false => .still (o.op.operands.toList.all (aX σ.env)) (aO d) (aI T σ true o.op) (bm d) (bX d)
      | none => bif bH σ.env o.op then .eff else .wild) := rfl
noncomputable def runK (σ : St) (ks : List Kd) [ops : Boxed (List Oper)] [rest : Boxed (Unit × List Oper)] : Option (St × List Kd) := match evOpsK T C ν ops.val rest.val.2 σ with
  | some (σ', k2) => some (σ', ks ++ k2)
  | none => none
noncomputable def opsK (r : Option St) (k : Kd) (ks : List Kd) [ops : Boxed (List Oper)] [rest : Boxed (Unit × List Oper)] : Option (St × List Kd) := match r with
  | some σ => @runK T C ν σ (ks ++ [k]) ops rest
  | none => none
theorem runK_nil (ops : List Oper) (σ : St) (ks : List Kd) : @runK T C ν σ ks ⟨ops⟩ ⟨((), [])⟩ = some (σ, ks) := by simp [runK, evOpsK]
theorem runK_cons (ops rest : List Oper) (o : Oper) (σ : St) (ks : List Kd) : @runK T C ν σ ks ⟨ops⟩ ⟨((), o :: rest)⟩ = @opsK T C ν (stepI T C ν o σ (@guardI σ.env o.guard ⟨ops⟩)) (kindI2 T C ν o σ (@guardI σ.env o.guard ⟨ops⟩)) ks ⟨ops⟩ ⟨((), rest)⟩ := by
  simp only [runK, opsK, evOpsK, guardI]
  have e1 : cQ T C ν ops o σ = stepI T C ν o σ (aW ops σ.env o.guard) := stepOp_w T C ν ops o σ
  have e3 : cO T C ν ops o σ = kindI T C ν o σ (aW ops σ.env o.guard) := kindOp_w T C ν ops o σ
  have e2 : kindOp2 T C ν ops o σ = kindI2 T C ν o σ (aW ops σ.env o.guard) := by
    unfold kindOp2 kindI2
    rw [e3]
    split <;> rename_i h
    · rw [h]
    · cases hg : aW ops σ.env o.guard with
      | none => rfl
      | some q => cases q with
        | true => exact absurd hg (by intro e; exact h e)
        | false => rfl
  rw [e1, e2]
  cases stepI T C ν o σ (aW ops σ.env o.guard) with
  | none => rfl
  | some s =>
    simp only
    cases evOpsK T C ν ops rest s with
    | none => rfl
    | some p => simp
theorem opsK_some (ops rest : List Oper) (σ : St) (k : Kd) (ks : List Kd) : @opsK T C ν (some σ) k ks ⟨ops⟩ ⟨((), rest)⟩ = @runK T C ν σ (ks ++ [k]) ⟨ops⟩ ⟨((), rest)⟩ := rfl
def endK (fr : List (Nat × Nat)) (r : Option (St × List Kd)) : Option St := match r with
  | some (σ, ks) => match ks.all bh with
    | true => some σ
    | false => match bj ks fr with
      | true => some σ
      | false => none
  | none => none
theorem endK_some (fr : List (Nat × Nat)) (σ : St) (ks : List Kd) : endK fr (some (σ, ks)) = match ks.all bh with
    | true => some σ
    | false => match bj ks fr with
      | true => some σ
      | false => none := rfl
noncomputable def drawI (σ : St) (fr : List (Nat × Nat)) [ops : Boxed (List Oper)] : Option St := match fr with
  | [] => evOps T C ν ops.val ops.val σ
  | fr => endK fr (match evOpsK T C ν ops.val ops.val σ with | some (σ', k2) => some (σ', [] ++ k2) | none => none)
theorem am (id : Nat) (l : List Oper) (σ : St) : aH T C L ν (.region id (List.toArray l) true) σ = after (ν.keep id) (@drawI T C ν σ (ν.free id) ⟨l⟩) := by
  rw [evCode_region]
  simp only [List.toList_toArray, evRegion_t, drawI]
  congr 1
  cases hf : ν.free id with
  | nil => rfl
  | cons p r =>
    simp only [List.isEmpty_cons, endK]
    cases evOpsK T C ν l l σ with
    | none => rfl
    | some q => rfl
theorem drawI_nil (ops : List Oper) (σ : St) : @drawI T C ν σ [] ⟨ops⟩ = @runI T C ν σ ⟨ops⟩ ⟨((), ops)⟩ := rfl
theorem drawI_cons (p : Nat × Nat) (r : List (Nat × Nat)) (ops : List Oper) (σ : St) : @drawI T C ν σ (p :: r) ⟨ops⟩ = endK (p :: r) (@runK T C ν σ [] ⟨ops⟩ ⟨((), ops)⟩) := rfl
end
end Go.Mx
namespace Go.Mx
open Go
def cmpS (a b : ByteArray) : Int := Lib.compareBytes a.data.toList b.data.toList
theorem sem_value {P : Program} {f : FuncId} {x : V} {args : List D} (hx : bL x = true) (ha : ∀ d ∈ args, ∀ j, cT d j = false)
    (h : ∀ (w : World) (G : Gh) (vals : List Value), Args w.heap G args vals → (callFunc f vals.toArray).run P w = .ok (.value (scal x)) w) : Mx.Sem P f args [] (.v x) [] := by
  intro w G vals R L A
  unfold Enters
  rw [h w G vals A]
  refine ⟨G, R, L, Goes.refl _ _ _, rfl, ?_, .inl rfl, ?_⟩
  · simp only [RD]; exact RV.ofScal hx
  · intro k j p hp
    obtain ⟨d, h1, h2⟩ := A.own k j p hp
    rw [ha d (List.mem_of_getElem? h1) j] at h2; cases h2
theorem args_two {h : Array Obj} {G : Gh} {a b : ByteArray} {vals : List Value} (A : Args h G [.v (.s a), .v (.s b)] vals) : vals = [.string a, .string b] := by
  have hl := A.len
  obtain ⟨v0, h0, r0, _⟩ := A.rd 0 (.v (.s a)) rfl
  obtain ⟨v1, h1, r1, _⟩ := A.rd 1 (.v (.s b)) rfl
  simp only [RD, RV] at r0 r1
  subst r0 r1
  match vals, hl, h0, h1 with
  | [x, y], _, h0, h1 => simp at h0 h1; rw [h0, h1]
theorem sem_cmp {P : Program} {f : FuncId} {fn : Func} (hf : P.funcs[f]? = some fn) (hname : (fn.name == "runtime.NumGoroutine") = false) (hb : fn.body.isNone = true) (hn : Extern.findNext fn = none) (he : Extern.find fn = some Extern.BytealgCompare.compare) (a b : ByteArray) : Mx.Sem P f [.v (.s a), .v (.s b)] [] (.v (.i .i64 (cmpS a b))) [] := by
  refine sem_value rfl (by intro d hd j; simp at hd; rcases hd with rfl | rfl <;> rfl) ?_
  intro w G vals A
  rw [args_two A]
  rw [run_callFunc_extern hf hname hb hn he, Lib.run_compareString]
  rfl
def cr (k id : Nat) : Code → Option Code
  | .region i ops d => bif k == 0 && i == id then some (.region i ops d) else none
  | .seq a b => match cr k id a with
    | some r => some r
    | none => cr k id b
  | .cond (.tmp t) a b => bif k == 1 && t == id then some (.cond (.tmp t) a b) else match cr k id a with
    | some r => some r
    | none => cr k id b
  | .block i c => bif k == 2 && i == id then some (.block i c) else cr k id c
  | .loop c => cr k id c
  | _ => none
section
variable (T : Nat → Ty) (C : ak) (L : Loops) (ν : cC)
noncomputable def cR (k id : Nat) (σ : St) [b : Boxed Code] : Option (Ex × St) := aH T C L ν b.val σ
theorem bC (id : Nat) (ops : Array Oper) (d : Bool) (σ : St) : aH T C L ν (.region id ops d) σ = @cR T C L ν 0 id σ ⟨.region id ops d⟩ := rfl
end
end Go.Mx
namespace Go.Mx
open Go
theorem RB : type_of% (And.intro @List.toList_toArray.{0} (And.intro @Bool.false_and (And.intro @cond_false.{1} (And.intro @cond_true.{1} (And.intro @List.isEmpty_cons.{0} (And.intro @List.isEmpty_nil.{0} (And.intro @Bool.false_or (And.intro @Bool.or_false (And.intro @Bool.true_or (And.intro @Bool.or_true (And.intro @Bool.and_true (And.intro @Bool.true_and (And.intro @Bool.and_false (And.intro @Bool.not_true (And.intro @Bool.not_false (And.intro @Bool.not_not (And.intro @Bool.or_not_self (And.intro @Bool.not_or_self (And.intro @Bool.and_self (And.intro @Bool.or_self (And.intro @setReg_m (And.intro @spend_m (And.intro @List.all_cons.{0} (And.intro @List.all_nil.{0} (And.intro @after_some (And.intro @List.map_cons.{0, 0} (And.intro @List.map_nil.{0, 0} (And.intro @unblock_normal (And.intro @unblock_ret (And.intro @unblock_exit (And.intro @offReg_m (And.intro @Option.isNone_none.{0} (And.intro @Option.isNone_some.{0} (And.intro @Option.isSome_none.{0} (And.intro @Option.isSome_some.{0} (And.intro @List.length_cons.{0} (And.intro @List.length_nil.{0} (And.intro @List.drop_succ_cons.{0} (And.intro @List.drop_zero.{0} (And.intro @List.take_succ_cons.{0} (And.intro @List.take_zero.{0} (And.intro @List.take_nil.{0} (And.intro @List.drop_nil.{0} (And.intro @List.getElem?_cons_zero.{0} (And.intro @List.getElem?_cons_succ.{0} (And.intro @List.getElem?_nil.{0} (And.intro @Nat.zero_add (And.intro @Nat.add_zero (And.intro @ite_true.{1} (And.intro @if_true.{1} (And.intro @eq_self.{1} (And.intro @finish_ret (And.intro @finish_normal (And.intro @List.contains_cons.{0} (And.intro @List.contains_nil.{0} (And.intro @List.elem_cons.{0} (And.intro @List.elem_nil.{0} (And.intro @List.any_cons.{0} (And.intro @List.any_nil.{0} (And.intro @frzReg_m (And.intro @List.set_cons_zero.{0} (And.intro @List.set_cons_succ.{0} (And.intro @List.nil_append.{0} (And.intro @List.cons_append.{0} (And.intro @List.append_nil.{0} (And.intro @decide_true (And.intro @decide_false (And.intro @Int.cast_ofNat_Int (And.intro @again_norm (And.intro @againN_some (And.intro @trunc_m (And.intro @again_ret (And.intro @again_exit (And.intro @beq_self_eq_true.{0} (And.intro @Bool.cond_true_left (And.intro @Bool.cond_false_right (And.intro @Bool.cond_false_left (And.intro @Bool.cond_true_right (And.intro @ge_iff_le.{0} (And.intro @gt_iff_lt.{0} (And.intro @List.getD_cons_zero.{0} (And.intro @List.getD_cons_succ.{0} (And.intro @Bool.not_eq_true (And.intro @Option.map_some.{0, 0} (And.intro @Option.map_none.{0, 0} (And.intro @Bool.decide_eq_true (And.intro @pickOk_f (And.intro @pickOk_x (And.intro @pickOk_h (And.intro @cond_nest_t (And.intro @cond_nest_f (And.intro @cond_same (And.intro @flatB (And.intro @flatI (And.intro @flatS (And.intro @mapR_len (And.intro @mapR_app (And.intro @mapR_emp (And.intro @mapR_sub (And.intro @mapR_nil (And.intro @byL_m (And.intro @strL_m (And.intro @allB_m (And.intro @strL0 (And.intro @row_oneB (And.intro @row_consB (And.intro @row_oneI (And.intro @row_consI (And.intro @row_oneS (And.intro @row_consS (And.intro @set_B (And.intro @set_I (And.intro @set_S (And.intro @rep_B (And.intro @rep_I (And.intro @seq_m (And.intro @slt_m (And.intro @str0 (And.intro @modS_0 (And.intro @modS_s (And.intro @thenI_normal (And.intro @thenI_ret (And.intro @thenI_exit (And.intro @branchI_t (And.intro @branchI_f (And.intro @runI_nil (And.intro @runI_cons (And.intro @opsI_some (And.intro @stepI_t (And.intro @stepI_f (And.intro @guardI_none (And.intro @guardI_some (And.intro @runK_nil (And.intro @runK_cons (And.intro @opsK_some (And.intro @kindI_t (And.intro @kindI_f (And.intro @endK_some (And.intro @drawI_nil (And.intro @drawI_cons (And.intro @Sum.elim_inl.{0, 1, 0} (And.intro @Sum.elim_inr.{0, 1, 0} (And.intro @beq_true (And.intro @beq_false (And.intro @Bool.true_beq (And.intro @Bool.false_beq (And.intro @List.isEmpty_toArray.{0} (And.intro @Array.toList_append.{0} (And.intro @Option.toArray_some.{0} (@Option.toArray_none.{0})))))))))))))))))))))))))))))))))))))))))))))))))))))))))))))))))))))))))))))))))))))))))))))))))))))))))))))))))))))))))))))))))))))))))))))))))))))) := ⟨@List.toList_toArray, @Bool.false_and, @cond_false, @cond_true, @List.isEmpty_cons, @List.isEmpty_nil, @Bool.false_or, @Bool.or_false, @Bool.true_or, @Bool.or_true, @Bool.and_true, @Bool.true_and, @Bool.and_false, @Bool.not_true, @Bool.not_false, @Bool.not_not, @Bool.or_not_self, @Bool.not_or_self, @Bool.and_self, @Bool.or_self, @setReg_m, @spend_m, @List.all_cons, @List.all_nil, @after_some, @List.map_cons, @List.map_nil, @unblock_normal, @unblock_ret, @unblock_exit, @offReg_m, @Option.isNone_none, @Option.isNone_some, @Option.isSome_none, @Option.isSome_some, @List.length_cons, @List.length_nil, @List.drop_succ_cons, @List.drop_zero, @List.take_succ_cons, @List.take_zero, @List.take_nil, @List.drop_nil, @List.getElem?_cons_zero, @List.getElem?_cons_succ, @List.getElem?_nil, @Nat.zero_add, @Nat.add_zero, @ite_true, @if_true, @eq_self, @finish_ret, @finish_normal, @List.contains_cons, @List.contains_nil, @List.elem_cons, @List.elem_nil, @List.any_cons, @List.any_nil, @frzReg_m, @List.set_cons_zero, @List.set_cons_succ, @List.nil_append, @List.cons_append, @List.append_nil, @decide_true, @decide_false, @Int.cast_ofNat_Int, @again_norm, @againN_some, @trunc_m, @again_ret, @again_exit, @beq_self_eq_true, @Bool.cond_true_left, @Bool.cond_false_right, @Bool.cond_false_left, @Bool.cond_true_right, @ge_iff_le, @gt_iff_lt, @List.getD_cons_zero, @List.getD_cons_succ, @Bool.not_eq_true, @Option.map_some, @Option.map_none, @Bool.decide_eq_true, @pickOk_f, @pickOk_x, @pickOk_h, @cond_nest_t, @cond_nest_f, @cond_same, @flatB, @flatI, @flatS, @mapR_len, @mapR_app, @mapR_emp, @mapR_sub, @mapR_nil, @byL_m, @strL_m, @allB_m, @strL0, @row_oneB, @row_consB, @row_oneI, @row_consI, @row_oneS, @row_consS, @set_B, @set_I, @set_S, @rep_B, @rep_I, @seq_m, @slt_m, @str0, @modS_0, @modS_s, @thenI_normal, @thenI_ret, @thenI_exit, @branchI_t, @branchI_f, @runI_nil, @runI_cons, @opsI_some, @stepI_t, @stepI_f, @guardI_none, @guardI_some, @runK_nil, @runK_cons, @opsK_some, @kindI_t, @kindI_f, @endK_some, @drawI_nil, @drawI_cons, @Sum.elim_inl, @Sum.elim_inr, @beq_true, @beq_false, @Bool.true_beq, @Bool.false_beq, @List.isEmpty_toArray, @Array.toList_append, @Option.toArray_some, @Option.toArray_none⟩
theorem RP : type_of% (And.intro @evCode_skip (And.intro @evCode_ret (And.intro @evCode_exit (And.intro @evCode_loop (And.intro @cond_true.{1} (@cond_false.{1})))))) := ⟨@evCode_skip, @evCode_ret, @evCode_exit, @evCode_loop, @cond_true, @cond_false⟩
def keepOf : List (Nat × List Nat) → Nat → List Nat
  | [], _ => []
  | (u, l) :: r, i => bif u == i then l else keepOf r i
def aliveOf : List (Nat × List Nat × List Nat) → Nat → Bool → Option (List Nat)
  | [], _, _ => none
  | (u, a, b) :: r, t, x => bif u == t then some (bif x then a else b) else aliveOf r t x
def atO : Option (List Nat) → Env → aA → St
  | some l, e, S => ⟨Mx.prune l e, S⟩
  | none, e, S => ⟨e, S⟩
theorem atCond_of {ν : cC} {A : List (Nat × List Nat × List Nat)} (h : ν.alive = aliveOf A) (t : Nat) (x : Bool) (e : Env) (S : aA) : aw ν t x ⟨e, S⟩ = atO (aliveOf A t x) e S := by
  unfold aw
  rw [h]
  cases aliveOf A t x <;> rfl
def oB {α β : Type} (e : Option α) (f : α → Option β) : Option β := match e with
  | none => none
  | some x => f x
theorem oB_s {α β : Type} (x : α) (f : α → Option β) : oB (some x) f = f x := rfl
theorem matchX {α β : Type} {e : Option α} {f : α → Option β} {r : β} {P : Prop} (h : ∀ x, e = some x → f x = some r → P) : oB e f = some r → P := by
  cases e with
  | none => exact nofun
  | some x => exact h x rfl
theorem boolX {α : Type} {c : Bool} {a b r : α} {P : Prop} (t : c = true → a = r → P) (f : c = false → b = r → P) : (bif c then a else b) = r → P := by
  cases c
  · exact f rfl
  · exact t rfl
theorem boolY {α : Type} {c : Bool} {a b r : α} {P : Prop} (f : c = false → b = r → P) (t : c = true → a = r → P) : (bif c then a else b) = r → P := boolX t f
theorem wide0 {C : ak} {f : Nat} {a : List D} {d : D} (h : C f a [] = some (d, [])) : C.wide f a [] = some (d, []) := h
end Go.Mx
