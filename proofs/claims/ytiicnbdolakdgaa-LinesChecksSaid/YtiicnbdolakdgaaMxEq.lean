/- '==' on structs, cell by cell. -/
import Derived.Test.YtiicnbdolakdgaaMxD
import Derived.Laws.StructEq
set_option linter.unusedVariables false
set_option linter.unusedSimpArgs false
set_option linter.constructorNameAsVariable false
set_option linter.unnecessarySimpa false
namespace Go.Mx
open Go

def eqVal : Nat → Value → Value → Option Bool
  | 1, .bool x, .bool y => some (x == y)
  | 2, .int k x, .int k' y => if k = k' then some (x == y) else none
  | 3, .string x, .string y => some (x.toList == y.toList)
  | _, _, _ => none
def eqVals : List Nat → List Value → List Value → Option Bool
  | [], [], [] => some true
  | k :: ks, x :: r, y :: s => match eqVal k x y with
    | some p => match eqVals ks r s with
      | some q => some (p && q)
      | none => none
    | none => none
  | _, _, _ => none

theorem eqVals_length : ∀ (ks : List Nat) (xs ys : List Value) (q : Bool), eqVals ks xs ys = some q → xs.length = ks.length ∧ ys.length = ks.length
  | [], [], [], _, _ => ⟨rfl, rfl⟩
  | k :: ks, x :: r, y :: s, q, h => by
    simp only [eqVals] at h
    split at h <;> try (simp at h; done)
    split at h <;> try (simp at h; done)
    rename_i _ hq
    have := eqVals_length ks r s _ hq
    simp [this]
  | [], [], _ :: _, _, h => by simp [eqVals] at h
  | [], _ :: _, _, _, h => by simp [eqVals] at h
  | _ :: _, [], _, _, h => by simp [eqVals] at h
  | _ :: _, _ :: _, [], _, h => by simp [eqVals] at h

theorem eqVals_append : ∀ (k1 k2 : List Nat) (xs ys : List Value) (q : Bool), eqVals (k1 ++ k2) xs ys = some q →
    ∃ p r, eqVals k1 (xs.take k1.length) (ys.take k1.length) = some p ∧ eqVals k2 (xs.drop k1.length) (ys.drop k1.length) = some r ∧ q = (p && r)
  | [], k2, xs, ys, q, h => ⟨true, q, by simp [eqVals], by simpa using h, by simp⟩
  | k :: k1, k2, x :: xs, y :: ys, q, h => by
    simp only [List.cons_append, eqVals] at h
    split at h <;> try (simp at h; done)
    rename_i p hp
    split at h <;> try (simp at h; done)
    rename_i q' hq'
    obtain ⟨p2, r, h1, h2, h3⟩ := eqVals_append k1 k2 xs ys q' hq'
    refine ⟨p && p2, r, ?_, by simpa using h2, ?_⟩
    · simp [eqVals, hp, h1]
    · simp at h; rw [← h, h3, Bool.and_assoc]
  | _ :: _, _, [], _, _, h => by simp [eqVals] at h
  | _ :: _, _, _ :: _, [], _, h => by simp [eqVals] at h

section
variable {P : Program}

/-- What a type's variable is as a value. -/
def isVal (P : Program) (t : TypeId) (c : List Value) (v : Value) : Prop :=
  (∃ fs, P.underlying t = some (.struct fs) ∧ v = .agg c.toArray) ∨ ((∀ d, P.underlying t = some d → d.isRow = false) ∧ c = [v])

theorem run_part {n : Nat} (w : World) (t : TypeId) (cs : Array Value) (off : Nat) {i : TypeInfo} {d : TypeDesc} (hi : P.info? t = some i) (hu : P.underlying t = some d) {ks : List Nat}
    (hk : eqkOf P n t = some ks) (hs : ks.length = i.size) (hl : off + ks.length ≤ cs.size) :
    ∃ v, (part t cs off).run P w = .ok v w ∧ isVal P t ((cs.toList.drop off).take ks.length) v := by
  cases n with
  | zero => simp [eqkOf] at hk
  | succ n =>
    simp only [eqkOf, hu] at hk
    cases d with
    | bool =>
      simp at hk; subst hk
      have : off < cs.size := by simp at hl; omega
      refine ⟨cs[off], ?_, .inr ⟨fun d hd => by rw [hu] at hd; cases hd; rfl, ?_⟩⟩
      · simp [part, isAgg, run_underlying hu, this]
      · simp [List.take_one, List.head?_drop, this]
    | int k =>
      simp at hk; subst hk
      have : off < cs.size := by simp at hl; omega
      refine ⟨cs[off], ?_, .inr ⟨fun d hd => by rw [hu] at hd; cases hd; rfl, ?_⟩⟩
      · simp [part, isAgg, run_underlying hu, this]
      · simp [List.take_one, List.head?_drop, this]
    | string =>
      simp at hk; subst hk
      have : off < cs.size := by simp at hl; omega
      refine ⟨cs[off], ?_, .inr ⟨fun d hd => by rw [hu] at hd; cases hd; rfl, ?_⟩⟩
      · simp [part, isAgg, run_underlying hu, this]
      · simp [List.take_one, List.head?_drop, this]
    | struct fs =>
      refine ⟨.agg (cs.extract off (off + i.size)), ?_, .inl ⟨fs, hu, ?_⟩⟩
      · simp [part, isAgg, run_underlying hu, sizeOf, typeInfo, hi]
      · congr 1
        apply Array.ext'
        simp [hs, List.extract_eq_take_drop]
    | _ => simp at hk

theorem info_of_cells {t : TypeId} {n : Nat} (h : P.cellsOf t = n) (h0 : n ≠ 0) : ∃ i, P.info? t = some i ∧ i.size = n := by
  unfold Program.cellsOf at h
  cases hi : P.info? t with
  | none => simp [hi] at h; omega
  | some i => exact ⟨i, rfl, by simpa [hi] using h⟩

theorem eqkOf_pos : ∀ (d : Nat) (t : TypeId) (ks : List Nat), eqkOf P d t = some ks → ∃ u, P.underlying t = some u ∧ (u.isRow = false → ks.length = 1)
  | 0, _, _, h => by simp [eqkOf] at h
  | d + 1, t, ks, h => by
    simp only [eqkOf] at h
    cases hu : P.underlying t with
    | none => simp [hu] at h
    | some u =>
      simp only [hu] at h
      refine ⟨u, rfl, fun hr => ?_⟩
      cases u <;> simp at h hr <;> (subst h; rfl)

theorem eqFs_ok (w : World) (D : Nat) (rec : TypeId → Option (List Nat)) (xs ys : Array Value)
    (hrec : ∀ t ks, rec t = some ks → (∃ n, eqkOf P n t = some ks) ∧ ∀ c1 c2 v1 v2 q, isVal P t c1 v1 → isVal P t c2 v2 → eqVals ks c1 c2 = some q → (Op.equalIn D t v1 v2).run P w = .ok q w) :
    ∀ (fs : List Field) (off : Nat) (ks : List Nat) (q : Bool), eqkFs P rec fs off = some ks → eqVals ks (xs.toList.drop off) (ys.toList.drop off) = some q →
      (Op.eqFields D xs ys fs).run P w = .ok q w
  | [], off, ks, q, hk, hq => by
    simp [eqkFs] at hk; subst hk
    have := eqVals_length _ _ _ _ hq
    cases h1 : xs.toList.drop off <;> cases h2 : ys.toList.drop off <;> simp_all [eqVals]
    subst hq
    simp [Op.eqFields]
  | f :: fs, off, ks, q, hk, hq => by
    simp only [eqkFs] at hk
    cases hn : (f.name == "_" || !(f.offset == off)) with
    | true => simp [hn] at hk
    | false =>
      simp only [hn, cond_false] at hk
      simp at hn
      obtain ⟨hn, hoff⟩ := hn
      cases hr : rec f.type with
      | none => simp [hr] at hk
      | some x =>
        simp only [hr] at hk
        cases hl : x.length == P.cellsOf f.type with
        | false => simp [hl] at hk
        | true =>
          simp only [hl, cond_true] at hk
          simp at hl
          cases hy : eqkFs P rec fs (off + x.length) with
          | none => simp [hy] at hk
          | some y =>
            simp only [hy] at hk
            cases hk
            obtain ⟨p, r, h1, h2, rfl⟩ := eqVals_append x y _ _ _ hq
            obtain ⟨⟨n, hn'⟩, hrec'⟩ := hrec f.type x hr
            have hlen := eqVals_length _ _ _ _ h1
            simp at hlen
            obtain ⟨u, hu, hone⟩ := eqkOf_pos n f.type x hn'
            have hpart : ∀ cs : Array Value, off + x.length ≤ cs.size → ∃ v, (part f.type cs f.offset).run P w = .ok v w ∧ isVal P f.type ((cs.toList.drop off).take x.length) v := by
              intro cs hcs
              rw [hoff]
              cases hi : P.info? f.type with
              | some i => exact run_part w f.type cs off hi hu hn' (by rw [hl]; simp [Program.cellsOf, hi]) hcs
              | none =>
                have : P.cellsOf f.type = 0 := by simp [Program.cellsOf, hi]
                have hx0 : x.length = 0 := by omega
                have : u.isRow = true := by
                  cases hrr : u.isRow with
                  | true => rfl
                  | false => have := hone hrr; omega
                exfalso
                unfold Program.underlying at hu
                simp [hi] at hu
            have hs1 : off + x.length ≤ xs.size ∨ x.length = 0 := by have := hlen.1; omega
            have hs2 : off + x.length ≤ ys.size ∨ x.length = 0 := by have := hlen.2; omega
            have hpart' : ∀ cs : Array Value, (off + x.length ≤ cs.size ∨ x.length = 0) → ∃ v, (part f.type cs f.offset).run P w = .ok v w ∧ isVal P f.type ((cs.toList.drop off).take x.length) v := by
              intro cs hcs
              rcases hcs with hcs | h0
              · exact hpart cs hcs
              · -- no cells: an empty struct
                cases hu' : u with
                | struct fs0 =>
                  subst hu'
                  cases hi : P.info? f.type with
                  | none => unfold Program.underlying at hu; simp [hi] at hu
                  | some i =>
                    refine ⟨.agg (cs.extract f.offset (f.offset + i.size)), ?_, .inl ⟨fs0, hu, ?_⟩⟩
                    · simp [part, isAgg, run_underlying hu, sizeOf, typeInfo, hi]
                    · have : i.size = 0 := by rw [h0] at hl; simp [Program.cellsOf, hi] at hl; omega
                      simp [this, h0]
                      omega
                | array len e =>
                  subst hu'
                  cases n with
                  | zero => simp [eqkOf] at hn'
                  | succ n => simp [eqkOf, hu] at hn'
                | _ => subst hu'; have := hone rfl; omega
            obtain ⟨va, ha, ia⟩ := hpart' xs hs1
            obtain ⟨vb, hb, ib⟩ := hpart' ys hs2
            have he := hrec' _ _ va vb p ia ib h1
            have ih := eqFs_ok w D rec xs ys hrec fs (off + x.length) y r hy (by simpa [List.drop_drop] using h2)
            simp only [Op.eqFields]
            rw [if_pos hn]
            simp only [Sem.run_bind, ha, hb, he, Result.andThen_ok]
            cases p
            · simp
            · simp [ih]

theorem equalIn_ok (w : World) : ∀ (d : Nat) (t : TypeId) (ks : List Nat), eqkOf P d t = some ks → ∀ (D : Nat), d ≤ D → ∀ c1 c2 v1 v2 q, isVal P t c1 v1 → isVal P t c2 v2 → eqVals ks c1 c2 = some q →
    (Op.equalIn D t v1 v2).run P w = .ok q w
  | 0, _, _, h, _, _, _, _, _, _, _, _, _, _ => by simp [eqkOf] at h
  | d + 1, t, ks, h, D, hD, c1, c2, v1, v2, q, i1, i2, hq => by
    obtain ⟨D, rfl⟩ : ∃ m, D = m + 1 := ⟨D - 1, by omega⟩
    simp only [eqkOf] at h
    cases hu : P.underlying t with
    | none => simp [hu] at h
    | some u =>
      simp only [hu] at h
      cases u with
      | struct fs =>
        simp only at h
        cases hs : P.stoodInHeld t with
        | true => simp [hs] at h
        | false =>
          simp only [hs, cond_false] at h
          cases hf : eqkFs P (eqkOf P d) fs.toList 0 with
          | none => simp [hf] at h
          | some x =>
            simp only [hf] at h
            have hx : x = ks := by
              cases hc : (x.length == P.cellsOf t && !P.eqGuardType P.depth t) <;> simp [hc] at h
              exact h
            subst hx
            have g1 : v1 = .agg c1.toArray := by
              rcases i1 with ⟨_, _, h1⟩ | ⟨h1, _⟩
              · exact h1
              · have := h1 _ hu; simp at this
            have g2 : v2 = .agg c2.toArray := by
              rcases i2 with ⟨_, _, h1⟩ | ⟨h1, _⟩
              · exact h1
              · have := h1 _ hu; simp at this
            subst g1; subst g2
            have hfo : P.fieldsOf t = fs := by simp [Program.fieldsOf, hu]
            rw [run_equalIn_struct w D t _ _ (by rw [hfo]; exact hu) hs, hfo]
            refine eqFs_ok w D (eqkOf P d) _ _ (fun t' ks' hk' => ⟨⟨d, hk'⟩, fun a b va vb q' ja jb jq => equalIn_ok w d t' ks' hk' D (by omega) a b va vb q' ja jb jq⟩) fs.toList 0 x q hf (by simpa using hq)
      | bool =>
        simp at h; subst h
        have e1 : c1 = [v1] := by
          rcases i1 with ⟨_, h1, _⟩ | ⟨_, h1⟩
          · rw [hu] at h1; cases h1
          · exact h1
        have e2 : c2 = [v2] := by
          rcases i2 with ⟨_, h1, _⟩ | ⟨_, h1⟩
          · rw [hu] at h1; cases h1
          · exact h1
        subst e1; subst e2
        cases v1 <;> cases v2 <;> simp [eqVals, eqVal] at hq
        subst hq
        simp [Op.equalIn, run_underlying hu]
      | int k =>
        simp at h; subst h
        have e1 : c1 = [v1] := by
          rcases i1 with ⟨_, h1, _⟩ | ⟨_, h1⟩
          · rw [hu] at h1; cases h1
          · exact h1
        have e2 : c2 = [v2] := by
          rcases i2 with ⟨_, h1, _⟩ | ⟨_, h1⟩
          · rw [hu] at h1; cases h1
          · exact h1
        subst e1; subst e2
        cases v1 <;> cases v2 <;> simp [eqVals, eqVal] at hq
        rename_i k1 n1 k2 n2
        by_cases hkk : k1 = k2
        · subst hkk
          simp at hq
          subst hq
          simp [Op.equalIn, run_underlying hu]
        · simp [hkk] at hq
      | string =>
        simp at h; subst h
        have e1 : c1 = [v1] := by
          rcases i1 with ⟨_, h1, _⟩ | ⟨_, h1⟩
          · rw [hu] at h1; cases h1
          · exact h1
        have e2 : c2 = [v2] := by
          rcases i2 with ⟨_, h1, _⟩ | ⟨_, h1⟩
          · rw [hu] at h1; cases h1
          · exact h1
        subst e1; subst e2
        cases v1 <;> cases v2 <;> simp [eqVals, eqVal] at hq
        subst hq
        simp [Op.equalIn, run_underlying hu, beq_toListBytes]
      | _ => simp at h
end
end Go.Mx
