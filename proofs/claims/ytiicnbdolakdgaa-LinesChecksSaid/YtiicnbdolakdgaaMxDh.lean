/- Regions that draw their order: checked by computing. -/
import Derived.Test.YtiicnbdolakdgaaMxDg
set_option linter.unusedVariables false
set_option linter.unusedSimpArgs false
set_option linter.constructorNameAsVariable false
set_option linter.unnecessarySimpa false
namespace Go.Mx
open Go

def bindsOf (o : Oper) : List Nat := (o.after.toList.filter (Region.binds .any)).map (·.on)
def maskOf (acc : List Nat) : List Nat → Nat
  | [] => 0
  | e :: r => 2 ^ e ||| (acc.getD e 0 ||| maskOf acc r)
def masks : List Oper → List Nat → List Nat
  | [], acc => acc
  | o :: r, acc => masks r (acc ++ [maskOf acc (bindsOf o)])
def backOk : List Oper → Nat → Bool
  | [], _ => true
  | o :: r, j => (bindsOf o).all (fun e => Nat.blt e j) && backOk r (j + 1)
def freeAt (free : List (Nat × Nat)) (i j : Nat) : Bool := free.any fun p => Nat.beq p.1 i && Nat.beq p.2 j
def pairB (oa : Array Oper) (ms : List Nat) (free : List (Nat × Nat)) (i j : Nat) : Bool :=
  (ms.getD j 0).testBit i || (freeAt free i j && match oa[i]?, oa[j]? with | some x, some y => Oper.apart oa x y | _, _ => false)
def rowsB (oa : Array Oper) (ms : List Nat) (free : List (Nat × Nat)) : Nat → Bool
  | 0 => true
  | j + 1 => (List.range j).all (fun i => pairB oa ms free i j) && rowsB oa ms free j
def drawOk (oa : Array Oper) (free : List (Nat × Nat)) : Bool := backOk oa.toList 0 && rowsB oa (masks oa.toList []) free oa.size

section
variable {P : Program} {C : Oracle} {ν : Note} {ops : List Oper} {σ σ' : St}

theorem binds_of {o : Oper} {i : Nat} : i ∈ bindsOf o ↔ ∃ e ∈ o.after, Region.binds .any e = true ∧ e.on = i := by
  simp only [bindsOf, List.mem_map, List.mem_filter, Array.mem_toList_iff]
  constructor
  · rintro ⟨e, ⟨h1, h2⟩, h3⟩; exact ⟨e, h1, h2, h3⟩
  · rintro ⟨e, h1, h2, h3⟩; exact ⟨e, ⟨h1, h2⟩, h3⟩

theorem maskOf_anc {acc : List Nat} {j : Nat} (hacc : ∀ m i, (acc.getD m 0).testBit i = true → Anc ops i m) : ∀ {es : List Nat}, (∀ e ∈ es, Binds ops e j) → ∀ i, (maskOf acc es).testBit i = true → Anc ops i j
  | [], _, i, h => by simp [maskOf] at h
  | e :: es, he, i, h => by
    simp only [maskOf, Nat.testBit_or, Bool.or_eq_true] at h
    rcases h with h | h | h
    · rw [Nat.testBit_two_pow] at h
      simp only [decide_eq_true_eq] at h
      subst h
      exact .one (he _ List.mem_cons_self)
    · exact .more (hacc _ _ h) (he _ List.mem_cons_self)
    · exact maskOf_anc hacc (fun e h => he e (List.mem_cons_of_mem _ h)) i h
theorem masks_anc : ∀ (rest : List Oper) (acc : List Nat), (∀ j, rest[j]? = ops[acc.length + j]?) → (∀ m i, (acc.getD m 0).testBit i = true → Anc ops i m) → ∀ m i, ((masks rest acc).getD m 0).testBit i = true → Anc ops i m
  | [], acc, _, h, m, i, hi => h m i hi
  | o :: rest, acc, hr, h, m, i, hi => by
    simp only [masks] at hi
    have h0 := hr 0
    simp only [List.getElem?_cons_zero, Nat.add_zero] at h0
    refine masks_anc rest _ (fun j => ?_) ?_ m i hi
    · have := hr (j + 1)
      simp only [List.getElem?_cons_succ] at this
      rw [this]
      simp [Nat.add_assoc, Nat.add_comm 1]
    · intro m i hmi
      rcases Nat.lt_trichotomy m acc.length with hlt | heq | hgt
      · refine h m i ?_
        simpa [List.getD_eq_getElem?_getD, List.getElem?_append_left hlt] using hmi
      · subst heq
        have : (maskOf acc (bindsOf o)).testBit i = true := by simpa [List.getD_eq_getElem?_getD] using hmi
        refine maskOf_anc h (fun e he => ?_) i this
        obtain ⟨x, hx1, hx2, hx3⟩ := binds_of.1 he
        exact ⟨o, x, h0.symm, hx1, hx2, hx3⟩
      · exfalso
        have : (acc ++ [maskOf acc (bindsOf o)])[m]? = none := by simp; omega
        simp [List.getD_eq_getElem?_getD, this] at hmi

theorem backOk_ok : ∀ (rest : List Oper) (k : Nat), backOk rest k = true → ∀ j o, rest[j]? = some o → ∀ e ∈ bindsOf o, e < k + j
  | [], k, _, j, o, h => by simp at h
  | x :: rest, k, hb, j, o, h => by
    simp only [backOk, Bool.and_eq_true, List.all_eq_true] at hb
    cases j with
    | zero =>
      simp only [List.getElem?_cons_zero, Option.some.injEq] at h
      subst h
      intro e he
      have := hb.1 e he
      simp [Nat.blt] at this
      omega
    | succ j =>
      simp only [List.getElem?_cons_succ] at h
      intro e he
      have := backOk_ok rest (k + 1) hb.2 j o h e he
      omega

theorem rowsB_ok {oa : Array Oper} {ms : List Nat} {free : List (Nat × Nat)} : ∀ {n : Nat}, rowsB oa ms free n = true → ∀ i j, i < j → j < n → pairB oa ms free i j = true
  | 0, _, i, j, _, h => by omega
  | n + 1, hr, i, j, hij, hj => by
    simp only [rowsB, Bool.and_eq_true, List.all_eq_true] at hr
    by_cases h : j = n
    · subst h; exact hr.1 i (List.mem_range.2 hij)
    · exact rowsB_ok hr.2 i j hij (by omega)

theorem looks_at {oa : Array Oper} {o : Oper} {u : Nat} (h : looks oa.toList o u) : u ∈ o.looksAt oa := by
  unfold Oper.looksAt
  rw [List.mem_append]
  rcases h with h | ⟨j, b, p, h1, h2, h3⟩
  · left
    rw [List.mem_filterMap]
    exact ⟨_, h, rfl⟩
  · right
    rw [h1]
    simp only
    have : oa[j]? = some p := by simpa using h2
    rw [this]
    simp [h3]
theorem apart_of {oa : Array Oper} {x y : Oper} (h : Oper.apart oa x y = true) : Apart oa.toList x y := by
  obtain ⟨h1, h2, h3⟩ := Oper.apart_spec h
  exact ⟨fun t ht hl => h1 t ht (looks_at hl), fun t ht hl => h3 t ht (looks_at hl), h2⟩

theorem evOpsK_of {T : Nat → Ty} : ∀ {rest : List Oper} {σ : St}, evOps T C ν ops rest σ = some σ' → ∃ ks, evOpsK T C ν ops rest σ = some (σ', ks)
  | [], σ, h => by simp only [evOps, Option.some.injEq] at h; exact ⟨[], by simp only [evOpsK, h]⟩
  | o :: rest, σ, h => by
    simp only [evOps] at h
    split at h
    · rename_i σ1 hs
      obtain ⟨ks, hk⟩ := evOpsK_of h
      exact ⟨_, by simp only [evOpsK, hs, hk]; rfl⟩
    · cases h
theorem freeOk_ok {ks : List Kd} : ∀ {free : List (Nat × Nat)}, freeOk ks free = true → ∀ i j, freeAt free i j = true → pairOk (ks.getD i .wild) (ks.getD j .wild) = true
  | [], _, i, j, h => by simp [freeAt] at h
  | (a, b) :: r, hf, i, j, h => by
    simp only [freeOk, Bool.and_eq_true] at hf
    simp only [freeAt, List.any_cons, Bool.or_eq_true, Bool.and_eq_true] at h
    rcases h with ⟨h1, h2⟩ | h
    · have e1 := Nat.eq_of_beq_eq_true h1
      have e2 := Nat.eq_of_beq_eq_true h2
      subst e1; subst e2
      exact hf.1
    · exact freeOk_ok hf.2 i j h

theorem regionOk_draw (SC : SoundC P C) (hm : P.follows .mixedOrders = true) {n id : Nat} {oa : Array Oper} (hsz : ∀ o ∈ oa.toList, ∀ t, o.dst = some t → t < n) (hd : drawOk oa (ν.free id) = true) : RegionOk P C ν n id oa true := by
  intro w G tmps ds σ σ' hn F he Q hQ
  refine wp_region_any hm ?_
  simp only [drawOk, Bool.and_eq_true] at hd
  obtain ⟨hback, hrows⟩ := hd
  have hb : ∀ i j, Binds oa.toList i j → i < j := by
    rintro i j ⟨o, e, h1, h2, h3, rfl⟩
    have := backOk_ok oa.toList 0 hback j o h1 e.on (binds_of.2 ⟨e, h2, h3, rfl⟩)
    omega
  have hms := masks_anc (ops := oa.toList) oa.toList [] (fun j => by simp) (fun m i h => by simp at h)
  -- the run in the text's order
  have hev : ∃ ks, evOpsK (tyOf P) C ν oa.toList oa.toList σ = some (σ', ks) ∧ ∀ i j, freeAt (ν.free id) i j = true → pairOk (ks.getD i .wild) (ks.getD j .wild) = true ∨ ¬ (i < j ∧ j < oa.size) := by
    unfold evRegion at he
    cases hemp : (ν.free id).isEmpty with
    | true =>
      simp only [hemp, Bool.not_true, Bool.and_false, cond_false] at he
      obtain ⟨ks, hk⟩ := evOpsK_of he
      refine ⟨ks, hk, fun i j hf => ?_⟩
      have : ν.free id = [] := List.isEmpty_iff.1 hemp
      rw [this] at hf
      simp [freeAt] at hf
    | false =>
      simp only [hemp, Bool.not_false, Bool.and_true, cond_true] at he
      split at he
      · rename_i s ks hk
        cases hok : (ks.all plainK || freeOk ks (ν.free id)) with
        | false => rw [hok] at he; cases he
        | true =>
          rw [hok, cond_true, Option.some.injEq] at he
          subst he
          refine ⟨ks, hk, fun i j hf => ?_⟩
          simp only [Bool.or_eq_true] at hok
          rcases hok with hp | hfo
          · by_cases hlt : i < j ∧ j < oa.size
            · left
              have hlen := (run_of_ev oa.toList 0 σ s ks (fun j => by simp) hk).1
              rw [List.all_eq_true] at hp
              have hget : ∀ m, m < oa.size → ∃ c r q, ks.getD m .wild = .still c false r q := by
                intro m hm'
                have hml : m < ks.length := by rw [hlen]; simpa using hm'
                have hpm := hp _ (List.getElem_mem hml)
                rw [List.getD_eq_getElem?_getD, List.getElem?_eq_getElem hml, Option.getD_some]
                revert hpm
                cases ks[m] with
                | still c w r q => intro hpm; simp only [plainK, Bool.not_eq_true'] at hpm; subst hpm; exact ⟨c, r, q, rfl⟩
                | work _ _ => intro hpm; simp [plainK] at hpm
                | wild => intro hpm; simp [plainK] at hpm
              obtain ⟨_, _, _, e1⟩ := hget i (by omega)
              obtain ⟨_, _, _, e2⟩ := hget j hlt.2
              rw [e1, e2]
              simp [pairOk]
            · exact .inr hlt
          · exact .inl (freeOk_ok hfo i j hf)
      · cases he
  obtain ⟨ks, hk, hfree⟩ := hev
  obtain ⟨hlen, hrun⟩ := run_of_ev oa.toList 0 σ σ' ks (fun j => by simp) hk
  have hzl : ((List.range' 0 oa.toList.length).zip ks).length = oa.size := by
    rw [List.length_zip, List.length_range', hlen]; simp
  have hmem : ∀ i k, (i, k) ∈ (List.range' 0 oa.toList.length).zip ks ↔ i < oa.size ∧ ks[i]? = some k := by
    intro i k
    rw [List.mem_iff_getElem?]
    constructor
    · rintro ⟨m, hm'⟩
      rw [List.getElem?_zip_eq_some] at hm'
      obtain ⟨h1, h2⟩ := hm'
      obtain ⟨h3, h4⟩ := List.getElem?_eq_some_iff.1 h1
      rw [List.getElem_range'] at h4
      simp only [Nat.zero_add, Nat.one_mul] at h4
      subst h4
      rw [List.length_range'] at h3
      exact ⟨by simpa using h3, h2⟩
    · rintro ⟨h1, h2⟩
      refine ⟨i, ?_⟩
      rw [List.getElem?_zip_eq_some]
      refine ⟨?_, h2⟩
      simp [List.getElem?_range', h1]
  have hsorted : ((List.range' 0 oa.toList.length).zip ks).Pairwise (fun p q => p.1 < q.1) := by
    have : (((List.range' 0 oa.toList.length).zip ks).map Prod.fst).Pairwise (· < ·) := by
      rw [List.map_fst_zip (by rw [List.length_range', hlen]; exact Nat.le_refl _)]
      exact List.pairwise_lt_range'
    rwa [List.pairwise_map] at this
  rw [← hzl]
  refine game SC hsz _ _ _ G tmps σ hn (by rw [hzl]; simp) F hrun ?_ ?_ hsorted ?_ hb ?_
  · intro i
    rcases Nat.lt_or_ge i oa.size with h | h
    · constructor
      · intro _
        have : i < ks.length := by rw [hlen]; simpa using h
        exact ⟨ks[i], (hmem i _).2 ⟨h, List.getElem?_eq_getElem this⟩⟩
      · intro _; rw [hzl]; simp [h]
    · constructor
      · intro hf; rw [hzl] at hf; simp [Nat.not_lt.2 h] at hf
      · rintro ⟨k, hk'⟩; have := ((hmem i k).1 hk').1; omega
  · intro i j hj _
    exfalso
    rw [hzl] at hj
    rcases Nat.lt_or_ge j oa.size with h | h
    · simp [h] at hj
    · simp [Nat.not_lt.2 h] at hj
  · refine List.Pairwise.imp_of_mem ?_ hsorted
    rintro ⟨i, ki⟩ ⟨j, kj⟩ hi hj hij
    simp only at hij
    obtain ⟨hi1, hi2⟩ := (hmem i ki).1 hi
    obtain ⟨hj1, hj2⟩ := (hmem j kj).1 hj
    have hp := rowsB_ok hrows i j hij hj1
    simp only [pairB, Bool.or_eq_true, Bool.and_eq_true] at hp
    rcases hp with hp | ⟨hp1, hp2⟩
    · exact .inl (hms j i hp)
    · right
      have ei : oa[i]? = some oa[i] := by simp [hi1]
      have ej : oa[j]? = some oa[j] := by simp [hj1]
      rw [ei, ej] at hp2
      refine ⟨oa[i], oa[j], by simpa using ei, by simpa using ej, apart_of hp2, ?_⟩
      rcases hfree i j hp1 with h | h
      · simpa [List.getD_eq_getElem?_getD, hi2, hj2] using h
      · exact absurd ⟨hij, hj1⟩ h
  · intro a' w' G' q1 q2 q3 q4
    exact hQ _ a' w' G' rfl q1 q2 q3 ⟨⟨q4.step.os, q4.step.tape, q4.step.output, q4.step.size, q4.step.keep, q4.step.mine, q4.step.rd, q4.step.rdn⟩, q4.len, q4.ob⟩
end
end Go.Mx
