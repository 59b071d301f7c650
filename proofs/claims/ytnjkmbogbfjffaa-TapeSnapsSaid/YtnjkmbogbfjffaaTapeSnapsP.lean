/- The law TapeSnaps on the plain functions: it answers true at every argument of the sizes that the form allows. -/
import Derived.Test.YtnjkmbogbfjffaaWTy
import Derived.Test.YtnjkmbogbfjffaaTapeSnapsD
set_option linter.unusedSimpArgs false
set_option linter.unusedVariables false
set_option linter.constructorNameAsVariable false
set_option linter.unnecessarySimpa false
namespace Go.Proofs.Ytnjkmbogbfjffaa
open Go Go.Mx Go.Proofs
/- Plain facts: numbers that do not go round, loops, lists of bytes. -/

theorem u8wrap (n : Int) : IntKind.u8.wrap n = n % 256 := by
  simp [IntKind.wrap, IntKind.min, IntKind.max, IntKind.bits, IntKind.signed]
theorem u64wrap {n : Int} (h1 : 0 ≤ n) (h2 : n < 18446744073709551616) : IntKind.u64.wrap n = n := by
  simp [IntKind.wrap, IntKind.min, IntKind.max, IntKind.bits, IntKind.signed]; omega
theorem fits_of {n b : Nat} (h : (n : Int) * b ≤ 140737488355328) : cH n b = true := fitsB_iff.2 h
theorem idx_get {α : Type} {l : List α} {i : Nat} {x : α} (h : l[i]? = some x) : idx l (i : Int) = some x := by
  unfold idx
  rw [if_pos (by omega)]
  simpa using h
theorem idx_app {α : Type} (l : List α) (x : α) (m : List α) : idx (l ++ x :: m) (l.length : Int) = some x := idx_get (by simp)
theorem seqB_self (a : ByteArray) : cJ a a = true := by unfold cJ; exact beq_self_eq_true _
theorem allB_app (l m : List Int) : allB (l ++ m) = (allB l && allB m) := by simp [allB]
theorem allB_byL (s : ByteArray) : allB (byL s) = true := by
  simp only [oB_s, allB, byL, List.all_map, List.all_eq_true, Function.comp, decide_eq_true_eq]
  intro b _
  exact ⟨Int.natCast_nonneg _, by have := b.toNat_lt; omega⟩
theorem byL_len (s : ByteArray) : (byL s).length = s.size := by
  simp only [oB_s, byL, List.length_map]; rfl
/-- The eight bytes of a number. -/
def num8 (n : Int) : List Int := [(n + 4611686018427387904) / 72057594037927936 % 256, (n + 4611686018427387904) / 281474976710656 % 256, (n + 4611686018427387904) / 1099511627776 % 256, (n + 4611686018427387904) / 4294967296 % 256, (n + 4611686018427387904) / 16777216 % 256, (n + 4611686018427387904) / 65536 % 256, (n + 4611686018427387904) / 256 % 256, (n + 4611686018427387904) % 256]
theorem num8_len (n : Int) : (num8 n).length = 8 := rfl
theorem allB_num8 (n : Int) : allB (num8 n) = true := by
  simp only [oB_s, allB, num8, List.all_cons, List.all_nil, Bool.and_true, Bool.and_eq_true, decide_eq_true_eq]
  omega
/-- A number that eight bytes hold. -/
def in62 (n : Int) : Prop := -4611686018427387904 ≤ n ∧ n < 4611686018427387904
/-- A text behind its length. -/
def txt8 (s : ByteArray) : List Int := (s.size : Int) % 256 :: byL s
theorem allB_txt8 (s : ByteArray) : allB (txt8 s) = true := by
  have := allB_byL s
  simp only [oB_s, allB, txt8, List.all_cons, Bool.and_eq_true, decide_eq_true_eq] at *
  exact ⟨by omega, this⟩
theorem txt8_len (s : ByteArray) : (txt8 s).length = s.size + 1 := by simp [txt8, byL_len]
/- Plain facts: loops that go through a list. -/

/-- A walk through a list: what is carried, or what comes out at once. -/
def run {α σ R : Type} (f : Nat → α → σ → σ ⊕ R) (e : σ → R) : Nat → List α → σ → R
  | _, [], s => e s
  | i, x :: l, s => match f i x s with
    | .inl s' => run f e (i + 1) l s'
    | .inr r => r
theorem loop_list {α σ τ R : Type} {step : τ → Option (τ ⊕ R)} (l : List α) (mk : Int → σ → τ) (I : Nat → σ → Prop) (f : Nat → α → σ → σ ⊕ R) (e : σ → R)
    (hs : ∀ i x s, l[i]? = some x → I i s → step (mk i s) = some (match f i x s with | .inl s' => .inl (mk ((i + 1 : Nat) : Int) s') | .inr r => .inr r))
    (hi : ∀ i x s s', l[i]? = some x → I i s → f i x s = .inl s' → I (i + 1) s')
    (he : ∀ (i : Nat) s, l.length ≤ i → I i s → step (mk i s) = some (.inr (e s))) (k : Nat) (s : σ) (h0 : I k s) : ci step (mk k s) = some (run f e k (l.drop k) s) := by
  generalize hm : l.drop k = m
  induction m generalizing k s with
  | nil =>
    have : l.length ≤ k := by
      have := congrArg List.length hm
      simp only [oB_s, List.length_drop, List.length_nil] at this
      omega
    exact loopM_end (he k s this h0)
  | cons x m ih =>
    have hx : l[k]? = some x := by
      have := List.getElem?_drop (xs := l) (i := k) (j := 0)
      rw [hm] at this
      simpa using this.symm
    have hm' : l.drop (k + 1) = m := by
      have : l.drop (k + 1) = (l.drop k).drop 1 := by rw [List.drop_drop]
      rw [this, hm]; rfl
    have h1 := hs k x s hx h0
    simp only [oB_s, run]
    cases hf : f k x s with
    | inl s' =>
      rw [hf] at h1
      rw [loopM_on h1]
      exact ih (k + 1) s' (hi k x s s' hx h0 hf) hm'
    | inr r =>
      rw [hf] at h1
      exact loopM_end h1
/-- All of a list, each with its place. -/
def allI {α : Type} (p : Nat → α → Bool) : Nat → List α → Bool
  | _, [] => true
  | k, x :: l => p k x && allI p (k + 1) l
theorem allI_and {α : Type} (p q : Nat → α → Bool) (k : Nat) (l : List α) : allI (fun i x => p i x && q i x) k l = (allI p k l && allI q k l) := by
  induction l generalizing k with
  | nil => rfl
  | cons x l ih =>
    simp only [oB_s, allI, ih]
    cases p k x <;> cases q k x <;> simp
theorem allI_congr {α : Type} {p q : Nat → α → Bool} (k : Nat) (l m : List α) (hm : l = m.drop k) (h : ∀ i x, m[i]? = some x → k ≤ i → p i x = q i x) : allI p k l = allI q k l := by
  induction l generalizing k with
  | nil => rfl
  | cons x l ih =>
    have hx : m[k]? = some x := by
      have := List.getElem?_drop (xs := m) (i := k) (j := 0)
      rw [← hm] at this
      simpa using this.symm
    have hm' : l = m.drop (k + 1) := by
      have : m.drop (k + 1) = (m.drop k).drop 1 := by rw [List.drop_drop]
      rw [this, ← hm]; rfl
    simp only [oB_s, allI]
    rw [h k x hx (Nat.le_refl _), ih (k + 1) hm' (fun i y hy hk => h i y hy (by omega))]
/-- A loop that ends early at what is not so. -/
theorem loop_all {α : Type} {step : Int → Option (Int ⊕ (Unit ⊕ Unit))} (l : List α) (k : Nat) (p : Nat → α → Bool)
    (hs : ∀ i x, l[i]? = some x → k ≤ i → step i = some (bif p i x then .inl ((i + 1 : Nat) : Int) else .inr (.inl ())))
    (he : ∀ i : Nat, l.length ≤ i → step i = some (.inr (.inr ()))) : ci step (k : Int) = some (bif allI p k (l.drop k) then .inr () else .inl ()) := by
  have h := loop_list (step := step) l (fun i (_ : Unit) => i) (fun i _ => k ≤ i) (fun i x _ => bif p i x then .inl () else .inr (.inl ())) (fun _ => .inr ()) (fun i x s hx hk => by
    rw [hs i x hx hk]; cases p i x <;> rfl) (fun i x s s' _ hk _ => Nat.le_succ_of_le hk) (fun i s hl _ => he i hl) k () (Nat.le_refl _)
  rw [h]
  congr 1
  have : ∀ (m : List α) (j : Nat), run (fun i x (_ : Unit) => bif p i x then .inl () else .inr (.inl ())) (fun _ => (.inr () : Unit ⊕ Unit)) j m () = bif allI p j m then .inr () else .inl () := by
    intro m
    induction m with
    | nil => intro j; rfl
    | cons x m ih =>
      intro j
      simp only [oB_s, run, allI]
      cases p j x with
      | false => rfl
      | true => exact ih (j + 1)
  exact this _ _
/-- The first place at which it is so, or what stands for none. -/
def firstI {α : Type} (p : α → Bool) : Nat → List α → Option Nat
  | _, [] => none
  | k, x :: l => bif p x then some k else firstI p (k + 1) l
/-- A loop that ends early at what is so. -/
theorem loop_first {α τ R : Type} {step : τ → Option (τ ⊕ R)} (mk : Int → τ) (l : List α) (p : α → Bool) (y : Nat → R) (n : R)
    (hs : ∀ (i : Nat) x, l[i]? = some x → step (mk i) = some (bif p x then .inr (y i) else .inl (mk ((i + 1 : Nat) : Int))))
    (he : step (mk l.length) = some (.inr n)) : ci step (mk 0) = some (match firstI p 0 l with | some i => y i | none => n) := by
  have h := loop_list (step := step) l (fun i (_ : Unit) => mk i) (fun i _ => i ≤ l.length) (fun i x _ => bif p x then .inr (y i) else .inl ()) (fun _ => n) (fun i x s hx hk => by
    rw [hs i x hx]; cases p x <;> rfl) (fun i x s s' hx hk _ => by have := (List.getElem?_eq_some_iff.1 hx).1; omega) (fun i s hl hk => by rw [Nat.le_antisymm hk hl]; exact he) 0 () (Nat.zero_le _)
  refine h.trans ?_
  congr 1
  have : ∀ (m : List α) (j : Nat), run (fun i x (_ : Unit) => bif p x then .inr (y i) else .inl ()) (fun _ => n) j m () = match firstI p j m with | some i => y i | none => n := by
    intro m
    induction m with
    | nil => intro j; rfl
    | cons x m ih =>
      intro j
      simp only [oB_s, run, firstI]
      cases p x with
      | true => rfl
      | false => exact ih (j + 1)
  exact this _ _
theorem first_any {α : Type} (p : α → Bool) (k : Nat) (l : List α) : (firstI p k l).isSome = l.any p := by
  induction l generalizing k with
  | nil => rfl
  | cons x l ih =>
    simp only [oB_s, firstI, List.any_cons]
    cases p x with
    | true => rfl
    | false => simpa using ih (k + 1)
theorem allI_any {α : Type} (p : α → Bool) (k : Nat) (l : List α) : allI (fun _ x => !(p x)) k l = !(l.any p) := by
  induction l generalizing k with
  | nil => rfl
  | cons x l ih =>
    simp only [oB_s, allI, List.any_cons, Bool.not_or, ih]
/-- A loop that copies. -/
theorem loop_copy {α τ R : Type} {step : τ → Option (τ ⊕ R)} (mk : Int → List α → τ) (l : List α) (e : List α → R)
    (hs : ∀ (i : Nat) x, l[i]? = some x → step (mk i (l.take i)) = some (.inl (mk ((i + 1 : Nat) : Int) (l.take i ++ [x]))))
    (he : step (mk l.length l) = some (.inr (e l))) : ci step (mk 0 []) = some (e l) := by
  have h := loop_list (step := step) l mk (fun i s => i ≤ l.length ∧ s = l.take i) (fun i x s => .inl (s ++ [x])) e (fun i x s hx hk => by
    rw [hk.2, hs i x hx]) (fun i x s s' hx hk hf => by
      have := (List.getElem?_eq_some_iff.1 hx)
      obtain ⟨h1, h2⟩ := this
      refine ⟨by omega, ?_⟩
      simp only [oB_s, Sum.inl.injEq] at hf
      rw [← hf, hk.2, ← h2, List.take_append_getElem h1]) (fun i s hl hk => by
      have hil : i = l.length := by omega
      rw [hk.2, hil, List.take_length]; exact he) 0 [] ⟨Nat.zero_le _, by simp⟩
  refine h.trans ?_
  congr 1
  have : ∀ (m s : List α) (j : Nat), run (fun i x (s : List α) => (.inl (s ++ [x]) : List α ⊕ R)) e j m s = e (s ++ m) := by
    intro m
    induction m with
    | nil => intro s j; simp [run]
    | cons x m ih =>
      intro s j
      simp only [oB_s, run]
      rw [ih]; simp
  rw [this]; simp
/-- Numbers that count a list's places. -/
theorem wrapN {n : Nat} (h : n ≤ 140737488355328) : IntKind.i64.wrap ((n : Int) + 1) = ((n + 1 : Nat) : Int) := by
  rw [wrap_id] <;> omega
theorem wrapN1 {n : Nat} (h : n ≤ 140737488355328) : IntKind.i64.wrap ((n : Int) - 1) = (n : Int) - 1 := by
  rw [wrap_id] <;> omega
theorem get_lt {α : Type} {l : List α} {i : Nat} {x : α} (h : l[i]? = some x) : i < l.length := (List.getElem?_eq_some_iff.1 h).1
theorem ltN {i n : Nat} (h : i < n) : decide ((i : Int) < (n : Int)) = true := decide_eq_true (by omega)
theorem geN {i n : Nat} (h : n ≤ i) : decide ((i : Int) < (n : Int)) = false := decide_eq_false (by omega)
/- What may be a value: the program and the document agree. -/

theorem bytesLess_cmp : ∀ a b : List UInt8, decide (0 ≤ Lib.compareBytes a b) = !Op.bytesLess a b
  | [], [] => by simp [Lib.compareBytes, Op.bytesLess]
  | [], _ :: _ => by simp [Lib.compareBytes, Op.bytesLess]
  | _ :: _, [] => by simp [Lib.compareBytes, Op.bytesLess]
  | a :: x, b :: y => by
    simp only [oB_s, Lib.compareBytes, Op.bytesLess]
    by_cases h1 : a < b
    · simp [h1]
    · by_cases h2 : b < a
      · have h3 : (a == b) = false := by
          rw [beq_eq_false_iff_ne]; rintro rfl; exact h1 h2
        simp [h1, h2, h3]
      · have h3 : a = b := by
          have e1 : ¬ a.toNat < b.toNat := h1
          have e2 : ¬ b.toNat < a.toNat := h2
          exact UInt8.toNat_inj.1 (by omega)
        subst h3
        simp only [oB_s, h1, if_false, beq_self_eq_true, decide_false, Bool.true_and, Bool.false_or]
        exact bytesLess_cmp x y
theorem cmp_slt (a b : ByteArray) : decide (0 ≤ strings_Compare_v a b) = !sltB a b := by
  have : strings_Compare_v a b = Lib.compareBytes a.toList b.toList := by
    rw [ByteArray.toList_eq, ByteArray.toList_eq]; rfl
  rw [this]; exact bytesLess_cmp _ _
theorem field_slt (a b : GPair) : decide (0 ≤ value_byField_v a b) = !sltB a.fField b.fField := cmp_slt _ _
/-- Is the element ahead of place i ahead of x? -/
def prevB {α : Type} (lt : α → α → Bool) (l : List α) (i : Nat) (x : α) : Bool := match l[i - 1]? with
  | some y => lt y x
  | none => true
theorem prevB_eq {α : Type} {lt : α → α → Bool} {l : List α} {i : Nat} {x y : α} (h : l[i - 1]? = some y) : prevB lt l i x = lt y x := by
  unfold prevB; rw [h]
/-- Each of a list's elements is ahead of the next one. -/
def risingP {α : Type} (lt : α → α → Bool) (l : List α) : Bool := allI (prevB lt l) 1 (l.drop 1)
theorem bool_out (b : Bool) : (match (some (bif b then .inr () else .inl ()) : Option (Unit ⊕ Unit)) with | none => none | some (.inl _) => some false | some (.inr _) => some true) = some b := by cases b <;> rfl
theorem prevI {α : Type} {l : List α} {i : Nat} {x : α} (hx : l[i]? = some x) (hi : 1 ≤ i) (hl : l.length ≤ 140737488351232) : ∃ y, l[i - 1]? = some y ∧ idx l (IntKind.i64.wrap ((i : Int) - 1)) = some y := by
  have h := get_lt hx
  refine ⟨l[i - 1], List.getElem?_eq_getElem _, ?_⟩
  rw [wrapN1 (by omega)]
  have : ((i : Int) - 1) = ((i - 1 : Nat) : Int) := by omega
  rw [this]
  exact idx_get (List.getElem?_eq_getElem _)
theorem pairs_rise (l : List GPair) (hl : l.length ≤ 140737488351232) : value_rising_Pair_value_byField l = some (risingP (fun a b => sltB a.fField b.fField) l) := by
  unfold value_rising_Pair_value_byField
  rw [show (1 : Int) = ((1 : Nat) : Int) from rfl, loop_all (step := st_value_rising_Pair_value_byField_0 l) l 1 (prevB (fun a b => sltB a.fField b.fField) l) (fun i x hx hi => by
    obtain ⟨y, h1, h2⟩ := prevI hx hi hl
    simp only [oB_s, st_value_rising_Pair_value_byField_0, ltN (get_lt hx), cond_true, h2, idx_get hx, prevB_eq h1, field_slt, wrapN (Nat.le_trans (Nat.le_of_lt (get_lt hx)) (Nat.le_trans hl (by decide)))]
    cases sltB y.fField x.fField <;> rfl) (fun i hi => by simp only [oB_s, st_value_rising_Pair_value_byField_0, geN hi, cond_false])]
  show _ = some (allI _ 1 (l.drop 1))
  generalize allI _ 1 (l.drop 1) = b
  cases b <;> rfl
theorem items_rise (l : List ByteArray) (hl : l.length ≤ 140737488351232) : value_rising_string_strings_Compare l = some (risingP sltB l) := by
  unfold value_rising_string_strings_Compare
  rw [show (1 : Int) = ((1 : Nat) : Int) from rfl, loop_all (step := st_value_rising_string_strings_Compare_0 l) l 1 (prevB sltB l) (fun i x hx hi => by
    obtain ⟨y, h1, h2⟩ := prevI hx hi hl
    simp only [oB_s, st_value_rising_string_strings_Compare_0, ltN (get_lt hx), cond_true, h2, idx_get hx, prevB_eq h1, cmp_slt, wrapN (Nat.le_trans (Nat.le_of_lt (get_lt hx)) (Nat.le_trans hl (by decide)))]
    cases sltB y x <;> rfl) (fun i hi => by simp only [oB_s, st_value_rising_string_strings_Compare_0, geN hi, cond_false])]
  show _ = some (allI _ 1 (l.drop 1))
  generalize allI _ 1 (l.drop 1) = b
  cases b <;> rfl
theorem or2 (a b : Int) : cmp_Or_int [a, b] = some (bif a == 0 then b else a) := by
  unfold cmp_Or_int
  have h := loop_first (step := st_cmp_Or_int_0 [a, b] ([a, b].length : Int)) (fun i => i) [a, b] (fun x => !(x == 0)) (fun i => .inl ([a, b].getD i 0)) (.inr ()) (fun i x hx => by
    have h1 := get_lt hx
    have h2 : i ≤ 140737488355328 := by simp only [oB_s, List.length_cons, List.length_nil] at h1; omega
    have h3 : [a, b].getD i 0 = x := by simp [List.getD, hx]
    simp only [oB_s, st_cmp_Or_int_0, ltN h1, cond_true, idx_get hx, wrapN h2, h3]
    cases (x == 0) <;> rfl) (by simp only [oB_s, st_cmp_Or_int_0, geN (Nat.le_refl _), cond_false])
  rw [h]
  simp only [oB_s, firstI]
  cases ha : (a == 0) with
  | false => rfl
  | true =>
    cases hb : (b == 0) with
    | false => rfl
    | true =>
      have : b = 0 := by simpa using hb
      subst this; rfl
theorem score_lt (a b : GScore) : ∃ n, value_byScore a b = some n ∧ decide (0 ≤ n) = !rostrumref_scoreAhead_v a b := by
  unfold value_byScore
  rw [or2]
  refine ⟨_, rfl, ?_⟩
  simp only [oB_s, cmp_Compare_int_v, cmp_isNaN_int_v, cond_false, rostrumref_scoreAhead_v]
  by_cases h : a.fN = b.fN
  · have e : decide (b.fN < b.fN) = false := decide_eq_false (by omega)
    simp only [oB_s, h, e, cond_false, beq_self_eq_true, cond_true]
    exact cmp_slt _ _
  · have e : (a.fN == b.fN) = false := by simpa using h
    by_cases h1 : a.fN < b.fN
    · simp [h1, e]
    · have h2 : b.fN < a.fN := by omega
      simp [h1, h2, e]
theorem scores_rise (l : List GScore) (hl : l.length ≤ 140737488351232) : value_rising_Score_value_byScore l = some (risingP rostrumref_scoreAhead_v l) := by
  unfold value_rising_Score_value_byScore
  rw [show (1 : Int) = ((1 : Nat) : Int) from rfl, loop_all (step := st_value_rising_Score_value_byScore_0 l) l 1 (prevB rostrumref_scoreAhead_v l) (fun i x hx hi => by
    obtain ⟨y, h1, h2⟩ := prevI hx hi hl
    obtain ⟨n, h3, h4⟩ := score_lt y x
    simp only [oB_s, st_value_rising_Score_value_byScore_0, ltN (get_lt hx), cond_true, h2, idx_get hx, prevB_eq h1, h3, h4, wrapN (Nat.le_trans (Nat.le_of_lt (get_lt hx)) (Nat.le_trans hl (by decide)))]
    cases rostrumref_scoreAhead_v y x <;> rfl) (fun i hi => by simp only [oB_s, st_value_rising_Score_value_byScore_0, geN hi, cond_false])]
  show _ = some (allI _ 1 (l.drop 1))
  generalize allI _ 1 (l.drop 1) = b
  cases b <;> rfl
/-- The place of a first one, as a number. -/
def placeI (o : Option Nat) : Int := match o with | some i => i | none => -1
theorem placeI_pos (o : Option Nat) : decide (0 ≤ placeI o) = o.isSome := by
  cases o with
  | none => rfl
  | some i => exact decide_eq_true (Int.natCast_nonneg _)
theorem texts_any (l : List ByteArray) (hl : l.length ≤ 140737488351232) : slices_ContainsFunc_string_string_value_Check_fn1 l = some (l.any value_Check_fn1_v) := by
  unfold slices_ContainsFunc_string_string_value_Check_fn1 slices_IndexFunc_string_string_value_Check_fn1
  rw [loop_first (step := st_slices_IndexFunc_string_string_value_Check_fn1_0 l (l.length : Int)) (fun i => i) l value_Check_fn1_v (fun i => .inl (i : Int)) (.inr ()) (fun i x hx => by
    simp only [oB_s, st_slices_IndexFunc_string_string_value_Check_fn1_0, ltN (get_lt hx), cond_true, idx_get hx, wrapN (Nat.le_trans (Nat.le_of_lt (get_lt hx)) (Nat.le_trans hl (by decide)))]
    cases value_Check_fn1_v x <;> rfl) (by simp only [oB_s, st_slices_IndexFunc_string_string_value_Check_fn1_0, geN (Nat.le_refl _), cond_false])]
  rw [← first_any value_Check_fn1_v 0 l]
  cases firstI value_Check_fn1_v 0 l <;> simp [oB_s]
theorem pairs_any (l : List GPair) (hl : l.length ≤ 140737488351232) : slices_ContainsFunc_Pair_Pair_value_Check_fn2 l = some (l.any value_Check_fn2_v) := by
  unfold slices_ContainsFunc_Pair_Pair_value_Check_fn2 slices_IndexFunc_Pair_Pair_value_Check_fn2
  rw [loop_first (step := st_slices_IndexFunc_Pair_Pair_value_Check_fn2_0 l (l.length : Int)) (fun i => i) l value_Check_fn2_v (fun i => .inl (i : Int)) (.inr ()) (fun i x hx => by
    simp only [oB_s, st_slices_IndexFunc_Pair_Pair_value_Check_fn2_0, ltN (get_lt hx), cond_true, idx_get hx, wrapN (Nat.le_trans (Nat.le_of_lt (get_lt hx)) (Nat.le_trans hl (by decide)))]
    cases value_Check_fn2_v x <;> rfl) (by simp only [oB_s, st_slices_IndexFunc_Pair_Pair_value_Check_fn2_0, geN (Nat.le_refl _), cond_false])]
  rw [← first_any value_Check_fn2_v 0 l]
  cases firstI value_Check_fn2_v 0 l <;> simp [oB_s]
theorem members_any (l : List GScore) (hl : l.length ≤ 140737488351232) : slices_ContainsFunc_Score_Score_value_Check_fn3 l = some (l.any value_Check_fn3_v) := by
  unfold slices_ContainsFunc_Score_Score_value_Check_fn3 slices_IndexFunc_Score_Score_value_Check_fn3
  rw [loop_first (step := st_slices_IndexFunc_Score_Score_value_Check_fn3_0 l (l.length : Int)) (fun i => i) l value_Check_fn3_v (fun i => .inl (i : Int)) (.inr ()) (fun i x hx => by
    simp only [oB_s, st_slices_IndexFunc_Score_Score_value_Check_fn3_0, ltN (get_lt hx), cond_true, idx_get hx, wrapN (Nat.le_trans (Nat.le_of_lt (get_lt hx)) (Nat.le_trans hl (by decide)))]
    cases value_Check_fn3_v x <;> rfl) (by simp only [oB_s, st_slices_IndexFunc_Score_Score_value_Check_fn3_0, geN (Nat.le_refl _), cond_false])]
  rw [← first_any value_Check_fn3_v 0 l]
  cases firstI value_Check_fn3_v 0 l <;> simp [oB_s]
theorem counts_any (l : List GScore) (hl : l.length ≤ 140737488351232) : slices_ContainsFunc_Score_Score_value_Check_fn4 l = some (l.any value_Check_fn4_v) := by
  unfold slices_ContainsFunc_Score_Score_value_Check_fn4 slices_IndexFunc_Score_Score_value_Check_fn4
  rw [loop_first (step := st_slices_IndexFunc_Score_Score_value_Check_fn4_0 l (l.length : Int)) (fun i => i) l value_Check_fn4_v (fun i => .inl (i : Int)) (.inr ()) (fun i x hx => by
    simp only [oB_s, st_slices_IndexFunc_Score_Score_value_Check_fn4_0, ltN (get_lt hx), cond_true, idx_get hx, wrapN (Nat.le_trans (Nat.le_of_lt (get_lt hx)) (Nat.le_trans hl (by decide)))]
    cases value_Check_fn4_v x <;> rfl) (by simp only [oB_s, st_slices_IndexFunc_Score_Score_value_Check_fn4_0, geN (Nat.le_refl _), cond_false])]
  rw [← first_any value_Check_fn4_v 0 l]
  cases firstI value_Check_fn4_v 0 l <;> simp [oB_s]
theorem rank_p (l : List GScore) (m : ByteArray) (hl : l.length ≤ 140737488351232) : value_rank l m = some (placeI (firstI (fun x => cJ x.fMember m) 0 l)) := by
  unfold value_rank slices_IndexFunc_Score_Score_value_rank_fn1
  rw [loop_first (step := st_slices_IndexFunc_Score_Score_value_rank_fn1_0 l (l.length : Int)) (fun i => (i, m)) l (fun x => cJ x.fMember m) (fun i => .inl ((i : Int), m)) (.inr m) (fun i x hx => by
    simp only [oB_s, st_slices_IndexFunc_Score_Score_value_rank_fn1_0, ltN (get_lt hx), cond_true, idx_get hx, value_rank_fn1, wrapN (Nat.le_trans (Nat.le_of_lt (get_lt hx)) (Nat.le_trans hl (by decide)))]
    cases cJ x.fMember m <;> rfl) (by simp only [oB_s, st_slices_IndexFunc_Score_Score_value_rank_fn1_0, geN (Nat.le_refl _), cond_false])]
  cases firstI (fun x => cJ x.fMember m) 0 l <;> rfl
theorem memberAt_p (l : List GScore) (m : ByteArray) (hl : l.length ≤ 140737488351232) : rostrumref_memberAt l m = some (placeI (firstI (fun x => cJ x.fMember m) 0 l)) := by
  unfold rostrumref_memberAt
  rw [loop_first (step := st_rostrumref_memberAt_0 l m) (fun i => i) l (fun x => cJ x.fMember m) (fun i => .inl (i : Int)) (.inr ()) (fun i x hx => by
    simp only [oB_s, st_rostrumref_memberAt_0, ltN (get_lt hx), cond_true, idx_get hx, wrapN (Nat.le_trans (Nat.le_of_lt (get_lt hx)) (Nat.le_trans hl (by decide)))]
    cases cJ x.fMember m <;> rfl) (by simp only [oB_s, st_rostrumref_memberAt_0, geN (Nat.le_refl _), cond_false])]
  cases firstI (fun x => cJ x.fMember m) 0 l <;> rfl
/-- No score's member stands among those ahead of it. -/
def onceB (l : List GScore) (i : Nat) (x : GScore) : Bool := !(firstI (fun y => cJ y.fMember x.fMember) 0 (cI l 0 i)).isSome
/-- What is wrong with a value's texts, numbers and order. -/
noncomputable def tailF (v : GValue) : Int :=
  bif v.fItems.any value_Check_fn1_v then 1
  else bif v.fPairs.any value_Check_fn2_v then 1
  else bif v.fScores.any value_Check_fn3_v then 1
  else bif !value_count_v v.fCount then 2
  else bif v.fScores.any value_Check_fn4_v then 2
  else bif (risingP (fun a b => sltB a.fField b.fField) v.fPairs && (risingP rostrumref_scoreAhead_v v.fScores && (!(v.fKind == 5) || risingP sltB v.fItems))) && allI (onceB v.fScores) 0 v.fScores then 0 else 10
theorem subL_len {α : Type} (l : List α) (i : Nat) (n : Nat) (h : l.length ≤ n) : (cI l 0 i).length ≤ n := by
  unfold cI
  simp only [oB_s, List.length_drop, List.length_take]
  omega
theorem rng_ok {i n : Nat} (h : i ≤ n) : rngB 0 i n = true := by
  unfold rngB
  simp
  omega
theorem once_p (v : GValue) (b : Bool) (hl : v.fScores.length ≤ 140737488351232) : ci (st_value_Check_1 v v.fScores (v.fScores.length : Int) v.fKind v.fCount v.fPairs v.fItems) (b, 0) = some (b && allI (onceB v.fScores) 0 v.fScores) := by
  have h := loop_list (step := st_value_Check_1 v v.fScores (v.fScores.length : Int) v.fKind v.fCount v.fPairs v.fItems) v.fScores (fun i s => (s, i)) (fun i _ => i ≤ v.fScores.length) (fun i x s => .inl (s && onceB v.fScores i x)) (fun s => s) (fun i x s hx hi => by
    have hw := wrapN (n := i) (by omega)
    simp only [oB_s, st_value_Check_1, ltN (get_lt hx), cond_true, idx_get hx, hw, rng_ok hi, rank_p _ _ (subL_len v.fScores i _ hl), onceB, ← placeI_pos]
    cases s with
    | false => rfl
    | true =>
      simp only [oB_s, cond_true, Bool.true_and]
      congr 4
      generalize placeI _ = z
      by_cases hz : z < 0
      · simp [hz, show ¬ 0 ≤ z by omega]
      · simp [hz, show 0 ≤ z by omega]) (fun i x s s' hx hi _ => by have := get_lt hx; omega) (fun i s hl hi => by
    simp only [oB_s, st_value_Check_1, geN hl, cond_false]) 0 b (Nat.zero_le _)
  refine h.trans ?_
  congr 1
  have : ∀ (m : List GScore) (j : Nat) (s : Bool), run (fun i x s => (.inl (s && onceB v.fScores i x) : Bool ⊕ Bool)) (fun s => s) j m s = (s && allI (onceB v.fScores) j m) := by
    intro m
    induction m with
    | nil => intro j s; simp [run, allI]
    | cons x m ih =>
      intro j s
      simp only [oB_s, run, allI]
      rw [ih, Bool.and_assoc]
  exact this _ _ _
theorem tail_p (v : GValue) (ok : v.ok) (h : value_text_v v.fText = true) (h16 : ck_value_Check_k16_v v v.fKind v.fCount v.fPairs v.fItems v.fScores = false) : value_Check_c1 v = some (tailF v) := by
  obtain ⟨_, _, _, ⟨o1, _⟩, ⟨o2, _⟩, ⟨o3, _⟩⟩ := ok
  unfold okN at o1 o2 o3
  unfold value_Check_c1
  rw [h16, h, texts_any _ (by omega)]
  simp only [oB_s, cond_true, cond_false]
  rw [pairs_any _ (by omega)]
  simp only [oB_s]
  rw [members_any _ (by omega)]
  simp only [oB_s, value_Check_c0]
  rw [counts_any _ (by omega)]
  simp only [oB_s, ck_value_Check_k26]
  rw [pairs_rise _ (by omega), scores_rise _ (by omega), items_rise _ (by omega)]
  unfold tailF
  cases v.fItems.any value_Check_fn1_v with
  | true => rfl
  | false =>
  cases v.fPairs.any value_Check_fn2_v with
  | true => rfl
  | false =>
  cases v.fScores.any value_Check_fn3_v with
  | true => rfl
  | false =>
  cases value_count_v v.fCount with
  | false => rfl
  | true =>
  cases v.fScores.any value_Check_fn4_v with
  | true => rfl
  | false =>
  simp only [oB_s, cond_true, cond_false, Bool.not_true]
  generalize risingP (fun a b => sltB a.fField b.fField) v.fPairs = b1
  generalize risingP rostrumref_scoreAhead_v v.fScores = b2
  generalize risingP sltB v.fItems = b3
  generalize (v.fKind == 5) = b4
  cases b1 <;> cases b2 <;> cases b3 <;> cases b4 <;> simp only [oB_s, cond_true, cond_false, Bool.true_and, Bool.false_and, Bool.not_true, Bool.not_false, Bool.true_or, Bool.false_or, Bool.or_true, Bool.or_false, Bool.and_true, Bool.and_false] <;> (rw [once_p _ _ (by omega)]; simp only [oB_s, Bool.true_and, Bool.false_and, cond_false]; try (cases allI (onceB v.fScores) 0 v.fScores <;> rfl))
theorem c3_eq (v : GValue) : value_Check_c3 v = value_Check_c1 v := rfl
theorem c5_eq (v : GValue) : value_Check_c5 v = value_Check_c1 v := rfl
theorem c7_eq (v : GValue) : value_Check_c7 v = value_Check_c1 v := rfl
theorem c9_eq (v : GValue) : value_Check_c9 v = value_Check_c1 v := rfl
/-- Is a value's form not that of its kind? -/
def formF (v : GValue) : Bool := (!(v.fKind == 1) && !cJ v.fText ByteArray.empty) || (!(v.fKind == 2) && !(v.fCount == 0)) || (!(v.fKind == 3) && decide (0 < v.fPairs.length)) || (!(v.fKind == 4 || v.fKind == 5) && decide (0 < v.fItems.length)) || (!(v.fKind == 6) && decide (0 < v.fScores.length))
/-- Is a value's size not what may be? -/
noncomputable def sizeF (v : GValue) : Bool := (decide (3 ≤ v.fKind) && (decide (v.fPairs.length + v.fItems.length + v.fScores.length < 1) || decide (20 < v.fPairs.length + v.fItems.length + v.fScores.length))) || !value_text_v v.fText
/-- What is wrong with a value. -/
noncomputable def valF (v : GValue) : Int :=
  bif !(decide (1 ≤ v.fKind) && decide (v.fKind ≤ 6)) then 3
  else bif formF v then 8
  else bif sizeF v then 1
  else tailF v
theorem elements_p (k : Int) (t : ByteArray) (c : Int) (ps : List GPair) (is : List ByteArray) (ss : List GScore) (h1 : ps.length ≤ 140737488351232) (h2 : is.length ≤ 140737488351232) (h3 : ss.length ≤ 140737488351232) : value_elements_v ⟨k, t, c, ps, is, ss⟩ = ((ps.length + is.length + ss.length : Nat) : Int) := by
  unfold value_elements_v
  simp only [oB_s]
  rw [wrap_id (n := (ps.length : Int) + (is.length : Int)) (by omega) (by omega), wrap_id] <;> omega
theorem six {q : Int} (h1 : ¬ q < 1) (h2 : ¬ 6 < q) : q = 1 ∨ q = 2 ∨ q = 3 ∨ q = 4 ∨ q = 5 ∨ q = 6 := by omega
theorem pos_nat (n : Nat) : decide ((0 : Int) < (n : Int)) = decide (0 < n) := by
  by_cases h : 0 < n
  · rw [decide_eq_true h, decide_eq_true (by omega)]
  · rw [decide_eq_false h, decide_eq_false (by omega)]
theorem check_p (v : GValue) (ok : v.ok) : value_Check v = some (valF v) := by
  have ok' := ok
  obtain ⟨q, t, c, ps, is, ss⟩ := v
  obtain ⟨_, _, _, ⟨o1, _⟩, ⟨o2, _⟩, ⟨o3, _⟩⟩ := ok
  unfold okN at o1 o2 o3
  simp only [oB_s] at o1 o2 o3
  have l1 : ps.length ≤ 140737488351232 := by omega
  have l2 : is.length ≤ 140737488351232 := by omega
  have l3 : ss.length ≤ 140737488351232 := by omega
  have l0 : ∀ {α : Type}, ([] : List α).length ≤ 140737488351232 := by intro α; simp
  have E := fun (c : Int) (ps : List GPair) (is : List ByteArray) (ss : List GScore) h1 h2 h3 => elements_p q t c ps is ss h1 h2 h3
  by_cases h1 : q < 1
  · simp [value_Check, h1, valF, show ¬ 1 ≤ q by omega]
  by_cases h2 : 6 < q
  · simp [value_Check, h1, h2, valF, show 1 ≤ q by omega, show ¬ q ≤ 6 by omega]
  have hT : ∀ v : GValue, v.ok → v = ⟨q, t, c, ps, is, ss⟩ → value_Check_c1 v = some (bif sizeF v then 1 else tailF v) := by
    rintro v okv rfl
    cases hs : sizeF ⟨q, t, c, ps, is, ss⟩ with
    | false =>
      unfold sizeF at hs
      simp only [oB_s, Bool.or_eq_false_iff, Bool.not_eq_false'] at hs
      refine tail_p _ okv hs.2 ?_
      unfold ck_value_Check_k16_v
      rw [elements_p _ _ _ _ _ _ l1 l2 l3]
      have h3 := hs.1
      cases hk : decide (3 ≤ q) with
      | false => simp only [oB_s, hk, cond_false]
      | true =>
        rw [hk, Bool.true_and, Bool.or_eq_false_iff, decide_eq_false_iff_not, decide_eq_false_iff_not] at h3
        simp only [oB_s, hk, cond_true]
        rw [decide_eq_false (by omega), cond_false, decide_eq_false (by omega)]
    | true =>
      unfold sizeF at hs
      unfold value_Check_c1 ck_value_Check_k16_v
      rw [elements_p _ _ _ _ _ _ l1 l2 l3]
      simp only [oB_s] at hs ⊢
      cases hx : value_text_v t with
      | false =>
        simp only [oB_s, cond_true, cond_false]
        cases (bif decide (3 ≤ q) then bif decide (((ps.length + is.length + ss.length : Nat) : Int) < 1) then true else decide ((20 : Int) < ((ps.length + is.length + ss.length : Nat) : Int)) else false) <;> rfl
      | true =>
        rw [hx, Bool.not_true, Bool.or_false, Bool.and_eq_true, Bool.or_eq_true, decide_eq_true_eq, decide_eq_true_eq, decide_eq_true_eq] at hs
        rw [decide_eq_true hs.1]
        simp only [oB_s, cond_true]
        rcases hs.2 with h | h
        · rw [decide_eq_true (by omega)]; rfl
        · rw [decide_eq_false (by omega), cond_false, decide_eq_true (by omega)]; rfl
  have hT' := hT _ ok' rfl
  have hr : (decide (1 ≤ q) && decide (q ≤ 6)) = true := by
    rw [Bool.and_eq_true, decide_eq_true_eq, decide_eq_true_eq]; omega
  unfold valF
  simp only [oB_s, hr, Bool.not_true, cond_false]
  generalize hz : (bif sizeF ⟨q, t, c, ps, is, ss⟩ then 1 else tailF ⟨q, t, c, ps, is, ss⟩) = z at hT' ⊢
  unfold value_Check value_Check_c11 value_Check_c10
  simp only [oB_s, c3_eq, c5_eq, c7_eq, c9_eq, hT', decide_eq_false h1, decide_eq_false h2, cond_false, formF]
  rw [elements_p _ _ _ _ _ _ l1 l2 l3, elements_p _ _ _ _ _ _ l1 l2 l3, elements_p _ _ _ _ _ _ l0 l2 l3, elements_p _ _ _ _ _ _ l1 l2 l0, elements_p _ _ _ _ _ _ l1 l0 l3]
  simp only [oB_s, pos_nat, List.length_nil, Nat.zero_add, Nat.add_zero]
  have add0 : ∀ a b : Nat, decide (0 < a + b) = (decide (0 < a) || decide (0 < b)) := by
    intro a b
    by_cases ha : 0 < a
    · rw [decide_eq_true ha, decide_eq_true (by omega), Bool.true_or]
    · have : a = 0 := by omega
      subst this; simp
  simp only [oB_s, add0]
  generalize decide (0 < ps.length) = d1
  generalize decide (0 < is.length) = d2
  generalize decide (0 < ss.length) = d3
  generalize cJ t ByteArray.empty = d4
  generalize (c == 0) = d5
  clear hT hT' hz hr E ok' o1 o2 o3
  rcases six h1 h2 with rfl | rfl | rfl | rfl | rfl | rfl <;> cases d1 <;> cases d2 <;> cases d3 <;> cases d4 <;> cases d5 <;> rfl
theorem any_all {α : Type} (p q : α → Bool) (h : ∀ x, p x = !q x) (l : List α) : allI (fun _ x => q x) 0 l = !l.any p := by
  have : (fun (_ : Nat) (x : α) => q x) = fun _ x => !p x := by
    funext _ x; rw [h x, Bool.not_not]
  rw [this, allI_any]
theorem onceB_zero (l : List GScore) (x : GScore) : onceB l 0 x = true := by
  unfold onceB cI
  simp [firstI]
theorem once_tail (l : List GScore) : allI (onceB l) 0 l = allI (onceB l) 1 (l.drop 1) := by
  have : ∀ m : List GScore, allI (onceB l) 0 m = allI (onceB l) 1 (m.drop 1) := by
    intro m
    cases m with
    | nil => rfl
    | cons x m => simp only [oB_s, allI, onceB_zero, Bool.true_and]; rfl
  exact this l
theorem none_out (a b : Option Int) (x : Bool) : (match (some (bif x then .inr () else .inl ()) : Option (Unit ⊕ Unit)) with | none => none | some (.inl _) => a | some (.inr _) => b) = bif x then b else a := by cases x <;> rfl
theorem r_c6 (v : GValue) : rostrumref_ValueFault_c6 v = rostrumref_ValueFault_c0 v := rfl
theorem r_c11 (v : GValue) : rostrumref_ValueFault_c11 v = rostrumref_ValueFault_c5 v := rfl
/-- What is wrong behind the items. -/
noncomputable def tailG (v : GValue) : Int :=
  bif v.fPairs.any value_Check_fn2_v then 1
  else bif v.fScores.any value_Check_fn3_v then 1
  else bif !value_count_v v.fCount then 2
  else bif v.fScores.any value_Check_fn4_v then 2
  else bif (risingP (fun a b => sltB a.fField b.fField) v.fPairs && (risingP rostrumref_scoreAhead_v v.fScores && (!(v.fKind == 5) || risingP sltB v.fItems))) && allI (onceB v.fScores) 0 v.fScores then 0 else 10
theorem tailFG (v : GValue) : tailF v = bif v.fItems.any value_Check_fn1_v then 1 else tailG v := rfl
theorem r_loops (v : GValue) (ok : v.ok) : ci (st_rostrumref_ValueFault_0 v) 0 = some (bif v.fItems.any value_Check_fn1_v then .inl () else .inr ()) ∧ rostrumref_ValueFault_c5 v = some (tailG v) := by
  obtain ⟨_, _, _, ⟨o1, _⟩, ⟨o2, _⟩, ⟨o3, _⟩⟩ := ok
  unfold okN at o1 o2 o3
  have e0 := loop_all (step := st_rostrumref_ValueFault_0 v) v.fItems 0 (fun _ x => rostrumref_textMay_v x) (fun i x hx hi => by
    simp only [oB_s, st_rostrumref_ValueFault_0, ltN (get_lt hx), cond_true, idx_get hx, wrapN (show i ≤ _ by have := get_lt hx; omega)]
    cases rostrumref_textMay_v x <;> rfl) (fun i hi => by simp only [oB_s, st_rostrumref_ValueFault_0, geN hi, cond_false])
  have e2 := loop_all (step := st_rostrumref_ValueFault_2 v) v.fPairs 0 (fun _ x => bif rostrumref_fieldMay_v x.fField then rostrumref_textMay_v x.fText else false) (fun i x hx hi => by
    simp only [oB_s, st_rostrumref_ValueFault_2, ltN (get_lt hx), cond_true, idx_get hx, wrapN (show i ≤ _ by have := get_lt hx; omega)]
    cases rostrumref_fieldMay_v x.fField <;> cases rostrumref_textMay_v x.fText <;> rfl) (fun i hi => by simp only [oB_s, st_rostrumref_ValueFault_2, geN hi, cond_false])
  have e4 := loop_all (step := st_rostrumref_ValueFault_4 v) v.fScores 0 (fun _ x => rostrumref_textMay_v x.fMember) (fun i x hx hi => by
    simp only [oB_s, st_rostrumref_ValueFault_4, ltN (get_lt hx), cond_true, idx_get hx, wrapN (show i ≤ _ by have := get_lt hx; omega)]
    cases rostrumref_textMay_v x.fMember <;> rfl) (fun i hi => by simp only [oB_s, st_rostrumref_ValueFault_4, geN hi, cond_false])
  have e6 := loop_all (step := st_rostrumref_ValueFault_6 v) v.fScores 0 (fun _ x => rostrumref_countMay_v x.fN) (fun i x hx hi => by
    simp only [oB_s, st_rostrumref_ValueFault_6, ltN (get_lt hx), cond_true, idx_get hx, wrapN (show i ≤ _ by have := get_lt hx; omega)]
    cases rostrumref_countMay_v x.fN <;> rfl) (fun i hi => by simp only [oB_s, st_rostrumref_ValueFault_6, geN hi, cond_false])
  have e8 := loop_all (step := st_rostrumref_ValueFault_8 v) v.fPairs 1 (prevB (fun a b => sltB a.fField b.fField) v.fPairs) (fun i x hx hi => by
    obtain ⟨y, h1, h2⟩ := prevI hx hi (by omega)
    simp only [oB_s, st_rostrumref_ValueFault_8, ltN (get_lt hx), cond_true, h2, idx_get hx, prevB_eq h1, wrapN (show i ≤ _ by have := get_lt hx; omega)]
    cases sltB y.fField x.fField <;> rfl) (fun i hi => by simp only [oB_s, st_rostrumref_ValueFault_8, geN hi, cond_false])
  have e10 : (v.fKind == 5) = true → ci (st_rostrumref_ValueFault_10 v) 1 = some (bif risingP sltB v.fItems then .inr () else .inl ()) := fun h5 => loop_all (step := st_rostrumref_ValueFault_10 v) v.fItems 1 (prevB sltB v.fItems) (fun i x hx hi => by
    obtain ⟨y, h1, h2⟩ := prevI hx hi (by omega)
    simp only [oB_s, st_rostrumref_ValueFault_10, ltN (get_lt hx), cond_true, h5, h2, idx_get hx, prevB_eq h1, wrapN (show i ≤ _ by have := get_lt hx; omega)]
    cases sltB y x <;> rfl) (fun i hi => by simp only [oB_s, st_rostrumref_ValueFault_10, geN hi, cond_false])
  have e10' : (v.fKind == 5) = false → ci (st_rostrumref_ValueFault_10 v) 1 = some (.inr ()) := fun h5 => loopM_end (by
    simp only [oB_s, st_rostrumref_ValueFault_10, h5, cond_false]
    cases decide ((1 : Int) < (v.fItems.length : Int)) <;> rfl)
  have e12 := loop_all (step := st_rostrumref_ValueFault_12 v) v.fScores 1 (fun i x => prevB rostrumref_scoreAhead_v v.fScores i x && onceB v.fScores i x) (fun i x hx hi => by
    obtain ⟨y, h1, h2⟩ := prevI hx hi (by omega)
    have hl := get_lt hx
    simp only [oB_s, st_rostrumref_ValueFault_12, ltN (get_lt hx), cond_true, h2, idx_get hx, prevB_eq h1, rng_ok (Nat.le_of_lt hl), memberAt_p _ _ (subL_len v.fScores i 140737488351232 (by omega)), onceB, ← placeI_pos, wrapN (show i ≤ _ by omega)]
    cases rostrumref_scoreAhead_v y x with
    | false => rfl
    | true =>
      simp only [oB_s, cond_true, Bool.true_and]
      cases decide (0 ≤ placeI (firstI (fun y => cJ y.fMember x.fMember) 0 (cI v.fScores 0 i))) <;> rfl) (fun i hi => by simp only [oB_s, st_rostrumref_ValueFault_12, geN hi, cond_false])
  rw [any_all value_Check_fn1_v (fun x => rostrumref_textMay_v x) (fun x => rfl)] at e0
  rw [any_all value_Check_fn2_v (fun x => bif rostrumref_fieldMay_v x.fField then rostrumref_textMay_v x.fText else false) (fun x => by
    show (bif value_field_v x.fField then !value_text_v x.fText else true) = !(bif value_field_v x.fField then value_text_v x.fText else false)
    cases value_field_v x.fField <;> rfl)] at e2
  rw [any_all value_Check_fn3_v (fun x => rostrumref_textMay_v x.fMember) (fun x => rfl)] at e4
  rw [any_all value_Check_fn4_v (fun x => rostrumref_countMay_v x.fN) (fun x => rfl)] at e6
  rw [allI_and] at e12
  simp only [oB_s, List.drop_zero] at e0 e2 e4 e6
  have k1 : ((1 : Nat) : Int) = 1 := rfl
  have k0 : ((0 : Nat) : Int) = 0 := rfl
  rw [k0] at e0 e2 e4 e6
  rw [k1] at e8 e12
  unfold rostrumref_ValueFault_c5 rostrumref_ValueFault_c4 rostrumref_ValueFault_c3 rostrumref_ValueFault_c2 rostrumref_ValueFault_c1 rostrumref_ValueFault_c0
  refine ⟨by rw [e0]; cases v.fItems.any value_Check_fn1_v <;> rfl, ?_⟩
  rw [e2, e4, e6, e8, e12]
  unfold tailG
  rw [once_tail]
  generalize hb1 : allI (prevB (fun a b => sltB a.fField b.fField) v.fPairs) 1 (v.fPairs.drop 1) = b1
  generalize hb2 : allI (prevB rostrumref_scoreAhead_v v.fScores) 1 (v.fScores.drop 1) = b2
  have hb1' : risingP (fun a b => sltB a.fField b.fField) v.fPairs = b1 := hb1
  have hb2' : risingP rostrumref_scoreAhead_v v.fScores = b2 := hb2
  rw [hb1', hb2']
  generalize allI (onceB v.fScores) 1 (v.fScores.drop 1) = b4
  have hc : rostrumref_countMay_v v.fCount = value_count_v v.fCount := rfl
  rw [hc]
  generalize v.fPairs.any value_Check_fn2_v = a2
  generalize v.fScores.any value_Check_fn3_v = a3
  generalize value_count_v v.fCount = a4
  generalize v.fScores.any value_Check_fn4_v = a5
  cases h5 : (v.fKind == 5) with
  | true =>
    rw [e10 h5]
    generalize risingP sltB v.fItems = b3
    cases a2 <;> try rfl
    cases a3 <;> try rfl
    cases a4 <;> try rfl
    cases a5 <;> try rfl
    cases b1 <;> cases b2 <;> cases b3 <;> cases b4 <;> rfl
  | false =>
    rw [e10' h5]
    cases a2 <;> try rfl
    cases a3 <;> try rfl
    cases a4 <;> try rfl
    cases a5 <;> try rfl
    cases b1 <;> cases b2 <;> cases b4 <;> rfl
theorem fault_p (v : GValue) (ok : v.ok) : rostrumref_ValueFault v = some (valF v) := by
  obtain ⟨hl, hg⟩ := r_loops v ok
  obtain ⟨_, _, _, ⟨o1, _⟩, ⟨o2, _⟩, ⟨o3, _⟩⟩ := ok
  unfold okN at o1 o2 o3
  have hk6 : ck_rostrumref_ValueFault_k6_v v = sizeF v := by
    have hs : rostrumref_sizeOf_v v = ((v.fPairs.length + v.fItems.length + v.fScores.length : Nat) : Int) := elements_p v.fKind v.fText v.fCount _ _ _ (by omega) (by omega) (by omega)
    unfold ck_rostrumref_ValueFault_k6_v sizeF
    rw [hs]
    have hx : rostrumref_textMay_v v.fText = value_text_v v.fText := rfl
    rw [hx]
    cases decide (3 ≤ v.fKind) with
    | false => rfl
    | true =>
      simp only [oB_s, cond_true, Bool.true_and]
      by_cases h1 : v.fPairs.length + v.fItems.length + v.fScores.length < 1
      · rw [decide_eq_false (show ¬ (1 : Int) ≤ _ by omega), decide_eq_true h1]; rfl
      · rw [decide_eq_true (show (1 : Int) ≤ _ by omega), decide_eq_false h1]
        by_cases h2 : 20 < v.fPairs.length + v.fItems.length + v.fScores.length
        · rw [decide_eq_false (show ¬ _ ≤ (20 : Int) by omega), decide_eq_true h2]; rfl
        · rw [decide_eq_true (show _ ≤ (20 : Int) by omega), decide_eq_false h2]; rfl
  unfold rostrumref_ValueFault rostrumref_ValueFault_c12
  simp only [oB_s, r_c11, hk6, hl, hg]
  unfold valF
  rw [tailFG]
  generalize tailG v = tg
  generalize v.fItems.any value_Check_fn1_v = a1
  generalize sizeF v = sz
  clear hl hg hk6
  obtain ⟨q, t, c, ps, is, ss⟩ := v
  by_cases h1 : q < 1
  · simp [show ¬ 1 ≤ q by omega]
  by_cases h2 : 6 < q
  · simp [show 1 ≤ q by omega, show ¬ q ≤ 6 by omega]
  simp only [oB_s, ck_rostrumref_ValueFault_k4_v, ck_rostrumref_ValueFault_k4_v_c0, ck_rostrumref_ValueFault_k4_v_c1, ck_rostrumref_ValueFault_k4_v_c2, ck_rostrumref_ValueFault_k4v2_v, ck_rostrumref_ValueFault_k4v2_v_c0, ck_rostrumref_ValueFault_k4v2_v_c1, ck_rostrumref_ValueFault_k4v2_v_c2, ck_rostrumref_ValueFault_k4v2_v_c3, ck_rostrumref_ValueFault_k4v2_v_c4, ck_rostrumref_ValueFault_k4v2_v_c5, ck_rostrumref_ValueFault_k4v2_v_c6, formF, pos_nat]
  generalize decide (0 < ps.length) = d1
  generalize decide (0 < is.length) = d2
  generalize decide (0 < ss.length) = d3
  generalize cJ t ByteArray.empty = d4
  generalize (c == 0) = d5
  cases sz <;> cases a1 <;> rcases six h1 h2 with rfl | rfl | rfl | rfl | rfl | rfl <;> cases d1 <;> cases d2 <;> cases d3 <;> cases d4 <;> cases d5 <;> rfl
/- What may be a store: the program and the document agree. -/

theorem copyV_p (v : GValue) (ok : v.ok) : rostrumref_ValueCopy v = some v := by
  obtain ⟨_, _, _, ⟨o1, _⟩, ⟨o2, _⟩, ⟨o3, _⟩⟩ := ok
  unfold okN at o1 o2 o3
  have e0 := loop_copy (step := st_rostrumref_ValueCopy_0 v) (fun i l => (i, ⟨v.fKind, v.fText, v.fCount, l, [], []⟩)) v.fPairs (fun l => ⟨v.fKind, v.fText, v.fCount, l, [], []⟩) (fun i x hx => by
    have h := get_lt hx
    have hf : cH ((v.fPairs.take i).length + 1) 32 = true := fits_of (by rw [List.length_take]; omega)
    simp only [oB_s, st_rostrumref_ValueCopy_0, ltN h, cond_true, idx_get hx, hf, wrapN (show i ≤ _ by omega)]) (by simp only [oB_s, st_rostrumref_ValueCopy_0, geN (Nat.le_refl _), cond_false])
  have e2 := loop_copy (step := st_rostrumref_ValueCopy_2 v) (fun i l => (i, ⟨v.fKind, v.fText, v.fCount, v.fPairs, l, []⟩)) v.fItems (fun l => ⟨v.fKind, v.fText, v.fCount, v.fPairs, l, []⟩) (fun i x hx => by
    have h := get_lt hx
    have hf : cH ((v.fItems.take i).length + 1) 16 = true := fits_of (by rw [List.length_take]; omega)
    simp only [oB_s, st_rostrumref_ValueCopy_2, ltN h, cond_true, idx_get hx, hf, wrapN (show i ≤ _ by omega)]) (by simp only [oB_s, st_rostrumref_ValueCopy_2, geN (Nat.le_refl _), cond_false])
  have e4 := loop_copy (step := st_rostrumref_ValueCopy_4 v) (fun i l => (i, ⟨v.fKind, v.fText, v.fCount, v.fPairs, v.fItems, l⟩)) v.fScores (fun l => ⟨v.fKind, v.fText, v.fCount, v.fPairs, v.fItems, l⟩) (fun i x hx => by
    have h := get_lt hx
    have hf : cH ((v.fScores.take i).length + 1) 24 = true := fits_of (by rw [List.length_take]; omega)
    simp only [oB_s, st_rostrumref_ValueCopy_4, ltN h, cond_true, idx_get hx, hf, wrapN (show i ≤ _ by omega)]) (by simp only [oB_s, st_rostrumref_ValueCopy_4, geN (Nat.le_refl _), cond_false])
  unfold rostrumref_ValueCopy
  rw [e0]
  simp only [oB_s, rostrumref_ValueCopy_c0]
  rw [e2]
  simp only [oB_s]
  rw [e4, oB_s]
/-- A loop that ends early at what is not so, with something in hand. -/
theorem loop_allX {α β : Type} {step : Int → Option (Int ⊕ (β ⊕ Unit))} (l : List α) (g : α → β) (p : Nat → α → Bool)
    (hs : ∀ (i : Nat) x, l[i]? = some x → step (i : Int) = some (bif p i x then .inl ((i + 1 : Nat) : Int) else .inr (.inl (g x))))
    (he : step (l.length : Int) = some (.inr (.inr ()))) : ∃ r, ci step 0 = some r ∧ (allI p 0 l = true → r = .inr ()) ∧ (allI p 0 l = false → ∃ y, r = .inl y) := by
  have h := loop_list (step := step) l (fun i (_ : Unit) => i) (fun i _ => i ≤ l.length) (fun i x _ => bif p i x then .inl () else .inr (.inl (g x))) (fun _ => .inr ()) (fun i x s hx hk => by
    rw [hs i x hx]; cases p i x <;> rfl) (fun i x s s' hx hk _ => by have := get_lt hx; omega) (fun i s hl hk => by rw [Nat.le_antisymm hk hl]; exact he) 0 () (Nat.zero_le _)
  refine ⟨_, h, ?_, ?_⟩
  · have : ∀ (m : List α) (j : Nat), allI p j m = true → run (fun i x (_ : Unit) => bif p i x then .inl () else .inr (.inl (g x))) (fun _ => (.inr () : β ⊕ Unit)) j m () = .inr () := by
      intro m
      induction m with
      | nil => intro j _; rfl
      | cons x m ih =>
        intro j h
        simp only [oB_s, allI, Bool.and_eq_true] at h
        simp only [oB_s, run, h.1, cond_true]
        exact ih (j + 1) h.2
    exact this _ _
  · have : ∀ (m : List α) (j : Nat), allI p j m = false → ∃ y, run (fun i x (_ : Unit) => bif p i x then .inl () else .inr (.inl (g x))) (fun _ => (.inr () : β ⊕ Unit)) j m () = .inl y := by
      intro m
      induction m with
      | nil => intro j h; cases h
      | cons x m ih =>
        intro j h
        simp only [oB_s, run]
        cases hp : p j x with
        | false => exact ⟨_, rfl⟩
        | true =>
          simp only [oB_s, allI, hp, Bool.true_and] at h
          exact ih (j + 1) h
    exact this _ _
/-- May an entry stand at that place? -/
noncomputable def entB (now : Int) (l : List GEntry) (i : Nat) (x : GEntry) : Bool := (value_field_v x.fKey && ((valF x.fValue == 0) && (decide (i = 0) || prevB (fun a b => sltB a.fKey b.fKey) l i x))) && ((x.fUntil == 0) || (decide (now < x.fUntil) && decide (x.fUntil ≤ 1073741824)))
/-- May a store be? -/
noncomputable def storeB (s : GStore) : Bool := (decide (0 ≤ s.fNow) && (decide (s.fNow ≤ 1073741824) && decide (s.fEntries.length ≤ 12))) && allI (entB s.fNow s.fEntries) 0 s.fEntries
theorem until_p (now u : Int) : (bif (u == 0) then false else bif decide (u ≤ now) then true else decide (1073741824 < u)) = !((u == 0) || (decide (now < u) && decide (u ≤ 1073741824))) := by
  cases (u == 0) with
  | true => rfl
  | false =>
    by_cases h1 : u ≤ now
    · simp [h1, show ¬ now < u by omega]
    · by_cases h2 : 1073741824 < u
      · simp [h1, h2, show ¬ u ≤ 1073741824 by omega]
      · simp [h1, h2, show u ≤ 1073741824 by omega, show now < u by omega]
theorem until_r (now u : Int) (h : 0 ≤ now) : (bif (u == 0) then false else bif decide (0 ≤ u) then bif decide (u ≤ 1073741824) then decide (u ≤ now) else true else true) = !((u == 0) || (decide (now < u) && decide (u ≤ 1073741824))) := by
  cases (u == 0) with
  | true => rfl
  | false =>
    by_cases h0 : 0 ≤ u
    · by_cases h1 : u ≤ now
      · by_cases h2 : u ≤ 1073741824
        · simp [h0, h1, h2, show ¬ now < u by omega]
        · simp [h0, h1, h2]
      · by_cases h2 : u ≤ 1073741824
        · simp [h0, h1, h2, show now < u by omega]
        · simp [h0, h1, h2]
    · simp [h0, show ¬ now < u by omega]
theorem k6_p (s : GStore) (i : Nat) (l : List GEntry) (n : Int) (x : GEntry) (ok : x.fValue.ok) (hx : s.fEntries[i]? = some x) (hl : s.fEntries.length ≤ 140737488351232) : ck_store_Check_k6v2 s (i : Int) l n x = some (!(value_field_v x.fKey && ((valF x.fValue == 0) && (decide (i = 0) || prevB (fun a b => sltB a.fKey b.fKey) s.fEntries i x)))) := by
  unfold ck_store_Check_k6v2
  rw [check_p _ ok]
  have hf : value_field_v x.fKey = (decide (1 ≤ (x.fKey.size : Int)) && decide ((x.fKey.size : Int) ≤ 12)) := rfl
  rw [hf]
  by_cases h1 : (x.fKey.size : Int) < 1
  · simp [h1, show ¬ 1 ≤ (x.fKey.size : Int) by omega]
  by_cases h2 : (12 : Int) < (x.fKey.size : Int)
  · simp [h1, h2, show ¬ (x.fKey.size : Int) ≤ 12 by omega]
  rw [decide_eq_false h1, decide_eq_false h2, decide_eq_true (show (1 : Int) ≤ (x.fKey.size : Int) by omega), decide_eq_true (show (x.fKey.size : Int) ≤ 12 by omega)]
  simp only [oB_s, cond_false, Bool.true_and]
  cases valF x.fValue == 0 with
  | false => rfl
  | true =>
    simp only [oB_s, cond_true, Bool.true_and]
    by_cases hi : i = 0
    · subst hi; rfl
    · obtain ⟨y, e1, e2⟩ := prevI hx (by omega) hl
      rw [decide_eq_true (show (0 : Int) < (i : Int) by omega), cond_true, e2, decide_eq_false hi, Bool.false_or, prevB_eq e1, oB_s]
theorem k7_r (s : GStore) (i : Nat) (x : GEntry) (ok : x.fValue.ok) (hx : s.fEntries[i]? = some x) (hl : s.fEntries.length ≤ 140737488351232) : ck_rostrumref_StoreFault_k7v2 s (i : Int) x = some (!(value_field_v x.fKey && ((valF x.fValue == 0) && (decide (i = 0) || prevB (fun a b => sltB a.fKey b.fKey) s.fEntries i x)))) := by
  unfold ck_rostrumref_StoreFault_k7v2
  rw [fault_p _ ok]
  have hf : rostrumref_fieldMay_v x.fKey = value_field_v x.fKey := rfl
  rw [hf]
  cases value_field_v x.fKey with
  | false => rfl
  | true =>
    simp only [oB_s, cond_true, Bool.true_and]
    cases valF x.fValue == 0 with
    | false => rfl
    | true =>
      simp only [oB_s, cond_true, Bool.true_and]
      by_cases hi : i = 0
      · subst hi; rfl
      · obtain ⟨y, e1, e2⟩ := prevI hx (by omega) hl
        rw [decide_eq_true (show (0 : Int) < (i : Int) by omega), cond_true, e2, decide_eq_false hi, Bool.false_or, prevB_eq e1, oB_s]
theorem store_p (s : GStore) (ok : s.ok) : store_Check s = some (bif storeB s then 0 else 13) := by
  have hl := ok.2.1
  unfold okN at hl
  have hk : ck_store_Check_k1_v s = !(decide (0 ≤ s.fNow) && (decide (s.fNow ≤ 1073741824) && decide (s.fEntries.length ≤ 12))) := by
    unfold ck_store_Check_k1_v
    by_cases h1 : s.fNow < 0
    · simp [h1, show ¬ 0 ≤ s.fNow by omega]
    by_cases h2 : 1073741824 < s.fNow
    · simp [h1, h2, show ¬ s.fNow ≤ 1073741824 by omega]
    rw [decide_eq_false h1, decide_eq_false h2, decide_eq_true (show 0 ≤ s.fNow by omega), decide_eq_true (show s.fNow ≤ 1073741824 by omega)]
    by_cases h3 : s.fEntries.length ≤ 12
    · rw [decide_eq_true h3, decide_eq_false (by omega)]; rfl
    · rw [decide_eq_false h3, decide_eq_true (by omega)]; rfl
  obtain ⟨r, e1, e2, e3⟩ := loop_allX (step := st_store_Check_0 s s.fEntries (s.fEntries.length : Int)) s.fEntries (fun x => x) (entB s.fNow s.fEntries) (fun i x hx => by
    simp only [oB_s, st_store_Check_0, ltN (get_lt hx), cond_true, idx_get hx, k6_p s i _ _ x (ok.2.2 x (List.mem_of_getElem? hx)).2.1 hx (by omega), ck_store_Check_k8v2_v, until_p, wrapN (show i ≤ _ by have := get_lt hx; omega), entB]
    generalize (value_field_v x.fKey && ((valF x.fValue == 0) && (decide (i = 0) || prevB (fun a b => sltB a.fKey b.fKey) s.fEntries i x))) = b1
    generalize ((x.fUntil == 0) || (decide (s.fNow < x.fUntil) && decide (x.fUntil ≤ 1073741824))) = b2
    cases b1 <;> cases b2 <;> rfl) (by simp only [oB_s, st_store_Check_0, geN (Nat.le_refl _), cond_false])
  unfold store_Check storeB
  rw [hk, e1]
  cases (decide (0 ≤ s.fNow) && (decide (s.fNow ≤ 1073741824) && decide (s.fEntries.length ≤ 12))) with
  | false => rfl
  | true =>
    cases h : allI (entB s.fNow s.fEntries) 0 s.fEntries with
    | true => rw [e2 h]; rfl
    | false => obtain ⟨y, hy⟩ := e3 h; rw [hy]; rfl
theorem store_r (s : GStore) (ok : s.ok) : rostrumref_StoreFault s = some (bif storeB s then 0 else 13) := by
  have hl := ok.2.1
  unfold okN at hl
  have hk : ck_rostrumref_StoreFault_k1_v s = !(decide (0 ≤ s.fNow) && (decide (s.fNow ≤ 1073741824) && decide (s.fEntries.length ≤ 12))) := by
    unfold ck_rostrumref_StoreFault_k1_v
    cases decide (0 ≤ s.fNow) with
    | false => rfl
    | true =>
      cases decide (s.fNow ≤ 1073741824) with
      | false => rfl
      | true =>
        by_cases h3 : s.fEntries.length ≤ 12
        · rw [decide_eq_true h3, decide_eq_false (by omega)]; rfl
        · rw [decide_eq_false h3, decide_eq_true (by omega)]; rfl
  unfold rostrumref_StoreFault storeB
  rw [hk]
  cases hh : (decide (0 ≤ s.fNow) && (decide (s.fNow ≤ 1073741824) && decide (s.fEntries.length ≤ 12))) with
  | false => rfl
  | true =>
    have hn : 0 ≤ s.fNow := by simp only [oB_s, Bool.and_eq_true, decide_eq_true_eq] at hh; omega
    obtain ⟨r, e1, e2, e3⟩ := loop_allX (step := st_rostrumref_StoreFault_0 s) s.fEntries (fun x => x) (entB s.fNow s.fEntries) (fun i x hx => by
      simp only [oB_s, st_rostrumref_StoreFault_0, ltN (get_lt hx), cond_true, idx_get hx, k7_r s i x (ok.2.2 x (List.mem_of_getElem? hx)).2.1 hx (by omega), ck_rostrumref_StoreFault_k9v2_v, until_r _ _ hn, wrapN (show i ≤ _ by have := get_lt hx; omega), entB]
      generalize (value_field_v x.fKey && ((valF x.fValue == 0) && (decide (i = 0) || prevB (fun a b => sltB a.fKey b.fKey) s.fEntries i x))) = b1
      generalize ((x.fUntil == 0) || (decide (s.fNow < x.fUntil) && decide (x.fUntil ≤ 1073741824))) = b2
      cases b1 <;> cases b2 <;> rfl) (by simp only [oB_s, st_rostrumref_StoreFault_0, geN (Nat.le_refl _), cond_false])
    rw [e1]
    cases h : allI (entB s.fNow s.fEntries) 0 s.fEntries with
    | true => rw [e2 h]; rfl
    | false => obtain ⟨y, hy⟩ := e3 h; rw [hy]; rfl
/- What may be a reply and a machine: the program and the document agree. -/

/-- What is wrong with a reply. -/
noncomputable def replyF (r : GReply) : Int :=
  bif !(decide (0 ≤ r.fCode) && decide (r.fCode ≤ 13)) then 3
  else bif !(value_text_v r.fText) || (decide (20 < r.fList.length) || r.fList.any client_CheckReply_fn1_v) then 1
  else bif !(value_count_v r.fN) then 2 else 0
theorem long_any (l : List ByteArray) (hl : l.length ≤ 140737488351232) : slices_ContainsFunc_string_string_client_CheckReply_fn1 l = some (l.any client_CheckReply_fn1_v) := by
  unfold slices_ContainsFunc_string_string_client_CheckReply_fn1 slices_IndexFunc_string_string_client_CheckReply_fn1
  rw [loop_first (step := st_slices_IndexFunc_string_string_client_CheckReply_fn1_0 l (l.length : Int)) (fun i => i) l client_CheckReply_fn1_v (fun i => .inl (i : Int)) (.inr ()) (fun i x hx => by
    simp only [oB_s, st_slices_IndexFunc_string_string_client_CheckReply_fn1_0, ltN (get_lt hx), cond_true, idx_get hx, wrapN (Nat.le_trans (Nat.le_of_lt (get_lt hx)) (Nat.le_trans hl (by decide)))]
    cases client_CheckReply_fn1_v x <;> rfl) (by simp only [oB_s, st_slices_IndexFunc_string_string_client_CheckReply_fn1_0, geN (Nat.le_refl _), cond_false])]
  rw [← first_any client_CheckReply_fn1_v 0 l]
  cases firstI client_CheckReply_fn1_v 0 l <;> simp [oB_s]
theorem lt_le (n k : Int) : decide (k < n) = !decide (n ≤ k) := by
  by_cases h : n ≤ k
  · rw [decide_eq_true h, decide_eq_false (by omega)]; rfl
  · rw [decide_eq_false h, decide_eq_true (by omega)]; rfl
theorem twenty (n : Nat) : decide ((20 : Int) < (n : Int)) = decide (20 < n) := by
  by_cases h : 20 < n
  · rw [decide_eq_true h, decide_eq_true (by omega)]
  · rw [decide_eq_false h, decide_eq_false (by omega)]
theorem reply_p (r : GReply) (hl : r.fList.length ≤ 140737488351232) : client_CheckReply r = some (replyF r) := by
  unfold client_CheckReply client_CheckReply_c0 replyF
  rw [long_any _ hl, lt_le r.fCode 13, lt_le (r.fText.size : Int) 20, twenty, lt_le r.fN 1099511627776]
  have e1 : decide (r.fCode < 0) = !decide (0 ≤ r.fCode) := lt_le 0 r.fCode
  have e2 : decide (r.fN < -1099511627776) = !decide (-1099511627776 ≤ r.fN) := lt_le (-1099511627776) r.fN
  rw [e1, e2]
  have e3 : value_text_v r.fText = decide ((r.fText.size : Int) ≤ 20) := rfl
  have e4 : value_count_v r.fN = (decide (-1099511627776 ≤ r.fN) && decide (r.fN ≤ 1099511627776)) := rfl
  rw [e3, e4]
  cases decide (0 ≤ r.fCode) <;> cases decide (r.fCode ≤ 13) <;> cases decide ((r.fText.size : Int) ≤ 20) <;> cases decide (20 < r.fList.length) <;> cases r.fList.any client_CheckReply_fn1_v <;> cases decide (-1099511627776 ≤ r.fN) <;> cases decide (r.fN ≤ 1099511627776) <;> rfl
theorem reply_r (r : GReply) (hl : r.fList.length ≤ 140737488351232) : rostrumref_ReplyFault r = some (replyF r) := by
  have e := loop_all (step := st_rostrumref_ReplyFault_0 r) r.fList 0 (fun _ x => rostrumref_textMay_v x) (fun i x hx hi => by
    simp only [oB_s, st_rostrumref_ReplyFault_0, ltN (get_lt hx), cond_true, idx_get hx, wrapN (show i ≤ _ by have := get_lt hx; omega)]
    cases rostrumref_textMay_v x <;> rfl) (fun i hi => by simp only [oB_s, st_rostrumref_ReplyFault_0, geN hi, cond_false])
  have e' : allI (fun _ x => rostrumref_textMay_v x) 0 r.fList = !r.fList.any client_CheckReply_fn1_v := any_all client_CheckReply_fn1_v (fun x => rostrumref_textMay_v x) (fun x => lt_le _ _) r.fList
  rw [List.drop_zero, e'] at e
  have k0 : ((0 : Nat) : Int) = 0 := rfl
  rw [k0] at e
  unfold rostrumref_ReplyFault replyF
  rw [e, twenty]
  have e3 : rostrumref_textMay_v r.fText = value_text_v r.fText := rfl
  have e4 : rostrumref_countMay_v r.fN = value_count_v r.fN := rfl
  rw [e3, e4]
  cases decide (0 ≤ r.fCode) <;> cases decide (r.fCode ≤ 13) <;> cases value_text_v r.fText <;> cases decide (20 < r.fList.length) <;> cases r.fList.any client_CheckReply_fn1_v <;> cases value_count_v r.fN <;> rfl
/-- May a client stand at that place? -/
def idB (next : Int) (l : List GClient) (i : Nat) (x : GClient) : Bool := (decide (1 ≤ x.fId) && decide (x.fId < next)) && (decide (i = 0) || prevB (fun a b => decide (a.fId < b.fId)) l i x)
noncomputable def seqF (now : Int) (x : GClient) : Bool := (decide (0 ≤ x.fSeq) && decide (x.fSeq ≤ 1048576)) && ((decide (0 ≤ x.fTime) && decide (x.fTime ≤ now)) && (replyF x.fReply == 0))
noncomputable def machB (m : GMachine) : Bool := (storeB m.fStore && ((decide (1 ≤ m.fNext) && decide (m.fNext ≤ 1048577)) && decide (m.fClients.length ≤ 4))) && allI (fun i x => idB m.fNext m.fClients i x && seqF m.fStore.fNow x) 0 m.fClients
theorem kc6_p (m : GMachine) (i : Nat) (l : List GClient) (n : Int) (x : GClient) (hx : m.fClients[i]? = some x) (hl : m.fClients.length ≤ 140737488351232) : ck_client_Check_k6v2 m (i : Int) l n x = some (!idB m.fNext m.fClients i x) := by
  unfold ck_client_Check_k6v2 idB
  have e1 : decide (x.fId < 1) = !decide (1 ≤ x.fId) := lt_le _ _
  have e2 : decide (m.fNext ≤ x.fId) = !decide (x.fId < m.fNext) := by rw [lt_le]; simp
  rw [e1, e2]
  cases decide (1 ≤ x.fId) with
  | false => rfl
  | true =>
    cases decide (x.fId < m.fNext) with
    | false => rfl
    | true =>
      simp only [oB_s, Bool.not_true, cond_false, Bool.true_and]
      by_cases hi : i = 0
      · subst hi; rfl
      · obtain ⟨y, h1, h2⟩ := prevI hx (by omega) hl
        rw [decide_eq_true (show (0 : Int) < (i : Int) by omega), cond_true, h2, decide_eq_false hi, Bool.false_or, prevB_eq h1, oB_s]
        simp only [oB_s, lt_le, Bool.not_not]
theorem kc8_p (m : GMachine) (l : List GClient) (n : Int) (j : Int) (x : GClient) (hl : x.fReply.fList.length ≤ 140737488351232) : ck_client_Check_k8v2 m l n j x = some (!seqF m.fStore.fNow x) := by
  unfold ck_client_Check_k8v2 seqF
  rw [reply_p _ hl]
  have e1 : decide (x.fSeq < 0) = !decide (0 ≤ x.fSeq) := lt_le _ _
  have e2 : decide (x.fTime < 0) = !decide (0 ≤ x.fTime) := lt_le _ _
  rw [e1, e2, lt_le x.fSeq 1048576, lt_le x.fTime m.fStore.fNow]
  cases decide (0 ≤ x.fSeq) <;> cases decide (x.fSeq ≤ 1048576) <;> cases decide (0 ≤ x.fTime) <;> cases decide (x.fTime ≤ m.fStore.fNow) <;> rfl
theorem kr7_r (m : GMachine) (i : Nat) (x : GClient) (hx : m.fClients[i]? = some x) (hl : m.fClients.length ≤ 140737488351232) (hr : x.fReply.fList.length ≤ 140737488351232) (hn : m.fNext ≤ 1048577) : ck_rostrumref_MachineFault_k7v2 m (i : Int) x = some (!(idB m.fNext m.fClients i x && seqF m.fStore.fNow x)) := by
  unfold ck_rostrumref_MachineFault_k7v2 ck_rostrumref_MachineFault_k7v2_c1 ck_rostrumref_MachineFault_k7v2_c0 idB seqF
  rw [reply_r _ hr]
  have e0 : rostrumref_numberMay_v x.fId = (decide (1 ≤ x.fId) && decide (x.fId ≤ 1048576)) := rfl
  have e2 : decide (m.fNext ≤ x.fId) = !decide (x.fId < m.fNext) := by rw [lt_le]; simp
  rw [e0, e2]
  cases decide (1 ≤ x.fId) with
  | false => rfl
  | true =>
    by_cases h1 : x.fId < m.fNext
    · rw [decide_eq_true h1, decide_eq_true (show x.fId ≤ 1048576 by omega)]
      simp only [oB_s, Bool.and_self, cond_true, Bool.not_true, cond_false, Bool.true_and]
      by_cases hi : i = 0
      · subst hi
        rw [decide_eq_false (by omega)]
        simp only [oB_s, cond_false, decide_true, Bool.true_or, Bool.true_and]
        cases decide (0 ≤ x.fSeq) <;> cases decide (x.fSeq ≤ 1048576) <;> cases decide (0 ≤ x.fTime) <;> cases decide (x.fTime ≤ m.fStore.fNow) <;> rfl
      · obtain ⟨y, h3, h4⟩ := prevI hx (by omega) hl
        rw [decide_eq_true (show (0 : Int) < (i : Int) by omega), cond_true, h4, decide_eq_false hi, Bool.false_or, prevB_eq h3, oB_s]
        have e9 : decide (x.fId ≤ y.fId) = !decide (y.fId < x.fId) := by rw [lt_le]; simp
        simp only [oB_s, e9]
        cases decide (y.fId < x.fId) <;> cases decide (0 ≤ x.fSeq) <;> cases decide (x.fSeq ≤ 1048576) <;> cases decide (0 ≤ x.fTime) <;> cases decide (x.fTime ≤ m.fStore.fNow) <;> rfl
    · rw [decide_eq_false h1]
      cases decide (x.fId ≤ 1048576) <;> rfl
theorem mach_p (m : GMachine) (ok : m.ok) : client_Check m = some (bif machB m then 0 else 13) := by
  obtain ⟨o1, o2, o3, o4⟩ := ok
  unfold okN at o3
  have hk : ck_client_Check_k1 m = some (!(storeB m.fStore && ((decide (1 ≤ m.fNext) && decide (m.fNext ≤ 1048577)) && decide (m.fClients.length ≤ 4)))) := by
    unfold ck_client_Check_k1
    rw [store_p _ o1]
    have e1 : decide (m.fNext < 1) = !decide (1 ≤ m.fNext) := lt_le _ _
    have e3 : decide ((4 : Int) < (m.fClients.length : Int)) = !decide (m.fClients.length ≤ 4) := by
      by_cases h : m.fClients.length ≤ 4
      · rw [decide_eq_true h, decide_eq_false (by omega)]; rfl
      · rw [decide_eq_false h, decide_eq_true (by omega)]; rfl
    rw [e1, e3, lt_le m.fNext 1048577]
    cases storeB m.fStore <;> cases decide (1 ≤ m.fNext) <;> cases decide (m.fNext ≤ 1048577) <;> cases decide (m.fClients.length ≤ 4) <;> rfl
  unfold client_Check machB
  rw [hk]
  cases (storeB m.fStore && ((decide (1 ≤ m.fNext) && decide (m.fNext ≤ 1048577)) && decide (m.fClients.length ≤ 4))) with
  | false => rfl
  | true =>
    obtain ⟨r, e1, e2, e3⟩ := loop_allX (step := st_client_Check_0 m m.fClients (m.fClients.length : Int)) m.fClients (fun x => x) (fun i x => idB m.fNext m.fClients i x && seqF m.fStore.fNow x) (fun i x hx => by
      have hxo := o4 x (List.mem_of_getElem? hx)
      have hxl := hxo.2.2.2.2.2.2.1
      unfold okN at hxl
      simp only [oB_s, st_client_Check_0, ltN (get_lt hx), cond_true, idx_get hx, kc6_p m i _ _ x hx (by omega), kc8_p m _ _ _ x (by omega), wrapN (show i ≤ _ by have := get_lt hx; omega)]
      cases idB m.fNext m.fClients i x <;> cases seqF m.fStore.fNow x <;> rfl) (by simp only [oB_s, st_client_Check_0, geN (Nat.le_refl _), cond_false])
    simp only [oB_s, Bool.not_true, cond_false, Bool.true_and]
    rw [e1]
    cases h : allI (fun i x => idB m.fNext m.fClients i x && seqF m.fStore.fNow x) 0 m.fClients with
    | true => rw [e2 h]; rfl
    | false => obtain ⟨y, hy⟩ := e3 h; rw [hy]; rfl
theorem mach_r (m : GMachine) (ok : m.ok) : rostrumref_MachineFault m = some (bif machB m then 0 else 13) := by
  obtain ⟨o1, o2, o3, o4⟩ := ok
  unfold okN at o3
  have hk : ck_rostrumref_MachineFault_k1 m = some (!(storeB m.fStore && ((decide (1 ≤ m.fNext) && decide (m.fNext ≤ 1048577)) && decide (m.fClients.length ≤ 4)))) := by
    unfold ck_rostrumref_MachineFault_k1
    rw [store_r _ o1]
    have e3 : decide ((4 : Int) < (m.fClients.length : Int)) = !decide (m.fClients.length ≤ 4) := by
      by_cases h : m.fClients.length ≤ 4
      · rw [decide_eq_true h, decide_eq_false (by omega)]; rfl
      · rw [decide_eq_false h, decide_eq_true (by omega)]; rfl
    rw [e3]
    cases storeB m.fStore <;> cases decide (1 ≤ m.fNext) <;> cases decide (m.fNext ≤ 1048577) <;> cases decide (m.fClients.length ≤ 4) <;> rfl
  unfold rostrumref_MachineFault machB
  rw [hk]
  cases hh : (storeB m.fStore && ((decide (1 ≤ m.fNext) && decide (m.fNext ≤ 1048577)) && decide (m.fClients.length ≤ 4))) with
  | false => rfl
  | true =>
    have hn : m.fNext ≤ 1048577 := by simp only [oB_s, Bool.and_eq_true, decide_eq_true_eq] at hh; omega
    obtain ⟨r, e1, e2, e3⟩ := loop_allX (step := st_rostrumref_MachineFault_0 m) m.fClients (fun x => x) (fun i x => idB m.fNext m.fClients i x && seqF m.fStore.fNow x) (fun i x hx => by
      have hxo := o4 x (List.mem_of_getElem? hx)
      have hxl := hxo.2.2.2.2.2.2.1
      unfold okN at hxl
      simp only [oB_s, st_rostrumref_MachineFault_0, ltN (get_lt hx), cond_true, idx_get hx, kr7_r m i x hx (by omega) (by omega) hn, wrapN (show i ≤ _ by have := get_lt hx; omega)]
      cases (idB m.fNext m.fClients i x && seqF m.fStore.fNow x) <;> rfl) (by simp only [oB_s, st_rostrumref_MachineFault_0, geN (Nat.le_refl _), cond_false])
    simp only [oB_s, Bool.not_true, cond_false, Bool.true_and]
    rw [e1]
    cases h : allI (fun i x => idB m.fNext m.fClients i x && seqF m.fStore.fNow x) 0 m.fClients with
    | true => rw [e2 h]; rfl
    | false => obtain ⟨y, hy⟩ := e3 h; rw [hy]; rfl
/- Copies of stores, replies and machines. -/

theorem copySt_p (s : GStore) (ok : s.ok) : rostrumref_StoreCopy s = some s := by
  have hl := ok.2.1
  unfold okN at hl
  unfold rostrumref_StoreCopy
  rw [loop_copy (step := st_rostrumref_StoreCopy_0 s) (fun i l => (i, ⟨s.fNow, l⟩)) s.fEntries (fun l => ⟨s.fNow, l⟩) (fun i x hx => by
    have h := get_lt hx
    have hf : cH ((s.fEntries.take i).length + 1) 128 = true := fits_of (by rw [List.length_take]; omega)
    simp only [oB_s, st_rostrumref_StoreCopy_0, ltN h, cond_true, idx_get hx, copyV_p _ (ok.2.2 x (List.mem_of_getElem? hx)).2.1, hf, wrapN (show i ≤ _ by omega)]) (by simp only [oB_s, st_rostrumref_StoreCopy_0, geN (Nat.le_refl _), cond_false]), oB_s]
theorem copyR_p (r : GReply) (ok : r.ok) : rostrumref_replyCopy r = some r := by
  have hl := ok.2.2.2.1
  unfold okN at hl
  unfold rostrumref_replyCopy
  rw [loop_copy (step := st_rostrumref_replyCopy_0 r) (fun i l => (i, ⟨r.fCode, r.fText, r.fN, l⟩)) r.fList (fun l => ⟨r.fCode, r.fText, r.fN, l⟩) (fun i x hx => by
    have h := get_lt hx
    have hf : cH ((r.fList.take i).length + 1) 16 = true := fits_of (by rw [List.length_take]; omega)
    simp only [oB_s, st_rostrumref_replyCopy_0, ltN h, cond_true, idx_get hx, hf, wrapN (show i ≤ _ by omega)]) (by simp only [oB_s, st_rostrumref_replyCopy_0, geN (Nat.le_refl _), cond_false]), oB_s]
theorem copyM_p (m : GMachine) (ok : m.ok) : rostrumref_MachineCopy_z m = some m := by
  obtain ⟨o1, o2, o3, o4⟩ := ok
  unfold okN at o3
  unfold rostrumref_MachineCopy_z
  rw [copySt_p _ o1]
  simp only [oB_s]
  rw [loop_copy (step := st_rostrumref_MachineCopy_z_0 m) (fun i l => (i, ⟨m.fStore, m.fNext, l⟩)) m.fClients (fun l => ⟨m.fStore, m.fNext, l⟩) (fun i x hx => by
    have h := get_lt hx
    have hf : cH ((m.fClients.take i).length + 1) 80 = true := fits_of (by rw [List.length_take]; omega)
    simp only [oB_s, st_rostrumref_MachineCopy_z_0, ltN h, cond_true, idx_get hx, copyR_p _ (o4 x (List.mem_of_getElem? hx)).2.2.2, hf, wrapN (show i ≤ _ by omega)]) (by simp only [oB_s, st_rostrumref_MachineCopy_z_0, geN (Nat.le_refl _), cond_false]), oB_s]
/- The law TapeSnaps on the plain functions. -/

theorem TapeSnaps_pure (s : GSnap) (ok : s.ok) : rostrumlaw_TapeSnaps s = some true := by
  obtain ⟨i, t, m⟩ := s
  have om : m.ok := ok.2.2
  have e : ∀ n, tape_number_v n = rostrumref_numberMay_v n := fun n => rfl
  unfold rostrumlaw_TapeSnaps rostrumlaw_snaps_z
  simp only [oB_s]
  rw [copyM_p m om]
  simp only [oB_s, tape_CheckSnap, rostrumref_SnapFault, e]
  rw [mach_p m om, mach_r m om]
  cases rostrumref_numberMay_v i <;> cases rostrumref_numberMay_v t <;> simp only [oB_s, cond_true, cond_false, beq_self_eq_true]
end Go.Proofs.Ytnjkmbogbfjffaa
