/- The law LedgerMatches on the plain functions: it answers true at every argument of the sizes that the form allows. -/
import Derived.Test.YtnjkmbogbfjffaaWTy
import Derived.Test.YtnjkmbogbfjffaaLedgerMatchesD
set_option linter.unusedSimpArgs false
set_option linter.unusedVariables false
set_option linter.constructorNameAsVariable false
set_option linter.unnecessarySimpa false
namespace Go.Proofs.Ytnjkmbogbfjffaa
open Go Go.Mx Go.Proofs
/- Plain facts: numbers that do not go round, loops, lists of bytes. -/

theorem u8wrap (n : Int) : IntKind.u8.wrap n = n % 256 := by
  simp [IntKind.wrap, IntKind.min, IntKind.max, IntKind.bits, IntKind.signed]
theorem u64wrap {n : Int} (h1 : 0 ≤ n) (h2 : n < 18446744073709551616) : IntKind.u64.wrap n = n := by
  simp [IntKind.wrap, IntKind.min, IntKind.max, IntKind.bits, IntKind.signed]; omega
theorem fits_of {n b : Nat} (h : (n : Int) * b ≤ 140737488355328) : cH n b = true := fitsB_iff.2 h
theorem idx_get {α : Type} {l : List α} {i : Nat} {x : α} (h : l[i]? = some x) : idx l (i : Int) = some x := by
  unfold idx
  rw [if_pos (by omega)]
  simpa using h
theorem idx_app {α : Type} (l : List α) (x : α) (m : List α) : idx (l ++ x :: m) (l.length : Int) = some x := idx_get (by simp)
theorem seqB_self (a : ByteArray) : cJ a a = true := by unfold cJ; exact beq_self_eq_true _
theorem allB_app (l m : List Int) : allB (l ++ m) = (allB l && allB m) := by simp [allB]
theorem allB_byL (s : ByteArray) : allB (byL s) = true := by
  simp only [allB, byL, List.all_map, List.all_eq_true, Function.comp, decide_eq_true_eq]
  intro b _
  exact ⟨Int.natCast_nonneg _, by have := b.toNat_lt; omega⟩
theorem byL_len (s : ByteArray) : (byL s).length = s.size := by
  simp only [byL, List.length_map]; rfl
/-- The eight bytes of a number. -/
def num8 (n : Int) : List Int := [(n + 4611686018427387904) / 72057594037927936 % 256, (n + 4611686018427387904) / 281474976710656 % 256, (n + 4611686018427387904) / 1099511627776 % 256, (n + 4611686018427387904) / 4294967296 % 256, (n + 4611686018427387904) / 16777216 % 256, (n + 4611686018427387904) / 65536 % 256, (n + 4611686018427387904) / 256 % 256, (n + 4611686018427387904) % 256]
theorem num8_len (n : Int) : (num8 n).length = 8 := rfl
theorem allB_num8 (n : Int) : allB (num8 n) = true := by
  simp only [allB, num8, List.all_cons, List.all_nil, Bool.and_true, Bool.and_eq_true, decide_eq_true_eq]
  omega
/-- A number that eight bytes hold. -/
def in62 (n : Int) : Prop := -4611686018427387904 ≤ n ∧ n < 4611686018427387904
/-- A text behind its length. -/
def txt8 (s : ByteArray) : List Int := (s.size : Int) % 256 :: byL s
theorem allB_txt8 (s : ByteArray) : allB (txt8 s) = true := by
  have := allB_byL s
  simp only [allB, txt8, List.all_cons, Bool.and_eq_true, decide_eq_true_eq] at *
  exact ⟨by omega, this⟩
theorem txt8_len (s : ByteArray) : (txt8 s).length = s.size + 1 := by simp [txt8, byL_len]
/- Plain facts: loops that go through a list. -/

/-- A walk through a list: what is carried, or what comes out at once. -/
def run {α σ R : Type} (f : Nat → α → σ → σ ⊕ R) (e : σ → R) : Nat → List α → σ → R
  | _, [], s => e s
  | i, x :: l, s => match f i x s with
    | .inl s' => run f e (i + 1) l s'
    | .inr r => r
theorem loop_list {α σ τ R : Type} {step : τ → Option (τ ⊕ R)} (l : List α) (mk : Int → σ → τ) (I : Nat → σ → Prop) (f : Nat → α → σ → σ ⊕ R) (e : σ → R)
    (hs : ∀ i x s, l[i]? = some x → I i s → step (mk i s) = some (match f i x s with | .inl s' => .inl (mk ((i + 1 : Nat) : Int) s') | .inr r => .inr r))
    (hi : ∀ i x s s', l[i]? = some x → I i s → f i x s = .inl s' → I (i + 1) s')
    (he : ∀ (i : Nat) s, l.length ≤ i → I i s → step (mk i s) = some (.inr (e s))) (k : Nat) (s : σ) (h0 : I k s) : ci step (mk k s) = some (run f e k (l.drop k) s) := by
  generalize hm : l.drop k = m
  induction m generalizing k s with
  | nil =>
    have : l.length ≤ k := by
      have := congrArg List.length hm
      simp only [List.length_drop, List.length_nil] at this
      omega
    exact loopM_end (he k s this h0)
  | cons x m ih =>
    have hx : l[k]? = some x := by
      have := List.getElem?_drop (xs := l) (i := k) (j := 0)
      rw [hm] at this
      simpa using this.symm
    have hm' : l.drop (k + 1) = m := by
      have : l.drop (k + 1) = (l.drop k).drop 1 := by rw [List.drop_drop]
      rw [this, hm]; rfl
    have h1 := hs k x s hx h0
    simp only [run]
    cases hf : f k x s with
    | inl s' =>
      rw [hf] at h1
      rw [loopM_on h1]
      exact ih (k + 1) s' (hi k x s s' hx h0 hf) hm'
    | inr r =>
      rw [hf] at h1
      exact loopM_end h1
/-- All of a list, each with its place. -/
def allI {α : Type} (p : Nat → α → Bool) : Nat → List α → Bool
  | _, [] => true
  | k, x :: l => p k x && allI p (k + 1) l
theorem allI_and {α : Type} (p q : Nat → α → Bool) (k : Nat) (l : List α) : allI (fun i x => p i x && q i x) k l = (allI p k l && allI q k l) := by
  induction l generalizing k with
  | nil => rfl
  | cons x l ih =>
    simp only [allI, ih]
    cases p k x <;> cases q k x <;> simp
theorem allI_congr {α : Type} {p q : Nat → α → Bool} (k : Nat) (l m : List α) (hm : l = m.drop k) (h : ∀ i x, m[i]? = some x → k ≤ i → p i x = q i x) : allI p k l = allI q k l := by
  induction l generalizing k with
  | nil => rfl
  | cons x l ih =>
    have hx : m[k]? = some x := by
      have := List.getElem?_drop (xs := m) (i := k) (j := 0)
      rw [← hm] at this
      simpa using this.symm
    have hm' : l = m.drop (k + 1) := by
      have : m.drop (k + 1) = (m.drop k).drop 1 := by rw [List.drop_drop]
      rw [this, ← hm]; rfl
    simp only [allI]
    rw [h k x hx (Nat.le_refl _), ih (k + 1) hm' (fun i y hy hk => h i y hy (by omega))]
/-- A loop that ends early at what is not so. -/
theorem loop_all {α : Type} {step : Int → Option (Int ⊕ (Unit ⊕ Unit))} (l : List α) (k : Nat) (p : Nat → α → Bool)
    (hs : ∀ i x, l[i]? = some x → k ≤ i → step i = some (bif p i x then .inl ((i + 1 : Nat) : Int) else .inr (.inl ())))
    (he : ∀ i : Nat, l.length ≤ i → step i = some (.inr (.inr ()))) : ci step (k : Int) = some (bif allI p k (l.drop k) then .inr () else .inl ()) := by
  have h := loop_list (step := step) l (fun i (_ : Unit) => i) (fun i _ => k ≤ i) (fun i x _ => bif p i x then .inl () else .inr (.inl ())) (fun _ => .inr ()) (fun i x s hx hk => by
    rw [hs i x hx hk]; cases p i x <;> rfl) (fun i x s s' _ hk _ => Nat.le_succ_of_le hk) (fun i s hl _ => he i hl) k () (Nat.le_refl _)
  rw [h]
  congr 1
  have : ∀ (m : List α) (j : Nat), run (fun i x (_ : Unit) => bif p i x then .inl () else .inr (.inl ())) (fun _ => (.inr () : Unit ⊕ Unit)) j m () = bif allI p j m then .inr () else .inl () := by
    intro m
    induction m with
    | nil => intro j; rfl
    | cons x m ih =>
      intro j
      simp only [run, allI]
      cases p j x with
      | false => rfl
      | true => exact ih (j + 1)
  exact this _ _
/-- The first place at which it is so, or what stands for none. -/
def firstI {α : Type} (p : α → Bool) : Nat → List α → Option Nat
  | _, [] => none
  | k, x :: l => bif p x then some k else firstI p (k + 1) l
/-- A loop that ends early at what is so. -/
theorem loop_first {α τ R : Type} {step : τ → Option (τ ⊕ R)} (mk : Int → τ) (l : List α) (p : α → Bool) (y : Nat → R) (n : R)
    (hs : ∀ (i : Nat) x, l[i]? = some x → step (mk i) = some (bif p x then .inr (y i) else .inl (mk ((i + 1 : Nat) : Int))))
    (he : step (mk l.length) = some (.inr n)) : ci step (mk 0) = some (match firstI p 0 l with | some i => y i | none => n) := by
  have h := loop_list (step := step) l (fun i (_ : Unit) => mk i) (fun i _ => i ≤ l.length) (fun i x _ => bif p x then .inr (y i) else .inl ()) (fun _ => n) (fun i x s hx hk => by
    rw [hs i x hx]; cases p x <;> rfl) (fun i x s s' hx hk _ => by have := (List.getElem?_eq_some_iff.1 hx).1; omega) (fun i s hl hk => by rw [Nat.le_antisymm hk hl]; exact he) 0 () (Nat.zero_le _)
  refine h.trans ?_
  congr 1
  have : ∀ (m : List α) (j : Nat), run (fun i x (_ : Unit) => bif p x then .inr (y i) else .inl ()) (fun _ => n) j m () = match firstI p j m with | some i => y i | none => n := by
    intro m
    induction m with
    | nil => intro j; rfl
    | cons x m ih =>
      intro j
      simp only [run, firstI]
      cases p x with
      | true => rfl
      | false => exact ih (j + 1)
  exact this _ _
theorem first_any {α : Type} (p : α → Bool) (k : Nat) (l : List α) : (firstI p k l).isSome = l.any p := by
  induction l generalizing k with
  | nil => rfl
  | cons x l ih =>
    simp only [firstI, List.any_cons]
    cases p x with
    | true => rfl
    | false => simpa using ih (k + 1)
theorem allI_any {α : Type} (p : α → Bool) (k : Nat) (l : List α) : allI (fun _ x => !(p x)) k l = !(l.any p) := by
  induction l generalizing k with
  | nil => rfl
  | cons x l ih =>
    simp only [allI, List.any_cons, Bool.not_or, ih]
/-- A loop that copies. -/
theorem loop_copy {α τ R : Type} {step : τ → Option (τ ⊕ R)} (mk : Int → List α → τ) (l : List α) (e : List α → R)
    (hs : ∀ (i : Nat) x, l[i]? = some x → step (mk i (l.take i)) = some (.inl (mk ((i + 1 : Nat) : Int) (l.take i ++ [x]))))
    (he : step (mk l.length l) = some (.inr (e l))) : ci step (mk 0 []) = some (e l) := by
  have h := loop_list (step := step) l mk (fun i s => i ≤ l.length ∧ s = l.take i) (fun i x s => .inl (s ++ [x])) e (fun i x s hx hk => by
    rw [hk.2, hs i x hx]) (fun i x s s' hx hk hf => by
      have := (List.getElem?_eq_some_iff.1 hx)
      obtain ⟨h1, h2⟩ := this
      refine ⟨by omega, ?_⟩
      simp only [Sum.inl.injEq] at hf
      rw [← hf, hk.2, ← h2, List.take_append_getElem h1]) (fun i s hl hk => by
      have hil : i = l.length := by omega
      rw [hk.2, hil, List.take_length]; exact he) 0 [] ⟨Nat.zero_le _, by simp⟩
  refine h.trans ?_
  congr 1
  have : ∀ (m s : List α) (j : Nat), run (fun i x (s : List α) => (.inl (s ++ [x]) : List α ⊕ R)) e j m s = e (s ++ m) := by
    intro m
    induction m with
    | nil => intro s j; simp [run]
    | cons x m ih =>
      intro s j
      simp only [run]
      rw [ih]; simp
  rw [this]; simp
/-- Numbers that count a list's places. -/
theorem wrapN {n : Nat} (h : n ≤ 140737488355328) : IntKind.i64.wrap ((n : Int) + 1) = ((n + 1 : Nat) : Int) := by
  rw [wrap_id] <;> omega
theorem wrapN1 {n : Nat} (h : n ≤ 140737488355328) : IntKind.i64.wrap ((n : Int) - 1) = (n : Int) - 1 := by
  rw [wrap_id] <;> omega
theorem get_lt {α : Type} {l : List α} {i : Nat} {x : α} (h : l[i]? = some x) : i < l.length := (List.getElem?_eq_some_iff.1 h).1
theorem ltN {i n : Nat} (h : i < n) : decide ((i : Int) < (n : Int)) = true := decide_eq_true (by omega)
theorem geN {i n : Nat} (h : n ≤ i) : decide ((i : Int) < (n : Int)) = false := decide_eq_false (by omega)
/- What may be a command, a call, an item: the program and the document agree. -/

theorem fieldMay_eq (s : ByteArray) : rostrumref_fieldMay_v s = value_field_v s := rfl
theorem textMay_eq (s : ByteArray) : rostrumref_textMay_v s = value_text_v s := rfl
theorem countMay_eq (n : Int) : rostrumref_countMay_v n = value_count_v n := rfl
theorem numberMay_eq (n : Int) : rostrumref_numberMay_v n = client_number_v n := rfl
/-- What is wrong with a command, by its kind and eight answers. -/
def cmdK (q : Int) (et ef ek en k f x n : Bool) : Int :=
  bif !(decide (1 ≤ q) && decide (q ≤ 22)) then 3
  else bif (!(q == 1 || q == 4 || q == 7 || q == 8 || (decide (11 ≤ q) && decide (q ≤ 16))) && !et) || (!(decide (4 ≤ q) && decide (q ≤ 6)) && !ef) || (!(q == 3 || q == 14 || q == 20) && !en) || (q == 22 && !ek) then 8
  else bif (!(q == 22) && !k) || ((decide (4 ≤ q) && decide (q ≤ 6)) && !f) || !x then 1
  else bif !n then 2 else 0
noncomputable def cmdF (c : GCommand) : Int := cmdK c.fKind (cJ c.fText ByteArray.empty) (cJ c.fField ByteArray.empty) (cJ c.fKey ByteArray.empty) (c.fN == 0) (value_field_v c.fKey) (value_field_v c.fField) (value_text_v c.fText) (value_count_v c.fN)
theorem kinds {q : Int} (h : ¬ (q < 1 ∨ 22 < q)) : q = 1 ∨ q = 2 ∨ q = 3 ∨ q = 4 ∨ q = 5 ∨ q = 6 ∨ q = 7 ∨ q = 8 ∨ q = 9 ∨ q = 10 ∨ q = 11 ∨ q = 12 ∨ q = 13 ∨ q = 14 ∨ q = 15 ∨ q = 16 ∨ q = 17 ∨ q = 18 ∨ q = 19 ∨ q = 20 ∨ q = 21 ∨ q = 22 := by omega
theorem w0_p (c : GCommand) (q : Int) (k : ByteArray) (h : ¬ (q < 1 ∨ 22 < q)) : ck_value_CheckCommand_w0_v c q k = ⟨q, bif (q == 22) then ByteArray.empty else k, bif (decide (4 ≤ q) && decide (q ≤ 6)) then c.fField else ByteArray.empty, bif (q == 1 || q == 4 || q == 7 || q == 8 || (decide (11 ≤ q) && decide (q ≤ 16))) then c.fText else ByteArray.empty, bif (q == 3 || q == 14 || q == 20) then c.fN else 0⟩ := by
  rcases kinds h with rfl | rfl | rfl | rfl | rfl | rfl | rfl | rfl | rfl | rfl | rfl | rfl | rfl | rfl | rfl | rfl | rfl | rfl | rfl | rfl | rfl | rfl <;> rfl
theorem seqB_bif (a b : ByteArray) (c : Bool) : cJ a (bif c then a else b) = (c || cJ a b) := by
  cases c with
  | true => exact seqB_self a
  | false => rfl
theorem beq_bif (n : Int) (c : Bool) : (n == bif c then n else 0) = (c || (n == 0)) := by
  cases c with
  | true => exact beq_self_eq_true n
  | false => rfl
theorem seqB_bif' (a b : ByteArray) (c : Bool) : cJ a (bif c then b else a) = (!c || cJ a b) := by
  cases c with
  | false => exact seqB_self a
  | true => rfl
theorem command_p (c : GCommand) : value_CheckCommand_v c = cmdF c := by
  unfold value_CheckCommand_v value_CheckCommand_v_c0 cmdF
  by_cases h : c.fKind < 1 ∨ 22 < c.fKind
  · have e0 : (decide (1 ≤ c.fKind) && decide (c.fKind ≤ 22)) = false := by
      rw [Bool.and_eq_false_iff, decide_eq_false_iff_not, decide_eq_false_iff_not]; omega
    simp only [cmdK, e0, Bool.not_false, cond_true]
    rcases h with h | h
    · rw [decide_eq_true h]; rfl
    · cases decide (c.fKind < 1) <;> simp [decide_eq_true h]
  · rw [w0_p c _ _ h]
    simp only [seqB_bif, seqB_bif', beq_bif, beq_self_eq_true, ck_value_CheckCommand_k28_v, ck_value_CheckCommand_k28_v_c0]
    generalize cJ c.fText ByteArray.empty = et
    generalize cJ c.fField ByteArray.empty = ef
    generalize cJ c.fKey ByteArray.empty = ek
    generalize (c.fN == 0) = en
    generalize value_field_v c.fKey = k
    generalize value_field_v c.fField = f
    generalize value_text_v c.fText = x
    generalize value_count_v c.fN = n
    generalize c.fKind = q at h ⊢
    rcases kinds h with rfl | rfl | rfl | rfl | rfl | rfl | rfl | rfl | rfl | rfl | rfl | rfl | rfl | rfl | rfl | rfl | rfl | rfl | rfl | rfl | rfl | rfl <;> (revert et ef ek en k f x n; decide)
theorem command_r (c : GCommand) : rostrumref_CommandFault_v c = cmdF c := by
  simp only [rostrumref_CommandFault_v, ck_rostrumref_CommandFault_k3_v, ck_rostrumref_CommandFault_k5_v, ck_rostrumref_CommandFault_k7_v_c0, ck_rostrumref_CommandFault_k7_v_c1, ck_rostrumref_CommandFault_k7_v_c2, ck_rostrumref_CommandFault_k7_v, ck_rostrumref_CommandFault_k9_v, cmdF, fieldMay_eq, textMay_eq, countMay_eq]
  generalize cJ c.fText ByteArray.empty = et
  generalize cJ c.fField ByteArray.empty = ef
  generalize cJ c.fKey ByteArray.empty = ek
  generalize (c.fN == 0) = en
  generalize value_field_v c.fKey = k
  generalize value_field_v c.fField = f
  generalize value_text_v c.fText = x
  generalize value_count_v c.fN = n
  generalize c.fKind = q
  by_cases h : q < 1 ∨ 22 < q
  · have e : ∀ j : Int, 1 ≤ j → j ≤ 22 → (q == j) = false := fun j h1 h2 => by rw [beq_eq_false_iff_ne]; omega
    have e0 : (decide (1 ≤ q) && decide (q ≤ 22)) = false := by
      rw [Bool.and_eq_false_iff, decide_eq_false_iff_not, decide_eq_false_iff_not]; omega
    simp only [e 1 (by decide) (by decide), e 2 (by decide) (by decide), e 3 (by decide) (by decide), e 4 (by decide) (by decide), e 5 (by decide) (by decide), e 6 (by decide) (by decide), e 7 (by decide) (by decide), e 8 (by decide) (by decide), e 9 (by decide) (by decide), e 10 (by decide) (by decide), e 11 (by decide) (by decide), e 12 (by decide) (by decide), e 13 (by decide) (by decide), e 14 (by decide) (by decide), e 15 (by decide) (by decide), e 16 (by decide) (by decide), e 17 (by decide) (by decide), e 18 (by decide) (by decide), e 19 (by decide) (by decide), e 20 (by decide) (by decide), e 21 (by decide) (by decide), e 22 (by decide) (by decide), cond_false, cmdK, e0, Bool.not_false, cond_true]
    rcases h with h | h
    · simp [show ¬ 1 ≤ q by omega]
    · cases decide (1 ≤ q) <;> simp [show ¬ q ≤ 22 by omega]
  · rcases kinds h with rfl | rfl | rfl | rfl | rfl | rfl | rfl | rfl | rfl | rfl | rfl | rfl | rfl | rfl | rfl | rfl | rfl | rfl | rfl | rfl | rfl | rfl <;> (revert et ef ek en k f x n; decide)

theorem call_eq (c : GCall) : rostrumref_CallFault_v c = client_CheckCall_v c := by
  simp only [rostrumref_CallFault_v, rostrumref_CallFault_v_c0, client_CheckCall_v, client_CheckCall_v_c0, numberMay_eq, command_p, command_r]
theorem item_eq (x : GItem) : rostrumref_ItemFault_v x = wire_CheckItem_v x := by
  simp only [rostrumref_ItemFault_v, rostrumref_ItemFault_v_c0, wire_CheckItem_v, wire_CheckItem_v_c0, ck_wire_CheckItem_k1_v, call_eq, rostrumref_numberMay_v]
  by_cases h1 : x.fTerm < 1
  · simp [h1, show ¬ 1 ≤ x.fTerm by omega]
  · by_cases h2 : 1048576 < x.fTerm
    · simp [h1, h2, show ¬ x.fTerm ≤ 1048576 by omega]
    · by_cases h3 : x.fTime < 0
      · simp [h1, h2, h3, show ¬ 0 ≤ x.fTime by omega, show 1 ≤ x.fTerm by omega, show x.fTerm ≤ 1048576 by omega]
      · by_cases h4 : 1073741824 < x.fTime
        · simp [h1, h2, h3, h4, show 0 ≤ x.fTime by omega, show ¬ x.fTime ≤ 1073741824 by omega, show 1 ≤ x.fTerm by omega, show x.fTerm ≤ 1048576 by omega]
        · simp [h1, h2, h3, h4, show 0 ≤ x.fTime by omega, show x.fTime ≤ 1073741824 by omega, show 1 ≤ x.fTerm by omega, show x.fTerm ≤ 1048576 by omega]
/-- What a command that may be is. -/
structure CmdOk (c : GCommand) : Prop where
  kind : 1 ≤ c.fKind ∧ c.fKind ≤ 22
  key : (c.fKey.size : Int) ≤ 12
  field : (c.fField.size : Int) ≤ 12
  text : (c.fText.size : Int) ≤ 20
  num : -1099511627776 ≤ c.fN ∧ c.fN ≤ 1099511627776
theorem seqB_iff {a b : ByteArray} : cJ a b = true ↔ a = b := by
  unfold cJ
  rw [ByteArray.toList_eq, ByteArray.toList_eq]
  constructor
  · intro h
    have h1 : a.data.toList = b.data.toList := by simpa using h
    cases a; cases b
    simp only [ByteArray.mk.injEq]
    exact Array.ext' h1
  · rintro rfl; exact beq_self_eq_true _
theorem empty_size {s : ByteArray} (h : cJ s ByteArray.empty = true) : s.size = 0 := by
  rw [seqB_iff.1 h]; rfl
theorem bif0 {c : Bool} {a b : Int} (ha : a ≠ 0) (h : (bif c then a else b) = 0) : c = false ∧ b = 0 := by
  cases c with
  | true => exact absurd h ha
  | false => exact ⟨rfl, h⟩
theorem cmd_ok {c : GCommand} (h : cmdF c = 0) : CmdOk c := by
  unfold cmdF cmdK at h
  obtain ⟨h1, h⟩ := bif0 (by decide) h
  obtain ⟨h2, h⟩ := bif0 (by decide) h
  obtain ⟨h3, h⟩ := bif0 (by decide) h
  obtain ⟨h4, _⟩ := bif0 (by decide) h
  simp only [Bool.not_eq_false', Bool.and_eq_true, decide_eq_true_eq] at h1
  simp only [Bool.or_eq_false_iff, Bool.and_eq_false_iff, Bool.not_eq_false', decide_eq_false_iff_not] at h2 h3
  simp only [Bool.not_eq_false', value_count_v, Bool.and_eq_true, decide_eq_true_eq] at h4
  have hf : ∀ s : ByteArray, value_field_v s = true → (s.size : Int) ≤ 12 := by
    intro s hs
    simp only [value_field_v, Bool.and_eq_true, decide_eq_true_eq] at hs
    exact hs.2
  have he : ∀ s : ByteArray, cJ s ByteArray.empty = true → (s.size : Int) ≤ 12 := fun s hs => by rw [empty_size hs]; decide
  refine ⟨h1, ?_, ?_, ?_, h4⟩
  · rcases h3.1.1 with hk | hk
    · rcases h2.2 with h5 | h5
      · rw [hk] at h5; cases h5
      · exact he _ h5
    · exact hf _ hk
  · rcases h3.1.2 with hk | hk
    · rcases h2.1.1.2 with h5 | h5
      · simp only [Bool.and_eq_true, decide_eq_true_eq] at h5
        rcases hk with hk | hk
        · exact absurd h5.1 hk
        · exact absurd h5.2 hk
      · exact he _ h5
    · exact hf _ hk
  · have := h3.2
    simp only [value_text_v, decide_eq_true_eq] at this
    exact this
structure ItemOk (x : GItem) : Prop where
  term : 1 ≤ x.fTerm ∧ x.fTerm ≤ 1048576
  time : 0 ≤ x.fTime ∧ x.fTime ≤ 1073741824
  client : 0 ≤ x.fCall.fClient ∧ x.fCall.fClient ≤ 1048576
  seq : x.fNop = false → x.fCall.fClient ≠ 0 → 1 ≤ x.fCall.fSeq ∧ x.fCall.fSeq ≤ 1048576
  cmd : x.fNop = false → x.fCall.fClient ≠ 0 → CmdOk x.fCall.fCommand
theorem item_ok {x : GItem} (h : wire_CheckItem_v x = 0) : ItemOk x := by
  have q : ck_wire_CheckItem_k1_v x = (decide (x.fTerm < 1) || (decide (1048576 < x.fTerm) || (decide (x.fTime < 0) || decide (1073741824 < x.fTime)))) := by
    unfold ck_wire_CheckItem_k1_v
    simp only [Bool.cond_true_left]
  simp only [wire_CheckItem_v, wire_CheckItem_v_c0, client_CheckCall_v, client_CheckCall_v_c0, command_p] at h
  obtain ⟨h0, h⟩ := bif0 (by decide) h
  rw [q, Bool.or_eq_false_iff, Bool.or_eq_false_iff, Bool.or_eq_false_iff] at h0
  obtain ⟨h1, h2, h3, h4⟩ := h0
  simp only [decide_eq_false_iff_not] at h1 h2 h3 h4
  cases hn : x.fNop with
  | true =>
    rw [hn, cond_true] at h
    cases hc : (x.fCall.fClient == 0) with
    | false => rw [hc] at h; cases h
    | true =>
      have : x.fCall.fClient = 0 := by simpa using hc
      exact ⟨by omega, by omega, by omega, fun h => (by rw [hn] at h; cases h), fun h => (by rw [hn] at h; cases h)⟩
  | false =>
    rw [hn, cond_false] at h
    cases hc : (x.fCall.fClient == 0) with
    | true =>
      have : x.fCall.fClient = 0 := by simpa using hc
      exact ⟨by omega, by omega, by omega, fun _ h => absurd this h, fun _ h => absurd this h⟩
    | false =>
      rw [hc, cond_false] at h
      cases h5 : client_number_v x.fCall.fClient with
      | false => rw [h5] at h; cases h
      | true =>
        rw [h5, cond_true] at h
        cases h6 : client_number_v x.fCall.fSeq with
        | false => rw [h6] at h; cases h
        | true =>
          rw [h6, cond_true] at h
          simp only [client_number_v, Bool.and_eq_true, decide_eq_true_eq] at h5 h6
          exact ⟨by omega, by omega, by omega, fun _ _ => h6, fun _ _ => cmd_ok h⟩
/- Logs: the program's check and the document's agree; copies; comparison. -/

/-- Items that stand behind one of that term and time. -/
noncomputable def chk : Int → Int → List GItem → Bool
  | _, _, [] => true
  | t, m, x :: l => ((wire_CheckItem_v x == 0) && (decide (t ≤ x.fTerm) && decide (m ≤ x.fTime))) && chk x.fTerm x.fTime l
theorem k7v2_p (t m : Int) (l : List GItem) (a b : Int) (x : GItem) : ck_ledger_Check_k7v2_v t m l a b x = !((wire_CheckItem_v x == 0) && (decide (t ≤ x.fTerm) && decide (m ≤ x.fTime))) := by
  unfold ck_ledger_Check_k7v2_v
  cases wire_CheckItem_v x == 0 with
  | false => rfl
  | true =>
    by_cases h1 : x.fTerm < t
    · simp [h1, show ¬ t ≤ x.fTerm by omega]
    · by_cases h2 : x.fTime < m
      · simp [h1, h2, show ¬ m ≤ x.fTime by omega]
      · simp [h1, h2, show t ≤ x.fTerm by omega, show m ≤ x.fTime by omega]
theorem idx_mid {α : Type} (pre : List α) (x : α) (suf : List α) : idx (pre ++ x :: suf) (pre.length : Int) = some x := idx_app _ _ _
theorem check_loop (l : List GItem) (hl : l.length ≤ 140737488351232) : ∀ (suf pre : List GItem) (t m : Int), l = pre ++ suf → ∃ r, ci (st_ledger_Check_0 l (l.length : Int)) (t, m, (pre.length : Int)) = some r ∧ (chk t m suf = true → r = .inr ()) ∧ (chk t m suf = false → ∃ x, r = .inl x) := by
  intro suf
  induction suf with
  | nil =>
    intro pre t m h
    simp at h; subst h
    refine ⟨.inr (), loopM_end (by simp [st_ledger_Check_0]), fun _ => rfl, fun h => by cases h⟩
  | cons x suf ih =>
    intro pre t m h
    have h1 : decide ((pre.length : Int) < (l.length : Int)) = true := decide_eq_true (by rw [h]; simp; omega)
    have h2 : idx l (pre.length : Int) = some x := by rw [h]; exact idx_mid _ _ _
    have h3 : IntKind.i64.wrap ((pre.length : Int) + 1) = ((pre ++ [x]).length : Int) := by
      rw [wrap_id] <;> (rw [h] at hl; simp at hl ⊢; try omega)
    cases hb : ((wire_CheckItem_v x == 0) && (decide (t ≤ x.fTerm) && decide (m ≤ x.fTime))) with
    | false =>
      refine ⟨.inl x, loopM_end (by simp only [st_ledger_Check_0, h1, h2, cond_true, k7v2_p, hb, Bool.not_false]), fun h => ?_, fun _ => ⟨x, rfl⟩⟩
      rw [chk, hb] at h; cases h
    | true =>
      obtain ⟨r, e1, e2, e3⟩ := ih (pre ++ [x]) x.fTerm x.fTime (by simp [h])
      refine ⟨r, ?_, ?_, ?_⟩
      · rw [loopM_on (a' := (x.fTerm, x.fTime, ((pre ++ [x]).length : Int)))]
        · exact e1
        · simp only [st_ledger_Check_0, h1, h2, cond_true, k7v2_p, hb, Bool.not_true, cond_false, h3]
      · rw [chk, hb, Bool.true_and]; exact e2
      · rw [chk, hb, Bool.true_and]; exact e3
theorem fault_loop (l : GLog) (hl : l.fItems.length ≤ 140737488351232) : ∀ (suf pre : List GItem) (t m : Int), l.fItems = pre ++ suf → (pre = [] → t = l.fBaseTerm ∧ m = 0) → (∀ q y, pre = q ++ [y] → t = y.fTerm ∧ m = y.fTime ∧ l.fBaseTerm ≤ t) → ci (st_rostrumref_LogFault_0 l) (pre.length : Int) = some (bif chk t m suf then .inr () else .inl ()) := by
  intro suf
  induction suf with
  | nil =>
    intro pre t m h _ _
    simp at h; subst h
    exact loopM_end (by simp [st_rostrumref_LogFault_0, chk])
  | cons x suf ih =>
    intro pre t m h hn hp
    have h1 : decide ((pre.length : Int) < (l.fItems.length : Int)) = true := decide_eq_true (by rw [h]; simp; omega)
    have h2 : idx l.fItems (pre.length : Int) = some x := by rw [h]; exact idx_mid _ _ _
    have h3 : IntKind.i64.wrap ((pre.length : Int) + 1) = ((pre ++ [x]).length : Int) := by
      rw [wrap_id] <;> (rw [h] at hl; simp at hl ⊢; try omega)
    have hstep : st_rostrumref_LogFault_0 l (pre.length : Int) = some (bif (wire_CheckItem_v x == 0) && (decide (t ≤ x.fTerm) && decide (m ≤ x.fTime)) then .inl ((pre ++ [x]).length : Int) else .inr (.inl ())) := by
      simp only [st_rostrumref_LogFault_0, h1, cond_true, st_rostrumref_LogFault_0_c0, h2, item_eq, h3]
      cases hi : (wire_CheckItem_v x == 0) with
      | false => rfl
      | true =>
        have ho := item_ok (x := x) (by simpa using hi)
        simp only [cond_true, Bool.true_and]
        rcases List.eq_nil_or_concat pre with hc | ⟨q, y, hc⟩
        · obtain ⟨rfl, rfl⟩ := hn hc
          subst hc
          have hm : decide ((0 : Int) ≤ x.fTime) = true := decide_eq_true ho.time.1
          have hz : decide ((0 : Int) < (([] : List GItem).length : Int)) = false := rfl
          rw [hm, hz]
          by_cases ht : x.fTerm < l.fBaseTerm
          · simp [ht, show ¬ l.fBaseTerm ≤ x.fTerm by omega]
          · simp [ht, show l.fBaseTerm ≤ x.fTerm by omega]
        · rw [List.concat_eq_append] at hc
          obtain ⟨rfl, rfl, hb⟩ := hp q y hc
          have hz : decide ((0 : Int) < (pre.length : Int)) = true := decide_eq_true (by rw [hc, List.length_append, List.length_singleton]; omega)
          have hy : idx l.fItems (IntKind.i64.wrap ((pre.length : Int) - 1)) = some y := by
            have e : IntKind.i64.wrap ((pre.length : Int) - 1) = (q.length : Int) := by
              have hq : pre.length = q.length + 1 := by rw [hc]; simp
              have hp : pre.length ≤ l.fItems.length := by rw [h]; simp
              rw [hq, wrap_id] <;> omega
            rw [e, h, hc, List.append_assoc]
            exact idx_mid _ _ _
          rw [hz, hy]
          by_cases ht : x.fTerm < y.fTerm
          · simp [ht, show ¬ y.fTerm ≤ x.fTerm by omega]
          · by_cases hm : x.fTime < y.fTime
            · simp [ht, hm, show ¬ y.fTime ≤ x.fTime by omega, show ¬ x.fTerm < l.fBaseTerm by omega]
            · simp [ht, hm, show y.fTime ≤ x.fTime by omega, show y.fTerm ≤ x.fTerm by omega, show ¬ x.fTerm < l.fBaseTerm by omega]
    cases hb : ((wire_CheckItem_v x == 0) && (decide (t ≤ x.fTerm) && decide (m ≤ x.fTime))) with
    | false =>
      rw [hb] at hstep
      rw [chk, hb]
      exact loopM_end hstep
    | true =>
      rw [hb] at hstep
      rw [chk, hb, Bool.true_and, loopM_on hstep]
      refine ih (pre ++ [x]) x.fTerm x.fTime (by simp [h]) (fun h => by simp at h) (fun q y hq => ?_)
      obtain ⟨e1, e2⟩ := List.append_inj' hq rfl
      simp at e2
      subst e2
      refine ⟨rfl, rfl, ?_⟩
      simp only [Bool.and_eq_true, decide_eq_true_eq] at hb
      rcases List.eq_nil_or_concat pre with hc | ⟨q', y', hc⟩
      · have := (hn hc).1; omega
      · rw [List.concat_eq_append] at hc
        have := (hp q' y' hc).2.2; omega
/-- May a log's head be? -/
def headB (l : GLog) : Bool := (decide (0 ≤ l.fBase) && (decide (0 ≤ l.fBaseTerm) && decide (l.fBaseTerm ≤ 1048576))) && (((l.fBase == 0) == (l.fBaseTerm == 0)) && (decide (l.fItems.length ≤ 200) && decide (l.fBase + l.fItems.length ≤ 1048576)))
/-- May a log be? -/
noncomputable def logB (l : GLog) : Bool := headB l && chk l.fBaseTerm 0 l.fItems
theorem head_p (l : GLog) (hl : l.fItems.length ≤ 140737488351232) : ck_ledger_Check_k1_v l = !headB l := by
  unfold ck_ledger_Check_k1_v ck_ledger_Check_k1_v_c0 headB
  by_cases h1 : l.fBase < 0
  · simp [h1, show ¬ 0 ≤ l.fBase by omega]
  by_cases h2 : l.fBaseTerm < 0
  · simp [h1, h2, show ¬ 0 ≤ l.fBaseTerm by omega]
  by_cases h3 : 1048576 < l.fBaseTerm
  · simp [h1, h2, h3, show ¬ l.fBaseTerm ≤ 1048576 by omega]
  rw [decide_eq_false h1, decide_eq_false h2, decide_eq_false h3, decide_eq_true (show 0 ≤ l.fBase by omega), decide_eq_true (show 0 ≤ l.fBaseTerm by omega), decide_eq_true (show l.fBaseTerm ≤ 1048576 by omega)]
  simp only [cond_false, Bool.true_and]
  cases (l.fBase == 0) <;> cases (l.fBaseTerm == 0) <;> simp only [cond_true, cond_false, beq_self_eq_true, Bool.true_and, Bool.not_true, Bool.not_false] <;> try rfl
  all_goals
    by_cases h4 : l.fItems.length ≤ 200
    · rw [decide_eq_false (show ¬ (200 : Int) < (l.fItems.length : Int) by omega), decide_eq_true h4, cond_false, wrap_id (by omega) (by omega), Bool.true_and]
      by_cases h5 : l.fBase + l.fItems.length ≤ 1048576
      · rw [decide_eq_true h5, decide_eq_false (by omega)]; rfl
      · rw [decide_eq_false h5, decide_eq_true (by omega)]; rfl
    · rw [decide_eq_true (show (200 : Int) < (l.fItems.length : Int) by omega), decide_eq_false h4]; rfl
theorem head_r (l : GLog) (hl : l.fItems.length ≤ 140737488351232) : ck_rostrumref_LogFault_k1_v l = !headB l := by
  unfold ck_rostrumref_LogFault_k1_v ck_rostrumref_LogFault_k1_v_c0 headB
  by_cases h1 : l.fBase < 0
  · simp [h1, show ¬ 0 ≤ l.fBase by omega]
  by_cases h6 : l.fBase ≤ 1048576
  · by_cases h2 : l.fBaseTerm < 0
    · simp [h1, h2, h6, show ¬ 0 ≤ l.fBaseTerm by omega]
    by_cases h3 : 1048576 < l.fBaseTerm
    · simp [h1, h2, h3, show ¬ l.fBaseTerm ≤ 1048576 by omega]
    rw [decide_eq_true h6, decide_eq_true (show 0 ≤ l.fBase by omega), decide_eq_true (show 0 ≤ l.fBaseTerm by omega), decide_eq_true (show l.fBaseTerm ≤ 1048576 by omega)]
    simp only [cond_true, Bool.true_and]
    cases (l.fBase == 0) <;> cases (l.fBaseTerm == 0) <;> simp only [cond_true, cond_false, beq_self_eq_true, Bool.true_and, Bool.not_true, Bool.not_false] <;> try rfl
    all_goals
      by_cases h4 : l.fItems.length ≤ 200
      · rw [decide_eq_false (show ¬ (200 : Int) < (l.fItems.length : Int) by omega), decide_eq_true h4, cond_false, wrap_id (by omega) (by omega), Bool.true_and]
        by_cases h5 : l.fBase + l.fItems.length ≤ 1048576
        · rw [decide_eq_true h5, decide_eq_false (by omega)]; rfl
        · rw [decide_eq_false h5, decide_eq_true (by omega)]; rfl
      · rw [decide_eq_true (show (200 : Int) < (l.fItems.length : Int) by omega), decide_eq_false h4]; rfl
  · rw [decide_eq_false h6, decide_eq_false (show ¬ l.fBase + l.fItems.length ≤ 1048576 by omega)]
    cases decide (0 ≤ l.fBase) <;> simp
theorem check_log (l : GLog) (hl : l.fItems.length ≤ 140737488351232) : ledger_Check l = some (bif logB l then 0 else 13) := by
  unfold ledger_Check logB
  rw [head_p l hl]
  cases headB l with
  | false => rfl
  | true =>
    obtain ⟨r, e1, e2, e3⟩ := check_loop l.fItems hl l.fItems [] l.fBaseTerm 0 rfl
    simp only [List.length_nil, Int.cast_ofNat_Int] at e1
    simp only [Bool.not_true, cond_false, Bool.true_and]
    rw [e1]
    cases hc : chk l.fBaseTerm 0 l.fItems with
    | true => rw [e2 hc]; rfl
    | false => obtain ⟨x, e⟩ := e3 hc; rw [e]; rfl
theorem fault_log (l : GLog) (hl : l.fItems.length ≤ 140737488351232) : rostrumref_LogFault l = some (bif logB l then 0 else 13) := by
  unfold rostrumref_LogFault logB
  rw [head_r l hl]
  cases headB l with
  | false => rfl
  | true =>
    have e1 := fault_loop l hl l.fItems [] l.fBaseTerm 0 rfl (fun _ => ⟨rfl, rfl⟩) (fun q y h => by simp at h)
    simp only [List.length_nil, Int.cast_ofNat_Int] at e1
    simp only [Bool.not_true, cond_false, Bool.true_and]
    rw [e1]
    cases chk l.fBaseTerm 0 l.fItems <;> rfl
theorem copy_log (l : GLog) (hl : cH l.fItems.length 104 = true) : rostrumref_LogCopy_z l = some l := by
  have hf := fitsB_iff.1 hl
  unfold rostrumref_LogCopy_z
  rw [loop_copy (step := st_rostrumref_LogCopy_z_0 l) (fun i s => (i, ⟨l.fBase, l.fBaseTerm, s⟩)) l.fItems (fun s => ⟨l.fBase, l.fBaseTerm, s⟩) (fun i x hx => by
    have h := get_lt hx
    have hf : cH ((l.fItems.take i).length + 1) 104 = true := fits_of (by rw [List.length_take]; omega)
    simp only [st_rostrumref_LogCopy_z_0, ltN h, cond_true, idx_get hx, hf, wrapN (show i ≤ _ by omega)]) (by simp only [st_rostrumref_LogCopy_z_0, geN (Nat.le_refl _), cond_false])]
theorem sameItems_self (l : List GItem) (hl : l.length ≤ 140737488351232) : rostrumlaw_sameItems l l = some true := by
  unfold rostrumlaw_sameItems
  rw [beq_self_eq_true, cond_true, show (0 : Int) = ((0 : Nat) : Int) from rfl, loop_all (step := st_rostrumlaw_sameItems_0 l l) l 0 (fun _ _ => true) (fun i x hx _ => by
    have h := get_lt hx
    simp only [st_rostrumlaw_sameItems_0, st_rostrumlaw_sameItems_0_c0, ltN h, cond_true, idx_get hx, beq_self_eq_true, seqB_self, wrapN (show i ≤ _ by omega)]) (fun i hi => by simp only [st_rostrumlaw_sameItems_0, geN hi, cond_false])]
  have : ∀ (m : List GItem) k, allI (fun _ _ => true) k m = true := by
    intro m
    induction m with
    | nil => intro k; rfl
    | cons x m ih => intro k; simp only [allI, ih, Bool.and_self]
  rw [this]; rfl
theorem sameLog_self (l : GLog) (hl : l.fItems.length ≤ 140737488351232) : rostrumlaw_sameLog l l = some true := by
  unfold rostrumlaw_sameLog ck_rostrumlaw_sameLog_k1
  simp only [beq_self_eq_true, cond_true, sameItems_self _ hl]
/- Logs into which items are laid: the program and the document agree. -/

/-- The first place at which it is so. -/
def firstQ {α : Type} (q : Nat → α → Bool) : Nat → List α → Option Nat
  | _, [] => none
  | k, x :: l => bif q k x then some k else firstQ q (k + 1) l
theorem loop_firstQ {α R : Type} {step : Int → Option (Int ⊕ R)} (l : List α) (q : Nat → α → Bool) (y : Nat → R) (n : R)
    (hs : ∀ (i : Nat) x, l[i]? = some x → (∀ j y, j < i → l[j]? = some y → q j y = false) → step (i : Int) = some (bif q i x then .inr (y i) else .inl ((i + 1 : Nat) : Int)))
    (he : step (l.length : Int) = some (.inr n)) : ci step 0 = some (match firstQ q 0 l with | some i => y i | none => n) := by
  have h := loop_list (step := step) l (fun i (_ : Unit) => i) (fun i _ => i ≤ l.length ∧ ∀ j y, j < i → l[j]? = some y → q j y = false) (fun i x _ => bif q i x then .inr (y i) else .inl ()) (fun _ => n) (fun i x s hx hk => by
    rw [hs i x hx hk.2]; cases q i x <;> rfl) (fun i x s s' hx hk hf => by
      have := get_lt hx
      refine ⟨by omega, fun j z hj hz => ?_⟩
      by_cases hji : j = i
      · subst hji
        have : z = x := Option.some.inj (hz.symm.trans hx)
        subst this
        cases hq : q j z with
        | false => rfl
        | true => rw [hq] at hf; cases hf
      · exact hk.2 j z (by omega) hz) (fun i s hl hk => by rw [Nat.le_antisymm hk.1 hl]; exact he) 0 () ⟨Nat.zero_le _, fun j y hj => by omega⟩
  refine h.trans ?_
  congr 1
  have : ∀ (m : List α) (j : Nat), run (fun i x (_ : Unit) => bif q i x then .inr (y i) else .inl ()) (fun _ => n) j m () = match firstQ q j m with | some i => y i | none => n := by
    intro m
    induction m with
    | nil => intro j; rfl
    | cons x m ih =>
      intro j
      simp only [run, firstQ]
      cases q j x with
      | true => rfl
      | false => exact ih (j + 1)
  exact this _ _
theorem firstQ_congr {α : Type} {p q : Nat → α → Bool} : ∀ (l : List α) (k : Nat), (∀ i x, l[i]? = some x → p (k + i) x = q (k + i) x) → firstQ p k l = firstQ q k l
  | [], _, _ => rfl
  | x :: l, k, h => by
    have e : firstQ p (k + 1) l = firstQ q (k + 1) l := firstQ_congr l (k + 1) (fun i y hy => by
      have := h (i + 1) y hy
      rw [show k + 1 + i = k + (i + 1) by omega]; exact this)
    simp only [firstQ]
    rw [show p k x = q k x from h 0 x rfl, e]
theorem firstQ_skip {α : Type} (q : Nat → α → Bool) : ∀ (n : Nat) (l : List α) (k : Nat), n ≤ l.length → (∀ i x, i < n → q (k + i) x = false) → firstQ q k l = firstQ q (k + n) (l.drop n)
  | 0, l, k, _, _ => rfl
  | n + 1, [], k, h, _ => by simp at h
  | n + 1, x :: l, k, h, hq => by
    simp only [firstQ]
    rw [show q k x = false from hq 0 x (by omega), cond_false, firstQ_skip q n l (k + 1) (by simpa using h) (fun i y hi => by
      rw [show k + 1 + i = k + (i + 1) by omega]; exact hq (i + 1) y (by omega))]
    rw [show k + 1 + n = k + (n + 1) by omega]; rfl
theorem firstQ_shift {α : Type} (q : Nat → α → Bool) (n : Nat) : ∀ (l : List α) (k : Nat), firstQ q (n + k) l = (firstQ (fun i x => q (n + i) x) k l).map (n + ·)
  | [], _ => rfl
  | x :: l, k => by
    simp only [firstQ]
    cases q (n + k) x with
    | true => rfl
    | false => exact firstQ_shift q n l (k + 1)
theorem firstQ_none {α : Type} (q : Nat → α → Bool) : ∀ (l : List α) (k : Nat), (∀ i x, i < l.length → q (k + i) x = false) → firstQ q k l = none
  | [], _, _ => rfl
  | x :: l, k, h => by
    simp only [firstQ]
    rw [show q k x = false from h 0 x (by simp), cond_false, firstQ_none q l (k + 1) (fun i y hi => by
      rw [show k + 1 + i = k + (i + 1) by omega]; exact h (i + 1) y (by simpa using hi))]
theorem firstQ_lt {α : Type} (q : Nat → α → Bool) : ∀ (l : List α) (k j : Nat), firstQ q k l = some j → k ≤ j ∧ j < k + l.length
  | [], _, _, h => by cases h
  | x :: l, k, j, h => by
    simp only [firstQ] at h
    cases hq : q k x with
    | true => rw [hq] at h; obtain rfl := Option.some.inj h; simp
    | false =>
      rw [hq] at h
      have := firstQ_lt q l (k + 1) j h
      simp only [List.length_cons]; omega
/-- What a log that may be is. -/
structure LogOk (l : GLog) : Prop where
  base : 0 ≤ l.fBase ∧ l.fBase + l.fItems.length ≤ 1048576
  bt : 0 ≤ l.fBaseTerm ∧ l.fBaseTerm ≤ 1048576
  len : l.fItems.length ≤ 200
  item : ∀ x ∈ l.fItems, ItemOk x
theorem chk_items : ∀ (l : List GItem) (t m : Int), chk t m l = true → ∀ x ∈ l, ItemOk x
  | [], _, _, _, x, hx => by cases hx
  | y :: l, t, m, h, x, hx => by
    simp only [chk, Bool.and_eq_true] at h
    rcases List.mem_cons.1 hx with rfl | hx
    · exact item_ok (by simpa using h.1.1)
    · exact chk_items l _ _ h.2 x hx
theorem log_ok {l : GLog} (h : logB l = true) : LogOk l := by
  unfold logB headB at h
  simp only [Bool.and_eq_true, decide_eq_true_eq] at h
  exact ⟨⟨by omega, by omega⟩, ⟨by omega, by omega⟩, by omega, chk_items _ _ _ h.2⟩
/-- Is another item at that place of the log, or none? L: the log's items; k: the place among them. -/
def otherQ (L : List GItem) (k : Nat) (x : GItem) : Bool := match L[k]? with
  | some y => !(y.fTerm == x.fTerm)
  | none => true
/-- The log with the items laid over it. -/
def laid (l : GLog) (k : Nat) (X : List GItem) : GLog := ⟨l.fBase, l.fBaseTerm, l.fItems.take k ++ X⟩
theorem subL_take {α : Type} (l : List α) (k : Nat) : cI l 0 (k : Int) = l.take k := by
  unfold cI; simp
theorem subL_drop {α : Type} (l : List α) (k : Nat) : cI l (k : Int) (l.length : Int) = l.drop k := by
  unfold cI; simp
theorem drop_ne {α : Type} {l : List α} {i : Nat} (h : i < l.length) : (l.drop i).isEmpty = false := by
  cases hd : l.drop i with
  | nil =>
    have := congrArg List.length hd
    simp only [List.length_drop, List.length_nil] at this; omega
  | cons => rfl
theorem rng_top {i n : Nat} (h : i ≤ n) : rngB i n n = true := by
  unfold rngB
  simp
  omega
theorem rng_take {i n : Nat} (h : i ≤ n) : rngB 0 i n = true := by
  unfold rngB
  simp
  omega
/-- The program's loop: at0 is the place of the first of the items X among the log's. -/
theorem match_loop (l : GLog) (p : Int) (X : List GItem) (a : Nat) (z : List GItem) (w : Int) (hl : LogOk l) (hx : X.length ≤ 200) (hp : 0 ≤ p ∧ p ≤ 1048576) (ha : a ≤ l.fItems.length) :
    ∃ g : Nat → GItem, ci (st_ledger_Match_0v2 p X (a : Int) (X.length : Int) l.fBase l.fBaseTerm l.fItems) 0 = some (match firstQ (fun i x => otherQ l.fItems (a + i) x) 0 X with
      | some i => .inl (bif logB (laid l (a + i) (X.drop i)) then (true, p + i + 1, 0, laid l (a + i) (X.drop i), g i) else (false, 0, 6, ⟨0, 0, []⟩, g i))
      | none => .inr ()) := by
  refine ⟨fun i => X.getD i ⟨0, 0, false, ⟨0, 0, ⟨0, .empty, .empty, .empty, 0⟩⟩⟩, ?_⟩
  have hn := hl.len
  refine loop_firstQ (step := st_ledger_Match_0v2 p X (a : Int) (X.length : Int) l.fBase l.fBaseTerm l.fItems) X (fun i x => otherQ l.fItems (a + i) x) _ _ (fun i x hi hold => ?_) (by simp only [st_ledger_Match_0v2, geN (Nat.le_refl _), cond_false])
  have hil := get_lt hi
  have h1 : IntKind.i64.wrap ((a : Int) + (i : Int)) = ((a + i : Nat) : Int) := by rw [wrap_id] <;> omega
  have h2 := wrapN (n := i) (by omega)
  have h3 : IntKind.i64.wrap (IntKind.i64.wrap (p + i) + 1) = p + i + 1 := by
    rw [wrap_id (n := p + i) (by omega) (by omega), wrap_id] <;> omega
  have hg : X.getD i ⟨0, 0, false, ⟨0, 0, ⟨0, .empty, .empty, .empty, 0⟩⟩⟩ = x := by simp [List.getD, hi]
  simp only [st_ledger_Match_0v2, ltN hil, cond_true, idx_get hi, h1]
  by_cases hk : a + i < l.fItems.length
  · obtain ⟨y, hy⟩ : ∃ y, l.fItems[a + i]? = some y := ⟨_, List.getElem?_eq_getElem hk⟩
    have ho : otherQ l.fItems (a + i) x = !(y.fTerm == x.fTerm) := by unfold otherQ; rw [hy]
    rw [ho, ltN hk, cond_true, idx_get hy]
    simp only [st_ledger_Match_0v2_c0, h1, h2, h3, rng_take (Nat.le_of_lt hk), rng_top (Nat.le_of_lt hil), subL_take, subL_drop, drop_ne hil, cond_true, cond_false]
    have hf : cH ((l.fItems.take (a + i)).length + (X.drop i).length) 104 = true := fits_of (by rw [List.length_take, List.length_drop]; omega)
    rw [hf, check_log _ (by simp only [List.length_append, List.length_take, List.length_drop]; omega)]
    rw [hg]
    unfold laid
    cases y.fTerm == x.fTerm with
    | true => rfl
    | false => cases logB ⟨l.fBase, l.fBaseTerm, l.fItems.take (a + i) ++ X.drop i⟩ <;> rfl
  · have hk' : l.fItems.length ≤ a + i := by omega
    have ho : otherQ l.fItems (a + i) x = true := by unfold otherQ; rw [List.getElem?_eq_none hk']
    rw [ho, geN hk', cond_false, cond_true]
    by_cases hke : a + i = l.fItems.length
    · simp only [st_ledger_Match_0v2_c1, h1, h3, rng_take (Nat.le_of_eq hke), rng_top (Nat.le_of_lt hil), subL_take, subL_drop, drop_ne hil, cond_true, cond_false]
      have hf : cH ((l.fItems.take (a + i)).length + (X.drop i).length) 104 = true := fits_of (by rw [List.length_take, List.length_drop]; omega)
      rw [hf, check_log _ (by simp only [List.length_append, List.length_take, List.length_drop]; omega)]
      rw [hg]
      unfold laid
      cases logB ⟨l.fBase, l.fBaseTerm, l.fItems.take (a + i) ++ X.drop i⟩ <;> rfl
    · have hj : l.fItems.length - a < i := by omega
      have hjx : l.fItems.length - a < X.length := by omega
      have := hold (l.fItems.length - a) _ hj (List.getElem?_eq_getElem hjx)
      unfold otherQ at this
      rw [List.getElem?_eq_none (by omega)] at this
      cases this
/-- The document's copies of the log's own items. -/
theorem own_loop (l : GLog) (X : List GItem) (i k : Nat) (s : GLog) (hl : LogOk l) (hk : k ≤ l.fItems.length) (w : Int) (hw : w = l.fBase + 1 + k) : ci (st_rostrumref_Matched_2v3 X l (i : Int) w) (l.fBase + 1, ⟨s.fBase, s.fBaseTerm, []⟩) = some ⟨s.fBase, s.fBaseTerm, l.fItems.take k⟩ := by
  have hb := hl.base; have hn := hl.len
  have ht : (l.fItems.take k).length = k := by rw [List.length_take]; omega
  have h := loop_copy (step := st_rostrumref_Matched_2v3 X l (i : Int) w) (fun j q => (l.fBase + 1 + j, ⟨s.fBase, s.fBaseTerm, q⟩)) (l.fItems.take k) (fun q => ⟨s.fBase, s.fBaseTerm, q⟩) (fun j x hx => by
    have hj := get_lt hx
    have hj' : j < l.fItems.length := by omega
    have hx' : l.fItems[j]? = some x := by rw [List.getElem?_take_of_lt (by omega)] at hx; exact hx
    have h1 : decide (l.fBase + 1 + (j : Int) < w) = true := decide_eq_true (by omega)
    have h2 : IntKind.i64.wrap (IntKind.i64.wrap (l.fBase + 1 + (j : Int) - l.fBase) - 1) = (j : Int) := by
      rw [wrap_id (n := l.fBase + 1 + (j : Int) - l.fBase) (by omega) (by omega), wrap_id] <;> omega
    have h3 : IntKind.i64.wrap (l.fBase + 1 + (j : Int) + 1) = l.fBase + 1 + ((j + 1 : Nat) : Int) := by rw [wrap_id] <;> omega
    have hf : cH (((l.fItems.take k).take j).length + 1) 104 = true := fits_of (by rw [List.length_take]; omega)
    simp only [st_rostrumref_Matched_2v3, h1, cond_true, h2, idx_get hx', hf, h3]) (by
    have h1 : decide (l.fBase + 1 + ((l.fItems.take k).length : Int) < w) = false := decide_eq_false (by rw [ht]; omega)
    simp only [st_rostrumref_Matched_2v3, h1, cond_false])
  simpa using h
/-- The document's copies of the items that are laid over. -/
theorem over_loop (X : List GItem) (w : Int) (i : Nat) (s : GLog) (hx : X.length ≤ 200) (hi : i ≤ X.length) (hs : s.fItems.length ≤ 200) : ci (st_rostrumref_Matched_4 X w) ((i : Int), s) = some ⟨s.fBase, s.fBaseTerm, s.fItems ++ X.drop i⟩ := by
  have h := loop_list (step := st_rostrumref_Matched_4 X w) X (fun j (q : List GItem) => (j, ⟨s.fBase, s.fBaseTerm, q⟩)) (fun j q => q.length ≤ 200 + j) (fun j x q => .inl (q ++ [x])) (fun q => ⟨s.fBase, s.fBaseTerm, q⟩) (fun j x q hj hq => by
    have := get_lt hj
    have hf : cH (q.length + 1) 104 = true := fits_of (by omega)
    simp only [st_rostrumref_Matched_4, ltN this, cond_true, idx_get hj, hf, wrapN (show j ≤ _ by omega)]) (fun j x q q' hj hq he => by
      simp only [Sum.inl.injEq] at he
      rw [← he]; simp; omega) (fun j q hj hq => by
      simp only [st_rostrumref_Matched_4, geN hj, cond_false]) i s.fItems (by omega)
  refine h.trans ?_
  congr 1
  have : ∀ (m q : List GItem) (j : Nat), run (fun j x (q : List GItem) => (.inl (q ++ [x]) : List GItem ⊕ GLog)) (fun q => ⟨s.fBase, s.fBaseTerm, q⟩) j m q = ⟨s.fBase, s.fBaseTerm, q ++ m⟩ := by
    intro m
    induction m with
    | nil => intro q j; simp [run]
    | cons x m ih => intro q j; simp only [run]; rw [ih]; simp
  exact this _ _ _
/-- The document's question at an item. -/
def docQ (l : GLog) (p : Int) (i : Nat) (x : GItem) : Bool := bif decide (p + 1 + i ≤ l.fBase) then false else otherQ l.fItems (p + i - l.fBase).toNat x
/-- The term of a place behind the log's base. -/
def termL (L : List GItem) (k : Nat) : Int := match L[k]? with
  | some y => y.fTerm
  | none => -2
theorem termAt_p (l : GLog) (at_ : Int) (hl : LogOk l) (h : l.fBase < at_) (h2 : at_ ≤ 4294967296) : rostrumref_termAt l at_ = some (termL l.fItems (at_ - l.fBase - 1).toNat) := by
  have hb := hl.base; have hn := hl.len
  have hw : IntKind.i64.wrap (l.fBase + (l.fItems.length : Int)) = l.fBase + l.fItems.length := by rw [wrap_id] <;> omega
  unfold rostrumref_termAt rostrumref_lastOf_v
  rw [decide_eq_false (show ¬ at_ < l.fBase by omega), cond_false, hw]
  by_cases h3 : l.fBase + l.fItems.length < at_
  · rw [decide_eq_true h3, cond_true]
    unfold termL
    rw [List.getElem?_eq_none (by omega)]
  · have hk : (at_ - l.fBase - 1).toNat < l.fItems.length := by omega
    have hy := List.getElem?_eq_getElem hk
    have e : (at_ == l.fBase) = false := by rw [beq_eq_false_iff_ne]; omega
    have hw2 : IntKind.i64.wrap (IntKind.i64.wrap (at_ - l.fBase) - 1) = ((at_ - l.fBase - 1).toNat : Int) := by
      rw [wrap_id (n := at_ - l.fBase) (by omega) (by omega), wrap_id] <;> omega
    rw [decide_eq_false h3, cond_false, e, cond_false, hw2, idx_get hy]
    unfold termL
    rw [hy]
theorem other_term (L : List GItem) (k : Nat) (x : GItem) (h : ItemOk x) : otherQ L k x = !(termL L k == x.fTerm) := by
  have := h.term
  unfold otherQ termL
  cases L[k]? with
  | some y => rfl
  | none =>
    have e : ((-2 : Int) == x.fTerm) = false := by rw [beq_eq_false_iff_ne]; omega
    simp only [e, Bool.not_false]
/-- The document's loop. -/
theorem matched_loop (l : GLog) (p : Int) (X : List GItem) (hl : LogOk l) (hx : X.length ≤ 200) (ht : ∀ x ∈ X, ItemOk x) (hp : 0 ≤ p ∧ p ≤ 1048576) (hpn : p ≤ l.fBase + l.fItems.length) :
    ci (st_rostrumref_Matched_0 p X l l) 0 = some (match firstQ (docQ l p) 0 X with
      | some i => bif logB (laid l (p + i - l.fBase).toNat (X.drop i)) then .inl (p + 1 + i, laid l (p + i - l.fBase).toNat (X.drop i), l.fBase, l.fBaseTerm) else .inr (.inl (laid l (p + i - l.fBase).toNat (X.drop i)))
      | none => .inr (.inr ())) := by
  have hb := hl.base; have hn := hl.len
  refine loop_firstQ (step := st_rostrumref_Matched_0 p X l l) X (docQ l p) _ _ (fun i x hi hold => ?_) (by simp only [st_rostrumref_Matched_0, geN (Nat.le_refl _), cond_false])
  have hil := get_lt hi
  have h1 : IntKind.i64.wrap (IntKind.i64.wrap (p + 1) + (i : Int)) = p + 1 + i := by
    rw [wrap_id (n := p + 1) (by omega) (by omega), wrap_id] <;> omega
  have h2 := wrapN (n := i) (by omega)
  simp only [st_rostrumref_Matched_0, ltN hil, cond_true, h1, h2, idx_get hi]
  by_cases hB : p + 1 + i ≤ l.fBase
  · have e : docQ l p i x = false := by unfold docQ; rw [decide_eq_true hB]; rfl
    rw [e, decide_eq_true hB]; rfl
  · have e : docQ l p i x = !(termL l.fItems (p + i - l.fBase).toNat == x.fTerm) := by
      unfold docQ
      rw [decide_eq_false hB, cond_false, other_term _ _ _ (ht x (List.mem_of_getElem? hi))]
    have hk : (p + i - l.fBase).toNat ≤ l.fItems.length := by
      by_cases hk : (p + i - l.fBase).toNat ≤ l.fItems.length
      · exact hk
      · have hj : (l.fBase + l.fItems.length - p).toNat < i := by omega
        have hjx : (l.fBase + l.fItems.length - p).toNat < X.length := by omega
        have := hold _ _ hj (List.getElem?_eq_getElem hjx)
        unfold docQ otherQ at this
        rw [decide_eq_false (by omega), cond_false, List.getElem?_eq_none (by omega)] at this
        cases this
    rw [e, decide_eq_false hB, cond_false, termAt_p l _ hl (by omega) (by omega)]
    rw [show p + 1 + (i : Int) - l.fBase - 1 = p + i - l.fBase by omega]
    simp only
    cases termL l.fItems (p + i - l.fBase).toNat == x.fTerm with
    | true => rfl
    | false =>
      simp only [cond_false, Bool.not_false, cond_true]
      rw [show IntKind.i64.wrap (l.fBase + 1) = l.fBase + 1 from by rw [wrap_id] <;> omega, own_loop l X i (p + i - l.fBase).toNat l hl hk _ (by omega)]
      simp only
      rw [over_loop X _ i _ hx (Nat.le_of_lt hil) (by simp only [List.length_take]; omega)]
      simp only [st_rostrumref_Matched_0_c0, h1]
      rw [fault_log _ (by simp only [List.length_append, List.length_take, List.length_drop]; omega)]
      unfold laid
      cases logB ⟨l.fBase, l.fBaseTerm, l.fItems.take (p + i - l.fBase).toNat ++ X.drop i⟩ <;> rfl
/-- The term of a place not ahead of the log's base. -/
def termP (l : GLog) (p : Int) : Int := bif p == l.fBase then l.fBaseTerm else termL l.fItems (p - l.fBase - 1).toNat
/-- What comes of laying items into a log. -/
noncomputable def layF (l : GLog) (p : Int) (X : List GItem) : GLog × Bool × Int × Int := match firstQ (docQ l p) 0 X with
  | some i => bif logB (laid l (p + i - l.fBase).toNat (X.drop i)) then (laid l (p + i - l.fBase).toNat (X.drop i), true, p + 1 + i, 0) else (⟨0, 0, []⟩, false, 0, 6)
  | none => (l, true, 0, 0)
noncomputable def matchF (l : GLog) (p : Int) (t : Int) (X : List GItem) : GLog × Bool × Int × Int :=
  bif !logB l then (⟨0, 0, []⟩, false, 0, 13)
  else bif !logB ⟨p, t, X⟩ then (⟨0, 0, []⟩, false, 0, 10)
  else bif decide (l.fBase ≤ p) && !(termP l p == t) then (l, false, 0, 0)
  else layF l p X
theorem termP_last {l : GLog} {p : Int} (h : l.fBase + l.fItems.length < p) : termP l p = -2 := by
  unfold termP termL
  have e : (p == l.fBase) = false := by rw [beq_eq_false_iff_ne]; omega
  rw [e, List.getElem?_eq_none (by omega)]; rfl
theorem termAt_b (l : GLog) (p : Int) (hl : LogOk l) (h : l.fBase ≤ p) (h2 : p ≤ 4294967296) : rostrumref_termAt l p = some (termP l p) := by
  have hb := hl.base; have hn := hl.len
  unfold termP
  by_cases e : p = l.fBase
  · subst e
    have hw : IntKind.i64.wrap (l.fBase + (l.fItems.length : Int)) = l.fBase + l.fItems.length := by rw [wrap_id] <;> omega
    unfold rostrumref_termAt rostrumref_lastOf_v
    rw [decide_eq_false (by omega), cond_false, hw, decide_eq_false (by omega), cond_false, beq_self_eq_true, cond_true, cond_true]
  · have e' : (p == l.fBase) = false := by rw [beq_eq_false_iff_ne]; exact e
    rw [termAt_p l p hl (by omega) h2, e', cond_false]
theorem matched_p (l : GLog) (p t : Int) (X : List GItem) (hl : l.fItems.length ≤ 1353245080300) (hX : X.length ≤ 1353245080300) : rostrumref_Matched l p t X = some (matchF l p t X) := by
  unfold rostrumref_Matched matchF
  rw [fault_log l (by omega)]
  cases hb : logB l with
  | false => rfl
  | true =>
    have ho := log_ok hb
    have hn := ho.len
    have hbb := ho.base
    simp only [cond_true, rostrumref_Matched_c1, Bool.not_true, cond_false, beq_self_eq_true]
    rw [fault_log _ (by simp only; omega)]
    cases hb2 : logB ⟨p, t, X⟩ with
    | false => rfl
    | true =>
      have h2 := log_ok hb2
      have h3 := h2.base; have h4 := h2.bt; have h5 := h2.len
      simp only at h3 h4 h5
      simp only [cond_true, beq_self_eq_true, Bool.not_true, ck_rostrumref_Matched_q29_v, cond_false]
      rw [copy_log l (fits_of (by omega))]
      simp only
      have hloop := fun hpn => matched_loop l p X ho h5 h2.item ⟨by omega, by omega⟩ hpn
      by_cases h6 : l.fBase ≤ p
      · simp only [decide_eq_true h6, cond_true, rostrumref_Matched_c0, Bool.true_and]
        rw [termAt_b l p ho h6 (by omega)]
        simp only
        cases ht : (termP l p == t) with
        | false => rfl
        | true =>
          have hpn : p ≤ l.fBase + l.fItems.length := by
            by_cases hpn : p ≤ l.fBase + l.fItems.length
            · exact hpn
            · rw [termP_last (by omega)] at ht
              have : (-2 : Int) = t := by simpa using ht
              omega
          rw [cond_true, hloop hpn]
          unfold layF
          cases firstQ (docQ l p) 0 X with
          | none => rfl
          | some i =>
            simp only
            cases logB (laid l (p + i - l.fBase).toNat (X.drop i)) <;> rfl
      · simp only [decide_eq_false h6, cond_false, Bool.false_and]
        rw [hloop (by omega)]
        unfold layF
        cases firstQ (docQ l p) 0 X with
        | none => rfl
        | some i =>
          simp only
          cases logB (laid l (p + i - l.fBase).toNat (X.drop i)) <;> rfl
theorem term_b (l : GLog) (p : Int) (hl : LogOk l) (h : l.fBase ≤ p) (h2 : p ≤ 4294967296) : ledger_term l p = some (bif decide (l.fBase + l.fItems.length < p) then (0, 5) else (termP l p, 0)) := by
  have hb := hl.base; have hn := hl.len
  unfold ledger_term
  rw [decide_eq_false (show ¬ p < l.fBase by omega), cond_false]
  by_cases e : p = l.fBase
  · subst e
    rw [beq_self_eq_true, cond_true, decide_eq_false (by omega), cond_false]
    unfold termP
    rw [beq_self_eq_true, cond_true]
  · have e' : (p == l.fBase) = false := by rw [beq_eq_false_iff_ne]; exact e
    have hw : IntKind.i64.wrap (p - l.fBase) = p - l.fBase := by rw [wrap_id] <;> omega
    rw [e', cond_false, hw]
    by_cases h3 : l.fBase + l.fItems.length < p
    · rw [decide_eq_true h3, decide_eq_true (by omega)]; rfl
    · have hk : (p - l.fBase - 1).toNat < l.fItems.length := by omega
      have hy := List.getElem?_eq_getElem hk
      have hw2 : IntKind.i64.wrap (p - l.fBase - 1) = ((p - l.fBase - 1).toNat : Int) := by rw [wrap_id] <;> omega
      rw [decide_eq_false h3, decide_eq_false (by omega), cond_false, cond_false, hw2, idx_get hy]
      unfold termP termL
      rw [e', cond_false, hy]
theorem match_p (l : GLog) (p t : Int) (X : List GItem) (hl : l.fItems.length ≤ 1353245080300) (hX : X.length ≤ 1353245080300) : ledger_Match l p t X = some (matchF l p t X) := by
  unfold ledger_Match matchF
  rw [check_log l (by omega)]
  cases hb : logB l with
  | false => rfl
  | true =>
    have ho := log_ok hb
    have hn := ho.len
    have hbb := ho.base
    simp only [cond_true, ledger_Match_c1, Bool.not_true, cond_false, beq_self_eq_true]
    rw [check_log _ (by simp only; omega)]
    cases hb2 : logB ⟨p, t, X⟩ with
    | false => rfl
    | true =>
      have h2 := log_ok hb2
      have h3 := h2.base; have h4 := h2.bt; have h5 := h2.len
      simp only at h3 h4 h5
      have hf : cH l.fItems.length 104 = true := fits_of (by omega)
      simp only [cond_true, beq_self_eq_true, Bool.not_true, slices_Clone_Item_Item_z, hf, cond_false]
      by_cases h6 : l.fBase ≤ p
      · simp only [decide_eq_false (show ¬ p < l.fBase by omega), decide_eq_true h6, cond_false, Bool.true_and, ledger_Match_c0]
        rw [term_b l p ho h6 (by omega)]
        by_cases h7 : l.fBase + l.fItems.length < p
        · have e : ((-2 : Int) == t) = false := by rw [beq_eq_false_iff_ne]; omega
          rw [decide_eq_true h7, termP_last h7, e]; rfl
        · rw [decide_eq_false h7]
          simp only [cond_false, beq_self_eq_true, cond_true]
          cases ht : (termP l p == t) with
          | false => rfl
          | true =>
            have hw : IntKind.i64.wrap (p - l.fBase) = ((p - l.fBase).toNat : Int) := by rw [wrap_id] <;> omega
            obtain ⟨g, hg⟩ := match_loop l p X (p - l.fBase).toNat [] 0 ho h5 ⟨by omega, by omega⟩ (by omega)
            simp only [cond_true, hw, Bool.not_true, cond_false]
            rw [hg]
            have hq : firstQ (fun i x => otherQ l.fItems ((p - l.fBase).toNat + i) x) 0 X = firstQ (docQ l p) 0 X := firstQ_congr X 0 (fun i x _ => by
              unfold docQ
              rw [decide_eq_false (by omega), cond_false, show (p + ((0 + i : Nat) : Int) - l.fBase).toNat = (p - l.fBase).toNat + (0 + i) by omega])
            rw [hq]
            unfold layF
            cases firstQ (docQ l p) 0 X with
            | none => rfl
            | some i =>
              simp only
              rw [show (p + (i : Int) - l.fBase).toNat = (p - l.fBase).toNat + i by omega, show p + 1 + (i : Int) = p + i + 1 by omega]
              cases logB (laid l ((p - l.fBase).toNat + i) (X.drop i)) <;> rfl
      · have hw : IntKind.i64.wrap (l.fBase - p) = l.fBase - p := by rw [wrap_id] <;> omega
        simp only [decide_eq_true (show p < l.fBase by omega), decide_eq_false h6, cond_true, Bool.false_and, cond_false, hw]
        by_cases h8 : (X.length : Int) < l.fBase - p
        · rw [if_pos h8, rng_top (Nat.le_refl _), cond_true, wrap_id (by omega) (by omega), decide_eq_true (by omega), cond_true]
          unfold layF
          rw [firstQ_none (docQ l p) X 0 (fun i x hi => by unfold docQ; rw [decide_eq_true (by omega)]; rfl)]
        · have hd : l.fBase - p = ((l.fBase - p).toNat : Int) := by omega
          have hdl : (l.fBase - p).toNat ≤ X.length := by omega
          rw [if_neg h8, hd]
          rw [rng_top hdl, cond_true, subL_drop]
          have hw2 : IntKind.i64.wrap (p + ((l.fBase - p).toNat : Int)) = l.fBase := by rw [wrap_id] <;> omega
          have hw3 : IntKind.i64.wrap (l.fBase - l.fBase) = ((0 : Nat) : Int) := by rw [wrap_id] <;> omega
          rw [hw2, hw3, decide_eq_false (by omega), cond_false]
          obtain ⟨g, hg⟩ := match_loop l l.fBase (X.drop (l.fBase - p).toNat) 0 [] 0 ho (by rw [List.length_drop]; omega) ⟨by omega, by omega⟩ (by omega)
          have hg' : ci (st_ledger_Match_0 l.fBase (X.drop (l.fBase - p).toNat) ((0 : Nat) : Int) X ((X.drop (l.fBase - p).toNat).length : Int) l.fBase l.fBaseTerm l.fItems) 0 = _ := hg
          rw [hg']
          have hq : firstQ (docQ l p) 0 X = (firstQ (fun i x => otherQ l.fItems (0 + i) x) 0 (X.drop (l.fBase - p).toNat)).map ((l.fBase - p).toNat + ·) := by
            rw [firstQ_skip (docQ l p) (l.fBase - p).toNat X 0 hdl (fun i x hi => by unfold docQ; rw [decide_eq_true (by omega)]; rfl)]
            have := firstQ_shift (docQ l p) (l.fBase - p).toNat (X.drop (l.fBase - p).toNat) 0
            rw [show 0 + (l.fBase - p).toNat = (l.fBase - p).toNat + 0 by omega, this]
            congr 1
            exact firstQ_congr _ 0 (fun i x _ => by
              unfold docQ
              rw [decide_eq_false (by omega), cond_false, show (p + (((l.fBase - p).toNat + (0 + i) : Nat) : Int) - l.fBase).toNat = 0 + (0 + i) by omega])
          unfold layF
          rw [hq]
          cases firstQ (fun i x => otherQ l.fItems (0 + i) x) 0 (X.drop (l.fBase - p).toNat) with
          | none => rfl
          | some i =>
            simp only [Option.map_some, List.drop_drop]
            rw [show (p + (((l.fBase - p).toNat + i : Nat) : Int) - l.fBase).toNat = 0 + i by omega, show p + 1 + (((l.fBase - p).toNat + i : Nat) : Int) = l.fBase + i + 1 by omega]
            cases logB (laid l (0 + i) (X.drop ((l.fBase - p).toNat + i))) <;> rfl
theorem matchF_len (l : GLog) (p t : Int) (X : List GItem) (hl : l.fItems.length ≤ 1353245080300) : (matchF l p t X).1.fItems.length ≤ 140737488351232 := by
  unfold matchF layF
  cases logB l with
  | false => simp
  | true =>
    cases logB ⟨p, t, X⟩ with
    | false => simp
    | true =>
      cases (decide (l.fBase ≤ p) && !(termP l p == t)) with
      | true => simp; omega
      | false =>
        simp only [Bool.not_true, cond_false]
        cases firstQ (docQ l p) 0 X with
        | none => simp; omega
        | some i =>
          simp only
          cases hb : logB (laid l (p + i - l.fBase).toNat (X.drop i)) with
          | false => simp
          | true =>
            have := (log_ok hb).len
            simp only [cond_true]; omega
theorem LedgerMatches_pure (x0 : GLog) (x1 x2 : Int) (x3 : List GItem) (o0 : x0.ok) (o1 : okI x1) (o2 : okI x2) (o3 : okN 104 x3.length ∧ ∀ y ∈ x3, y.ok) : rostrumlaw_LedgerMatches x0 x1 x2 x3 = some true := by
  have h0 := o0.2.2.1
  have h3 := o3.1
  unfold okN at h0 h3
  have hc : rostrumref_LogCopy_z x0 = some x0 := copy_log x0 (fits_of (by omega))
  have hi : rostrumlaw_items_z x3 = some x3 := by
    unfold rostrumlaw_items_z
    rw [fits_of (by omega), cond_true]
  unfold rostrumlaw_LedgerMatches
  rw [hc, hi]
  simp only
  rw [match_p x0 x1 x2 x3 (by omega) (by omega), matched_p x0 x1 x2 x3 (by omega) (by omega)]
  have hl := matchF_len x0 x1 x2 x3 (by omega)
  generalize matchF x0 x1 x2 x3 = r at hl ⊢
  obtain ⟨a, b, n, e⟩ := r
  simp only at hl ⊢
  simp only [ck_rostrumlaw_LedgerMatches_k4, ck_rostrumlaw_LedgerMatches_k4_c0, beq_self_eq_true, cond_true]
  rw [sameLog_self a hl, sameLog_self x0 (by omega)]
  cases b <;> rfl
end Go.Proofs.Ytnjkmbogbfjffaa
