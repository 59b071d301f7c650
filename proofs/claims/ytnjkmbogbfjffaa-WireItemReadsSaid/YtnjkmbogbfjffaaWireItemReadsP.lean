/- The law WireItemReads on the plain functions: it answers true at every argument of the sizes that the form allows. -/
import Derived.Test.YtnjkmbogbfjffaaWTy
import Derived.Test.YtnjkmbogbfjffaaWireItemReadsD
set_option linter.unusedSimpArgs false
set_option linter.unusedVariables false
set_option linter.constructorNameAsVariable false
set_option linter.unnecessarySimpa false
namespace Go.Proofs.Ytnjkmbogbfjffaa
open Go Go.Mx Go.Proofs
/- Plain facts: numbers that do not go round, loops, lists of bytes. -/

theorem u8wrap (n : Int) : IntKind.u8.wrap n = n % 256 := by
  simp [IntKind.wrap, IntKind.min, IntKind.max, IntKind.bits, IntKind.signed]
theorem u64wrap {n : Int} (h1 : 0 ≤ n) (h2 : n < 18446744073709551616) : IntKind.u64.wrap n = n := by
  simp [IntKind.wrap, IntKind.min, IntKind.max, IntKind.bits, IntKind.signed]; omega
theorem fits_of {n b : Nat} (h : (n : Int) * b ≤ 140737488355328) : cH n b = true := fitsB_iff.2 h
theorem idx_get {α : Type} {l : List α} {i : Nat} {x : α} (h : l[i]? = some x) : idx l (i : Int) = some x := by
  unfold idx
  rw [if_pos (by omega)]
  simpa using h
theorem idx_app {α : Type} (l : List α) (x : α) (m : List α) : idx (l ++ x :: m) (l.length : Int) = some x := idx_get (by simp)
theorem seqB_self (a : ByteArray) : cJ a a = true := by unfold cJ; exact beq_self_eq_true _
theorem allB_app (l m : List Int) : allB (l ++ m) = (allB l && allB m) := by simp [allB]
theorem allB_byL (s : ByteArray) : allB (byL s) = true := by
  simp only [allB, byL, List.all_map, List.all_eq_true, Function.comp, decide_eq_true_eq]
  intro b _
  exact ⟨Int.natCast_nonneg _, by have := b.toNat_lt; omega⟩
theorem byL_len (s : ByteArray) : (byL s).length = s.size := by
  simp only [byL, List.length_map]; rfl
/-- The eight bytes of a number. -/
def num8 (n : Int) : List Int := [(n + 4611686018427387904) / 72057594037927936 % 256, (n + 4611686018427387904) / 281474976710656 % 256, (n + 4611686018427387904) / 1099511627776 % 256, (n + 4611686018427387904) / 4294967296 % 256, (n + 4611686018427387904) / 16777216 % 256, (n + 4611686018427387904) / 65536 % 256, (n + 4611686018427387904) / 256 % 256, (n + 4611686018427387904) % 256]
theorem num8_len (n : Int) : (num8 n).length = 8 := rfl
theorem allB_num8 (n : Int) : allB (num8 n) = true := by
  simp only [allB, num8, List.all_cons, List.all_nil, Bool.and_true, Bool.and_eq_true, decide_eq_true_eq]
  omega
/-- A number that eight bytes hold. -/
def in62 (n : Int) : Prop := -4611686018427387904 ≤ n ∧ n < 4611686018427387904
/-- A text behind its length. -/
def txt8 (s : ByteArray) : List Int := (s.size : Int) % 256 :: byL s
theorem allB_txt8 (s : ByteArray) : allB (txt8 s) = true := by
  have := allB_byL s
  simp only [allB, txt8, List.all_cons, Bool.and_eq_true, decide_eq_true_eq] at *
  exact ⟨by omega, this⟩
theorem txt8_len (s : ByteArray) : (txt8 s).length = s.size + 1 := by simp [txt8, byL_len]
/- Plain facts: loops that go through a list. -/

/-- A walk through a list: what is carried, or what comes out at once. -/
def run {α σ R : Type} (f : Nat → α → σ → σ ⊕ R) (e : σ → R) : Nat → List α → σ → R
  | _, [], s => e s
  | i, x :: l, s => match f i x s with
    | .inl s' => run f e (i + 1) l s'
    | .inr r => r
theorem loop_list {α σ τ R : Type} {step : τ → Option (τ ⊕ R)} (l : List α) (mk : Int → σ → τ) (I : Nat → σ → Prop) (f : Nat → α → σ → σ ⊕ R) (e : σ → R)
    (hs : ∀ i x s, l[i]? = some x → I i s → step (mk i s) = some (match f i x s with | .inl s' => .inl (mk ((i + 1 : Nat) : Int) s') | .inr r => .inr r))
    (hi : ∀ i x s s', l[i]? = some x → I i s → f i x s = .inl s' → I (i + 1) s')
    (he : ∀ (i : Nat) s, l.length ≤ i → I i s → step (mk i s) = some (.inr (e s))) (k : Nat) (s : σ) (h0 : I k s) : ci step (mk k s) = some (run f e k (l.drop k) s) := by
  generalize hm : l.drop k = m
  induction m generalizing k s with
  | nil =>
    have : l.length ≤ k := by
      have := congrArg List.length hm
      simp only [List.length_drop, List.length_nil] at this
      omega
    exact loopM_end (he k s this h0)
  | cons x m ih =>
    have hx : l[k]? = some x := by
      have := List.getElem?_drop (xs := l) (i := k) (j := 0)
      rw [hm] at this
      simpa using this.symm
    have hm' : l.drop (k + 1) = m := by
      have : l.drop (k + 1) = (l.drop k).drop 1 := by rw [List.drop_drop]
      rw [this, hm]; rfl
    have h1 := hs k x s hx h0
    simp only [run]
    cases hf : f k x s with
    | inl s' =>
      rw [hf] at h1
      rw [loopM_on h1]
      exact ih (k + 1) s' (hi k x s s' hx h0 hf) hm'
    | inr r =>
      rw [hf] at h1
      exact loopM_end h1
/-- All of a list, each with its place. -/
def allI {α : Type} (p : Nat → α → Bool) : Nat → List α → Bool
  | _, [] => true
  | k, x :: l => p k x && allI p (k + 1) l
theorem allI_and {α : Type} (p q : Nat → α → Bool) (k : Nat) (l : List α) : allI (fun i x => p i x && q i x) k l = (allI p k l && allI q k l) := by
  induction l generalizing k with
  | nil => rfl
  | cons x l ih =>
    simp only [allI, ih]
    cases p k x <;> cases q k x <;> simp
theorem allI_congr {α : Type} {p q : Nat → α → Bool} (k : Nat) (l m : List α) (hm : l = m.drop k) (h : ∀ i x, m[i]? = some x → k ≤ i → p i x = q i x) : allI p k l = allI q k l := by
  induction l generalizing k with
  | nil => rfl
  | cons x l ih =>
    have hx : m[k]? = some x := by
      have := List.getElem?_drop (xs := m) (i := k) (j := 0)
      rw [← hm] at this
      simpa using this.symm
    have hm' : l = m.drop (k + 1) := by
      have : m.drop (k + 1) = (m.drop k).drop 1 := by rw [List.drop_drop]
      rw [this, ← hm]; rfl
    simp only [allI]
    rw [h k x hx (Nat.le_refl _), ih (k + 1) hm' (fun i y hy hk => h i y hy (by omega))]
/-- A loop that ends early at what is not so. -/
theorem loop_all {α : Type} {step : Int → Option (Int ⊕ (Unit ⊕ Unit))} (l : List α) (k : Nat) (p : Nat → α → Bool)
    (hs : ∀ i x, l[i]? = some x → k ≤ i → step i = some (bif p i x then .inl ((i + 1 : Nat) : Int) else .inr (.inl ())))
    (he : ∀ i : Nat, l.length ≤ i → step i = some (.inr (.inr ()))) : ci step (k : Int) = some (bif allI p k (l.drop k) then .inr () else .inl ()) := by
  have h := loop_list (step := step) l (fun i (_ : Unit) => i) (fun i _ => k ≤ i) (fun i x _ => bif p i x then .inl () else .inr (.inl ())) (fun _ => .inr ()) (fun i x s hx hk => by
    rw [hs i x hx hk]; cases p i x <;> rfl) (fun i x s s' _ hk _ => Nat.le_succ_of_le hk) (fun i s hl _ => he i hl) k () (Nat.le_refl _)
  rw [h]
  congr 1
  have : ∀ (m : List α) (j : Nat), run (fun i x (_ : Unit) => bif p i x then .inl () else .inr (.inl ())) (fun _ => (.inr () : Unit ⊕ Unit)) j m () = bif allI p j m then .inr () else .inl () := by
    intro m
    induction m with
    | nil => intro j; rfl
    | cons x m ih =>
      intro j
      simp only [run, allI]
      cases p j x with
      | false => rfl
      | true => exact ih (j + 1)
  exact this _ _
/-- The first place at which it is so, or what stands for none. -/
def firstI {α : Type} (p : α → Bool) : Nat → List α → Option Nat
  | _, [] => none
  | k, x :: l => bif p x then some k else firstI p (k + 1) l
/-- A loop that ends early at what is so. -/
theorem loop_first {α τ R : Type} {step : τ → Option (τ ⊕ R)} (mk : Int → τ) (l : List α) (p : α → Bool) (y : Nat → R) (n : R)
    (hs : ∀ (i : Nat) x, l[i]? = some x → step (mk i) = some (bif p x then .inr (y i) else .inl (mk ((i + 1 : Nat) : Int))))
    (he : step (mk l.length) = some (.inr n)) : ci step (mk 0) = some (match firstI p 0 l with | some i => y i | none => n) := by
  have h := loop_list (step := step) l (fun i (_ : Unit) => mk i) (fun i _ => i ≤ l.length) (fun i x _ => bif p x then .inr (y i) else .inl ()) (fun _ => n) (fun i x s hx hk => by
    rw [hs i x hx]; cases p x <;> rfl) (fun i x s s' hx hk _ => by have := (List.getElem?_eq_some_iff.1 hx).1; omega) (fun i s hl hk => by rw [Nat.le_antisymm hk hl]; exact he) 0 () (Nat.zero_le _)
  refine h.trans ?_
  congr 1
  have : ∀ (m : List α) (j : Nat), run (fun i x (_ : Unit) => bif p x then .inr (y i) else .inl ()) (fun _ => n) j m () = match firstI p j m with | some i => y i | none => n := by
    intro m
    induction m with
    | nil => intro j; rfl
    | cons x m ih =>
      intro j
      simp only [run, firstI]
      cases p x with
      | true => rfl
      | false => exact ih (j + 1)
  exact this _ _
theorem first_any {α : Type} (p : α → Bool) (k : Nat) (l : List α) : (firstI p k l).isSome = l.any p := by
  induction l generalizing k with
  | nil => rfl
  | cons x l ih =>
    simp only [firstI, List.any_cons]
    cases p x with
    | true => rfl
    | false => simpa using ih (k + 1)
theorem allI_any {α : Type} (p : α → Bool) (k : Nat) (l : List α) : allI (fun _ x => !(p x)) k l = !(l.any p) := by
  induction l generalizing k with
  | nil => rfl
  | cons x l ih =>
    simp only [allI, List.any_cons, Bool.not_or, ih]
/-- A loop that copies. -/
theorem loop_copy {α τ R : Type} {step : τ → Option (τ ⊕ R)} (mk : Int → List α → τ) (l : List α) (e : List α → R)
    (hs : ∀ (i : Nat) x, l[i]? = some x → step (mk i (l.take i)) = some (.inl (mk ((i + 1 : Nat) : Int) (l.take i ++ [x]))))
    (he : step (mk l.length l) = some (.inr (e l))) : ci step (mk 0 []) = some (e l) := by
  have h := loop_list (step := step) l mk (fun i s => i ≤ l.length ∧ s = l.take i) (fun i x s => .inl (s ++ [x])) e (fun i x s hx hk => by
    rw [hk.2, hs i x hx]) (fun i x s s' hx hk hf => by
      have := (List.getElem?_eq_some_iff.1 hx)
      obtain ⟨h1, h2⟩ := this
      refine ⟨by omega, ?_⟩
      simp only [Sum.inl.injEq] at hf
      rw [← hf, hk.2, ← h2, List.take_append_getElem h1]) (fun i s hl hk => by
      have hil : i = l.length := by omega
      rw [hk.2, hil, List.take_length]; exact he) 0 [] ⟨Nat.zero_le _, by simp⟩
  refine h.trans ?_
  congr 1
  have : ∀ (m s : List α) (j : Nat), run (fun i x (s : List α) => (.inl (s ++ [x]) : List α ⊕ R)) e j m s = e (s ++ m) := by
    intro m
    induction m with
    | nil => intro s j; simp [run]
    | cons x m ih =>
      intro s j
      simp only [run]
      rw [ih]; simp
  rw [this]; simp
/-- Numbers that count a list's places. -/
theorem wrapN {n : Nat} (h : n ≤ 140737488355328) : IntKind.i64.wrap ((n : Int) + 1) = ((n + 1 : Nat) : Int) := by
  rw [wrap_id] <;> omega
theorem wrapN1 {n : Nat} (h : n ≤ 140737488355328) : IntKind.i64.wrap ((n : Int) - 1) = (n : Int) - 1 := by
  rw [wrap_id] <;> omega
theorem get_lt {α : Type} {l : List α} {i : Nat} {x : α} (h : l[i]? = some x) : i < l.length := (List.getElem?_eq_some_iff.1 h).1
theorem ltN {i n : Nat} (h : i < n) : decide ((i : Int) < (n : Int)) = true := decide_eq_true (by omega)
theorem geN {i n : Nat} (h : n ≤ i) : decide ((i : Int) < (n : Int)) = false := decide_eq_false (by omega)
/- What may be a command, a call, an item: the program and the document agree. -/

theorem fieldMay_eq (s : ByteArray) : rostrumref_fieldMay_v s = value_field_v s := rfl
theorem textMay_eq (s : ByteArray) : rostrumref_textMay_v s = value_text_v s := rfl
theorem countMay_eq (n : Int) : rostrumref_countMay_v n = value_count_v n := rfl
theorem numberMay_eq (n : Int) : rostrumref_numberMay_v n = client_number_v n := rfl
/-- What is wrong with a command, by its kind and eight answers. -/
def cmdK (q : Int) (et ef ek en k f x n : Bool) : Int :=
  bif !(decide (1 ≤ q) && decide (q ≤ 22)) then 3
  else bif (!(q == 1 || q == 4 || q == 7 || q == 8 || (decide (11 ≤ q) && decide (q ≤ 16))) && !et) || (!(decide (4 ≤ q) && decide (q ≤ 6)) && !ef) || (!(q == 3 || q == 14 || q == 20) && !en) || (q == 22 && !ek) then 8
  else bif (!(q == 22) && !k) || ((decide (4 ≤ q) && decide (q ≤ 6)) && !f) || !x then 1
  else bif !n then 2 else 0
noncomputable def cmdF (c : GCommand) : Int := cmdK c.fKind (cJ c.fText ByteArray.empty) (cJ c.fField ByteArray.empty) (cJ c.fKey ByteArray.empty) (c.fN == 0) (value_field_v c.fKey) (value_field_v c.fField) (value_text_v c.fText) (value_count_v c.fN)
theorem kinds {q : Int} (h : ¬ (q < 1 ∨ 22 < q)) : q = 1 ∨ q = 2 ∨ q = 3 ∨ q = 4 ∨ q = 5 ∨ q = 6 ∨ q = 7 ∨ q = 8 ∨ q = 9 ∨ q = 10 ∨ q = 11 ∨ q = 12 ∨ q = 13 ∨ q = 14 ∨ q = 15 ∨ q = 16 ∨ q = 17 ∨ q = 18 ∨ q = 19 ∨ q = 20 ∨ q = 21 ∨ q = 22 := by omega
theorem w0_p (c : GCommand) (q : Int) (k : ByteArray) (h : ¬ (q < 1 ∨ 22 < q)) : ck_value_CheckCommand_w0_v c q k = ⟨q, bif (q == 22) then ByteArray.empty else k, bif (decide (4 ≤ q) && decide (q ≤ 6)) then c.fField else ByteArray.empty, bif (q == 1 || q == 4 || q == 7 || q == 8 || (decide (11 ≤ q) && decide (q ≤ 16))) then c.fText else ByteArray.empty, bif (q == 3 || q == 14 || q == 20) then c.fN else 0⟩ := by
  rcases kinds h with rfl | rfl | rfl | rfl | rfl | rfl | rfl | rfl | rfl | rfl | rfl | rfl | rfl | rfl | rfl | rfl | rfl | rfl | rfl | rfl | rfl | rfl <;> rfl
theorem seqB_bif (a b : ByteArray) (c : Bool) : cJ a (bif c then a else b) = (c || cJ a b) := by
  cases c with
  | true => exact seqB_self a
  | false => rfl
theorem beq_bif (n : Int) (c : Bool) : (n == bif c then n else 0) = (c || (n == 0)) := by
  cases c with
  | true => exact beq_self_eq_true n
  | false => rfl
theorem seqB_bif' (a b : ByteArray) (c : Bool) : cJ a (bif c then b else a) = (!c || cJ a b) := by
  cases c with
  | false => exact seqB_self a
  | true => rfl
theorem command_p (c : GCommand) : value_CheckCommand_v c = cmdF c := by
  unfold value_CheckCommand_v value_CheckCommand_v_c0 cmdF
  by_cases h : c.fKind < 1 ∨ 22 < c.fKind
  · have e0 : (decide (1 ≤ c.fKind) && decide (c.fKind ≤ 22)) = false := by
      rw [Bool.and_eq_false_iff, decide_eq_false_iff_not, decide_eq_false_iff_not]; omega
    simp only [cmdK, e0, Bool.not_false, cond_true]
    rcases h with h | h
    · rw [decide_eq_true h]; rfl
    · cases decide (c.fKind < 1) <;> simp [decide_eq_true h]
  · rw [w0_p c _ _ h]
    simp only [seqB_bif, seqB_bif', beq_bif, beq_self_eq_true, ck_value_CheckCommand_k28_v, ck_value_CheckCommand_k28_v_c0]
    generalize cJ c.fText ByteArray.empty = et
    generalize cJ c.fField ByteArray.empty = ef
    generalize cJ c.fKey ByteArray.empty = ek
    generalize (c.fN == 0) = en
    generalize value_field_v c.fKey = k
    generalize value_field_v c.fField = f
    generalize value_text_v c.fText = x
    generalize value_count_v c.fN = n
    generalize c.fKind = q at h ⊢
    rcases kinds h with rfl | rfl | rfl | rfl | rfl | rfl | rfl | rfl | rfl | rfl | rfl | rfl | rfl | rfl | rfl | rfl | rfl | rfl | rfl | rfl | rfl | rfl <;> (revert et ef ek en k f x n; decide)
theorem command_r (c : GCommand) : rostrumref_CommandFault_v c = cmdF c := by
  simp only [rostrumref_CommandFault_v, ck_rostrumref_CommandFault_k3_v, ck_rostrumref_CommandFault_k5_v, ck_rostrumref_CommandFault_k7_v_c0, ck_rostrumref_CommandFault_k7_v_c1, ck_rostrumref_CommandFault_k7_v_c2, ck_rostrumref_CommandFault_k7_v, ck_rostrumref_CommandFault_k9_v, cmdF, fieldMay_eq, textMay_eq, countMay_eq]
  generalize cJ c.fText ByteArray.empty = et
  generalize cJ c.fField ByteArray.empty = ef
  generalize cJ c.fKey ByteArray.empty = ek
  generalize (c.fN == 0) = en
  generalize value_field_v c.fKey = k
  generalize value_field_v c.fField = f
  generalize value_text_v c.fText = x
  generalize value_count_v c.fN = n
  generalize c.fKind = q
  by_cases h : q < 1 ∨ 22 < q
  · have e : ∀ j : Int, 1 ≤ j → j ≤ 22 → (q == j) = false := fun j h1 h2 => by rw [beq_eq_false_iff_ne]; omega
    have e0 : (decide (1 ≤ q) && decide (q ≤ 22)) = false := by
      rw [Bool.and_eq_false_iff, decide_eq_false_iff_not, decide_eq_false_iff_not]; omega
    simp only [e 1 (by decide) (by decide), e 2 (by decide) (by decide), e 3 (by decide) (by decide), e 4 (by decide) (by decide), e 5 (by decide) (by decide), e 6 (by decide) (by decide), e 7 (by decide) (by decide), e 8 (by decide) (by decide), e 9 (by decide) (by decide), e 10 (by decide) (by decide), e 11 (by decide) (by decide), e 12 (by decide) (by decide), e 13 (by decide) (by decide), e 14 (by decide) (by decide), e 15 (by decide) (by decide), e 16 (by decide) (by decide), e 17 (by decide) (by decide), e 18 (by decide) (by decide), e 19 (by decide) (by decide), e 20 (by decide) (by decide), e 21 (by decide) (by decide), e 22 (by decide) (by decide), cond_false, cmdK, e0, Bool.not_false, cond_true]
    rcases h with h | h
    · simp [show ¬ 1 ≤ q by omega]
    · cases decide (1 ≤ q) <;> simp [show ¬ q ≤ 22 by omega]
  · rcases kinds h with rfl | rfl | rfl | rfl | rfl | rfl | rfl | rfl | rfl | rfl | rfl | rfl | rfl | rfl | rfl | rfl | rfl | rfl | rfl | rfl | rfl | rfl <;> (revert et ef ek en k f x n; decide)

theorem call_eq (c : GCall) : rostrumref_CallFault_v c = client_CheckCall_v c := by
  simp only [rostrumref_CallFault_v, rostrumref_CallFault_v_c0, client_CheckCall_v, client_CheckCall_v_c0, numberMay_eq, command_p, command_r]
theorem item_eq (x : GItem) : rostrumref_ItemFault_v x = wire_CheckItem_v x := by
  simp only [rostrumref_ItemFault_v, rostrumref_ItemFault_v_c0, wire_CheckItem_v, wire_CheckItem_v_c0, ck_wire_CheckItem_k1_v, call_eq, rostrumref_numberMay_v]
  by_cases h1 : x.fTerm < 1
  · simp [h1, show ¬ 1 ≤ x.fTerm by omega]
  · by_cases h2 : 1048576 < x.fTerm
    · simp [h1, h2, show ¬ x.fTerm ≤ 1048576 by omega]
    · by_cases h3 : x.fTime < 0
      · simp [h1, h2, h3, show ¬ 0 ≤ x.fTime by omega, show 1 ≤ x.fTerm by omega, show x.fTerm ≤ 1048576 by omega]
      · by_cases h4 : 1073741824 < x.fTime
        · simp [h1, h2, h3, h4, show 0 ≤ x.fTime by omega, show ¬ x.fTime ≤ 1073741824 by omega, show 1 ≤ x.fTerm by omega, show x.fTerm ≤ 1048576 by omega]
        · simp [h1, h2, h3, h4, show 0 ≤ x.fTime by omega, show x.fTime ≤ 1073741824 by omega, show 1 ≤ x.fTerm by omega, show x.fTerm ≤ 1048576 by omega]
/-- What a command that may be is. -/
structure CmdOk (c : GCommand) : Prop where
  kind : 1 ≤ c.fKind ∧ c.fKind ≤ 22
  key : (c.fKey.size : Int) ≤ 12
  field : (c.fField.size : Int) ≤ 12
  text : (c.fText.size : Int) ≤ 20
  num : -1099511627776 ≤ c.fN ∧ c.fN ≤ 1099511627776
theorem seqB_iff {a b : ByteArray} : cJ a b = true ↔ a = b := by
  unfold cJ
  rw [ByteArray.toList_eq, ByteArray.toList_eq]
  constructor
  · intro h
    have h1 : a.data.toList = b.data.toList := by simpa using h
    cases a; cases b
    simp only [ByteArray.mk.injEq]
    exact Array.ext' h1
  · rintro rfl; exact beq_self_eq_true _
theorem empty_size {s : ByteArray} (h : cJ s ByteArray.empty = true) : s.size = 0 := by
  rw [seqB_iff.1 h]; rfl
theorem bif0 {c : Bool} {a b : Int} (ha : a ≠ 0) (h : (bif c then a else b) = 0) : c = false ∧ b = 0 := by
  cases c with
  | true => exact absurd h ha
  | false => exact ⟨rfl, h⟩
theorem cmd_ok {c : GCommand} (h : cmdF c = 0) : CmdOk c := by
  unfold cmdF cmdK at h
  obtain ⟨h1, h⟩ := bif0 (by decide) h
  obtain ⟨h2, h⟩ := bif0 (by decide) h
  obtain ⟨h3, h⟩ := bif0 (by decide) h
  obtain ⟨h4, _⟩ := bif0 (by decide) h
  simp only [Bool.not_eq_false', Bool.and_eq_true, decide_eq_true_eq] at h1
  simp only [Bool.or_eq_false_iff, Bool.and_eq_false_iff, Bool.not_eq_false', decide_eq_false_iff_not] at h2 h3
  simp only [Bool.not_eq_false', value_count_v, Bool.and_eq_true, decide_eq_true_eq] at h4
  have hf : ∀ s : ByteArray, value_field_v s = true → (s.size : Int) ≤ 12 := by
    intro s hs
    simp only [value_field_v, Bool.and_eq_true, decide_eq_true_eq] at hs
    exact hs.2
  have he : ∀ s : ByteArray, cJ s ByteArray.empty = true → (s.size : Int) ≤ 12 := fun s hs => by rw [empty_size hs]; decide
  refine ⟨h1, ?_, ?_, ?_, h4⟩
  · rcases h3.1.1 with hk | hk
    · rcases h2.2 with h5 | h5
      · rw [hk] at h5; cases h5
      · exact he _ h5
    · exact hf _ hk
  · rcases h3.1.2 with hk | hk
    · rcases h2.1.1.2 with h5 | h5
      · simp only [Bool.and_eq_true, decide_eq_true_eq] at h5
        rcases hk with hk | hk
        · exact absurd h5.1 hk
        · exact absurd h5.2 hk
      · exact he _ h5
    · exact hf _ hk
  · have := h3.2
    simp only [value_text_v, decide_eq_true_eq] at this
    exact this
structure ItemOk (x : GItem) : Prop where
  term : 1 ≤ x.fTerm ∧ x.fTerm ≤ 1048576
  time : 0 ≤ x.fTime ∧ x.fTime ≤ 1073741824
  client : 0 ≤ x.fCall.fClient ∧ x.fCall.fClient ≤ 1048576
  seq : x.fNop = false → x.fCall.fClient ≠ 0 → 1 ≤ x.fCall.fSeq ∧ x.fCall.fSeq ≤ 1048576
  cmd : x.fNop = false → x.fCall.fClient ≠ 0 → CmdOk x.fCall.fCommand
theorem item_ok {x : GItem} (h : wire_CheckItem_v x = 0) : ItemOk x := by
  have q : ck_wire_CheckItem_k1_v x = (decide (x.fTerm < 1) || (decide (1048576 < x.fTerm) || (decide (x.fTime < 0) || decide (1073741824 < x.fTime)))) := by
    unfold ck_wire_CheckItem_k1_v
    simp only [Bool.cond_true_left]
  simp only [wire_CheckItem_v, wire_CheckItem_v_c0, client_CheckCall_v, client_CheckCall_v_c0, command_p] at h
  obtain ⟨h0, h⟩ := bif0 (by decide) h
  rw [q, Bool.or_eq_false_iff, Bool.or_eq_false_iff, Bool.or_eq_false_iff] at h0
  obtain ⟨h1, h2, h3, h4⟩ := h0
  simp only [decide_eq_false_iff_not] at h1 h2 h3 h4
  cases hn : x.fNop with
  | true =>
    rw [hn, cond_true] at h
    cases hc : (x.fCall.fClient == 0) with
    | false => rw [hc] at h; cases h
    | true =>
      have : x.fCall.fClient = 0 := by simpa using hc
      exact ⟨by omega, by omega, by omega, fun h => (by rw [hn] at h; cases h), fun h => (by rw [hn] at h; cases h)⟩
  | false =>
    rw [hn, cond_false] at h
    cases hc : (x.fCall.fClient == 0) with
    | true =>
      have : x.fCall.fClient = 0 := by simpa using hc
      exact ⟨by omega, by omega, by omega, fun _ h => absurd this h, fun _ h => absurd this h⟩
    | false =>
      rw [hc, cond_false] at h
      cases h5 : client_number_v x.fCall.fClient with
      | false => rw [h5] at h; cases h
      | true =>
        rw [h5, cond_true] at h
        cases h6 : client_number_v x.fCall.fSeq with
        | false => rw [h6] at h; cases h
        | true =>
          rw [h6, cond_true] at h
          simp only [client_number_v, Bool.and_eq_true, decide_eq_true_eq] at h5 h6
          exact ⟨by omega, by omega, by omega, fun _ _ => h6, fun _ _ => cmd_ok h⟩
/- Bytes read as items: the program's reader and the document's scan go the same way. -/

theorem i64wrap (n : Int) : IntKind.i64.wrap n = (n + 9223372036854775808) % 18446744073709551616 - 9223372036854775808 := by
  simp [IntKind.wrap, IntKind.min, IntKind.max, IntKind.bits, IntKind.signed]
  split <;> omega
theorem u64wrap' (n : Int) : IntKind.u64.wrap n = n % 18446744073709551616 := by
  simp [IntKind.wrap, IntKind.min, IntKind.max, IntKind.bits, IntKind.signed]
/-- All are bytes. -/
def bytesP (l : List Int) : Prop := ∀ y ∈ l, 0 ≤ y ∧ y < 256
/-- Bytes as a number, behind one that stands already. -/
def val (a : Int) : List Int → Int
  | [] => a
  | c :: l => val (a * 256 + c) l
theorem val_bound : ∀ (l : List Int) (a : Int) (m : Nat), bytesP l → 0 ≤ a → a < 256 ^ m → 0 ≤ val a l ∧ val a l < 256 ^ (m + l.length)
  | [], a, m, _, h1, h2 => ⟨h1, h2⟩
  | c :: l, a, m, hb, h1, h2 => by
    have hc := hb c (List.mem_cons_self ..)
    have := val_bound l (a * 256 + c) (m + 1) (fun y hy => hb y (List.mem_cons_of_mem _ hy)) (by omega) (by rw [Int.pow_succ]; omega)
    simp only [val, List.length_cons]
    rw [show m + (l.length + 1) = m + 1 + l.length by omega]
    exact this
theorem or_low (u c : Int) (h1 : 0 ≤ u) (h2 : u < 72057594037927936) (h3 : 0 ≤ c) (h4 : c < 256) : IntKind.u64.wrap (BitVec.ofInt IntKind.u64.bits (IntKind.u64.wrap (u * 2 ^ (min (8 : Int).toNat IntKind.u64.bits))) ||| BitVec.ofInt IntKind.u64.bits (IntKind.u64.wrap c)).toNat = u * 256 + c := by
  obtain ⟨a, rfl⟩ := Int.eq_ofNat_of_zero_le h1
  obtain ⟨b, rfl⟩ := Int.eq_ofNat_of_zero_le h3
  have e1 : (2 : Int) ^ (min (8 : Int).toNat IntKind.u64.bits) = 256 := by decide
  rw [e1]
  have e2 : IntKind.u64.wrap ((a : Int) * 256) = ((a * 256 : Nat) : Int) := by rw [u64wrap (by omega) (by omega)]; omega
  have e3 : IntKind.u64.wrap (b : Int) = (b : Int) := u64wrap (by omega) (by omega)
  rw [e2, e3]
  have e4 : (BitVec.ofInt IntKind.u64.bits ((a * 256 : Nat) : Int) ||| BitVec.ofInt IntKind.u64.bits (b : Int)).toNat = a * 256 + b := by
    show (BitVec.ofInt 64 ((a * 256 : Nat) : Int) ||| BitVec.ofInt 64 (b : Int)).toNat = a * 256 + b
    rw [BitVec.toNat_or, BitVec.ofInt_natCast, BitVec.ofInt_natCast, BitVec.toNat_ofNat, BitVec.toNat_ofNat, Nat.mod_eq_of_lt (by omega), Nat.mod_eq_of_lt (by omega)]
    have := Nat.shiftLeft_add_eq_or_of_lt (b := b) (i := 8) (by omega) a
    rw [Nat.shiftLeft_eq] at this
    exact this.symm
  rw [e4, u64wrap (by omega) (by omega)]
  omega
theorem num_loop (l : List Int) (r : Greader) (hl : l.length ≤ 8) (hb : bytesP l) : ∀ (suf pre : List Int) (u : Int), l = pre ++ suf → 0 ≤ u → u < 256 ^ pre.length → ci (st_wire_reader_number_0 l (l.length : Int) r) (u, (pre.length : Int)) = some (val u suf) := by
  intro suf
  induction suf with
  | nil =>
    intro pre u h _ _
    simp at h; subst h
    exact loopM_end (by simp only [st_wire_reader_number_0, geN (Nat.le_refl _), cond_false, val])
  | cons c suf ih =>
    intro pre u h h1 h2
    have hp : pre.length ≤ 7 := by rw [h] at hl; simp at hl; omega
    have hc := hb c (by rw [h]; simp)
    have hu : u < 72057594037927936 := by
      have h3 : ((256 ^ pre.length : Nat) : Int) ≤ ((72057594037927936 : Nat) : Int) := Int.ofNat_le.2 (Nat.le_trans (Nat.pow_le_pow_right (by decide) hp) (by decide))
      rw [Int.natCast_pow] at h3
      have e : ((256 : Nat) : Int) = 256 := rfl
      rw [e] at h3
      omega
    have hd : decide ((pre.length : Int) < (l.length : Int)) = true := decide_eq_true (by rw [h]; simp; omega)
    have hi : idx l (pre.length : Int) = some c := by rw [h]; exact idx_app _ _ _
    have hw : IntKind.i64.wrap ((pre.length : Int) + 1) = ((pre ++ [c]).length : Int) := by
      rw [List.length_append, List.length_singleton]; exact wrapN (by omega)
    rw [loopM_on (a' := (u * 256 + c, ((pre ++ [c]).length : Int)))]
    · exact ih (pre ++ [c]) (u * 256 + c) (by simp [h]) (by omega) (by rw [List.length_append, List.length_singleton, Int.pow_succ]; omega)
    · simp only [st_wire_reader_number_0, hd, cond_true, hi, hw, or_low u c h1 hu hc.1 hc.2]
theorem next_over (b : List Int) (a : Int) (h0 : 0 ≤ a) (h : (b.length : Int) ≤ a) (hK : a ≤ 4611686018427387904) : rostrumref_scan_next ⟨b, a⟩ = some (0, ⟨b, a + 1⟩) := by
  have hw : IntKind.i64.wrap (a + 1) = a + 1 := by rw [wrap_id] <;> omega
  unfold rostrumref_scan_next
  simp only [hw]
  rw [decide_eq_true (by omega), cond_true]
theorem next_in (b : List Int) (a : Nat) (c : Int) (hb : bytesP b) (h : b[a]? = some c) (hK : a ≤ 140737488355328) : rostrumref_scan_next ⟨b, (a : Int)⟩ = some (c, ⟨b, ((a + 1 : Nat) : Int)⟩) := by
  have hw : IntKind.i64.wrap ((a : Int) + 1) = ((a + 1 : Nat) : Int) := wrapN hK
  have hw2 : IntKind.i64.wrap (((a + 1 : Nat) : Int) - 1) = (a : Int) := by rw [wrap_id] <;> omega
  have hl := get_lt h
  have hc := hb c (List.mem_of_getElem? h)
  have hw3 : IntKind.i64.wrap c = c := by rw [wrap_id] <;> omega
  unfold rostrumref_scan_next
  simp only [hw, hw2]
  rw [decide_eq_false (by omega), cond_false, idx_get h]
  simp only [hw3]
theorem next_some (b : List Int) (a : Nat) (hb : bytesP b) (hK : a ≤ 140737488355328) : ∃ c, rostrumref_scan_next ⟨b, (a : Int)⟩ = some (c, ⟨b, ((a + 1 : Nat) : Int)⟩) ∧ 0 ≤ c ∧ c < 256 := by
  by_cases h : a < b.length
  · exact ⟨b[a], next_in b a _ hb (List.getElem?_eq_getElem h) hK, hb _ (List.getElem_mem h)⟩
  · refine ⟨0, ?_, by omega, by omega⟩
    rw [next_over b a (by omega) (by omega) (by omega)]
    simp
theorem long_some (b : List Int) (hb : bytesP b) : ∀ (k i : Nat) (n : Int) (a : Nat), i + k = 8 → a + k ≤ 140737488355328 → ∃ n', ci st_rostrumref_scan_long_0 (n, (i : Int), ⟨b, (a : Int)⟩) = some (n', ⟨b, ((a + k : Nat) : Int)⟩)
  | 0, i, n, a, hi, ha => ⟨n, loopM_end (by simp only [st_rostrumref_scan_long_0]; rw [decide_eq_false (by omega)]; rfl)⟩
  | k + 1, i, n, a, hi, ha => by
    obtain ⟨c, hc, _⟩ := next_some b a hb (by omega)
    have hw : IntKind.i64.wrap ((i : Int) + 1) = ((i + 1 : Nat) : Int) := wrapN (by omega)
    obtain ⟨n', h'⟩ := long_some b hb k (i + 1) (IntKind.i64.wrap (IntKind.i64.wrap (n * 256) + c)) (a + 1) (by omega) (by omega)
    refine ⟨n', ?_⟩
    rw [loopM_on (a' := (IntKind.i64.wrap (IntKind.i64.wrap (n * 256) + c), ((i + 1 : Nat) : Int), ⟨b, ((a + 1 : Nat) : Int)⟩))]
    · rw [h', show a + 1 + k = a + (k + 1) by omega]
    · simp only [st_rostrumref_scan_long_0, hc, hw]
      rw [decide_eq_true (by omega), cond_true]
theorem wrap_step (v c : Int) : IntKind.i64.wrap (IntKind.i64.wrap (IntKind.i64.wrap v * 256) + c) = IntKind.i64.wrap (v * 256 + c) := by
  simp only [i64wrap]; omega
theorem long_in (b : List Int) (hb : bytesP b) : ∀ (suf : List Int) (i : Nat) (v : Int) (a : Nat) (tl : List Int), i + suf.length = 8 → b.drop a = suf ++ tl → a + suf.length ≤ 140737488355328 → ci st_rostrumref_scan_long_0 (IntKind.i64.wrap v, (i : Int), ⟨b, (a : Int)⟩) = some (IntKind.i64.wrap (val v suf), ⟨b, ((a + suf.length : Nat) : Int)⟩)
  | [], i, v, a, tl, hi, hd, ha => loopM_end (by simp only [List.length_nil, Nat.add_zero] at hi; simp only [st_rostrumref_scan_long_0]; rw [decide_eq_false (by omega)]; rfl)
  | c :: suf, i, v, a, tl, hi, hd, ha => by
    simp only [List.length_cons] at hi
    have hx : b[a]? = some c := by
      have := List.getElem?_drop (xs := b) (i := a) (j := 0)
      rw [hd] at this
      simpa using this.symm
    have hd' : b.drop (a + 1) = suf ++ tl := by
      have : b.drop (a + 1) = (b.drop a).drop 1 := by rw [List.drop_drop]
      rw [this, hd]; rfl
    have hw : IntKind.i64.wrap ((i : Int) + 1) = ((i + 1 : Nat) : Int) := wrapN (by omega)
    have hn := next_in b a c hb hx (by omega)
    simp only [List.length_cons] at ha
    have h' := long_in b hb suf (i + 1) (v * 256 + c) (a + 1) tl (by omega) hd' (by omega)
    rw [loopM_on (a' := (IntKind.i64.wrap (v * 256 + c), ((i + 1 : Nat) : Int), ⟨b, ((a + 1 : Nat) : Int)⟩))]
    · rw [h', val, List.length_cons, show a + 1 + suf.length = a + (suf.length + 1) by omega]
    · simp only [st_rostrumref_scan_long_0, hn, hw, wrap_step]
      rw [decide_eq_true (by omega), cond_true]
/-- The reader and the scan stand at the same place of the bytes, or both are past the end. -/
structure Sim (b : List Int) (r : Greader) (s : Gscan) (K : Nat) : Prop where
  by_ : bytesP b
  fb : s.fb = b
  at_ : ∃ a : Nat, s.fat = a ∧ a ≤ K ∧ (r.fshort = false → a ≤ b.length ∧ r.frest = b.drop a) ∧ (r.fshort = true → b.length < a)
theorem take_short (n : Int) (r : Greader) (h : r.fshort = true) : wire_reader_take n r = some ([], ⟨r.frest, true⟩) := by
  unfold wire_reader_take; rw [h, cond_true]
theorem take_less (n : Int) (r : Greader) (h : r.fshort = false) (hn : (r.frest.length : Int) < n) : wire_reader_take n r = some ([], ⟨r.frest, true⟩) := by
  unfold wire_reader_take; rw [h, cond_false, decide_eq_true hn, cond_true]
theorem take_in (n : Nat) (r : Greader) (h : r.fshort = false) (hn : n ≤ r.frest.length) : wire_reader_take n r = some (r.frest.take n, ⟨r.frest.drop n, false⟩) := by
  have h1 : rngB 0 (n : Int) (r.frest.length : Int) = true := by unfold rngB; simp; omega
  have h2 : rngB (n : Int) (r.frest.length : Int) (r.frest.length : Int) = true := by unfold rngB; simp; omega
  unfold wire_reader_take
  rw [h, cond_false, decide_eq_false (by omega), cond_false, h1, cond_true, h2, cond_true]
  simp only [cI, Int.toNat_natCast, Int.toNat_zero, List.drop_zero, List.take_length]
theorem bytes_drop {b : List Int} (h : bytesP b) (n : Nat) : bytesP (b.drop n) := fun y hy => h y (List.mem_of_mem_drop hy)
theorem bytes_take {b : List Int} (h : bytesP b) (n : Nat) : bytesP (b.take n) := fun y hy => h y (List.mem_of_mem_take hy)
theorem number_sim {b : List Int} {r : Greader} {s : Gscan} {K : Nat} (h : Sim b r s K) (hK : K ≤ 1000000000) : ∃ v v' r' s', wire_reader_number r = some (v, r') ∧ rostrumref_scan_long s = some (v', s') ∧ Sim b r' s' (K + 8) ∧ (r.fshort = true → r'.fshort = true) ∧ (r'.fshort = false → v = v') := by
  obtain ⟨hb, rfl, a, ha, hk, hok, hsh⟩ := h
  obtain ⟨b, at_⟩ := s
  simp only at ha hb hok hsh ⊢
  subst ha
  obtain ⟨n', hl⟩ := long_some b hb 8 0 0 a rfl (by omega)
  have e0 : ((0 : Nat) : Int) = 0 := rfl
  rw [e0] at hl
  have hlong : rostrumref_scan_long ⟨b, (a : Int)⟩ = some (IntKind.i64.wrap (n' - 4611686018427387904), ⟨b, ((a + 8 : Nat) : Int)⟩) := by
    unfold rostrumref_scan_long; rw [hl]
  have hshort : ∀ r' : Greader, wire_reader_take 8 r = some ([], r') → wire_reader_number r = some (IntKind.i64.wrap (IntKind.u64.wrap (0 - 4611686018427387904)), r') := by
    intro r' ht
    unfold wire_reader_number
    rw [ht]
    simp only
    have := num_loop [] r' (by simp) (fun y hy => by cases hy) [] [] 0 rfl (by omega) (by simp)
    rw [show (0 : Int) = (([] : List Int).length : Int) from rfl] at this ⊢
    rw [this]
    rfl
  cases hs : r.fshort with
  | true =>
    refine ⟨_, _, _, _, hshort _ (take_short 8 r hs), hlong, ⟨hb, rfl, a + 8, rfl, by omega, fun h => (by cases h), fun _ => ?_⟩, fun _ => rfl, fun h => by cases h⟩
    have := hsh hs
    omega
  | false =>
    obtain ⟨h1, h2⟩ := hok hs
    by_cases hlen : 8 ≤ r.frest.length
    · have hr : r.frest.length = b.length - a := by rw [h2, List.length_drop]
      have ht : wire_reader_take 8 r = _ := take_in 8 r hs hlen
      have h8 : (r.frest.take 8).length = 8 := by rw [List.length_take]; omega
      have hby : bytesP (r.frest.take 8) := by rw [h2]; exact bytes_take (bytes_drop hb a) 8
      have hn := num_loop (r.frest.take 8) ⟨r.frest.drop 8, false⟩ (by omega) hby (r.frest.take 8) [] 0 rfl (by omega) (by simp)
      have hv := val_bound (r.frest.take 8) 0 0 hby (by omega) (by simp)
      have hin := long_in b hb (r.frest.take 8) 0 0 a (r.frest.drop 8) (by omega) (by rw [← h2, List.take_append_drop]) (by omega)
      rw [h8] at hin
      have e1 : IntKind.i64.wrap 0 = 0 := by decide
      rw [e1, e0] at hin
      have hlong' : rostrumref_scan_long ⟨b, (a : Int)⟩ = some (IntKind.i64.wrap (IntKind.i64.wrap (val 0 (r.frest.take 8)) - 4611686018427387904), ⟨b, ((a + 8 : Nat) : Int)⟩) := by
        unfold rostrumref_scan_long; rw [hin]
      have hnum : wire_reader_number r = some (IntKind.i64.wrap (IntKind.u64.wrap (val 0 (r.frest.take 8) - 4611686018427387904)), ⟨r.frest.drop 8, false⟩) := by
        unfold wire_reader_number
        rw [ht]
        simp only
        rw [List.length_nil, e0] at hn
        rw [hn]
      refine ⟨_, _, _, _, hnum, hlong', ⟨hb, rfl, a + 8, rfl, by omega, fun _ => ⟨by omega, by rw [h2, List.drop_drop]⟩, fun h => by cases h⟩, fun h => (by cases h), fun _ => ?_⟩
      generalize val 0 (r.frest.take 8) = q
      simp only [i64wrap, u64wrap']
      omega
    · refine ⟨_, _, _, _, hshort _ (take_less 8 r hs (by omega)), hlong, ⟨hb, rfl, a + 8, rfl, by omega, fun h => (by cases h), fun _ => ?_⟩, fun _ => rfl, fun h => by cases h⟩
      have : r.frest.length = b.length - a := by rw [h2, List.length_drop]
      omega
theorem small_sim {b : List Int} {r : Greader} {s : Gscan} {K : Nat} (h : Sim b r s K) (hK : K ≤ 1000000000) : ∃ v r' s', wire_reader_small r = some (v, r') ∧ rostrumref_scan_next s = some (v, s') ∧ 0 ≤ v ∧ v < 256 ∧ Sim b r' s' (K + 1) ∧ (r.fshort = true → r'.fshort = true) ∧ (r'.fshort = true → v = 0) := by
  obtain ⟨hb, rfl, a, ha, hk, hok, hsh⟩ := h
  obtain ⟨b, at_⟩ := s
  simp only at ha hb hok hsh ⊢
  subst ha
  have hshort : ∀ r' : Greader, wire_reader_take 1 r = some ([], r') → wire_reader_small r = some (0, r') := by
    intro r' ht
    unfold wire_reader_small
    rw [ht]
    simp only
    rw [loopM_end (b := .inr ()) (by simp [st_wire_reader_small_0])]
  cases hs : r.fshort with
  | true =>
    have hl := hsh hs
    refine ⟨0, _, _, hshort _ (take_short 1 r hs), next_over b a (by omega) (by omega) (by omega), by omega, by omega, ⟨hb, rfl, a + 1, by simp, by omega, fun h => (by cases h), fun _ => ?_⟩, fun _ => rfl, fun _ => rfl⟩
    omega
  | false =>
    obtain ⟨h1, h2⟩ := hok hs
    have hr : r.frest.length = b.length - a := by rw [h2, List.length_drop]
    by_cases hlen : 1 ≤ r.frest.length
    · have hx : b[a]? = some b[a] := List.getElem?_eq_getElem (by omega)
      have hc := hb _ (List.mem_of_getElem? hx)
      have ht : wire_reader_take 1 r = _ := take_in 1 r hs hlen
      have htk : r.frest.take 1 = [b[a]] := by
        rw [h2, List.drop_eq_getElem_cons (by omega)]; rfl
      rw [htk] at ht
      have hsm : wire_reader_small r = some (b[a], ⟨r.frest.drop 1, false⟩) := by
        unfold wire_reader_small
        rw [ht]
        simp only
        rw [loopM_end (b := .inl b[a]) (by
          have : IntKind.i64.wrap b[a] = b[a] := by rw [wrap_id] <;> omega
          simp [st_wire_reader_small_0, idx, this])]
      refine ⟨b[a], _, _, hsm, next_in b a _ hb hx (by omega), hc.1, hc.2, ⟨hb, rfl, a + 1, rfl, by omega, fun _ => ⟨by omega, by rw [h2, List.drop_drop]⟩, fun h => (by cases h)⟩, fun h => (by cases h), fun h => (by cases h)⟩
    · refine ⟨0, _, _, hshort _ (take_less 1 r hs (by omega)), next_over b a (by omega) (by omega) (by omega), by omega, by omega, ⟨hb, rfl, a + 1, by simp, by omega, fun h => (by cases h), fun _ => ?_⟩, fun _ => rfl, fun _ => rfl⟩
      omega
theorem str_in (b : List Int) (hb : bytesP b) (n : Nat) (hn : n ≤ 256) : ∀ (suf acc : List Int) (i a : Nat) (tl : List Int), i + suf.length = n → b.drop a = suf ++ tl → acc.length ≤ i → a + suf.length ≤ 140737488355328 → ci (st_rostrumref_scan_str_0 (n : Int)) (acc, (i : Int), ⟨b, (a : Int)⟩) = some (acc ++ suf, ⟨b, ((a + suf.length : Nat) : Int)⟩)
  | [], acc, i, a, tl, hi, hd, hl, ha => loopM_end (by
    simp only [List.length_nil, Nat.add_zero] at hi
    subst hi
    simp only [st_rostrumref_scan_str_0, geN (Nat.le_refl _), cond_false, List.append_nil]; rfl)
  | c :: suf, acc, i, a, tl, hi, hd, hl, ha => by
    simp only [List.length_cons] at hi ha
    have hx : b[a]? = some c := by
      have := List.getElem?_drop (xs := b) (i := a) (j := 0)
      rw [hd] at this
      simpa using this.symm
    have hd' : b.drop (a + 1) = suf ++ tl := by
      have : b.drop (a + 1) = (b.drop a).drop 1 := by rw [List.drop_drop]
      rw [this, hd]; rfl
    have hc := hb c (List.mem_of_getElem? hx)
    have hal := get_lt hx
    have hw : IntKind.i64.wrap ((i : Int) + 1) = ((i + 1 : Nat) : Int) := wrapN (by omega)
    have hnx := next_in b a c hb hx (by omega)
    have hf : cH (acc.length + 1) 1 = true := fits_of (by omega)
    have hu : IntKind.u8.wrap c = c := by rw [u8wrap]; omega
    have h' := str_in b hb n hn suf (acc ++ [c]) (i + 1) (a + 1) tl (by omega) hd' (by simp; omega) (by omega)
    rw [loopM_on (a' := (acc ++ [c], ((i + 1 : Nat) : Int), ⟨b, ((a + 1 : Nat) : Int)⟩))]
    · rw [h', List.length_cons, show a + 1 + suf.length = a + (suf.length + 1) by omega]; simp
    · simp only [st_rostrumref_scan_str_0, rostrumref_scan_over, hnx, hw, hf, hu, cond_true]
      rw [decide_eq_true (show (i : Int) < (n : Int) by omega), cond_true, decide_eq_false (show ¬ (b.length : Int) < (a : Int) by omega), cond_false]
theorem str_out (b : List Int) (hb : bytesP b) (n : Nat) (hn : n ≤ 256) : ∀ (rest acc : List Int) (i a : Nat), b.drop a = rest → a ≤ b.length → i + rest.length < n → acc.length ≤ i → allB acc = true → b.length ≤ 140737488351232 → ∃ l, ci (st_rostrumref_scan_str_0 (n : Int)) (acc, (i : Int), ⟨b, (a : Int)⟩) = some (l, ⟨b, ((b.length + 1 : Nat) : Int)⟩) ∧ allB l = true
  | [], acc, i, a, hd, ha, hi, hl, hA, hB => by
    have hal : a = b.length := by
      have := congrArg List.length hd
      simp only [List.length_drop, List.length_nil] at this; omega
    subst hal
    have hw : IntKind.i64.wrap ((i : Int) + 1) = ((i + 1 : Nat) : Int) := wrapN (by simp at hi; omega)
    have hnx := next_over b (b.length : Int) (by omega) (by omega) (by omega)
    simp only [List.length_nil, Nat.add_zero] at hi
    have hf : cH (acc.length + 1) 1 = true := fits_of (by omega)
    refine ⟨acc ++ [0], ?_, by rw [allB_app, hA]; rfl⟩
    rw [loopM_on (a' := (acc ++ [0], ((i + 1 : Nat) : Int), ⟨b, ((b.length + 1 : Nat) : Int)⟩))]
    · refine loopM_end ?_
      simp only [st_rostrumref_scan_str_0, rostrumref_scan_over]
      cases decide (((i + 1 : Nat) : Int) < (n : Int)) with
      | false => rfl
      | true => rw [cond_true, decide_eq_true (by omega)]; rfl
    · have hu : IntKind.u8.wrap 0 = 0 := by rw [u8wrap]; rfl
      simp only [st_rostrumref_scan_str_0, rostrumref_scan_over, hnx, hw, hf, hu, cond_true]
      rw [decide_eq_true (show (i : Int) < (n : Int) by omega), cond_true, decide_eq_false (by omega), cond_false]
      rfl
  | c :: rest, acc, i, a, hd, ha, hi, hl, hA, hB => by
    simp only [List.length_cons] at hi
    have hx : b[a]? = some c := by
      have := List.getElem?_drop (xs := b) (i := a) (j := 0)
      rw [hd] at this
      simpa using this.symm
    have hd' : b.drop (a + 1) = rest := by
      have : b.drop (a + 1) = (b.drop a).drop 1 := by rw [List.drop_drop]
      rw [this, hd]; rfl
    have hc := hb c (List.mem_of_getElem? hx)
    have hal := get_lt hx
    have hw : IntKind.i64.wrap ((i : Int) + 1) = ((i + 1 : Nat) : Int) := wrapN (by omega)
    have hnx := next_in b a c hb hx (by omega)
    have hf : cH (acc.length + 1) 1 = true := fits_of (by omega)
    have hu : IntKind.u8.wrap c = c := by rw [u8wrap]; omega
    obtain ⟨l, h', hl'⟩ := str_out b hb n hn rest (acc ++ [c]) (i + 1) (a + 1) hd' (by omega) (by omega) (by simp; omega) (by
      rw [allB_app, hA]
      simp only [allB, List.all_cons, List.all_nil, Bool.and_true, Bool.true_and, decide_eq_true_eq]; omega) hB
    refine ⟨l, ?_, hl'⟩
    rw [loopM_on (a' := (acc ++ [c], ((i + 1 : Nat) : Int), ⟨b, ((a + 1 : Nat) : Int)⟩))]
    · exact h'
    · simp only [st_rostrumref_scan_str_0, rostrumref_scan_over, hnx, hw, hf, hu, cond_true]
      rw [decide_eq_true (show (i : Int) < (n : Int) by omega), cond_true, decide_eq_false (show ¬ (b.length : Int) < (a : Int) by omega), cond_false]
theorem allB_bytes {l : List Int} (h : bytesP l) : allB l = true := by
  simp only [allB, List.all_eq_true, decide_eq_true_eq]
  exact h
theorem text_sim {b : List Int} {r : Greader} {s : Gscan} {K : Nat} (h : Sim b r s K) (hK : K ≤ 1000000000) (hB : b.length ≤ 1000000) : ∃ v v' r' s', wire_reader_text r = some (v, r') ∧ rostrumref_scan_str s = some (v', s') ∧ Sim b r' s' (K + 1000000 + 300) ∧ (r.fshort = true → r'.fshort = true) ∧ (r'.fshort = false → v = v') := by
  obtain ⟨v, r1, s1, e1, e2, hv0, hv1, h1, hm, hz⟩ := small_sim h hK
  obtain ⟨hb, rfl, a, ha, hk, hok, hsh⟩ := h1
  obtain ⟨b, at_⟩ := s1
  simp only at ha hb hok hsh hB ⊢
  subst ha
  obtain ⟨n, rfl⟩ := Int.eq_ofNat_of_zero_le hv0
  have hn : n ≤ 256 := by omega
  have hA0 : allB [] = true := rfl
  have prog : ∀ l r', wire_reader_take (n : Int) r1 = some (l, r') → allB l = true → wire_reader_text r = some (strL l, r') := by
    intro l r' ht hl
    unfold wire_reader_text
    rw [e1]; simp only
    rw [ht]; simp only [hl, cond_true]
  have doc : ∀ l s', ci (st_rostrumref_scan_str_0 (n : Int)) ([], 0, ⟨b, (a : Int)⟩) = some (l, s') → allB l = true → rostrumref_scan_str s = some (strL l, s') := by
    intro l r' ht hl
    unfold rostrumref_scan_str
    rw [e2]; simp only
    rw [ht]; simp only [hl, cond_true]
  have e0 : ((0 : Nat) : Int) = 0 := rfl
  cases hs : r1.fshort with
  | true =>
    have hn0 : n = 0 := by have := hz hs; omega
    subst hn0
    have hd := str_in b hb 0 (by omega) [] [] 0 a (b.drop a) rfl rfl (by simp) (by simp; omega)
    rw [e0] at hd
    refine ⟨_, _, _, _, prog _ _ (take_short _ r1 hs) hA0, doc _ _ hd hA0, ⟨hb, rfl, a, by simp, by omega, fun h => (by cases h), fun _ => hsh hs⟩, fun _ => rfl, fun h => (by cases h)⟩
  | false =>
    obtain ⟨h1, h2⟩ := hok hs
    have hr : r1.frest.length = b.length - a := by rw [h2, List.length_drop]
    by_cases hlen : n ≤ r1.frest.length
    · have hby : bytesP (r1.frest.take n) := by rw [h2]; exact bytes_take (bytes_drop hb a) n
      have htl : (r1.frest.take n).length = n := by rw [List.length_take]; omega
      have hd := str_in b hb n hn (r1.frest.take n) [] 0 a (r1.frest.drop n) (by omega) (by rw [← h2, List.take_append_drop]) (by simp) (by omega)
      rw [e0, List.nil_append, htl] at hd
      refine ⟨_, _, _, _, prog _ _ (take_in n r1 hs hlen) (allB_bytes hby), doc _ _ hd (allB_bytes hby), ⟨hb, rfl, a + n, rfl, by omega, fun _ => ⟨by omega, by rw [h2, List.drop_drop]⟩, fun h => (by cases h)⟩, fun h => (by rw [hm h] at hs; cases hs), fun _ => rfl⟩
    · obtain ⟨l, hd, hl⟩ := str_out b hb n hn r1.frest [] 0 a h2.symm h1 (by omega) (by simp) rfl (by omega)
      rw [e0] at hd
      refine ⟨_, _, _, _, prog _ _ (take_less (n : Int) r1 hs (by omega)) hA0, doc _ _ hd hl, ⟨hb, rfl, b.length + 1, rfl, by omega, fun h => (by cases h), fun _ => (by omega)⟩, fun _ => rfl, fun h => (by cases h)⟩
theorem Sim.mono {b : List Int} {r : Greader} {s : Gscan} {K M : Nat} (h : Sim b r s K) (hM : K ≤ M) : Sim b r s M := by
  obtain ⟨hb, hf, a, ha, hk, hok, hsh⟩ := h
  exact ⟨hb, hf, a, ha, by omega, hok, hsh⟩
theorem not_short {r r' : Greader} (h : r.fshort = true → r'.fshort = true) (h' : r'.fshort = false) : r.fshort = false := by
  cases hr : r.fshort with
  | false => rfl
  | true => rw [h hr] at h'; cases h'
/-- A command read by both. -/
theorem command_sim {b : List Int} {r : Greader} {s : Gscan} {K : Nat} (h : Sim b r s K) (hK : K ≤ 100000000) (hB : b.length ≤ 1000000) : ∃ c r' s' k t1 t2 t3 n s1 s2 s3 s4, wire_reader_command r = some (c, r') ∧ rostrumref_scan_next s = some (k, s1) ∧ rostrumref_scan_str s1 = some (t1, s2) ∧ rostrumref_scan_str s2 = some (t2, s3) ∧ rostrumref_scan_str s3 = some (t3, s4) ∧ rostrumref_scan_long s4 = some (n, s') ∧ Sim b r' s' (K + 4000000) ∧ (r.fshort = true → r'.fshort = true) ∧ (r'.fshort = false → c = ⟨k, t1, t2, t3, n⟩) := by
  obtain ⟨k, r1, s1, p1, d1, _, _, q1, m1, _⟩ := small_sim h (by omega)
  obtain ⟨t1, t1', r2, s2, p2, d2, q2, m2, v2⟩ := text_sim q1 (by omega) hB
  obtain ⟨t2, t2', r3, s3, p3, d3, q3, m3, v3⟩ := text_sim q2 (by omega) hB
  obtain ⟨t3, t3', r4, s4, p4, d4, q4, m4, v4⟩ := text_sim q3 (by omega) hB
  obtain ⟨n, n', r5, s5, p5, d5, q5, m5, v5⟩ := number_sim q4 (by omega)
  refine ⟨⟨k, t1, t2, t3, n⟩, r5, s5, k, t1', t2', t3', n', s1, s2, s3, s4, ?_, d1, d2, d3, d4, d5, q5.mono (by omega), fun h => m5 (m4 (m3 (m2 (m1 h)))), fun h => ?_⟩
  · unfold wire_reader_command
    simp only [p1, p2, p3, p4, p5]
  · have h4 := not_short m5 h
    have h3 := not_short m4 h4
    have h2 := not_short m3 h3
    rw [v2 h2, v3 h3, v4 h4, v5 h]
theorem dummy_s {r : Greader} (h : r.fshort = true) : Sim [] r ⟨[], ((1 : Nat) : Int)⟩ 1 := ⟨fun y hy => (by cases hy), rfl, 1, rfl, by omega, fun h' => (by rw [h] at h'; cases h'), fun _ => (by decide)⟩
theorem dummy_r {b : List Int} {r : Greader} {s : Gscan} {K : Nat} (h : Sim b r s K) (hs : r.fshort = true) : Sim b ⟨[], true⟩ s K := by
  obtain ⟨hb, hf, a, ha, hk, hok, hsh⟩ := h
  exact ⟨hb, hf, a, ha, hk, fun h => (by cases h), fun _ => hsh hs⟩
/-- The rest of a call behind its client's number. -/
theorem rest_sim {b : List Int} {r : Greader} {s : Gscan} {K : Nat} (h : Sim b r s K) (hK : K ≤ 90000000) (hB : b.length ≤ 1000000) (q : Int) : ∃ c r' s' sq s0 k t1 t2 t3 n s1 s2 s3 s4, ck_wire_reader_call_q9 true r q = some (r', c) ∧ rostrumref_scan_long s = some (sq, s0) ∧ rostrumref_scan_next s0 = some (k, s1) ∧ rostrumref_scan_str s1 = some (t1, s2) ∧ rostrumref_scan_str s2 = some (t2, s3) ∧ rostrumref_scan_str s3 = some (t3, s4) ∧ rostrumref_scan_long s4 = some (n, s') ∧ Sim b r' s' (K + 5000000) ∧ (r.fshort = true → r'.fshort = true) ∧ (r'.fshort = false → c = ⟨q, sq, ⟨k, t1, t2, t3, n⟩⟩) := by
  obtain ⟨sq, sq', r1, s0, p1, d1, q1, m1, v1⟩ := number_sim h (by omega)
  obtain ⟨c, r', s', k, t1, t2, t3, n, s1, s2, s3, s4, p2, d2, d3, d4, d5, d6, q2, m2, v2⟩ := command_sim q1 (by omega) hB
  refine ⟨⟨q, sq, c⟩, r', s', sq', s0, k, t1, t2, t3, n, s1, s2, s3, s4, ?_, d1, d2, d3, d4, d5, d6, q2.mono (by omega), fun h => m2 (m1 h), fun h => ?_⟩
  · unfold ck_wire_reader_call_q9
    simp only [cond_true, p1, p2]
  · rw [v2 h, v1 (not_short m2 h)]
/-- An item read by both. -/
theorem item_sim {b : List Int} {r : Greader} {s : Gscan} {K : Nat} (h : Sim b r s K) (hK : K ≤ 80000000) (hB : b.length ≤ 1000000) : ∃ x ok r' x' ok' s', wire_reader_item r = some (x, ok, r') ∧ rostrumref_scan_itemNext s = some (x', ok', s') ∧ Sim b r' s' (K + 6000000) ∧ (r'.fshort = false → x = x' ∧ ok = ok') := by
  obtain ⟨t, t', r1, s1, p1, d1, q1, m1, v1⟩ := number_sim h (by omega)
  obtain ⟨u, u', r2, s2, p2, d2, q2, m2, v2⟩ := number_sim q1 (by omega)
  obtain ⟨k, r3, s3, p3, d3, _, _, q3, m3, _⟩ := small_sim q2 (by omega)
  have back : r3.fshort = false → t = t' ∧ u = u' := fun h3 => ⟨v1 (not_short m2 (not_short m3 h3)), v2 (not_short m3 h3)⟩
  unfold wire_reader_item rostrumref_scan_itemNext
  simp only [p1, p2, p3, d1, d2, d3]
  by_cases hk0 : k = 0
  · subst hk0
    simp only [beq_self_eq_true, cond_true, wire_reader_call, rostrumref_scan_itemNext_c0]
    obtain ⟨c, c', r4, s4, p4, d4, q4, m4, v4⟩ := number_sim q3 (by omega)
    simp only [p4, d4]
    have e01 : ((0 : Int) == 1) = false := rfl
    simp only [e01, ck_rostrumref_scan_itemNext_q16_v, cond_false]
    cases h4 : r4.fshort with
    | false =>
      obtain rfl := v4 h4
      cases hc : (c == 0) with
      | true =>
        simp only [Bool.not_true, ck_wire_reader_call_q9, cond_false, cond_true]
        refine ⟨_, _, _, _, _, _, rfl, rfl, q4.mono (by omega), fun h => ?_⟩
        obtain ⟨rfl, rfl⟩ := back (not_short m4 h)
        exact ⟨rfl, rfl⟩
      | false =>
        obtain ⟨cc, r5, s5, sq, s0, kk, t1, t2, t3, n, z1, z2, z3, z4, p5, e1, e2, e3, e4, e5, e6, q5, m5, v5⟩ := rest_sim q4 (by omega) hB c
        simp only [Bool.not_false, p5, cond_false, e1, e2, e3, e4, e5, e6]
        refine ⟨_, _, _, _, _, _, rfl, rfl, q5.mono (by omega), fun h => ?_⟩
        obtain ⟨rfl, rfl⟩ := back (not_short m4 (not_short m5 h))
        rw [v5 h]
        exact ⟨rfl, rfl⟩
    | true =>
      -- both are past the end: what is read is of no matter
      have prog : ∃ g r', ck_wire_reader_call_q9 (!(c == 0)) r4 c = some (r', g) ∧ r'.fshort = true := by
        cases (c == 0) with
        | true => exact ⟨_, _, rfl, h4⟩
        | false =>
          obtain ⟨g, r', _, _, _, _, _, _, _, _, _, _, _, _, p, _, _, _, _, _, _, _, m, _⟩ := rest_sim (dummy_s h4) (by omega) (by simp) c
          exact ⟨g, r', p, m h4⟩
      obtain ⟨g, r', pe, hr'⟩ := prog
      simp only [pe]
      have hd := dummy_r q4 h4
      cases (c' == 0) with
      | true =>
        simp only [cond_true]
        refine ⟨_, _, _, _, _, _, rfl, rfl, ?_, fun h => (by rw [hr'] at h; cases h)⟩
        obtain ⟨hb, hf, a, ha, hk, hok, hsh⟩ := hd
        exact ⟨hb, hf, a, ha, by omega, fun h => (by rw [hr'] at h; cases h), fun _ => hsh rfl⟩
      | false =>
        obtain ⟨_, r5, s5, sq, s0, kk, t1, t2, t3, n, z1, z2, z3, z4, _, e1, e2, e3, e4, e5, e6, q5, m5, _⟩ := rest_sim hd (by omega) hB c
        simp only [cond_false, e1, e2, e3, e4, e5, e6]
        refine ⟨_, _, _, _, _, _, rfl, rfl, ?_, fun h => (by rw [hr'] at h; cases h)⟩
        obtain ⟨hb, hf, a, ha, hk, hok, hsh⟩ := q5
        exact ⟨hb, hf, a, ha, by omega, fun h => (by rw [hr'] at h; cases h), fun _ => hsh (m5 rfl)⟩
  · have e : (k == 0) = false := by simpa using hk0
    simp only [e, cond_false]
    by_cases hk1 : k = 1
    · subst hk1
      simp only [beq_self_eq_true, cond_true, ck_rostrumref_scan_itemNext_q16_v]
      refine ⟨_, _, _, _, _, _, rfl, rfl, q3.mono (by omega), fun h => ?_⟩
      obtain ⟨rfl, rfl⟩ := back h
      exact ⟨rfl, rfl⟩
    · have e1 : (k == 1) = false := by simpa using hk1
      simp only [e1, cond_false, ck_rostrumref_scan_itemNext_q16_v]
      refine ⟨_, _, _, _, _, _, rfl, rfl, q3.mono (by omega), fun h => ?_⟩
      obtain ⟨rfl, rfl⟩ := back h
      exact ⟨rfl, rfl⟩
theorem items_read (l : List Int) (hb : bytesP l) : ∃ x e, wire_DecodeItem l = some (x, e) ∧ rostrumref_ItemOf l = some (x, e) := by
  unfold wire_DecodeItem rostrumref_ItemOf
  by_cases hl : (20000 : Int) < (l.length : Int)
  · rw [decide_eq_true hl]
    exact ⟨_, _, rfl, rfl⟩
  · rw [decide_eq_false hl]
    simp only [cond_false]
    have h0 : Sim l ⟨l, false⟩ ⟨l, ((0 : Nat) : Int)⟩ 0 := ⟨hb, rfl, 0, rfl, by omega, fun _ => ⟨by omega, rfl⟩, fun h => (by cases h)⟩
    obtain ⟨x, ok, r, x', ok', s, p, d, q, v⟩ := item_sim h0 (by omega) (by omega)
    have d' : rostrumref_scan_itemNext ⟨l, 0⟩ = some (x', ok', s) := d
    simp only [p, d']
    obtain ⟨_, hf, a, ha, hk, hok, hsh⟩ := q
    obtain ⟨b, at_⟩ := s
    simp only at hf ha
    subst hf ha
    unfold wire_reader_end rostrumref_scan_end rostrumref_scan_over
    cases hs : r.fshort with
    | true =>
      have := hsh hs
      simp only [cond_true]
      rw [decide_eq_true (by omega)]
      exact ⟨_, _, rfl, rfl⟩
    | false =>
      obtain ⟨h1, h2⟩ := hok hs
      obtain ⟨rfl, rfl⟩ := v hs
      simp only [cond_false]
      have hov : decide ((b.length : Int) < (a : Int)) = false := decide_eq_false (by omega)
      have hr : r.frest.length = b.length - a := by rw [h2, List.length_drop]
      simp only [hov, cond_false]
      cases ok with
      | false => exact ⟨_, _, rfl, rfl⟩
      | true =>
        simp only [cond_true]
        by_cases he : a < b.length
        · rw [decide_eq_true (show (0 : Int) < (r.frest.length : Int) by omega), decide_eq_true (show (a : Int) < (b.length : Int) by omega)]
          exact ⟨_, _, rfl, rfl⟩
        · rw [decide_eq_false (show ¬ (0 : Int) < (r.frest.length : Int) by omega), decide_eq_false (show ¬ (a : Int) < (b.length : Int) by omega)]
          simp only [cond_false, beq_self_eq_true, cond_true, ck_rostrumref_ItemOf_q24_v, item_eq]
          cases (wire_CheckItem_v x == 0) with
          | true => exact ⟨_, _, rfl, rfl⟩
          | false => exact ⟨_, _, rfl, rfl⟩
theorem WireItemReads_pure (l : List Int) (ok : okN 1 l.length ∧ ∀ y ∈ l, (IntKind.u8).min ≤ y ∧ y ≤ (IntKind.u8).max) : rostrumlaw_WireItemReads l = some true := by
  have h1 := ok.1
  unfold okN at h1
  have hb : bytesP l := fun y hy => by
    have := ok.2 y hy
    simp only [IntKind.min, IntKind.max, IntKind.bits, IntKind.signed] at this
    have h1 := this.1; have h2 := this.2
    simp at h1 h2
    omega
  have hf : cH l.length 1 = true := fits_of (by omega)
  obtain ⟨x, e, p, d⟩ := items_read l hb
  unfold rostrumlaw_WireItemReads rostrumlaw_octets_z
  simp only [hf, cond_true, p, d, beq_self_eq_true, seqB_self, Bool.and_self]
end Go.Proofs.Ytnjkmbogbfjffaa
