/- The law WireItemBytes on the plain functions: it answers true at every argument of the sizes that the form allows. -/
import Derived.Test.YtnjkmbogbfjffaaWTy
import Derived.Test.YtnjkmbogbfjffaaWireItemBytesD
set_option linter.unusedSimpArgs false
set_option linter.unusedVariables false
set_option linter.constructorNameAsVariable false
set_option linter.unnecessarySimpa false
namespace Go.Proofs.Ytnjkmbogbfjffaa
open Go Go.Mx Go.Proofs
/- Plain facts: numbers that do not go round, loops, lists of bytes. -/

theorem u8wrap (n : Int) : IntKind.u8.wrap n = n % 256 := by
  simp [IntKind.wrap, IntKind.min, IntKind.max, IntKind.bits, IntKind.signed]
theorem u64wrap {n : Int} (h1 : 0 ≤ n) (h2 : n < 18446744073709551616) : IntKind.u64.wrap n = n := by
  simp [IntKind.wrap, IntKind.min, IntKind.max, IntKind.bits, IntKind.signed]; omega
theorem fits_of {n b : Nat} (h : (n : Int) * b ≤ 140737488355328) : fitsB n b = true := fitsB_iff.2 h
theorem idx_get {α : Type} {l : List α} {i : Nat} {x : α} (h : l[i]? = some x) : idx l (i : Int) = some x := by
  unfold idx
  rw [if_pos (by omega)]
  simpa using h
theorem idx_app {α : Type} (l : List α) (x : α) (m : List α) : idx (l ++ x :: m) (l.length : Int) = some x := idx_get (by simp)
theorem seqB_self (a : ByteArray) : seqB a a = true := by unfold seqB; exact beq_self_eq_true _
theorem allB_app (l m : List Int) : allB (l ++ m) = (allB l && allB m) := by simp [allB]
theorem allB_byL (s : ByteArray) : allB (byL s) = true := by
  simp only [allB, byL, List.all_map, List.all_eq_true, Function.comp, decide_eq_true_eq]
  intro b _
  exact ⟨Int.natCast_nonneg _, by have := b.toNat_lt; omega⟩
theorem byL_len (s : ByteArray) : (byL s).length = s.size := by
  simp only [byL, List.length_map]; rfl
/-- The eight bytes of a number. -/
def num8 (n : Int) : List Int := [(n + 4611686018427387904) / 72057594037927936 % 256, (n + 4611686018427387904) / 281474976710656 % 256, (n + 4611686018427387904) / 1099511627776 % 256, (n + 4611686018427387904) / 4294967296 % 256, (n + 4611686018427387904) / 16777216 % 256, (n + 4611686018427387904) / 65536 % 256, (n + 4611686018427387904) / 256 % 256, (n + 4611686018427387904) % 256]
theorem num8_len (n : Int) : (num8 n).length = 8 := rfl
theorem allB_num8 (n : Int) : allB (num8 n) = true := by
  simp only [allB, num8, List.all_cons, List.all_nil, Bool.and_true, Bool.and_eq_true, decide_eq_true_eq]
  omega
/-- A number that eight bytes hold. -/
def in62 (n : Int) : Prop := -4611686018427387904 ≤ n ∧ n < 4611686018427387904
/-- A text behind its length. -/
def txt8 (s : ByteArray) : List Int := (s.size : Int) % 256 :: byL s
theorem allB_txt8 (s : ByteArray) : allB (txt8 s) = true := by
  have := allB_byL s
  simp only [allB, txt8, List.all_cons, Bool.and_eq_true, decide_eq_true_eq] at *
  exact ⟨by omega, this⟩
theorem txt8_len (s : ByteArray) : (txt8 s).length = s.size + 1 := by simp [txt8, byL_len]
/- Numbers and texts as bytes: the program's writer and the document's lists. -/

theorem fdiv_pos (a b : Int) (h : 0 ≤ b) : Int.fdiv a b = a / b := Int.fdiv_eq_ediv_of_nonneg a h
theorem number_w (n : Int) (w : Gwriter) (h : in62 n) (hf : (w.fb.length : Int) + 8 ≤ 140737488355328) : wire_writer_number n w = some ⟨w.fb ++ num8 n⟩ := by
  obtain ⟨h1, h2⟩ := h
  have e0 : IntKind.u64.wrap (IntKind.i64.wrap (n + 4611686018427387904)) = n + 4611686018427387904 := by
    rw [wrap_id (by omega) (by omega), u64wrap (by omega) (by omega)]
  have fit : ∀ (l : List Int), (l.length : Int) < (w.fb.length : Int) + 8 → fitsB (l.length + 1) 1 = true := fun l hl => fits_of (by omega)
  have st : ∀ (s : Int) (v : Gwriter) (k : Int), 0 ≤ s → s ≤ 56 → (2 : Int) ^ (min s.toNat IntKind.u64.bits) = k → 0 ≤ k → (v.fb.length : Int) < (w.fb.length : Int) + 8 →
      loopM (st_wire_writer_number_0 (n + 4611686018427387904)) (s, v) = loopM (st_wire_writer_number_0 (n + 4611686018427387904)) (s - 8, ⟨v.fb ++ [(n + 4611686018427387904) / k % 256]⟩) := by
    intro s v k hs hs2 hk hk0 hl
    refine loopM_on ?_
    simp only [st_wire_writer_number_0, decide_eq_true hs, fit v.fb hl, cond_true, hk, u8wrap, fdiv_pos _ _ hk0]
    rw [wrap_id (by omega) (by omega)]
  unfold wire_writer_number
  rw [e0]
  rw [st 56 w 72057594037927936 (by omega) (by omega) rfl (by omega) (by omega)]
  rw [show (56 : Int) - 8 = 48 from rfl, st 48 _ 281474976710656 (by omega) (by omega) rfl (by omega) (by simp <;> omega)]
  rw [show (48 : Int) - 8 = 40 from rfl, st 40 _ 1099511627776 (by omega) (by omega) rfl (by omega) (by simp <;> omega)]
  rw [show (40 : Int) - 8 = 32 from rfl, st 32 _ 4294967296 (by omega) (by omega) rfl (by omega) (by simp <;> omega)]
  rw [show (32 : Int) - 8 = 24 from rfl, st 24 _ 16777216 (by omega) (by omega) rfl (by omega) (by simp <;> omega)]
  rw [show (24 : Int) - 8 = 16 from rfl, st 16 _ 65536 (by omega) (by omega) rfl (by omega) (by simp <;> omega)]
  rw [show (16 : Int) - 8 = 8 from rfl, st 8 _ 256 (by omega) (by omega) rfl (by omega) (by simp <;> omega)]
  rw [show (8 : Int) - 8 = 0 from rfl, st 0 _ 1 (by omega) (by omega) rfl (by omega) (by simp <;> omega)]
  rw [loopM_end (b := (-8, false, ⟨w.fb ++ num8 n⟩))]
  simp [st_wire_writer_number_0, num8]
theorem small_w (n : Int) (w : Gwriter) (hf : (w.fb.length : Int) + 1 ≤ 140737488355328) : wire_writer_small n w = some ⟨w.fb ++ [n % 256]⟩ := by
  unfold wire_writer_small
  simp only [fits_of (n := w.fb.length + 1) (b := 1) (by omega), u8wrap, cond_true]
theorem text_w (s : ByteArray) (w : Gwriter) (hf : (w.fb.length : Int) + 1 + s.size ≤ 140737488355328) : wire_writer_text s w = some ⟨w.fb ++ txt8 s⟩ := by
  unfold wire_writer_text
  rw [small_w _ _ (by omega)]
  have : fitsB ((w.fb ++ [(s.size : Int) % 256]).length + (byL s).length) 1 = true := fits_of (by rw [byL_len]; simp; omega)
  simp only [this, cond_true, txt8, List.append_assoc, List.singleton_append]

/-! ### The document's -/
theorem joined_r (a b : List Int) (hf : (a.length : Int) + b.length ≤ 140737488355328) : rostrumref_joined a b = some (a ++ b) := by
  have l0 : ∀ (suf pre : List Int), a = pre ++ suf → loopM (st_rostrumref_joined_0 a b) (pre, (pre.length : Int)) = some (a, (a.length : Int), false) := by
    intro suf
    induction suf with
    | nil =>
      intro pre h
      simp at h; subst h
      exact loopM_end (by simp [st_rostrumref_joined_0])
    | cons x suf ih =>
      intro pre h
      have := ih (pre ++ [x]) (by simp [h])
      rw [loopM_on (a' := (pre ++ [x], ((pre ++ [x]).length : Int)))]
      · exact this
      · have h1 : decide ((pre.length : Int) < (a.length : Int)) = true := decide_eq_true (by rw [h]; simp; omega)
        have h2 : idx a (pre.length : Int) = some x := by rw [h]; exact idx_app _ _ _
        have h3 : fitsB (pre.length + 1) 1 = true := fits_of (by rw [h] at hf; simp at hf; omega)
        have h4 : IntKind.i64.wrap ((pre.length : Int) + 1) = ((pre ++ [x]).length : Int) := by
          rw [wrap_id] <;> (rw [h] at hf; simp at hf ⊢; try omega)
        simp only [st_rostrumref_joined_0, h1, h2, h3, h4, cond_true]
  have l2 : ∀ (suf pre : List Int), b = pre ++ suf → loopM (st_rostrumref_joined_2 b) (a ++ pre, (pre.length : Int)) = some (a ++ b, (b.length : Int), false) := by
    intro suf
    induction suf with
    | nil =>
      intro pre h
      simp at h; subst h
      exact loopM_end (by simp [st_rostrumref_joined_2])
    | cons x suf ih =>
      intro pre h
      have := ih (pre ++ [x]) (by simp [h])
      rw [loopM_on (a' := (a ++ (pre ++ [x]), ((pre ++ [x]).length : Int)))]
      · exact this
      · have h1 : decide ((pre.length : Int) < (b.length : Int)) = true := decide_eq_true (by rw [h]; simp; omega)
        have h2 : idx b (pre.length : Int) = some x := by rw [h]; exact idx_app _ _ _
        have h3 : fitsB ((a ++ pre).length + 1) 1 = true := fits_of (by rw [h] at hf; simp at hf ⊢; omega)
        have h4 : IntKind.i64.wrap ((pre.length : Int) + 1) = ((pre ++ [x]).length : Int) := by
          rw [wrap_id] <;> (rw [h] at hf; simp at hf ⊢; try omega)
        simp only [st_rostrumref_joined_2, h1, h2, h3, h4, cond_true, List.append_assoc]
  unfold rostrumref_joined
  have e0 := l0 a [] rfl
  have e2 := l2 b [] rfl
  simp only [List.length_nil, Int.cast_ofNat_Int, List.append_nil] at e0 e2
  rw [e0]
  simp only
  rw [e2]
theorem eight_r (n : Int) (h : in62 n) : rostrumref_eight n = some (num8 n) := by
  obtain ⟨h1, h2⟩ := h
  have st : ∀ (u : Int) (l : List Int) (i : Nat), 0 ≤ u → u < 9223372036854775808 → l.length = 8 → i < 8 →
      loopM st_rostrumref_eight_0 (u, l, (i : Int)) = loopM st_rostrumref_eight_0 (u / 256, l.set i (u % 256), (i : Int) - 1) := by
    intro u l i hu hu2 hl hi
    refine loopM_on ?_
    have e1 : decide (0 ≤ (i : Int)) = true := decide_eq_true (by omega)
    have e2 : ltB (i : Int) (l.length : Int) = true := decide_eq_true (by omega)
    obtain ⟨x, e3⟩ : ∃ x, l[i]? = some x := ⟨l[i], List.getElem?_eq_getElem (by omega)⟩
    have e4 : u.tdiv 256 = u / 256 := Int.tdiv_eq_ediv_of_nonneg hu
    have e5 : u.tmod 256 = u % 256 := Int.tmod_eq_emod_of_nonneg hu
    have e6 : IntKind.i64.wrap (u / 256) = u / 256 := wrap_id (by omega) (by omega)
    have e7 : u % 256 % 256 = u % 256 := by omega
    simp only [st_rostrumref_eight_0, e1, e2, idx_get e3, e4, e5, e6, u8wrap, e7, cond_true, setL, Int.toNat_natCast]
    rw [wrap_id (by omega) (by omega)]
  unfold rostrumref_eight
  rw [wrap_id (by omega) (by omega)]
  generalize hu : n + 4611686018427387904 = u
  have hu0 : 0 ≤ u := by omega
  have hu1 : u < 9223372036854775808 := by omega
  rw [show List.replicate (8 : Int).toNat (0 : Int) = [0, 0, 0, 0, 0, 0, 0, 0] from rfl]
  have q := st u [0, 0, 0, 0, 0, 0, 0, 0] 7 hu0 hu1 rfl (by omega)
  rw [show ((7 : Nat) : Int) = 7 from rfl] at q
  rw [q, show (7 : Int) - 1 = ((6 : Nat) : Int) from rfl, st _ _ 6 (by omega) (by omega) rfl (by omega), show ((6 : Nat) : Int) - 1 = ((5 : Nat) : Int) from rfl, st _ _ 5 (by omega) (by omega) rfl (by omega),
    show ((5 : Nat) : Int) - 1 = ((4 : Nat) : Int) from rfl, st _ _ 4 (by omega) (by omega) rfl (by omega), show ((4 : Nat) : Int) - 1 = ((3 : Nat) : Int) from rfl, st _ _ 3 (by omega) (by omega) rfl (by omega),
    show ((3 : Nat) : Int) - 1 = ((2 : Nat) : Int) from rfl, st _ _ 2 (by omega) (by omega) rfl (by omega), show ((2 : Nat) : Int) - 1 = ((1 : Nat) : Int) from rfl, st _ _ 1 (by omega) (by omega) rfl (by omega),
    show ((1 : Nat) : Int) - 1 = ((0 : Nat) : Int) from rfl, st _ _ 0 (by omega) (by omega) rfl (by omega)]
  rw [loopM_end (b := (u / 256 / 256 / 256 / 256 / 256 / 256 / 256 / 256, num8 n, -1, false))]
  simp only [st_rostrumref_eight_0]
  have e1 : decide (0 ≤ ((0 : Nat) : Int) - 1) = false := by decide
  rw [e1]
  simp only [cond_false, List.set_cons_zero, List.set_cons_succ, num8, hu, Option.some.injEq, Sum.inr.injEq, Prod.mk.injEq, List.cons.injEq, true_and, and_true]
  refine ⟨⟨?_, ?_, ?_, ?_, ?_, ?_⟩, rfl⟩ <;> omega
theorem textBytes_r (s : ByteArray) (hf : (s.size : Int) + 1 ≤ 140737488355328) : rostrumref_textBytes s = some (txt8 s) := by
  unfold rostrumref_textBytes
  rw [joined_r _ _ (by rw [byL_len]; simp; omega)]
  simp [txt8, u8wrap]
/- What may be a command, a call, an item: the program and the document agree. -/

theorem fieldMay_eq (s : ByteArray) : rostrumref_fieldMay_v s = value_field_v s := rfl
theorem textMay_eq (s : ByteArray) : rostrumref_textMay_v s = value_text_v s := rfl
theorem countMay_eq (n : Int) : rostrumref_countMay_v n = value_count_v n := rfl
theorem numberMay_eq (n : Int) : rostrumref_numberMay_v n = client_number_v n := rfl
/-- What is wrong with a command, by its kind and eight answers. -/
def cmdK (q : Int) (et ef ek en k f x n : Bool) : Int :=
  bif !(decide (1 ≤ q) && decide (q ≤ 22)) then 3
  else bif (!(q == 1 || q == 4 || q == 7 || q == 8 || (decide (11 ≤ q) && decide (q ≤ 16))) && !et) || (!(decide (4 ≤ q) && decide (q ≤ 6)) && !ef) || (!(q == 3 || q == 14 || q == 20) && !en) || (q == 22 && !ek) then 8
  else bif (!(q == 22) && !k) || ((decide (4 ≤ q) && decide (q ≤ 6)) && !f) || !x then 1
  else bif !n then 2 else 0
noncomputable def cmdF (c : GCommand) : Int := cmdK c.fKind (seqB c.fText ByteArray.empty) (seqB c.fField ByteArray.empty) (seqB c.fKey ByteArray.empty) (c.fN == 0) (value_field_v c.fKey) (value_field_v c.fField) (value_text_v c.fText) (value_count_v c.fN)
theorem kinds {q : Int} (h : ¬ (q < 1 ∨ 22 < q)) : q = 1 ∨ q = 2 ∨ q = 3 ∨ q = 4 ∨ q = 5 ∨ q = 6 ∨ q = 7 ∨ q = 8 ∨ q = 9 ∨ q = 10 ∨ q = 11 ∨ q = 12 ∨ q = 13 ∨ q = 14 ∨ q = 15 ∨ q = 16 ∨ q = 17 ∨ q = 18 ∨ q = 19 ∨ q = 20 ∨ q = 21 ∨ q = 22 := by omega
theorem command_p (c : GCommand) : value_CheckCommand_v c = cmdF c := by
  simp only [value_CheckCommand_v, value_CheckCommand_v_c0, value_CheckCommand_v_c1, value_CheckCommand_v_c2, value_CheckCommand_v_c3, value_CheckCommand_v_c4, value_CheckCommand_v_c5, value_CheckCommand_v_c6, value_CheckCommand_v_c7, value_CheckCommand_v_c8, value_CheckCommand_v_c9, value_CheckCommand_v_c10, value_CheckCommand_v_c11, value_CheckCommand_v_c12, value_CheckCommand_v_c13, value_CheckCommand_v_c14, ck_value_CheckCommand_k28_v_c0, ck_value_CheckCommand_k28_v, ck_value_CheckCommand_k28v2_v_c0, ck_value_CheckCommand_k28v2_v, ck_value_CheckCommand_k28v3_v_c0, ck_value_CheckCommand_k28v3_v, ck_value_CheckCommand_k28v4_v_c0, ck_value_CheckCommand_k28v4_v, ck_value_CheckCommand_k28v5_v_c0, ck_value_CheckCommand_k28v5_v, ck_value_CheckCommand_k28v6_v_c0, ck_value_CheckCommand_k28v6_v, ck_value_CheckCommand_k28v7_v_c0, ck_value_CheckCommand_k28v7_v, cmdF]
  generalize seqB c.fText ByteArray.empty = et
  generalize seqB c.fField ByteArray.empty = ef
  generalize seqB c.fKey ByteArray.empty = ek
  generalize (c.fN == 0) = en
  generalize value_field_v c.fKey = k
  generalize value_field_v c.fField = f
  generalize value_text_v c.fText = x
  generalize value_count_v c.fN = n
  generalize c.fKind = q
  by_cases h : q < 1 ∨ 22 < q
  · have e : ∀ j : Int, 1 ≤ j → j ≤ 22 → (q == j) = false := fun j h1 h2 => by rw [beq_eq_false_iff_ne]; omega
    have e0 : (decide (1 ≤ q) && decide (q ≤ 22)) = false := by
      rw [Bool.and_eq_false_iff, decide_eq_false_iff_not, decide_eq_false_iff_not]; omega
    simp only [e 1 (by decide) (by decide), e 2 (by decide) (by decide), e 3 (by decide) (by decide), e 4 (by decide) (by decide), e 5 (by decide) (by decide), e 6 (by decide) (by decide), e 7 (by decide) (by decide), e 8 (by decide) (by decide), e 9 (by decide) (by decide), e 10 (by decide) (by decide), e 11 (by decide) (by decide), e 12 (by decide) (by decide), e 13 (by decide) (by decide), e 14 (by decide) (by decide), e 15 (by decide) (by decide), e 16 (by decide) (by decide), e 17 (by decide) (by decide), e 18 (by decide) (by decide), e 19 (by decide) (by decide), e 20 (by decide) (by decide), e 21 (by decide) (by decide), e 22 (by decide) (by decide), cond_false, cmdK, e0, Bool.not_false, cond_true]
    rcases h with h | h
    · simp [decide_eq_true h]
    · cases decide (q < 1) <;> simp [decide_eq_true h]
  · rcases kinds h with rfl | rfl | rfl | rfl | rfl | rfl | rfl | rfl | rfl | rfl | rfl | rfl | rfl | rfl | rfl | rfl | rfl | rfl | rfl | rfl | rfl | rfl <;> (revert et ef ek en k f x n; decide)
theorem command_r (c : GCommand) : rostrumref_CommandFault_v c = cmdF c := by
  simp only [rostrumref_CommandFault_v, ck_rostrumref_CommandFault_k3_v, ck_rostrumref_CommandFault_k5_v, ck_rostrumref_CommandFault_k7_v_c0, ck_rostrumref_CommandFault_k7_v_c1, ck_rostrumref_CommandFault_k7_v_c2, ck_rostrumref_CommandFault_k7_v, ck_rostrumref_CommandFault_k9_v, cmdF, fieldMay_eq, textMay_eq, countMay_eq]
  generalize seqB c.fText ByteArray.empty = et
  generalize seqB c.fField ByteArray.empty = ef
  generalize seqB c.fKey ByteArray.empty = ek
  generalize (c.fN == 0) = en
  generalize value_field_v c.fKey = k
  generalize value_field_v c.fField = f
  generalize value_text_v c.fText = x
  generalize value_count_v c.fN = n
  generalize c.fKind = q
  by_cases h : q < 1 ∨ 22 < q
  · have e : ∀ j : Int, 1 ≤ j → j ≤ 22 → (q == j) = false := fun j h1 h2 => by rw [beq_eq_false_iff_ne]; omega
    have e0 : (decide (1 ≤ q) && decide (q ≤ 22)) = false := by
      rw [Bool.and_eq_false_iff, decide_eq_false_iff_not, decide_eq_false_iff_not]; omega
    simp only [e 1 (by decide) (by decide), e 2 (by decide) (by decide), e 3 (by decide) (by decide), e 4 (by decide) (by decide), e 5 (by decide) (by decide), e 6 (by decide) (by decide), e 7 (by decide) (by decide), e 8 (by decide) (by decide), e 9 (by decide) (by decide), e 10 (by decide) (by decide), e 11 (by decide) (by decide), e 12 (by decide) (by decide), e 13 (by decide) (by decide), e 14 (by decide) (by decide), e 15 (by decide) (by decide), e 16 (by decide) (by decide), e 17 (by decide) (by decide), e 18 (by decide) (by decide), e 19 (by decide) (by decide), e 20 (by decide) (by decide), e 21 (by decide) (by decide), e 22 (by decide) (by decide), cond_false, cmdK, e0, Bool.not_false, cond_true]
    rcases h with h | h
    · simp [show ¬ 1 ≤ q by omega]
    · cases decide (1 ≤ q) <;> simp [show ¬ q ≤ 22 by omega]
  · rcases kinds h with rfl | rfl | rfl | rfl | rfl | rfl | rfl | rfl | rfl | rfl | rfl | rfl | rfl | rfl | rfl | rfl | rfl | rfl | rfl | rfl | rfl | rfl <;> (revert et ef ek en k f x n; decide)

theorem call_eq (c : GCall) : rostrumref_CallFault_v c = client_CheckCall_v c := by
  simp only [rostrumref_CallFault_v, rostrumref_CallFault_v_c0, client_CheckCall_v, client_CheckCall_v_c0, numberMay_eq, command_p, command_r]
theorem item_eq (x : GItem) : rostrumref_ItemFault_v x = wire_CheckItem_v x := by
  simp only [rostrumref_ItemFault_v, rostrumref_ItemFault_v_c0, wire_CheckItem_v, wire_CheckItem_v_c0, ck_wire_CheckItem_k1_v, call_eq, rostrumref_numberMay_v]
  by_cases h1 : x.fTerm < 1
  · simp [h1, show ¬ 1 ≤ x.fTerm by omega]
  · by_cases h2 : 1048576 < x.fTerm
    · simp [h1, h2, show ¬ x.fTerm ≤ 1048576 by omega]
    · by_cases h3 : x.fTime < 0
      · simp [h1, h2, h3, show ¬ 0 ≤ x.fTime by omega, show 1 ≤ x.fTerm by omega, show x.fTerm ≤ 1048576 by omega]
      · by_cases h4 : 1073741824 < x.fTime
        · simp [h1, h2, h3, h4, show 0 ≤ x.fTime by omega, show ¬ x.fTime ≤ 1073741824 by omega, show 1 ≤ x.fTerm by omega, show x.fTerm ≤ 1048576 by omega]
        · simp [h1, h2, h3, h4, show 0 ≤ x.fTime by omega, show x.fTime ≤ 1073741824 by omega, show 1 ≤ x.fTerm by omega, show x.fTerm ≤ 1048576 by omega]
/-- What a command that may be is. -/
structure CmdOk (c : GCommand) : Prop where
  kind : 1 ≤ c.fKind ∧ c.fKind ≤ 22
  key : (c.fKey.size : Int) ≤ 12
  field : (c.fField.size : Int) ≤ 12
  text : (c.fText.size : Int) ≤ 20
  num : -1099511627776 ≤ c.fN ∧ c.fN ≤ 1099511627776
theorem seqB_iff {a b : ByteArray} : seqB a b = true ↔ a = b := by
  unfold seqB
  rw [ByteArray.toList_eq, ByteArray.toList_eq]
  constructor
  · intro h
    have h1 : a.data.toList = b.data.toList := by simpa using h
    cases a; cases b
    simp only [ByteArray.mk.injEq]
    exact Array.ext' h1
  · rintro rfl; exact beq_self_eq_true _
theorem empty_size {s : ByteArray} (h : seqB s ByteArray.empty = true) : s.size = 0 := by
  rw [seqB_iff.1 h]; rfl
theorem bif0 {c : Bool} {a b : Int} (ha : a ≠ 0) (h : (bif c then a else b) = 0) : c = false ∧ b = 0 := by
  cases c with
  | true => exact absurd h ha
  | false => exact ⟨rfl, h⟩
theorem cmd_ok {c : GCommand} (h : cmdF c = 0) : CmdOk c := by
  unfold cmdF cmdK at h
  obtain ⟨h1, h⟩ := bif0 (by decide) h
  obtain ⟨h2, h⟩ := bif0 (by decide) h
  obtain ⟨h3, h⟩ := bif0 (by decide) h
  obtain ⟨h4, _⟩ := bif0 (by decide) h
  simp only [Bool.not_eq_false', Bool.and_eq_true, decide_eq_true_eq] at h1
  simp only [Bool.or_eq_false_iff, Bool.and_eq_false_iff, Bool.not_eq_false', decide_eq_false_iff_not] at h2 h3
  simp only [Bool.not_eq_false', value_count_v, Bool.and_eq_true, decide_eq_true_eq] at h4
  have hf : ∀ s : ByteArray, value_field_v s = true → (s.size : Int) ≤ 12 := by
    intro s hs
    simp only [value_field_v, Bool.and_eq_true, decide_eq_true_eq] at hs
    exact hs.2
  have he : ∀ s : ByteArray, seqB s ByteArray.empty = true → (s.size : Int) ≤ 12 := fun s hs => by rw [empty_size hs]; decide
  refine ⟨h1, ?_, ?_, ?_, h4⟩
  · rcases h3.1.1 with hk | hk
    · rcases h2.2 with h5 | h5
      · rw [hk] at h5; cases h5
      · exact he _ h5
    · exact hf _ hk
  · rcases h3.1.2 with hk | hk
    · rcases h2.1.1.2 with h5 | h5
      · simp only [Bool.and_eq_true, decide_eq_true_eq] at h5
        rcases hk with hk | hk
        · exact absurd h5.1 hk
        · exact absurd h5.2 hk
      · exact he _ h5
    · exact hf _ hk
  · have := h3.2
    simp only [value_text_v, decide_eq_true_eq] at this
    exact this
structure ItemOk (x : GItem) : Prop where
  term : 1 ≤ x.fTerm ∧ x.fTerm ≤ 1048576
  time : 0 ≤ x.fTime ∧ x.fTime ≤ 1073741824
  client : 0 ≤ x.fCall.fClient ∧ x.fCall.fClient ≤ 1048576
  seq : x.fNop = false → x.fCall.fClient ≠ 0 → 1 ≤ x.fCall.fSeq ∧ x.fCall.fSeq ≤ 1048576
  cmd : x.fNop = false → x.fCall.fClient ≠ 0 → CmdOk x.fCall.fCommand
theorem item_ok {x : GItem} (h : wire_CheckItem_v x = 0) : ItemOk x := by
  have q : ck_wire_CheckItem_k1_v x = (decide (x.fTerm < 1) || (decide (1048576 < x.fTerm) || (decide (x.fTime < 0) || decide (1073741824 < x.fTime)))) := by
    unfold ck_wire_CheckItem_k1_v
    simp only [Bool.cond_true_left]
  simp only [wire_CheckItem_v, wire_CheckItem_v_c0, client_CheckCall_v, client_CheckCall_v_c0, command_p] at h
  obtain ⟨h0, h⟩ := bif0 (by decide) h
  rw [q, Bool.or_eq_false_iff, Bool.or_eq_false_iff, Bool.or_eq_false_iff] at h0
  obtain ⟨h1, h2, h3, h4⟩ := h0
  simp only [decide_eq_false_iff_not] at h1 h2 h3 h4
  cases hn : x.fNop with
  | true =>
    rw [hn, cond_true] at h
    cases hc : (x.fCall.fClient == 0) with
    | false => rw [hc] at h; cases h
    | true =>
      have : x.fCall.fClient = 0 := by simpa using hc
      exact ⟨by omega, by omega, by omega, fun h => (by rw [hn] at h; cases h), fun h => (by rw [hn] at h; cases h)⟩
  | false =>
    rw [hn, cond_false] at h
    cases hc : (x.fCall.fClient == 0) with
    | true =>
      have : x.fCall.fClient = 0 := by simpa using hc
      exact ⟨by omega, by omega, by omega, fun _ h => absurd this h, fun _ h => absurd this h⟩
    | false =>
      rw [hc, cond_false] at h
      cases h5 : client_number_v x.fCall.fClient with
      | false => rw [h5] at h; cases h
      | true =>
        rw [h5, cond_true] at h
        cases h6 : client_number_v x.fCall.fSeq with
        | false => rw [h6] at h; cases h
        | true =>
          rw [h6, cond_true] at h
          simp only [client_number_v, Bool.and_eq_true, decide_eq_true_eq] at h5 h6
          exact ⟨by omega, by omega, by omega, fun _ _ => h6, fun _ _ => cmd_ok h⟩
/- Items as bytes: the program's and the document's are the same. -/

def cmd8 (c : GCommand) : List Int := c.fKind % 256 :: (txt8 c.fKey ++ (txt8 c.fField ++ (txt8 c.fText ++ num8 c.fN)))
def call8 (c : GCall) : List Int := num8 c.fClient ++ bif c.fClient == 0 then [] else num8 c.fSeq ++ cmd8 c.fCommand
def item8 (x : GItem) : List Int := num8 x.fTerm ++ (num8 x.fTime ++ bif x.fNop then [1] else 0 :: call8 x.fCall)
theorem cmd8_len {c : GCommand} (h : CmdOk c) : ((cmd8 c).length : Int) ≤ 56 := by
  have := h.key; have := h.field; have := h.text
  simp only [cmd8, List.length_cons, List.length_append, txt8_len, num8_len]
  omega
theorem command_w {c : GCommand} (h : CmdOk c) (w : Gwriter) (hf : (w.fb.length : Int) + 56 ≤ 140737488355328) : wire_writer_command c w = some ⟨w.fb ++ cmd8 c⟩ := by
  have h1 := h.key; have h2 := h.field; have h3 := h.text; have h4 := h.num
  unfold wire_writer_command
  rw [small_w _ _ (by omega)]
  simp only
  rw [text_w _ _ (by simp; omega)]
  simp only
  rw [text_w _ _ (by simp [txt8_len]; omega)]
  simp only
  rw [text_w _ _ (by simp [txt8_len]; omega)]
  simp only
  rw [number_w _ _ ⟨by omega, by omega⟩ (by simp [txt8_len]; omega)]
  simp [cmd8]
theorem call_w {c : GCall} (w : Gwriter) (h1 : 0 ≤ c.fClient ∧ c.fClient ≤ 1048576) (h2 : c.fClient ≠ 0 → 1 ≤ c.fSeq ∧ c.fSeq ≤ 1048576) (h3 : c.fClient ≠ 0 → CmdOk c.fCommand) (hf : (w.fb.length : Int) + 80 ≤ 140737488355328) : wire_writer_call c w = some ⟨w.fb ++ call8 c⟩ := by
  unfold wire_writer_call
  rw [number_w _ _ ⟨by omega, by omega⟩ (by omega)]
  simp only
  by_cases hc : c.fClient = 0
  · simp [hc, call8]
  · have hp : 0 < c.fClient := by omega
    have h4 := h2 hc
    have hb : (c.fClient == 0) = false := by simpa using hc
    simp only [decide_eq_true hp, cond_true]
    rw [number_w _ _ ⟨by omega, by omega⟩ (by simp [num8_len]; omega)]
    simp only
    rw [command_w (h3 hc) _ (by simp [num8_len]; omega)]
    simp [call8, hb]
theorem item_w {x : GItem} (h : ItemOk x) (w : Gwriter) (hf : (w.fb.length : Int) + 100 ≤ 140737488355328) : wire_writer_item x w = some ⟨w.fb ++ item8 x⟩ := by
  have h1 := h.term; have h2 := h.time
  unfold wire_writer_item
  rw [number_w _ _ ⟨by omega, by omega⟩ (by omega)]
  simp only
  rw [number_w _ _ ⟨by omega, by omega⟩ (by simp [num8_len]; omega)]
  simp only
  cases hn : x.fNop with
  | true =>
    simp only [cond_true]
    rw [small_w _ _ (by simp [num8_len]; omega)]
    simp [item8, hn]
  | false =>
    simp only [cond_false]
    rw [small_w _ _ (by simp [num8_len]; omega)]
    simp only
    rw [call_w _ h.client (h.seq hn) (h.cmd hn) (by simp [num8_len]; omega)]
    simp [item8, hn]
theorem itemBytes_r {x : GItem} (h : ItemOk x) : rostrumref_itemBytes x = some (item8 x) := by
  have h1 := h.term; have h2 := h.time; have h3 := h.client
  simp only [rostrumref_itemBytes, rostrumref_itemBytes_c0, rostrumref_itemBytes_c1]
  rw [eight_r _ ⟨by omega, by omega⟩, eight_r _ ⟨by omega, by omega⟩]
  simp only
  rw [joined_r _ _ (by simp [num8_len])]
  simp only
  have f1 : fitsB ((num8 x.fTerm ++ num8 x.fTime).length + 1) 1 = true := fits_of (by simp [num8_len])
  rw [f1]
  simp only [cond_true]
  cases hn : x.fNop with
  | true => simp [item8, hn]
  | false =>
    simp only [cond_false]
    rw [eight_r _ ⟨by omega, by omega⟩]
    simp only
    rw [joined_r _ _ (by simp [num8_len])]
    simp only
    cases hc : (x.fCall.fClient == 0) with
    | true => simp [item8, call8, hn, hc]
    | false =>
      have hc' : x.fCall.fClient ≠ 0 := by simpa using hc
      have h4 := h.seq hn hc'
      have h5 := h.cmd hn hc'
      have k1 := h5.key; have k2 := h5.field; have k3 := h5.text; have k4 := h5.num
      simp only [cond_false]
      rw [eight_r _ ⟨by omega, by omega⟩]
      simp only
      rw [joined_r _ _ (by simp [num8_len])]
      simp only
      have f2 : fitsB ((((num8 x.fTerm ++ num8 x.fTime ++ [0]) ++ num8 x.fCall.fClient) ++ num8 x.fCall.fSeq).length + 1) 1 = true := fits_of (by simp [num8_len])
      rw [f2]
      simp only [cond_true]
      rw [textBytes_r _ (by omega), textBytes_r _ (by omega), textBytes_r _ (by omega)]
      simp only
      rw [joined_r _ _ (by simp [num8_len, txt8_len]; omega)]
      simp only
      rw [joined_r _ _ (by simp [num8_len, txt8_len]; omega)]
      simp only
      rw [joined_r _ _ (by simp [num8_len, txt8_len]; omega)]
      simp only
      rw [eight_r _ ⟨by omega, by omega⟩]
      simp only
      rw [joined_r _ _ (by simp [num8_len, txt8_len]; omega)]
      simp [item8, call8, cmd8, hn, hc, u8wrap]
theorem allB_cons (n : Int) (l : List Int) : allB (n :: l) = (decide (0 ≤ n ∧ n < 256) && allB l) := rfl
theorem allB_nil : allB [] = true := rfl
theorem allB_item8 (x : GItem) : allB (item8 x) = true := by
  have h : decide (0 ≤ x.fCall.fCommand.fKind % 256 ∧ x.fCall.fCommand.fKind % 256 < 256) = true := decide_eq_true (by omega)
  unfold item8 call8 cmd8
  cases x.fNop <;> cases (x.fCall.fClient == 0) <;> simp only [allB_app, allB_num8, allB_txt8, allB_cons, allB_nil, h, cond_true, cond_false, Bool.and_true, Bool.and_self, Bool.true_and, List.append_nil] <;> rfl
theorem encodeItem_p (x : GItem) : wire_EncodeItem x = some (bif wire_CheckItem_v x == 0 then item8 x else [], wire_CheckItem_v x) := by
  unfold wire_EncodeItem
  cases h : (wire_CheckItem_v x == 0) with
  | false => rfl
  | true =>
    have h0 : wire_CheckItem_v x = 0 := by simpa using h
    rw [cond_true, item_w (item_ok h0) ⟨[]⟩ (by decide), h0]
    simp
theorem itemBytes_p (x : GItem) : rostrumref_ItemBytes x = some (bif wire_CheckItem_v x == 0 then item8 x else [], wire_CheckItem_v x) := by
  unfold rostrumref_ItemBytes
  rw [item_eq]
  cases h : (wire_CheckItem_v x == 0) with
  | false => rfl
  | true =>
    have h0 : wire_CheckItem_v x = 0 := by simpa using h
    rw [cond_true, itemBytes_r (item_ok h0), h0]
    rfl
theorem WireItemBytes_pure (x : GItem) (ok : x.ok) : rostrumlaw_WireItemBytes x = some true := by
  unfold rostrumlaw_WireItemBytes
  rw [encodeItem_p, itemBytes_p]
  have h : allB (bif wire_CheckItem_v x == 0 then item8 x else []) = true := by
    cases (wire_CheckItem_v x == 0) with
    | true => exact allB_item8 x
    | false => rfl
  simp only [beq_self_eq_true, cond_true, h, seqB_self]
end Go.Proofs.Ytnjkmbogbfjffaa
