/- What the functions that the law TapeSnaps reaches compute, as plain functions; no condition. -/
import Derived.Test.YtnjkmbogbfjffaaWTy
set_option linter.unusedSimpArgs false
set_option linter.unusedVariables false
set_option linter.constructorNameAsVariable false
set_option linter.unnecessarySimpa false
namespace Go.Proofs.Ytnjkmbogbfjffaa
open Go Go.Mx Go.Proofs
noncomputable def st_rostrumref_ValueCopy_0 (p0 : GValue) (s : Int × GValue) : Option ((Int × GValue) ⊕ GValue) :=
  match s with
  | (p1, p2) =>
    bif decide (p1 < (p0.fPairs.length : Int)) then
      oB (idx p0.fPairs p1) fun x1 =>
      bif cH (p2.fPairs.length + 1) 32 then
        some (.inl ((IntKind.i64.wrap (p1 + 1)), (GValue.mk p2.fKind p2.fText p2.fCount (p2.fPairs ++ [x1]) p2.fItems p2.fScores)))
      else
      none
    else
    some (.inr p2)
noncomputable def st_rostrumref_ValueCopy_2 (p0 : GValue) (s : Int × GValue) : Option ((Int × GValue) ⊕ GValue) :=
  match s with
  | (p1, p2) =>
    bif decide (p1 < (p0.fItems.length : Int)) then
      oB (idx p0.fItems p1) fun x1 =>
      bif cH (p2.fItems.length + 1) 16 then
        some (.inl ((IntKind.i64.wrap (p1 + 1)), (GValue.mk p2.fKind p2.fText p2.fCount p2.fPairs (p2.fItems ++ [x1]) p2.fScores)))
      else
      none
    else
    some (.inr p2)
noncomputable def st_rostrumref_ValueCopy_4 (p0 : GValue) (s : Int × GValue) : Option ((Int × GValue) ⊕ GValue) :=
  match s with
  | (p1, p2) =>
    bif decide (p1 < (p0.fScores.length : Int)) then
      oB (idx p0.fScores p1) fun x1 =>
      bif cH (p2.fScores.length + 1) 24 then
        some (.inl ((IntKind.i64.wrap (p1 + 1)), (GValue.mk p2.fKind p2.fText p2.fCount p2.fPairs p2.fItems (p2.fScores ++ [x1]))))
      else
      none
    else
    some (.inr p2)
noncomputable def rostrumref_ValueCopy_c0 (p0 : GValue) (x1 : GValue) : Option GValue :=
  oB (ci (st_rostrumref_ValueCopy_2 p0) (0, x1)) fun x2 =>
  oB (ci (st_rostrumref_ValueCopy_4 p0) (0, x2)) fun x3 =>
  some x3
noncomputable def rostrumref_ValueCopy (p0 : GValue) : Option GValue :=
  oB (ci (st_rostrumref_ValueCopy_0 p0) (0, (GValue.mk p0.fKind p0.fText p0.fCount [] [] []))) fun x1 =>
  rostrumref_ValueCopy_c0 p0 x1
def K_rostrumref_ValueCopy (C : ak) : Prop := ∀ (p0 : GValue) (r : GValue), rostrumref_ValueCopy p0 = some r → C 29 [.agg [.v (.i .i64 p0.fKind), .v (.s p0.fText), .v (.i .i64 p0.fCount), .v (.sl 2 (ab GPair.row p0.fPairs)), .v (.sl 1 (ab aY p0.fItems)), .v (.sl 2 (ab GScore.row p0.fScores))]] [] = some (.agg [.v (.i .i64 r.fKind), .v (.s r.fText), .v (.i .i64 r.fCount), .own 2 (ab GPair.row r.fPairs), .own 1 (ab aY r.fItems), .own 2 (ab GScore.row r.fScores)], [])
noncomputable def st_rostrumref_StoreCopy_0 (p0 : GStore) (s : Int × GStore) : Option ((Int × GStore) ⊕ GStore) :=
  match s with
  | (p1, p2) =>
    bif decide (p1 < (p0.fEntries.length : Int)) then
      oB (idx p0.fEntries p1) fun x1 =>
      oB (rostrumref_ValueCopy x1.fValue) fun x2 =>
      bif cH (p2.fEntries.length + 1) 128 then
        some (.inl ((IntKind.i64.wrap (p1 + 1)), (GStore.mk p2.fNow (p2.fEntries ++ [(GEntry.mk x1.fKey x2 x1.fUntil)]))))
      else
      none
    else
    some (.inr p2)
noncomputable def rostrumref_StoreCopy (p0 : GStore) : Option GStore :=
  oB (ci (st_rostrumref_StoreCopy_0 p0) (0, (GStore.mk p0.fNow []))) fun x1 =>
  some x1
def K_rostrumref_StoreCopy (C : ak) : Prop := ∀ (p0 : GStore) (r : GStore), rostrumref_StoreCopy p0 = some r → C 35 [.agg [.v (.i .i64 p0.fNow), .v (.sl 8 (ab GEntry.row p0.fEntries))]] [] = some (.agg [.v (.i .i64 r.fNow), .own 8 (ab GEntry.row r.fEntries)], [])
noncomputable def st_rostrumref_replyCopy_0 (p0 : GReply) (s : Int × GReply) : Option ((Int × GReply) ⊕ GReply) :=
  match s with
  | (p1, p2) =>
    bif decide (p1 < (p0.fList.length : Int)) then
      oB (idx p0.fList p1) fun x1 =>
      bif cH (p2.fList.length + 1) 16 then
        some (.inl ((IntKind.i64.wrap (p1 + 1)), (GReply.mk p2.fCode p2.fText p2.fN (p2.fList ++ [x1]))))
      else
      none
    else
    some (.inr p2)
noncomputable def rostrumref_replyCopy (p0 : GReply) : Option GReply :=
  oB (ci (st_rostrumref_replyCopy_0 p0) (0, (GReply.mk p0.fCode p0.fText p0.fN []))) fun x1 =>
  some x1
def K_rostrumref_replyCopy (C : ak) : Prop := ∀ (p0 : GReply) (r : GReply), rostrumref_replyCopy p0 = some r → C 90 [.agg [.v (.i .i64 p0.fCode), .v (.s p0.fText), .v (.i .i64 p0.fN), .v (.sl 1 (ab aY p0.fList))]] [] = some (.agg [.v (.i .i64 r.fCode), .v (.s r.fText), .v (.i .i64 r.fN), .own 1 (ab aY r.fList)], [])
noncomputable def st_rostrumref_MachineCopy_z_0 (p0 : GMachine) (s : Int × GMachine) : Option ((Int × GMachine) ⊕ GMachine) :=
  match s with
  | (p1, p2) =>
    bif decide (p1 < (p0.fClients.length : Int)) then
      oB (idx p0.fClients p1) fun x1 =>
      oB (rostrumref_replyCopy x1.fReply) fun x2 =>
      bif cH (p2.fClients.length + 1) 80 then
        some (.inl ((IntKind.i64.wrap (p1 + 1)), (GMachine.mk p2.fStore p2.fNext (p2.fClients ++ [(GClient.mk x1.fId x1.fSeq x1.fTime x2)]))))
      else
      none
    else
    some (.inr p2)
noncomputable def rostrumref_MachineCopy_z (p0 : GMachine) : Option GMachine :=
  oB (rostrumref_StoreCopy p0.fStore) fun x1 =>
  oB (ci (st_rostrumref_MachineCopy_z_0 p0) (0, (GMachine.mk x1 p0.fNext []))) fun x2 =>
  some x2
def K_rostrumref_MachineCopy_z (C : ak) : Prop := ∀ (p0 : GMachine) (r : GMachine), rostrumref_MachineCopy_z p0 = some r → C 41 [.agg [.v (.i .i64 p0.fStore.fNow), .v (.sl 8 (ab GEntry.row p0.fStore.fEntries)), .v (.i .i64 p0.fNext), .v (.sl 7 (ab GClient.row p0.fClients))]] [] = some (.agg [.v (.i .i64 r.fStore.fNow), .v (.sl 8 (ab GEntry.row r.fStore.fEntries)), .v (.i .i64 r.fNext), .v (.sl 7 (ab GClient.row r.fClients))], [])
noncomputable def rostrumlaw_snaps_z (p0 : GSnap) : Option GSnap :=
  oB (rostrumref_MachineCopy_z p0.fMachine) fun x1 =>
  some (GSnap.mk p0.fIndex p0.fTerm x1)
def K_rostrumlaw_snaps_z (C : ak) : Prop := ∀ (p0 : GSnap) (r : GSnap), rostrumlaw_snaps_z p0 = some r → C 44 [.agg [.v (.i .i64 p0.fIndex), .v (.i .i64 p0.fTerm), .v (.i .i64 p0.fMachine.fStore.fNow), .v (.sl 8 (ab GEntry.row p0.fMachine.fStore.fEntries)), .v (.i .i64 p0.fMachine.fNext), .v (.sl 7 (ab GClient.row p0.fMachine.fClients))]] [] = some (.agg [.v (.i .i64 r.fIndex), .v (.i .i64 r.fTerm), .v (.i .i64 r.fMachine.fStore.fNow), .v (.sl 8 (ab GEntry.row r.fMachine.fStore.fEntries)), .v (.i .i64 r.fMachine.fNext), .v (.sl 7 (ab GClient.row r.fMachine.fClients))], [])
noncomputable def tape_number (p0 : Int) : Option Bool :=
  bif decide (1 ≤ p0) then
    some (decide (p0 ≤ 1048576))
  else
  some false
noncomputable def tape_number_v (p0 : Int) : Bool := (decide (1 ≤ p0) && decide (p0 ≤ 1048576))
theorem tape_number_t (p0 : Int) : tape_number p0 = some (tape_number_v p0) := by
  simp only [tape_number, tape_number_v]
  cases decide (1 ≤ p0) <;> rfl
def K_tape_number (C : ak) : Prop := ∀ (p0 : Int) (r : Bool), tape_number p0 = some r → C 93 [.v (.i .i64 p0)] [] = some (.v (.b r), [])
noncomputable def value_elements (p0 : GValue) : Option Int :=
  some (IntKind.i64.wrap ((IntKind.i64.wrap ((p0.fPairs.length : Int) + (p0.fItems.length : Int))) + (p0.fScores.length : Int)))
noncomputable def value_elements_v (p0 : GValue) : Int :=
  (IntKind.i64.wrap ((IntKind.i64.wrap ((p0.fPairs.length : Int) + (p0.fItems.length : Int))) + (p0.fScores.length : Int)))
theorem value_elements_t (p0 : GValue) : value_elements p0 = some (value_elements_v p0) := by
  simp only [value_elements, value_elements_v, cx]
def K_value_elements (C : ak) : Prop := ∀ (p0 : GValue) (r : Int), value_elements p0 = some r → C 61 [.agg [.v (.i .i64 p0.fKind), .v (.s p0.fText), .v (.i .i64 p0.fCount), .v (.sl 2 (ab GPair.row p0.fPairs)), .v (.sl 1 (ab aY p0.fItems)), .v (.sl 2 (ab GScore.row p0.fScores))]] [] = some (.v (.i .i64 r), [])
noncomputable def value_text (p0 : ByteArray) : Option Bool :=
  some (decide ((p0.size : Int) ≤ 20))
noncomputable def value_text_v (p0 : ByteArray) : Bool := decide ((p0.size : Int) ≤ 20)
theorem value_text_t (p0 : ByteArray) : value_text p0 = some (value_text_v p0) := by
  simp only [value_text, value_text_v]
def K_value_text (C : ak) : Prop := ∀ (p0 : ByteArray) (r : Bool), value_text p0 = some r → C 62 [.v (.s p0)] [] = some (.v (.b r), [])
noncomputable def value_Check_fn1 (p0 : ByteArray) : Option Bool :=
  some (!(value_text_v p0))
noncomputable def value_Check_fn1_v (p0 : ByteArray) : Bool := (!(value_text_v p0))
theorem value_Check_fn1_t (p0 : ByteArray) : value_Check_fn1 p0 = some (value_Check_fn1_v p0) := by
  simp only [value_Check_fn1, value_Check_fn1_v]
def K_value_Check_fn1 (C : ak) : Prop := ∀ (p0 : ByteArray) (r : Bool), value_Check_fn1 p0 = some r → C 64 [.v (.s p0)] [] = some (.v (.b r), [])
noncomputable def st_slices_IndexFunc_string_string_value_Check_fn1_0 (p0 : List ByteArray) (p1 : Int) (s : Int) : Option (Int ⊕ (Int ⊕ Unit)) :=
  match s with
  | p2 =>
    bif decide (p2 < p1) then
      oB (idx p0 p2) fun x1 =>
      bif (value_Check_fn1_v x1) then
        some (.inr (.inl p2))
      else
      some (.inl (IntKind.i64.wrap (p2 + 1)))
    else
    some (.inr (.inr ()))
noncomputable def slices_IndexFunc_string_string_value_Check_fn1 (p0 : List ByteArray) : Option Int :=
  oB (ci (st_slices_IndexFunc_string_string_value_Check_fn1_0 p0 (p0.length : Int)) 0) fun
  | .inl x1 =>
    some x1
  | .inr _ =>
    some (-1)
def K_slices_IndexFunc_string_string_value_Check_fn1 (C : ak) : Prop := ∀ (p0 : List ByteArray) (r : Int), slices_IndexFunc_string_string_value_Check_fn1 p0 = some r → C 108 [.v (.sl 1 (ab aY p0)), .clo 64 []] [] = some (.v (.i .i64 r), [])
noncomputable def slices_ContainsFunc_string_string_value_Check_fn1 (p0 : List ByteArray) : Option Bool :=
  oB (slices_IndexFunc_string_string_value_Check_fn1 p0) fun x1 =>
  some (decide (0 ≤ x1))
def K_slices_ContainsFunc_string_string_value_Check_fn1 (C : ak) : Prop := ∀ (p0 : List ByteArray) (r : Bool), slices_ContainsFunc_string_string_value_Check_fn1 p0 = some r → C 63 [.v (.sl 1 (ab aY p0)), .clo 64 []] [] = some (.v (.b r), [])
noncomputable def value_field (p0 : ByteArray) : Option Bool :=
  bif decide (1 ≤ (p0.size : Int)) then
    some (decide ((p0.size : Int) ≤ 12))
  else
  some false
noncomputable def value_field_v (p0 : ByteArray) : Bool := (decide (1 ≤ (p0.size : Int)) && decide ((p0.size : Int) ≤ 12))
theorem value_field_t (p0 : ByteArray) : value_field p0 = some (value_field_v p0) := by
  simp only [value_field, value_field_v]
  cases decide (1 ≤ (p0.size : Int)) <;> rfl
def K_value_field (C : ak) : Prop := ∀ (p0 : ByteArray) (r : Bool), value_field p0 = some r → C 67 [.v (.s p0)] [] = some (.v (.b r), [])
noncomputable def value_Check_fn2 (p0 : GPair) : Option Bool :=
  bif (value_field_v p0.fField) then
    some (!(value_text_v p0.fText))
  else
  some true
noncomputable def value_Check_fn2_v (p0 : GPair) : Bool := (bif (value_field_v p0.fField) then (!(value_text_v p0.fText)) else true)
theorem value_Check_fn2_t (p0 : GPair) : value_Check_fn2 p0 = some (value_Check_fn2_v p0) := by
  simp only [value_Check_fn2, value_Check_fn2_v]
  cases (value_field_v p0.fField) <;> rfl
def K_value_Check_fn2 (C : ak) : Prop := ∀ (p0 : GPair) (r : Bool), value_Check_fn2 p0 = some r → C 66 [.agg [.v (.s p0.fField), .v (.s p0.fText)]] [] = some (.v (.b r), [])
noncomputable def st_slices_IndexFunc_Pair_Pair_value_Check_fn2_0 (p0 : List GPair) (p1 : Int) (s : Int) : Option (Int ⊕ (Int ⊕ Unit)) :=
  match s with
  | p2 =>
    bif decide (p2 < p1) then
      oB (idx p0 p2) fun x1 =>
      bif (value_Check_fn2_v x1) then
        some (.inr (.inl p2))
      else
      some (.inl (IntKind.i64.wrap (p2 + 1)))
    else
    some (.inr (.inr ()))
noncomputable def slices_IndexFunc_Pair_Pair_value_Check_fn2 (p0 : List GPair) : Option Int :=
  oB (ci (st_slices_IndexFunc_Pair_Pair_value_Check_fn2_0 p0 (p0.length : Int)) 0) fun
  | .inl x1 =>
    some x1
  | .inr _ =>
    some (-1)
def K_slices_IndexFunc_Pair_Pair_value_Check_fn2 (C : ak) : Prop := ∀ (p0 : List GPair) (r : Int), slices_IndexFunc_Pair_Pair_value_Check_fn2 p0 = some r → C 109 [.v (.sl 2 (ab GPair.row p0)), .clo 66 []] [] = some (.v (.i .i64 r), [])
noncomputable def slices_ContainsFunc_Pair_Pair_value_Check_fn2 (p0 : List GPair) : Option Bool :=
  oB (slices_IndexFunc_Pair_Pair_value_Check_fn2 p0) fun x1 =>
  some (decide (0 ≤ x1))
def K_slices_ContainsFunc_Pair_Pair_value_Check_fn2 (C : ak) : Prop := ∀ (p0 : List GPair) (r : Bool), slices_ContainsFunc_Pair_Pair_value_Check_fn2 p0 = some r → C 65 [.v (.sl 2 (ab GPair.row p0)), .clo 66 []] [] = some (.v (.b r), [])
noncomputable def value_Check_fn3 (p0 : GScore) : Option Bool :=
  some (!(value_text_v p0.fMember))
noncomputable def value_Check_fn3_v (p0 : GScore) : Bool := (!(value_text_v p0.fMember))
theorem value_Check_fn3_t (p0 : GScore) : value_Check_fn3 p0 = some (value_Check_fn3_v p0) := by
  simp only [value_Check_fn3, value_Check_fn3_v]
def K_value_Check_fn3 (C : ak) : Prop := ∀ (p0 : GScore) (r : Bool), value_Check_fn3 p0 = some r → C 69 [.agg [.v (.s p0.fMember), .v (.i .i64 p0.fN)]] [] = some (.v (.b r), [])
noncomputable def st_slices_IndexFunc_Score_Score_value_Check_fn3_0 (p0 : List GScore) (p1 : Int) (s : Int) : Option (Int ⊕ (Int ⊕ Unit)) :=
  match s with
  | p2 =>
    bif decide (p2 < p1) then
      oB (idx p0 p2) fun x1 =>
      bif (value_Check_fn3_v x1) then
        some (.inr (.inl p2))
      else
      some (.inl (IntKind.i64.wrap (p2 + 1)))
    else
    some (.inr (.inr ()))
noncomputable def slices_IndexFunc_Score_Score_value_Check_fn3 (p0 : List GScore) : Option Int :=
  oB (ci (st_slices_IndexFunc_Score_Score_value_Check_fn3_0 p0 (p0.length : Int)) 0) fun
  | .inl x1 =>
    some x1
  | .inr _ =>
    some (-1)
def K_slices_IndexFunc_Score_Score_value_Check_fn3 (C : ak) : Prop := ∀ (p0 : List GScore) (r : Int), slices_IndexFunc_Score_Score_value_Check_fn3 p0 = some r → C 110 [.v (.sl 2 (ab GScore.row p0)), .clo 69 []] [] = some (.v (.i .i64 r), [])
noncomputable def slices_ContainsFunc_Score_Score_value_Check_fn3 (p0 : List GScore) : Option Bool :=
  oB (slices_IndexFunc_Score_Score_value_Check_fn3 p0) fun x1 =>
  some (decide (0 ≤ x1))
def K_slices_ContainsFunc_Score_Score_value_Check_fn3 (C : ak) : Prop := ∀ (p0 : List GScore) (r : Bool), slices_ContainsFunc_Score_Score_value_Check_fn3 p0 = some r → C 68 [.v (.sl 2 (ab GScore.row p0)), .clo 69 []] [] = some (.v (.b r), [])
noncomputable def value_count (p0 : Int) : Option Bool :=
  bif decide ((-1099511627776) ≤ p0) then
    some (decide (p0 ≤ 1099511627776))
  else
  some false
noncomputable def value_count_v (p0 : Int) : Bool := (decide ((-1099511627776) ≤ p0) && decide (p0 ≤ 1099511627776))
theorem value_count_t (p0 : Int) : value_count p0 = some (value_count_v p0) := by
  simp only [value_count, value_count_v]
  cases decide ((-1099511627776) ≤ p0) <;> rfl
def K_value_count (C : ak) : Prop := ∀ (p0 : Int) (r : Bool), value_count p0 = some r → C 70 [.v (.i .i64 p0)] [] = some (.v (.b r), [])
noncomputable def value_Check_fn4 (p0 : GScore) : Option Bool :=
  some (!(value_count_v p0.fN))
noncomputable def value_Check_fn4_v (p0 : GScore) : Bool := (!(value_count_v p0.fN))
theorem value_Check_fn4_t (p0 : GScore) : value_Check_fn4 p0 = some (value_Check_fn4_v p0) := by
  simp only [value_Check_fn4, value_Check_fn4_v]
def K_value_Check_fn4 (C : ak) : Prop := ∀ (p0 : GScore) (r : Bool), value_Check_fn4 p0 = some r → C 71 [.agg [.v (.s p0.fMember), .v (.i .i64 p0.fN)]] [] = some (.v (.b r), [])
noncomputable def st_slices_IndexFunc_Score_Score_value_Check_fn4_0 (p0 : List GScore) (p1 : Int) (s : Int) : Option (Int ⊕ (Int ⊕ Unit)) :=
  match s with
  | p2 =>
    bif decide (p2 < p1) then
      oB (idx p0 p2) fun x1 =>
      bif (value_Check_fn4_v x1) then
        some (.inr (.inl p2))
      else
      some (.inl (IntKind.i64.wrap (p2 + 1)))
    else
    some (.inr (.inr ()))
noncomputable def slices_IndexFunc_Score_Score_value_Check_fn4 (p0 : List GScore) : Option Int :=
  oB (ci (st_slices_IndexFunc_Score_Score_value_Check_fn4_0 p0 (p0.length : Int)) 0) fun
  | .inl x1 =>
    some x1
  | .inr _ =>
    some (-1)
def K_slices_IndexFunc_Score_Score_value_Check_fn4 (C : ak) : Prop := ∀ (p0 : List GScore) (r : Int), slices_IndexFunc_Score_Score_value_Check_fn4 p0 = some r → C 110 [.v (.sl 2 (ab GScore.row p0)), .clo 71 []] [] = some (.v (.i .i64 r), [])
noncomputable def slices_ContainsFunc_Score_Score_value_Check_fn4 (p0 : List GScore) : Option Bool :=
  oB (slices_IndexFunc_Score_Score_value_Check_fn4 p0) fun x1 =>
  some (decide (0 ≤ x1))
def K_slices_ContainsFunc_Score_Score_value_Check_fn4 (C : ak) : Prop := ∀ (p0 : List GScore) (r : Bool), slices_ContainsFunc_Score_Score_value_Check_fn4 p0 = some r → C 68 [.v (.sl 2 (ab GScore.row p0)), .clo 71 []] [] = some (.v (.b r), [])
def cmpstring (a b : ByteArray) : Option Int := some (cmpS a b)
def cmpstring_v (a b : ByteArray) : Int := cmpS a b
theorem cmpstring_t (a b : ByteArray) : cmpstring a b = some (cmpstring_v a b) := rfl
def K_cmpstring (C : ak) : Prop := ∀ (p0 : ByteArray) (p1 : ByteArray) (r : Int), cmpstring p0 p1 = some r → C 132 [.v (.s p0), .v (.s p1)] [] = some (.v (.i .i64 r), [])
noncomputable def internal_bytealg_CompareString (p0 : ByteArray) (p1 : ByteArray) : Option Int :=
  some (cmpstring_v p0 p1)
noncomputable def internal_bytealg_CompareString_v (p0 : ByteArray) (p1 : ByteArray) : Int :=
  (cmpstring_v p0 p1)
theorem internal_bytealg_CompareString_t (p0 : ByteArray) (p1 : ByteArray) : internal_bytealg_CompareString p0 p1 = some (internal_bytealg_CompareString_v p0 p1) := by
  simp only [internal_bytealg_CompareString, internal_bytealg_CompareString_v, cx]
def K_internal_bytealg_CompareString (C : ak) : Prop := ∀ (p0 : ByteArray) (p1 : ByteArray) (r : Int), internal_bytealg_CompareString p0 p1 = some r → C 113 [.v (.s p0), .v (.s p1)] [] = some (.v (.i .i64 r), [])
noncomputable def strings_Compare (p0 : ByteArray) (p1 : ByteArray) : Option Int :=
  some (internal_bytealg_CompareString_v p0 p1)
noncomputable def strings_Compare_v (p0 : ByteArray) (p1 : ByteArray) : Int :=
  (internal_bytealg_CompareString_v p0 p1)
theorem strings_Compare_t (p0 : ByteArray) (p1 : ByteArray) : strings_Compare p0 p1 = some (strings_Compare_v p0 p1) := by
  simp only [strings_Compare, strings_Compare_v, cx]
def K_strings_Compare (C : ak) : Prop := ∀ (p0 : ByteArray) (p1 : ByteArray) (r : Int), strings_Compare p0 p1 = some r → C 77 [.v (.s p0), .v (.s p1)] [] = some (.v (.i .i64 r), [])
noncomputable def value_byField (p0 : GPair) (p1 : GPair) : Option Int :=
  some (strings_Compare_v p0.fField p1.fField)
noncomputable def value_byField_v (p0 : GPair) (p1 : GPair) : Int :=
  (strings_Compare_v p0.fField p1.fField)
theorem value_byField_t (p0 : GPair) (p1 : GPair) : value_byField p0 p1 = some (value_byField_v p0 p1) := by
  simp only [value_byField, value_byField_v, cx]
def K_value_byField (C : ak) : Prop := ∀ (p0 : GPair) (p1 : GPair) (r : Int), value_byField p0 p1 = some r → C 73 [.agg [.v (.s p0.fField), .v (.s p0.fText)], .agg [.v (.s p1.fField), .v (.s p1.fText)]] [] = some (.v (.i .i64 r), [])
noncomputable def st_value_rising_Pair_value_byField_0 (p0 : List GPair) (s : Int) : Option (Int ⊕ (Unit ⊕ Unit)) :=
  match s with
  | p1 =>
    bif decide (p1 < (p0.length : Int)) then
      oB (idx p0 (IntKind.i64.wrap (p1 - 1))) fun x1 =>
      oB (idx p0 p1) fun x2 =>
      bif decide (0 ≤ (value_byField_v x1 x2)) then
        some (.inr (.inl ()))
      else
      some (.inl (IntKind.i64.wrap (p1 + 1)))
    else
    some (.inr (.inr ()))
noncomputable def value_rising_Pair_value_byField (p0 : List GPair) : Option Bool :=
  oB (ci (st_value_rising_Pair_value_byField_0 p0) 1) fun
  | .inl _ =>
    some false
  | .inr _ =>
    some true
def K_value_rising_Pair_value_byField (C : ak) : Prop := ∀ (p0 : List GPair) (r : Bool), value_rising_Pair_value_byField p0 = some r → C 72 [.v (.sl 2 (ab GPair.row p0)), .clo 73 []] [] = some (.v (.b r), [])
noncomputable def cmp_isNaN_int (p0 : Int) : Option Bool :=
  some false
noncomputable def cmp_isNaN_int_v (p0 : Int) : Bool := false
theorem cmp_isNaN_int_t (p0 : Int) : cmp_isNaN_int p0 = some (cmp_isNaN_int_v p0) := by
  simp only [cmp_isNaN_int, cmp_isNaN_int_v]
def K_cmp_isNaN_int (C : ak) : Prop := ∀ (p0 : Int) (r : Bool), cmp_isNaN_int p0 = some r → C 131 [.v (.i .i64 p0)] [] = some (.v (.b r), [])
noncomputable def cmp_Compare_int (p0 : Int) (p1 : Int) : Option Int :=
  bif (cmp_isNaN_int_v p0) then
    bif (cmp_isNaN_int_v p1) then
      some 0
    else
    some (-1)
  else
  bif (cmp_isNaN_int_v p1) then
    some 1
  else
  bif decide (p0 < p1) then
    some (-1)
  else
  bif decide (p1 < p0) then
    some 1
  else
  some 0
noncomputable def cmp_Compare_int_v (p0 : Int) (p1 : Int) : Int :=
  bif (cmp_isNaN_int_v p0) then
    bif (cmp_isNaN_int_v p1) then
      0
    else
    (-1)
  else
  bif (cmp_isNaN_int_v p1) then
    1
  else
  bif decide (p0 < p1) then
    (-1)
  else
  bif decide (p1 < p0) then
    1
  else
  0
theorem cmp_Compare_int_t (p0 : Int) (p1 : Int) : cmp_Compare_int p0 p1 = some (cmp_Compare_int_v p0 p1) := by
  simp only [cmp_Compare_int, cmp_Compare_int_v, cx]
def K_cmp_Compare_int (C : ak) : Prop := ∀ (p0 : Int) (p1 : Int) (r : Int), cmp_Compare_int p0 p1 = some r → C 112 [.v (.i .i64 p0), .v (.i .i64 p1)] [] = some (.v (.i .i64 r), [])
noncomputable def st_cmp_Or_int_0 (p0 : List Int) (p1 : Int) (s : Int) : Option (Int ⊕ (Int ⊕ Unit)) :=
  match s with
  | p2 =>
    bif decide (p2 < p1) then
      oB (idx p0 p2) fun x1 =>
      bif (x1 == 0) then
        some (.inl (IntKind.i64.wrap (p2 + 1)))
      else
      some (.inr (.inl x1))
    else
    some (.inr (.inr ()))
noncomputable def cmp_Or_int (p0 : List Int) : Option Int :=
  oB (ci (st_cmp_Or_int_0 p0 (p0.length : Int)) 0) fun
  | .inl x1 =>
    some x1
  | .inr _ =>
    some 0
def K_cmp_Or_int (C : ak) : Prop := ∀ (p0 : List Int) (r : Int), cmp_Or_int p0 = some r → C 111 [.v (.sl 1 (ab rowI p0))] [] = some (.v (.i .i64 r), [])
noncomputable def value_byScore (p0 : GScore) (p1 : GScore) : Option Int :=
  oB (cmp_Or_int [(cmp_Compare_int_v p0.fN p1.fN), (strings_Compare_v p0.fMember p1.fMember)]) fun x1 =>
  some x1
def K_value_byScore (C : ak) : Prop := ∀ (p0 : GScore) (p1 : GScore) (r : Int), value_byScore p0 p1 = some r → C 75 [.agg [.v (.s p0.fMember), .v (.i .i64 p0.fN)], .agg [.v (.s p1.fMember), .v (.i .i64 p1.fN)]] [] = some (.v (.i .i64 r), [])
noncomputable def st_value_rising_Score_value_byScore_0 (p0 : List GScore) (s : Int) : Option (Int ⊕ (Unit ⊕ Unit)) :=
  match s with
  | p1 =>
    bif decide (p1 < (p0.length : Int)) then
      oB (idx p0 (IntKind.i64.wrap (p1 - 1))) fun x1 =>
      oB (idx p0 p1) fun x2 =>
      oB (value_byScore x1 x2) fun x3 =>
      bif decide (0 ≤ x3) then
        some (.inr (.inl ()))
      else
      some (.inl (IntKind.i64.wrap (p1 + 1)))
    else
    some (.inr (.inr ()))
noncomputable def value_rising_Score_value_byScore (p0 : List GScore) : Option Bool :=
  oB (ci (st_value_rising_Score_value_byScore_0 p0) 1) fun
  | .inl _ =>
    some false
  | .inr _ =>
    some true
def K_value_rising_Score_value_byScore (C : ak) : Prop := ∀ (p0 : List GScore) (r : Bool), value_rising_Score_value_byScore p0 = some r → C 74 [.v (.sl 2 (ab GScore.row p0)), .clo 75 []] [] = some (.v (.b r), [])
noncomputable def st_value_rising_string_strings_Compare_0 (p0 : List ByteArray) (s : Int) : Option (Int ⊕ (Unit ⊕ Unit)) :=
  match s with
  | p1 =>
    bif decide (p1 < (p0.length : Int)) then
      oB (idx p0 (IntKind.i64.wrap (p1 - 1))) fun x1 =>
      oB (idx p0 p1) fun x2 =>
      bif decide (0 ≤ (strings_Compare_v x1 x2)) then
        some (.inr (.inl ()))
      else
      some (.inl (IntKind.i64.wrap (p1 + 1)))
    else
    some (.inr (.inr ()))
noncomputable def value_rising_string_strings_Compare (p0 : List ByteArray) : Option Bool :=
  oB (ci (st_value_rising_string_strings_Compare_0 p0) 1) fun
  | .inl _ =>
    some false
  | .inr _ =>
    some true
def K_value_rising_string_strings_Compare (C : ak) : Prop := ∀ (p0 : List ByteArray) (r : Bool), value_rising_string_strings_Compare p0 = some r → C 76 [.v (.sl 1 (ab aY p0)), .clo 77 []] [] = some (.v (.b r), [])
noncomputable def value_rank_fn1 (p0 : GScore) (p1 : ByteArray) : Option (Bool × ByteArray) :=
  some (cJ p0.fMember p1, p1)
def K_value_rank_fn1 (C : ak) : Prop := ∀ (p0 : GScore) (p1 : ByteArray) (r : Bool × ByteArray), value_rank_fn1 p0 p1 = some r → C 114 [.agg [.v (.s p0.fMember), .v (.i .i64 p0.fN)], .ptr 0 0] [[.v (.s p1)]] = some (.v (.b r.1), [[.v (.s r.2)]])
noncomputable def st_slices_IndexFunc_Score_Score_value_rank_fn1_0 (p0 : List GScore) (p1 : Int) (s : Int × ByteArray) : Option ((Int × ByteArray) ⊕ ((Int × ByteArray) ⊕ ByteArray)) :=
  match s with
  | (p2, p3) =>
    bif decide (p2 < p1) then
      oB (idx p0 p2) fun x1 =>
      oB (value_rank_fn1 x1 p3) fun (x2, x3) =>
      bif x2 then
        some (.inr (.inl (p2, x3)))
      else
      some (.inl ((IntKind.i64.wrap (p2 + 1)), x3))
    else
    some (.inr (.inr p3))
noncomputable def slices_IndexFunc_Score_Score_value_rank_fn1 (p0 : List GScore) (p1 : ByteArray) : Option (Int × ByteArray) :=
  oB (ci (st_slices_IndexFunc_Score_Score_value_rank_fn1_0 p0 (p0.length : Int)) (0, p1)) fun
  | .inl (x1, x2) =>
    some (x1, x2)
  | .inr x1 =>
    some ((-1), x1)
def K_slices_IndexFunc_Score_Score_value_rank_fn1 (C : ak) : Prop := ∀ (p0 : List GScore) (p1 : ByteArray) (r : Int × ByteArray), slices_IndexFunc_Score_Score_value_rank_fn1 p0 p1 = some r → C 110 [.v (.sl 2 (ab GScore.row p0)), .clo 114 [.ptr 0 0]] [[.v (.s p1)]] = some (.v (.i .i64 r.1), [[.v (.s r.2)]])
noncomputable def value_rank (p0 : List GScore) (p1 : ByteArray) : Option Int :=
  oB (slices_IndexFunc_Score_Score_value_rank_fn1 p0 p1) fun (x1, x2) =>
  some x1
def K_value_rank (C : ak) : Prop := ∀ (p0 : List GScore) (p1 : ByteArray) (r : Int), value_rank p0 p1 = some r → C 78 [.v (.sl 2 (ab GScore.row p0)), .v (.s p1)] [] = some (.v (.i .i64 r), [])
noncomputable def ck_value_Check_k16 (p0 : GValue) (p1 : Int) (p2 : Int) (p3 : List GPair) (p4 : List ByteArray) (p5 : List GScore) : Option Bool :=
  bif decide (3 ≤ p0.fKind) then
    bif decide ((value_elements_v p0) < 1) then
      some true
    else
    some (decide (20 < (value_elements_v p0)))
  else
  some false
noncomputable def ck_value_Check_k16_v (p0 : GValue) (p1 : Int) (p2 : Int) (p3 : List GPair) (p4 : List ByteArray) (p5 : List GScore) : Bool :=
  bif decide (3 ≤ p0.fKind) then
    bif decide ((value_elements_v p0) < 1) then
      true
    else
    decide (20 < (value_elements_v p0))
  else
  false
theorem ck_value_Check_k16_t (p0 : GValue) (p1 : Int) (p2 : Int) (p3 : List GPair) (p4 : List ByteArray) (p5 : List GScore) : ck_value_Check_k16 p0 p1 p2 p3 p4 p5 = some (ck_value_Check_k16_v p0 p1 p2 p3 p4 p5) := by
  simp only [ck_value_Check_k16, ck_value_Check_k16_v, cx]
noncomputable def ck_value_Check_k26 (p0 : GValue) (p1 : Int) (p2 : Int) (p3 : List GPair) (p4 : List ByteArray) (p5 : List GScore) : Option Bool :=
  oB (value_rising_Pair_value_byField p0.fPairs) fun x1 =>
  bif x1 then
    oB (value_rising_Score_value_byScore p0.fScores) fun x2 =>
    bif x2 then
      bif (p0.fKind == 5) then
        oB (value_rising_string_strings_Compare p0.fItems) fun x3 =>
        some x3
      else
      some true
    else
    some false
  else
  some false
noncomputable def st_value_Check_1 (p0 : GValue) (p2 : List GScore) (p3 : Int) (p5 : Int) (p6 : Int) (p7 : List GPair) (p8 : List ByteArray) (s : Bool × Int) : Option ((Bool × Int) ⊕ Bool) :=
  match s with
  | (p1, p4) =>
    bif decide (p4 < p3) then
      oB (idx p2 p4) fun x1 =>
      bif p1 then
        bif rngB 0 p4 (p0.fScores.length : Int) then
          oB (value_rank (cI p0.fScores 0 p4) x1.fMember) fun x2 =>
          some (.inl (decide (x2 < 0), (IntKind.i64.wrap (p4 + 1))))
        else
        none
      else
      some (.inl (false, (IntKind.i64.wrap (p4 + 1))))
    else
    some (.inr p1)
noncomputable def ck_value_Check_k16v2 (p0 : GValue) (p1 : Int) (p2 : ByteArray) (p3 : List GPair) (p4 : List ByteArray) (p5 : List GScore) : Option Bool :=
  bif decide (3 ≤ p0.fKind) then
    bif decide ((value_elements_v p0) < 1) then
      some true
    else
    some (decide (20 < (value_elements_v p0)))
  else
  some false
noncomputable def ck_value_Check_k16v2_v (p0 : GValue) (p1 : Int) (p2 : ByteArray) (p3 : List GPair) (p4 : List ByteArray) (p5 : List GScore) : Bool :=
  bif decide (3 ≤ p0.fKind) then
    bif decide ((value_elements_v p0) < 1) then
      true
    else
    decide (20 < (value_elements_v p0))
  else
  false
theorem ck_value_Check_k16v2_t (p0 : GValue) (p1 : Int) (p2 : ByteArray) (p3 : List GPair) (p4 : List ByteArray) (p5 : List GScore) : ck_value_Check_k16v2 p0 p1 p2 p3 p4 p5 = some (ck_value_Check_k16v2_v p0 p1 p2 p3 p4 p5) := by
  simp only [ck_value_Check_k16v2, ck_value_Check_k16v2_v, cx]
noncomputable def ck_value_Check_k26v2 (p0 : GValue) (p1 : Int) (p2 : ByteArray) (p3 : List GPair) (p4 : List ByteArray) (p5 : List GScore) : Option Bool :=
  oB (value_rising_Pair_value_byField p0.fPairs) fun x1 =>
  bif x1 then
    oB (value_rising_Score_value_byScore p0.fScores) fun x2 =>
    bif x2 then
      bif (p0.fKind == 5) then
        oB (value_rising_string_strings_Compare p0.fItems) fun x3 =>
        some x3
      else
      some true
    else
    some false
  else
  some false
noncomputable def st_value_Check_1v2 (p0 : GValue) (p2 : List GScore) (p3 : Int) (p5 : Int) (p6 : ByteArray) (p7 : List GPair) (p8 : List ByteArray) (s : Bool × Int) : Option ((Bool × Int) ⊕ Bool) :=
  match s with
  | (p1, p4) =>
    bif decide (p4 < p3) then
      oB (idx p2 p4) fun x1 =>
      bif p1 then
        bif rngB 0 p4 (p0.fScores.length : Int) then
          oB (value_rank (cI p0.fScores 0 p4) x1.fMember) fun x2 =>
          some (.inl (decide (x2 < 0), (IntKind.i64.wrap (p4 + 1))))
        else
        none
      else
      some (.inl (false, (IntKind.i64.wrap (p4 + 1))))
    else
    some (.inr p1)
noncomputable def ck_value_Check_k16v3 (p0 : GValue) (p1 : Int) (p2 : ByteArray) (p3 : Int) (p4 : List ByteArray) (p5 : List GScore) : Option Bool :=
  bif decide (3 ≤ p0.fKind) then
    bif decide ((value_elements_v p0) < 1) then
      some true
    else
    some (decide (20 < (value_elements_v p0)))
  else
  some false
noncomputable def ck_value_Check_k16v3_v (p0 : GValue) (p1 : Int) (p2 : ByteArray) (p3 : Int) (p4 : List ByteArray) (p5 : List GScore) : Bool :=
  bif decide (3 ≤ p0.fKind) then
    bif decide ((value_elements_v p0) < 1) then
      true
    else
    decide (20 < (value_elements_v p0))
  else
  false
theorem ck_value_Check_k16v3_t (p0 : GValue) (p1 : Int) (p2 : ByteArray) (p3 : Int) (p4 : List ByteArray) (p5 : List GScore) : ck_value_Check_k16v3 p0 p1 p2 p3 p4 p5 = some (ck_value_Check_k16v3_v p0 p1 p2 p3 p4 p5) := by
  simp only [ck_value_Check_k16v3, ck_value_Check_k16v3_v, cx]
noncomputable def ck_value_Check_k26v3 (p0 : GValue) (p1 : Int) (p2 : ByteArray) (p3 : Int) (p4 : List ByteArray) (p5 : List GScore) : Option Bool :=
  oB (value_rising_Pair_value_byField p0.fPairs) fun x1 =>
  bif x1 then
    oB (value_rising_Score_value_byScore p0.fScores) fun x2 =>
    bif x2 then
      bif (p0.fKind == 5) then
        oB (value_rising_string_strings_Compare p0.fItems) fun x3 =>
        some x3
      else
      some true
    else
    some false
  else
  some false
noncomputable def st_value_Check_1v3 (p0 : GValue) (p2 : List GScore) (p3 : Int) (p5 : Int) (p6 : ByteArray) (p7 : Int) (p8 : List ByteArray) (s : Bool × Int) : Option ((Bool × Int) ⊕ Bool) :=
  match s with
  | (p1, p4) =>
    bif decide (p4 < p3) then
      oB (idx p2 p4) fun x1 =>
      bif p1 then
        bif rngB 0 p4 (p0.fScores.length : Int) then
          oB (value_rank (cI p0.fScores 0 p4) x1.fMember) fun x2 =>
          some (.inl (decide (x2 < 0), (IntKind.i64.wrap (p4 + 1))))
        else
        none
      else
      some (.inl (false, (IntKind.i64.wrap (p4 + 1))))
    else
    some (.inr p1)
noncomputable def ck_value_Check_k16v4 (p0 : GValue) (p1 : Int) (p2 : ByteArray) (p3 : Int) (p4 : List GPair) (p5 : List ByteArray) : Option Bool :=
  bif decide (3 ≤ p0.fKind) then
    bif decide ((value_elements_v p0) < 1) then
      some true
    else
    some (decide (20 < (value_elements_v p0)))
  else
  some false
noncomputable def ck_value_Check_k16v4_v (p0 : GValue) (p1 : Int) (p2 : ByteArray) (p3 : Int) (p4 : List GPair) (p5 : List ByteArray) : Bool :=
  bif decide (3 ≤ p0.fKind) then
    bif decide ((value_elements_v p0) < 1) then
      true
    else
    decide (20 < (value_elements_v p0))
  else
  false
theorem ck_value_Check_k16v4_t (p0 : GValue) (p1 : Int) (p2 : ByteArray) (p3 : Int) (p4 : List GPair) (p5 : List ByteArray) : ck_value_Check_k16v4 p0 p1 p2 p3 p4 p5 = some (ck_value_Check_k16v4_v p0 p1 p2 p3 p4 p5) := by
  simp only [ck_value_Check_k16v4, ck_value_Check_k16v4_v, cx]
noncomputable def ck_value_Check_k26v4 (p0 : GValue) (p1 : Int) (p2 : ByteArray) (p3 : Int) (p4 : List GPair) (p5 : List ByteArray) : Option Bool :=
  oB (value_rising_Pair_value_byField p0.fPairs) fun x1 =>
  bif x1 then
    oB (value_rising_Score_value_byScore p0.fScores) fun x2 =>
    bif x2 then
      bif (p0.fKind == 5) then
        oB (value_rising_string_strings_Compare p0.fItems) fun x3 =>
        some x3
      else
      some true
    else
    some false
  else
  some false
noncomputable def st_value_Check_1v4 (p0 : GValue) (p2 : List GScore) (p3 : Int) (p5 : Int) (p6 : ByteArray) (p7 : Int) (p8 : List GPair) (p9 : List ByteArray) (s : Bool × Int) : Option ((Bool × Int) ⊕ Bool) :=
  match s with
  | (p1, p4) =>
    bif decide (p4 < p3) then
      oB (idx p2 p4) fun x1 =>
      bif p1 then
        bif rngB 0 p4 (p0.fScores.length : Int) then
          oB (value_rank (cI p0.fScores 0 p4) x1.fMember) fun x2 =>
          some (.inl (decide (x2 < 0), (IntKind.i64.wrap (p4 + 1))))
        else
        none
      else
      some (.inl (false, (IntKind.i64.wrap (p4 + 1))))
    else
    some (.inr p1)
noncomputable def ck_value_Check_k16v5 (p0 : GValue) (p1 : Int) (p2 : ByteArray) (p3 : Int) (p4 : List GPair) (p5 : List GScore) : Option Bool :=
  bif decide (3 ≤ p0.fKind) then
    bif decide ((value_elements_v p0) < 1) then
      some true
    else
    some (decide (20 < (value_elements_v p0)))
  else
  some false
noncomputable def ck_value_Check_k16v5_v (p0 : GValue) (p1 : Int) (p2 : ByteArray) (p3 : Int) (p4 : List GPair) (p5 : List GScore) : Bool :=
  bif decide (3 ≤ p0.fKind) then
    bif decide ((value_elements_v p0) < 1) then
      true
    else
    decide (20 < (value_elements_v p0))
  else
  false
theorem ck_value_Check_k16v5_t (p0 : GValue) (p1 : Int) (p2 : ByteArray) (p3 : Int) (p4 : List GPair) (p5 : List GScore) : ck_value_Check_k16v5 p0 p1 p2 p3 p4 p5 = some (ck_value_Check_k16v5_v p0 p1 p2 p3 p4 p5) := by
  simp only [ck_value_Check_k16v5, ck_value_Check_k16v5_v, cx]
noncomputable def ck_value_Check_k26v5 (p0 : GValue) (p1 : Int) (p2 : ByteArray) (p3 : Int) (p4 : List GPair) (p5 : List GScore) : Option Bool :=
  oB (value_rising_Pair_value_byField p0.fPairs) fun x1 =>
  bif x1 then
    oB (value_rising_Score_value_byScore p0.fScores) fun x2 =>
    bif x2 then
      bif (p0.fKind == 5) then
        oB (value_rising_string_strings_Compare p0.fItems) fun x3 =>
        some x3
      else
      some true
    else
    some false
  else
  some false
noncomputable def st_value_Check_1v5 (p0 : GValue) (p2 : List GScore) (p3 : Int) (p5 : Int) (p6 : ByteArray) (p7 : Int) (p8 : List GPair) (s : Bool × Int) : Option ((Bool × Int) ⊕ Bool) :=
  match s with
  | (p1, p4) =>
    bif decide (p4 < p3) then
      oB (idx p2 p4) fun x1 =>
      bif p1 then
        bif rngB 0 p4 (p0.fScores.length : Int) then
          oB (value_rank (cI p0.fScores 0 p4) x1.fMember) fun x2 =>
          some (.inl (decide (x2 < 0), (IntKind.i64.wrap (p4 + 1))))
        else
        none
      else
      some (.inl (false, (IntKind.i64.wrap (p4 + 1))))
    else
    some (.inr p1)
noncomputable def value_Check_c0 (p0 : GValue) (x1 : Bool) (x2 : Bool) (x3 : Bool) : Option Int :=
  bif x3 then
    some 1
  else
  bif (value_count_v p0.fCount) then
    oB (slices_ContainsFunc_Score_Score_value_Check_fn4 p0.fScores) fun x4 =>
    bif x4 then
      some 2
    else
    oB (ck_value_Check_k26 p0 p0.fKind p0.fCount p0.fPairs p0.fItems p0.fScores) fun x5 =>
    oB (ci (st_value_Check_1 p0 p0.fScores (p0.fScores.length : Int) p0.fKind p0.fCount p0.fPairs p0.fItems) (x5, 0)) fun x6 =>
    bif x6 then
      some 0
    else
    some 10
  else
  some 2
noncomputable def value_Check_c1 (p0 : GValue) : Option Int :=
  bif (ck_value_Check_k16_v p0 p0.fKind p0.fCount p0.fPairs p0.fItems p0.fScores) then
    some 1
  else
  bif (value_text_v p0.fText) then
    oB (slices_ContainsFunc_string_string_value_Check_fn1 p0.fItems) fun x1 =>
    bif x1 then
      some 1
    else
    oB (slices_ContainsFunc_Pair_Pair_value_Check_fn2 p0.fPairs) fun x2 =>
    bif x2 then
      some 1
    else
    oB (slices_ContainsFunc_Score_Score_value_Check_fn3 p0.fScores) fun x3 =>
    value_Check_c0 p0 x1 x2 x3
  else
  some 1
noncomputable def value_Check_c2 (p0 : GValue) (x1 : Bool) (x2 : Bool) (x3 : Bool) : Option Int :=
  bif x3 then
    some 1
  else
  bif (value_count_v p0.fCount) then
    oB (slices_ContainsFunc_Score_Score_value_Check_fn4 p0.fScores) fun x4 =>
    bif x4 then
      some 2
    else
    oB (ck_value_Check_k26v2 p0 p0.fKind p0.fText p0.fPairs p0.fItems p0.fScores) fun x5 =>
    oB (ci (st_value_Check_1v2 p0 p0.fScores (p0.fScores.length : Int) p0.fKind p0.fText p0.fPairs p0.fItems) (x5, 0)) fun x6 =>
    bif x6 then
      some 0
    else
    some 10
  else
  some 2
noncomputable def value_Check_c3 (p0 : GValue) : Option Int :=
  bif (ck_value_Check_k16v2_v p0 p0.fKind p0.fText p0.fPairs p0.fItems p0.fScores) then
    some 1
  else
  bif (value_text_v p0.fText) then
    oB (slices_ContainsFunc_string_string_value_Check_fn1 p0.fItems) fun x1 =>
    bif x1 then
      some 1
    else
    oB (slices_ContainsFunc_Pair_Pair_value_Check_fn2 p0.fPairs) fun x2 =>
    bif x2 then
      some 1
    else
    oB (slices_ContainsFunc_Score_Score_value_Check_fn3 p0.fScores) fun x3 =>
    value_Check_c2 p0 x1 x2 x3
  else
  some 1
noncomputable def value_Check_c4 (p0 : GValue) (x1 : Bool) (x2 : Bool) (x3 : Bool) : Option Int :=
  bif x3 then
    some 1
  else
  bif (value_count_v p0.fCount) then
    oB (slices_ContainsFunc_Score_Score_value_Check_fn4 p0.fScores) fun x4 =>
    bif x4 then
      some 2
    else
    oB (ck_value_Check_k26v3 p0 p0.fKind p0.fText p0.fCount p0.fItems p0.fScores) fun x5 =>
    oB (ci (st_value_Check_1v3 p0 p0.fScores (p0.fScores.length : Int) p0.fKind p0.fText p0.fCount p0.fItems) (x5, 0)) fun x6 =>
    bif x6 then
      some 0
    else
    some 10
  else
  some 2
noncomputable def value_Check_c5 (p0 : GValue) : Option Int :=
  bif (ck_value_Check_k16v3_v p0 p0.fKind p0.fText p0.fCount p0.fItems p0.fScores) then
    some 1
  else
  bif (value_text_v p0.fText) then
    oB (slices_ContainsFunc_string_string_value_Check_fn1 p0.fItems) fun x1 =>
    bif x1 then
      some 1
    else
    oB (slices_ContainsFunc_Pair_Pair_value_Check_fn2 p0.fPairs) fun x2 =>
    bif x2 then
      some 1
    else
    oB (slices_ContainsFunc_Score_Score_value_Check_fn3 p0.fScores) fun x3 =>
    value_Check_c4 p0 x1 x2 x3
  else
  some 1
noncomputable def value_Check_c6 (p0 : GValue) (x1 : Bool) (x2 : Bool) (x3 : Bool) : Option Int :=
  bif x3 then
    some 1
  else
  bif (value_count_v p0.fCount) then
    oB (slices_ContainsFunc_Score_Score_value_Check_fn4 p0.fScores) fun x4 =>
    bif x4 then
      some 2
    else
    oB (ck_value_Check_k26v4 p0 p0.fKind p0.fText p0.fCount p0.fPairs p0.fItems) fun x5 =>
    oB (ci (st_value_Check_1v4 p0 p0.fScores (p0.fScores.length : Int) p0.fKind p0.fText p0.fCount p0.fPairs p0.fItems) (x5, 0)) fun x6 =>
    bif x6 then
      some 0
    else
    some 10
  else
  some 2
noncomputable def value_Check_c7 (p0 : GValue) : Option Int :=
  bif (ck_value_Check_k16v4_v p0 p0.fKind p0.fText p0.fCount p0.fPairs p0.fItems) then
    some 1
  else
  bif (value_text_v p0.fText) then
    oB (slices_ContainsFunc_string_string_value_Check_fn1 p0.fItems) fun x1 =>
    bif x1 then
      some 1
    else
    oB (slices_ContainsFunc_Pair_Pair_value_Check_fn2 p0.fPairs) fun x2 =>
    bif x2 then
      some 1
    else
    oB (slices_ContainsFunc_Score_Score_value_Check_fn3 p0.fScores) fun x3 =>
    value_Check_c6 p0 x1 x2 x3
  else
  some 1
noncomputable def value_Check_c8 (p0 : GValue) (x1 : Bool) (x2 : Bool) (x3 : Bool) : Option Int :=
  bif x3 then
    some 1
  else
  bif (value_count_v p0.fCount) then
    oB (slices_ContainsFunc_Score_Score_value_Check_fn4 p0.fScores) fun x4 =>
    bif x4 then
      some 2
    else
    oB (ck_value_Check_k26v5 p0 p0.fKind p0.fText p0.fCount p0.fPairs p0.fScores) fun x5 =>
    oB (ci (st_value_Check_1v5 p0 p0.fScores (p0.fScores.length : Int) p0.fKind p0.fText p0.fCount p0.fPairs) (x5, 0)) fun x6 =>
    bif x6 then
      some 0
    else
    some 10
  else
  some 2
noncomputable def value_Check_c9 (p0 : GValue) : Option Int :=
  bif (ck_value_Check_k16v5_v p0 p0.fKind p0.fText p0.fCount p0.fPairs p0.fScores) then
    some 1
  else
  bif (value_text_v p0.fText) then
    oB (slices_ContainsFunc_string_string_value_Check_fn1 p0.fItems) fun x1 =>
    bif x1 then
      some 1
    else
    oB (slices_ContainsFunc_Pair_Pair_value_Check_fn2 p0.fPairs) fun x2 =>
    bif x2 then
      some 1
    else
    oB (slices_ContainsFunc_Score_Score_value_Check_fn3 p0.fScores) fun x3 =>
    value_Check_c8 p0 x1 x2 x3
  else
  some 1
noncomputable def value_Check_c10 (p0 : GValue) : Option Int :=
  bif (p0.fKind == 6) then
    bif cJ p0.fText ByteArray.empty then
      bif (p0.fCount == 0) then
        bif decide (0 < (value_elements_v (GValue.mk p0.fKind p0.fText p0.fCount p0.fPairs p0.fItems []))) then
          some 8
        else
        value_Check_c7 p0
      else
      some 8
    else
    some 8
  else
  bif cJ p0.fText ByteArray.empty then
    bif (p0.fCount == 0) then
      bif decide (0 < (value_elements_v (GValue.mk p0.fKind p0.fText p0.fCount p0.fPairs [] p0.fScores))) then
        some 8
      else
      value_Check_c9 p0
    else
    some 8
  else
  some 8
noncomputable def value_Check_c11 (p0 : GValue) : Option Int :=
  bif (p0.fKind == 2) then
    bif cJ p0.fText ByteArray.empty then
      bif decide (0 < (value_elements_v (GValue.mk p0.fKind p0.fText 0 p0.fPairs p0.fItems p0.fScores))) then
        some 8
      else
      value_Check_c3 p0
    else
    some 8
  else
  bif (p0.fKind == 3) then
    bif cJ p0.fText ByteArray.empty then
      bif (p0.fCount == 0) then
        bif decide (0 < (value_elements_v (GValue.mk p0.fKind p0.fText p0.fCount [] p0.fItems p0.fScores))) then
          some 8
        else
        value_Check_c5 p0
      else
      some 8
    else
    some 8
  else
  value_Check_c10 p0
noncomputable def value_Check (p0 : GValue) : Option Int :=
  bif decide (p0.fKind < 1) then
    some 3
  else
  bif decide (6 < p0.fKind) then
    some 3
  else
  bif (p0.fKind == 1) then
    bif (p0.fCount == 0) then
      bif decide (0 < (value_elements_v (GValue.mk p0.fKind ByteArray.empty p0.fCount p0.fPairs p0.fItems p0.fScores))) then
        some 8
      else
      value_Check_c1 p0
    else
    some 8
  else
  value_Check_c11 p0
def K_value_Check (C : ak) : Prop := ∀ (p0 : GValue) (r : Int), value_Check p0 = some r → C 28 [.agg [.v (.i .i64 p0.fKind), .v (.s p0.fText), .v (.i .i64 p0.fCount), .v (.sl 2 (ab GPair.row p0.fPairs)), .v (.sl 1 (ab aY p0.fItems)), .v (.sl 2 (ab GScore.row p0.fScores))]] [] = some (.v (.i .i64 r), [])
noncomputable def ck_store_Check_k1 (p0 : GStore) : Option Bool :=
  bif decide (p0.fNow < 0) then
    some true
  else
  bif decide (1073741824 < p0.fNow) then
    some true
  else
  some (decide (12 < (p0.fEntries.length : Int)))
noncomputable def ck_store_Check_k1_v (p0 : GStore) : Bool :=
  bif decide (p0.fNow < 0) then
    true
  else
  bif decide (1073741824 < p0.fNow) then
    true
  else
  decide (12 < (p0.fEntries.length : Int))
theorem ck_store_Check_k1_t (p0 : GStore) : ck_store_Check_k1 p0 = some (ck_store_Check_k1_v p0) := by
  simp only [ck_store_Check_k1, ck_store_Check_k1_v, cx]
noncomputable def ck_store_Check_k6v2 (p0 : GStore) (p1 : Int) (p2 : List GEntry) (p3 : Int) (p4 : GEntry) : Option Bool :=
  bif decide ((p4.fKey.size : Int) < 1) then
    some true
  else
  bif decide (12 < (p4.fKey.size : Int)) then
    some true
  else
  oB (value_Check p4.fValue) fun x1 =>
  bif (x1 == 0) then
    bif decide (0 < p1) then
      oB (idx p0.fEntries (IntKind.i64.wrap (p1 - 1))) fun x2 =>
      some (!sltB x2.fKey p4.fKey)
    else
    some false
  else
  some true
noncomputable def ck_store_Check_k8v2 (p0 : GStore) (p1 : List GEntry) (p2 : Int) (p3 : Int) (p4 : GEntry) : Option Bool :=
  bif (p4.fUntil == 0) then
    some false
  else
  bif decide (p4.fUntil ≤ p0.fNow) then
    some true
  else
  some (decide (1073741824 < p4.fUntil))
noncomputable def ck_store_Check_k8v2_v (p0 : GStore) (p1 : List GEntry) (p2 : Int) (p3 : Int) (p4 : GEntry) : Bool :=
  bif (p4.fUntil == 0) then
    false
  else
  bif decide (p4.fUntil ≤ p0.fNow) then
    true
  else
  decide (1073741824 < p4.fUntil)
theorem ck_store_Check_k8v2_t (p0 : GStore) (p1 : List GEntry) (p2 : Int) (p3 : Int) (p4 : GEntry) : ck_store_Check_k8v2 p0 p1 p2 p3 p4 = some (ck_store_Check_k8v2_v p0 p1 p2 p3 p4) := by
  simp only [ck_store_Check_k8v2, ck_store_Check_k8v2_v, cx]
noncomputable def st_store_Check_0 (p0 : GStore) (p1 : List GEntry) (p2 : Int) (s : Int) : Option (Int ⊕ (GEntry ⊕ Unit)) :=
  match s with
  | p3 =>
    bif decide (p3 < p2) then
      oB (idx p1 p3) fun x1 =>
      oB (ck_store_Check_k6v2 p0 p3 p1 p2 x1) fun x2 =>
      bif x2 then
        some (.inr (.inl x1))
      else
      bif (ck_store_Check_k8v2_v p0 p1 p2 p3 x1) then
        some (.inr (.inl x1))
      else
      some (.inl (IntKind.i64.wrap (p3 + 1)))
    else
    some (.inr (.inr ()))
noncomputable def store_Check (p0 : GStore) : Option Int :=
  bif (ck_store_Check_k1_v p0) then
    some 13
  else
  oB (ci (st_store_Check_0 p0 p0.fEntries (p0.fEntries.length : Int)) 0) fun
  | .inl x1 =>
    some 13
  | .inr _ =>
    some 0
def K_store_Check (C : ak) : Prop := ∀ (p0 : GStore) (r : Int), store_Check p0 = some r → C 34 [.agg [.v (.i .i64 p0.fNow), .v (.sl 8 (ab GEntry.row p0.fEntries))]] [] = some (.v (.i .i64 r), [])
noncomputable def client_CheckReply_fn1 (p0 : ByteArray) : Option Bool :=
  some (decide (20 < (p0.size : Int)))
noncomputable def client_CheckReply_fn1_v (p0 : ByteArray) : Bool := decide (20 < (p0.size : Int))
theorem client_CheckReply_fn1_t (p0 : ByteArray) : client_CheckReply_fn1 p0 = some (client_CheckReply_fn1_v p0) := by
  simp only [client_CheckReply_fn1, client_CheckReply_fn1_v]
def K_client_CheckReply_fn1 (C : ak) : Prop := ∀ (p0 : ByteArray) (r : Bool), client_CheckReply_fn1 p0 = some r → C 122 [.v (.s p0)] [] = some (.v (.b r), [])
noncomputable def st_slices_IndexFunc_string_string_client_CheckReply_fn1_0 (p0 : List ByteArray) (p1 : Int) (s : Int) : Option (Int ⊕ (Int ⊕ Unit)) :=
  match s with
  | p2 =>
    bif decide (p2 < p1) then
      oB (idx p0 p2) fun x1 =>
      bif (client_CheckReply_fn1_v x1) then
        some (.inr (.inl p2))
      else
      some (.inl (IntKind.i64.wrap (p2 + 1)))
    else
    some (.inr (.inr ()))
noncomputable def slices_IndexFunc_string_string_client_CheckReply_fn1 (p0 : List ByteArray) : Option Int :=
  oB (ci (st_slices_IndexFunc_string_string_client_CheckReply_fn1_0 p0 (p0.length : Int)) 0) fun
  | .inl x1 =>
    some x1
  | .inr _ =>
    some (-1)
def K_slices_IndexFunc_string_string_client_CheckReply_fn1 (C : ak) : Prop := ∀ (p0 : List ByteArray) (r : Int), slices_IndexFunc_string_string_client_CheckReply_fn1 p0 = some r → C 108 [.v (.sl 1 (ab aY p0)), .clo 122 []] [] = some (.v (.i .i64 r), [])
noncomputable def slices_ContainsFunc_string_string_client_CheckReply_fn1 (p0 : List ByteArray) : Option Bool :=
  oB (slices_IndexFunc_string_string_client_CheckReply_fn1 p0) fun x1 =>
  some (decide (0 ≤ x1))
def K_slices_ContainsFunc_string_string_client_CheckReply_fn1 (C : ak) : Prop := ∀ (p0 : List ByteArray) (r : Bool), slices_ContainsFunc_string_string_client_CheckReply_fn1 p0 = some r → C 63 [.v (.sl 1 (ab aY p0)), .clo 122 []] [] = some (.v (.b r), [])
noncomputable def client_CheckReply_c0 (p0 : GReply) : Option Int :=
  bif decide (13 < p0.fCode) then
    some 3
  else
  bif decide (20 < (p0.fText.size : Int)) then
    some 1
  else
  bif decide (20 < (p0.fList.length : Int)) then
    some 1
  else
  oB (slices_ContainsFunc_string_string_client_CheckReply_fn1 p0.fList) fun x1 =>
  bif x1 then
    some 1
  else
  bif decide (p0.fN < (-1099511627776)) then
    some 2
  else
  bif decide (1099511627776 < p0.fN) then
    some 2
  else
  some 0
noncomputable def client_CheckReply (p0 : GReply) : Option Int :=
  bif decide (p0.fCode < 0) then
    some 3
  else
  client_CheckReply_c0 p0
def K_client_CheckReply (C : ak) : Prop := ∀ (p0 : GReply) (r : Int), client_CheckReply p0 = some r → C 89 [.agg [.v (.i .i64 p0.fCode), .v (.s p0.fText), .v (.i .i64 p0.fN), .v (.sl 1 (ab aY p0.fList))]] [] = some (.v (.i .i64 r), [])
noncomputable def ck_client_Check_k1 (p0 : GMachine) : Option Bool :=
  oB (store_Check p0.fStore) fun x1 =>
  bif (x1 == 0) then
    bif decide (p0.fNext < 1) then
      some true
    else
    bif decide (1048577 < p0.fNext) then
      some true
    else
    some (decide (4 < (p0.fClients.length : Int)))
  else
  some true
noncomputable def ck_client_Check_k6v2 (p0 : GMachine) (p1 : Int) (p2 : List GClient) (p3 : Int) (p4 : GClient) : Option Bool :=
  bif decide (p4.fId < 1) then
    some true
  else
  bif decide (p0.fNext ≤ p4.fId) then
    some true
  else
  bif decide (0 < p1) then
    oB (idx p0.fClients (IntKind.i64.wrap (p1 - 1))) fun x1 =>
    some (decide (p4.fId ≤ x1.fId))
  else
  some false
noncomputable def ck_client_Check_k8v2 (p0 : GMachine) (p1 : List GClient) (p2 : Int) (p3 : Int) (p4 : GClient) : Option Bool :=
  bif decide (p4.fSeq < 0) then
    some true
  else
  bif decide (1048576 < p4.fSeq) then
    some true
  else
  bif decide (p4.fTime < 0) then
    some true
  else
  bif decide (p0.fStore.fNow < p4.fTime) then
    some true
  else
  oB (client_CheckReply p4.fReply) fun x1 =>
  some (!(x1 == 0))
noncomputable def st_client_Check_0 (p0 : GMachine) (p1 : List GClient) (p2 : Int) (s : Int) : Option (Int ⊕ (GClient ⊕ Unit)) :=
  match s with
  | p3 =>
    bif decide (p3 < p2) then
      oB (idx p1 p3) fun x1 =>
      oB (ck_client_Check_k6v2 p0 p3 p1 p2 x1) fun x2 =>
      bif x2 then
        some (.inr (.inl x1))
      else
      oB (ck_client_Check_k8v2 p0 p1 p2 p3 x1) fun x3 =>
      bif x3 then
        some (.inr (.inl x1))
      else
      some (.inl (IntKind.i64.wrap (p3 + 1)))
    else
    some (.inr (.inr ()))
noncomputable def client_Check (p0 : GMachine) : Option Int :=
  oB (ck_client_Check_k1 p0) fun x1 =>
  bif x1 then
    some 13
  else
  oB (ci (st_client_Check_0 p0 p0.fClients (p0.fClients.length : Int)) 0) fun
  | .inl x2 =>
    some 13
  | .inr _ =>
    some 0
def K_client_Check (C : ak) : Prop := ∀ (p0 : GMachine) (r : Int), client_Check p0 = some r → C 40 [.agg [.v (.i .i64 p0.fStore.fNow), .v (.sl 8 (ab GEntry.row p0.fStore.fEntries)), .v (.i .i64 p0.fNext), .v (.sl 7 (ab GClient.row p0.fClients))]] [] = some (.v (.i .i64 r), [])
noncomputable def tape_CheckSnap (p0 : GSnap) : Option Int :=
  bif (tape_number_v p0.fIndex) then
    bif (tape_number_v p0.fTerm) then
      oB (client_Check p0.fMachine) fun x1 =>
      some x1
    else
    some 2
  else
  some 2
def K_tape_CheckSnap (C : ak) : Prop := ∀ (p0 : GSnap) (r : Int), tape_CheckSnap p0 = some r → C 43 [.agg [.v (.i .i64 p0.fIndex), .v (.i .i64 p0.fTerm), .v (.i .i64 p0.fMachine.fStore.fNow), .v (.sl 8 (ab GEntry.row p0.fMachine.fStore.fEntries)), .v (.i .i64 p0.fMachine.fNext), .v (.sl 7 (ab GClient.row p0.fMachine.fClients))]] [] = some (.v (.i .i64 r), [])
noncomputable def rostrumref_In (p0 : Int) (p1 : Int) (p2 : Int) : Option Bool :=
  bif decide (p1 ≤ p0) then
    some (decide (p0 ≤ p2))
  else
  some false
noncomputable def rostrumref_In_v (p0 : Int) (p1 : Int) (p2 : Int) : Bool := (decide (p1 ≤ p0) && decide (p0 ≤ p2))
theorem rostrumref_In_t (p0 : Int) (p1 : Int) (p2 : Int) : rostrumref_In p0 p1 p2 = some (rostrumref_In_v p0 p1 p2) := by
  simp only [rostrumref_In, rostrumref_In_v]
  cases decide (p1 ≤ p0) <;> rfl
def K_rostrumref_In (C : ak) : Prop := ∀ (p0 : Int) (p1 : Int) (p2 : Int) (r : Bool), rostrumref_In p0 p1 p2 = some r → C 55 [.v (.i .i64 p0), .v (.i .i64 p1), .v (.i .i64 p2)] [] = some (.v (.b r), [])
noncomputable def rostrumref_numberMay (p0 : Int) : Option Bool :=
  some (decide (1 ≤ p0) && decide (p0 ≤ 1048576))
noncomputable def rostrumref_numberMay_v (p0 : Int) : Bool := (decide (1 ≤ p0) && decide (p0 ≤ 1048576))
theorem rostrumref_numberMay_t (p0 : Int) : rostrumref_numberMay p0 = some (rostrumref_numberMay_v p0) := by
  simp only [rostrumref_numberMay, rostrumref_numberMay_v]
def K_rostrumref_numberMay (C : ak) : Prop := ∀ (p0 : Int) (r : Bool), rostrumref_numberMay p0 = some r → C 91 [.v (.i .i64 p0)] [] = some (.v (.b r), [])
noncomputable def rostrumref_fieldMay (p0 : ByteArray) : Option Bool :=
  some (decide (1 ≤ (p0.size : Int)) && decide ((p0.size : Int) ≤ 12))
noncomputable def rostrumref_fieldMay_v (p0 : ByteArray) : Bool := (decide (1 ≤ (p0.size : Int)) && decide ((p0.size : Int) ≤ 12))
theorem rostrumref_fieldMay_t (p0 : ByteArray) : rostrumref_fieldMay p0 = some (rostrumref_fieldMay_v p0) := by
  simp only [rostrumref_fieldMay, rostrumref_fieldMay_v]
def K_rostrumref_fieldMay (C : ak) : Prop := ∀ (p0 : ByteArray) (r : Bool), rostrumref_fieldMay p0 = some r → C 81 [.v (.s p0)] [] = some (.v (.b r), [])
noncomputable def rostrumref_sizeOf (p0 : GValue) : Option Int :=
  some (IntKind.i64.wrap ((IntKind.i64.wrap ((p0.fPairs.length : Int) + (p0.fItems.length : Int))) + (p0.fScores.length : Int)))
noncomputable def rostrumref_sizeOf_v (p0 : GValue) : Int :=
  (IntKind.i64.wrap ((IntKind.i64.wrap ((p0.fPairs.length : Int) + (p0.fItems.length : Int))) + (p0.fScores.length : Int)))
theorem rostrumref_sizeOf_t (p0 : GValue) : rostrumref_sizeOf p0 = some (rostrumref_sizeOf_v p0) := by
  simp only [rostrumref_sizeOf, rostrumref_sizeOf_v, cx]
def K_rostrumref_sizeOf (C : ak) : Prop := ∀ (p0 : GValue) (r : Int), rostrumref_sizeOf p0 = some r → C 79 [.agg [.v (.i .i64 p0.fKind), .v (.s p0.fText), .v (.i .i64 p0.fCount), .v (.sl 2 (ab GPair.row p0.fPairs)), .v (.sl 1 (ab aY p0.fItems)), .v (.sl 2 (ab GScore.row p0.fScores))]] [] = some (.v (.i .i64 r), [])
noncomputable def rostrumref_textMay (p0 : ByteArray) : Option Bool :=
  some (decide ((p0.size : Int) ≤ 20))
noncomputable def rostrumref_textMay_v (p0 : ByteArray) : Bool := decide ((p0.size : Int) ≤ 20)
theorem rostrumref_textMay_t (p0 : ByteArray) : rostrumref_textMay p0 = some (rostrumref_textMay_v p0) := by
  simp only [rostrumref_textMay, rostrumref_textMay_v]
def K_rostrumref_textMay (C : ak) : Prop := ∀ (p0 : ByteArray) (r : Bool), rostrumref_textMay p0 = some r → C 80 [.v (.s p0)] [] = some (.v (.b r), [])
noncomputable def rostrumref_countMay (p0 : Int) : Option Bool :=
  some (decide ((-1099511627776) ≤ p0) && decide (p0 ≤ 1099511627776))
noncomputable def rostrumref_countMay_v (p0 : Int) : Bool := (decide ((-1099511627776) ≤ p0) && decide (p0 ≤ 1099511627776))
theorem rostrumref_countMay_t (p0 : Int) : rostrumref_countMay p0 = some (rostrumref_countMay_v p0) := by
  simp only [rostrumref_countMay, rostrumref_countMay_v]
def K_rostrumref_countMay (C : ak) : Prop := ∀ (p0 : Int) (r : Bool), rostrumref_countMay p0 = some r → C 82 [.v (.i .i64 p0)] [] = some (.v (.b r), [])
noncomputable def rostrumref_scoreAhead (p0 : GScore) (p1 : GScore) : Option Bool :=
  bif (p0.fN == p1.fN) then
    some (sltB p0.fMember p1.fMember)
  else
  some (decide (p0.fN < p1.fN))
noncomputable def rostrumref_scoreAhead_v (p0 : GScore) (p1 : GScore) : Bool := (bif (p0.fN == p1.fN) then sltB p0.fMember p1.fMember else decide (p0.fN < p1.fN))
theorem rostrumref_scoreAhead_t (p0 : GScore) (p1 : GScore) : rostrumref_scoreAhead p0 p1 = some (rostrumref_scoreAhead_v p0 p1) := by
  simp only [rostrumref_scoreAhead, rostrumref_scoreAhead_v]
  cases (p0.fN == p1.fN) <;> rfl
def K_rostrumref_scoreAhead (C : ak) : Prop := ∀ (p0 : GScore) (p1 : GScore) (r : Bool), rostrumref_scoreAhead p0 p1 = some r → C 83 [.agg [.v (.s p0.fMember), .v (.i .i64 p0.fN)], .agg [.v (.s p1.fMember), .v (.i .i64 p1.fN)]] [] = some (.v (.b r), [])
noncomputable def st_rostrumref_memberAt_0 (p0 : List GScore) (p1 : ByteArray) (s : Int) : Option (Int ⊕ (Int ⊕ Unit)) :=
  match s with
  | p2 =>
    bif decide (p2 < (p0.length : Int)) then
      oB (idx p0 p2) fun x1 =>
      bif cJ x1.fMember p1 then
        some (.inr (.inl p2))
      else
      some (.inl (IntKind.i64.wrap (p2 + 1)))
    else
    some (.inr (.inr ()))
noncomputable def rostrumref_memberAt (p0 : List GScore) (p1 : ByteArray) : Option Int :=
  oB (ci (st_rostrumref_memberAt_0 p0 p1) 0) fun
  | .inl x1 =>
    some x1
  | .inr _ =>
    some (-1)
def K_rostrumref_memberAt (C : ak) : Prop := ∀ (p0 : List GScore) (p1 : ByteArray) (r : Int), rostrumref_memberAt p0 p1 = some r → C 84 [.v (.sl 2 (ab GScore.row p0)), .v (.s p1)] [] = some (.v (.i .i64 r), [])
noncomputable def ck_rostrumref_ValueFault_k4_c0 (p0 : GValue) : Option Bool :=
  bif (p0.fCount == 0) then
    bif (p0.fKind == 3) then
      bif (p0.fKind == 6) then
        some false
      else
      some (decide (0 < (p0.fScores.length : Int)))
    else
    bif decide (0 < (p0.fPairs.length : Int)) then
      some true
    else
    bif (p0.fKind == 6) then
      some false
    else
    some (decide (0 < (p0.fScores.length : Int)))
  else
  some true
noncomputable def ck_rostrumref_ValueFault_k4_c1 (p0 : GValue) : Option Bool :=
  bif (p0.fCount == 0) then
    bif (p0.fKind == 3) then
      bif (p0.fKind == 6) then
        some false
      else
      some (decide (0 < (p0.fScores.length : Int)))
    else
    bif decide (0 < (p0.fPairs.length : Int)) then
      some true
    else
    bif (p0.fKind == 6) then
      some false
    else
    some (decide (0 < (p0.fScores.length : Int)))
  else
  some true
noncomputable def ck_rostrumref_ValueFault_k4_c2 (p0 : GValue) : Option Bool :=
  bif cJ p0.fText ByteArray.empty then
    bif (p0.fKind == 2) then
      bif (p0.fKind == 3) then
        bif (p0.fKind == 6) then
          some false
        else
        some (decide (0 < (p0.fScores.length : Int)))
      else
      bif decide (0 < (p0.fPairs.length : Int)) then
        some true
      else
      bif (p0.fKind == 6) then
        some false
      else
      some (decide (0 < (p0.fScores.length : Int)))
    else
    ck_rostrumref_ValueFault_k4_c1 p0
  else
  some true
noncomputable def ck_rostrumref_ValueFault_k4 (p0 : GValue) : Option Bool :=
  bif (p0.fKind == 1) then
    bif (p0.fKind == 2) then
      bif (p0.fKind == 3) then
        bif (p0.fKind == 6) then
          some false
        else
        some (decide (0 < (p0.fScores.length : Int)))
      else
      bif decide (0 < (p0.fPairs.length : Int)) then
        some true
      else
      bif (p0.fKind == 6) then
        some false
      else
      some (decide (0 < (p0.fScores.length : Int)))
    else
    ck_rostrumref_ValueFault_k4_c0 p0
  else
  ck_rostrumref_ValueFault_k4_c2 p0
noncomputable def ck_rostrumref_ValueFault_k4_v_c0 (p0 : GValue) : Bool :=
  bif (p0.fCount == 0) then
    bif (p0.fKind == 3) then
      bif (p0.fKind == 6) then
        false
      else
      decide (0 < (p0.fScores.length : Int))
    else
    bif decide (0 < (p0.fPairs.length : Int)) then
      true
    else
    bif (p0.fKind == 6) then
      false
    else
    decide (0 < (p0.fScores.length : Int))
  else
  true
noncomputable def ck_rostrumref_ValueFault_k4_v_c1 (p0 : GValue) : Bool :=
  bif (p0.fCount == 0) then
    bif (p0.fKind == 3) then
      bif (p0.fKind == 6) then
        false
      else
      decide (0 < (p0.fScores.length : Int))
    else
    bif decide (0 < (p0.fPairs.length : Int)) then
      true
    else
    bif (p0.fKind == 6) then
      false
    else
    decide (0 < (p0.fScores.length : Int))
  else
  true
noncomputable def ck_rostrumref_ValueFault_k4_v_c2 (p0 : GValue) : Bool :=
  bif cJ p0.fText ByteArray.empty then
    bif (p0.fKind == 2) then
      bif (p0.fKind == 3) then
        bif (p0.fKind == 6) then
          false
        else
        decide (0 < (p0.fScores.length : Int))
      else
      bif decide (0 < (p0.fPairs.length : Int)) then
        true
      else
      bif (p0.fKind == 6) then
        false
      else
      decide (0 < (p0.fScores.length : Int))
    else
    ck_rostrumref_ValueFault_k4_v_c1 p0
  else
  true
noncomputable def ck_rostrumref_ValueFault_k4_v (p0 : GValue) : Bool :=
  bif (p0.fKind == 1) then
    bif (p0.fKind == 2) then
      bif (p0.fKind == 3) then
        bif (p0.fKind == 6) then
          false
        else
        decide (0 < (p0.fScores.length : Int))
      else
      bif decide (0 < (p0.fPairs.length : Int)) then
        true
      else
      bif (p0.fKind == 6) then
        false
      else
      decide (0 < (p0.fScores.length : Int))
    else
    ck_rostrumref_ValueFault_k4_v_c0 p0
  else
  ck_rostrumref_ValueFault_k4_v_c2 p0
theorem ck_rostrumref_ValueFault_k4_c0_t (p0 : GValue) : ck_rostrumref_ValueFault_k4_c0 p0 = some (ck_rostrumref_ValueFault_k4_v_c0 p0) := by
  simp only [ck_rostrumref_ValueFault_k4_c0, ck_rostrumref_ValueFault_k4_v_c0, cx]
theorem ck_rostrumref_ValueFault_k4_c1_t (p0 : GValue) : ck_rostrumref_ValueFault_k4_c1 p0 = some (ck_rostrumref_ValueFault_k4_v_c1 p0) := by
  simp only [ck_rostrumref_ValueFault_k4_c1, ck_rostrumref_ValueFault_k4_v_c1, cx]
theorem ck_rostrumref_ValueFault_k4_c2_t (p0 : GValue) : ck_rostrumref_ValueFault_k4_c2 p0 = some (ck_rostrumref_ValueFault_k4_v_c2 p0) := by
  simp only [ck_rostrumref_ValueFault_k4_c2, ck_rostrumref_ValueFault_k4_v_c2, ck_rostrumref_ValueFault_k4_c1_t, cx]
theorem ck_rostrumref_ValueFault_k4_t (p0 : GValue) : ck_rostrumref_ValueFault_k4 p0 = some (ck_rostrumref_ValueFault_k4_v p0) := by
  simp only [ck_rostrumref_ValueFault_k4, ck_rostrumref_ValueFault_k4_v, ck_rostrumref_ValueFault_k4_c0_t, ck_rostrumref_ValueFault_k4_c2_t, cx]
noncomputable def ck_rostrumref_ValueFault_k6 (p0 : GValue) : Option Bool :=
  bif decide (3 ≤ p0.fKind) then
    bif decide (1 ≤ (rostrumref_sizeOf_v p0)) then
      bif decide ((rostrumref_sizeOf_v p0) ≤ 20) then
        some (!(rostrumref_textMay_v p0.fText))
      else
      some true
    else
    some true
  else
  some (!(rostrumref_textMay_v p0.fText))
noncomputable def ck_rostrumref_ValueFault_k6_v (p0 : GValue) : Bool :=
  bif decide (3 ≤ p0.fKind) then
    bif decide (1 ≤ (rostrumref_sizeOf_v p0)) then
      bif decide ((rostrumref_sizeOf_v p0) ≤ 20) then
        (!(rostrumref_textMay_v p0.fText))
      else
      true
    else
    true
  else
  (!(rostrumref_textMay_v p0.fText))
theorem ck_rostrumref_ValueFault_k6_t (p0 : GValue) : ck_rostrumref_ValueFault_k6 p0 = some (ck_rostrumref_ValueFault_k6_v p0) := by
  simp only [ck_rostrumref_ValueFault_k6, ck_rostrumref_ValueFault_k6_v, cx]
noncomputable def st_rostrumref_ValueFault_0 (p0 : GValue) (s : Int) : Option (Int ⊕ (Unit ⊕ Unit)) :=
  match s with
  | p1 =>
    bif decide (p1 < (p0.fItems.length : Int)) then
      oB (idx p0.fItems p1) fun x1 =>
      bif (rostrumref_textMay_v x1) then
        some (.inl (IntKind.i64.wrap (p1 + 1)))
      else
      some (.inr (.inl ()))
    else
    some (.inr (.inr ()))
noncomputable def st_rostrumref_ValueFault_2 (p0 : GValue) (s : Int) : Option (Int ⊕ (Unit ⊕ Unit)) :=
  match s with
  | p1 =>
    bif decide (p1 < (p0.fPairs.length : Int)) then
      oB (idx p0.fPairs p1) fun x1 =>
      bif (rostrumref_fieldMay_v x1.fField) then
        bif (rostrumref_textMay_v x1.fText) then
          some (.inl (IntKind.i64.wrap (p1 + 1)))
        else
        some (.inr (.inl ()))
      else
      some (.inr (.inl ()))
    else
    some (.inr (.inr ()))
noncomputable def st_rostrumref_ValueFault_4 (p0 : GValue) (s : Int) : Option (Int ⊕ (Unit ⊕ Unit)) :=
  match s with
  | p1 =>
    bif decide (p1 < (p0.fScores.length : Int)) then
      oB (idx p0.fScores p1) fun x1 =>
      bif (rostrumref_textMay_v x1.fMember) then
        some (.inl (IntKind.i64.wrap (p1 + 1)))
      else
      some (.inr (.inl ()))
    else
    some (.inr (.inr ()))
noncomputable def st_rostrumref_ValueFault_6 (p0 : GValue) (s : Int) : Option (Int ⊕ (Unit ⊕ Unit)) :=
  match s with
  | p1 =>
    bif decide (p1 < (p0.fScores.length : Int)) then
      oB (idx p0.fScores p1) fun x1 =>
      bif (rostrumref_countMay_v x1.fN) then
        some (.inl (IntKind.i64.wrap (p1 + 1)))
      else
      some (.inr (.inl ()))
    else
    some (.inr (.inr ()))
noncomputable def st_rostrumref_ValueFault_8 (p0 : GValue) (s : Int) : Option (Int ⊕ (Unit ⊕ Unit)) :=
  match s with
  | p1 =>
    bif decide (p1 < (p0.fPairs.length : Int)) then
      oB (idx p0.fPairs (IntKind.i64.wrap (p1 - 1))) fun x1 =>
      oB (idx p0.fPairs p1) fun x2 =>
      bif sltB x1.fField x2.fField then
        some (.inl (IntKind.i64.wrap (p1 + 1)))
      else
      some (.inr (.inl ()))
    else
    some (.inr (.inr ()))
noncomputable def st_rostrumref_ValueFault_10 (p0 : GValue) (s : Int) : Option (Int ⊕ (Unit ⊕ Unit)) :=
  match s with
  | p1 =>
    bif decide (p1 < (p0.fItems.length : Int)) then
      bif (p0.fKind == 5) then
        oB (idx p0.fItems (IntKind.i64.wrap (p1 - 1))) fun x1 =>
        oB (idx p0.fItems p1) fun x2 =>
        bif sltB x1 x2 then
          some (.inl (IntKind.i64.wrap (p1 + 1)))
        else
        some (.inr (.inl ()))
      else
      some (.inr (.inr ()))
    else
    some (.inr (.inr ()))
noncomputable def st_rostrumref_ValueFault_12 (p0 : GValue) (s : Int) : Option (Int ⊕ (Unit ⊕ Unit)) :=
  match s with
  | p1 =>
    bif decide (p1 < (p0.fScores.length : Int)) then
      oB (idx p0.fScores (IntKind.i64.wrap (p1 - 1))) fun x1 =>
      oB (idx p0.fScores p1) fun x2 =>
      bif (rostrumref_scoreAhead_v x1 x2) then
        bif rngB 0 p1 (p0.fScores.length : Int) then
          oB (rostrumref_memberAt (cI p0.fScores 0 p1) x2.fMember) fun x3 =>
          bif decide (0 ≤ x3) then
            some (.inr (.inl ()))
          else
          some (.inl (IntKind.i64.wrap (p1 + 1)))
        else
        none
      else
      some (.inr (.inl ()))
    else
    some (.inr (.inr ()))
noncomputable def ck_rostrumref_ValueFault_k4v2_c0 (p0 : GValue) (p1 : Bool) : Option Bool :=
  bif decide (0 < (p0.fPairs.length : Int)) then
    some true
  else
  bif p1 then
    bif (p0.fKind == 6) then
      some false
    else
    some (decide (0 < (p0.fScores.length : Int)))
  else
  bif decide (0 < (p0.fItems.length : Int)) then
    some true
  else
  bif (p0.fKind == 6) then
    some false
  else
  some (decide (0 < (p0.fScores.length : Int)))
noncomputable def ck_rostrumref_ValueFault_k4v2_c1 (p0 : GValue) (p1 : Bool) : Option Bool :=
  bif decide (0 < (p0.fPairs.length : Int)) then
    some true
  else
  bif p1 then
    bif (p0.fKind == 6) then
      some false
    else
    some (decide (0 < (p0.fScores.length : Int)))
  else
  bif decide (0 < (p0.fItems.length : Int)) then
    some true
  else
  bif (p0.fKind == 6) then
    some false
  else
  some (decide (0 < (p0.fScores.length : Int)))
noncomputable def ck_rostrumref_ValueFault_k4v2_c2 (p0 : GValue) (p1 : Bool) : Option Bool :=
  bif (p0.fCount == 0) then
    bif (p0.fKind == 3) then
      bif p1 then
        bif (p0.fKind == 6) then
          some false
        else
        some (decide (0 < (p0.fScores.length : Int)))
      else
      bif decide (0 < (p0.fItems.length : Int)) then
        some true
      else
      bif (p0.fKind == 6) then
        some false
      else
      some (decide (0 < (p0.fScores.length : Int)))
    else
    ck_rostrumref_ValueFault_k4v2_c1 p0 p1
  else
  some true
noncomputable def ck_rostrumref_ValueFault_k4v2_c3 (p0 : GValue) (p1 : Bool) : Option Bool :=
  bif decide (0 < (p0.fPairs.length : Int)) then
    some true
  else
  bif p1 then
    bif (p0.fKind == 6) then
      some false
    else
    some (decide (0 < (p0.fScores.length : Int)))
  else
  bif decide (0 < (p0.fItems.length : Int)) then
    some true
  else
  bif (p0.fKind == 6) then
    some false
  else
  some (decide (0 < (p0.fScores.length : Int)))
noncomputable def ck_rostrumref_ValueFault_k4v2_c4 (p0 : GValue) (p1 : Bool) : Option Bool :=
  bif decide (0 < (p0.fPairs.length : Int)) then
    some true
  else
  bif p1 then
    bif (p0.fKind == 6) then
      some false
    else
    some (decide (0 < (p0.fScores.length : Int)))
  else
  bif decide (0 < (p0.fItems.length : Int)) then
    some true
  else
  bif (p0.fKind == 6) then
    some false
  else
  some (decide (0 < (p0.fScores.length : Int)))
noncomputable def ck_rostrumref_ValueFault_k4v2_c5 (p0 : GValue) (p1 : Bool) : Option Bool :=
  bif (p0.fCount == 0) then
    bif (p0.fKind == 3) then
      bif p1 then
        bif (p0.fKind == 6) then
          some false
        else
        some (decide (0 < (p0.fScores.length : Int)))
      else
      bif decide (0 < (p0.fItems.length : Int)) then
        some true
      else
      bif (p0.fKind == 6) then
        some false
      else
      some (decide (0 < (p0.fScores.length : Int)))
    else
    ck_rostrumref_ValueFault_k4v2_c4 p0 p1
  else
  some true
noncomputable def ck_rostrumref_ValueFault_k4v2_c6 (p0 : GValue) (p1 : Bool) : Option Bool :=
  bif cJ p0.fText ByteArray.empty then
    bif (p0.fKind == 2) then
      bif (p0.fKind == 3) then
        bif p1 then
          bif (p0.fKind == 6) then
            some false
          else
          some (decide (0 < (p0.fScores.length : Int)))
        else
        bif decide (0 < (p0.fItems.length : Int)) then
          some true
        else
        bif (p0.fKind == 6) then
          some false
        else
        some (decide (0 < (p0.fScores.length : Int)))
      else
      ck_rostrumref_ValueFault_k4v2_c3 p0 p1
    else
    ck_rostrumref_ValueFault_k4v2_c5 p0 p1
  else
  some true
noncomputable def ck_rostrumref_ValueFault_k4v2 (p0 : GValue) (p1 : Bool) : Option Bool :=
  bif (p0.fKind == 1) then
    bif (p0.fKind == 2) then
      bif (p0.fKind == 3) then
        bif p1 then
          bif (p0.fKind == 6) then
            some false
          else
          some (decide (0 < (p0.fScores.length : Int)))
        else
        bif decide (0 < (p0.fItems.length : Int)) then
          some true
        else
        bif (p0.fKind == 6) then
          some false
        else
        some (decide (0 < (p0.fScores.length : Int)))
      else
      ck_rostrumref_ValueFault_k4v2_c0 p0 p1
    else
    ck_rostrumref_ValueFault_k4v2_c2 p0 p1
  else
  ck_rostrumref_ValueFault_k4v2_c6 p0 p1
noncomputable def ck_rostrumref_ValueFault_k4v2_v_c0 (p0 : GValue) (p1 : Bool) : Bool :=
  bif decide (0 < (p0.fPairs.length : Int)) then
    true
  else
  bif p1 then
    bif (p0.fKind == 6) then
      false
    else
    decide (0 < (p0.fScores.length : Int))
  else
  bif decide (0 < (p0.fItems.length : Int)) then
    true
  else
  bif (p0.fKind == 6) then
    false
  else
  decide (0 < (p0.fScores.length : Int))
noncomputable def ck_rostrumref_ValueFault_k4v2_v_c1 (p0 : GValue) (p1 : Bool) : Bool :=
  bif decide (0 < (p0.fPairs.length : Int)) then
    true
  else
  bif p1 then
    bif (p0.fKind == 6) then
      false
    else
    decide (0 < (p0.fScores.length : Int))
  else
  bif decide (0 < (p0.fItems.length : Int)) then
    true
  else
  bif (p0.fKind == 6) then
    false
  else
  decide (0 < (p0.fScores.length : Int))
noncomputable def ck_rostrumref_ValueFault_k4v2_v_c2 (p0 : GValue) (p1 : Bool) : Bool :=
  bif (p0.fCount == 0) then
    bif (p0.fKind == 3) then
      bif p1 then
        bif (p0.fKind == 6) then
          false
        else
        decide (0 < (p0.fScores.length : Int))
      else
      bif decide (0 < (p0.fItems.length : Int)) then
        true
      else
      bif (p0.fKind == 6) then
        false
      else
      decide (0 < (p0.fScores.length : Int))
    else
    ck_rostrumref_ValueFault_k4v2_v_c1 p0 p1
  else
  true
noncomputable def ck_rostrumref_ValueFault_k4v2_v_c3 (p0 : GValue) (p1 : Bool) : Bool :=
  bif decide (0 < (p0.fPairs.length : Int)) then
    true
  else
  bif p1 then
    bif (p0.fKind == 6) then
      false
    else
    decide (0 < (p0.fScores.length : Int))
  else
  bif decide (0 < (p0.fItems.length : Int)) then
    true
  else
  bif (p0.fKind == 6) then
    false
  else
  decide (0 < (p0.fScores.length : Int))
noncomputable def ck_rostrumref_ValueFault_k4v2_v_c4 (p0 : GValue) (p1 : Bool) : Bool :=
  bif decide (0 < (p0.fPairs.length : Int)) then
    true
  else
  bif p1 then
    bif (p0.fKind == 6) then
      false
    else
    decide (0 < (p0.fScores.length : Int))
  else
  bif decide (0 < (p0.fItems.length : Int)) then
    true
  else
  bif (p0.fKind == 6) then
    false
  else
  decide (0 < (p0.fScores.length : Int))
noncomputable def ck_rostrumref_ValueFault_k4v2_v_c5 (p0 : GValue) (p1 : Bool) : Bool :=
  bif (p0.fCount == 0) then
    bif (p0.fKind == 3) then
      bif p1 then
        bif (p0.fKind == 6) then
          false
        else
        decide (0 < (p0.fScores.length : Int))
      else
      bif decide (0 < (p0.fItems.length : Int)) then
        true
      else
      bif (p0.fKind == 6) then
        false
      else
      decide (0 < (p0.fScores.length : Int))
    else
    ck_rostrumref_ValueFault_k4v2_v_c4 p0 p1
  else
  true
noncomputable def ck_rostrumref_ValueFault_k4v2_v_c6 (p0 : GValue) (p1 : Bool) : Bool :=
  bif cJ p0.fText ByteArray.empty then
    bif (p0.fKind == 2) then
      bif (p0.fKind == 3) then
        bif p1 then
          bif (p0.fKind == 6) then
            false
          else
          decide (0 < (p0.fScores.length : Int))
        else
        bif decide (0 < (p0.fItems.length : Int)) then
          true
        else
        bif (p0.fKind == 6) then
          false
        else
        decide (0 < (p0.fScores.length : Int))
      else
      ck_rostrumref_ValueFault_k4v2_v_c3 p0 p1
    else
    ck_rostrumref_ValueFault_k4v2_v_c5 p0 p1
  else
  true
noncomputable def ck_rostrumref_ValueFault_k4v2_v (p0 : GValue) (p1 : Bool) : Bool :=
  bif (p0.fKind == 1) then
    bif (p0.fKind == 2) then
      bif (p0.fKind == 3) then
        bif p1 then
          bif (p0.fKind == 6) then
            false
          else
          decide (0 < (p0.fScores.length : Int))
        else
        bif decide (0 < (p0.fItems.length : Int)) then
          true
        else
        bif (p0.fKind == 6) then
          false
        else
        decide (0 < (p0.fScores.length : Int))
      else
      ck_rostrumref_ValueFault_k4v2_v_c0 p0 p1
    else
    ck_rostrumref_ValueFault_k4v2_v_c2 p0 p1
  else
  ck_rostrumref_ValueFault_k4v2_v_c6 p0 p1
theorem ck_rostrumref_ValueFault_k4v2_c0_t (p0 : GValue) (p1 : Bool) : ck_rostrumref_ValueFault_k4v2_c0 p0 p1 = some (ck_rostrumref_ValueFault_k4v2_v_c0 p0 p1) := by
  simp only [ck_rostrumref_ValueFault_k4v2_c0, ck_rostrumref_ValueFault_k4v2_v_c0, cx]
theorem ck_rostrumref_ValueFault_k4v2_c1_t (p0 : GValue) (p1 : Bool) : ck_rostrumref_ValueFault_k4v2_c1 p0 p1 = some (ck_rostrumref_ValueFault_k4v2_v_c1 p0 p1) := by
  simp only [ck_rostrumref_ValueFault_k4v2_c1, ck_rostrumref_ValueFault_k4v2_v_c1, cx]
theorem ck_rostrumref_ValueFault_k4v2_c2_t (p0 : GValue) (p1 : Bool) : ck_rostrumref_ValueFault_k4v2_c2 p0 p1 = some (ck_rostrumref_ValueFault_k4v2_v_c2 p0 p1) := by
  simp only [ck_rostrumref_ValueFault_k4v2_c2, ck_rostrumref_ValueFault_k4v2_v_c2, ck_rostrumref_ValueFault_k4v2_c1_t, cx]
theorem ck_rostrumref_ValueFault_k4v2_c3_t (p0 : GValue) (p1 : Bool) : ck_rostrumref_ValueFault_k4v2_c3 p0 p1 = some (ck_rostrumref_ValueFault_k4v2_v_c3 p0 p1) := by
  simp only [ck_rostrumref_ValueFault_k4v2_c3, ck_rostrumref_ValueFault_k4v2_v_c3, cx]
theorem ck_rostrumref_ValueFault_k4v2_c4_t (p0 : GValue) (p1 : Bool) : ck_rostrumref_ValueFault_k4v2_c4 p0 p1 = some (ck_rostrumref_ValueFault_k4v2_v_c4 p0 p1) := by
  simp only [ck_rostrumref_ValueFault_k4v2_c4, ck_rostrumref_ValueFault_k4v2_v_c4, cx]
theorem ck_rostrumref_ValueFault_k4v2_c5_t (p0 : GValue) (p1 : Bool) : ck_rostrumref_ValueFault_k4v2_c5 p0 p1 = some (ck_rostrumref_ValueFault_k4v2_v_c5 p0 p1) := by
  simp only [ck_rostrumref_ValueFault_k4v2_c5, ck_rostrumref_ValueFault_k4v2_v_c5, ck_rostrumref_ValueFault_k4v2_c4_t, cx]
theorem ck_rostrumref_ValueFault_k4v2_c6_t (p0 : GValue) (p1 : Bool) : ck_rostrumref_ValueFault_k4v2_c6 p0 p1 = some (ck_rostrumref_ValueFault_k4v2_v_c6 p0 p1) := by
  simp only [ck_rostrumref_ValueFault_k4v2_c6, ck_rostrumref_ValueFault_k4v2_v_c6, ck_rostrumref_ValueFault_k4v2_c3_t, ck_rostrumref_ValueFault_k4v2_c5_t, cx]
theorem ck_rostrumref_ValueFault_k4v2_t (p0 : GValue) (p1 : Bool) : ck_rostrumref_ValueFault_k4v2 p0 p1 = some (ck_rostrumref_ValueFault_k4v2_v p0 p1) := by
  simp only [ck_rostrumref_ValueFault_k4v2, ck_rostrumref_ValueFault_k4v2_v, ck_rostrumref_ValueFault_k4v2_c0_t, ck_rostrumref_ValueFault_k4v2_c2_t, ck_rostrumref_ValueFault_k4v2_c6_t, cx]
noncomputable def rostrumref_ValueFault_c0 (p0 : GValue) : Option Int :=
  oB (ci (st_rostrumref_ValueFault_12 p0) 1) fun
  | .inl _ =>
    some 10
  | .inr _ =>
    some 0
noncomputable def rostrumref_ValueFault_c1 (p0 : GValue) : Option Int :=
  oB (ci (st_rostrumref_ValueFault_10 p0) 1) fun
  | .inl _ =>
    some 10
  | .inr _ =>
    rostrumref_ValueFault_c0 p0
noncomputable def rostrumref_ValueFault_c2 (p0 : GValue) : Option Int :=
  oB (ci (st_rostrumref_ValueFault_8 p0) 1) fun
  | .inl _ =>
    some 10
  | .inr _ =>
    rostrumref_ValueFault_c1 p0
noncomputable def rostrumref_ValueFault_c3 (p0 : GValue) : Option Int :=
  bif (rostrumref_countMay_v p0.fCount) then
    oB (ci (st_rostrumref_ValueFault_6 p0) 0) fun
    | .inl _ =>
      some 2
    | .inr _ =>
      rostrumref_ValueFault_c2 p0
  else
  some 2
noncomputable def rostrumref_ValueFault_c4 (p0 : GValue) : Option Int :=
  oB (ci (st_rostrumref_ValueFault_4 p0) 0) fun
  | .inl _ =>
    some 1
  | .inr _ =>
    rostrumref_ValueFault_c3 p0
noncomputable def rostrumref_ValueFault_c5 (p0 : GValue) : Option Int :=
  oB (ci (st_rostrumref_ValueFault_2 p0) 0) fun
  | .inl _ =>
    some 1
  | .inr _ =>
    rostrumref_ValueFault_c4 p0
noncomputable def rostrumref_ValueFault_c6 (p0 : GValue) : Option Int :=
  oB (ci (st_rostrumref_ValueFault_12 p0) 1) fun
  | .inl _ =>
    some 10
  | .inr _ =>
    some 0
noncomputable def rostrumref_ValueFault_c7 (p0 : GValue) : Option Int :=
  oB (ci (st_rostrumref_ValueFault_10 p0) 1) fun
  | .inl _ =>
    some 10
  | .inr _ =>
    rostrumref_ValueFault_c6 p0
noncomputable def rostrumref_ValueFault_c8 (p0 : GValue) : Option Int :=
  oB (ci (st_rostrumref_ValueFault_8 p0) 1) fun
  | .inl _ =>
    some 10
  | .inr _ =>
    rostrumref_ValueFault_c7 p0
noncomputable def rostrumref_ValueFault_c9 (p0 : GValue) : Option Int :=
  bif (rostrumref_countMay_v p0.fCount) then
    oB (ci (st_rostrumref_ValueFault_6 p0) 0) fun
    | .inl _ =>
      some 2
    | .inr _ =>
      rostrumref_ValueFault_c8 p0
  else
  some 2
noncomputable def rostrumref_ValueFault_c10 (p0 : GValue) : Option Int :=
  oB (ci (st_rostrumref_ValueFault_4 p0) 0) fun
  | .inl _ =>
    some 1
  | .inr _ =>
    rostrumref_ValueFault_c9 p0
noncomputable def rostrumref_ValueFault_c11 (p0 : GValue) : Option Int :=
  oB (ci (st_rostrumref_ValueFault_2 p0) 0) fun
  | .inl _ =>
    some 1
  | .inr _ =>
    rostrumref_ValueFault_c10 p0
noncomputable def rostrumref_ValueFault_c12 (p0 : GValue) : Option Int :=
  bif (ck_rostrumref_ValueFault_k4_v p0) then
    some 8
  else
  bif (ck_rostrumref_ValueFault_k6_v p0) then
    some 1
  else
  oB (ci (st_rostrumref_ValueFault_0 p0) 0) fun
  | .inl _ =>
    some 1
  | .inr _ =>
    rostrumref_ValueFault_c5 p0
noncomputable def rostrumref_ValueFault (p0 : GValue) : Option Int :=
  bif decide (1 ≤ p0.fKind) then
    bif decide (p0.fKind ≤ 6) then
      bif (p0.fKind == 4) then
        rostrumref_ValueFault_c12 p0
      else
      bif (ck_rostrumref_ValueFault_k4v2_v p0 (p0.fKind == 5)) then
        some 8
      else
      bif (ck_rostrumref_ValueFault_k6_v p0) then
        some 1
      else
      oB (ci (st_rostrumref_ValueFault_0 p0) 0) fun
      | .inl _ =>
        some 1
      | .inr _ =>
        rostrumref_ValueFault_c11 p0
    else
    some 3
  else
  some 3
def K_rostrumref_ValueFault (C : ak) : Prop := ∀ (p0 : GValue) (r : Int), rostrumref_ValueFault p0 = some r → C 30 [.agg [.v (.i .i64 p0.fKind), .v (.s p0.fText), .v (.i .i64 p0.fCount), .v (.sl 2 (ab GPair.row p0.fPairs)), .v (.sl 1 (ab aY p0.fItems)), .v (.sl 2 (ab GScore.row p0.fScores))]] [] = some (.v (.i .i64 r), [])
noncomputable def ck_rostrumref_StoreFault_k1 (p0 : GStore) : Option Bool :=
  bif decide (0 ≤ p0.fNow) then
    bif decide (p0.fNow ≤ 1073741824) then
      some (decide (12 < (p0.fEntries.length : Int)))
    else
    some true
  else
  some true
noncomputable def ck_rostrumref_StoreFault_k1_v (p0 : GStore) : Bool :=
  bif decide (0 ≤ p0.fNow) then
    bif decide (p0.fNow ≤ 1073741824) then
      decide (12 < (p0.fEntries.length : Int))
    else
    true
  else
  true
theorem ck_rostrumref_StoreFault_k1_t (p0 : GStore) : ck_rostrumref_StoreFault_k1 p0 = some (ck_rostrumref_StoreFault_k1_v p0) := by
  simp only [ck_rostrumref_StoreFault_k1, ck_rostrumref_StoreFault_k1_v, cx]
noncomputable def ck_rostrumref_StoreFault_k7v2 (p0 : GStore) (p1 : Int) (p2 : GEntry) : Option Bool :=
  bif (rostrumref_fieldMay_v p2.fKey) then
    oB (rostrumref_ValueFault p2.fValue) fun x1 =>
    bif (x1 == 0) then
      bif decide (0 < p1) then
        oB (idx p0.fEntries (IntKind.i64.wrap (p1 - 1))) fun x2 =>
        some (!sltB x2.fKey p2.fKey)
      else
      some false
    else
    some true
  else
  some true
noncomputable def ck_rostrumref_StoreFault_k9v2 (p0 : GStore) (p1 : Int) (p2 : GEntry) : Option Bool :=
  bif (p2.fUntil == 0) then
    some false
  else
  bif decide (0 ≤ p2.fUntil) then
    bif decide (p2.fUntil ≤ 1073741824) then
      some (decide (p2.fUntil ≤ p0.fNow))
    else
    some true
  else
  some true
noncomputable def ck_rostrumref_StoreFault_k9v2_v (p0 : GStore) (p1 : Int) (p2 : GEntry) : Bool :=
  bif (p2.fUntil == 0) then
    false
  else
  bif decide (0 ≤ p2.fUntil) then
    bif decide (p2.fUntil ≤ 1073741824) then
      decide (p2.fUntil ≤ p0.fNow)
    else
    true
  else
  true
theorem ck_rostrumref_StoreFault_k9v2_t (p0 : GStore) (p1 : Int) (p2 : GEntry) : ck_rostrumref_StoreFault_k9v2 p0 p1 p2 = some (ck_rostrumref_StoreFault_k9v2_v p0 p1 p2) := by
  simp only [ck_rostrumref_StoreFault_k9v2, ck_rostrumref_StoreFault_k9v2_v, cx]
noncomputable def st_rostrumref_StoreFault_0 (p0 : GStore) (s : Int) : Option (Int ⊕ (GEntry ⊕ Unit)) :=
  match s with
  | p1 =>
    bif decide (p1 < (p0.fEntries.length : Int)) then
      oB (idx p0.fEntries p1) fun x1 =>
      oB (ck_rostrumref_StoreFault_k7v2 p0 p1 x1) fun x2 =>
      bif x2 then
        some (.inr (.inl x1))
      else
      bif (ck_rostrumref_StoreFault_k9v2_v p0 p1 x1) then
        some (.inr (.inl x1))
      else
      some (.inl (IntKind.i64.wrap (p1 + 1)))
    else
    some (.inr (.inr ()))
noncomputable def rostrumref_StoreFault (p0 : GStore) : Option Int :=
  bif (ck_rostrumref_StoreFault_k1_v p0) then
    some 13
  else
  oB (ci (st_rostrumref_StoreFault_0 p0) 0) fun
  | .inl x1 =>
    some 13
  | .inr _ =>
    some 0
def K_rostrumref_StoreFault (C : ak) : Prop := ∀ (p0 : GStore) (r : Int), rostrumref_StoreFault p0 = some r → C 36 [.agg [.v (.i .i64 p0.fNow), .v (.sl 8 (ab GEntry.row p0.fEntries))]] [] = some (.v (.i .i64 r), [])
noncomputable def st_rostrumref_ReplyFault_0 (p0 : GReply) (s : Int) : Option (Int ⊕ (Unit ⊕ Unit)) :=
  match s with
  | p1 =>
    bif decide (p1 < (p0.fList.length : Int)) then
      oB (idx p0.fList p1) fun x1 =>
      bif (rostrumref_textMay_v x1) then
        some (.inl (IntKind.i64.wrap (p1 + 1)))
      else
      some (.inr (.inl ()))
    else
    some (.inr (.inr ()))
noncomputable def rostrumref_ReplyFault (p0 : GReply) : Option Int :=
  bif decide (0 ≤ p0.fCode) then
    bif decide (p0.fCode ≤ 13) then
      bif (rostrumref_textMay_v p0.fText) then
        bif decide (20 < (p0.fList.length : Int)) then
          some 1
        else
        oB (ci (st_rostrumref_ReplyFault_0 p0) 0) fun
        | .inl _ =>
          some 1
        | .inr _ =>
          bif (rostrumref_countMay_v p0.fN) then
            some 0
          else
          some 2
      else
      some 1
    else
    some 3
  else
  some 3
def K_rostrumref_ReplyFault (C : ak) : Prop := ∀ (p0 : GReply) (r : Int), rostrumref_ReplyFault p0 = some r → C 92 [.agg [.v (.i .i64 p0.fCode), .v (.s p0.fText), .v (.i .i64 p0.fN), .v (.sl 1 (ab aY p0.fList))]] [] = some (.v (.i .i64 r), [])
noncomputable def ck_rostrumref_MachineFault_k1 (p0 : GMachine) : Option Bool :=
  oB (rostrumref_StoreFault p0.fStore) fun x1 =>
  bif (x1 == 0) then
    bif decide (1 ≤ p0.fNext) then
      bif decide (p0.fNext ≤ 1048577) then
        some (decide (4 < (p0.fClients.length : Int)))
      else
      some true
    else
    some true
  else
  some true
noncomputable def ck_rostrumref_MachineFault_k7v2_c0 (p0 : GMachine) (p1 : Int) (p2 : GClient) : Option Bool :=
  oB (idx p0.fClients (IntKind.i64.wrap (p1 - 1))) fun x1 =>
  bif decide (p2.fId ≤ x1.fId) then
    some true
  else
  bif decide (0 ≤ p2.fSeq) then
    bif decide (p2.fSeq ≤ 1048576) then
      bif decide (0 ≤ p2.fTime) then
        bif decide (p2.fTime ≤ p0.fStore.fNow) then
          oB (rostrumref_ReplyFault p2.fReply) fun x2 =>
          some (!(x2 == 0))
        else
        some true
      else
      some true
    else
    some true
  else
  some true
noncomputable def ck_rostrumref_MachineFault_k7v2_c1 (p0 : GMachine) (p1 : Int) (p2 : GClient) : Option Bool :=
  bif decide (p0.fNext ≤ p2.fId) then
    some true
  else
  bif decide (0 < p1) then
    ck_rostrumref_MachineFault_k7v2_c0 p0 p1 p2
  else
  bif decide (0 ≤ p2.fSeq) then
    bif decide (p2.fSeq ≤ 1048576) then
      bif decide (0 ≤ p2.fTime) then
        bif decide (p2.fTime ≤ p0.fStore.fNow) then
          oB (rostrumref_ReplyFault p2.fReply) fun x1 =>
          some (!(x1 == 0))
        else
        some true
      else
      some true
    else
    some true
  else
  some true
noncomputable def ck_rostrumref_MachineFault_k7v2 (p0 : GMachine) (p1 : Int) (p2 : GClient) : Option Bool :=
  bif (rostrumref_numberMay_v p2.fId) then
    ck_rostrumref_MachineFault_k7v2_c1 p0 p1 p2
  else
  some true
noncomputable def st_rostrumref_MachineFault_0 (p0 : GMachine) (s : Int) : Option (Int ⊕ (GClient ⊕ Unit)) :=
  match s with
  | p1 =>
    bif decide (p1 < (p0.fClients.length : Int)) then
      oB (idx p0.fClients p1) fun x1 =>
      oB (ck_rostrumref_MachineFault_k7v2 p0 p1 x1) fun x2 =>
      bif x2 then
        some (.inr (.inl x1))
      else
      some (.inl (IntKind.i64.wrap (p1 + 1)))
    else
    some (.inr (.inr ()))
noncomputable def rostrumref_MachineFault (p0 : GMachine) : Option Int :=
  oB (ck_rostrumref_MachineFault_k1 p0) fun x1 =>
  bif x1 then
    some 13
  else
  oB (ci (st_rostrumref_MachineFault_0 p0) 0) fun
  | .inl x2 =>
    some 13
  | .inr _ =>
    some 0
def K_rostrumref_MachineFault (C : ak) : Prop := ∀ (p0 : GMachine) (r : Int), rostrumref_MachineFault p0 = some r → C 42 [.agg [.v (.i .i64 p0.fStore.fNow), .v (.sl 8 (ab GEntry.row p0.fStore.fEntries)), .v (.i .i64 p0.fNext), .v (.sl 7 (ab GClient.row p0.fClients))]] [] = some (.v (.i .i64 r), [])
noncomputable def rostrumref_SnapFault (p0 : GSnap) : Option Int :=
  bif (rostrumref_numberMay_v p0.fIndex) then
    bif (rostrumref_numberMay_v p0.fTerm) then
      oB (rostrumref_MachineFault p0.fMachine) fun x1 =>
      some x1
    else
    some 2
  else
  some 2
def K_rostrumref_SnapFault (C : ak) : Prop := ∀ (p0 : GSnap) (r : Int), rostrumref_SnapFault p0 = some r → C 45 [.agg [.v (.i .i64 p0.fIndex), .v (.i .i64 p0.fTerm), .v (.i .i64 p0.fMachine.fStore.fNow), .v (.sl 8 (ab GEntry.row p0.fMachine.fStore.fEntries)), .v (.i .i64 p0.fMachine.fNext), .v (.sl 7 (ab GClient.row p0.fMachine.fClients))]] [] = some (.v (.i .i64 r), [])
noncomputable def rostrumlaw_TapeSnaps (p0 : GSnap) : Option Bool :=
  oB (rostrumlaw_snaps_z p0) fun x1 =>
  oB (tape_CheckSnap x1) fun x2 =>
  oB (rostrumref_SnapFault p0) fun x3 =>
  some (x2 == x3)
end Go.Proofs.Ytnjkmbogbfjffaa
