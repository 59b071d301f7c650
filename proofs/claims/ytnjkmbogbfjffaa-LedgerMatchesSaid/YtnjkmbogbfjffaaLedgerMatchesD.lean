/- What the functions that the law LedgerMatches reaches compute, as plain functions; no condition. -/
import Derived.Test.YtnjkmbogbfjffaaWTy
set_option linter.unusedSimpArgs false
set_option linter.unusedVariables false
set_option linter.constructorNameAsVariable false
set_option linter.unnecessarySimpa false
namespace Go.Proofs.Ytnjkmbogbfjffaa
open Go Go.Mx Go.Proofs
/-! ### rostrumref.LogCopy -/
noncomputable def st_rostrumref_LogCopy_z_0 (p0 : GLog) (s : Int × GLog) : Option ((Int × GLog) ⊕ GLog) :=
  match s with
  | (p1, p2) =>
    bif decide (p1 < (p0.fItems.length : Int)) then
      (match idx p0.fItems p1 with
      | none => none
      | some x1 =>
        bif cH (p2.fItems.length + 1) 104 then
          some (.inl ((IntKind.i64.wrap (p1 + 1)), (GLog.mk p2.fBase p2.fBaseTerm (p2.fItems ++ [x1]))))
        else
          none
      )
    else
      some (.inr p2)
noncomputable def rostrumref_LogCopy_z (p0 : GLog) : Option GLog :=
  (match ci (st_rostrumref_LogCopy_z_0 p0) (0, (GLog.mk p0.fBase p0.fBaseTerm [])) with
  | none => none
  | some x1 =>
    some x1
  )
def K_rostrumref_LogCopy_z (C : ak) : Prop := ∀ (p0 : GLog) (r : GLog), rostrumref_LogCopy_z p0 = some r → C 16 [.agg [.v (.i .i64 p0.fBase), .v (.i .i64 p0.fBaseTerm), .v (.sl 10 (ab GItem.row p0.fItems))]] [] = some (.agg [.v (.i .i64 r.fBase), .v (.i .i64 r.fBaseTerm), .v (.sl 10 (ab GItem.row r.fItems))], [])
/-! ### rostrumlaw.items -/
noncomputable def rostrumlaw_items_z (p0 : List GItem) : Option (List GItem) :=
  bif cH p0.length 104 then
    some p0
  else
    none
def K_rostrumlaw_items_z (C : ak) : Prop := ∀ (p0 : List GItem) (r : (List GItem)), rostrumlaw_items_z p0 = some r → C 32 [.v (.sl 10 (ab GItem.row p0))] [] = some (.v (.sl 10 (ab GItem.row r)), [])
/-! ### client.number -/
noncomputable def client_number (p0 : Int) : Option Bool :=
  bif decide (1 ≤ p0) then
    some (decide (p0 ≤ 1048576))
  else
    some false
noncomputable def client_number_v (p0 : Int) : Bool := (decide (1 ≤ p0) && decide (p0 ≤ 1048576))
theorem client_number_t (p0 : Int) : client_number p0 = some (client_number_v p0) := by
  simp only [client_number, client_number_v]
  cases decide (1 ≤ p0) <;> rfl
def K_client_number (C : ak) : Prop := ∀ (p0 : Int) (r : Bool), client_number p0 = some r → C 127 [.v (.i .i64 p0)] [] = some (.v (.b r), [])
/-! ### value.field -/
noncomputable def value_field (p0 : ByteArray) : Option Bool :=
  bif decide (1 ≤ (p0.size : Int)) then
    some (decide ((p0.size : Int) ≤ 12))
  else
    some false
noncomputable def value_field_v (p0 : ByteArray) : Bool := (decide (1 ≤ (p0.size : Int)) && decide ((p0.size : Int) ≤ 12))
theorem value_field_t (p0 : ByteArray) : value_field p0 = some (value_field_v p0) := by
  simp only [value_field, value_field_v]
  cases decide (1 ≤ (p0.size : Int)) <;> rfl
def K_value_field (C : ak) : Prop := ∀ (p0 : ByteArray) (r : Bool), value_field p0 = some r → C 67 [.v (.s p0)] [] = some (.v (.b r), [])
/-! ### value.text -/
noncomputable def value_text (p0 : ByteArray) : Option Bool :=
  some (decide ((p0.size : Int) ≤ 20))
noncomputable def value_text_v (p0 : ByteArray) : Bool := decide ((p0.size : Int) ≤ 20)
theorem value_text_t (p0 : ByteArray) : value_text p0 = some (value_text_v p0) := by
  simp only [value_text, value_text_v]
def K_value_text (C : ak) : Prop := ∀ (p0 : ByteArray) (r : Bool), value_text p0 = some r → C 62 [.v (.s p0)] [] = some (.v (.b r), [])
/-! ### value.count -/
noncomputable def value_count (p0 : Int) : Option Bool :=
  bif decide ((-1099511627776) ≤ p0) then
    some (decide (p0 ≤ 1099511627776))
  else
    some false
noncomputable def value_count_v (p0 : Int) : Bool := (decide ((-1099511627776) ≤ p0) && decide (p0 ≤ 1099511627776))
theorem value_count_t (p0 : Int) : value_count p0 = some (value_count_v p0) := by
  simp only [value_count, value_count_v]
  cases decide ((-1099511627776) ≤ p0) <;> rfl
def K_value_count (C : ak) : Prop := ∀ (p0 : Int) (r : Bool), value_count p0 = some r → C 70 [.v (.i .i64 p0)] [] = some (.v (.b r), [])
/-! ### value.CheckCommand -/
noncomputable def ck_value_CheckCommand_q59 (p0 : GCommand) (p1 : Bool) (p2 : Int) (p3 : ByteArray) : Option GCommand :=
  bif p1 then
    some (GCommand.mk p2 ByteArray.empty ByteArray.empty ByteArray.empty 0)
  else
    some (GCommand.mk p2 p3 ByteArray.empty ByteArray.empty 0)
noncomputable def ck_value_CheckCommand_q59_v (p0 : GCommand) (p1 : Bool) (p2 : Int) (p3 : ByteArray) : GCommand :=
  bif p1 then
    (GCommand.mk p2 ByteArray.empty ByteArray.empty ByteArray.empty 0)
  else
    (GCommand.mk p2 p3 ByteArray.empty ByteArray.empty 0)
theorem ck_value_CheckCommand_q59_t (p0 : GCommand) (p1 : Bool) (p2 : Int) (p3 : ByteArray) : ck_value_CheckCommand_q59 p0 p1 p2 p3 = some (ck_value_CheckCommand_q59_v p0 p1 p2 p3) := by
  simp only [ck_value_CheckCommand_q59, ck_value_CheckCommand_q59_v, cx]
noncomputable def ck_value_CheckCommand_q51 (p0 : GCommand) (p1 : Int) (p2 : Bool) (p3 : ByteArray) : Option GCommand :=
  bif p2 then
    some (GCommand.mk p1 p3 ByteArray.empty p0.fText p0.fN)
  else
    some (ck_value_CheckCommand_q59_v p0 (p1 == 22) p1 p3)
noncomputable def ck_value_CheckCommand_q51_v (p0 : GCommand) (p1 : Int) (p2 : Bool) (p3 : ByteArray) : GCommand :=
  bif p2 then
    (GCommand.mk p1 p3 ByteArray.empty p0.fText p0.fN)
  else
    (ck_value_CheckCommand_q59_v p0 (p1 == 22) p1 p3)
theorem ck_value_CheckCommand_q51_t (p0 : GCommand) (p1 : Int) (p2 : Bool) (p3 : ByteArray) : ck_value_CheckCommand_q51 p0 p1 p2 p3 = some (ck_value_CheckCommand_q51_v p0 p1 p2 p3) := by
  simp only [ck_value_CheckCommand_q51, ck_value_CheckCommand_q51_v, cx]
noncomputable def ck_value_CheckCommand_q37 (p0 : GCommand) (p1 : Int) (p2 : Bool) (p3 : ByteArray) : Option GCommand :=
  bif p2 then
    some (GCommand.mk p1 p3 p0.fField p0.fText 0)
  else
    bif (p1 == 5) then
      some (GCommand.mk p1 p3 p0.fField ByteArray.empty 0)
    else
      bif (p1 == 6) then
        some (GCommand.mk p1 p3 p0.fField ByteArray.empty 0)
      else
        some (ck_value_CheckCommand_q51_v p0 p1 (p1 == 14) p3)
noncomputable def ck_value_CheckCommand_q37_v (p0 : GCommand) (p1 : Int) (p2 : Bool) (p3 : ByteArray) : GCommand :=
  bif p2 then
    (GCommand.mk p1 p3 p0.fField p0.fText 0)
  else
    bif (p1 == 5) then
      (GCommand.mk p1 p3 p0.fField ByteArray.empty 0)
    else
      bif (p1 == 6) then
        (GCommand.mk p1 p3 p0.fField ByteArray.empty 0)
      else
        (ck_value_CheckCommand_q51_v p0 p1 (p1 == 14) p3)
theorem ck_value_CheckCommand_q37_t (p0 : GCommand) (p1 : Int) (p2 : Bool) (p3 : ByteArray) : ck_value_CheckCommand_q37 p0 p1 p2 p3 = some (ck_value_CheckCommand_q37_v p0 p1 p2 p3) := by
  simp only [ck_value_CheckCommand_q37, ck_value_CheckCommand_q37_v, cx]
noncomputable def ck_value_CheckCommand_w0_c0 (p0 : GCommand) (p1 : Int) (p2 : ByteArray) : Option GCommand :=
  bif (p1 == 11) then
    some (GCommand.mk p1 p2 ByteArray.empty p0.fText 0)
  else
    bif (p1 == 12) then
      some (GCommand.mk p1 p2 ByteArray.empty p0.fText 0)
    else
      bif (p1 == 13) then
        some (GCommand.mk p1 p2 ByteArray.empty p0.fText 0)
      else
        bif (p1 == 15) then
          some (GCommand.mk p1 p2 ByteArray.empty p0.fText 0)
        else
          bif (p1 == 16) then
            some (GCommand.mk p1 p2 ByteArray.empty p0.fText 0)
          else
            bif (p1 == 3) then
              some (GCommand.mk p1 p2 ByteArray.empty ByteArray.empty p0.fN)
            else
              bif (p1 == 20) then
                some (GCommand.mk p1 p2 ByteArray.empty ByteArray.empty p0.fN)
              else
                some (ck_value_CheckCommand_q37_v p0 p1 (p1 == 4) p2)
noncomputable def ck_value_CheckCommand_w0 (p0 : GCommand) (p1 : Int) (p2 : ByteArray) : Option GCommand :=
  bif (p1 == 1) then
    some (GCommand.mk p1 p2 ByteArray.empty p0.fText 0)
  else
    bif (p1 == 7) then
      some (GCommand.mk p1 p2 ByteArray.empty p0.fText 0)
    else
      bif (p1 == 8) then
        some (GCommand.mk p1 p2 ByteArray.empty p0.fText 0)
      else
        ck_value_CheckCommand_w0_c0 p0 p1 p2
noncomputable def ck_value_CheckCommand_w0_v_c0 (p0 : GCommand) (p1 : Int) (p2 : ByteArray) : GCommand :=
  bif (p1 == 11) then
    (GCommand.mk p1 p2 ByteArray.empty p0.fText 0)
  else
    bif (p1 == 12) then
      (GCommand.mk p1 p2 ByteArray.empty p0.fText 0)
    else
      bif (p1 == 13) then
        (GCommand.mk p1 p2 ByteArray.empty p0.fText 0)
      else
        bif (p1 == 15) then
          (GCommand.mk p1 p2 ByteArray.empty p0.fText 0)
        else
          bif (p1 == 16) then
            (GCommand.mk p1 p2 ByteArray.empty p0.fText 0)
          else
            bif (p1 == 3) then
              (GCommand.mk p1 p2 ByteArray.empty ByteArray.empty p0.fN)
            else
              bif (p1 == 20) then
                (GCommand.mk p1 p2 ByteArray.empty ByteArray.empty p0.fN)
              else
                (ck_value_CheckCommand_q37_v p0 p1 (p1 == 4) p2)
noncomputable def ck_value_CheckCommand_w0_v (p0 : GCommand) (p1 : Int) (p2 : ByteArray) : GCommand :=
  bif (p1 == 1) then
    (GCommand.mk p1 p2 ByteArray.empty p0.fText 0)
  else
    bif (p1 == 7) then
      (GCommand.mk p1 p2 ByteArray.empty p0.fText 0)
    else
      bif (p1 == 8) then
        (GCommand.mk p1 p2 ByteArray.empty p0.fText 0)
      else
        ck_value_CheckCommand_w0_v_c0 p0 p1 p2
theorem ck_value_CheckCommand_w0_c0_t (p0 : GCommand) (p1 : Int) (p2 : ByteArray) : ck_value_CheckCommand_w0_c0 p0 p1 p2 = some (ck_value_CheckCommand_w0_v_c0 p0 p1 p2) := by
  simp only [ck_value_CheckCommand_w0_c0, ck_value_CheckCommand_w0_v_c0, cx]
theorem ck_value_CheckCommand_w0_t (p0 : GCommand) (p1 : Int) (p2 : ByteArray) : ck_value_CheckCommand_w0 p0 p1 p2 = some (ck_value_CheckCommand_w0_v p0 p1 p2) := by
  simp only [ck_value_CheckCommand_w0, ck_value_CheckCommand_w0_v, ck_value_CheckCommand_w0_c0_t, cx]
noncomputable def ck_value_CheckCommand_k28_c0 (p0 : GCommand) (p1 : GCommand) : Option Bool :=
  bif (value_field_v p0.fKey) then
    bif decide (4 ≤ p0.fKind) then
      bif decide (p0.fKind ≤ 6) then
        bif (value_field_v p0.fField) then
          some (!(value_text_v p0.fText))
        else
          some true
      else
        some (!(value_text_v p0.fText))
    else
      some (!(value_text_v p0.fText))
  else
    some true
noncomputable def ck_value_CheckCommand_k28 (p0 : GCommand) (p1 : GCommand) : Option Bool :=
  bif (p0.fKind == 22) then
    bif decide (4 ≤ p0.fKind) then
      bif decide (p0.fKind ≤ 6) then
        bif (value_field_v p0.fField) then
          some (!(value_text_v p0.fText))
        else
          some true
      else
        some (!(value_text_v p0.fText))
    else
      some (!(value_text_v p0.fText))
  else
    ck_value_CheckCommand_k28_c0 p0 p1
noncomputable def ck_value_CheckCommand_k28_v_c0 (p0 : GCommand) (p1 : GCommand) : Bool :=
  bif (value_field_v p0.fKey) then
    bif decide (4 ≤ p0.fKind) then
      bif decide (p0.fKind ≤ 6) then
        bif (value_field_v p0.fField) then
          (!(value_text_v p0.fText))
        else
          true
      else
        (!(value_text_v p0.fText))
    else
      (!(value_text_v p0.fText))
  else
    true
noncomputable def ck_value_CheckCommand_k28_v (p0 : GCommand) (p1 : GCommand) : Bool :=
  bif (p0.fKind == 22) then
    bif decide (4 ≤ p0.fKind) then
      bif decide (p0.fKind ≤ 6) then
        bif (value_field_v p0.fField) then
          (!(value_text_v p0.fText))
        else
          true
      else
        (!(value_text_v p0.fText))
    else
      (!(value_text_v p0.fText))
  else
    ck_value_CheckCommand_k28_v_c0 p0 p1
theorem ck_value_CheckCommand_k28_c0_t (p0 : GCommand) (p1 : GCommand) : ck_value_CheckCommand_k28_c0 p0 p1 = some (ck_value_CheckCommand_k28_v_c0 p0 p1) := by
  simp only [ck_value_CheckCommand_k28_c0, ck_value_CheckCommand_k28_v_c0, cx]
theorem ck_value_CheckCommand_k28_t (p0 : GCommand) (p1 : GCommand) : ck_value_CheckCommand_k28 p0 p1 = some (ck_value_CheckCommand_k28_v p0 p1) := by
  simp only [ck_value_CheckCommand_k28, ck_value_CheckCommand_k28_v, ck_value_CheckCommand_k28_c0_t, cx]
noncomputable def value_CheckCommand_c0 (p0 : GCommand) : Option Int :=
  bif (p0.fKind == (ck_value_CheckCommand_w0_v p0 p0.fKind p0.fKey).fKind) then
    bif cJ p0.fKey ((ck_value_CheckCommand_w0_v p0 p0.fKind p0.fKey).fKey) then
      bif cJ p0.fField ((ck_value_CheckCommand_w0_v p0 p0.fKind p0.fKey).fField) then
        bif cJ p0.fText ((ck_value_CheckCommand_w0_v p0 p0.fKind p0.fKey).fText) then
          bif (p0.fN == (ck_value_CheckCommand_w0_v p0 p0.fKind p0.fKey).fN) then
            bif (ck_value_CheckCommand_k28_v p0 (ck_value_CheckCommand_w0_v p0 p0.fKind p0.fKey)) then
              some 1
            else
              bif (value_count_v p0.fN) then
                some 0
              else
                some 2
          else
            some 8
        else
          some 8
      else
        some 8
    else
      some 8
  else
    some 8
noncomputable def value_CheckCommand (p0 : GCommand) : Option Int :=
  bif decide (p0.fKind < 1) then
    some 3
  else
    bif decide (22 < p0.fKind) then
      some 3
    else
      value_CheckCommand_c0 p0
noncomputable def value_CheckCommand_v_c0 (p0 : GCommand) : Int :=
  bif (p0.fKind == (ck_value_CheckCommand_w0_v p0 p0.fKind p0.fKey).fKind) then
    bif cJ p0.fKey ((ck_value_CheckCommand_w0_v p0 p0.fKind p0.fKey).fKey) then
      bif cJ p0.fField ((ck_value_CheckCommand_w0_v p0 p0.fKind p0.fKey).fField) then
        bif cJ p0.fText ((ck_value_CheckCommand_w0_v p0 p0.fKind p0.fKey).fText) then
          bif (p0.fN == (ck_value_CheckCommand_w0_v p0 p0.fKind p0.fKey).fN) then
            bif (ck_value_CheckCommand_k28_v p0 (ck_value_CheckCommand_w0_v p0 p0.fKind p0.fKey)) then
              1
            else
              bif (value_count_v p0.fN) then
                0
              else
                2
          else
            8
        else
          8
      else
        8
    else
      8
  else
    8
noncomputable def value_CheckCommand_v (p0 : GCommand) : Int :=
  bif decide (p0.fKind < 1) then
    3
  else
    bif decide (22 < p0.fKind) then
      3
    else
      value_CheckCommand_v_c0 p0
theorem value_CheckCommand_c0_t (p0 : GCommand) : value_CheckCommand_c0 p0 = some (value_CheckCommand_v_c0 p0) := by
  simp only [value_CheckCommand_c0, value_CheckCommand_v_c0, cx]
theorem value_CheckCommand_t (p0 : GCommand) : value_CheckCommand p0 = some (value_CheckCommand_v p0) := by
  simp only [value_CheckCommand, value_CheckCommand_v, value_CheckCommand_c0_t, cx]
def K_value_CheckCommand (C : ak) : Prop := ∀ (p0 : GCommand) (r : Int), value_CheckCommand p0 = some r → C 128 [.agg [.v (.i .i64 p0.fKind), .v (.s p0.fKey), .v (.s p0.fField), .v (.s p0.fText), .v (.i .i64 p0.fN)]] [] = some (.v (.i .i64 r), [])
/-! ### client.CheckCall -/
noncomputable def client_CheckCall_c0 (p0 : GCall) : Option Int :=
  bif (p0.fSeq == 0) then
    bif (p0.fCommand.fKind == 0) then
      bif cJ p0.fCommand.fKey ByteArray.empty then
        bif cJ p0.fCommand.fField ByteArray.empty then
          bif cJ p0.fCommand.fText ByteArray.empty then
            bif (p0.fCommand.fN == 0) then
              some 0
            else
              some 8
          else
            some 8
        else
          some 8
      else
        some 8
    else
      some 8
  else
    some 8
noncomputable def client_CheckCall (p0 : GCall) : Option Int :=
  bif (p0.fClient == 0) then
    client_CheckCall_c0 p0
  else
    bif (client_number_v p0.fClient) then
      bif (client_number_v p0.fSeq) then
        some (value_CheckCommand_v p0.fCommand)
      else
        some 2
    else
      some 2
noncomputable def client_CheckCall_v_c0 (p0 : GCall) : Int :=
  bif (p0.fSeq == 0) then
    bif (p0.fCommand.fKind == 0) then
      bif cJ p0.fCommand.fKey ByteArray.empty then
        bif cJ p0.fCommand.fField ByteArray.empty then
          bif cJ p0.fCommand.fText ByteArray.empty then
            bif (p0.fCommand.fN == 0) then
              0
            else
              8
          else
            8
        else
          8
      else
        8
    else
      8
  else
    8
noncomputable def client_CheckCall_v (p0 : GCall) : Int :=
  bif (p0.fClient == 0) then
    client_CheckCall_v_c0 p0
  else
    bif (client_number_v p0.fClient) then
      bif (client_number_v p0.fSeq) then
        (value_CheckCommand_v p0.fCommand)
      else
        2
    else
      2
theorem client_CheckCall_c0_t (p0 : GCall) : client_CheckCall_c0 p0 = some (client_CheckCall_v_c0 p0) := by
  simp only [client_CheckCall_c0, client_CheckCall_v_c0, cx]
theorem client_CheckCall_t (p0 : GCall) : client_CheckCall p0 = some (client_CheckCall_v p0) := by
  simp only [client_CheckCall, client_CheckCall_v, client_CheckCall_c0_t, cx]
def K_client_CheckCall (C : ak) : Prop := ∀ (p0 : GCall) (r : Int), client_CheckCall p0 = some r → C 102 [.agg [.v (.i .i64 p0.fClient), .v (.i .i64 p0.fSeq), .v (.i .i64 p0.fCommand.fKind), .v (.s p0.fCommand.fKey), .v (.s p0.fCommand.fField), .v (.s p0.fCommand.fText), .v (.i .i64 p0.fCommand.fN)]] [] = some (.v (.i .i64 r), [])
/-! ### wire.CheckItem -/
noncomputable def ck_wire_CheckItem_k1 (p0 : GItem) : Option Bool :=
  bif decide (p0.fTerm < 1) then
    some true
  else
    bif decide (1048576 < p0.fTerm) then
      some true
    else
      bif decide (p0.fTime < 0) then
        some true
      else
        some (decide (1073741824 < p0.fTime))
noncomputable def ck_wire_CheckItem_k1_v (p0 : GItem) : Bool :=
  bif decide (p0.fTerm < 1) then
    true
  else
    bif decide (1048576 < p0.fTerm) then
      true
    else
      bif decide (p0.fTime < 0) then
        true
      else
        decide (1073741824 < p0.fTime)
theorem ck_wire_CheckItem_k1_t (p0 : GItem) : ck_wire_CheckItem_k1 p0 = some (ck_wire_CheckItem_k1_v p0) := by
  simp only [ck_wire_CheckItem_k1, ck_wire_CheckItem_k1_v, cx]
noncomputable def wire_CheckItem_c0 (p0 : GItem) : Option Int :=
  bif (p0.fCall.fClient == 0) then
    bif (p0.fCall.fSeq == 0) then
      bif (p0.fCall.fCommand.fKind == 0) then
        bif cJ p0.fCall.fCommand.fKey ByteArray.empty then
          bif cJ p0.fCall.fCommand.fField ByteArray.empty then
            bif cJ p0.fCall.fCommand.fText ByteArray.empty then
              bif (p0.fCall.fCommand.fN == 0) then
                some 0
              else
                some 8
            else
              some 8
          else
            some 8
        else
          some 8
      else
        some 8
    else
      some 8
  else
    some 8
noncomputable def wire_CheckItem (p0 : GItem) : Option Int :=
  bif (ck_wire_CheckItem_k1_v p0) then
    some 2
  else
    bif p0.fNop then
      wire_CheckItem_c0 p0
    else
      some (client_CheckCall_v p0.fCall)
noncomputable def wire_CheckItem_v_c0 (p0 : GItem) : Int :=
  bif (p0.fCall.fClient == 0) then
    bif (p0.fCall.fSeq == 0) then
      bif (p0.fCall.fCommand.fKind == 0) then
        bif cJ p0.fCall.fCommand.fKey ByteArray.empty then
          bif cJ p0.fCall.fCommand.fField ByteArray.empty then
            bif cJ p0.fCall.fCommand.fText ByteArray.empty then
              bif (p0.fCall.fCommand.fN == 0) then
                0
              else
                8
            else
              8
          else
            8
        else
          8
      else
        8
    else
      8
  else
    8
noncomputable def wire_CheckItem_v (p0 : GItem) : Int :=
  bif (ck_wire_CheckItem_k1_v p0) then
    2
  else
    bif p0.fNop then
      wire_CheckItem_v_c0 p0
    else
      (client_CheckCall_v p0.fCall)
theorem wire_CheckItem_c0_t (p0 : GItem) : wire_CheckItem_c0 p0 = some (wire_CheckItem_v_c0 p0) := by
  simp only [wire_CheckItem_c0, wire_CheckItem_v_c0, cx]
theorem wire_CheckItem_t (p0 : GItem) : wire_CheckItem p0 = some (wire_CheckItem_v p0) := by
  simp only [wire_CheckItem, wire_CheckItem_v, wire_CheckItem_c0_t, cx]
def K_wire_CheckItem (C : ak) : Prop := ∀ (p0 : GItem) (r : Int), wire_CheckItem p0 = some r → C 56 [.agg [.v (.i .i64 p0.fTerm), .v (.i .i64 p0.fTime), .v (.b p0.fNop), .v (.i .i64 p0.fCall.fClient), .v (.i .i64 p0.fCall.fSeq), .v (.i .i64 p0.fCall.fCommand.fKind), .v (.s p0.fCall.fCommand.fKey), .v (.s p0.fCall.fCommand.fField), .v (.s p0.fCall.fCommand.fText), .v (.i .i64 p0.fCall.fCommand.fN)]] [] = some (.v (.i .i64 r), [])
/-! ### ledger.Check -/
noncomputable def ck_ledger_Check_k1_c0 (p0 : GLog) : Option Bool :=
  bif decide (p0.fBaseTerm < 0) then
    some true
  else
    bif decide (1048576 < p0.fBaseTerm) then
      some true
    else
      bif (p0.fBase == 0) then
        bif (p0.fBaseTerm == 0) then
          bif decide (200 < (p0.fItems.length : Int)) then
            some true
          else
            some (decide ((IntKind.i64.wrap (1048576 - (p0.fItems.length : Int))) < p0.fBase))
        else
          some true
      else
        bif (p0.fBaseTerm == 0) then
          some true
        else
          bif decide (200 < (p0.fItems.length : Int)) then
            some true
          else
            some (decide ((IntKind.i64.wrap (1048576 - (p0.fItems.length : Int))) < p0.fBase))
noncomputable def ck_ledger_Check_k1 (p0 : GLog) : Option Bool :=
  bif decide (p0.fBase < 0) then
    some true
  else
    ck_ledger_Check_k1_c0 p0
noncomputable def ck_ledger_Check_k1_v_c0 (p0 : GLog) : Bool :=
  bif decide (p0.fBaseTerm < 0) then
    true
  else
    bif decide (1048576 < p0.fBaseTerm) then
      true
    else
      bif (p0.fBase == 0) then
        bif (p0.fBaseTerm == 0) then
          bif decide (200 < (p0.fItems.length : Int)) then
            true
          else
            decide ((IntKind.i64.wrap (1048576 - (p0.fItems.length : Int))) < p0.fBase)
        else
          true
      else
        bif (p0.fBaseTerm == 0) then
          true
        else
          bif decide (200 < (p0.fItems.length : Int)) then
            true
          else
            decide ((IntKind.i64.wrap (1048576 - (p0.fItems.length : Int))) < p0.fBase)
noncomputable def ck_ledger_Check_k1_v (p0 : GLog) : Bool :=
  bif decide (p0.fBase < 0) then
    true
  else
    ck_ledger_Check_k1_v_c0 p0
theorem ck_ledger_Check_k1_c0_t (p0 : GLog) : ck_ledger_Check_k1_c0 p0 = some (ck_ledger_Check_k1_v_c0 p0) := by
  simp only [ck_ledger_Check_k1_c0, ck_ledger_Check_k1_v_c0, cx]
theorem ck_ledger_Check_k1_t (p0 : GLog) : ck_ledger_Check_k1 p0 = some (ck_ledger_Check_k1_v p0) := by
  simp only [ck_ledger_Check_k1, ck_ledger_Check_k1_v, ck_ledger_Check_k1_c0_t, cx]
noncomputable def ck_ledger_Check_k7 (p0 : Int) (p1 : List GItem) (p2 : Int) (p3 : GItem) : Option Bool :=
  bif ((wire_CheckItem_v p3) == 0) then
    bif decide (p3.fTerm < p0) then
      some true
    else
      some (decide (p3.fTime < 0))
  else
    some true
noncomputable def ck_ledger_Check_k7_v (p0 : Int) (p1 : List GItem) (p2 : Int) (p3 : GItem) : Bool :=
  bif ((wire_CheckItem_v p3) == 0) then
    bif decide (p3.fTerm < p0) then
      true
    else
      decide (p3.fTime < 0)
  else
    true
theorem ck_ledger_Check_k7_t (p0 : Int) (p1 : List GItem) (p2 : Int) (p3 : GItem) : ck_ledger_Check_k7 p0 p1 p2 p3 = some (ck_ledger_Check_k7_v p0 p1 p2 p3) := by
  simp only [ck_ledger_Check_k7, ck_ledger_Check_k7_v, cx]
noncomputable def ck_ledger_Check_k7v2 (p0 : Int) (p1 : Int) (p2 : List GItem) (p3 : Int) (p4 : Int) (p5 : GItem) : Option Bool :=
  bif ((wire_CheckItem_v p5) == 0) then
    bif decide (p5.fTerm < p0) then
      some true
    else
      some (decide (p5.fTime < p1))
  else
    some true
noncomputable def ck_ledger_Check_k7v2_v (p0 : Int) (p1 : Int) (p2 : List GItem) (p3 : Int) (p4 : Int) (p5 : GItem) : Bool :=
  bif ((wire_CheckItem_v p5) == 0) then
    bif decide (p5.fTerm < p0) then
      true
    else
      decide (p5.fTime < p1)
  else
    true
theorem ck_ledger_Check_k7v2_t (p0 : Int) (p1 : Int) (p2 : List GItem) (p3 : Int) (p4 : Int) (p5 : GItem) : ck_ledger_Check_k7v2 p0 p1 p2 p3 p4 p5 = some (ck_ledger_Check_k7v2_v p0 p1 p2 p3 p4 p5) := by
  simp only [ck_ledger_Check_k7v2, ck_ledger_Check_k7v2_v, cx]
noncomputable def st_ledger_Check_0 (p2 : List GItem) (p3 : Int) (s : Int × Int × Int) : Option ((Int × Int × Int) ⊕ (GItem ⊕ Unit)) :=
  match s with
  | (p0, p1, p4) =>
    bif decide (p4 < p3) then
      (match idx p2 p4 with
      | none => none
      | some x1 =>
        bif (ck_ledger_Check_k7v2_v p0 p1 p2 p3 p4 x1) then
          some (.inr (.inl x1))
        else
          some (.inl (x1.fTerm, x1.fTime, (IntKind.i64.wrap (p4 + 1))))
      )
    else
      some (.inr (.inr ()))
noncomputable def ledger_Check (p0 : GLog) : Option Int :=
  bif (ck_ledger_Check_k1_v p0) then
    some 13
  else
    (match ci (st_ledger_Check_0 p0.fItems (p0.fItems.length : Int)) (p0.fBaseTerm, 0, 0) with
    | none => none
    | some (.inl x1) =>
      some 13
    | some (.inr _) =>
      some 0
    )
def K_ledger_Check (C : ak) : Prop := ∀ (p0 : GLog) (r : Int), ledger_Check p0 = some r → C 49 [.agg [.v (.i .i64 p0.fBase), .v (.i .i64 p0.fBaseTerm), .v (.sl 10 (ab GItem.row p0.fItems))]] [] = some (.v (.i .i64 r), [])
/-! ### slices.Clone[[]api.Item,api.Item] -/
noncomputable def slices_Clone_Item_Item_z (p0 : List GItem) : Option (List GItem) := bif cH p0.length 104 then some p0 else none
def K_slices_Clone_Item_Item_z (C : ak) : Prop := ∀ (p0 : List GItem) (r : (List GItem)), slices_Clone_Item_Item_z p0 = some r → C 60 [.v (.sl 10 (ab GItem.row p0))] [] = some (.v (.sl 10 (ab GItem.row r)), [])
/-! ### ledger.term -/
noncomputable def ledger_term (p0 : GLog) (p1 : Int) : Option (Int × Int) :=
  bif decide (p1 < p0.fBase) then
    some (0, 11)
  else
    bif (p1 == p0.fBase) then
      some (p0.fBaseTerm, 0)
    else
      bif decide ((p0.fItems.length : Int) < (IntKind.i64.wrap (p1 - p0.fBase))) then
        some (0, 5)
      else
        (match idx p0.fItems (IntKind.i64.wrap ((IntKind.i64.wrap (p1 - p0.fBase)) - 1)) with
        | none => none
        | some x1 =>
          some (x1.fTerm, 0)
        )
def K_ledger_term (C : ak) : Prop := ∀ (p0 : GLog) (p1 : Int) (r : Int × Int), ledger_term p0 p1 = some r → C 54 [.agg [.v (.i .i64 p0.fBase), .v (.i .i64 p0.fBaseTerm), .v (.sl 10 (ab GItem.row p0.fItems))], .v (.i .i64 p1)] [] = some (.tup [.v (.i .i64 r.1), .v (.i .i64 r.2)], [])
/-! ### ledger.Match -/
noncomputable def st_ledger_Match_0_c0 (p0 : Int) (p1 : List GItem) (p2 : Int) (p3 : List GItem) (p4 : Int) (p6 : Int) (p7 : Int) (p8 : List GItem) (p5 : Int) (x1 : GItem) (x2 : GItem) : Option (Int ⊕ ((Bool × Int × Int × GLog × GItem) ⊕ Unit)) :=
  bif (x2.fTerm == x1.fTerm) then
    some (.inl (IntKind.i64.wrap (p5 + 1)))
  else
    bif rngB 0 (IntKind.i64.wrap (p2 + p5)) (p8.length : Int) then
      bif rngB p5 (p1.length : Int) (p1.length : Int) then
        bif (cI p1 p5 (p1.length : Int)).isEmpty then
          none
        else
          bif cH ((cI p8 0 (IntKind.i64.wrap (p2 + p5))).length + (cI p1 p5 (p1.length : Int)).length) 104 then
            (match ledger_Check (GLog.mk p6 p7 ((cI p8 0 (IntKind.i64.wrap (p2 + p5))) ++ (cI p1 p5 (p1.length : Int)))) with
            | none => none
            | some x3 =>
              bif (x3 == 0) then
                some (.inr (.inl (true, (IntKind.i64.wrap ((IntKind.i64.wrap (p0 + p5)) + 1)), 0, (GLog.mk p6 p7 ((cI p8 0 (IntKind.i64.wrap (p2 + p5))) ++ (cI p1 p5 (p1.length : Int)))), x1)))
              else
                some (.inr (.inl (false, 0, 6, (GLog.mk 0 0 []), x1)))
            )
          else
            none
      else
        none
    else
      none
noncomputable def st_ledger_Match_0_c1 (p0 : Int) (p1 : List GItem) (p2 : Int) (p3 : List GItem) (p4 : Int) (p6 : Int) (p7 : Int) (p8 : List GItem) (p5 : Int) (x1 : GItem) : Option (Int ⊕ ((Bool × Int × Int × GLog × GItem) ⊕ Unit)) :=
  bif rngB 0 (IntKind.i64.wrap (p2 + p5)) (p8.length : Int) then
    bif rngB p5 (p1.length : Int) (p1.length : Int) then
      bif (cI p1 p5 (p1.length : Int)).isEmpty then
        none
      else
        bif cH ((cI p8 0 (IntKind.i64.wrap (p2 + p5))).length + (cI p1 p5 (p1.length : Int)).length) 104 then
          (match ledger_Check (GLog.mk p6 p7 ((cI p8 0 (IntKind.i64.wrap (p2 + p5))) ++ (cI p1 p5 (p1.length : Int)))) with
          | none => none
          | some x2 =>
            bif (x2 == 0) then
              some (.inr (.inl (true, (IntKind.i64.wrap ((IntKind.i64.wrap (p0 + p5)) + 1)), 0, (GLog.mk p6 p7 ((cI p8 0 (IntKind.i64.wrap (p2 + p5))) ++ (cI p1 p5 (p1.length : Int)))), x1)))
            else
              some (.inr (.inl (false, 0, 6, (GLog.mk 0 0 []), x1)))
          )
        else
          none
    else
      none
  else
    none
noncomputable def st_ledger_Match_0 (p0 : Int) (p1 : List GItem) (p2 : Int) (p3 : List GItem) (p4 : Int) (p6 : Int) (p7 : Int) (p8 : List GItem) (s : Int) : Option (Int ⊕ ((Bool × Int × Int × GLog × GItem) ⊕ Unit)) :=
  match s with
  | p5 =>
    bif decide (p5 < p4) then
      (match idx p1 p5 with
      | none => none
      | some x1 =>
        bif decide ((IntKind.i64.wrap (p2 + p5)) < (p8.length : Int)) then
          (match idx p8 (IntKind.i64.wrap (p2 + p5)) with
          | none => none
          | some x2 =>
            st_ledger_Match_0_c0 p0 p1 p2 p3 p4 p6 p7 p8 p5 x1 x2
          )
        else
          st_ledger_Match_0_c1 p0 p1 p2 p3 p4 p6 p7 p8 p5 x1
      )
    else
      some (.inr (.inr ()))
noncomputable def st_ledger_Match_0v2_c0 (p0 : Int) (p1 : List GItem) (p2 : Int) (p3 : Int) (p5 : Int) (p6 : Int) (p7 : List GItem) (p4 : Int) (x1 : GItem) (x2 : GItem) : Option (Int ⊕ ((Bool × Int × Int × GLog × GItem) ⊕ Unit)) :=
  bif (x2.fTerm == x1.fTerm) then
    some (.inl (IntKind.i64.wrap (p4 + 1)))
  else
    bif rngB 0 (IntKind.i64.wrap (p2 + p4)) (p7.length : Int) then
      bif rngB p4 (p1.length : Int) (p1.length : Int) then
        bif (cI p1 p4 (p1.length : Int)).isEmpty then
          none
        else
          bif cH ((cI p7 0 (IntKind.i64.wrap (p2 + p4))).length + (cI p1 p4 (p1.length : Int)).length) 104 then
            (match ledger_Check (GLog.mk p5 p6 ((cI p7 0 (IntKind.i64.wrap (p2 + p4))) ++ (cI p1 p4 (p1.length : Int)))) with
            | none => none
            | some x3 =>
              bif (x3 == 0) then
                some (.inr (.inl (true, (IntKind.i64.wrap ((IntKind.i64.wrap (p0 + p4)) + 1)), 0, (GLog.mk p5 p6 ((cI p7 0 (IntKind.i64.wrap (p2 + p4))) ++ (cI p1 p4 (p1.length : Int)))), x1)))
              else
                some (.inr (.inl (false, 0, 6, (GLog.mk 0 0 []), x1)))
            )
          else
            none
      else
        none
    else
      none
noncomputable def st_ledger_Match_0v2_c1 (p0 : Int) (p1 : List GItem) (p2 : Int) (p3 : Int) (p5 : Int) (p6 : Int) (p7 : List GItem) (p4 : Int) (x1 : GItem) : Option (Int ⊕ ((Bool × Int × Int × GLog × GItem) ⊕ Unit)) :=
  bif rngB 0 (IntKind.i64.wrap (p2 + p4)) (p7.length : Int) then
    bif rngB p4 (p1.length : Int) (p1.length : Int) then
      bif (cI p1 p4 (p1.length : Int)).isEmpty then
        none
      else
        bif cH ((cI p7 0 (IntKind.i64.wrap (p2 + p4))).length + (cI p1 p4 (p1.length : Int)).length) 104 then
          (match ledger_Check (GLog.mk p5 p6 ((cI p7 0 (IntKind.i64.wrap (p2 + p4))) ++ (cI p1 p4 (p1.length : Int)))) with
          | none => none
          | some x2 =>
            bif (x2 == 0) then
              some (.inr (.inl (true, (IntKind.i64.wrap ((IntKind.i64.wrap (p0 + p4)) + 1)), 0, (GLog.mk p5 p6 ((cI p7 0 (IntKind.i64.wrap (p2 + p4))) ++ (cI p1 p4 (p1.length : Int)))), x1)))
            else
              some (.inr (.inl (false, 0, 6, (GLog.mk 0 0 []), x1)))
          )
        else
          none
    else
      none
  else
    none
noncomputable def st_ledger_Match_0v2 (p0 : Int) (p1 : List GItem) (p2 : Int) (p3 : Int) (p5 : Int) (p6 : Int) (p7 : List GItem) (s : Int) : Option (Int ⊕ ((Bool × Int × Int × GLog × GItem) ⊕ Unit)) :=
  match s with
  | p4 =>
    bif decide (p4 < p3) then
      (match idx p1 p4 with
      | none => none
      | some x1 =>
        bif decide ((IntKind.i64.wrap (p2 + p4)) < (p7.length : Int)) then
          (match idx p7 (IntKind.i64.wrap (p2 + p4)) with
          | none => none
          | some x2 =>
            st_ledger_Match_0v2_c0 p0 p1 p2 p3 p5 p6 p7 p4 x1 x2
          )
        else
          st_ledger_Match_0v2_c1 p0 p1 p2 p3 p5 p6 p7 p4 x1
      )
    else
      some (.inr (.inr ()))
noncomputable def ledger_Match_c0 (p0 : GLog) (p1 : Int) (p2 : Int) (p3 : List GItem) (x1 : Int) (x2 : Int) (x3 : List GItem) : Option (GLog × Bool × Int × Int) :=
  (match ledger_term p0 p1 with
  | none => none
  | some (x4, x5) =>
    bif (x5 == 0) then
      bif (x4 == p2) then
        (match ci (st_ledger_Match_0v2 p1 p3 (IntKind.i64.wrap (p1 - p0.fBase)) (p3.length : Int) p0.fBase p0.fBaseTerm x3) 0 with
        | none => none
        | some (.inl (x6, x7, x8, x9, x10)) =>
          some (x9, x6, x7, x8)
        | some (.inr _) =>
          some ((GLog.mk p0.fBase p0.fBaseTerm x3), true, 0, 0)
        )
      else
        some ((GLog.mk p0.fBase p0.fBaseTerm x3), false, 0, 0)
    else
      some ((GLog.mk p0.fBase p0.fBaseTerm x3), false, 0, 0)
  )
noncomputable def ledger_Match_c1 (p0 : GLog) (p1 : Int) (p2 : Int) (p3 : List GItem) (x1 : Int) (x2 : Int) : Option (GLog × Bool × Int × Int) :=
  bif (x2 == 0) then
    (match slices_Clone_Item_Item_z p0.fItems with
    | none => none
    | some x3 =>
      bif decide (p1 < p0.fBase) then
        bif rngB (if (p3.length : Int) < (IntKind.i64.wrap (p0.fBase - p1)) then (p3.length : Int) else (IntKind.i64.wrap (p0.fBase - p1))) (p3.length : Int) (p3.length : Int) then
          bif decide ((IntKind.i64.wrap (p1 + (if (p3.length : Int) < (IntKind.i64.wrap (p0.fBase - p1)) then (p3.length : Int) else (IntKind.i64.wrap (p0.fBase - p1))))) < p0.fBase) then
            some ((GLog.mk p0.fBase p0.fBaseTerm x3), true, 0, 0)
          else
            (match ci (st_ledger_Match_0 (IntKind.i64.wrap (p1 + (if (p3.length : Int) < (IntKind.i64.wrap (p0.fBase - p1)) then (p3.length : Int) else (IntKind.i64.wrap (p0.fBase - p1))))) (cI p3 (if (p3.length : Int) < (IntKind.i64.wrap (p0.fBase - p1)) then (p3.length : Int) else (IntKind.i64.wrap (p0.fBase - p1))) (p3.length : Int)) (IntKind.i64.wrap ((IntKind.i64.wrap (p1 + (if (p3.length : Int) < (IntKind.i64.wrap (p0.fBase - p1)) then (p3.length : Int) else (IntKind.i64.wrap (p0.fBase - p1))))) - p0.fBase)) p3 ((cI p3 (if (p3.length : Int) < (IntKind.i64.wrap (p0.fBase - p1)) then (p3.length : Int) else (IntKind.i64.wrap (p0.fBase - p1))) (p3.length : Int)).length : Int) p0.fBase p0.fBaseTerm x3) 0 with
            | none => none
            | some (.inl (x4, x5, x6, x7, x8)) =>
              some (x7, x4, x5, x6)
            | some (.inr _) =>
              some ((GLog.mk p0.fBase p0.fBaseTerm x3), true, 0, 0)
            )
        else
          none
      else
        ledger_Match_c0 p0 p1 p2 p3 x1 x2 x3
    )
  else
    some ((GLog.mk 0 0 []), false, 0, 10)
noncomputable def ledger_Match (p0 : GLog) (p1 : Int) (p2 : Int) (p3 : List GItem) : Option (GLog × Bool × Int × Int) :=
  (match ledger_Check p0 with
  | none => none
  | some x1 =>
    bif (x1 == 0) then
      (match ledger_Check (GLog.mk p1 p2 p3) with
      | none => none
      | some x2 =>
        ledger_Match_c1 p0 p1 p2 p3 x1 x2
      )
    else
      some ((GLog.mk 0 0 []), false, 0, x1)
  )
def K_ledger_Match (C : ak) : Prop := ∀ (p0 : GLog) (p1 : Int) (p2 : Int) (p3 : List GItem) (r : GLog × Bool × Int × Int), ledger_Match p0 p1 p2 p3 = some r → C 31 [.agg [.v (.i .i64 p0.fBase), .v (.i .i64 p0.fBaseTerm), .v (.sl 10 (ab GItem.row p0.fItems))], .v (.i .i64 p1), .v (.i .i64 p2), .v (.sl 10 (ab GItem.row p3))] [] = some (.tup [.agg [.v (.i .i64 r.1.fBase), .v (.i .i64 r.1.fBaseTerm), .v (.sl 10 (ab GItem.row r.1.fItems))], .v (.b r.2.1), .v (.i .i64 r.2.2.1), .v (.i .i64 r.2.2.2)], [])
/-! ### rostrumref.In -/
noncomputable def rostrumref_In (p0 : Int) (p1 : Int) (p2 : Int) : Option Bool :=
  bif decide (p1 ≤ p0) then
    some (decide (p0 ≤ p2))
  else
    some false
noncomputable def rostrumref_In_v (p0 : Int) (p1 : Int) (p2 : Int) : Bool := (decide (p1 ≤ p0) && decide (p0 ≤ p2))
theorem rostrumref_In_t (p0 : Int) (p1 : Int) (p2 : Int) : rostrumref_In p0 p1 p2 = some (rostrumref_In_v p0 p1 p2) := by
  simp only [rostrumref_In, rostrumref_In_v]
  cases decide (p1 ≤ p0) <;> rfl
def K_rostrumref_In (C : ak) : Prop := ∀ (p0 : Int) (p1 : Int) (p2 : Int) (r : Bool), rostrumref_In p0 p1 p2 = some r → C 55 [.v (.i .i64 p0), .v (.i .i64 p1), .v (.i .i64 p2)] [] = some (.v (.b r), [])
/-! ### rostrumref.numberMay -/
noncomputable def rostrumref_numberMay (p0 : Int) : Option Bool :=
  some (decide (1 ≤ p0) && decide (p0 ≤ 1048576))
noncomputable def rostrumref_numberMay_v (p0 : Int) : Bool := (decide (1 ≤ p0) && decide (p0 ≤ 1048576))
theorem rostrumref_numberMay_t (p0 : Int) : rostrumref_numberMay p0 = some (rostrumref_numberMay_v p0) := by
  simp only [rostrumref_numberMay, rostrumref_numberMay_v]
def K_rostrumref_numberMay (C : ak) : Prop := ∀ (p0 : Int) (r : Bool), rostrumref_numberMay p0 = some r → C 91 [.v (.i .i64 p0)] [] = some (.v (.b r), [])
/-! ### rostrumref.fieldMay -/
noncomputable def rostrumref_fieldMay (p0 : ByteArray) : Option Bool :=
  some (decide (1 ≤ (p0.size : Int)) && decide ((p0.size : Int) ≤ 12))
noncomputable def rostrumref_fieldMay_v (p0 : ByteArray) : Bool := (decide (1 ≤ (p0.size : Int)) && decide ((p0.size : Int) ≤ 12))
theorem rostrumref_fieldMay_t (p0 : ByteArray) : rostrumref_fieldMay p0 = some (rostrumref_fieldMay_v p0) := by
  simp only [rostrumref_fieldMay, rostrumref_fieldMay_v]
def K_rostrumref_fieldMay (C : ak) : Prop := ∀ (p0 : ByteArray) (r : Bool), rostrumref_fieldMay p0 = some r → C 81 [.v (.s p0)] [] = some (.v (.b r), [])
/-! ### rostrumref.textMay -/
noncomputable def rostrumref_textMay (p0 : ByteArray) : Option Bool :=
  some (decide ((p0.size : Int) ≤ 20))
noncomputable def rostrumref_textMay_v (p0 : ByteArray) : Bool := decide ((p0.size : Int) ≤ 20)
theorem rostrumref_textMay_t (p0 : ByteArray) : rostrumref_textMay p0 = some (rostrumref_textMay_v p0) := by
  simp only [rostrumref_textMay, rostrumref_textMay_v]
def K_rostrumref_textMay (C : ak) : Prop := ∀ (p0 : ByteArray) (r : Bool), rostrumref_textMay p0 = some r → C 80 [.v (.s p0)] [] = some (.v (.b r), [])
/-! ### rostrumref.countMay -/
noncomputable def rostrumref_countMay (p0 : Int) : Option Bool :=
  some (decide ((-1099511627776) ≤ p0) && decide (p0 ≤ 1099511627776))
noncomputable def rostrumref_countMay_v (p0 : Int) : Bool := (decide ((-1099511627776) ≤ p0) && decide (p0 ≤ 1099511627776))
theorem rostrumref_countMay_t (p0 : Int) : rostrumref_countMay p0 = some (rostrumref_countMay_v p0) := by
  simp only [rostrumref_countMay, rostrumref_countMay_v]
def K_rostrumref_countMay (C : ak) : Prop := ∀ (p0 : Int) (r : Bool), rostrumref_countMay p0 = some r → C 82 [.v (.i .i64 p0)] [] = some (.v (.b r), [])
/-! ### rostrumref.CommandFault -/
noncomputable def ck_rostrumref_CommandFault_k3 (p0 : GCommand) : Option Bool :=
  bif (p0.fKind == 1) then
    some true
  else
    bif (p0.fKind == 4) then
      some true
    else
      bif (p0.fKind == 7) then
        some true
      else
        bif (p0.fKind == 8) then
          some true
        else
          some (decide (11 ≤ p0.fKind) && decide (p0.fKind ≤ 16))
noncomputable def ck_rostrumref_CommandFault_k3_v (p0 : GCommand) : Bool :=
  bif (p0.fKind == 1) then
    true
  else
    bif (p0.fKind == 4) then
      true
    else
      bif (p0.fKind == 7) then
        true
      else
        bif (p0.fKind == 8) then
          true
        else
          (decide (11 ≤ p0.fKind) && decide (p0.fKind ≤ 16))
theorem ck_rostrumref_CommandFault_k3_t (p0 : GCommand) : ck_rostrumref_CommandFault_k3 p0 = some (ck_rostrumref_CommandFault_k3_v p0) := by
  simp only [ck_rostrumref_CommandFault_k3, ck_rostrumref_CommandFault_k3_v, cx]
noncomputable def ck_rostrumref_CommandFault_k5 (p0 : GCommand) (p1 : Bool) (p2 : Bool) : Option Bool :=
  bif (p0.fKind == 3) then
    some true
  else
    bif (p0.fKind == 14) then
      some true
    else
      some (p0.fKind == 20)
noncomputable def ck_rostrumref_CommandFault_k5_v (p0 : GCommand) (p1 : Bool) (p2 : Bool) : Bool :=
  bif (p0.fKind == 3) then
    true
  else
    bif (p0.fKind == 14) then
      true
    else
      (p0.fKind == 20)
theorem ck_rostrumref_CommandFault_k5_t (p0 : GCommand) (p1 : Bool) (p2 : Bool) : ck_rostrumref_CommandFault_k5 p0 p1 p2 = some (ck_rostrumref_CommandFault_k5_v p0 p1 p2) := by
  simp only [ck_rostrumref_CommandFault_k5, ck_rostrumref_CommandFault_k5_v, cx]
noncomputable def ck_rostrumref_CommandFault_k7_c0 (p0 : GCommand) (p1 : Bool) (p2 : Bool) (p3 : Bool) (p4 : Bool) : Option Bool :=
  bif cJ p0.fField ByteArray.empty then
    bif p3 then
      bif p4 then
        some false
      else
        some (!cJ p0.fKey ByteArray.empty)
    else
      bif (p0.fN == 0) then
        bif p4 then
          some false
        else
          some (!cJ p0.fKey ByteArray.empty)
      else
        some true
  else
    some true
noncomputable def ck_rostrumref_CommandFault_k7_c1 (p0 : GCommand) (p1 : Bool) (p2 : Bool) (p3 : Bool) (p4 : Bool) : Option Bool :=
  bif cJ p0.fField ByteArray.empty then
    bif p3 then
      bif p4 then
        some false
      else
        some (!cJ p0.fKey ByteArray.empty)
    else
      bif (p0.fN == 0) then
        bif p4 then
          some false
        else
          some (!cJ p0.fKey ByteArray.empty)
      else
        some true
  else
    some true
noncomputable def ck_rostrumref_CommandFault_k7_c2 (p0 : GCommand) (p1 : Bool) (p2 : Bool) (p3 : Bool) (p4 : Bool) : Option Bool :=
  bif cJ p0.fText ByteArray.empty then
    bif p2 then
      bif p3 then
        bif p4 then
          some false
        else
          some (!cJ p0.fKey ByteArray.empty)
      else
        bif (p0.fN == 0) then
          bif p4 then
            some false
          else
            some (!cJ p0.fKey ByteArray.empty)
        else
          some true
    else
      ck_rostrumref_CommandFault_k7_c1 p0 p1 p2 p3 p4
  else
    some true
noncomputable def ck_rostrumref_CommandFault_k7 (p0 : GCommand) (p1 : Bool) (p2 : Bool) (p3 : Bool) (p4 : Bool) : Option Bool :=
  bif p1 then
    bif p2 then
      bif p3 then
        bif p4 then
          some false
        else
          some (!cJ p0.fKey ByteArray.empty)
      else
        bif (p0.fN == 0) then
          bif p4 then
            some false
          else
            some (!cJ p0.fKey ByteArray.empty)
        else
          some true
    else
      ck_rostrumref_CommandFault_k7_c0 p0 p1 p2 p3 p4
  else
    ck_rostrumref_CommandFault_k7_c2 p0 p1 p2 p3 p4
noncomputable def ck_rostrumref_CommandFault_k7_v_c0 (p0 : GCommand) (p1 : Bool) (p2 : Bool) (p3 : Bool) (p4 : Bool) : Bool :=
  bif cJ p0.fField ByteArray.empty then
    bif p3 then
      bif p4 then
        false
      else
        (!cJ p0.fKey ByteArray.empty)
    else
      bif (p0.fN == 0) then
        bif p4 then
          false
        else
          (!cJ p0.fKey ByteArray.empty)
      else
        true
  else
    true
noncomputable def ck_rostrumref_CommandFault_k7_v_c1 (p0 : GCommand) (p1 : Bool) (p2 : Bool) (p3 : Bool) (p4 : Bool) : Bool :=
  bif cJ p0.fField ByteArray.empty then
    bif p3 then
      bif p4 then
        false
      else
        (!cJ p0.fKey ByteArray.empty)
    else
      bif (p0.fN == 0) then
        bif p4 then
          false
        else
          (!cJ p0.fKey ByteArray.empty)
      else
        true
  else
    true
noncomputable def ck_rostrumref_CommandFault_k7_v_c2 (p0 : GCommand) (p1 : Bool) (p2 : Bool) (p3 : Bool) (p4 : Bool) : Bool :=
  bif cJ p0.fText ByteArray.empty then
    bif p2 then
      bif p3 then
        bif p4 then
          false
        else
          (!cJ p0.fKey ByteArray.empty)
      else
        bif (p0.fN == 0) then
          bif p4 then
            false
          else
            (!cJ p0.fKey ByteArray.empty)
        else
          true
    else
      ck_rostrumref_CommandFault_k7_v_c1 p0 p1 p2 p3 p4
  else
    true
noncomputable def ck_rostrumref_CommandFault_k7_v (p0 : GCommand) (p1 : Bool) (p2 : Bool) (p3 : Bool) (p4 : Bool) : Bool :=
  bif p1 then
    bif p2 then
      bif p3 then
        bif p4 then
          false
        else
          (!cJ p0.fKey ByteArray.empty)
      else
        bif (p0.fN == 0) then
          bif p4 then
            false
          else
            (!cJ p0.fKey ByteArray.empty)
        else
          true
    else
      ck_rostrumref_CommandFault_k7_v_c0 p0 p1 p2 p3 p4
  else
    ck_rostrumref_CommandFault_k7_v_c2 p0 p1 p2 p3 p4
theorem ck_rostrumref_CommandFault_k7_c0_t (p0 : GCommand) (p1 : Bool) (p2 : Bool) (p3 : Bool) (p4 : Bool) : ck_rostrumref_CommandFault_k7_c0 p0 p1 p2 p3 p4 = some (ck_rostrumref_CommandFault_k7_v_c0 p0 p1 p2 p3 p4) := by
  simp only [ck_rostrumref_CommandFault_k7_c0, ck_rostrumref_CommandFault_k7_v_c0, cx]
theorem ck_rostrumref_CommandFault_k7_c1_t (p0 : GCommand) (p1 : Bool) (p2 : Bool) (p3 : Bool) (p4 : Bool) : ck_rostrumref_CommandFault_k7_c1 p0 p1 p2 p3 p4 = some (ck_rostrumref_CommandFault_k7_v_c1 p0 p1 p2 p3 p4) := by
  simp only [ck_rostrumref_CommandFault_k7_c1, ck_rostrumref_CommandFault_k7_v_c1, cx]
theorem ck_rostrumref_CommandFault_k7_c2_t (p0 : GCommand) (p1 : Bool) (p2 : Bool) (p3 : Bool) (p4 : Bool) : ck_rostrumref_CommandFault_k7_c2 p0 p1 p2 p3 p4 = some (ck_rostrumref_CommandFault_k7_v_c2 p0 p1 p2 p3 p4) := by
  simp only [ck_rostrumref_CommandFault_k7_c2, ck_rostrumref_CommandFault_k7_v_c2, ck_rostrumref_CommandFault_k7_c1_t, cx]
theorem ck_rostrumref_CommandFault_k7_t (p0 : GCommand) (p1 : Bool) (p2 : Bool) (p3 : Bool) (p4 : Bool) : ck_rostrumref_CommandFault_k7 p0 p1 p2 p3 p4 = some (ck_rostrumref_CommandFault_k7_v p0 p1 p2 p3 p4) := by
  simp only [ck_rostrumref_CommandFault_k7, ck_rostrumref_CommandFault_k7_v, ck_rostrumref_CommandFault_k7_c0_t, ck_rostrumref_CommandFault_k7_c2_t, cx]
noncomputable def ck_rostrumref_CommandFault_k9 (p0 : GCommand) (p1 : Bool) (p2 : Bool) : Option Bool :=
  bif p2 then
    bif (rostrumref_fieldMay_v p0.fKey) then
      bif p1 then
        bif (rostrumref_fieldMay_v p0.fField) then
          some (!(rostrumref_textMay_v p0.fText))
        else
          some true
      else
        some (!(rostrumref_textMay_v p0.fText))
    else
      some true
  else
    bif p1 then
      bif (rostrumref_fieldMay_v p0.fField) then
        some (!(rostrumref_textMay_v p0.fText))
      else
        some true
    else
      some (!(rostrumref_textMay_v p0.fText))
noncomputable def ck_rostrumref_CommandFault_k9_v (p0 : GCommand) (p1 : Bool) (p2 : Bool) : Bool :=
  bif p2 then
    bif (rostrumref_fieldMay_v p0.fKey) then
      bif p1 then
        bif (rostrumref_fieldMay_v p0.fField) then
          (!(rostrumref_textMay_v p0.fText))
        else
          true
      else
        (!(rostrumref_textMay_v p0.fText))
    else
      true
  else
    bif p1 then
      bif (rostrumref_fieldMay_v p0.fField) then
        (!(rostrumref_textMay_v p0.fText))
      else
        true
    else
      (!(rostrumref_textMay_v p0.fText))
theorem ck_rostrumref_CommandFault_k9_t (p0 : GCommand) (p1 : Bool) (p2 : Bool) : ck_rostrumref_CommandFault_k9 p0 p1 p2 = some (ck_rostrumref_CommandFault_k9_v p0 p1 p2) := by
  simp only [ck_rostrumref_CommandFault_k9, ck_rostrumref_CommandFault_k9_v, cx]
noncomputable def rostrumref_CommandFault (p0 : GCommand) : Option Int :=
  bif decide (1 ≤ p0.fKind) then
    bif decide (p0.fKind ≤ 22) then
      bif (ck_rostrumref_CommandFault_k7_v p0 (ck_rostrumref_CommandFault_k3_v p0) (decide (4 ≤ p0.fKind) && decide (p0.fKind ≤ 6)) (ck_rostrumref_CommandFault_k5_v p0 (ck_rostrumref_CommandFault_k3_v p0) (decide (4 ≤ p0.fKind) && decide (p0.fKind ≤ 6))) (!(p0.fKind == 22))) then
        some 8
      else
        bif (ck_rostrumref_CommandFault_k9_v p0 (decide (4 ≤ p0.fKind) && decide (p0.fKind ≤ 6)) (!(p0.fKind == 22))) then
          some 1
        else
          bif (rostrumref_countMay_v p0.fN) then
            some 0
          else
            some 2
    else
      some 3
  else
    some 3
noncomputable def rostrumref_CommandFault_v (p0 : GCommand) : Int :=
  bif decide (1 ≤ p0.fKind) then
    bif decide (p0.fKind ≤ 22) then
      bif (ck_rostrumref_CommandFault_k7_v p0 (ck_rostrumref_CommandFault_k3_v p0) (decide (4 ≤ p0.fKind) && decide (p0.fKind ≤ 6)) (ck_rostrumref_CommandFault_k5_v p0 (ck_rostrumref_CommandFault_k3_v p0) (decide (4 ≤ p0.fKind) && decide (p0.fKind ≤ 6))) (!(p0.fKind == 22))) then
        8
      else
        bif (ck_rostrumref_CommandFault_k9_v p0 (decide (4 ≤ p0.fKind) && decide (p0.fKind ≤ 6)) (!(p0.fKind == 22))) then
          1
        else
          bif (rostrumref_countMay_v p0.fN) then
            0
          else
            2
    else
      3
  else
    3
theorem rostrumref_CommandFault_t (p0 : GCommand) : rostrumref_CommandFault p0 = some (rostrumref_CommandFault_v p0) := by
  simp only [rostrumref_CommandFault, rostrumref_CommandFault_v, cx]
def K_rostrumref_CommandFault (C : ak) : Prop := ∀ (p0 : GCommand) (r : Int), rostrumref_CommandFault p0 = some r → C 130 [.agg [.v (.i .i64 p0.fKind), .v (.s p0.fKey), .v (.s p0.fField), .v (.s p0.fText), .v (.i .i64 p0.fN)]] [] = some (.v (.i .i64 r), [])
/-! ### rostrumref.CallFault -/
noncomputable def rostrumref_CallFault_c0 (p0 : GCall) : Option Int :=
  bif (p0.fSeq == 0) then
    bif (p0.fCommand.fKind == 0) then
      bif cJ p0.fCommand.fKey ByteArray.empty then
        bif cJ p0.fCommand.fField ByteArray.empty then
          bif cJ p0.fCommand.fText ByteArray.empty then
            bif (p0.fCommand.fN == 0) then
              some 0
            else
              some 8
          else
            some 8
        else
          some 8
      else
        some 8
    else
      some 8
  else
    some 8
noncomputable def rostrumref_CallFault (p0 : GCall) : Option Int :=
  bif (p0.fClient == 0) then
    rostrumref_CallFault_c0 p0
  else
    bif (rostrumref_numberMay_v p0.fClient) then
      bif (rostrumref_numberMay_v p0.fSeq) then
        some (rostrumref_CommandFault_v p0.fCommand)
      else
        some 2
    else
      some 2
noncomputable def rostrumref_CallFault_v_c0 (p0 : GCall) : Int :=
  bif (p0.fSeq == 0) then
    bif (p0.fCommand.fKind == 0) then
      bif cJ p0.fCommand.fKey ByteArray.empty then
        bif cJ p0.fCommand.fField ByteArray.empty then
          bif cJ p0.fCommand.fText ByteArray.empty then
            bif (p0.fCommand.fN == 0) then
              0
            else
              8
          else
            8
        else
          8
      else
        8
    else
      8
  else
    8
noncomputable def rostrumref_CallFault_v (p0 : GCall) : Int :=
  bif (p0.fClient == 0) then
    rostrumref_CallFault_v_c0 p0
  else
    bif (rostrumref_numberMay_v p0.fClient) then
      bif (rostrumref_numberMay_v p0.fSeq) then
        (rostrumref_CommandFault_v p0.fCommand)
      else
        2
    else
      2
theorem rostrumref_CallFault_c0_t (p0 : GCall) : rostrumref_CallFault_c0 p0 = some (rostrumref_CallFault_v_c0 p0) := by
  simp only [rostrumref_CallFault_c0, rostrumref_CallFault_v_c0, cx]
theorem rostrumref_CallFault_t (p0 : GCall) : rostrumref_CallFault p0 = some (rostrumref_CallFault_v p0) := by
  simp only [rostrumref_CallFault, rostrumref_CallFault_v, rostrumref_CallFault_c0_t, cx]
def K_rostrumref_CallFault (C : ak) : Prop := ∀ (p0 : GCall) (r : Int), rostrumref_CallFault p0 = some r → C 104 [.agg [.v (.i .i64 p0.fClient), .v (.i .i64 p0.fSeq), .v (.i .i64 p0.fCommand.fKind), .v (.s p0.fCommand.fKey), .v (.s p0.fCommand.fField), .v (.s p0.fCommand.fText), .v (.i .i64 p0.fCommand.fN)]] [] = some (.v (.i .i64 r), [])
/-! ### rostrumref.ItemFault -/
noncomputable def rostrumref_ItemFault_c0 (p0 : GItem) : Option Int :=
  bif (p0.fCall.fClient == 0) then
    bif (p0.fCall.fSeq == 0) then
      bif (p0.fCall.fCommand.fKind == 0) then
        bif cJ p0.fCall.fCommand.fKey ByteArray.empty then
          bif cJ p0.fCall.fCommand.fField ByteArray.empty then
            bif cJ p0.fCall.fCommand.fText ByteArray.empty then
              bif (p0.fCall.fCommand.fN == 0) then
                some 0
              else
                some 8
            else
              some 8
          else
            some 8
        else
          some 8
      else
        some 8
    else
      some 8
  else
    some 8
noncomputable def rostrumref_ItemFault (p0 : GItem) : Option Int :=
  bif (rostrumref_numberMay_v p0.fTerm) then
    bif decide (0 ≤ p0.fTime) then
      bif decide (p0.fTime ≤ 1073741824) then
        bif p0.fNop then
          rostrumref_ItemFault_c0 p0
        else
          some (rostrumref_CallFault_v p0.fCall)
      else
        some 2
    else
      some 2
  else
    some 2
noncomputable def rostrumref_ItemFault_v_c0 (p0 : GItem) : Int :=
  bif (p0.fCall.fClient == 0) then
    bif (p0.fCall.fSeq == 0) then
      bif (p0.fCall.fCommand.fKind == 0) then
        bif cJ p0.fCall.fCommand.fKey ByteArray.empty then
          bif cJ p0.fCall.fCommand.fField ByteArray.empty then
            bif cJ p0.fCall.fCommand.fText ByteArray.empty then
              bif (p0.fCall.fCommand.fN == 0) then
                0
              else
                8
            else
              8
          else
            8
        else
          8
      else
        8
    else
      8
  else
    8
noncomputable def rostrumref_ItemFault_v (p0 : GItem) : Int :=
  bif (rostrumref_numberMay_v p0.fTerm) then
    bif decide (0 ≤ p0.fTime) then
      bif decide (p0.fTime ≤ 1073741824) then
        bif p0.fNop then
          rostrumref_ItemFault_v_c0 p0
        else
          (rostrumref_CallFault_v p0.fCall)
      else
        2
    else
      2
  else
    2
theorem rostrumref_ItemFault_c0_t (p0 : GItem) : rostrumref_ItemFault_c0 p0 = some (rostrumref_ItemFault_v_c0 p0) := by
  simp only [rostrumref_ItemFault_c0, rostrumref_ItemFault_v_c0, cx]
theorem rostrumref_ItemFault_t (p0 : GItem) : rostrumref_ItemFault p0 = some (rostrumref_ItemFault_v p0) := by
  simp only [rostrumref_ItemFault, rostrumref_ItemFault_v, rostrumref_ItemFault_c0_t, cx]
def K_rostrumref_ItemFault (C : ak) : Prop := ∀ (p0 : GItem) (r : Int), rostrumref_ItemFault p0 = some r → C 58 [.agg [.v (.i .i64 p0.fTerm), .v (.i .i64 p0.fTime), .v (.b p0.fNop), .v (.i .i64 p0.fCall.fClient), .v (.i .i64 p0.fCall.fSeq), .v (.i .i64 p0.fCall.fCommand.fKind), .v (.s p0.fCall.fCommand.fKey), .v (.s p0.fCall.fCommand.fField), .v (.s p0.fCall.fCommand.fText), .v (.i .i64 p0.fCall.fCommand.fN)]] [] = some (.v (.i .i64 r), [])
/-! ### rostrumref.LogFault -/
noncomputable def ck_rostrumref_LogFault_k1_c0 (p0 : GLog) : Option Bool :=
  bif decide (0 ≤ p0.fBaseTerm) then
    bif decide (p0.fBaseTerm ≤ 1048576) then
      bif (p0.fBase == 0) then
        bif (p0.fBaseTerm == 0) then
          bif decide (200 < (p0.fItems.length : Int)) then
            some true
          else
            some (decide (1048576 < (IntKind.i64.wrap (p0.fBase + (p0.fItems.length : Int)))))
        else
          some true
      else
        bif (p0.fBaseTerm == 0) then
          some true
        else
          bif decide (200 < (p0.fItems.length : Int)) then
            some true
          else
            some (decide (1048576 < (IntKind.i64.wrap (p0.fBase + (p0.fItems.length : Int)))))
    else
      some true
  else
    some true
noncomputable def ck_rostrumref_LogFault_k1 (p0 : GLog) : Option Bool :=
  bif decide (0 ≤ p0.fBase) then
    bif decide (p0.fBase ≤ 1048576) then
      ck_rostrumref_LogFault_k1_c0 p0
    else
      some true
  else
    some true
noncomputable def ck_rostrumref_LogFault_k1_v_c0 (p0 : GLog) : Bool :=
  bif decide (0 ≤ p0.fBaseTerm) then
    bif decide (p0.fBaseTerm ≤ 1048576) then
      bif (p0.fBase == 0) then
        bif (p0.fBaseTerm == 0) then
          bif decide (200 < (p0.fItems.length : Int)) then
            true
          else
            decide (1048576 < (IntKind.i64.wrap (p0.fBase + (p0.fItems.length : Int))))
        else
          true
      else
        bif (p0.fBaseTerm == 0) then
          true
        else
          bif decide (200 < (p0.fItems.length : Int)) then
            true
          else
            decide (1048576 < (IntKind.i64.wrap (p0.fBase + (p0.fItems.length : Int))))
    else
      true
  else
    true
noncomputable def ck_rostrumref_LogFault_k1_v (p0 : GLog) : Bool :=
  bif decide (0 ≤ p0.fBase) then
    bif decide (p0.fBase ≤ 1048576) then
      ck_rostrumref_LogFault_k1_v_c0 p0
    else
      true
  else
    true
theorem ck_rostrumref_LogFault_k1_c0_t (p0 : GLog) : ck_rostrumref_LogFault_k1_c0 p0 = some (ck_rostrumref_LogFault_k1_v_c0 p0) := by
  simp only [ck_rostrumref_LogFault_k1_c0, ck_rostrumref_LogFault_k1_v_c0, cx]
theorem ck_rostrumref_LogFault_k1_t (p0 : GLog) : ck_rostrumref_LogFault_k1 p0 = some (ck_rostrumref_LogFault_k1_v p0) := by
  simp only [ck_rostrumref_LogFault_k1, ck_rostrumref_LogFault_k1_v, ck_rostrumref_LogFault_k1_c0_t, cx]
noncomputable def st_rostrumref_LogFault_0_c0 (p0 : GLog) (p1 : Int) : Option (Int ⊕ (Unit ⊕ Unit)) :=
  (match idx p0.fItems p1 with
  | none => none
  | some x1 =>
    bif ((rostrumref_ItemFault_v x1) == 0) then
      bif decide (x1.fTerm < p0.fBaseTerm) then
        some (.inr (.inl ()))
      else
        bif decide (0 < p1) then
          (match idx p0.fItems (IntKind.i64.wrap (p1 - 1)) with
          | none => none
          | some x2 =>
            bif decide (x1.fTerm < x2.fTerm) then
              some (.inr (.inl ()))
            else
              bif decide (x1.fTime < x2.fTime) then
                some (.inr (.inl ()))
              else
                some (.inl (IntKind.i64.wrap (p1 + 1)))
          )
        else
          some (.inl (IntKind.i64.wrap (p1 + 1)))
    else
      some (.inr (.inl ()))
  )
noncomputable def st_rostrumref_LogFault_0 (p0 : GLog) (s : Int) : Option (Int ⊕ (Unit ⊕ Unit)) :=
  match s with
  | p1 =>
    bif decide (p1 < (p0.fItems.length : Int)) then
      st_rostrumref_LogFault_0_c0 p0 p1
    else
      some (.inr (.inr ()))
noncomputable def rostrumref_LogFault (p0 : GLog) : Option Int :=
  bif (ck_rostrumref_LogFault_k1_v p0) then
    some 13
  else
    (match ci (st_rostrumref_LogFault_0 p0) 0 with
    | none => none
    | some (.inl _) =>
      some 13
    | some (.inr _) =>
      some 0
    )
def K_rostrumref_LogFault (C : ak) : Prop := ∀ (p0 : GLog) (r : Int), rostrumref_LogFault p0 = some r → C 51 [.agg [.v (.i .i64 p0.fBase), .v (.i .i64 p0.fBaseTerm), .v (.sl 10 (ab GItem.row p0.fItems))]] [] = some (.v (.i .i64 r), [])
/-! ### rostrumref.lastOf -/
noncomputable def rostrumref_lastOf (p0 : GLog) : Option Int :=
  some (IntKind.i64.wrap (p0.fBase + (p0.fItems.length : Int)))
noncomputable def rostrumref_lastOf_v (p0 : GLog) : Int :=
  (IntKind.i64.wrap (p0.fBase + (p0.fItems.length : Int)))
theorem rostrumref_lastOf_t (p0 : GLog) : rostrumref_lastOf p0 = some (rostrumref_lastOf_v p0) := by
  simp only [rostrumref_lastOf, rostrumref_lastOf_v, cx]
def K_rostrumref_lastOf (C : ak) : Prop := ∀ (p0 : GLog) (r : Int), rostrumref_lastOf p0 = some r → C 53 [.agg [.v (.i .i64 p0.fBase), .v (.i .i64 p0.fBaseTerm), .v (.sl 10 (ab GItem.row p0.fItems))]] [] = some (.v (.i .i64 r), [])
/-! ### rostrumref.termAt -/
noncomputable def rostrumref_termAt (p0 : GLog) (p1 : Int) : Option Int :=
  bif decide (p1 < p0.fBase) then
    some (-1)
  else
    bif decide ((rostrumref_lastOf_v p0) < p1) then
      some (-2)
    else
      bif (p1 == p0.fBase) then
        some p0.fBaseTerm
      else
        (match idx p0.fItems (IntKind.i64.wrap ((IntKind.i64.wrap (p1 - p0.fBase)) - 1)) with
        | none => none
        | some x1 =>
          some x1.fTerm
        )
def K_rostrumref_termAt (C : ak) : Prop := ∀ (p0 : GLog) (p1 : Int) (r : Int), rostrumref_termAt p0 p1 = some r → C 52 [.agg [.v (.i .i64 p0.fBase), .v (.i .i64 p0.fBaseTerm), .v (.sl 10 (ab GItem.row p0.fItems))], .v (.i .i64 p1)] [] = some (.v (.i .i64 r), [])
/-! ### rostrumref.Matched -/
noncomputable def ck_rostrumref_Matched_q29 (p0 : Int) (p1 : Int) (p2 : List GItem) (p3 : GLog) (p4 : Int) (p5 : Bool) : Option Int :=
  bif p5 then
    some 10
  else
    some p4
noncomputable def ck_rostrumref_Matched_q29_v (p0 : Int) (p1 : Int) (p2 : List GItem) (p3 : GLog) (p4 : Int) (p5 : Bool) : Int :=
  bif p5 then
    10
  else
    p4
theorem ck_rostrumref_Matched_q29_t (p0 : Int) (p1 : Int) (p2 : List GItem) (p3 : GLog) (p4 : Int) (p5 : Bool) : ck_rostrumref_Matched_q29 p0 p1 p2 p3 p4 p5 = some (ck_rostrumref_Matched_q29_v p0 p1 p2 p3 p4 p5) := by
  simp only [ck_rostrumref_Matched_q29, ck_rostrumref_Matched_q29_v, cx]
noncomputable def st_rostrumref_Matched_2 (p0 : List GItem) (p1 : GLog) (p2 : Int) (s : Int × GLog) : Option ((Int × GLog) ⊕ GLog) :=
  match s with
  | (p3, p4) =>
    bif decide (p3 < p2) then
      (match idx p1.fItems (IntKind.i64.wrap ((IntKind.i64.wrap (p3 - p1.fBase)) - 1)) with
      | none => none
      | some x1 =>
        bif cH (p4.fItems.length + 1) 104 then
          some (.inl ((IntKind.i64.wrap (p3 + 1)), (GLog.mk p4.fBase p4.fBaseTerm (p4.fItems ++ [x1]))))
        else
          none
      )
    else
      some (.inr p4)
noncomputable def st_rostrumref_Matched_4 (p0 : List GItem) (p1 : Int) (s : Int × GLog) : Option ((Int × GLog) ⊕ GLog) :=
  match s with
  | (p2, p3) =>
    bif decide (p2 < (p0.length : Int)) then
      (match idx p0 p2 with
      | none => none
      | some x1 =>
        bif cH (p3.fItems.length + 1) 104 then
          some (.inl ((IntKind.i64.wrap (p2 + 1)), (GLog.mk p3.fBase p3.fBaseTerm (p3.fItems ++ [x1]))))
        else
          none
      )
    else
      some (.inr p3)
noncomputable def st_rostrumref_Matched_2v3 (p0 : List GItem) (p1 : GLog) (p2 : Int) (p3 : Int) (s : Int × GLog) : Option ((Int × GLog) ⊕ GLog) :=
  match s with
  | (p4, p5) =>
    bif decide (p4 < p3) then
      (match idx p1.fItems (IntKind.i64.wrap ((IntKind.i64.wrap (p4 - p1.fBase)) - 1)) with
      | none => none
      | some x1 =>
        bif cH (p5.fItems.length + 1) 104 then
          some (.inl ((IntKind.i64.wrap (p4 + 1)), (GLog.mk p5.fBase p5.fBaseTerm (p5.fItems ++ [x1]))))
        else
          none
      )
    else
      some (.inr p5)
noncomputable def st_rostrumref_Matched_0_c0 (p0 : Int) (p1 : List GItem) (p2 : GLog) (p4 : GLog) (p3 : Int) (x1 : Int) (x2 : GItem) (x3 : GLog) (x4 : GLog) : Option (Int ⊕ ((Int × GLog × Int × Int) ⊕ (GLog ⊕ Unit))) :=
  (match rostrumref_LogFault x4 with
  | none => none
  | some x5 =>
    bif (x5 == 0) then
      some (.inr (.inl ((IntKind.i64.wrap ((IntKind.i64.wrap (p0 + 1)) + p3)), x4, x4.fBase, x4.fBaseTerm)))
    else
      some (.inr (.inr (.inl x4)))
  )
noncomputable def st_rostrumref_Matched_0 (p0 : Int) (p1 : List GItem) (p2 : GLog) (p4 : GLog) (s : Int) : Option (Int ⊕ ((Int × GLog × Int × Int) ⊕ (GLog ⊕ Unit))) :=
  match s with
  | p3 =>
    bif decide (p3 < (p1.length : Int)) then
      bif decide ((IntKind.i64.wrap ((IntKind.i64.wrap (p0 + 1)) + p3)) ≤ p2.fBase) then
        some (.inl (IntKind.i64.wrap (p3 + 1)))
      else
        (match rostrumref_termAt p2 (IntKind.i64.wrap ((IntKind.i64.wrap (p0 + 1)) + p3)) with
        | none => none
        | some x1 =>
          (match idx p1 p3 with
          | none => none
          | some x2 =>
            bif (x1 == x2.fTerm) then
              some (.inl (IntKind.i64.wrap (p3 + 1)))
            else
              (match ci (st_rostrumref_Matched_2v3 p1 p2 p3 (IntKind.i64.wrap ((IntKind.i64.wrap (p0 + 1)) + p3))) ((IntKind.i64.wrap (p2.fBase + 1)), (GLog.mk p4.fBase p4.fBaseTerm [])) with
              | none => none
              | some x3 =>
                (match ci (st_rostrumref_Matched_4 p1 (IntKind.i64.wrap ((IntKind.i64.wrap (p0 + 1)) + p3))) (p3, x3) with
                | none => none
                | some x4 =>
                  st_rostrumref_Matched_0_c0 p0 p1 p2 p4 p3 x1 x2 x3 x4
                )
              )
          )
        )
    else
      some (.inr (.inr (.inr ())))
noncomputable def rostrumref_Matched_c0 (p0 : GLog) (p1 : Int) (p2 : Int) (p3 : List GItem) (x1 : Int) (x2 : Int) (x3 : GLog) : Option (GLog × Bool × Int × Int) :=
  (match rostrumref_termAt p0 p1 with
  | none => none
  | some x4 =>
    bif (x4 == p2) then
      (match ci (st_rostrumref_Matched_0 p1 p3 p0 x3) 0 with
      | none => none
      | some (.inl (x5, x6, x7, x8)) =>
        some (x6, true, x5, 0)
      | some (.inr (.inl x5)) =>
        some ((GLog.mk 0 0 []), false, 0, 6)
      | some (.inr (.inr _)) =>
        some (x3, true, 0, 0)
      )
    else
      some (x3, false, 0, 0)
  )
noncomputable def rostrumref_Matched_c1 (p0 : GLog) (p1 : Int) (p2 : Int) (p3 : List GItem) (x1 : Int) : Option (GLog × Bool × Int × Int) :=
  (match rostrumref_LogFault (GLog.mk p1 p2 p3) with
  | none => none
  | some x2 =>
    bif ((ck_rostrumref_Matched_q29_v p1 p2 p3 p0 x1 (!(x2 == 0))) == 0) then
      (match rostrumref_LogCopy_z p0 with
      | none => none
      | some x3 =>
        bif decide (p0.fBase ≤ p1) then
          rostrumref_Matched_c0 p0 p1 p2 p3 x1 x2 x3
        else
          (match ci (st_rostrumref_Matched_0 p1 p3 p0 x3) 0 with
          | none => none
          | some (.inl (x4, x5, x6, x7)) =>
            some (x5, true, x4, 0)
          | some (.inr (.inl x4)) =>
            some ((GLog.mk 0 0 []), false, 0, 6)
          | some (.inr (.inr _)) =>
            some (x3, true, 0, 0)
          )
      )
    else
      some ((GLog.mk 0 0 []), false, 0, (ck_rostrumref_Matched_q29_v p1 p2 p3 p0 x1 (!(x2 == 0))))
  )
noncomputable def rostrumref_Matched (p0 : GLog) (p1 : Int) (p2 : Int) (p3 : List GItem) : Option (GLog × Bool × Int × Int) :=
  (match rostrumref_LogFault p0 with
  | none => none
  | some x1 =>
    bif (x1 == 0) then
      rostrumref_Matched_c1 p0 p1 p2 p3 x1
    else
      some ((GLog.mk 0 0 []), false, 0, x1)
  )
def K_rostrumref_Matched (C : ak) : Prop := ∀ (p0 : GLog) (p1 : Int) (p2 : Int) (p3 : List GItem) (r : GLog × Bool × Int × Int), rostrumref_Matched p0 p1 p2 p3 = some r → C 33 [.agg [.v (.i .i64 p0.fBase), .v (.i .i64 p0.fBaseTerm), .v (.sl 10 (ab GItem.row p0.fItems))], .v (.i .i64 p1), .v (.i .i64 p2), .v (.sl 10 (ab GItem.row p3))] [] = some (.tup [.agg [.v (.i .i64 r.1.fBase), .v (.i .i64 r.1.fBaseTerm), .v (.sl 10 (ab GItem.row r.1.fItems))], .v (.b r.2.1), .v (.i .i64 r.2.2.1), .v (.i .i64 r.2.2.2)], [])
/-! ### rostrumlaw.sameItems -/
noncomputable def st_rostrumlaw_sameItems_0_c0 (p0 : List GItem) (p1 : List GItem) (p2 : Int) (x1 : GItem) (x2 : GItem) : Option (Int ⊕ (Unit ⊕ Unit)) :=
  bif (x1.fCall.fClient == x2.fCall.fClient) then
    bif (x1.fCall.fSeq == x2.fCall.fSeq) then
      bif (x1.fCall.fCommand.fKind == x2.fCall.fCommand.fKind) then
        bif cJ x1.fCall.fCommand.fKey x2.fCall.fCommand.fKey then
          bif cJ x1.fCall.fCommand.fField x2.fCall.fCommand.fField then
            bif cJ x1.fCall.fCommand.fText x2.fCall.fCommand.fText then
              bif (x1.fCall.fCommand.fN == x2.fCall.fCommand.fN) then
                some (.inl (IntKind.i64.wrap (p2 + 1)))
              else
                some (.inr (.inl ()))
            else
              some (.inr (.inl ()))
          else
            some (.inr (.inl ()))
        else
          some (.inr (.inl ()))
      else
        some (.inr (.inl ()))
    else
      some (.inr (.inl ()))
  else
    some (.inr (.inl ()))
noncomputable def st_rostrumlaw_sameItems_0 (p0 : List GItem) (p1 : List GItem) (s : Int) : Option (Int ⊕ (Unit ⊕ Unit)) :=
  match s with
  | p2 =>
    bif decide (p2 < (p0.length : Int)) then
      (match idx p0 p2 with
      | none => none
      | some x1 =>
        (match idx p1 p2 with
        | none => none
        | some x2 =>
          bif (x1.fTerm == x2.fTerm) then
            bif (x1.fTime == x2.fTime) then
              bif (x1.fNop == x2.fNop) then
                st_rostrumlaw_sameItems_0_c0 p0 p1 p2 x1 x2
              else
                some (.inr (.inl ()))
            else
              some (.inr (.inl ()))
          else
            some (.inr (.inl ()))
        )
      )
    else
      some (.inr (.inr ()))
noncomputable def rostrumlaw_sameItems (p0 : List GItem) (p1 : List GItem) : Option Bool :=
  bif ((p0.length : Int) == (p1.length : Int)) then
    (match ci (st_rostrumlaw_sameItems_0 p0 p1) 0 with
    | none => none
    | some (.inl _) =>
      some false
    | some (.inr _) =>
      some true
    )
  else
    some false
def K_rostrumlaw_sameItems (C : ak) : Prop := ∀ (p0 : List GItem) (p1 : List GItem) (r : Bool), rostrumlaw_sameItems p0 p1 = some r → C 27 [.v (.sl 10 (ab GItem.row p0)), .v (.sl 10 (ab GItem.row p1))] [] = some (.v (.b r), [])
/-! ### rostrumlaw.sameLog -/
noncomputable def ck_rostrumlaw_sameLog_k1 (p0 : GLog) (p1 : GLog) : Option Bool :=
  bif (p0.fBase == p1.fBase) then
    bif (p0.fBaseTerm == p1.fBaseTerm) then
      (match rostrumlaw_sameItems p0.fItems p1.fItems with
      | none => none
      | some x1 =>
        some x1
      )
    else
      some false
  else
    some false
noncomputable def rostrumlaw_sameLog (p0 : GLog) (p1 : GLog) : Option Bool :=
  (match ck_rostrumlaw_sameLog_k1 p0 p1 with
  | none => none
  | some x1 =>
    some x1
  )
def K_rostrumlaw_sameLog (C : ak) : Prop := ∀ (p0 : GLog) (p1 : GLog) (r : Bool), rostrumlaw_sameLog p0 p1 = some r → C 24 [.agg [.v (.i .i64 p0.fBase), .v (.i .i64 p0.fBaseTerm), .v (.sl 10 (ab GItem.row p0.fItems))], .agg [.v (.i .i64 p1.fBase), .v (.i .i64 p1.fBaseTerm), .v (.sl 10 (ab GItem.row p1.fItems))]] [] = some (.v (.b r), [])
/-! ### rostrumlaw.LedgerMatches -/
noncomputable def ck_rostrumlaw_LedgerMatches_k4_c0 (p0 : GLog) (p1 : Bool) (p2 : Int) (p3 : Int) (p4 : Bool) (p5 : Int) (p6 : Int) (p7 : GLog) (p8 : GLog) (p9 : GLog) : Option Bool :=
  bif p4 then
    bif (p2 == p5) then
      (match rostrumlaw_sameLog p8 p9 with
      | none => none
      | some x1 =>
        bif x1 then
          (match rostrumlaw_sameLog p7 p0 with
          | none => none
          | some x2 =>
            some x2
          )
        else
          some false
      )
    else
      some false
  else
    some false
noncomputable def ck_rostrumlaw_LedgerMatches_k4 (p0 : GLog) (p1 : Bool) (p2 : Int) (p3 : Int) (p4 : Bool) (p5 : Int) (p6 : Int) (p7 : GLog) (p8 : GLog) (p9 : GLog) : Option Bool :=
  bif (p3 == p6) then
    bif p1 then
      ck_rostrumlaw_LedgerMatches_k4_c0 p0 p1 p2 p3 p4 p5 p6 p7 p8 p9
    else
      bif p4 then
        some false
      else
        bif (p2 == p5) then
          (match rostrumlaw_sameLog p8 p9 with
          | none => none
          | some x1 =>
            bif x1 then
              (match rostrumlaw_sameLog p7 p0 with
              | none => none
              | some x2 =>
                some x2
              )
            else
              some false
          )
        else
          some false
  else
    some false
noncomputable def rostrumlaw_LedgerMatches (p0 : GLog) (p1 : Int) (p2 : Int) (p3 : List GItem) : Option Bool :=
  (match rostrumref_LogCopy_z p0 with
  | none => none
  | some x1 =>
    (match rostrumlaw_items_z p3 with
    | none => none
    | some x2 =>
      (match ledger_Match x1 p1 p2 x2 with
      | none => none
      | some (x3, x4, x5, x6) =>
        (match rostrumref_Matched p0 p1 p2 p3 with
        | none => none
        | some (x7, x8, x9, x10) =>
          (match ck_rostrumlaw_LedgerMatches_k4 p0 x4 x5 x6 x8 x9 x10 x1 x3 x7 with
          | none => none
          | some x11 =>
            some x11
          )
        )
      )
    )
  )
def K_rostrumlaw_LedgerMatches (C : ak) : Prop := ∀ (p0 : GLog) (p1 : Int) (p2 : Int) (p3 : List GItem) (r : Bool), rostrumlaw_LedgerMatches p0 p1 p2 p3 = some r → C 9 [.agg [.v (.i .i64 p0.fBase), .v (.i .i64 p0.fBaseTerm), .v (.sl 10 (ab GItem.row p0.fItems))], .v (.i .i64 p1), .v (.i .i64 p2), .v (.sl 10 (ab GItem.row p3))] [] = some (.v (.b r), [])
end Go.Proofs.Ytnjkmbogbfjffaa
