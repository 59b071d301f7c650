/- What the functions that the law WireItemBytes reaches compute, as plain functions; no condition. -/
import Derived.Test.YtnjkmbogbfjffaaWTy
set_option linter.unusedSimpArgs false
set_option linter.unusedVariables false
set_option linter.constructorNameAsVariable false
set_option linter.unnecessarySimpa false
namespace Go.Proofs.Ytnjkmbogbfjffaa
open Go Go.Mx Go.Proofs
/-! ### client.number -/
noncomputable def client_number (p0 : Int) : Option Bool :=
  bif decide (1 ≤ p0) then
    some (decide (p0 ≤ 1048576))
  else
    some false
noncomputable def client_number_v (p0 : Int) : Bool := (decide (1 ≤ p0) && decide (p0 ≤ 1048576))
theorem client_number_t (p0 : Int) : client_number p0 = some (client_number_v p0) := by
  simp only [client_number, client_number_v]
  cases decide (1 ≤ p0) <;> rfl
def K_client_number (C : Oracle) : Prop := ∀ (p0 : Int) (r : Bool), client_number p0 = some r → C 127 [.v (.i .i64 p0)] [] = some (.v (.b r), [])
/-! ### value.field -/
noncomputable def value_field (p0 : ByteArray) : Option Bool :=
  bif decide (1 ≤ (p0.size : Int)) then
    some (decide ((p0.size : Int) ≤ 12))
  else
    some false
noncomputable def value_field_v (p0 : ByteArray) : Bool := (decide (1 ≤ (p0.size : Int)) && decide ((p0.size : Int) ≤ 12))
theorem value_field_t (p0 : ByteArray) : value_field p0 = some (value_field_v p0) := by
  simp only [value_field, value_field_v]
  cases decide (1 ≤ (p0.size : Int)) <;> rfl
def K_value_field (C : Oracle) : Prop := ∀ (p0 : ByteArray) (r : Bool), value_field p0 = some r → C 67 [.v (.s p0)] [] = some (.v (.b r), [])
/-! ### value.text -/
noncomputable def value_text (p0 : ByteArray) : Option Bool :=
  some (decide ((p0.size : Int) ≤ 20))
noncomputable def value_text_v (p0 : ByteArray) : Bool := decide ((p0.size : Int) ≤ 20)
theorem value_text_t (p0 : ByteArray) : value_text p0 = some (value_text_v p0) := by
  simp only [value_text, value_text_v]
def K_value_text (C : Oracle) : Prop := ∀ (p0 : ByteArray) (r : Bool), value_text p0 = some r → C 62 [.v (.s p0)] [] = some (.v (.b r), [])
/-! ### value.count -/
noncomputable def value_count (p0 : Int) : Option Bool :=
  bif decide ((-1099511627776) ≤ p0) then
    some (decide (p0 ≤ 1099511627776))
  else
    some false
noncomputable def value_count_v (p0 : Int) : Bool := (decide ((-1099511627776) ≤ p0) && decide (p0 ≤ 1099511627776))
theorem value_count_t (p0 : Int) : value_count p0 = some (value_count_v p0) := by
  simp only [value_count, value_count_v]
  cases decide ((-1099511627776) ≤ p0) <;> rfl
def K_value_count (C : Oracle) : Prop := ∀ (p0 : Int) (r : Bool), value_count p0 = some r → C 70 [.v (.i .i64 p0)] [] = some (.v (.b r), [])
/-! ### value.CheckCommand -/
noncomputable def ck_value_CheckCommand_k28_c0 (p0 : GCommand) (p1 : Int) (p2 : ByteArray) (p3 : ByteArray) : Option Bool :=
  bif (value_field_v p0.fKey) then
    bif decide (4 ≤ p0.fKind) then
      bif decide (p0.fKind ≤ 6) then
        bif (value_field_v p0.fField) then
          some (!(value_text_v p0.fText))
        else
          some true
      else
        some (!(value_text_v p0.fText))
    else
      some (!(value_text_v p0.fText))
  else
    some true
noncomputable def ck_value_CheckCommand_k28 (p0 : GCommand) (p1 : Int) (p2 : ByteArray) (p3 : ByteArray) : Option Bool :=
  bif (p0.fKind == 22) then
    bif decide (4 ≤ p0.fKind) then
      bif decide (p0.fKind ≤ 6) then
        bif (value_field_v p0.fField) then
          some (!(value_text_v p0.fText))
        else
          some true
      else
        some (!(value_text_v p0.fText))
    else
      some (!(value_text_v p0.fText))
  else
    ck_value_CheckCommand_k28_c0 p0 p1 p2 p3
noncomputable def ck_value_CheckCommand_k28_v_c0 (p0 : GCommand) (p1 : Int) (p2 : ByteArray) (p3 : ByteArray) : Bool :=
  bif (value_field_v p0.fKey) then
    bif decide (4 ≤ p0.fKind) then
      bif decide (p0.fKind ≤ 6) then
        bif (value_field_v p0.fField) then
          (!(value_text_v p0.fText))
        else
          true
      else
        (!(value_text_v p0.fText))
    else
      (!(value_text_v p0.fText))
  else
    true
noncomputable def ck_value_CheckCommand_k28_v (p0 : GCommand) (p1 : Int) (p2 : ByteArray) (p3 : ByteArray) : Bool :=
  bif (p0.fKind == 22) then
    bif decide (4 ≤ p0.fKind) then
      bif decide (p0.fKind ≤ 6) then
        bif (value_field_v p0.fField) then
          (!(value_text_v p0.fText))
        else
          true
      else
        (!(value_text_v p0.fText))
    else
      (!(value_text_v p0.fText))
  else
    ck_value_CheckCommand_k28_v_c0 p0 p1 p2 p3
theorem ck_value_CheckCommand_k28_c0_t (p0 : GCommand) (p1 : Int) (p2 : ByteArray) (p3 : ByteArray) : ck_value_CheckCommand_k28_c0 p0 p1 p2 p3 = some (ck_value_CheckCommand_k28_v_c0 p0 p1 p2 p3) := by
  simp only [ck_value_CheckCommand_k28_c0, ck_value_CheckCommand_k28_v_c0, bif_some]
theorem ck_value_CheckCommand_k28_t (p0 : GCommand) (p1 : Int) (p2 : ByteArray) (p3 : ByteArray) : ck_value_CheckCommand_k28 p0 p1 p2 p3 = some (ck_value_CheckCommand_k28_v p0 p1 p2 p3) := by
  simp only [ck_value_CheckCommand_k28, ck_value_CheckCommand_k28_v, ck_value_CheckCommand_k28_c0_t, bif_some]
noncomputable def ck_value_CheckCommand_k28v2_c0 (p0 : GCommand) (p1 : Int) (p2 : ByteArray) (p3 : Int) : Option Bool :=
  bif (value_field_v p0.fKey) then
    bif decide (4 ≤ p0.fKind) then
      bif decide (p0.fKind ≤ 6) then
        bif (value_field_v p0.fField) then
          some (!(value_text_v p0.fText))
        else
          some true
      else
        some (!(value_text_v p0.fText))
    else
      some (!(value_text_v p0.fText))
  else
    some true
noncomputable def ck_value_CheckCommand_k28v2 (p0 : GCommand) (p1 : Int) (p2 : ByteArray) (p3 : Int) : Option Bool :=
  bif (p0.fKind == 22) then
    bif decide (4 ≤ p0.fKind) then
      bif decide (p0.fKind ≤ 6) then
        bif (value_field_v p0.fField) then
          some (!(value_text_v p0.fText))
        else
          some true
      else
        some (!(value_text_v p0.fText))
    else
      some (!(value_text_v p0.fText))
  else
    ck_value_CheckCommand_k28v2_c0 p0 p1 p2 p3
noncomputable def ck_value_CheckCommand_k28v2_v_c0 (p0 : GCommand) (p1 : Int) (p2 : ByteArray) (p3 : Int) : Bool :=
  bif (value_field_v p0.fKey) then
    bif decide (4 ≤ p0.fKind) then
      bif decide (p0.fKind ≤ 6) then
        bif (value_field_v p0.fField) then
          (!(value_text_v p0.fText))
        else
          true
      else
        (!(value_text_v p0.fText))
    else
      (!(value_text_v p0.fText))
  else
    true
noncomputable def ck_value_CheckCommand_k28v2_v (p0 : GCommand) (p1 : Int) (p2 : ByteArray) (p3 : Int) : Bool :=
  bif (p0.fKind == 22) then
    bif decide (4 ≤ p0.fKind) then
      bif decide (p0.fKind ≤ 6) then
        bif (value_field_v p0.fField) then
          (!(value_text_v p0.fText))
        else
          true
      else
        (!(value_text_v p0.fText))
    else
      (!(value_text_v p0.fText))
  else
    ck_value_CheckCommand_k28v2_v_c0 p0 p1 p2 p3
theorem ck_value_CheckCommand_k28v2_c0_t (p0 : GCommand) (p1 : Int) (p2 : ByteArray) (p3 : Int) : ck_value_CheckCommand_k28v2_c0 p0 p1 p2 p3 = some (ck_value_CheckCommand_k28v2_v_c0 p0 p1 p2 p3) := by
  simp only [ck_value_CheckCommand_k28v2_c0, ck_value_CheckCommand_k28v2_v_c0, bif_some]
theorem ck_value_CheckCommand_k28v2_t (p0 : GCommand) (p1 : Int) (p2 : ByteArray) (p3 : Int) : ck_value_CheckCommand_k28v2 p0 p1 p2 p3 = some (ck_value_CheckCommand_k28v2_v p0 p1 p2 p3) := by
  simp only [ck_value_CheckCommand_k28v2, ck_value_CheckCommand_k28v2_v, ck_value_CheckCommand_k28v2_c0_t, bif_some]
noncomputable def ck_value_CheckCommand_k28v3_c0 (p0 : GCommand) (p1 : Int) (p2 : ByteArray) (p3 : ByteArray) (p4 : ByteArray) : Option Bool :=
  bif (value_field_v p0.fKey) then
    bif decide (4 ≤ p0.fKind) then
      bif decide (p0.fKind ≤ 6) then
        bif (value_field_v p0.fField) then
          some (!(value_text_v p0.fText))
        else
          some true
      else
        some (!(value_text_v p0.fText))
    else
      some (!(value_text_v p0.fText))
  else
    some true
noncomputable def ck_value_CheckCommand_k28v3 (p0 : GCommand) (p1 : Int) (p2 : ByteArray) (p3 : ByteArray) (p4 : ByteArray) : Option Bool :=
  bif (p0.fKind == 22) then
    bif decide (4 ≤ p0.fKind) then
      bif decide (p0.fKind ≤ 6) then
        bif (value_field_v p0.fField) then
          some (!(value_text_v p0.fText))
        else
          some true
      else
        some (!(value_text_v p0.fText))
    else
      some (!(value_text_v p0.fText))
  else
    ck_value_CheckCommand_k28v3_c0 p0 p1 p2 p3 p4
noncomputable def ck_value_CheckCommand_k28v3_v_c0 (p0 : GCommand) (p1 : Int) (p2 : ByteArray) (p3 : ByteArray) (p4 : ByteArray) : Bool :=
  bif (value_field_v p0.fKey) then
    bif decide (4 ≤ p0.fKind) then
      bif decide (p0.fKind ≤ 6) then
        bif (value_field_v p0.fField) then
          (!(value_text_v p0.fText))
        else
          true
      else
        (!(value_text_v p0.fText))
    else
      (!(value_text_v p0.fText))
  else
    true
noncomputable def ck_value_CheckCommand_k28v3_v (p0 : GCommand) (p1 : Int) (p2 : ByteArray) (p3 : ByteArray) (p4 : ByteArray) : Bool :=
  bif (p0.fKind == 22) then
    bif decide (4 ≤ p0.fKind) then
      bif decide (p0.fKind ≤ 6) then
        bif (value_field_v p0.fField) then
          (!(value_text_v p0.fText))
        else
          true
      else
        (!(value_text_v p0.fText))
    else
      (!(value_text_v p0.fText))
  else
    ck_value_CheckCommand_k28v3_v_c0 p0 p1 p2 p3 p4
theorem ck_value_CheckCommand_k28v3_c0_t (p0 : GCommand) (p1 : Int) (p2 : ByteArray) (p3 : ByteArray) (p4 : ByteArray) : ck_value_CheckCommand_k28v3_c0 p0 p1 p2 p3 p4 = some (ck_value_CheckCommand_k28v3_v_c0 p0 p1 p2 p3 p4) := by
  simp only [ck_value_CheckCommand_k28v3_c0, ck_value_CheckCommand_k28v3_v_c0, bif_some]
theorem ck_value_CheckCommand_k28v3_t (p0 : GCommand) (p1 : Int) (p2 : ByteArray) (p3 : ByteArray) (p4 : ByteArray) : ck_value_CheckCommand_k28v3 p0 p1 p2 p3 p4 = some (ck_value_CheckCommand_k28v3_v p0 p1 p2 p3 p4) := by
  simp only [ck_value_CheckCommand_k28v3, ck_value_CheckCommand_k28v3_v, ck_value_CheckCommand_k28v3_c0_t, bif_some]
noncomputable def ck_value_CheckCommand_k28v4_c0 (p0 : GCommand) (p1 : Int) (p2 : ByteArray) (p3 : ByteArray) : Option Bool :=
  bif (value_field_v p0.fKey) then
    bif decide (4 ≤ p0.fKind) then
      bif decide (p0.fKind ≤ 6) then
        bif (value_field_v p0.fField) then
          some (!(value_text_v p0.fText))
        else
          some true
      else
        some (!(value_text_v p0.fText))
    else
      some (!(value_text_v p0.fText))
  else
    some true
noncomputable def ck_value_CheckCommand_k28v4 (p0 : GCommand) (p1 : Int) (p2 : ByteArray) (p3 : ByteArray) : Option Bool :=
  bif (p0.fKind == 22) then
    bif decide (4 ≤ p0.fKind) then
      bif decide (p0.fKind ≤ 6) then
        bif (value_field_v p0.fField) then
          some (!(value_text_v p0.fText))
        else
          some true
      else
        some (!(value_text_v p0.fText))
    else
      some (!(value_text_v p0.fText))
  else
    ck_value_CheckCommand_k28v4_c0 p0 p1 p2 p3
noncomputable def ck_value_CheckCommand_k28v4_v_c0 (p0 : GCommand) (p1 : Int) (p2 : ByteArray) (p3 : ByteArray) : Bool :=
  bif (value_field_v p0.fKey) then
    bif decide (4 ≤ p0.fKind) then
      bif decide (p0.fKind ≤ 6) then
        bif (value_field_v p0.fField) then
          (!(value_text_v p0.fText))
        else
          true
      else
        (!(value_text_v p0.fText))
    else
      (!(value_text_v p0.fText))
  else
    true
noncomputable def ck_value_CheckCommand_k28v4_v (p0 : GCommand) (p1 : Int) (p2 : ByteArray) (p3 : ByteArray) : Bool :=
  bif (p0.fKind == 22) then
    bif decide (4 ≤ p0.fKind) then
      bif decide (p0.fKind ≤ 6) then
        bif (value_field_v p0.fField) then
          (!(value_text_v p0.fText))
        else
          true
      else
        (!(value_text_v p0.fText))
    else
      (!(value_text_v p0.fText))
  else
    ck_value_CheckCommand_k28v4_v_c0 p0 p1 p2 p3
theorem ck_value_CheckCommand_k28v4_c0_t (p0 : GCommand) (p1 : Int) (p2 : ByteArray) (p3 : ByteArray) : ck_value_CheckCommand_k28v4_c0 p0 p1 p2 p3 = some (ck_value_CheckCommand_k28v4_v_c0 p0 p1 p2 p3) := by
  simp only [ck_value_CheckCommand_k28v4_c0, ck_value_CheckCommand_k28v4_v_c0, bif_some]
theorem ck_value_CheckCommand_k28v4_t (p0 : GCommand) (p1 : Int) (p2 : ByteArray) (p3 : ByteArray) : ck_value_CheckCommand_k28v4 p0 p1 p2 p3 = some (ck_value_CheckCommand_k28v4_v p0 p1 p2 p3) := by
  simp only [ck_value_CheckCommand_k28v4, ck_value_CheckCommand_k28v4_v, ck_value_CheckCommand_k28v4_c0_t, bif_some]
noncomputable def ck_value_CheckCommand_k28v5_c0 (p0 : GCommand) (p1 : Int) (p2 : ByteArray) (p3 : ByteArray) (p4 : Int) : Option Bool :=
  bif (value_field_v p0.fKey) then
    bif decide (4 ≤ p0.fKind) then
      bif decide (p0.fKind ≤ 6) then
        bif (value_field_v p0.fField) then
          some (!(value_text_v p0.fText))
        else
          some true
      else
        some (!(value_text_v p0.fText))
    else
      some (!(value_text_v p0.fText))
  else
    some true
noncomputable def ck_value_CheckCommand_k28v5 (p0 : GCommand) (p1 : Int) (p2 : ByteArray) (p3 : ByteArray) (p4 : Int) : Option Bool :=
  bif (p0.fKind == 22) then
    bif decide (4 ≤ p0.fKind) then
      bif decide (p0.fKind ≤ 6) then
        bif (value_field_v p0.fField) then
          some (!(value_text_v p0.fText))
        else
          some true
      else
        some (!(value_text_v p0.fText))
    else
      some (!(value_text_v p0.fText))
  else
    ck_value_CheckCommand_k28v5_c0 p0 p1 p2 p3 p4
noncomputable def ck_value_CheckCommand_k28v5_v_c0 (p0 : GCommand) (p1 : Int) (p2 : ByteArray) (p3 : ByteArray) (p4 : Int) : Bool :=
  bif (value_field_v p0.fKey) then
    bif decide (4 ≤ p0.fKind) then
      bif decide (p0.fKind ≤ 6) then
        bif (value_field_v p0.fField) then
          (!(value_text_v p0.fText))
        else
          true
      else
        (!(value_text_v p0.fText))
    else
      (!(value_text_v p0.fText))
  else
    true
noncomputable def ck_value_CheckCommand_k28v5_v (p0 : GCommand) (p1 : Int) (p2 : ByteArray) (p3 : ByteArray) (p4 : Int) : Bool :=
  bif (p0.fKind == 22) then
    bif decide (4 ≤ p0.fKind) then
      bif decide (p0.fKind ≤ 6) then
        bif (value_field_v p0.fField) then
          (!(value_text_v p0.fText))
        else
          true
      else
        (!(value_text_v p0.fText))
    else
      (!(value_text_v p0.fText))
  else
    ck_value_CheckCommand_k28v5_v_c0 p0 p1 p2 p3 p4
theorem ck_value_CheckCommand_k28v5_c0_t (p0 : GCommand) (p1 : Int) (p2 : ByteArray) (p3 : ByteArray) (p4 : Int) : ck_value_CheckCommand_k28v5_c0 p0 p1 p2 p3 p4 = some (ck_value_CheckCommand_k28v5_v_c0 p0 p1 p2 p3 p4) := by
  simp only [ck_value_CheckCommand_k28v5_c0, ck_value_CheckCommand_k28v5_v_c0, bif_some]
theorem ck_value_CheckCommand_k28v5_t (p0 : GCommand) (p1 : Int) (p2 : ByteArray) (p3 : ByteArray) (p4 : Int) : ck_value_CheckCommand_k28v5 p0 p1 p2 p3 p4 = some (ck_value_CheckCommand_k28v5_v p0 p1 p2 p3 p4) := by
  simp only [ck_value_CheckCommand_k28v5, ck_value_CheckCommand_k28v5_v, ck_value_CheckCommand_k28v5_c0_t, bif_some]
noncomputable def ck_value_CheckCommand_k28v6_c0 (p0 : GCommand) (p1 : Int) : Option Bool :=
  bif (value_field_v p0.fKey) then
    bif decide (4 ≤ p0.fKind) then
      bif decide (p0.fKind ≤ 6) then
        bif (value_field_v p0.fField) then
          some (!(value_text_v p0.fText))
        else
          some true
      else
        some (!(value_text_v p0.fText))
    else
      some (!(value_text_v p0.fText))
  else
    some true
noncomputable def ck_value_CheckCommand_k28v6 (p0 : GCommand) (p1 : Int) : Option Bool :=
  bif (p0.fKind == 22) then
    bif decide (4 ≤ p0.fKind) then
      bif decide (p0.fKind ≤ 6) then
        bif (value_field_v p0.fField) then
          some (!(value_text_v p0.fText))
        else
          some true
      else
        some (!(value_text_v p0.fText))
    else
      some (!(value_text_v p0.fText))
  else
    ck_value_CheckCommand_k28v6_c0 p0 p1
noncomputable def ck_value_CheckCommand_k28v6_v_c0 (p0 : GCommand) (p1 : Int) : Bool :=
  bif (value_field_v p0.fKey) then
    bif decide (4 ≤ p0.fKind) then
      bif decide (p0.fKind ≤ 6) then
        bif (value_field_v p0.fField) then
          (!(value_text_v p0.fText))
        else
          true
      else
        (!(value_text_v p0.fText))
    else
      (!(value_text_v p0.fText))
  else
    true
noncomputable def ck_value_CheckCommand_k28v6_v (p0 : GCommand) (p1 : Int) : Bool :=
  bif (p0.fKind == 22) then
    bif decide (4 ≤ p0.fKind) then
      bif decide (p0.fKind ≤ 6) then
        bif (value_field_v p0.fField) then
          (!(value_text_v p0.fText))
        else
          true
      else
        (!(value_text_v p0.fText))
    else
      (!(value_text_v p0.fText))
  else
    ck_value_CheckCommand_k28v6_v_c0 p0 p1
theorem ck_value_CheckCommand_k28v6_c0_t (p0 : GCommand) (p1 : Int) : ck_value_CheckCommand_k28v6_c0 p0 p1 = some (ck_value_CheckCommand_k28v6_v_c0 p0 p1) := by
  simp only [ck_value_CheckCommand_k28v6_c0, ck_value_CheckCommand_k28v6_v_c0, bif_some]
theorem ck_value_CheckCommand_k28v6_t (p0 : GCommand) (p1 : Int) : ck_value_CheckCommand_k28v6 p0 p1 = some (ck_value_CheckCommand_k28v6_v p0 p1) := by
  simp only [ck_value_CheckCommand_k28v6, ck_value_CheckCommand_k28v6_v, ck_value_CheckCommand_k28v6_c0_t, bif_some]
noncomputable def ck_value_CheckCommand_k28v7_c0 (p0 : GCommand) (p1 : Int) (p2 : ByteArray) : Option Bool :=
  bif (value_field_v p0.fKey) then
    bif decide (4 ≤ p0.fKind) then
      bif decide (p0.fKind ≤ 6) then
        bif (value_field_v p0.fField) then
          some (!(value_text_v p0.fText))
        else
          some true
      else
        some (!(value_text_v p0.fText))
    else
      some (!(value_text_v p0.fText))
  else
    some true
noncomputable def ck_value_CheckCommand_k28v7 (p0 : GCommand) (p1 : Int) (p2 : ByteArray) : Option Bool :=
  bif (p0.fKind == 22) then
    bif decide (4 ≤ p0.fKind) then
      bif decide (p0.fKind ≤ 6) then
        bif (value_field_v p0.fField) then
          some (!(value_text_v p0.fText))
        else
          some true
      else
        some (!(value_text_v p0.fText))
    else
      some (!(value_text_v p0.fText))
  else
    ck_value_CheckCommand_k28v7_c0 p0 p1 p2
noncomputable def ck_value_CheckCommand_k28v7_v_c0 (p0 : GCommand) (p1 : Int) (p2 : ByteArray) : Bool :=
  bif (value_field_v p0.fKey) then
    bif decide (4 ≤ p0.fKind) then
      bif decide (p0.fKind ≤ 6) then
        bif (value_field_v p0.fField) then
          (!(value_text_v p0.fText))
        else
          true
      else
        (!(value_text_v p0.fText))
    else
      (!(value_text_v p0.fText))
  else
    true
noncomputable def ck_value_CheckCommand_k28v7_v (p0 : GCommand) (p1 : Int) (p2 : ByteArray) : Bool :=
  bif (p0.fKind == 22) then
    bif decide (4 ≤ p0.fKind) then
      bif decide (p0.fKind ≤ 6) then
        bif (value_field_v p0.fField) then
          (!(value_text_v p0.fText))
        else
          true
      else
        (!(value_text_v p0.fText))
    else
      (!(value_text_v p0.fText))
  else
    ck_value_CheckCommand_k28v7_v_c0 p0 p1 p2
theorem ck_value_CheckCommand_k28v7_c0_t (p0 : GCommand) (p1 : Int) (p2 : ByteArray) : ck_value_CheckCommand_k28v7_c0 p0 p1 p2 = some (ck_value_CheckCommand_k28v7_v_c0 p0 p1 p2) := by
  simp only [ck_value_CheckCommand_k28v7_c0, ck_value_CheckCommand_k28v7_v_c0, bif_some]
theorem ck_value_CheckCommand_k28v7_t (p0 : GCommand) (p1 : Int) (p2 : ByteArray) : ck_value_CheckCommand_k28v7 p0 p1 p2 = some (ck_value_CheckCommand_k28v7_v p0 p1 p2) := by
  simp only [ck_value_CheckCommand_k28v7, ck_value_CheckCommand_k28v7_v, ck_value_CheckCommand_k28v7_c0_t, bif_some]
noncomputable def value_CheckCommand_c0 (p0 : GCommand) : Option Int :=
  bif seqB p0.fKey ByteArray.empty then
    bif seqB p0.fField ByteArray.empty then
      bif seqB p0.fText ByteArray.empty then
        bif (p0.fN == 0) then
          bif (ck_value_CheckCommand_k28v6_v p0 p0.fKind) then
            some 1
          else
            bif (value_count_v p0.fN) then
              some 0
            else
              some 2
        else
          some 8
      else
        some 8
    else
      some 8
  else
    some 8
noncomputable def value_CheckCommand_c1 (p0 : GCommand) : Option Int :=
  bif (p0.fKind == 22) then
    value_CheckCommand_c0 p0
  else
    bif seqB p0.fField ByteArray.empty then
      bif seqB p0.fText ByteArray.empty then
        bif (p0.fN == 0) then
          bif (ck_value_CheckCommand_k28v7_v p0 p0.fKind p0.fKey) then
            some 1
          else
            bif (value_count_v p0.fN) then
              some 0
            else
              some 2
        else
          some 8
      else
        some 8
    else
      some 8
noncomputable def value_CheckCommand_c2 (p0 : GCommand) : Option Int :=
  bif seqB p0.fText ByteArray.empty then
    bif (p0.fN == 0) then
      bif (ck_value_CheckCommand_k28v4_v p0 p0.fKind p0.fKey p0.fField) then
        some 1
      else
        bif (value_count_v p0.fN) then
          some 0
        else
          some 2
    else
      some 8
  else
    some 8
noncomputable def value_CheckCommand_c3 (p0 : GCommand) : Option Int :=
  bif (p0.fKind == 6) then
    value_CheckCommand_c2 p0
  else
    bif (p0.fKind == 14) then
      bif seqB p0.fField ByteArray.empty then
        bif (ck_value_CheckCommand_k28v5_v p0 p0.fKind p0.fKey p0.fText p0.fN) then
          some 1
        else
          bif (value_count_v p0.fN) then
            some 0
          else
            some 2
      else
        some 8
    else
      value_CheckCommand_c1 p0
noncomputable def value_CheckCommand_c4 (p0 : GCommand) : Option Int :=
  bif (p0.fKind == 5) then
    bif seqB p0.fText ByteArray.empty then
      bif (p0.fN == 0) then
        bif (ck_value_CheckCommand_k28v4_v p0 p0.fKind p0.fKey p0.fField) then
          some 1
        else
          bif (value_count_v p0.fN) then
            some 0
          else
            some 2
      else
        some 8
    else
      some 8
  else
    value_CheckCommand_c3 p0
noncomputable def value_CheckCommand_c5 (p0 : GCommand) : Option Int :=
  bif seqB p0.fField ByteArray.empty then
    bif seqB p0.fText ByteArray.empty then
      bif (ck_value_CheckCommand_k28v2_v p0 p0.fKind p0.fKey p0.fN) then
        some 1
      else
        bif (value_count_v p0.fN) then
          some 0
        else
          some 2
    else
      some 8
  else
    some 8
noncomputable def value_CheckCommand_c6 (p0 : GCommand) : Option Int :=
  bif (p0.fKind == 20) then
    value_CheckCommand_c5 p0
  else
    bif (p0.fKind == 4) then
      bif (p0.fN == 0) then
        bif (ck_value_CheckCommand_k28v3_v p0 p0.fKind p0.fKey p0.fField p0.fText) then
          some 1
        else
          bif (value_count_v p0.fN) then
            some 0
          else
            some 2
      else
        some 8
    else
      value_CheckCommand_c4 p0
noncomputable def value_CheckCommand_c7 (p0 : GCommand) : Option Int :=
  bif (p0.fKind == 3) then
    bif seqB p0.fField ByteArray.empty then
      bif seqB p0.fText ByteArray.empty then
        bif (ck_value_CheckCommand_k28v2_v p0 p0.fKind p0.fKey p0.fN) then
          some 1
        else
          bif (value_count_v p0.fN) then
            some 0
          else
            some 2
      else
        some 8
    else
      some 8
  else
    value_CheckCommand_c6 p0
noncomputable def value_CheckCommand_c8 (p0 : GCommand) : Option Int :=
  bif (p0.fKind == 16) then
    bif seqB p0.fField ByteArray.empty then
      bif (p0.fN == 0) then
        bif (ck_value_CheckCommand_k28_v p0 p0.fKind p0.fKey p0.fText) then
          some 1
        else
          bif (value_count_v p0.fN) then
            some 0
          else
            some 2
      else
        some 8
    else
      some 8
  else
    value_CheckCommand_c7 p0
noncomputable def value_CheckCommand_c9 (p0 : GCommand) : Option Int :=
  bif (p0.fKind == 15) then
    bif seqB p0.fField ByteArray.empty then
      bif (p0.fN == 0) then
        bif (ck_value_CheckCommand_k28_v p0 p0.fKind p0.fKey p0.fText) then
          some 1
        else
          bif (value_count_v p0.fN) then
            some 0
          else
            some 2
      else
        some 8
    else
      some 8
  else
    value_CheckCommand_c8 p0
noncomputable def value_CheckCommand_c10 (p0 : GCommand) : Option Int :=
  bif (p0.fKind == 13) then
    bif seqB p0.fField ByteArray.empty then
      bif (p0.fN == 0) then
        bif (ck_value_CheckCommand_k28_v p0 p0.fKind p0.fKey p0.fText) then
          some 1
        else
          bif (value_count_v p0.fN) then
            some 0
          else
            some 2
      else
        some 8
    else
      some 8
  else
    value_CheckCommand_c9 p0
noncomputable def value_CheckCommand_c11 (p0 : GCommand) : Option Int :=
  bif (p0.fKind == 12) then
    bif seqB p0.fField ByteArray.empty then
      bif (p0.fN == 0) then
        bif (ck_value_CheckCommand_k28_v p0 p0.fKind p0.fKey p0.fText) then
          some 1
        else
          bif (value_count_v p0.fN) then
            some 0
          else
            some 2
      else
        some 8
    else
      some 8
  else
    value_CheckCommand_c10 p0
noncomputable def value_CheckCommand_c12 (p0 : GCommand) : Option Int :=
  bif (p0.fKind == 11) then
    bif seqB p0.fField ByteArray.empty then
      bif (p0.fN == 0) then
        bif (ck_value_CheckCommand_k28_v p0 p0.fKind p0.fKey p0.fText) then
          some 1
        else
          bif (value_count_v p0.fN) then
            some 0
          else
            some 2
      else
        some 8
    else
      some 8
  else
    value_CheckCommand_c11 p0
noncomputable def value_CheckCommand_c13 (p0 : GCommand) : Option Int :=
  bif (p0.fKind == 8) then
    bif seqB p0.fField ByteArray.empty then
      bif (p0.fN == 0) then
        bif (ck_value_CheckCommand_k28_v p0 p0.fKind p0.fKey p0.fText) then
          some 1
        else
          bif (value_count_v p0.fN) then
            some 0
          else
            some 2
      else
        some 8
    else
      some 8
  else
    value_CheckCommand_c12 p0
noncomputable def value_CheckCommand_c14 (p0 : GCommand) : Option Int :=
  bif (p0.fKind == 7) then
    bif seqB p0.fField ByteArray.empty then
      bif (p0.fN == 0) then
        bif (ck_value_CheckCommand_k28_v p0 p0.fKind p0.fKey p0.fText) then
          some 1
        else
          bif (value_count_v p0.fN) then
            some 0
          else
            some 2
      else
        some 8
    else
      some 8
  else
    value_CheckCommand_c13 p0
noncomputable def value_CheckCommand (p0 : GCommand) : Option Int :=
  bif decide (p0.fKind < 1) then
    some 3
  else
    bif decide (22 < p0.fKind) then
      some 3
    else
      bif (p0.fKind == 1) then
        bif seqB p0.fField ByteArray.empty then
          bif (p0.fN == 0) then
            bif (ck_value_CheckCommand_k28_v p0 p0.fKind p0.fKey p0.fText) then
              some 1
            else
              bif (value_count_v p0.fN) then
                some 0
              else
                some 2
          else
            some 8
        else
          some 8
      else
        value_CheckCommand_c14 p0
noncomputable def value_CheckCommand_v_c0 (p0 : GCommand) : Int :=
  bif seqB p0.fKey ByteArray.empty then
    bif seqB p0.fField ByteArray.empty then
      bif seqB p0.fText ByteArray.empty then
        bif (p0.fN == 0) then
          bif (ck_value_CheckCommand_k28v6_v p0 p0.fKind) then
            1
          else
            bif (value_count_v p0.fN) then
              0
            else
              2
        else
          8
      else
        8
    else
      8
  else
    8
noncomputable def value_CheckCommand_v_c1 (p0 : GCommand) : Int :=
  bif (p0.fKind == 22) then
    value_CheckCommand_v_c0 p0
  else
    bif seqB p0.fField ByteArray.empty then
      bif seqB p0.fText ByteArray.empty then
        bif (p0.fN == 0) then
          bif (ck_value_CheckCommand_k28v7_v p0 p0.fKind p0.fKey) then
            1
          else
            bif (value_count_v p0.fN) then
              0
            else
              2
        else
          8
      else
        8
    else
      8
noncomputable def value_CheckCommand_v_c2 (p0 : GCommand) : Int :=
  bif seqB p0.fText ByteArray.empty then
    bif (p0.fN == 0) then
      bif (ck_value_CheckCommand_k28v4_v p0 p0.fKind p0.fKey p0.fField) then
        1
      else
        bif (value_count_v p0.fN) then
          0
        else
          2
    else
      8
  else
    8
noncomputable def value_CheckCommand_v_c3 (p0 : GCommand) : Int :=
  bif (p0.fKind == 6) then
    value_CheckCommand_v_c2 p0
  else
    bif (p0.fKind == 14) then
      bif seqB p0.fField ByteArray.empty then
        bif (ck_value_CheckCommand_k28v5_v p0 p0.fKind p0.fKey p0.fText p0.fN) then
          1
        else
          bif (value_count_v p0.fN) then
            0
          else
            2
      else
        8
    else
      value_CheckCommand_v_c1 p0
noncomputable def value_CheckCommand_v_c4 (p0 : GCommand) : Int :=
  bif (p0.fKind == 5) then
    bif seqB p0.fText ByteArray.empty then
      bif (p0.fN == 0) then
        bif (ck_value_CheckCommand_k28v4_v p0 p0.fKind p0.fKey p0.fField) then
          1
        else
          bif (value_count_v p0.fN) then
            0
          else
            2
      else
        8
    else
      8
  else
    value_CheckCommand_v_c3 p0
noncomputable def value_CheckCommand_v_c5 (p0 : GCommand) : Int :=
  bif seqB p0.fField ByteArray.empty then
    bif seqB p0.fText ByteArray.empty then
      bif (ck_value_CheckCommand_k28v2_v p0 p0.fKind p0.fKey p0.fN) then
        1
      else
        bif (value_count_v p0.fN) then
          0
        else
          2
    else
      8
  else
    8
noncomputable def value_CheckCommand_v_c6 (p0 : GCommand) : Int :=
  bif (p0.fKind == 20) then
    value_CheckCommand_v_c5 p0
  else
    bif (p0.fKind == 4) then
      bif (p0.fN == 0) then
        bif (ck_value_CheckCommand_k28v3_v p0 p0.fKind p0.fKey p0.fField p0.fText) then
          1
        else
          bif (value_count_v p0.fN) then
            0
          else
            2
      else
        8
    else
      value_CheckCommand_v_c4 p0
noncomputable def value_CheckCommand_v_c7 (p0 : GCommand) : Int :=
  bif (p0.fKind == 3) then
    bif seqB p0.fField ByteArray.empty then
      bif seqB p0.fText ByteArray.empty then
        bif (ck_value_CheckCommand_k28v2_v p0 p0.fKind p0.fKey p0.fN) then
          1
        else
          bif (value_count_v p0.fN) then
            0
          else
            2
      else
        8
    else
      8
  else
    value_CheckCommand_v_c6 p0
noncomputable def value_CheckCommand_v_c8 (p0 : GCommand) : Int :=
  bif (p0.fKind == 16) then
    bif seqB p0.fField ByteArray.empty then
      bif (p0.fN == 0) then
        bif (ck_value_CheckCommand_k28_v p0 p0.fKind p0.fKey p0.fText) then
          1
        else
          bif (value_count_v p0.fN) then
            0
          else
            2
      else
        8
    else
      8
  else
    value_CheckCommand_v_c7 p0
noncomputable def value_CheckCommand_v_c9 (p0 : GCommand) : Int :=
  bif (p0.fKind == 15) then
    bif seqB p0.fField ByteArray.empty then
      bif (p0.fN == 0) then
        bif (ck_value_CheckCommand_k28_v p0 p0.fKind p0.fKey p0.fText) then
          1
        else
          bif (value_count_v p0.fN) then
            0
          else
            2
      else
        8
    else
      8
  else
    value_CheckCommand_v_c8 p0
noncomputable def value_CheckCommand_v_c10 (p0 : GCommand) : Int :=
  bif (p0.fKind == 13) then
    bif seqB p0.fField ByteArray.empty then
      bif (p0.fN == 0) then
        bif (ck_value_CheckCommand_k28_v p0 p0.fKind p0.fKey p0.fText) then
          1
        else
          bif (value_count_v p0.fN) then
            0
          else
            2
      else
        8
    else
      8
  else
    value_CheckCommand_v_c9 p0
noncomputable def value_CheckCommand_v_c11 (p0 : GCommand) : Int :=
  bif (p0.fKind == 12) then
    bif seqB p0.fField ByteArray.empty then
      bif (p0.fN == 0) then
        bif (ck_value_CheckCommand_k28_v p0 p0.fKind p0.fKey p0.fText) then
          1
        else
          bif (value_count_v p0.fN) then
            0
          else
            2
      else
        8
    else
      8
  else
    value_CheckCommand_v_c10 p0
noncomputable def value_CheckCommand_v_c12 (p0 : GCommand) : Int :=
  bif (p0.fKind == 11) then
    bif seqB p0.fField ByteArray.empty then
      bif (p0.fN == 0) then
        bif (ck_value_CheckCommand_k28_v p0 p0.fKind p0.fKey p0.fText) then
          1
        else
          bif (value_count_v p0.fN) then
            0
          else
            2
      else
        8
    else
      8
  else
    value_CheckCommand_v_c11 p0
noncomputable def value_CheckCommand_v_c13 (p0 : GCommand) : Int :=
  bif (p0.fKind == 8) then
    bif seqB p0.fField ByteArray.empty then
      bif (p0.fN == 0) then
        bif (ck_value_CheckCommand_k28_v p0 p0.fKind p0.fKey p0.fText) then
          1
        else
          bif (value_count_v p0.fN) then
            0
          else
            2
      else
        8
    else
      8
  else
    value_CheckCommand_v_c12 p0
noncomputable def value_CheckCommand_v_c14 (p0 : GCommand) : Int :=
  bif (p0.fKind == 7) then
    bif seqB p0.fField ByteArray.empty then
      bif (p0.fN == 0) then
        bif (ck_value_CheckCommand_k28_v p0 p0.fKind p0.fKey p0.fText) then
          1
        else
          bif (value_count_v p0.fN) then
            0
          else
            2
      else
        8
    else
      8
  else
    value_CheckCommand_v_c13 p0
noncomputable def value_CheckCommand_v (p0 : GCommand) : Int :=
  bif decide (p0.fKind < 1) then
    3
  else
    bif decide (22 < p0.fKind) then
      3
    else
      bif (p0.fKind == 1) then
        bif seqB p0.fField ByteArray.empty then
          bif (p0.fN == 0) then
            bif (ck_value_CheckCommand_k28_v p0 p0.fKind p0.fKey p0.fText) then
              1
            else
              bif (value_count_v p0.fN) then
                0
              else
                2
          else
            8
        else
          8
      else
        value_CheckCommand_v_c14 p0
theorem value_CheckCommand_c0_t (p0 : GCommand) : value_CheckCommand_c0 p0 = some (value_CheckCommand_v_c0 p0) := by
  simp only [value_CheckCommand_c0, value_CheckCommand_v_c0, bif_some]
theorem value_CheckCommand_c1_t (p0 : GCommand) : value_CheckCommand_c1 p0 = some (value_CheckCommand_v_c1 p0) := by
  simp only [value_CheckCommand_c1, value_CheckCommand_v_c1, value_CheckCommand_c0_t, bif_some]
theorem value_CheckCommand_c2_t (p0 : GCommand) : value_CheckCommand_c2 p0 = some (value_CheckCommand_v_c2 p0) := by
  simp only [value_CheckCommand_c2, value_CheckCommand_v_c2, bif_some]
theorem value_CheckCommand_c3_t (p0 : GCommand) : value_CheckCommand_c3 p0 = some (value_CheckCommand_v_c3 p0) := by
  simp only [value_CheckCommand_c3, value_CheckCommand_v_c3, value_CheckCommand_c2_t, value_CheckCommand_c1_t, bif_some]
theorem value_CheckCommand_c4_t (p0 : GCommand) : value_CheckCommand_c4 p0 = some (value_CheckCommand_v_c4 p0) := by
  simp only [value_CheckCommand_c4, value_CheckCommand_v_c4, value_CheckCommand_c3_t, bif_some]
theorem value_CheckCommand_c5_t (p0 : GCommand) : value_CheckCommand_c5 p0 = some (value_CheckCommand_v_c5 p0) := by
  simp only [value_CheckCommand_c5, value_CheckCommand_v_c5, bif_some]
theorem value_CheckCommand_c6_t (p0 : GCommand) : value_CheckCommand_c6 p0 = some (value_CheckCommand_v_c6 p0) := by
  simp only [value_CheckCommand_c6, value_CheckCommand_v_c6, value_CheckCommand_c5_t, value_CheckCommand_c4_t, bif_some]
theorem value_CheckCommand_c7_t (p0 : GCommand) : value_CheckCommand_c7 p0 = some (value_CheckCommand_v_c7 p0) := by
  simp only [value_CheckCommand_c7, value_CheckCommand_v_c7, value_CheckCommand_c6_t, bif_some]
theorem value_CheckCommand_c8_t (p0 : GCommand) : value_CheckCommand_c8 p0 = some (value_CheckCommand_v_c8 p0) := by
  simp only [value_CheckCommand_c8, value_CheckCommand_v_c8, value_CheckCommand_c7_t, bif_some]
theorem value_CheckCommand_c9_t (p0 : GCommand) : value_CheckCommand_c9 p0 = some (value_CheckCommand_v_c9 p0) := by
  simp only [value_CheckCommand_c9, value_CheckCommand_v_c9, value_CheckCommand_c8_t, bif_some]
theorem value_CheckCommand_c10_t (p0 : GCommand) : value_CheckCommand_c10 p0 = some (value_CheckCommand_v_c10 p0) := by
  simp only [value_CheckCommand_c10, value_CheckCommand_v_c10, value_CheckCommand_c9_t, bif_some]
theorem value_CheckCommand_c11_t (p0 : GCommand) : value_CheckCommand_c11 p0 = some (value_CheckCommand_v_c11 p0) := by
  simp only [value_CheckCommand_c11, value_CheckCommand_v_c11, value_CheckCommand_c10_t, bif_some]
theorem value_CheckCommand_c12_t (p0 : GCommand) : value_CheckCommand_c12 p0 = some (value_CheckCommand_v_c12 p0) := by
  simp only [value_CheckCommand_c12, value_CheckCommand_v_c12, value_CheckCommand_c11_t, bif_some]
theorem value_CheckCommand_c13_t (p0 : GCommand) : value_CheckCommand_c13 p0 = some (value_CheckCommand_v_c13 p0) := by
  simp only [value_CheckCommand_c13, value_CheckCommand_v_c13, value_CheckCommand_c12_t, bif_some]
theorem value_CheckCommand_c14_t (p0 : GCommand) : value_CheckCommand_c14 p0 = some (value_CheckCommand_v_c14 p0) := by
  simp only [value_CheckCommand_c14, value_CheckCommand_v_c14, value_CheckCommand_c13_t, bif_some]
theorem value_CheckCommand_t (p0 : GCommand) : value_CheckCommand p0 = some (value_CheckCommand_v p0) := by
  simp only [value_CheckCommand, value_CheckCommand_v, value_CheckCommand_c14_t, bif_some]
def K_value_CheckCommand (C : Oracle) : Prop := ∀ (p0 : GCommand) (r : Int), value_CheckCommand p0 = some r → C 128 [.agg [.v (.i .i64 p0.fKind), .v (.s p0.fKey), .v (.s p0.fField), .v (.s p0.fText), .v (.i .i64 p0.fN)]] [] = some (.v (.i .i64 r), [])
/-! ### client.CheckCall -/
noncomputable def client_CheckCall_c0 (p0 : GCall) : Option Int :=
  bif (p0.fSeq == 0) then
    bif (p0.fCommand.fKind == 0) then
      bif seqB p0.fCommand.fKey ByteArray.empty then
        bif seqB p0.fCommand.fField ByteArray.empty then
          bif seqB p0.fCommand.fText ByteArray.empty then
            bif (p0.fCommand.fN == 0) then
              some 0
            else
              some 8
          else
            some 8
        else
          some 8
      else
        some 8
    else
      some 8
  else
    some 8
noncomputable def client_CheckCall (p0 : GCall) : Option Int :=
  bif (p0.fClient == 0) then
    client_CheckCall_c0 p0
  else
    bif (client_number_v p0.fClient) then
      bif (client_number_v p0.fSeq) then
        some (value_CheckCommand_v p0.fCommand)
      else
        some 2
    else
      some 2
noncomputable def client_CheckCall_v_c0 (p0 : GCall) : Int :=
  bif (p0.fSeq == 0) then
    bif (p0.fCommand.fKind == 0) then
      bif seqB p0.fCommand.fKey ByteArray.empty then
        bif seqB p0.fCommand.fField ByteArray.empty then
          bif seqB p0.fCommand.fText ByteArray.empty then
            bif (p0.fCommand.fN == 0) then
              0
            else
              8
          else
            8
        else
          8
      else
        8
    else
      8
  else
    8
noncomputable def client_CheckCall_v (p0 : GCall) : Int :=
  bif (p0.fClient == 0) then
    client_CheckCall_v_c0 p0
  else
    bif (client_number_v p0.fClient) then
      bif (client_number_v p0.fSeq) then
        (value_CheckCommand_v p0.fCommand)
      else
        2
    else
      2
theorem client_CheckCall_c0_t (p0 : GCall) : client_CheckCall_c0 p0 = some (client_CheckCall_v_c0 p0) := by
  simp only [client_CheckCall_c0, client_CheckCall_v_c0, bif_some]
theorem client_CheckCall_t (p0 : GCall) : client_CheckCall p0 = some (client_CheckCall_v p0) := by
  simp only [client_CheckCall, client_CheckCall_v, client_CheckCall_c0_t, bif_some]
def K_client_CheckCall (C : Oracle) : Prop := ∀ (p0 : GCall) (r : Int), client_CheckCall p0 = some r → C 102 [.agg [.v (.i .i64 p0.fClient), .v (.i .i64 p0.fSeq), .v (.i .i64 p0.fCommand.fKind), .v (.s p0.fCommand.fKey), .v (.s p0.fCommand.fField), .v (.s p0.fCommand.fText), .v (.i .i64 p0.fCommand.fN)]] [] = some (.v (.i .i64 r), [])
/-! ### wire.CheckItem -/
noncomputable def ck_wire_CheckItem_k1 (p0 : GItem) : Option Bool :=
  bif decide (p0.fTerm < 1) then
    some true
  else
    bif decide (1048576 < p0.fTerm) then
      some true
    else
      bif decide (p0.fTime < 0) then
        some true
      else
        some (decide (1073741824 < p0.fTime))
noncomputable def ck_wire_CheckItem_k1_v (p0 : GItem) : Bool :=
  bif decide (p0.fTerm < 1) then
    true
  else
    bif decide (1048576 < p0.fTerm) then
      true
    else
      bif decide (p0.fTime < 0) then
        true
      else
        decide (1073741824 < p0.fTime)
theorem ck_wire_CheckItem_k1_t (p0 : GItem) : ck_wire_CheckItem_k1 p0 = some (ck_wire_CheckItem_k1_v p0) := by
  simp only [ck_wire_CheckItem_k1, ck_wire_CheckItem_k1_v, bif_some]
noncomputable def wire_CheckItem_c0 (p0 : GItem) : Option Int :=
  bif (p0.fCall.fClient == 0) then
    bif (p0.fCall.fSeq == 0) then
      bif (p0.fCall.fCommand.fKind == 0) then
        bif seqB p0.fCall.fCommand.fKey ByteArray.empty then
          bif seqB p0.fCall.fCommand.fField ByteArray.empty then
            bif seqB p0.fCall.fCommand.fText ByteArray.empty then
              bif (p0.fCall.fCommand.fN == 0) then
                some 0
              else
                some 8
            else
              some 8
          else
            some 8
        else
          some 8
      else
        some 8
    else
      some 8
  else
    some 8
noncomputable def wire_CheckItem (p0 : GItem) : Option Int :=
  bif (ck_wire_CheckItem_k1_v p0) then
    some 2
  else
    bif p0.fNop then
      wire_CheckItem_c0 p0
    else
      some (client_CheckCall_v p0.fCall)
noncomputable def wire_CheckItem_v_c0 (p0 : GItem) : Int :=
  bif (p0.fCall.fClient == 0) then
    bif (p0.fCall.fSeq == 0) then
      bif (p0.fCall.fCommand.fKind == 0) then
        bif seqB p0.fCall.fCommand.fKey ByteArray.empty then
          bif seqB p0.fCall.fCommand.fField ByteArray.empty then
            bif seqB p0.fCall.fCommand.fText ByteArray.empty then
              bif (p0.fCall.fCommand.fN == 0) then
                0
              else
                8
            else
              8
          else
            8
        else
          8
      else
        8
    else
      8
  else
    8
noncomputable def wire_CheckItem_v (p0 : GItem) : Int :=
  bif (ck_wire_CheckItem_k1_v p0) then
    2
  else
    bif p0.fNop then
      wire_CheckItem_v_c0 p0
    else
      (client_CheckCall_v p0.fCall)
theorem wire_CheckItem_c0_t (p0 : GItem) : wire_CheckItem_c0 p0 = some (wire_CheckItem_v_c0 p0) := by
  simp only [wire_CheckItem_c0, wire_CheckItem_v_c0, bif_some]
theorem wire_CheckItem_t (p0 : GItem) : wire_CheckItem p0 = some (wire_CheckItem_v p0) := by
  simp only [wire_CheckItem, wire_CheckItem_v, wire_CheckItem_c0_t, bif_some]
def K_wire_CheckItem (C : Oracle) : Prop := ∀ (p0 : GItem) (r : Int), wire_CheckItem p0 = some r → C 56 [.agg [.v (.i .i64 p0.fTerm), .v (.i .i64 p0.fTime), .v (.b p0.fNop), .v (.i .i64 p0.fCall.fClient), .v (.i .i64 p0.fCall.fSeq), .v (.i .i64 p0.fCall.fCommand.fKind), .v (.s p0.fCall.fCommand.fKey), .v (.s p0.fCall.fCommand.fField), .v (.s p0.fCall.fCommand.fText), .v (.i .i64 p0.fCall.fCommand.fN)]] [] = some (.v (.i .i64 r), [])
/-! ### (*wire.writer).number -/
noncomputable def st_wire_writer_number_0 (p0 : Int) (s : Int × Gwriter) : Option ((Int × Gwriter) ⊕ (Int × Bool × Gwriter)) :=
  match s with
  | (p1, p2) =>
    bif decide (0 ≤ p1) then
      bif fitsB (p2.fb.length + 1) 1 then
        some (.inl ((IntKind.i64.wrap (p1 - 8)), (Gwriter.mk (p2.fb ++ [(IntKind.u8.wrap (Int.fdiv p0 (2 ^ (min (p1 : Int).toNat IntKind.u64.bits))))]))))
      else
        none
    else
      some (.inr (p1, decide (0 ≤ p1), p2))
noncomputable def wire_writer_number (p0 : Int) (p1 : Gwriter) : Option Gwriter :=
  (match loopM (st_wire_writer_number_0 (IntKind.u64.wrap (IntKind.i64.wrap (p0 + 4611686018427387904)))) (56, p1) with
  | none => none
  | some (x1, x2, x3) =>
    some x3
  )
def K_wire_writer_number (C : Oracle) : Prop := ∀ (p0 : Int) (p1 : Gwriter) (r : Gwriter), wire_writer_number p0 p1 = some r → C 94 [.ptr 0 0, .v (.i .i64 p0)] [[.own 1 (mapR rowB p1.fb)]] = some (.tup [], [[.own 1 (mapR rowB r.fb)]])
/-! ### (*wire.writer).small -/
noncomputable def wire_writer_small (p0 : Int) (p1 : Gwriter) : Option Gwriter :=
  bif fitsB (p1.fb.length + 1) 1 then
    some (Gwriter.mk (p1.fb ++ [(IntKind.u8.wrap p0)]))
  else
    none
def K_wire_writer_small (C : Oracle) : Prop := ∀ (p0 : Int) (p1 : Gwriter) (r : Gwriter), wire_writer_small p0 p1 = some r → C 95 [.ptr 0 0, .v (.i .i64 p0)] [[.own 1 (mapR rowB p1.fb)]] = some (.tup [], [[.own 1 (mapR rowB r.fb)]])
/-! ### (*wire.writer).text -/
noncomputable def wire_writer_text (p0 : ByteArray) (p1 : Gwriter) : Option Gwriter :=
  (match wire_writer_small (p0.size : Int) p1 with
  | none => none
  | some x1 =>
    bif fitsB (x1.fb.length + (byL p0).length) 1 then
      some (Gwriter.mk (x1.fb ++ (byL p0)))
    else
      none
  )
def K_wire_writer_text (C : Oracle) : Prop := ∀ (p0 : ByteArray) (p1 : Gwriter) (r : Gwriter), wire_writer_text p0 p1 = some r → C 96 [.ptr 0 0, .v (.s p0)] [[.own 1 (mapR rowB p1.fb)]] = some (.tup [], [[.own 1 (mapR rowB r.fb)]])
/-! ### (*wire.writer).command -/
noncomputable def wire_writer_command (p0 : GCommand) (p1 : Gwriter) : Option Gwriter :=
  (match wire_writer_small p0.fKind p1 with
  | none => none
  | some x1 =>
    (match wire_writer_text p0.fKey x1 with
    | none => none
    | some x2 =>
      (match wire_writer_text p0.fField x2 with
      | none => none
      | some x3 =>
        (match wire_writer_text p0.fText x3 with
        | none => none
        | some x4 =>
          (match wire_writer_number p0.fN x4 with
          | none => none
          | some x5 =>
            some x5
          )
        )
      )
    )
  )
def K_wire_writer_command (C : Oracle) : Prop := ∀ (p0 : GCommand) (p1 : Gwriter) (r : Gwriter), wire_writer_command p0 p1 = some r → C 129 [.ptr 0 0, .agg [.v (.i .i64 p0.fKind), .v (.s p0.fKey), .v (.s p0.fField), .v (.s p0.fText), .v (.i .i64 p0.fN)]] [[.own 1 (mapR rowB p1.fb)]] = some (.tup [], [[.own 1 (mapR rowB r.fb)]])
/-! ### (*wire.writer).call -/
noncomputable def wire_writer_call (p0 : GCall) (p1 : Gwriter) : Option Gwriter :=
  (match wire_writer_number p0.fClient p1 with
  | none => none
  | some x1 =>
    bif decide (0 < p0.fClient) then
      (match wire_writer_number p0.fSeq x1 with
      | none => none
      | some x2 =>
        (match wire_writer_command p0.fCommand x2 with
        | none => none
        | some x3 =>
          some x3
        )
      )
    else
      some x1
  )
def K_wire_writer_call (C : Oracle) : Prop := ∀ (p0 : GCall) (p1 : Gwriter) (r : Gwriter), wire_writer_call p0 p1 = some r → C 103 [.ptr 0 0, .agg [.v (.i .i64 p0.fClient), .v (.i .i64 p0.fSeq), .v (.i .i64 p0.fCommand.fKind), .v (.s p0.fCommand.fKey), .v (.s p0.fCommand.fField), .v (.s p0.fCommand.fText), .v (.i .i64 p0.fCommand.fN)]] [[.own 1 (mapR rowB p1.fb)]] = some (.tup [], [[.own 1 (mapR rowB r.fb)]])
/-! ### (*wire.writer).item -/
noncomputable def wire_writer_item (p0 : GItem) (p1 : Gwriter) : Option Gwriter :=
  (match wire_writer_number p0.fTerm p1 with
  | none => none
  | some x1 =>
    (match wire_writer_number p0.fTime x1 with
    | none => none
    | some x2 =>
      bif p0.fNop then
        (match wire_writer_small 1 x2 with
        | none => none
        | some x3 =>
          some x3
        )
      else
        (match wire_writer_small 0 x2 with
        | none => none
        | some x3 =>
          (match wire_writer_call p0.fCall x3 with
          | none => none
          | some x4 =>
            some x4
          )
        )
    )
  )
def K_wire_writer_item (C : Oracle) : Prop := ∀ (p0 : GItem) (p1 : Gwriter) (r : Gwriter), wire_writer_item p0 p1 = some r → C 57 [.ptr 0 0, .agg [.v (.i .i64 p0.fTerm), .v (.i .i64 p0.fTime), .v (.b p0.fNop), .v (.i .i64 p0.fCall.fClient), .v (.i .i64 p0.fCall.fSeq), .v (.i .i64 p0.fCall.fCommand.fKind), .v (.s p0.fCall.fCommand.fKey), .v (.s p0.fCall.fCommand.fField), .v (.s p0.fCall.fCommand.fText), .v (.i .i64 p0.fCall.fCommand.fN)]] [[.own 1 (mapR rowB p1.fb)]] = some (.tup [], [[.own 1 (mapR rowB r.fb)]])
/-! ### wire.EncodeItem -/
noncomputable def wire_EncodeItem (p0 : GItem) : Option ((List Int) × Int) :=
  bif ((wire_CheckItem_v p0) == 0) then
    (match wire_writer_item p0 (Gwriter.mk []) with
    | none => none
    | some x1 =>
      some (x1.fb, 0)
    )
  else
    some ([], (wire_CheckItem_v p0))
def K_wire_EncodeItem (C : Oracle) : Prop := ∀ (p0 : GItem) (r : (List Int) × Int), wire_EncodeItem p0 = some r → C 20 [.agg [.v (.i .i64 p0.fTerm), .v (.i .i64 p0.fTime), .v (.b p0.fNop), .v (.i .i64 p0.fCall.fClient), .v (.i .i64 p0.fCall.fSeq), .v (.i .i64 p0.fCall.fCommand.fKind), .v (.s p0.fCall.fCommand.fKey), .v (.s p0.fCall.fCommand.fField), .v (.s p0.fCall.fCommand.fText), .v (.i .i64 p0.fCall.fCommand.fN)]] [] = some (.tup [.v (.sl 1 (mapR rowB r.1)), .v (.i .i64 r.2)], [])
/-! ### rostrumref.In -/
noncomputable def rostrumref_In (p0 : Int) (p1 : Int) (p2 : Int) : Option Bool :=
  bif decide (p1 ≤ p0) then
    some (decide (p0 ≤ p2))
  else
    some false
noncomputable def rostrumref_In_v (p0 : Int) (p1 : Int) (p2 : Int) : Bool := (decide (p1 ≤ p0) && decide (p0 ≤ p2))
theorem rostrumref_In_t (p0 : Int) (p1 : Int) (p2 : Int) : rostrumref_In p0 p1 p2 = some (rostrumref_In_v p0 p1 p2) := by
  simp only [rostrumref_In, rostrumref_In_v]
  cases decide (p1 ≤ p0) <;> rfl
def K_rostrumref_In (C : Oracle) : Prop := ∀ (p0 : Int) (p1 : Int) (p2 : Int) (r : Bool), rostrumref_In p0 p1 p2 = some r → C 55 [.v (.i .i64 p0), .v (.i .i64 p1), .v (.i .i64 p2)] [] = some (.v (.b r), [])
/-! ### rostrumref.numberMay -/
noncomputable def rostrumref_numberMay (p0 : Int) : Option Bool :=
  some (decide (1 ≤ p0) && decide (p0 ≤ 1048576))
noncomputable def rostrumref_numberMay_v (p0 : Int) : Bool := (decide (1 ≤ p0) && decide (p0 ≤ 1048576))
theorem rostrumref_numberMay_t (p0 : Int) : rostrumref_numberMay p0 = some (rostrumref_numberMay_v p0) := by
  simp only [rostrumref_numberMay, rostrumref_numberMay_v]
def K_rostrumref_numberMay (C : Oracle) : Prop := ∀ (p0 : Int) (r : Bool), rostrumref_numberMay p0 = some r → C 91 [.v (.i .i64 p0)] [] = some (.v (.b r), [])
/-! ### rostrumref.fieldMay -/
noncomputable def rostrumref_fieldMay (p0 : ByteArray) : Option Bool :=
  some (decide (1 ≤ (p0.size : Int)) && decide ((p0.size : Int) ≤ 12))
noncomputable def rostrumref_fieldMay_v (p0 : ByteArray) : Bool := (decide (1 ≤ (p0.size : Int)) && decide ((p0.size : Int) ≤ 12))
theorem rostrumref_fieldMay_t (p0 : ByteArray) : rostrumref_fieldMay p0 = some (rostrumref_fieldMay_v p0) := by
  simp only [rostrumref_fieldMay, rostrumref_fieldMay_v]
def K_rostrumref_fieldMay (C : Oracle) : Prop := ∀ (p0 : ByteArray) (r : Bool), rostrumref_fieldMay p0 = some r → C 81 [.v (.s p0)] [] = some (.v (.b r), [])
/-! ### rostrumref.textMay -/
noncomputable def rostrumref_textMay (p0 : ByteArray) : Option Bool :=
  some (decide ((p0.size : Int) ≤ 20))
noncomputable def rostrumref_textMay_v (p0 : ByteArray) : Bool := decide ((p0.size : Int) ≤ 20)
theorem rostrumref_textMay_t (p0 : ByteArray) : rostrumref_textMay p0 = some (rostrumref_textMay_v p0) := by
  simp only [rostrumref_textMay, rostrumref_textMay_v]
def K_rostrumref_textMay (C : Oracle) : Prop := ∀ (p0 : ByteArray) (r : Bool), rostrumref_textMay p0 = some r → C 80 [.v (.s p0)] [] = some (.v (.b r), [])
/-! ### rostrumref.countMay -/
noncomputable def rostrumref_countMay (p0 : Int) : Option Bool :=
  some (decide ((-1099511627776) ≤ p0) && decide (p0 ≤ 1099511627776))
noncomputable def rostrumref_countMay_v (p0 : Int) : Bool := (decide ((-1099511627776) ≤ p0) && decide (p0 ≤ 1099511627776))
theorem rostrumref_countMay_t (p0 : Int) : rostrumref_countMay p0 = some (rostrumref_countMay_v p0) := by
  simp only [rostrumref_countMay, rostrumref_countMay_v]
def K_rostrumref_countMay (C : Oracle) : Prop := ∀ (p0 : Int) (r : Bool), rostrumref_countMay p0 = some r → C 82 [.v (.i .i64 p0)] [] = some (.v (.b r), [])
/-! ### rostrumref.CommandFault -/
noncomputable def ck_rostrumref_CommandFault_k3 (p0 : GCommand) : Option Bool :=
  bif (p0.fKind == 1) then
    some true
  else
    bif (p0.fKind == 4) then
      some true
    else
      bif (p0.fKind == 7) then
        some true
      else
        bif (p0.fKind == 8) then
          some true
        else
          some (decide (11 ≤ p0.fKind) && decide (p0.fKind ≤ 16))
noncomputable def ck_rostrumref_CommandFault_k3_v (p0 : GCommand) : Bool :=
  bif (p0.fKind == 1) then
    true
  else
    bif (p0.fKind == 4) then
      true
    else
      bif (p0.fKind == 7) then
        true
      else
        bif (p0.fKind == 8) then
          true
        else
          (decide (11 ≤ p0.fKind) && decide (p0.fKind ≤ 16))
theorem ck_rostrumref_CommandFault_k3_t (p0 : GCommand) : ck_rostrumref_CommandFault_k3 p0 = some (ck_rostrumref_CommandFault_k3_v p0) := by
  simp only [ck_rostrumref_CommandFault_k3, ck_rostrumref_CommandFault_k3_v, bif_some]
noncomputable def ck_rostrumref_CommandFault_k5 (p0 : GCommand) (p1 : Bool) (p2 : Bool) : Option Bool :=
  bif (p0.fKind == 3) then
    some true
  else
    bif (p0.fKind == 14) then
      some true
    else
      some (p0.fKind == 20)
noncomputable def ck_rostrumref_CommandFault_k5_v (p0 : GCommand) (p1 : Bool) (p2 : Bool) : Bool :=
  bif (p0.fKind == 3) then
    true
  else
    bif (p0.fKind == 14) then
      true
    else
      (p0.fKind == 20)
theorem ck_rostrumref_CommandFault_k5_t (p0 : GCommand) (p1 : Bool) (p2 : Bool) : ck_rostrumref_CommandFault_k5 p0 p1 p2 = some (ck_rostrumref_CommandFault_k5_v p0 p1 p2) := by
  simp only [ck_rostrumref_CommandFault_k5, ck_rostrumref_CommandFault_k5_v, bif_some]
noncomputable def ck_rostrumref_CommandFault_k7_c0 (p0 : GCommand) (p1 : Bool) (p2 : Bool) (p3 : Bool) (p4 : Bool) : Option Bool :=
  bif seqB p0.fField ByteArray.empty then
    bif p3 then
      bif p4 then
        some false
      else
        some (!seqB p0.fKey ByteArray.empty)
    else
      bif (p0.fN == 0) then
        bif p4 then
          some false
        else
          some (!seqB p0.fKey ByteArray.empty)
      else
        some true
  else
    some true
noncomputable def ck_rostrumref_CommandFault_k7_c1 (p0 : GCommand) (p1 : Bool) (p2 : Bool) (p3 : Bool) (p4 : Bool) : Option Bool :=
  bif seqB p0.fField ByteArray.empty then
    bif p3 then
      bif p4 then
        some false
      else
        some (!seqB p0.fKey ByteArray.empty)
    else
      bif (p0.fN == 0) then
        bif p4 then
          some false
        else
          some (!seqB p0.fKey ByteArray.empty)
      else
        some true
  else
    some true
noncomputable def ck_rostrumref_CommandFault_k7_c2 (p0 : GCommand) (p1 : Bool) (p2 : Bool) (p3 : Bool) (p4 : Bool) : Option Bool :=
  bif seqB p0.fText ByteArray.empty then
    bif p2 then
      bif p3 then
        bif p4 then
          some false
        else
          some (!seqB p0.fKey ByteArray.empty)
      else
        bif (p0.fN == 0) then
          bif p4 then
            some false
          else
            some (!seqB p0.fKey ByteArray.empty)
        else
          some true
    else
      ck_rostrumref_CommandFault_k7_c1 p0 p1 p2 p3 p4
  else
    some true
noncomputable def ck_rostrumref_CommandFault_k7 (p0 : GCommand) (p1 : Bool) (p2 : Bool) (p3 : Bool) (p4 : Bool) : Option Bool :=
  bif p1 then
    bif p2 then
      bif p3 then
        bif p4 then
          some false
        else
          some (!seqB p0.fKey ByteArray.empty)
      else
        bif (p0.fN == 0) then
          bif p4 then
            some false
          else
            some (!seqB p0.fKey ByteArray.empty)
        else
          some true
    else
      ck_rostrumref_CommandFault_k7_c0 p0 p1 p2 p3 p4
  else
    ck_rostrumref_CommandFault_k7_c2 p0 p1 p2 p3 p4
noncomputable def ck_rostrumref_CommandFault_k7_v_c0 (p0 : GCommand) (p1 : Bool) (p2 : Bool) (p3 : Bool) (p4 : Bool) : Bool :=
  bif seqB p0.fField ByteArray.empty then
    bif p3 then
      bif p4 then
        false
      else
        (!seqB p0.fKey ByteArray.empty)
    else
      bif (p0.fN == 0) then
        bif p4 then
          false
        else
          (!seqB p0.fKey ByteArray.empty)
      else
        true
  else
    true
noncomputable def ck_rostrumref_CommandFault_k7_v_c1 (p0 : GCommand) (p1 : Bool) (p2 : Bool) (p3 : Bool) (p4 : Bool) : Bool :=
  bif seqB p0.fField ByteArray.empty then
    bif p3 then
      bif p4 then
        false
      else
        (!seqB p0.fKey ByteArray.empty)
    else
      bif (p0.fN == 0) then
        bif p4 then
          false
        else
          (!seqB p0.fKey ByteArray.empty)
      else
        true
  else
    true
noncomputable def ck_rostrumref_CommandFault_k7_v_c2 (p0 : GCommand) (p1 : Bool) (p2 : Bool) (p3 : Bool) (p4 : Bool) : Bool :=
  bif seqB p0.fText ByteArray.empty then
    bif p2 then
      bif p3 then
        bif p4 then
          false
        else
          (!seqB p0.fKey ByteArray.empty)
      else
        bif (p0.fN == 0) then
          bif p4 then
            false
          else
            (!seqB p0.fKey ByteArray.empty)
        else
          true
    else
      ck_rostrumref_CommandFault_k7_v_c1 p0 p1 p2 p3 p4
  else
    true
noncomputable def ck_rostrumref_CommandFault_k7_v (p0 : GCommand) (p1 : Bool) (p2 : Bool) (p3 : Bool) (p4 : Bool) : Bool :=
  bif p1 then
    bif p2 then
      bif p3 then
        bif p4 then
          false
        else
          (!seqB p0.fKey ByteArray.empty)
      else
        bif (p0.fN == 0) then
          bif p4 then
            false
          else
            (!seqB p0.fKey ByteArray.empty)
        else
          true
    else
      ck_rostrumref_CommandFault_k7_v_c0 p0 p1 p2 p3 p4
  else
    ck_rostrumref_CommandFault_k7_v_c2 p0 p1 p2 p3 p4
theorem ck_rostrumref_CommandFault_k7_c0_t (p0 : GCommand) (p1 : Bool) (p2 : Bool) (p3 : Bool) (p4 : Bool) : ck_rostrumref_CommandFault_k7_c0 p0 p1 p2 p3 p4 = some (ck_rostrumref_CommandFault_k7_v_c0 p0 p1 p2 p3 p4) := by
  simp only [ck_rostrumref_CommandFault_k7_c0, ck_rostrumref_CommandFault_k7_v_c0, bif_some]
theorem ck_rostrumref_CommandFault_k7_c1_t (p0 : GCommand) (p1 : Bool) (p2 : Bool) (p3 : Bool) (p4 : Bool) : ck_rostrumref_CommandFault_k7_c1 p0 p1 p2 p3 p4 = some (ck_rostrumref_CommandFault_k7_v_c1 p0 p1 p2 p3 p4) := by
  simp only [ck_rostrumref_CommandFault_k7_c1, ck_rostrumref_CommandFault_k7_v_c1, bif_some]
theorem ck_rostrumref_CommandFault_k7_c2_t (p0 : GCommand) (p1 : Bool) (p2 : Bool) (p3 : Bool) (p4 : Bool) : ck_rostrumref_CommandFault_k7_c2 p0 p1 p2 p3 p4 = some (ck_rostrumref_CommandFault_k7_v_c2 p0 p1 p2 p3 p4) := by
  simp only [ck_rostrumref_CommandFault_k7_c2, ck_rostrumref_CommandFault_k7_v_c2, ck_rostrumref_CommandFault_k7_c1_t, bif_some]
theorem ck_rostrumref_CommandFault_k7_t (p0 : GCommand) (p1 : Bool) (p2 : Bool) (p3 : Bool) (p4 : Bool) : ck_rostrumref_CommandFault_k7 p0 p1 p2 p3 p4 = some (ck_rostrumref_CommandFault_k7_v p0 p1 p2 p3 p4) := by
  simp only [ck_rostrumref_CommandFault_k7, ck_rostrumref_CommandFault_k7_v, ck_rostrumref_CommandFault_k7_c0_t, ck_rostrumref_CommandFault_k7_c2_t, bif_some]
noncomputable def ck_rostrumref_CommandFault_k9 (p0 : GCommand) (p1 : Bool) (p2 : Bool) : Option Bool :=
  bif p2 then
    bif (rostrumref_fieldMay_v p0.fKey) then
      bif p1 then
        bif (rostrumref_fieldMay_v p0.fField) then
          some (!(rostrumref_textMay_v p0.fText))
        else
          some true
      else
        some (!(rostrumref_textMay_v p0.fText))
    else
      some true
  else
    bif p1 then
      bif (rostrumref_fieldMay_v p0.fField) then
        some (!(rostrumref_textMay_v p0.fText))
      else
        some true
    else
      some (!(rostrumref_textMay_v p0.fText))
noncomputable def ck_rostrumref_CommandFault_k9_v (p0 : GCommand) (p1 : Bool) (p2 : Bool) : Bool :=
  bif p2 then
    bif (rostrumref_fieldMay_v p0.fKey) then
      bif p1 then
        bif (rostrumref_fieldMay_v p0.fField) then
          (!(rostrumref_textMay_v p0.fText))
        else
          true
      else
        (!(rostrumref_textMay_v p0.fText))
    else
      true
  else
    bif p1 then
      bif (rostrumref_fieldMay_v p0.fField) then
        (!(rostrumref_textMay_v p0.fText))
      else
        true
    else
      (!(rostrumref_textMay_v p0.fText))
theorem ck_rostrumref_CommandFault_k9_t (p0 : GCommand) (p1 : Bool) (p2 : Bool) : ck_rostrumref_CommandFault_k9 p0 p1 p2 = some (ck_rostrumref_CommandFault_k9_v p0 p1 p2) := by
  simp only [ck_rostrumref_CommandFault_k9, ck_rostrumref_CommandFault_k9_v, bif_some]
noncomputable def rostrumref_CommandFault (p0 : GCommand) : Option Int :=
  bif decide (1 ≤ p0.fKind) then
    bif decide (p0.fKind ≤ 22) then
      bif (ck_rostrumref_CommandFault_k7_v p0 (ck_rostrumref_CommandFault_k3_v p0) (decide (4 ≤ p0.fKind) && decide (p0.fKind ≤ 6)) (ck_rostrumref_CommandFault_k5_v p0 (ck_rostrumref_CommandFault_k3_v p0) (decide (4 ≤ p0.fKind) && decide (p0.fKind ≤ 6))) (!(p0.fKind == 22))) then
        some 8
      else
        bif (ck_rostrumref_CommandFault_k9_v p0 (decide (4 ≤ p0.fKind) && decide (p0.fKind ≤ 6)) (!(p0.fKind == 22))) then
          some 1
        else
          bif (rostrumref_countMay_v p0.fN) then
            some 0
          else
            some 2
    else
      some 3
  else
    some 3
noncomputable def rostrumref_CommandFault_v (p0 : GCommand) : Int :=
  bif decide (1 ≤ p0.fKind) then
    bif decide (p0.fKind ≤ 22) then
      bif (ck_rostrumref_CommandFault_k7_v p0 (ck_rostrumref_CommandFault_k3_v p0) (decide (4 ≤ p0.fKind) && decide (p0.fKind ≤ 6)) (ck_rostrumref_CommandFault_k5_v p0 (ck_rostrumref_CommandFault_k3_v p0) (decide (4 ≤ p0.fKind) && decide (p0.fKind ≤ 6))) (!(p0.fKind == 22))) then
        8
      else
        bif (ck_rostrumref_CommandFault_k9_v p0 (decide (4 ≤ p0.fKind) && decide (p0.fKind ≤ 6)) (!(p0.fKind == 22))) then
          1
        else
          bif (rostrumref_countMay_v p0.fN) then
            0
          else
            2
    else
      3
  else
    3
theorem rostrumref_CommandFault_t (p0 : GCommand) : rostrumref_CommandFault p0 = some (rostrumref_CommandFault_v p0) := by
  simp only [rostrumref_CommandFault, rostrumref_CommandFault_v, bif_some]
def K_rostrumref_CommandFault (C : Oracle) : Prop := ∀ (p0 : GCommand) (r : Int), rostrumref_CommandFault p0 = some r → C 130 [.agg [.v (.i .i64 p0.fKind), .v (.s p0.fKey), .v (.s p0.fField), .v (.s p0.fText), .v (.i .i64 p0.fN)]] [] = some (.v (.i .i64 r), [])
/-! ### rostrumref.CallFault -/
noncomputable def rostrumref_CallFault_c0 (p0 : GCall) : Option Int :=
  bif (p0.fSeq == 0) then
    bif (p0.fCommand.fKind == 0) then
      bif seqB p0.fCommand.fKey ByteArray.empty then
        bif seqB p0.fCommand.fField ByteArray.empty then
          bif seqB p0.fCommand.fText ByteArray.empty then
            bif (p0.fCommand.fN == 0) then
              some 0
            else
              some 8
          else
            some 8
        else
          some 8
      else
        some 8
    else
      some 8
  else
    some 8
noncomputable def rostrumref_CallFault (p0 : GCall) : Option Int :=
  bif (p0.fClient == 0) then
    rostrumref_CallFault_c0 p0
  else
    bif (rostrumref_numberMay_v p0.fClient) then
      bif (rostrumref_numberMay_v p0.fSeq) then
        some (rostrumref_CommandFault_v p0.fCommand)
      else
        some 2
    else
      some 2
noncomputable def rostrumref_CallFault_v_c0 (p0 : GCall) : Int :=
  bif (p0.fSeq == 0) then
    bif (p0.fCommand.fKind == 0) then
      bif seqB p0.fCommand.fKey ByteArray.empty then
        bif seqB p0.fCommand.fField ByteArray.empty then
          bif seqB p0.fCommand.fText ByteArray.empty then
            bif (p0.fCommand.fN == 0) then
              0
            else
              8
          else
            8
        else
          8
      else
        8
    else
      8
  else
    8
noncomputable def rostrumref_CallFault_v (p0 : GCall) : Int :=
  bif (p0.fClient == 0) then
    rostrumref_CallFault_v_c0 p0
  else
    bif (rostrumref_numberMay_v p0.fClient) then
      bif (rostrumref_numberMay_v p0.fSeq) then
        (rostrumref_CommandFault_v p0.fCommand)
      else
        2
    else
      2
theorem rostrumref_CallFault_c0_t (p0 : GCall) : rostrumref_CallFault_c0 p0 = some (rostrumref_CallFault_v_c0 p0) := by
  simp only [rostrumref_CallFault_c0, rostrumref_CallFault_v_c0, bif_some]
theorem rostrumref_CallFault_t (p0 : GCall) : rostrumref_CallFault p0 = some (rostrumref_CallFault_v p0) := by
  simp only [rostrumref_CallFault, rostrumref_CallFault_v, rostrumref_CallFault_c0_t, bif_some]
def K_rostrumref_CallFault (C : Oracle) : Prop := ∀ (p0 : GCall) (r : Int), rostrumref_CallFault p0 = some r → C 104 [.agg [.v (.i .i64 p0.fClient), .v (.i .i64 p0.fSeq), .v (.i .i64 p0.fCommand.fKind), .v (.s p0.fCommand.fKey), .v (.s p0.fCommand.fField), .v (.s p0.fCommand.fText), .v (.i .i64 p0.fCommand.fN)]] [] = some (.v (.i .i64 r), [])
/-! ### rostrumref.ItemFault -/
noncomputable def rostrumref_ItemFault_c0 (p0 : GItem) : Option Int :=
  bif (p0.fCall.fClient == 0) then
    bif (p0.fCall.fSeq == 0) then
      bif (p0.fCall.fCommand.fKind == 0) then
        bif seqB p0.fCall.fCommand.fKey ByteArray.empty then
          bif seqB p0.fCall.fCommand.fField ByteArray.empty then
            bif seqB p0.fCall.fCommand.fText ByteArray.empty then
              bif (p0.fCall.fCommand.fN == 0) then
                some 0
              else
                some 8
            else
              some 8
          else
            some 8
        else
          some 8
      else
        some 8
    else
      some 8
  else
    some 8
noncomputable def rostrumref_ItemFault (p0 : GItem) : Option Int :=
  bif (rostrumref_numberMay_v p0.fTerm) then
    bif decide (0 ≤ p0.fTime) then
      bif decide (p0.fTime ≤ 1073741824) then
        bif p0.fNop then
          rostrumref_ItemFault_c0 p0
        else
          some (rostrumref_CallFault_v p0.fCall)
      else
        some 2
    else
      some 2
  else
    some 2
noncomputable def rostrumref_ItemFault_v_c0 (p0 : GItem) : Int :=
  bif (p0.fCall.fClient == 0) then
    bif (p0.fCall.fSeq == 0) then
      bif (p0.fCall.fCommand.fKind == 0) then
        bif seqB p0.fCall.fCommand.fKey ByteArray.empty then
          bif seqB p0.fCall.fCommand.fField ByteArray.empty then
            bif seqB p0.fCall.fCommand.fText ByteArray.empty then
              bif (p0.fCall.fCommand.fN == 0) then
                0
              else
                8
            else
              8
          else
            8
        else
          8
      else
        8
    else
      8
  else
    8
noncomputable def rostrumref_ItemFault_v (p0 : GItem) : Int :=
  bif (rostrumref_numberMay_v p0.fTerm) then
    bif decide (0 ≤ p0.fTime) then
      bif decide (p0.fTime ≤ 1073741824) then
        bif p0.fNop then
          rostrumref_ItemFault_v_c0 p0
        else
          (rostrumref_CallFault_v p0.fCall)
      else
        2
    else
      2
  else
    2
theorem rostrumref_ItemFault_c0_t (p0 : GItem) : rostrumref_ItemFault_c0 p0 = some (rostrumref_ItemFault_v_c0 p0) := by
  simp only [rostrumref_ItemFault_c0, rostrumref_ItemFault_v_c0, bif_some]
theorem rostrumref_ItemFault_t (p0 : GItem) : rostrumref_ItemFault p0 = some (rostrumref_ItemFault_v p0) := by
  simp only [rostrumref_ItemFault, rostrumref_ItemFault_v, rostrumref_ItemFault_c0_t, bif_some]
def K_rostrumref_ItemFault (C : Oracle) : Prop := ∀ (p0 : GItem) (r : Int), rostrumref_ItemFault p0 = some r → C 58 [.agg [.v (.i .i64 p0.fTerm), .v (.i .i64 p0.fTime), .v (.b p0.fNop), .v (.i .i64 p0.fCall.fClient), .v (.i .i64 p0.fCall.fSeq), .v (.i .i64 p0.fCall.fCommand.fKind), .v (.s p0.fCall.fCommand.fKey), .v (.s p0.fCall.fCommand.fField), .v (.s p0.fCall.fCommand.fText), .v (.i .i64 p0.fCall.fCommand.fN)]] [] = some (.v (.i .i64 r), [])
/-! ### rostrumref.eight -/
noncomputable def st_rostrumref_eight_0  (s : Int × (List Int) × Int) : Option ((Int × (List Int) × Int) ⊕ (Int × (List Int) × Int × Bool)) :=
  match s with
  | (p0, p1, p2) =>
    bif decide (0 ≤ p2) then
      bif ltB p2 (p1.length : Int) then
        (match idx p1 p2 with
        | none => none
        | some x1 =>
          some (.inl ((IntKind.i64.wrap (Int.tdiv p0 256)), (setL p1 p2 (IntKind.u8.wrap (Int.tmod p0 256))), (IntKind.i64.wrap (p2 - 1))))
        )
      else
        none
    else
      some (.inr (p0, p1, p2, decide (0 ≤ p2)))
noncomputable def rostrumref_eight (p0 : Int) : Option (List Int) :=
  (match loopM (st_rostrumref_eight_0) ((IntKind.i64.wrap (p0 + 4611686018427387904)), (List.replicate (8 : Int).toNat 0), 7) with
  | none => none
  | some (x1, x2, x3, x4) =>
    some x2
  )
def K_rostrumref_eight (C : Oracle) : Prop := ∀ (p0 : Int) (r : (List Int)), rostrumref_eight p0 = some r → C 106 [.v (.i .i64 p0)] [] = some (.own 1 (mapR rowB r), [])
/-! ### rostrumref.joined -/
noncomputable def st_rostrumref_joined_0 (p0 : List Int) (p1 : List Int) (s : (List Int) × Int) : Option (((List Int) × Int) ⊕ ((List Int) × Int × Bool)) :=
  match s with
  | (p2, p3) =>
    bif decide (p3 < (p0.length : Int)) then
      (match idx p0 p3 with
      | none => none
      | some x1 =>
        bif fitsB (p2.length + 1) 1 then
          some (.inl ((p2 ++ [x1]), (IntKind.i64.wrap (p3 + 1))))
        else
          none
      )
    else
      some (.inr (p2, p3, decide (p3 < (p0.length : Int))))
noncomputable def st_rostrumref_joined_2 (p0 : List Int) (s : (List Int) × Int) : Option (((List Int) × Int) ⊕ ((List Int) × Int × Bool)) :=
  match s with
  | (p1, p2) =>
    bif decide (p2 < (p0.length : Int)) then
      (match idx p0 p2 with
      | none => none
      | some x1 =>
        bif fitsB (p1.length + 1) 1 then
          some (.inl ((p1 ++ [x1]), (IntKind.i64.wrap (p2 + 1))))
        else
          none
      )
    else
      some (.inr (p1, p2, decide (p2 < (p0.length : Int))))
noncomputable def rostrumref_joined (p0 : List Int) (p1 : List Int) : Option (List Int) :=
  (match loopM (st_rostrumref_joined_0 p0 p1) ([], 0) with
  | none => none
  | some (x1, x2, x3) =>
    (match loopM (st_rostrumref_joined_2 p1) (x1, 0) with
    | none => none
    | some (x4, x5, x6) =>
      some x4
    )
  )
def K_rostrumref_joined (C : Oracle) : Prop := ∀ (p0 : List Int) (p1 : List Int) (r : (List Int)), rostrumref_joined p0 p1 = some r → C 105 [.v (.sl 1 (mapR rowB p0)), .v (.sl 1 (mapR rowB p1))] [] = some (.own 1 (mapR rowB r), [])
/-! ### rostrumref.textBytes -/
noncomputable def rostrumref_textBytes (p0 : ByteArray) : Option (List Int) :=
  (match rostrumref_joined [(IntKind.u8.wrap (p0.size : Int))] (byL p0) with
  | none => none
  | some x1 =>
    some x1
  )
def K_rostrumref_textBytes (C : Oracle) : Prop := ∀ (p0 : ByteArray) (r : (List Int)), rostrumref_textBytes p0 = some r → C 107 [.v (.s p0)] [] = some (.own 1 (mapR rowB r), [])
/-! ### rostrumref.itemBytes -/
noncomputable def rostrumref_itemBytes_c0 (p0 : GItem) (x1 : List Int) (x2 : List Int) (x3 : List Int) (x4 : List Int) (x5 : List Int) (x6 : List Int) (x7 : List Int) (x8 : List Int) : Option (List Int) :=
  (match rostrumref_joined (x7 ++ [(IntKind.u8.wrap p0.fCall.fCommand.fKind)]) x8 with
  | none => none
  | some x9 =>
    (match rostrumref_textBytes p0.fCall.fCommand.fField with
    | none => none
    | some x10 =>
      (match rostrumref_joined x9 x10 with
      | none => none
      | some x11 =>
        (match rostrumref_textBytes p0.fCall.fCommand.fText with
        | none => none
        | some x12 =>
          (match rostrumref_joined x11 x12 with
          | none => none
          | some x13 =>
            (match rostrumref_eight p0.fCall.fCommand.fN with
            | none => none
            | some x14 =>
              (match rostrumref_joined x13 x14 with
              | none => none
              | some x15 =>
                some x15
              )
            )
          )
        )
      )
    )
  )
noncomputable def rostrumref_itemBytes_c1 (p0 : GItem) (x1 : List Int) (x2 : List Int) (x3 : List Int) : Option (List Int) :=
  (match rostrumref_eight p0.fCall.fClient with
  | none => none
  | some x4 =>
    (match rostrumref_joined (x3 ++ [0]) x4 with
    | none => none
    | some x5 =>
      bif (p0.fCall.fClient == 0) then
        some x5
      else
        (match rostrumref_eight p0.fCall.fSeq with
        | none => none
        | some x6 =>
          (match rostrumref_joined x5 x6 with
          | none => none
          | some x7 =>
            bif fitsB (x7.length + 1) 1 then
              (match rostrumref_textBytes p0.fCall.fCommand.fKey with
              | none => none
              | some x8 =>
                rostrumref_itemBytes_c0 p0 x1 x2 x3 x4 x5 x6 x7 x8
              )
            else
              none
          )
        )
    )
  )
noncomputable def rostrumref_itemBytes (p0 : GItem) : Option (List Int) :=
  (match rostrumref_eight p0.fTerm with
  | none => none
  | some x1 =>
    (match rostrumref_eight p0.fTime with
    | none => none
    | some x2 =>
      (match rostrumref_joined x1 x2 with
      | none => none
      | some x3 =>
        bif p0.fNop then
          bif fitsB (x3.length + 1) 1 then
            some (x3 ++ [1])
          else
            none
        else
          bif fitsB (x3.length + 1) 1 then
            rostrumref_itemBytes_c1 p0 x1 x2 x3
          else
            none
      )
    )
  )
def K_rostrumref_itemBytes (C : Oracle) : Prop := ∀ (p0 : GItem) (r : (List Int)), rostrumref_itemBytes p0 = some r → C 59 [.agg [.v (.i .i64 p0.fTerm), .v (.i .i64 p0.fTime), .v (.b p0.fNop), .v (.i .i64 p0.fCall.fClient), .v (.i .i64 p0.fCall.fSeq), .v (.i .i64 p0.fCall.fCommand.fKind), .v (.s p0.fCall.fCommand.fKey), .v (.s p0.fCall.fCommand.fField), .v (.s p0.fCall.fCommand.fText), .v (.i .i64 p0.fCall.fCommand.fN)]] [] = some (.own 1 (mapR rowB r), [])
/-! ### rostrumref.ItemBytes -/
noncomputable def rostrumref_ItemBytes (p0 : GItem) : Option ((List Int) × Int) :=
  bif ((rostrumref_ItemFault_v p0) == 0) then
    (match rostrumref_itemBytes p0 with
    | none => none
    | some x1 =>
      some (x1, 0)
    )
  else
    some ([], (rostrumref_ItemFault_v p0))
def K_rostrumref_ItemBytes (C : Oracle) : Prop := ∀ (p0 : GItem) (r : (List Int) × Int), rostrumref_ItemBytes p0 = some r → C 21 [.agg [.v (.i .i64 p0.fTerm), .v (.i .i64 p0.fTime), .v (.b p0.fNop), .v (.i .i64 p0.fCall.fClient), .v (.i .i64 p0.fCall.fSeq), .v (.i .i64 p0.fCall.fCommand.fKind), .v (.s p0.fCall.fCommand.fKey), .v (.s p0.fCall.fCommand.fField), .v (.s p0.fCall.fCommand.fText), .v (.i .i64 p0.fCall.fCommand.fN)]] [] = some (.tup [.v (.sl 1 (mapR rowB r.1)), .v (.i .i64 r.2)], [])
/-! ### rostrumlaw.WireItemBytes -/
noncomputable def rostrumlaw_WireItemBytes (p0 : GItem) : Option Bool :=
  (match wire_EncodeItem p0 with
  | none => none
  | some (x1, x2) =>
    (match rostrumref_ItemBytes p0 with
    | none => none
    | some (x3, x4) =>
      bif (x2 == x4) then
        bif allB x1 then
          bif allB x3 then
            some (seqB (strL x1) (strL x3))
          else
            none
        else
          none
      else
        some false
    )
  )
def K_rostrumlaw_WireItemBytes (C : Oracle) : Prop := ∀ (p0 : GItem) (r : Bool), rostrumlaw_WireItemBytes p0 = some r → C 5 [.agg [.v (.i .i64 p0.fTerm), .v (.i .i64 p0.fTime), .v (.b p0.fNop), .v (.i .i64 p0.fCall.fClient), .v (.i .i64 p0.fCall.fSeq), .v (.i .i64 p0.fCall.fCommand.fKind), .v (.s p0.fCall.fCommand.fKey), .v (.s p0.fCall.fCommand.fField), .v (.s p0.fCall.fCommand.fText), .v (.i .i64 p0.fCall.fCommand.fN)]] [] = some (.v (.b r), [])
end Go.Proofs.Ytnjkmbogbfjffaa
