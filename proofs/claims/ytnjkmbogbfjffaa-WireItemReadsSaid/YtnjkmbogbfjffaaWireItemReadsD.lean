/- What the functions that the law WireItemReads reaches compute, as plain functions; no condition. -/
import Derived.Test.YtnjkmbogbfjffaaWTy
set_option linter.unusedSimpArgs false
set_option linter.unusedVariables false
set_option linter.constructorNameAsVariable false
set_option linter.unnecessarySimpa false
namespace Go.Proofs.Ytnjkmbogbfjffaa
open Go Go.Mx Go.Proofs
/-! ### rostrumlaw.octets -/
noncomputable def rostrumlaw_octets_z (p0 : List Int) : Option (List Int) :=
  bif cH p0.length 1 then
    some p0
  else
    none
def K_rostrumlaw_octets_z (C : ak) : Prop := ∀ (p0 : List Int) (r : (List Int)), rostrumlaw_octets_z p0 = some r → C 38 [.v (.sl 1 (ab bA p0))] [] = some (.v (.sl 1 (ab bA r)), [])
/-! ### (*wire.reader).take -/
noncomputable def wire_reader_take (p0 : Int) (p1 : Greader) : Option ((List Int) × Greader) :=
  bif p1.fshort then
    some ([], (Greader.mk p1.frest true))
  else
    bif decide ((p1.frest.length : Int) < p0) then
      some ([], (Greader.mk p1.frest true))
    else
      bif rngB 0 p0 (p1.frest.length : Int) then
        bif rngB p0 (p1.frest.length : Int) (p1.frest.length : Int) then
          some ((cI p1.frest 0 p0), (Greader.mk (cI p1.frest p0 (p1.frest.length : Int)) false))
        else
          none
      else
        none
def K_wire_reader_take (C : ak) : Prop := ∀ (p0 : Int) (p1 : Greader) (r : (List Int) × Greader), wire_reader_take p0 p1 = some r → C 133 [.ptr 0 0, .v (.i .i64 p0)] [[.v (.sl 1 (ab bA p1.frest)), .v (.b p1.fshort)]] = some (.v (.sl 1 (ab bA r.1)), [[.v (.sl 1 (ab bA r.2.frest)), .v (.b r.2.fshort)]])
/-! ### (*wire.reader).number -/
noncomputable def st_wire_reader_number_0 (p1 : List Int) (p2 : Int) (p4 : Greader) (s : Int × Int) : Option ((Int × Int) ⊕ Int) :=
  match s with
  | (p0, p3) =>
    bif decide (p3 < p2) then
      (match idx p1 p3 with
      | none => none
      | some x1 =>
        some (.inl ((IntKind.u64.wrap (BitVec.ofInt IntKind.u64.bits (IntKind.u64.wrap (p0 * 2 ^ (min (8 : Int).toNat IntKind.u64.bits))) ||| BitVec.ofInt IntKind.u64.bits (IntKind.u64.wrap x1)).toNat), (IntKind.i64.wrap (p3 + 1))))
      )
    else
      some (.inr p0)
noncomputable def wire_reader_number (p0 : Greader) : Option (Int × Greader) :=
  (match wire_reader_take 8 p0 with
  | none => none
  | some (x1, x2) =>
    (match ci (st_wire_reader_number_0 x1 (x1.length : Int) x2) (0, 0) with
    | none => none
    | some x3 =>
      some ((IntKind.i64.wrap (IntKind.u64.wrap (x3 - 4611686018427387904))), x2)
    )
  )
def K_wire_reader_number (C : ak) : Prop := ∀ (p0 : Greader) (r : Int × Greader), wire_reader_number p0 = some r → C 115 [.ptr 0 0] [[.v (.sl 1 (ab bA p0.frest)), .v (.b p0.fshort)]] = some (.v (.i .i64 r.1), [[.v (.sl 1 (ab bA r.2.frest)), .v (.b r.2.fshort)]])
/-! ### (*wire.reader).small -/
noncomputable def st_wire_reader_small_0 (p0 : List Int) (p1 : Int) (p2 : Greader) (s : Unit) : Option (Unit ⊕ (Int ⊕ Unit)) :=
  match s with
  | _ =>
    bif decide (0 < p1) then
      (match idx p0 0 with
      | none => none
      | some x1 =>
        some (.inr (.inl (IntKind.i64.wrap x1)))
      )
    else
      some (.inr (.inr ()))
noncomputable def wire_reader_small (p0 : Greader) : Option (Int × Greader) :=
  (match wire_reader_take 1 p0 with
  | none => none
  | some (x1, x2) =>
    (match ci (st_wire_reader_small_0 x1 (x1.length : Int) x2) () with
    | none => none
    | some (.inl x3) =>
      some (x3, x2)
    | some (.inr _) =>
      some (0, x2)
    )
  )
def K_wire_reader_small (C : ak) : Prop := ∀ (p0 : Greader) (r : Int × Greader), wire_reader_small p0 = some r → C 116 [.ptr 0 0] [[.v (.sl 1 (ab bA p0.frest)), .v (.b p0.fshort)]] = some (.v (.i .i64 r.1), [[.v (.sl 1 (ab bA r.2.frest)), .v (.b r.2.fshort)]])
/-! ### (*wire.reader).text -/
noncomputable def wire_reader_text (p0 : Greader) : Option (ByteArray × Greader) :=
  (match wire_reader_small p0 with
  | none => none
  | some (x1, x2) =>
    (match wire_reader_take x1 x2 with
    | none => none
    | some (x3, x4) =>
      bif allB x3 then
        some ((strL x3), x4)
      else
        none
    )
  )
def K_wire_reader_text (C : ak) : Prop := ∀ (p0 : Greader) (r : ByteArray × Greader), wire_reader_text p0 = some r → C 135 [.ptr 0 0] [[.v (.sl 1 (ab bA p0.frest)), .v (.b p0.fshort)]] = some (.v (.s r.1), [[.v (.sl 1 (ab bA r.2.frest)), .v (.b r.2.fshort)]])
/-! ### (*wire.reader).command -/
noncomputable def wire_reader_command (p0 : Greader) : Option (GCommand × Greader) :=
  (match wire_reader_small p0 with
  | none => none
  | some (x1, x2) =>
    (match wire_reader_text x2 with
    | none => none
    | some (x3, x4) =>
      (match wire_reader_text x4 with
      | none => none
      | some (x5, x6) =>
        (match wire_reader_text x6 with
        | none => none
        | some (x7, x8) =>
          (match wire_reader_number x8 with
          | none => none
          | some (x9, x10) =>
            some ((GCommand.mk x1 x3 x5 x7 x9), x10)
          )
        )
      )
    )
  )
def K_wire_reader_command (C : ak) : Prop := ∀ (p0 : Greader) (r : GCommand × Greader), wire_reader_command p0 = some r → C 134 [.ptr 0 0] [[.v (.sl 1 (ab bA p0.frest)), .v (.b p0.fshort)]] = some (.agg [.v (.i .i64 r.1.fKind), .v (.s r.1.fKey), .v (.s r.1.fField), .v (.s r.1.fText), .v (.i .i64 r.1.fN)], [[.v (.sl 1 (ab bA r.2.frest)), .v (.b r.2.fshort)]])
/-! ### (*wire.reader).call -/
noncomputable def ck_wire_reader_call_q9 (p0 : Bool) (p1 : Greader) (p2 : Int) : Option (Greader × GCall) :=
  bif p0 then
    (match wire_reader_number p1 with
    | none => none
    | some (x1, x2) =>
      (match wire_reader_command x2 with
      | none => none
      | some (x3, x4) =>
        some (x4, (GCall.mk p2 x1 x3))
      )
    )
  else
    some (p1, (GCall.mk p2 0 (GCommand.mk 0 ByteArray.empty ByteArray.empty ByteArray.empty 0)))
noncomputable def wire_reader_call (p0 : Greader) : Option (GCall × Greader) :=
  (match wire_reader_number p0 with
  | none => none
  | some (x1, x2) =>
    (match ck_wire_reader_call_q9 (!(x1 == 0)) x2 x1 with
    | none => none
    | some (x3, x4) =>
      some (x4, x3)
    )
  )
def K_wire_reader_call (C : ak) : Prop := ∀ (p0 : Greader) (r : GCall × Greader), wire_reader_call p0 = some r → C 117 [.ptr 0 0] [[.v (.sl 1 (ab bA p0.frest)), .v (.b p0.fshort)]] = some (.agg [.v (.i .i64 r.1.fClient), .v (.i .i64 r.1.fSeq), .v (.i .i64 r.1.fCommand.fKind), .v (.s r.1.fCommand.fKey), .v (.s r.1.fCommand.fField), .v (.s r.1.fCommand.fText), .v (.i .i64 r.1.fCommand.fN)], [[.v (.sl 1 (ab bA r.2.frest)), .v (.b r.2.fshort)]])
/-! ### (*wire.reader).item -/
noncomputable def wire_reader_item (p0 : Greader) : Option (GItem × Bool × Greader) :=
  (match wire_reader_number p0 with
  | none => none
  | some (x1, x2) =>
    (match wire_reader_number x2 with
    | none => none
    | some (x3, x4) =>
      (match wire_reader_small x4 with
      | none => none
      | some (x5, x6) =>
        bif (x5 == 0) then
          (match wire_reader_call x6 with
          | none => none
          | some (x7, x8) =>
            some ((GItem.mk x1 x3 false x7), true, x8)
          )
        else
          bif (x5 == 1) then
            some ((GItem.mk x1 x3 true (GCall.mk 0 0 (GCommand.mk 0 ByteArray.empty ByteArray.empty ByteArray.empty 0))), true, x6)
          else
            some ((GItem.mk x1 x3 false (GCall.mk 0 0 (GCommand.mk 0 ByteArray.empty ByteArray.empty ByteArray.empty 0))), false, x6)
      )
    )
  )
def K_wire_reader_item (C : ak) : Prop := ∀ (p0 : Greader) (r : GItem × Bool × Greader), wire_reader_item p0 = some r → C 85 [.ptr 0 0] [[.v (.sl 1 (ab bA p0.frest)), .v (.b p0.fshort)]] = some (.tup [.agg [.v (.i .i64 r.1.fTerm), .v (.i .i64 r.1.fTime), .v (.b r.1.fNop), .v (.i .i64 r.1.fCall.fClient), .v (.i .i64 r.1.fCall.fSeq), .v (.i .i64 r.1.fCall.fCommand.fKind), .v (.s r.1.fCall.fCommand.fKey), .v (.s r.1.fCall.fCommand.fField), .v (.s r.1.fCall.fCommand.fText), .v (.i .i64 r.1.fCall.fCommand.fN)], .v (.b r.2.1)], [[.v (.sl 1 (ab bA r.2.2.frest)), .v (.b r.2.2.fshort)]])
/-! ### (*wire.reader).end -/
noncomputable def wire_reader_end (p0 : Bool) (p1 : Greader) : Option (Int × Greader) :=
  bif p1.fshort then
    some (9, p1)
  else
    bif p0 then
      bif decide (0 < (p1.frest.length : Int)) then
        some (8, (Greader.mk p1.frest false))
      else
        some (0, (Greader.mk p1.frest false))
    else
      some (8, (Greader.mk p1.frest false))
def K_wire_reader_end (C : ak) : Prop := ∀ (p0 : Bool) (p1 : Greader) (r : Int × Greader), wire_reader_end p0 p1 = some r → C 86 [.ptr 0 0, .v (.b p0)] [[.v (.sl 1 (ab bA p1.frest)), .v (.b p1.fshort)]] = some (.v (.i .i64 r.1), [[.v (.sl 1 (ab bA r.2.frest)), .v (.b r.2.fshort)]])
/-! ### client.number -/
noncomputable def client_number (p0 : Int) : Option Bool :=
  bif decide (1 ≤ p0) then
    some (decide (p0 ≤ 1048576))
  else
    some false
noncomputable def client_number_v (p0 : Int) : Bool := (decide (1 ≤ p0) && decide (p0 ≤ 1048576))
theorem client_number_t (p0 : Int) : client_number p0 = some (client_number_v p0) := by
  simp only [client_number, client_number_v]
  cases decide (1 ≤ p0) <;> rfl
def K_client_number (C : ak) : Prop := ∀ (p0 : Int) (r : Bool), client_number p0 = some r → C 127 [.v (.i .i64 p0)] [] = some (.v (.b r), [])
/-! ### value.field -/
noncomputable def value_field (p0 : ByteArray) : Option Bool :=
  bif decide (1 ≤ (p0.size : Int)) then
    some (decide ((p0.size : Int) ≤ 12))
  else
    some false
noncomputable def value_field_v (p0 : ByteArray) : Bool := (decide (1 ≤ (p0.size : Int)) && decide ((p0.size : Int) ≤ 12))
theorem value_field_t (p0 : ByteArray) : value_field p0 = some (value_field_v p0) := by
  simp only [value_field, value_field_v]
  cases decide (1 ≤ (p0.size : Int)) <;> rfl
def K_value_field (C : ak) : Prop := ∀ (p0 : ByteArray) (r : Bool), value_field p0 = some r → C 67 [.v (.s p0)] [] = some (.v (.b r), [])
/-! ### value.text -/
noncomputable def value_text (p0 : ByteArray) : Option Bool :=
  some (decide ((p0.size : Int) ≤ 20))
noncomputable def value_text_v (p0 : ByteArray) : Bool := decide ((p0.size : Int) ≤ 20)
theorem value_text_t (p0 : ByteArray) : value_text p0 = some (value_text_v p0) := by
  simp only [value_text, value_text_v]
def K_value_text (C : ak) : Prop := ∀ (p0 : ByteArray) (r : Bool), value_text p0 = some r → C 62 [.v (.s p0)] [] = some (.v (.b r), [])
/-! ### value.count -/
noncomputable def value_count (p0 : Int) : Option Bool :=
  bif decide ((-1099511627776) ≤ p0) then
    some (decide (p0 ≤ 1099511627776))
  else
    some false
noncomputable def value_count_v (p0 : Int) : Bool := (decide ((-1099511627776) ≤ p0) && decide (p0 ≤ 1099511627776))
theorem value_count_t (p0 : Int) : value_count p0 = some (value_count_v p0) := by
  simp only [value_count, value_count_v]
  cases decide ((-1099511627776) ≤ p0) <;> rfl
def K_value_count (C : ak) : Prop := ∀ (p0 : Int) (r : Bool), value_count p0 = some r → C 70 [.v (.i .i64 p0)] [] = some (.v (.b r), [])
/-! ### value.CheckCommand -/
noncomputable def ck_value_CheckCommand_q59 (p0 : GCommand) (p1 : Bool) (p2 : Int) (p3 : ByteArray) : Option GCommand :=
  bif p1 then
    some (GCommand.mk p2 ByteArray.empty ByteArray.empty ByteArray.empty 0)
  else
    some (GCommand.mk p2 p3 ByteArray.empty ByteArray.empty 0)
noncomputable def ck_value_CheckCommand_q59_v (p0 : GCommand) (p1 : Bool) (p2 : Int) (p3 : ByteArray) : GCommand :=
  bif p1 then
    (GCommand.mk p2 ByteArray.empty ByteArray.empty ByteArray.empty 0)
  else
    (GCommand.mk p2 p3 ByteArray.empty ByteArray.empty 0)
theorem ck_value_CheckCommand_q59_t (p0 : GCommand) (p1 : Bool) (p2 : Int) (p3 : ByteArray) : ck_value_CheckCommand_q59 p0 p1 p2 p3 = some (ck_value_CheckCommand_q59_v p0 p1 p2 p3) := by
  simp only [ck_value_CheckCommand_q59, ck_value_CheckCommand_q59_v, cx]
noncomputable def ck_value_CheckCommand_q51 (p0 : GCommand) (p1 : Int) (p2 : Bool) (p3 : ByteArray) : Option GCommand :=
  bif p2 then
    some (GCommand.mk p1 p3 ByteArray.empty p0.fText p0.fN)
  else
    some (ck_value_CheckCommand_q59_v p0 (p1 == 22) p1 p3)
noncomputable def ck_value_CheckCommand_q51_v (p0 : GCommand) (p1 : Int) (p2 : Bool) (p3 : ByteArray) : GCommand :=
  bif p2 then
    (GCommand.mk p1 p3 ByteArray.empty p0.fText p0.fN)
  else
    (ck_value_CheckCommand_q59_v p0 (p1 == 22) p1 p3)
theorem ck_value_CheckCommand_q51_t (p0 : GCommand) (p1 : Int) (p2 : Bool) (p3 : ByteArray) : ck_value_CheckCommand_q51 p0 p1 p2 p3 = some (ck_value_CheckCommand_q51_v p0 p1 p2 p3) := by
  simp only [ck_value_CheckCommand_q51, ck_value_CheckCommand_q51_v, cx]
noncomputable def ck_value_CheckCommand_q37 (p0 : GCommand) (p1 : Int) (p2 : Bool) (p3 : ByteArray) : Option GCommand :=
  bif p2 then
    some (GCommand.mk p1 p3 p0.fField p0.fText 0)
  else
    bif (p1 == 5) then
      some (GCommand.mk p1 p3 p0.fField ByteArray.empty 0)
    else
      bif (p1 == 6) then
        some (GCommand.mk p1 p3 p0.fField ByteArray.empty 0)
      else
        some (ck_value_CheckCommand_q51_v p0 p1 (p1 == 14) p3)
noncomputable def ck_value_CheckCommand_q37_v (p0 : GCommand) (p1 : Int) (p2 : Bool) (p3 : ByteArray) : GCommand :=
  bif p2 then
    (GCommand.mk p1 p3 p0.fField p0.fText 0)
  else
    bif (p1 == 5) then
      (GCommand.mk p1 p3 p0.fField ByteArray.empty 0)
    else
      bif (p1 == 6) then
        (GCommand.mk p1 p3 p0.fField ByteArray.empty 0)
      else
        (ck_value_CheckCommand_q51_v p0 p1 (p1 == 14) p3)
theorem ck_value_CheckCommand_q37_t (p0 : GCommand) (p1 : Int) (p2 : Bool) (p3 : ByteArray) : ck_value_CheckCommand_q37 p0 p1 p2 p3 = some (ck_value_CheckCommand_q37_v p0 p1 p2 p3) := by
  simp only [ck_value_CheckCommand_q37, ck_value_CheckCommand_q37_v, cx]
noncomputable def ck_value_CheckCommand_w0_c0 (p0 : GCommand) (p1 : Int) (p2 : ByteArray) : Option GCommand :=
  bif (p1 == 11) then
    some (GCommand.mk p1 p2 ByteArray.empty p0.fText 0)
  else
    bif (p1 == 12) then
      some (GCommand.mk p1 p2 ByteArray.empty p0.fText 0)
    else
      bif (p1 == 13) then
        some (GCommand.mk p1 p2 ByteArray.empty p0.fText 0)
      else
        bif (p1 == 15) then
          some (GCommand.mk p1 p2 ByteArray.empty p0.fText 0)
        else
          bif (p1 == 16) then
            some (GCommand.mk p1 p2 ByteArray.empty p0.fText 0)
          else
            bif (p1 == 3) then
              some (GCommand.mk p1 p2 ByteArray.empty ByteArray.empty p0.fN)
            else
              bif (p1 == 20) then
                some (GCommand.mk p1 p2 ByteArray.empty ByteArray.empty p0.fN)
              else
                some (ck_value_CheckCommand_q37_v p0 p1 (p1 == 4) p2)
noncomputable def ck_value_CheckCommand_w0 (p0 : GCommand) (p1 : Int) (p2 : ByteArray) : Option GCommand :=
  bif (p1 == 1) then
    some (GCommand.mk p1 p2 ByteArray.empty p0.fText 0)
  else
    bif (p1 == 7) then
      some (GCommand.mk p1 p2 ByteArray.empty p0.fText 0)
    else
      bif (p1 == 8) then
        some (GCommand.mk p1 p2 ByteArray.empty p0.fText 0)
      else
        ck_value_CheckCommand_w0_c0 p0 p1 p2
noncomputable def ck_value_CheckCommand_w0_v_c0 (p0 : GCommand) (p1 : Int) (p2 : ByteArray) : GCommand :=
  bif (p1 == 11) then
    (GCommand.mk p1 p2 ByteArray.empty p0.fText 0)
  else
    bif (p1 == 12) then
      (GCommand.mk p1 p2 ByteArray.empty p0.fText 0)
    else
      bif (p1 == 13) then
        (GCommand.mk p1 p2 ByteArray.empty p0.fText 0)
      else
        bif (p1 == 15) then
          (GCommand.mk p1 p2 ByteArray.empty p0.fText 0)
        else
          bif (p1 == 16) then
            (GCommand.mk p1 p2 ByteArray.empty p0.fText 0)
          else
            bif (p1 == 3) then
              (GCommand.mk p1 p2 ByteArray.empty ByteArray.empty p0.fN)
            else
              bif (p1 == 20) then
                (GCommand.mk p1 p2 ByteArray.empty ByteArray.empty p0.fN)
              else
                (ck_value_CheckCommand_q37_v p0 p1 (p1 == 4) p2)
noncomputable def ck_value_CheckCommand_w0_v (p0 : GCommand) (p1 : Int) (p2 : ByteArray) : GCommand :=
  bif (p1 == 1) then
    (GCommand.mk p1 p2 ByteArray.empty p0.fText 0)
  else
    bif (p1 == 7) then
      (GCommand.mk p1 p2 ByteArray.empty p0.fText 0)
    else
      bif (p1 == 8) then
        (GCommand.mk p1 p2 ByteArray.empty p0.fText 0)
      else
        ck_value_CheckCommand_w0_v_c0 p0 p1 p2
theorem ck_value_CheckCommand_w0_c0_t (p0 : GCommand) (p1 : Int) (p2 : ByteArray) : ck_value_CheckCommand_w0_c0 p0 p1 p2 = some (ck_value_CheckCommand_w0_v_c0 p0 p1 p2) := by
  simp only [ck_value_CheckCommand_w0_c0, ck_value_CheckCommand_w0_v_c0, cx]
theorem ck_value_CheckCommand_w0_t (p0 : GCommand) (p1 : Int) (p2 : ByteArray) : ck_value_CheckCommand_w0 p0 p1 p2 = some (ck_value_CheckCommand_w0_v p0 p1 p2) := by
  simp only [ck_value_CheckCommand_w0, ck_value_CheckCommand_w0_v, ck_value_CheckCommand_w0_c0_t, cx]
noncomputable def ck_value_CheckCommand_k28_c0 (p0 : GCommand) (p1 : GCommand) : Option Bool :=
  bif (value_field_v p0.fKey) then
    bif decide (4 ≤ p0.fKind) then
      bif decide (p0.fKind ≤ 6) then
        bif (value_field_v p0.fField) then
          some (!(value_text_v p0.fText))
        else
          some true
      else
        some (!(value_text_v p0.fText))
    else
      some (!(value_text_v p0.fText))
  else
    some true
noncomputable def ck_value_CheckCommand_k28 (p0 : GCommand) (p1 : GCommand) : Option Bool :=
  bif (p0.fKind == 22) then
    bif decide (4 ≤ p0.fKind) then
      bif decide (p0.fKind ≤ 6) then
        bif (value_field_v p0.fField) then
          some (!(value_text_v p0.fText))
        else
          some true
      else
        some (!(value_text_v p0.fText))
    else
      some (!(value_text_v p0.fText))
  else
    ck_value_CheckCommand_k28_c0 p0 p1
noncomputable def ck_value_CheckCommand_k28_v_c0 (p0 : GCommand) (p1 : GCommand) : Bool :=
  bif (value_field_v p0.fKey) then
    bif decide (4 ≤ p0.fKind) then
      bif decide (p0.fKind ≤ 6) then
        bif (value_field_v p0.fField) then
          (!(value_text_v p0.fText))
        else
          true
      else
        (!(value_text_v p0.fText))
    else
      (!(value_text_v p0.fText))
  else
    true
noncomputable def ck_value_CheckCommand_k28_v (p0 : GCommand) (p1 : GCommand) : Bool :=
  bif (p0.fKind == 22) then
    bif decide (4 ≤ p0.fKind) then
      bif decide (p0.fKind ≤ 6) then
        bif (value_field_v p0.fField) then
          (!(value_text_v p0.fText))
        else
          true
      else
        (!(value_text_v p0.fText))
    else
      (!(value_text_v p0.fText))
  else
    ck_value_CheckCommand_k28_v_c0 p0 p1
theorem ck_value_CheckCommand_k28_c0_t (p0 : GCommand) (p1 : GCommand) : ck_value_CheckCommand_k28_c0 p0 p1 = some (ck_value_CheckCommand_k28_v_c0 p0 p1) := by
  simp only [ck_value_CheckCommand_k28_c0, ck_value_CheckCommand_k28_v_c0, cx]
theorem ck_value_CheckCommand_k28_t (p0 : GCommand) (p1 : GCommand) : ck_value_CheckCommand_k28 p0 p1 = some (ck_value_CheckCommand_k28_v p0 p1) := by
  simp only [ck_value_CheckCommand_k28, ck_value_CheckCommand_k28_v, ck_value_CheckCommand_k28_c0_t, cx]
noncomputable def value_CheckCommand_c0 (p0 : GCommand) : Option Int :=
  bif (p0.fKind == (ck_value_CheckCommand_w0_v p0 p0.fKind p0.fKey).fKind) then
    bif cJ p0.fKey ((ck_value_CheckCommand_w0_v p0 p0.fKind p0.fKey).fKey) then
      bif cJ p0.fField ((ck_value_CheckCommand_w0_v p0 p0.fKind p0.fKey).fField) then
        bif cJ p0.fText ((ck_value_CheckCommand_w0_v p0 p0.fKind p0.fKey).fText) then
          bif (p0.fN == (ck_value_CheckCommand_w0_v p0 p0.fKind p0.fKey).fN) then
            bif (ck_value_CheckCommand_k28_v p0 (ck_value_CheckCommand_w0_v p0 p0.fKind p0.fKey)) then
              some 1
            else
              bif (value_count_v p0.fN) then
                some 0
              else
                some 2
          else
            some 8
        else
          some 8
      else
        some 8
    else
      some 8
  else
    some 8
noncomputable def value_CheckCommand (p0 : GCommand) : Option Int :=
  bif decide (p0.fKind < 1) then
    some 3
  else
    bif decide (22 < p0.fKind) then
      some 3
    else
      value_CheckCommand_c0 p0
noncomputable def value_CheckCommand_v_c0 (p0 : GCommand) : Int :=
  bif (p0.fKind == (ck_value_CheckCommand_w0_v p0 p0.fKind p0.fKey).fKind) then
    bif cJ p0.fKey ((ck_value_CheckCommand_w0_v p0 p0.fKind p0.fKey).fKey) then
      bif cJ p0.fField ((ck_value_CheckCommand_w0_v p0 p0.fKind p0.fKey).fField) then
        bif cJ p0.fText ((ck_value_CheckCommand_w0_v p0 p0.fKind p0.fKey).fText) then
          bif (p0.fN == (ck_value_CheckCommand_w0_v p0 p0.fKind p0.fKey).fN) then
            bif (ck_value_CheckCommand_k28_v p0 (ck_value_CheckCommand_w0_v p0 p0.fKind p0.fKey)) then
              1
            else
              bif (value_count_v p0.fN) then
                0
              else
                2
          else
            8
        else
          8
      else
        8
    else
      8
  else
    8
noncomputable def value_CheckCommand_v (p0 : GCommand) : Int :=
  bif decide (p0.fKind < 1) then
    3
  else
    bif decide (22 < p0.fKind) then
      3
    else
      value_CheckCommand_v_c0 p0
theorem value_CheckCommand_c0_t (p0 : GCommand) : value_CheckCommand_c0 p0 = some (value_CheckCommand_v_c0 p0) := by
  simp only [value_CheckCommand_c0, value_CheckCommand_v_c0, cx]
theorem value_CheckCommand_t (p0 : GCommand) : value_CheckCommand p0 = some (value_CheckCommand_v p0) := by
  simp only [value_CheckCommand, value_CheckCommand_v, value_CheckCommand_c0_t, cx]
def K_value_CheckCommand (C : ak) : Prop := ∀ (p0 : GCommand) (r : Int), value_CheckCommand p0 = some r → C 128 [.agg [.v (.i .i64 p0.fKind), .v (.s p0.fKey), .v (.s p0.fField), .v (.s p0.fText), .v (.i .i64 p0.fN)]] [] = some (.v (.i .i64 r), [])
/-! ### client.CheckCall -/
noncomputable def client_CheckCall_c0 (p0 : GCall) : Option Int :=
  bif (p0.fSeq == 0) then
    bif (p0.fCommand.fKind == 0) then
      bif cJ p0.fCommand.fKey ByteArray.empty then
        bif cJ p0.fCommand.fField ByteArray.empty then
          bif cJ p0.fCommand.fText ByteArray.empty then
            bif (p0.fCommand.fN == 0) then
              some 0
            else
              some 8
          else
            some 8
        else
          some 8
      else
        some 8
    else
      some 8
  else
    some 8
noncomputable def client_CheckCall (p0 : GCall) : Option Int :=
  bif (p0.fClient == 0) then
    client_CheckCall_c0 p0
  else
    bif (client_number_v p0.fClient) then
      bif (client_number_v p0.fSeq) then
        some (value_CheckCommand_v p0.fCommand)
      else
        some 2
    else
      some 2
noncomputable def client_CheckCall_v_c0 (p0 : GCall) : Int :=
  bif (p0.fSeq == 0) then
    bif (p0.fCommand.fKind == 0) then
      bif cJ p0.fCommand.fKey ByteArray.empty then
        bif cJ p0.fCommand.fField ByteArray.empty then
          bif cJ p0.fCommand.fText ByteArray.empty then
            bif (p0.fCommand.fN == 0) then
              0
            else
              8
          else
            8
        else
          8
      else
        8
    else
      8
  else
    8
noncomputable def client_CheckCall_v (p0 : GCall) : Int :=
  bif (p0.fClient == 0) then
    client_CheckCall_v_c0 p0
  else
    bif (client_number_v p0.fClient) then
      bif (client_number_v p0.fSeq) then
        (value_CheckCommand_v p0.fCommand)
      else
        2
    else
      2
theorem client_CheckCall_c0_t (p0 : GCall) : client_CheckCall_c0 p0 = some (client_CheckCall_v_c0 p0) := by
  simp only [client_CheckCall_c0, client_CheckCall_v_c0, cx]
theorem client_CheckCall_t (p0 : GCall) : client_CheckCall p0 = some (client_CheckCall_v p0) := by
  simp only [client_CheckCall, client_CheckCall_v, client_CheckCall_c0_t, cx]
def K_client_CheckCall (C : ak) : Prop := ∀ (p0 : GCall) (r : Int), client_CheckCall p0 = some r → C 102 [.agg [.v (.i .i64 p0.fClient), .v (.i .i64 p0.fSeq), .v (.i .i64 p0.fCommand.fKind), .v (.s p0.fCommand.fKey), .v (.s p0.fCommand.fField), .v (.s p0.fCommand.fText), .v (.i .i64 p0.fCommand.fN)]] [] = some (.v (.i .i64 r), [])
/-! ### wire.CheckItem -/
noncomputable def ck_wire_CheckItem_k1 (p0 : GItem) : Option Bool :=
  bif decide (p0.fTerm < 1) then
    some true
  else
    bif decide (1048576 < p0.fTerm) then
      some true
    else
      bif decide (p0.fTime < 0) then
        some true
      else
        some (decide (1073741824 < p0.fTime))
noncomputable def ck_wire_CheckItem_k1_v (p0 : GItem) : Bool :=
  bif decide (p0.fTerm < 1) then
    true
  else
    bif decide (1048576 < p0.fTerm) then
      true
    else
      bif decide (p0.fTime < 0) then
        true
      else
        decide (1073741824 < p0.fTime)
theorem ck_wire_CheckItem_k1_t (p0 : GItem) : ck_wire_CheckItem_k1 p0 = some (ck_wire_CheckItem_k1_v p0) := by
  simp only [ck_wire_CheckItem_k1, ck_wire_CheckItem_k1_v, cx]
noncomputable def wire_CheckItem_c0 (p0 : GItem) : Option Int :=
  bif (p0.fCall.fClient == 0) then
    bif (p0.fCall.fSeq == 0) then
      bif (p0.fCall.fCommand.fKind == 0) then
        bif cJ p0.fCall.fCommand.fKey ByteArray.empty then
          bif cJ p0.fCall.fCommand.fField ByteArray.empty then
            bif cJ p0.fCall.fCommand.fText ByteArray.empty then
              bif (p0.fCall.fCommand.fN == 0) then
                some 0
              else
                some 8
            else
              some 8
          else
            some 8
        else
          some 8
      else
        some 8
    else
      some 8
  else
    some 8
noncomputable def wire_CheckItem (p0 : GItem) : Option Int :=
  bif (ck_wire_CheckItem_k1_v p0) then
    some 2
  else
    bif p0.fNop then
      wire_CheckItem_c0 p0
    else
      some (client_CheckCall_v p0.fCall)
noncomputable def wire_CheckItem_v_c0 (p0 : GItem) : Int :=
  bif (p0.fCall.fClient == 0) then
    bif (p0.fCall.fSeq == 0) then
      bif (p0.fCall.fCommand.fKind == 0) then
        bif cJ p0.fCall.fCommand.fKey ByteArray.empty then
          bif cJ p0.fCall.fCommand.fField ByteArray.empty then
            bif cJ p0.fCall.fCommand.fText ByteArray.empty then
              bif (p0.fCall.fCommand.fN == 0) then
                0
              else
                8
            else
              8
          else
            8
        else
          8
      else
        8
    else
      8
  else
    8
noncomputable def wire_CheckItem_v (p0 : GItem) : Int :=
  bif (ck_wire_CheckItem_k1_v p0) then
    2
  else
    bif p0.fNop then
      wire_CheckItem_v_c0 p0
    else
      (client_CheckCall_v p0.fCall)
theorem wire_CheckItem_c0_t (p0 : GItem) : wire_CheckItem_c0 p0 = some (wire_CheckItem_v_c0 p0) := by
  simp only [wire_CheckItem_c0, wire_CheckItem_v_c0, cx]
theorem wire_CheckItem_t (p0 : GItem) : wire_CheckItem p0 = some (wire_CheckItem_v p0) := by
  simp only [wire_CheckItem, wire_CheckItem_v, wire_CheckItem_c0_t, cx]
def K_wire_CheckItem (C : ak) : Prop := ∀ (p0 : GItem) (r : Int), wire_CheckItem p0 = some r → C 56 [.agg [.v (.i .i64 p0.fTerm), .v (.i .i64 p0.fTime), .v (.b p0.fNop), .v (.i .i64 p0.fCall.fClient), .v (.i .i64 p0.fCall.fSeq), .v (.i .i64 p0.fCall.fCommand.fKind), .v (.s p0.fCall.fCommand.fKey), .v (.s p0.fCall.fCommand.fField), .v (.s p0.fCall.fCommand.fText), .v (.i .i64 p0.fCall.fCommand.fN)]] [] = some (.v (.i .i64 r), [])
/-! ### wire.DecodeItem -/
noncomputable def wire_DecodeItem (p0 : List Int) : Option (GItem × Int) :=
  bif decide (20000 < (p0.length : Int)) then
    some ((GItem.mk 0 0 false (GCall.mk 0 0 (GCommand.mk 0 ByteArray.empty ByteArray.empty ByteArray.empty 0))), 1)
  else
    (match wire_reader_item (Greader.mk p0 false) with
    | none => none
    | some (x1, x2, x3) =>
      (match wire_reader_end x2 x3 with
      | none => none
      | some (x4, x5) =>
        bif (x4 == 0) then
          bif ((wire_CheckItem_v x1) == 0) then
            some (x1, 0)
          else
            some ((GItem.mk 0 0 false (GCall.mk 0 0 (GCommand.mk 0 ByteArray.empty ByteArray.empty ByteArray.empty 0))), (wire_CheckItem_v x1))
        else
          some ((GItem.mk 0 0 false (GCall.mk 0 0 (GCommand.mk 0 ByteArray.empty ByteArray.empty ByteArray.empty 0))), x4)
      )
    )
def K_wire_DecodeItem (C : ak) : Prop := ∀ (p0 : List Int) (r : GItem × Int), wire_DecodeItem p0 = some r → C 37 [.v (.sl 1 (ab bA p0))] [] = some (.tup [.agg [.v (.i .i64 r.1.fTerm), .v (.i .i64 r.1.fTime), .v (.b r.1.fNop), .v (.i .i64 r.1.fCall.fClient), .v (.i .i64 r.1.fCall.fSeq), .v (.i .i64 r.1.fCall.fCommand.fKind), .v (.s r.1.fCall.fCommand.fKey), .v (.s r.1.fCall.fCommand.fField), .v (.s r.1.fCall.fCommand.fText), .v (.i .i64 r.1.fCall.fCommand.fN)], .v (.i .i64 r.2)], [])
/-! ### (*rostrumref.scan).next -/
noncomputable def rostrumref_scan_next (p0 : Gscan) : Option (Int × Gscan) :=
  bif decide ((p0.fb.length : Int) < (IntKind.i64.wrap (p0.fat + 1))) then
    some (0, (Gscan.mk p0.fb (IntKind.i64.wrap (p0.fat + 1))))
  else
    (match idx p0.fb (IntKind.i64.wrap ((IntKind.i64.wrap (p0.fat + 1)) - 1)) with
    | none => none
    | some x1 =>
      some ((IntKind.i64.wrap x1), (Gscan.mk p0.fb (IntKind.i64.wrap (p0.fat + 1))))
    )
def K_rostrumref_scan_next (C : ak) : Prop := ∀ (p0 : Gscan) (r : Int × Gscan), rostrumref_scan_next p0 = some r → C 119 [.ptr 0 0] [[.v (.sl 1 (ab bA p0.fb)), .v (.i .i64 p0.fat)]] = some (.v (.i .i64 r.1), [[.v (.sl 1 (ab bA r.2.fb)), .v (.i .i64 r.2.fat)]])
/-! ### (*rostrumref.scan).long -/
noncomputable def st_rostrumref_scan_long_0  (s : Int × Int × Gscan) : Option ((Int × Int × Gscan) ⊕ (Int × Gscan)) :=
  match s with
  | (p0, p1, p2) =>
    bif decide (p1 < 8) then
      (match rostrumref_scan_next p2 with
      | none => none
      | some (x1, x2) =>
        some (.inl ((IntKind.i64.wrap ((IntKind.i64.wrap (p0 * 256)) + x1)), (IntKind.i64.wrap (p1 + 1)), x2))
      )
    else
      some (.inr (p0, p2))
noncomputable def rostrumref_scan_long (p0 : Gscan) : Option (Int × Gscan) :=
  (match ci (st_rostrumref_scan_long_0) (0, 0, p0) with
  | none => none
  | some (x1, x2) =>
    some ((IntKind.i64.wrap (x1 - 4611686018427387904)), x2)
  )
def K_rostrumref_scan_long (C : ak) : Prop := ∀ (p0 : Gscan) (r : Int × Gscan), rostrumref_scan_long p0 = some r → C 118 [.ptr 0 0] [[.v (.sl 1 (ab bA p0.fb)), .v (.i .i64 p0.fat)]] = some (.v (.i .i64 r.1), [[.v (.sl 1 (ab bA r.2.fb)), .v (.i .i64 r.2.fat)]])
/-! ### (*rostrumref.scan).over -/
noncomputable def rostrumref_scan_over (p0 : Gscan) : Option (Bool × Gscan) :=
  some (decide ((p0.fb.length : Int) < p0.fat), p0)
def K_rostrumref_scan_over (C : ak) : Prop := ∀ (p0 : Gscan) (r : Bool × Gscan), rostrumref_scan_over p0 = some r → C 121 [.ptr 0 0] [[.v (.sl 1 (ab bA p0.fb)), .v (.i .i64 p0.fat)]] = some (.v (.b r.1), [[.v (.sl 1 (ab bA r.2.fb)), .v (.i .i64 r.2.fat)]])
/-! ### (*rostrumref.scan).str -/
noncomputable def st_rostrumref_scan_str_0 (p0 : Int) (s : (List Int) × Int × Gscan) : Option (((List Int) × Int × Gscan) ⊕ ((List Int) × Gscan)) :=
  match s with
  | (p1, p2, p3) =>
    bif decide (p2 < p0) then
      (match rostrumref_scan_over p3 with
      | none => none
      | some (x1, x2) =>
        bif x1 then
          some (.inr (p1, x2))
        else
          (match rostrumref_scan_next x2 with
          | none => none
          | some (x3, x4) =>
            bif cH (p1.length + 1) 1 then
              some (.inl ((p1 ++ [(IntKind.u8.wrap x3)]), (IntKind.i64.wrap (p2 + 1)), x4))
            else
              none
          )
      )
    else
      some (.inr (p1, p3))
noncomputable def rostrumref_scan_str (p0 : Gscan) : Option (ByteArray × Gscan) :=
  (match rostrumref_scan_next p0 with
  | none => none
  | some (x1, x2) =>
    (match ci (st_rostrumref_scan_str_0 x1) ([], 0, x2) with
    | none => none
    | some (x3, x4) =>
      bif allB x3 then
        some ((strL x3), x4)
      else
        none
    )
  )
def K_rostrumref_scan_str (C : ak) : Prop := ∀ (p0 : Gscan) (r : ByteArray × Gscan), rostrumref_scan_str p0 = some r → C 120 [.ptr 0 0] [[.v (.sl 1 (ab bA p0.fb)), .v (.i .i64 p0.fat)]] = some (.v (.s r.1), [[.v (.sl 1 (ab bA r.2.fb)), .v (.i .i64 r.2.fat)]])
/-! ### (*rostrumref.scan).itemNext -/
noncomputable def ck_rostrumref_scan_itemNext_q16 (p0 : Int) (p1 : Bool) (p2 : Gscan) (p3 : Int) (p4 : Int) : Option GItem :=
  bif p1 then
    some (GItem.mk p3 p4 true (GCall.mk 0 0 (GCommand.mk 0 ByteArray.empty ByteArray.empty ByteArray.empty 0)))
  else
    some (GItem.mk p3 p4 false (GCall.mk 0 0 (GCommand.mk 0 ByteArray.empty ByteArray.empty ByteArray.empty 0)))
noncomputable def ck_rostrumref_scan_itemNext_q16_v (p0 : Int) (p1 : Bool) (p2 : Gscan) (p3 : Int) (p4 : Int) : GItem :=
  bif p1 then
    (GItem.mk p3 p4 true (GCall.mk 0 0 (GCommand.mk 0 ByteArray.empty ByteArray.empty ByteArray.empty 0)))
  else
    (GItem.mk p3 p4 false (GCall.mk 0 0 (GCommand.mk 0 ByteArray.empty ByteArray.empty ByteArray.empty 0)))
theorem ck_rostrumref_scan_itemNext_q16_t (p0 : Int) (p1 : Bool) (p2 : Gscan) (p3 : Int) (p4 : Int) : ck_rostrumref_scan_itemNext_q16 p0 p1 p2 p3 p4 = some (ck_rostrumref_scan_itemNext_q16_v p0 p1 p2 p3 p4) := by
  simp only [ck_rostrumref_scan_itemNext_q16, ck_rostrumref_scan_itemNext_q16_v, cx]
noncomputable def rostrumref_scan_itemNext_c0 (p0 : Gscan) (x1 : Int) (x2 : Gscan) (x3 : Int) (x4 : Gscan) (x5 : Int) (x6 : Gscan) (x7 : Int) (x8 : Gscan) : Option (GItem × Bool × Gscan) :=
  bif (x7 == 0) then
    some ((GItem.mk ((ck_rostrumref_scan_itemNext_q16_v x5 (x5 == 1) x6 x1 x3).fTerm) ((ck_rostrumref_scan_itemNext_q16_v x5 (x5 == 1) x6 x1 x3).fTime) ((ck_rostrumref_scan_itemNext_q16_v x5 (x5 == 1) x6 x1 x3).fNop) (GCall.mk x7 ((ck_rostrumref_scan_itemNext_q16_v x5 (x5 == 1) x6 x1 x3).fCall.fSeq) ((ck_rostrumref_scan_itemNext_q16_v x5 (x5 == 1) x6 x1 x3).fCall.fCommand))), true, x8)
  else
    (match rostrumref_scan_long x8 with
    | none => none
    | some (x9, x10) =>
      (match rostrumref_scan_next x10 with
      | none => none
      | some (x11, x12) =>
        (match rostrumref_scan_str x12 with
        | none => none
        | some (x13, x14) =>
          (match rostrumref_scan_str x14 with
          | none => none
          | some (x15, x16) =>
            (match rostrumref_scan_str x16 with
            | none => none
            | some (x17, x18) =>
              (match rostrumref_scan_long x18 with
              | none => none
              | some (x19, x20) =>
                some ((GItem.mk ((ck_rostrumref_scan_itemNext_q16_v x5 (x5 == 1) x6 x1 x3).fTerm) ((ck_rostrumref_scan_itemNext_q16_v x5 (x5 == 1) x6 x1 x3).fTime) ((ck_rostrumref_scan_itemNext_q16_v x5 (x5 == 1) x6 x1 x3).fNop) (GCall.mk x7 x9 (GCommand.mk x11 x13 x15 x17 x19))), true, x20)
              )
            )
          )
        )
      )
    )
noncomputable def rostrumref_scan_itemNext (p0 : Gscan) : Option (GItem × Bool × Gscan) :=
  (match rostrumref_scan_long p0 with
  | none => none
  | some (x1, x2) =>
    (match rostrumref_scan_long x2 with
    | none => none
    | some (x3, x4) =>
      (match rostrumref_scan_next x4 with
      | none => none
      | some (x5, x6) =>
        bif (x5 == 0) then
          (match rostrumref_scan_long x6 with
          | none => none
          | some (x7, x8) =>
            rostrumref_scan_itemNext_c0 p0 x1 x2 x3 x4 x5 x6 x7 x8
          )
        else
          some ((ck_rostrumref_scan_itemNext_q16_v x5 (x5 == 1) x6 x1 x3), (x5 == 1), x6)
      )
    )
  )
def K_rostrumref_scan_itemNext (C : ak) : Prop := ∀ (p0 : Gscan) (r : GItem × Bool × Gscan), rostrumref_scan_itemNext p0 = some r → C 87 [.ptr 0 0] [[.v (.sl 1 (ab bA p0.fb)), .v (.i .i64 p0.fat)]] = some (.tup [.agg [.v (.i .i64 r.1.fTerm), .v (.i .i64 r.1.fTime), .v (.b r.1.fNop), .v (.i .i64 r.1.fCall.fClient), .v (.i .i64 r.1.fCall.fSeq), .v (.i .i64 r.1.fCall.fCommand.fKind), .v (.s r.1.fCall.fCommand.fKey), .v (.s r.1.fCall.fCommand.fField), .v (.s r.1.fCall.fCommand.fText), .v (.i .i64 r.1.fCall.fCommand.fN)], .v (.b r.2.1)], [[.v (.sl 1 (ab bA r.2.2.fb)), .v (.i .i64 r.2.2.fat)]])
/-! ### (*rostrumref.scan).end -/
noncomputable def rostrumref_scan_end (p0 : Bool) (p1 : Gscan) : Option (Int × Gscan) :=
  (match rostrumref_scan_over p1 with
  | none => none
  | some (x1, x2) =>
    bif x1 then
      some (9, x2)
    else
      bif p0 then
        bif decide (x2.fat < (x2.fb.length : Int)) then
          some (8, x2)
        else
          some (0, x2)
      else
        some (8, x2)
  )
def K_rostrumref_scan_end (C : ak) : Prop := ∀ (p0 : Bool) (p1 : Gscan) (r : Int × Gscan), rostrumref_scan_end p0 p1 = some r → C 88 [.ptr 0 0, .v (.b p0)] [[.v (.sl 1 (ab bA p1.fb)), .v (.i .i64 p1.fat)]] = some (.v (.i .i64 r.1), [[.v (.sl 1 (ab bA r.2.fb)), .v (.i .i64 r.2.fat)]])
/-! ### rostrumref.In -/
noncomputable def rostrumref_In (p0 : Int) (p1 : Int) (p2 : Int) : Option Bool :=
  bif decide (p1 ≤ p0) then
    some (decide (p0 ≤ p2))
  else
    some false
noncomputable def rostrumref_In_v (p0 : Int) (p1 : Int) (p2 : Int) : Bool := (decide (p1 ≤ p0) && decide (p0 ≤ p2))
theorem rostrumref_In_t (p0 : Int) (p1 : Int) (p2 : Int) : rostrumref_In p0 p1 p2 = some (rostrumref_In_v p0 p1 p2) := by
  simp only [rostrumref_In, rostrumref_In_v]
  cases decide (p1 ≤ p0) <;> rfl
def K_rostrumref_In (C : ak) : Prop := ∀ (p0 : Int) (p1 : Int) (p2 : Int) (r : Bool), rostrumref_In p0 p1 p2 = some r → C 55 [.v (.i .i64 p0), .v (.i .i64 p1), .v (.i .i64 p2)] [] = some (.v (.b r), [])
/-! ### rostrumref.numberMay -/
noncomputable def rostrumref_numberMay (p0 : Int) : Option Bool :=
  some (decide (1 ≤ p0) && decide (p0 ≤ 1048576))
noncomputable def rostrumref_numberMay_v (p0 : Int) : Bool := (decide (1 ≤ p0) && decide (p0 ≤ 1048576))
theorem rostrumref_numberMay_t (p0 : Int) : rostrumref_numberMay p0 = some (rostrumref_numberMay_v p0) := by
  simp only [rostrumref_numberMay, rostrumref_numberMay_v]
def K_rostrumref_numberMay (C : ak) : Prop := ∀ (p0 : Int) (r : Bool), rostrumref_numberMay p0 = some r → C 91 [.v (.i .i64 p0)] [] = some (.v (.b r), [])
/-! ### rostrumref.fieldMay -/
noncomputable def rostrumref_fieldMay (p0 : ByteArray) : Option Bool :=
  some (decide (1 ≤ (p0.size : Int)) && decide ((p0.size : Int) ≤ 12))
noncomputable def rostrumref_fieldMay_v (p0 : ByteArray) : Bool := (decide (1 ≤ (p0.size : Int)) && decide ((p0.size : Int) ≤ 12))
theorem rostrumref_fieldMay_t (p0 : ByteArray) : rostrumref_fieldMay p0 = some (rostrumref_fieldMay_v p0) := by
  simp only [rostrumref_fieldMay, rostrumref_fieldMay_v]
def K_rostrumref_fieldMay (C : ak) : Prop := ∀ (p0 : ByteArray) (r : Bool), rostrumref_fieldMay p0 = some r → C 81 [.v (.s p0)] [] = some (.v (.b r), [])
/-! ### rostrumref.textMay -/
noncomputable def rostrumref_textMay (p0 : ByteArray) : Option Bool :=
  some (decide ((p0.size : Int) ≤ 20))
noncomputable def rostrumref_textMay_v (p0 : ByteArray) : Bool := decide ((p0.size : Int) ≤ 20)
theorem rostrumref_textMay_t (p0 : ByteArray) : rostrumref_textMay p0 = some (rostrumref_textMay_v p0) := by
  simp only [rostrumref_textMay, rostrumref_textMay_v]
def K_rostrumref_textMay (C : ak) : Prop := ∀ (p0 : ByteArray) (r : Bool), rostrumref_textMay p0 = some r → C 80 [.v (.s p0)] [] = some (.v (.b r), [])
/-! ### rostrumref.countMay -/
noncomputable def rostrumref_countMay (p0 : Int) : Option Bool :=
  some (decide ((-1099511627776) ≤ p0) && decide (p0 ≤ 1099511627776))
noncomputable def rostrumref_countMay_v (p0 : Int) : Bool := (decide ((-1099511627776) ≤ p0) && decide (p0 ≤ 1099511627776))
theorem rostrumref_countMay_t (p0 : Int) : rostrumref_countMay p0 = some (rostrumref_countMay_v p0) := by
  simp only [rostrumref_countMay, rostrumref_countMay_v]
def K_rostrumref_countMay (C : ak) : Prop := ∀ (p0 : Int) (r : Bool), rostrumref_countMay p0 = some r → C 82 [.v (.i .i64 p0)] [] = some (.v (.b r), [])
/-! ### rostrumref.CommandFault -/
noncomputable def ck_rostrumref_CommandFault_k3 (p0 : GCommand) : Option Bool :=
  bif (p0.fKind == 1) then
    some true
  else
    bif (p0.fKind == 4) then
      some true
    else
      bif (p0.fKind == 7) then
        some true
      else
        bif (p0.fKind == 8) then
          some true
        else
          some (decide (11 ≤ p0.fKind) && decide (p0.fKind ≤ 16))
noncomputable def ck_rostrumref_CommandFault_k3_v (p0 : GCommand) : Bool :=
  bif (p0.fKind == 1) then
    true
  else
    bif (p0.fKind == 4) then
      true
    else
      bif (p0.fKind == 7) then
        true
      else
        bif (p0.fKind == 8) then
          true
        else
          (decide (11 ≤ p0.fKind) && decide (p0.fKind ≤ 16))
theorem ck_rostrumref_CommandFault_k3_t (p0 : GCommand) : ck_rostrumref_CommandFault_k3 p0 = some (ck_rostrumref_CommandFault_k3_v p0) := by
  simp only [ck_rostrumref_CommandFault_k3, ck_rostrumref_CommandFault_k3_v, cx]
noncomputable def ck_rostrumref_CommandFault_k5 (p0 : GCommand) (p1 : Bool) (p2 : Bool) : Option Bool :=
  bif (p0.fKind == 3) then
    some true
  else
    bif (p0.fKind == 14) then
      some true
    else
      some (p0.fKind == 20)
noncomputable def ck_rostrumref_CommandFault_k5_v (p0 : GCommand) (p1 : Bool) (p2 : Bool) : Bool :=
  bif (p0.fKind == 3) then
    true
  else
    bif (p0.fKind == 14) then
      true
    else
      (p0.fKind == 20)
theorem ck_rostrumref_CommandFault_k5_t (p0 : GCommand) (p1 : Bool) (p2 : Bool) : ck_rostrumref_CommandFault_k5 p0 p1 p2 = some (ck_rostrumref_CommandFault_k5_v p0 p1 p2) := by
  simp only [ck_rostrumref_CommandFault_k5, ck_rostrumref_CommandFault_k5_v, cx]
noncomputable def ck_rostrumref_CommandFault_k7_c0 (p0 : GCommand) (p1 : Bool) (p2 : Bool) (p3 : Bool) (p4 : Bool) : Option Bool :=
  bif cJ p0.fField ByteArray.empty then
    bif p3 then
      bif p4 then
        some false
      else
        some (!cJ p0.fKey ByteArray.empty)
    else
      bif (p0.fN == 0) then
        bif p4 then
          some false
        else
          some (!cJ p0.fKey ByteArray.empty)
      else
        some true
  else
    some true
noncomputable def ck_rostrumref_CommandFault_k7_c1 (p0 : GCommand) (p1 : Bool) (p2 : Bool) (p3 : Bool) (p4 : Bool) : Option Bool :=
  bif cJ p0.fField ByteArray.empty then
    bif p3 then
      bif p4 then
        some false
      else
        some (!cJ p0.fKey ByteArray.empty)
    else
      bif (p0.fN == 0) then
        bif p4 then
          some false
        else
          some (!cJ p0.fKey ByteArray.empty)
      else
        some true
  else
    some true
noncomputable def ck_rostrumref_CommandFault_k7_c2 (p0 : GCommand) (p1 : Bool) (p2 : Bool) (p3 : Bool) (p4 : Bool) : Option Bool :=
  bif cJ p0.fText ByteArray.empty then
    bif p2 then
      bif p3 then
        bif p4 then
          some false
        else
          some (!cJ p0.fKey ByteArray.empty)
      else
        bif (p0.fN == 0) then
          bif p4 then
            some false
          else
            some (!cJ p0.fKey ByteArray.empty)
        else
          some true
    else
      ck_rostrumref_CommandFault_k7_c1 p0 p1 p2 p3 p4
  else
    some true
noncomputable def ck_rostrumref_CommandFault_k7 (p0 : GCommand) (p1 : Bool) (p2 : Bool) (p3 : Bool) (p4 : Bool) : Option Bool :=
  bif p1 then
    bif p2 then
      bif p3 then
        bif p4 then
          some false
        else
          some (!cJ p0.fKey ByteArray.empty)
      else
        bif (p0.fN == 0) then
          bif p4 then
            some false
          else
            some (!cJ p0.fKey ByteArray.empty)
        else
          some true
    else
      ck_rostrumref_CommandFault_k7_c0 p0 p1 p2 p3 p4
  else
    ck_rostrumref_CommandFault_k7_c2 p0 p1 p2 p3 p4
noncomputable def ck_rostrumref_CommandFault_k7_v_c0 (p0 : GCommand) (p1 : Bool) (p2 : Bool) (p3 : Bool) (p4 : Bool) : Bool :=
  bif cJ p0.fField ByteArray.empty then
    bif p3 then
      bif p4 then
        false
      else
        (!cJ p0.fKey ByteArray.empty)
    else
      bif (p0.fN == 0) then
        bif p4 then
          false
        else
          (!cJ p0.fKey ByteArray.empty)
      else
        true
  else
    true
noncomputable def ck_rostrumref_CommandFault_k7_v_c1 (p0 : GCommand) (p1 : Bool) (p2 : Bool) (p3 : Bool) (p4 : Bool) : Bool :=
  bif cJ p0.fField ByteArray.empty then
    bif p3 then
      bif p4 then
        false
      else
        (!cJ p0.fKey ByteArray.empty)
    else
      bif (p0.fN == 0) then
        bif p4 then
          false
        else
          (!cJ p0.fKey ByteArray.empty)
      else
        true
  else
    true
noncomputable def ck_rostrumref_CommandFault_k7_v_c2 (p0 : GCommand) (p1 : Bool) (p2 : Bool) (p3 : Bool) (p4 : Bool) : Bool :=
  bif cJ p0.fText ByteArray.empty then
    bif p2 then
      bif p3 then
        bif p4 then
          false
        else
          (!cJ p0.fKey ByteArray.empty)
      else
        bif (p0.fN == 0) then
          bif p4 then
            false
          else
            (!cJ p0.fKey ByteArray.empty)
        else
          true
    else
      ck_rostrumref_CommandFault_k7_v_c1 p0 p1 p2 p3 p4
  else
    true
noncomputable def ck_rostrumref_CommandFault_k7_v (p0 : GCommand) (p1 : Bool) (p2 : Bool) (p3 : Bool) (p4 : Bool) : Bool :=
  bif p1 then
    bif p2 then
      bif p3 then
        bif p4 then
          false
        else
          (!cJ p0.fKey ByteArray.empty)
      else
        bif (p0.fN == 0) then
          bif p4 then
            false
          else
            (!cJ p0.fKey ByteArray.empty)
        else
          true
    else
      ck_rostrumref_CommandFault_k7_v_c0 p0 p1 p2 p3 p4
  else
    ck_rostrumref_CommandFault_k7_v_c2 p0 p1 p2 p3 p4
theorem ck_rostrumref_CommandFault_k7_c0_t (p0 : GCommand) (p1 : Bool) (p2 : Bool) (p3 : Bool) (p4 : Bool) : ck_rostrumref_CommandFault_k7_c0 p0 p1 p2 p3 p4 = some (ck_rostrumref_CommandFault_k7_v_c0 p0 p1 p2 p3 p4) := by
  simp only [ck_rostrumref_CommandFault_k7_c0, ck_rostrumref_CommandFault_k7_v_c0, cx]
theorem ck_rostrumref_CommandFault_k7_c1_t (p0 : GCommand) (p1 : Bool) (p2 : Bool) (p3 : Bool) (p4 : Bool) : ck_rostrumref_CommandFault_k7_c1 p0 p1 p2 p3 p4 = some (ck_rostrumref_CommandFault_k7_v_c1 p0 p1 p2 p3 p4) := by
  simp only [ck_rostrumref_CommandFault_k7_c1, ck_rostrumref_CommandFault_k7_v_c1, cx]
theorem ck_rostrumref_CommandFault_k7_c2_t (p0 : GCommand) (p1 : Bool) (p2 : Bool) (p3 : Bool) (p4 : Bool) : ck_rostrumref_CommandFault_k7_c2 p0 p1 p2 p3 p4 = some (ck_rostrumref_CommandFault_k7_v_c2 p0 p1 p2 p3 p4) := by
  simp only [ck_rostrumref_CommandFault_k7_c2, ck_rostrumref_CommandFault_k7_v_c2, ck_rostrumref_CommandFault_k7_c1_t, cx]
theorem ck_rostrumref_CommandFault_k7_t (p0 : GCommand) (p1 : Bool) (p2 : Bool) (p3 : Bool) (p4 : Bool) : ck_rostrumref_CommandFault_k7 p0 p1 p2 p3 p4 = some (ck_rostrumref_CommandFault_k7_v p0 p1 p2 p3 p4) := by
  simp only [ck_rostrumref_CommandFault_k7, ck_rostrumref_CommandFault_k7_v, ck_rostrumref_CommandFault_k7_c0_t, ck_rostrumref_CommandFault_k7_c2_t, cx]
noncomputable def ck_rostrumref_CommandFault_k9 (p0 : GCommand) (p1 : Bool) (p2 : Bool) : Option Bool :=
  bif p2 then
    bif (rostrumref_fieldMay_v p0.fKey) then
      bif p1 then
        bif (rostrumref_fieldMay_v p0.fField) then
          some (!(rostrumref_textMay_v p0.fText))
        else
          some true
      else
        some (!(rostrumref_textMay_v p0.fText))
    else
      some true
  else
    bif p1 then
      bif (rostrumref_fieldMay_v p0.fField) then
        some (!(rostrumref_textMay_v p0.fText))
      else
        some true
    else
      some (!(rostrumref_textMay_v p0.fText))
noncomputable def ck_rostrumref_CommandFault_k9_v (p0 : GCommand) (p1 : Bool) (p2 : Bool) : Bool :=
  bif p2 then
    bif (rostrumref_fieldMay_v p0.fKey) then
      bif p1 then
        bif (rostrumref_fieldMay_v p0.fField) then
          (!(rostrumref_textMay_v p0.fText))
        else
          true
      else
        (!(rostrumref_textMay_v p0.fText))
    else
      true
  else
    bif p1 then
      bif (rostrumref_fieldMay_v p0.fField) then
        (!(rostrumref_textMay_v p0.fText))
      else
        true
    else
      (!(rostrumref_textMay_v p0.fText))
theorem ck_rostrumref_CommandFault_k9_t (p0 : GCommand) (p1 : Bool) (p2 : Bool) : ck_rostrumref_CommandFault_k9 p0 p1 p2 = some (ck_rostrumref_CommandFault_k9_v p0 p1 p2) := by
  simp only [ck_rostrumref_CommandFault_k9, ck_rostrumref_CommandFault_k9_v, cx]
noncomputable def rostrumref_CommandFault (p0 : GCommand) : Option Int :=
  bif decide (1 ≤ p0.fKind) then
    bif decide (p0.fKind ≤ 22) then
      bif (ck_rostrumref_CommandFault_k7_v p0 (ck_rostrumref_CommandFault_k3_v p0) (decide (4 ≤ p0.fKind) && decide (p0.fKind ≤ 6)) (ck_rostrumref_CommandFault_k5_v p0 (ck_rostrumref_CommandFault_k3_v p0) (decide (4 ≤ p0.fKind) && decide (p0.fKind ≤ 6))) (!(p0.fKind == 22))) then
        some 8
      else
        bif (ck_rostrumref_CommandFault_k9_v p0 (decide (4 ≤ p0.fKind) && decide (p0.fKind ≤ 6)) (!(p0.fKind == 22))) then
          some 1
        else
          bif (rostrumref_countMay_v p0.fN) then
            some 0
          else
            some 2
    else
      some 3
  else
    some 3
noncomputable def rostrumref_CommandFault_v (p0 : GCommand) : Int :=
  bif decide (1 ≤ p0.fKind) then
    bif decide (p0.fKind ≤ 22) then
      bif (ck_rostrumref_CommandFault_k7_v p0 (ck_rostrumref_CommandFault_k3_v p0) (decide (4 ≤ p0.fKind) && decide (p0.fKind ≤ 6)) (ck_rostrumref_CommandFault_k5_v p0 (ck_rostrumref_CommandFault_k3_v p0) (decide (4 ≤ p0.fKind) && decide (p0.fKind ≤ 6))) (!(p0.fKind == 22))) then
        8
      else
        bif (ck_rostrumref_CommandFault_k9_v p0 (decide (4 ≤ p0.fKind) && decide (p0.fKind ≤ 6)) (!(p0.fKind == 22))) then
          1
        else
          bif (rostrumref_countMay_v p0.fN) then
            0
          else
            2
    else
      3
  else
    3
theorem rostrumref_CommandFault_t (p0 : GCommand) : rostrumref_CommandFault p0 = some (rostrumref_CommandFault_v p0) := by
  simp only [rostrumref_CommandFault, rostrumref_CommandFault_v, cx]
def K_rostrumref_CommandFault (C : ak) : Prop := ∀ (p0 : GCommand) (r : Int), rostrumref_CommandFault p0 = some r → C 130 [.agg [.v (.i .i64 p0.fKind), .v (.s p0.fKey), .v (.s p0.fField), .v (.s p0.fText), .v (.i .i64 p0.fN)]] [] = some (.v (.i .i64 r), [])
/-! ### rostrumref.CallFault -/
noncomputable def rostrumref_CallFault_c0 (p0 : GCall) : Option Int :=
  bif (p0.fSeq == 0) then
    bif (p0.fCommand.fKind == 0) then
      bif cJ p0.fCommand.fKey ByteArray.empty then
        bif cJ p0.fCommand.fField ByteArray.empty then
          bif cJ p0.fCommand.fText ByteArray.empty then
            bif (p0.fCommand.fN == 0) then
              some 0
            else
              some 8
          else
            some 8
        else
          some 8
      else
        some 8
    else
      some 8
  else
    some 8
noncomputable def rostrumref_CallFault (p0 : GCall) : Option Int :=
  bif (p0.fClient == 0) then
    rostrumref_CallFault_c0 p0
  else
    bif (rostrumref_numberMay_v p0.fClient) then
      bif (rostrumref_numberMay_v p0.fSeq) then
        some (rostrumref_CommandFault_v p0.fCommand)
      else
        some 2
    else
      some 2
noncomputable def rostrumref_CallFault_v_c0 (p0 : GCall) : Int :=
  bif (p0.fSeq == 0) then
    bif (p0.fCommand.fKind == 0) then
      bif cJ p0.fCommand.fKey ByteArray.empty then
        bif cJ p0.fCommand.fField ByteArray.empty then
          bif cJ p0.fCommand.fText ByteArray.empty then
            bif (p0.fCommand.fN == 0) then
              0
            else
              8
          else
            8
        else
          8
      else
        8
    else
      8
  else
    8
noncomputable def rostrumref_CallFault_v (p0 : GCall) : Int :=
  bif (p0.fClient == 0) then
    rostrumref_CallFault_v_c0 p0
  else
    bif (rostrumref_numberMay_v p0.fClient) then
      bif (rostrumref_numberMay_v p0.fSeq) then
        (rostrumref_CommandFault_v p0.fCommand)
      else
        2
    else
      2
theorem rostrumref_CallFault_c0_t (p0 : GCall) : rostrumref_CallFault_c0 p0 = some (rostrumref_CallFault_v_c0 p0) := by
  simp only [rostrumref_CallFault_c0, rostrumref_CallFault_v_c0, cx]
theorem rostrumref_CallFault_t (p0 : GCall) : rostrumref_CallFault p0 = some (rostrumref_CallFault_v p0) := by
  simp only [rostrumref_CallFault, rostrumref_CallFault_v, rostrumref_CallFault_c0_t, cx]
def K_rostrumref_CallFault (C : ak) : Prop := ∀ (p0 : GCall) (r : Int), rostrumref_CallFault p0 = some r → C 104 [.agg [.v (.i .i64 p0.fClient), .v (.i .i64 p0.fSeq), .v (.i .i64 p0.fCommand.fKind), .v (.s p0.fCommand.fKey), .v (.s p0.fCommand.fField), .v (.s p0.fCommand.fText), .v (.i .i64 p0.fCommand.fN)]] [] = some (.v (.i .i64 r), [])
/-! ### rostrumref.ItemFault -/
noncomputable def rostrumref_ItemFault_c0 (p0 : GItem) : Option Int :=
  bif (p0.fCall.fClient == 0) then
    bif (p0.fCall.fSeq == 0) then
      bif (p0.fCall.fCommand.fKind == 0) then
        bif cJ p0.fCall.fCommand.fKey ByteArray.empty then
          bif cJ p0.fCall.fCommand.fField ByteArray.empty then
            bif cJ p0.fCall.fCommand.fText ByteArray.empty then
              bif (p0.fCall.fCommand.fN == 0) then
                some 0
              else
                some 8
            else
              some 8
          else
            some 8
        else
          some 8
      else
        some 8
    else
      some 8
  else
    some 8
noncomputable def rostrumref_ItemFault (p0 : GItem) : Option Int :=
  bif (rostrumref_numberMay_v p0.fTerm) then
    bif decide (0 ≤ p0.fTime) then
      bif decide (p0.fTime ≤ 1073741824) then
        bif p0.fNop then
          rostrumref_ItemFault_c0 p0
        else
          some (rostrumref_CallFault_v p0.fCall)
      else
        some 2
    else
      some 2
  else
    some 2
noncomputable def rostrumref_ItemFault_v_c0 (p0 : GItem) : Int :=
  bif (p0.fCall.fClient == 0) then
    bif (p0.fCall.fSeq == 0) then
      bif (p0.fCall.fCommand.fKind == 0) then
        bif cJ p0.fCall.fCommand.fKey ByteArray.empty then
          bif cJ p0.fCall.fCommand.fField ByteArray.empty then
            bif cJ p0.fCall.fCommand.fText ByteArray.empty then
              bif (p0.fCall.fCommand.fN == 0) then
                0
              else
                8
            else
              8
          else
            8
        else
          8
      else
        8
    else
      8
  else
    8
noncomputable def rostrumref_ItemFault_v (p0 : GItem) : Int :=
  bif (rostrumref_numberMay_v p0.fTerm) then
    bif decide (0 ≤ p0.fTime) then
      bif decide (p0.fTime ≤ 1073741824) then
        bif p0.fNop then
          rostrumref_ItemFault_v_c0 p0
        else
          (rostrumref_CallFault_v p0.fCall)
      else
        2
    else
      2
  else
    2
theorem rostrumref_ItemFault_c0_t (p0 : GItem) : rostrumref_ItemFault_c0 p0 = some (rostrumref_ItemFault_v_c0 p0) := by
  simp only [rostrumref_ItemFault_c0, rostrumref_ItemFault_v_c0, cx]
theorem rostrumref_ItemFault_t (p0 : GItem) : rostrumref_ItemFault p0 = some (rostrumref_ItemFault_v p0) := by
  simp only [rostrumref_ItemFault, rostrumref_ItemFault_v, rostrumref_ItemFault_c0_t, cx]
def K_rostrumref_ItemFault (C : ak) : Prop := ∀ (p0 : GItem) (r : Int), rostrumref_ItemFault p0 = some r → C 58 [.agg [.v (.i .i64 p0.fTerm), .v (.i .i64 p0.fTime), .v (.b p0.fNop), .v (.i .i64 p0.fCall.fClient), .v (.i .i64 p0.fCall.fSeq), .v (.i .i64 p0.fCall.fCommand.fKind), .v (.s p0.fCall.fCommand.fKey), .v (.s p0.fCall.fCommand.fField), .v (.s p0.fCall.fCommand.fText), .v (.i .i64 p0.fCall.fCommand.fN)]] [] = some (.v (.i .i64 r), [])
/-! ### rostrumref.ItemOf -/
noncomputable def ck_rostrumref_ItemOf_q24 (p0 : Int) (p1 : Bool) (p2 : Gscan) (p3 : GItem) : Option Int :=
  bif p1 then
    some (rostrumref_ItemFault_v p3)
  else
    some p0
noncomputable def ck_rostrumref_ItemOf_q24_v (p0 : Int) (p1 : Bool) (p2 : Gscan) (p3 : GItem) : Int :=
  bif p1 then
    (rostrumref_ItemFault_v p3)
  else
    p0
theorem ck_rostrumref_ItemOf_q24_t (p0 : Int) (p1 : Bool) (p2 : Gscan) (p3 : GItem) : ck_rostrumref_ItemOf_q24 p0 p1 p2 p3 = some (ck_rostrumref_ItemOf_q24_v p0 p1 p2 p3) := by
  simp only [ck_rostrumref_ItemOf_q24, ck_rostrumref_ItemOf_q24_v, cx]
noncomputable def rostrumref_ItemOf (p0 : List Int) : Option (GItem × Int) :=
  bif decide (20000 < (p0.length : Int)) then
    some ((GItem.mk 0 0 false (GCall.mk 0 0 (GCommand.mk 0 ByteArray.empty ByteArray.empty ByteArray.empty 0))), 1)
  else
    (match rostrumref_scan_itemNext (Gscan.mk p0 0) with
    | none => none
    | some (x1, x2, x3) =>
      (match rostrumref_scan_end x2 x3 with
      | none => none
      | some (x4, x5) =>
        bif ((ck_rostrumref_ItemOf_q24_v x4 (x4 == 0) x5 x1) == 0) then
          some (x1, 0)
        else
          some ((GItem.mk 0 0 false (GCall.mk 0 0 (GCommand.mk 0 ByteArray.empty ByteArray.empty ByteArray.empty 0))), (ck_rostrumref_ItemOf_q24_v x4 (x4 == 0) x5 x1))
      )
    )
def K_rostrumref_ItemOf (C : ak) : Prop := ∀ (p0 : List Int) (r : GItem × Int), rostrumref_ItemOf p0 = some r → C 39 [.v (.sl 1 (ab bA p0))] [] = some (.tup [.agg [.v (.i .i64 r.1.fTerm), .v (.i .i64 r.1.fTime), .v (.b r.1.fNop), .v (.i .i64 r.1.fCall.fClient), .v (.i .i64 r.1.fCall.fSeq), .v (.i .i64 r.1.fCall.fCommand.fKind), .v (.s r.1.fCall.fCommand.fKey), .v (.s r.1.fCall.fCommand.fField), .v (.s r.1.fCall.fCommand.fText), .v (.i .i64 r.1.fCall.fCommand.fN)], .v (.i .i64 r.2)], [])
/-! ### rostrumlaw.WireItemReads -/
noncomputable def rostrumlaw_WireItemReads (p0 : List Int) : Option Bool :=
  (match rostrumlaw_octets_z p0 with
  | none => none
  | some x1 =>
    (match wire_DecodeItem x1 with
    | none => none
    | some (x2, x3) =>
      (match rostrumref_ItemOf p0 with
      | none => none
      | some (x4, x5) =>
        bif (x3 == x5) then
          some ((x2.fTerm == x4.fTerm) && ((x2.fTime == x4.fTime) && ((x2.fNop == x4.fNop) && ((x2.fCall.fClient == x4.fCall.fClient) && ((x2.fCall.fSeq == x4.fCall.fSeq) && ((x2.fCall.fCommand.fKind == x4.fCall.fCommand.fKind) && (cJ x2.fCall.fCommand.fKey x4.fCall.fCommand.fKey && (cJ x2.fCall.fCommand.fField x4.fCall.fCommand.fField && (cJ x2.fCall.fCommand.fText x4.fCall.fCommand.fText && (x2.fCall.fCommand.fN == x4.fCall.fCommand.fN))))))))))
        else
          some false
      )
    )
  )
def K_rostrumlaw_WireItemReads (C : ak) : Prop := ∀ (p0 : List Int) (r : Bool), rostrumlaw_WireItemReads p0 = some r → C 11 [.v (.sl 1 (ab bA p0))] [] = some (.v (.b r), [])
end Go.Proofs.Ytnjkmbogbfjffaa
