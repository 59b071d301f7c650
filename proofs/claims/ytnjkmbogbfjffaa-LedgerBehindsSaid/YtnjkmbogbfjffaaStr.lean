/- Part of the proof by the machine Mx: Str. -/
import Derived.Test.YtnjkmbogbfjffaaMxFour
import Derived.Test.YtnjkmbogbfjffaaTyTab
set_option linter.unusedSimpArgs false
set_option linter.unusedVariables false
set_option linter.constructorNameAsVariable false
set_option linter.unnecessarySimpa false
/- The program's struct types, as structures. -/
namespace Go.Proofs.Ytnjkmbogbfjffaa
open Go Go.Mx Go.Proofs
structure S7 where
  a0 : Int
  a1 : Int
  a2 : Bool
  a3 : Int
def S7.row (x : S7) : List V := [.i .i64 x.a0, .i .i64 x.a1, .b x.a2, .i .u8 x.a3]
def S7.d (x : S7) : D := .agg [.v (.i .i64 x.a0), .v (.i .i64 x.a1), .v (.b x.a2), .v (.i .u8 x.a3)]
def S7.ok (x : S7) : Prop := (okI x.a0) ∧ (okI x.a1) ∧ (True) ∧ (((IntKind.u8).min ≤ x.a3 ∧ x.a3 ≤ (IntKind.u8).max))
theorem S7.row_inj (a b : S7) (h : a.row = b.row) : a = b := by
  cases a; cases b
  simp only [S7.row, List.cons.injEq, V.i.injEq, V.s.injEq, V.b.injEq, V.sl.injEq, true_and, and_true, rowS_inj, rowI_inj, rowB_inj] at h
  simp only [S7.mk.injEq]
  simp only [h, and_self]
theorem S7.map_inj {a b : List S7} : a.map S7.row = b.map S7.row ↔ a = b := Mx.map_inj S7.row_inj
theorem S7.d_inj (a b : S7) (h : a.d = b.d) : a = b := by
  cases a; cases b
  simp only [S7.d, D.agg.injEq, D.v.injEq, List.cons.injEq, V.i.injEq, V.s.injEq, V.b.injEq, V.sl.injEq, true_and, and_true, rowS_inj, rowI_inj, rowB_inj] at h
  simp only [S7.mk.injEq]
  simp only [h, and_self]
structure S13 where
  a0 : ByteArray
  a1 : Int
def S13.row (x : S13) : List V := [.s x.a0, .i .u64 x.a1]
def S13.d (x : S13) : D := .agg [.v (.s x.a0), .v (.i .u64 x.a1)]
def S13.ok (x : S13) : Prop := (okS x.a0) ∧ (((IntKind.u64).min ≤ x.a1 ∧ x.a1 ≤ (IntKind.u64).max))
theorem S13.row_inj (a b : S13) (h : a.row = b.row) : a = b := by
  cases a; cases b
  simp only [S13.row, List.cons.injEq, V.i.injEq, V.s.injEq, V.b.injEq, V.sl.injEq, true_and, and_true, rowS_inj, rowI_inj, rowB_inj, S7.map_inj] at h
  simp only [S13.mk.injEq]
  simp only [h, and_self]
theorem S13.map_inj {a b : List S13} : a.map S13.row = b.map S13.row ↔ a = b := Mx.map_inj S13.row_inj
theorem S13.d_inj (a b : S13) (h : a.d = b.d) : a = b := by
  cases a; cases b
  simp only [S13.d, D.agg.injEq, D.v.injEq, List.cons.injEq, V.i.injEq, V.s.injEq, V.b.injEq, V.sl.injEq, true_and, and_true, rowS_inj, rowI_inj, rowB_inj, S7.map_inj] at h
  simp only [S13.mk.injEq]
  simp only [h, and_self]
structure S37 where
  a0 : Int
  a1 : Int
  a2 : Bool
  a3 : Int
  a4 : Int
  a5 : Int
  a6 : ByteArray
  a7 : ByteArray
  a8 : ByteArray
  a9 : Int
def S37.row (x : S37) : List V := [.i .i64 x.a0, .i .i64 x.a1, .b x.a2, .i .i64 x.a3, .i .i64 x.a4, .i .i64 x.a5, .s x.a6, .s x.a7, .s x.a8, .i .i64 x.a9]
def S37.d (x : S37) : D := .agg [.v (.i .i64 x.a0), .v (.i .i64 x.a1), .v (.b x.a2), .v (.i .i64 x.a3), .v (.i .i64 x.a4), .v (.i .i64 x.a5), .v (.s x.a6), .v (.s x.a7), .v (.s x.a8), .v (.i .i64 x.a9)]
def S37.ok (x : S37) : Prop := (okI x.a0) ∧ (okI x.a1) ∧ (True) ∧ (okI x.a3) ∧ (okI x.a4) ∧ (okI x.a5) ∧ (okS x.a6) ∧ (okS x.a7) ∧ (okS x.a8) ∧ (okI x.a9)
theorem S37.row_inj (a b : S37) (h : a.row = b.row) : a = b := by
  cases a; cases b
  simp only [S37.row, List.cons.injEq, V.i.injEq, V.s.injEq, V.b.injEq, V.sl.injEq, true_and, and_true, rowS_inj, rowI_inj, rowB_inj, S7.map_inj, S13.map_inj] at h
  simp only [S37.mk.injEq]
  simp only [h, and_self]
theorem S37.map_inj {a b : List S37} : a.map S37.row = b.map S37.row ↔ a = b := Mx.map_inj S37.row_inj
theorem S37.d_inj (a b : S37) (h : a.d = b.d) : a = b := by
  cases a; cases b
  simp only [S37.d, D.agg.injEq, D.v.injEq, List.cons.injEq, V.i.injEq, V.s.injEq, V.b.injEq, V.sl.injEq, true_and, and_true, rowS_inj, rowI_inj, rowB_inj, S7.map_inj, S13.map_inj] at h
  simp only [S37.mk.injEq]
  simp only [h, and_self]
structure S23 where
  a0 : Int
  a1 : Int
  a2 : List S37
def S23.row (x : S23) : List V := [.i .i64 x.a0, .i .i64 x.a1, .sl 10 (x.a2.map S37.row)]
def S23.d (x : S23) : D := .agg [.v (.i .i64 x.a0), .v (.i .i64 x.a1), .v (.sl 10 (x.a2.map S37.row))]
def S23.ok (x : S23) : Prop := (okI x.a0) ∧ (okI x.a1) ∧ (okN 104 x.a2.length ∧ (∀ y ∈ x.a2, y.ok))
theorem S23.row_inj (a b : S23) (h : a.row = b.row) : a = b := by
  cases a; cases b
  simp only [S23.row, List.cons.injEq, V.i.injEq, V.s.injEq, V.b.injEq, V.sl.injEq, true_and, and_true, rowS_inj, rowI_inj, rowB_inj, S7.map_inj, S13.map_inj, S37.map_inj] at h
  simp only [S23.mk.injEq]
  simp only [h, and_self]
theorem S23.map_inj {a b : List S23} : a.map S23.row = b.map S23.row ↔ a = b := Mx.map_inj S23.row_inj
theorem S23.d_inj (a b : S23) (h : a.d = b.d) : a = b := by
  cases a; cases b
  simp only [S23.d, D.agg.injEq, D.v.injEq, List.cons.injEq, V.i.injEq, V.s.injEq, V.b.injEq, V.sl.injEq, true_and, and_true, rowS_inj, rowI_inj, rowB_inj, S7.map_inj, S13.map_inj, S37.map_inj] at h
  simp only [S23.mk.injEq]
  simp only [h, and_self]
structure S33 where
  a0 : Int
  a1 : ByteArray
  a2 : ByteArray
  a3 : ByteArray
  a4 : Int
def S33.row (x : S33) : List V := [.i .i64 x.a0, .s x.a1, .s x.a2, .s x.a3, .i .i64 x.a4]
def S33.d (x : S33) : D := .agg [.v (.i .i64 x.a0), .v (.s x.a1), .v (.s x.a2), .v (.s x.a3), .v (.i .i64 x.a4)]
def S33.ok (x : S33) : Prop := (okI x.a0) ∧ (okS x.a1) ∧ (okS x.a2) ∧ (okS x.a3) ∧ (okI x.a4)
theorem S33.row_inj (a b : S33) (h : a.row = b.row) : a = b := by
  cases a; cases b
  simp only [S33.row, List.cons.injEq, V.i.injEq, V.s.injEq, V.b.injEq, V.sl.injEq, true_and, and_true, rowS_inj, rowI_inj, rowB_inj, S7.map_inj, S13.map_inj, S37.map_inj, S23.map_inj] at h
  simp only [S33.mk.injEq]
  simp only [h, and_self]
theorem S33.map_inj {a b : List S33} : a.map S33.row = b.map S33.row ↔ a = b := Mx.map_inj S33.row_inj
theorem S33.d_inj (a b : S33) (h : a.d = b.d) : a = b := by
  cases a; cases b
  simp only [S33.d, D.agg.injEq, D.v.injEq, List.cons.injEq, V.i.injEq, V.s.injEq, V.b.injEq, V.sl.injEq, true_and, and_true, rowS_inj, rowI_inj, rowB_inj, S7.map_inj, S13.map_inj, S37.map_inj, S23.map_inj] at h
  simp only [S33.mk.injEq]
  simp only [h, and_self]
structure S35 where
  a0 : Int
  a1 : Int
  a2 : Int
  a3 : ByteArray
  a4 : ByteArray
  a5 : ByteArray
  a6 : Int
def S35.row (x : S35) : List V := [.i .i64 x.a0, .i .i64 x.a1, .i .i64 x.a2, .s x.a3, .s x.a4, .s x.a5, .i .i64 x.a6]
def S35.d (x : S35) : D := .agg [.v (.i .i64 x.a0), .v (.i .i64 x.a1), .v (.i .i64 x.a2), .v (.s x.a3), .v (.s x.a4), .v (.s x.a5), .v (.i .i64 x.a6)]
def S35.ok (x : S35) : Prop := (okI x.a0) ∧ (okI x.a1) ∧ (okI x.a2) ∧ (okS x.a3) ∧ (okS x.a4) ∧ (okS x.a5) ∧ (okI x.a6)
theorem S35.row_inj (a b : S35) (h : a.row = b.row) : a = b := by
  cases a; cases b
  simp only [S35.row, List.cons.injEq, V.i.injEq, V.s.injEq, V.b.injEq, V.sl.injEq, true_and, and_true, rowS_inj, rowI_inj, rowB_inj, S7.map_inj, S13.map_inj, S37.map_inj, S23.map_inj, S33.map_inj] at h
  simp only [S35.mk.injEq]
  simp only [h, and_self]
theorem S35.map_inj {a b : List S35} : a.map S35.row = b.map S35.row ↔ a = b := Mx.map_inj S35.row_inj
theorem S35.d_inj (a b : S35) (h : a.d = b.d) : a = b := by
  cases a; cases b
  simp only [S35.d, D.agg.injEq, D.v.injEq, List.cons.injEq, V.i.injEq, V.s.injEq, V.b.injEq, V.sl.injEq, true_and, and_true, rowS_inj, rowI_inj, rowB_inj, S7.map_inj, S13.map_inj, S37.map_inj, S23.map_inj, S33.map_inj] at h
  simp only [S35.mk.injEq]
  simp only [h, and_self]
structure S100 where
  a0 : ByteArray
  a1 : ByteArray
def S100.row (x : S100) : List V := [.s x.a0, .s x.a1]
def S100.d (x : S100) : D := .agg [.v (.s x.a0), .v (.s x.a1)]
def S100.ok (x : S100) : Prop := (okS x.a0) ∧ (okS x.a1)
theorem S100.row_inj (a b : S100) (h : a.row = b.row) : a = b := by
  cases a; cases b
  simp only [S100.row, List.cons.injEq, V.i.injEq, V.s.injEq, V.b.injEq, V.sl.injEq, true_and, and_true, rowS_inj, rowI_inj, rowB_inj, S7.map_inj, S13.map_inj, S37.map_inj, S23.map_inj, S33.map_inj, S35.map_inj] at h
  simp only [S100.mk.injEq]
  simp only [h, and_self]
theorem S100.map_inj {a b : List S100} : a.map S100.row = b.map S100.row ↔ a = b := Mx.map_inj S100.row_inj
theorem S100.d_inj (a b : S100) (h : a.d = b.d) : a = b := by
  cases a; cases b
  simp only [S100.d, D.agg.injEq, D.v.injEq, List.cons.injEq, V.i.injEq, V.s.injEq, V.b.injEq, V.sl.injEq, true_and, and_true, rowS_inj, rowI_inj, rowB_inj, S7.map_inj, S13.map_inj, S37.map_inj, S23.map_inj, S33.map_inj, S35.map_inj] at h
  simp only [S100.mk.injEq]
  simp only [h, and_self]
structure S104 where
  a0 : ByteArray
  a1 : Int
def S104.row (x : S104) : List V := [.s x.a0, .i .i64 x.a1]
def S104.d (x : S104) : D := .agg [.v (.s x.a0), .v (.i .i64 x.a1)]
def S104.ok (x : S104) : Prop := (okS x.a0) ∧ (okI x.a1)
theorem S104.row_inj (a b : S104) (h : a.row = b.row) : a = b := by
  cases a; cases b
  simp only [S104.row, List.cons.injEq, V.i.injEq, V.s.injEq, V.b.injEq, V.sl.injEq, true_and, and_true, rowS_inj, rowI_inj, rowB_inj, S7.map_inj, S13.map_inj, S37.map_inj, S23.map_inj, S33.map_inj, S35.map_inj, S100.map_inj] at h
  simp only [S104.mk.injEq]
  simp only [h, and_self]
theorem S104.map_inj {a b : List S104} : a.map S104.row = b.map S104.row ↔ a = b := Mx.map_inj S104.row_inj
theorem S104.d_inj (a b : S104) (h : a.d = b.d) : a = b := by
  cases a; cases b
  simp only [S104.d, D.agg.injEq, D.v.injEq, List.cons.injEq, V.i.injEq, V.s.injEq, V.b.injEq, V.sl.injEq, true_and, and_true, rowS_inj, rowI_inj, rowB_inj, S7.map_inj, S13.map_inj, S37.map_inj, S23.map_inj, S33.map_inj, S35.map_inj, S100.map_inj] at h
  simp only [S104.mk.injEq]
  simp only [h, and_self]
structure S52 where
  a0 : Int
  a1 : ByteArray
  a2 : Int
  a3 : List S100
  a4 : List ByteArray
  a5 : List S104
def S52.row (x : S52) : List V := [.i .i64 x.a0, .s x.a1, .i .i64 x.a2, .sl 2 (x.a3.map S100.row), .sl 1 (x.a4.map rowS), .sl 2 (x.a5.map S104.row)]
def S52.d (x : S52) : D := .agg [.v (.i .i64 x.a0), .v (.s x.a1), .v (.i .i64 x.a2), .v (.sl 2 (x.a3.map S100.row)), .v (.sl 1 (x.a4.map rowS)), .v (.sl 2 (x.a5.map S104.row))]
def S52.ok (x : S52) : Prop := (okI x.a0) ∧ (okS x.a1) ∧ (okI x.a2) ∧ (okN 32 x.a3.length ∧ (∀ y ∈ x.a3, y.ok)) ∧ (okN 16 x.a4.length ∧ (∀ y ∈ x.a4, okS y)) ∧ (okN 24 x.a5.length ∧ (∀ y ∈ x.a5, y.ok))
theorem S52.row_inj (a b : S52) (h : a.row = b.row) : a = b := by
  cases a; cases b
  simp only [S52.row, List.cons.injEq, V.i.injEq, V.s.injEq, V.b.injEq, V.sl.injEq, true_and, and_true, rowS_inj, rowI_inj, rowB_inj, S7.map_inj, S13.map_inj, S37.map_inj, S23.map_inj, S33.map_inj, S35.map_inj, S100.map_inj, S104.map_inj] at h
  simp only [S52.mk.injEq]
  simp only [h, and_self]
theorem S52.map_inj {a b : List S52} : a.map S52.row = b.map S52.row ↔ a = b := Mx.map_inj S52.row_inj
theorem S52.d_inj (a b : S52) (h : a.d = b.d) : a = b := by
  cases a; cases b
  simp only [S52.d, D.agg.injEq, D.v.injEq, List.cons.injEq, V.i.injEq, V.s.injEq, V.b.injEq, V.sl.injEq, true_and, and_true, rowS_inj, rowI_inj, rowB_inj, S7.map_inj, S13.map_inj, S37.map_inj, S23.map_inj, S33.map_inj, S35.map_inj, S100.map_inj, S104.map_inj] at h
  simp only [S52.mk.injEq]
  simp only [h, and_self]
structure S116 where
  a0 : ByteArray
  a1 : Int
  a2 : ByteArray
  a3 : Int
  a4 : List S100
  a5 : List ByteArray
  a6 : List S104
  a7 : Int
def S116.row (x : S116) : List V := [.s x.a0, .i .i64 x.a1, .s x.a2, .i .i64 x.a3, .sl 2 (x.a4.map S100.row), .sl 1 (x.a5.map rowS), .sl 2 (x.a6.map S104.row), .i .i64 x.a7]
def S116.d (x : S116) : D := .agg [.v (.s x.a0), .v (.i .i64 x.a1), .v (.s x.a2), .v (.i .i64 x.a3), .v (.sl 2 (x.a4.map S100.row)), .v (.sl 1 (x.a5.map rowS)), .v (.sl 2 (x.a6.map S104.row)), .v (.i .i64 x.a7)]
def S116.ok (x : S116) : Prop := (okS x.a0) ∧ (okI x.a1) ∧ (okS x.a2) ∧ (okI x.a3) ∧ (okN 32 x.a4.length ∧ (∀ y ∈ x.a4, y.ok)) ∧ (okN 16 x.a5.length ∧ (∀ y ∈ x.a5, okS y)) ∧ (okN 24 x.a6.length ∧ (∀ y ∈ x.a6, y.ok)) ∧ (okI x.a7)
theorem S116.row_inj (a b : S116) (h : a.row = b.row) : a = b := by
  cases a; cases b
  simp only [S116.row, List.cons.injEq, V.i.injEq, V.s.injEq, V.b.injEq, V.sl.injEq, true_and, and_true, rowS_inj, rowI_inj, rowB_inj, S7.map_inj, S13.map_inj, S37.map_inj, S23.map_inj, S33.map_inj, S35.map_inj, S100.map_inj, S104.map_inj, S52.map_inj] at h
  simp only [S116.mk.injEq]
  simp only [h, and_self]
theorem S116.map_inj {a b : List S116} : a.map S116.row = b.map S116.row ↔ a = b := Mx.map_inj S116.row_inj
theorem S116.d_inj (a b : S116) (h : a.d = b.d) : a = b := by
  cases a; cases b
  simp only [S116.d, D.agg.injEq, D.v.injEq, List.cons.injEq, V.i.injEq, V.s.injEq, V.b.injEq, V.sl.injEq, true_and, and_true, rowS_inj, rowI_inj, rowB_inj, S7.map_inj, S13.map_inj, S37.map_inj, S23.map_inj, S33.map_inj, S35.map_inj, S100.map_inj, S104.map_inj, S52.map_inj] at h
  simp only [S116.mk.injEq]
  simp only [h, and_self]
structure S62 where
  a0 : Int
  a1 : List S116
def S62.row (x : S62) : List V := [.i .i64 x.a0, .sl 8 (x.a1.map S116.row)]
def S62.d (x : S62) : D := .agg [.v (.i .i64 x.a0), .v (.sl 8 (x.a1.map S116.row))]
def S62.ok (x : S62) : Prop := (okI x.a0) ∧ (okN 128 x.a1.length ∧ (∀ y ∈ x.a1, y.ok))
theorem S62.row_inj (a b : S62) (h : a.row = b.row) : a = b := by
  cases a; cases b
  simp only [S62.row, List.cons.injEq, V.i.injEq, V.s.injEq, V.b.injEq, V.sl.injEq, true_and, and_true, rowS_inj, rowI_inj, rowB_inj, S7.map_inj, S13.map_inj, S37.map_inj, S23.map_inj, S33.map_inj, S35.map_inj, S100.map_inj, S104.map_inj, S52.map_inj, S116.map_inj] at h
  simp only [S62.mk.injEq]
  simp only [h, and_self]
theorem S62.map_inj {a b : List S62} : a.map S62.row = b.map S62.row ↔ a = b := Mx.map_inj S62.row_inj
theorem S62.d_inj (a b : S62) (h : a.d = b.d) : a = b := by
  cases a; cases b
  simp only [S62.d, D.agg.injEq, D.v.injEq, List.cons.injEq, V.i.injEq, V.s.injEq, V.b.injEq, V.sl.injEq, true_and, and_true, rowS_inj, rowI_inj, rowB_inj, S7.map_inj, S13.map_inj, S37.map_inj, S23.map_inj, S33.map_inj, S35.map_inj, S100.map_inj, S104.map_inj, S52.map_inj, S116.map_inj] at h
  simp only [S62.mk.injEq]
  simp only [h, and_self]
structure S129 where
  a0 : Int
  a1 : Int
  a2 : Int
  a3 : Int
  a4 : ByteArray
  a5 : Int
  a6 : List ByteArray
def S129.row (x : S129) : List V := [.i .i64 x.a0, .i .i64 x.a1, .i .i64 x.a2, .i .i64 x.a3, .s x.a4, .i .i64 x.a5, .sl 1 (x.a6.map rowS)]
def S129.d (x : S129) : D := .agg [.v (.i .i64 x.a0), .v (.i .i64 x.a1), .v (.i .i64 x.a2), .v (.i .i64 x.a3), .v (.s x.a4), .v (.i .i64 x.a5), .v (.sl 1 (x.a6.map rowS))]
def S129.ok (x : S129) : Prop := (okI x.a0) ∧ (okI x.a1) ∧ (okI x.a2) ∧ (okI x.a3) ∧ (okS x.a4) ∧ (okI x.a5) ∧ (okN 16 x.a6.length ∧ (∀ y ∈ x.a6, okS y))
theorem S129.row_inj (a b : S129) (h : a.row = b.row) : a = b := by
  cases a; cases b
  simp only [S129.row, List.cons.injEq, V.i.injEq, V.s.injEq, V.b.injEq, V.sl.injEq, true_and, and_true, rowS_inj, rowI_inj, rowB_inj, S7.map_inj, S13.map_inj, S37.map_inj, S23.map_inj, S33.map_inj, S35.map_inj, S100.map_inj, S104.map_inj, S52.map_inj, S116.map_inj, S62.map_inj] at h
  simp only [S129.mk.injEq]
  simp only [h, and_self]
theorem S129.map_inj {a b : List S129} : a.map S129.row = b.map S129.row ↔ a = b := Mx.map_inj S129.row_inj
theorem S129.d_inj (a b : S129) (h : a.d = b.d) : a = b := by
  cases a; cases b
  simp only [S129.d, D.agg.injEq, D.v.injEq, List.cons.injEq, V.i.injEq, V.s.injEq, V.b.injEq, V.sl.injEq, true_and, and_true, rowS_inj, rowI_inj, rowB_inj, S7.map_inj, S13.map_inj, S37.map_inj, S23.map_inj, S33.map_inj, S35.map_inj, S100.map_inj, S104.map_inj, S52.map_inj, S116.map_inj, S62.map_inj] at h
  simp only [S129.mk.injEq]
  simp only [h, and_self]
structure S72 where
  a0 : Int
  a1 : List S116
  a2 : Int
  a3 : List S129
def S72.row (x : S72) : List V := [.i .i64 x.a0, .sl 8 (x.a1.map S116.row), .i .i64 x.a2, .sl 7 (x.a3.map S129.row)]
def S72.d (x : S72) : D := .agg [.v (.i .i64 x.a0), .v (.sl 8 (x.a1.map S116.row)), .v (.i .i64 x.a2), .v (.sl 7 (x.a3.map S129.row))]
def S72.ok (x : S72) : Prop := (okI x.a0) ∧ (okN 128 x.a1.length ∧ (∀ y ∈ x.a1, y.ok)) ∧ (okI x.a2) ∧ (okN 80 x.a3.length ∧ (∀ y ∈ x.a3, y.ok))
theorem S72.row_inj (a b : S72) (h : a.row = b.row) : a = b := by
  cases a; cases b
  simp only [S72.row, List.cons.injEq, V.i.injEq, V.s.injEq, V.b.injEq, V.sl.injEq, true_and, and_true, rowS_inj, rowI_inj, rowB_inj, S7.map_inj, S13.map_inj, S37.map_inj, S23.map_inj, S33.map_inj, S35.map_inj, S100.map_inj, S104.map_inj, S52.map_inj, S116.map_inj, S62.map_inj, S129.map_inj] at h
  simp only [S72.mk.injEq]
  simp only [h, and_self]
theorem S72.map_inj {a b : List S72} : a.map S72.row = b.map S72.row ↔ a = b := Mx.map_inj S72.row_inj
theorem S72.d_inj (a b : S72) (h : a.d = b.d) : a = b := by
  cases a; cases b
  simp only [S72.d, D.agg.injEq, D.v.injEq, List.cons.injEq, V.i.injEq, V.s.injEq, V.b.injEq, V.sl.injEq, true_and, and_true, rowS_inj, rowI_inj, rowB_inj, S7.map_inj, S13.map_inj, S37.map_inj, S23.map_inj, S33.map_inj, S35.map_inj, S100.map_inj, S104.map_inj, S52.map_inj, S116.map_inj, S62.map_inj, S129.map_inj] at h
  simp only [S72.mk.injEq]
  simp only [h, and_self]
structure S77 where
  a0 : Int
  a1 : Int
  a2 : Int
  a3 : List S116
  a4 : Int
  a5 : List S129
def S77.row (x : S77) : List V := [.i .i64 x.a0, .i .i64 x.a1, .i .i64 x.a2, .sl 8 (x.a3.map S116.row), .i .i64 x.a4, .sl 7 (x.a5.map S129.row)]
def S77.d (x : S77) : D := .agg [.v (.i .i64 x.a0), .v (.i .i64 x.a1), .v (.i .i64 x.a2), .v (.sl 8 (x.a3.map S116.row)), .v (.i .i64 x.a4), .v (.sl 7 (x.a5.map S129.row))]
def S77.ok (x : S77) : Prop := (okI x.a0) ∧ (okI x.a1) ∧ (okI x.a2) ∧ (okN 128 x.a3.length ∧ (∀ y ∈ x.a3, y.ok)) ∧ (okI x.a4) ∧ (okN 80 x.a5.length ∧ (∀ y ∈ x.a5, y.ok))
theorem S77.row_inj (a b : S77) (h : a.row = b.row) : a = b := by
  cases a; cases b
  simp only [S77.row, List.cons.injEq, V.i.injEq, V.s.injEq, V.b.injEq, V.sl.injEq, true_and, and_true, rowS_inj, rowI_inj, rowB_inj, S7.map_inj, S13.map_inj, S37.map_inj, S23.map_inj, S33.map_inj, S35.map_inj, S100.map_inj, S104.map_inj, S52.map_inj, S116.map_inj, S62.map_inj, S129.map_inj, S72.map_inj] at h
  simp only [S77.mk.injEq]
  simp only [h, and_self]
theorem S77.map_inj {a b : List S77} : a.map S77.row = b.map S77.row ↔ a = b := Mx.map_inj S77.row_inj
theorem S77.d_inj (a b : S77) (h : a.d = b.d) : a = b := by
  cases a; cases b
  simp only [S77.d, D.agg.injEq, D.v.injEq, List.cons.injEq, V.i.injEq, V.s.injEq, V.b.injEq, V.sl.injEq, true_and, and_true, rowS_inj, rowI_inj, rowB_inj, S7.map_inj, S13.map_inj, S37.map_inj, S23.map_inj, S33.map_inj, S35.map_inj, S100.map_inj, S104.map_inj, S52.map_inj, S116.map_inj, S62.map_inj, S129.map_inj, S72.map_inj] at h
  simp only [S77.mk.injEq]
  simp only [h, and_self]
structure S92 where
  a0 : List Int
def S92.row (x : S92) : List V := [.sl 1 (x.a0.map rowB)]
def S92.d (x : S92) : D := .agg [.v (.sl 1 (x.a0.map rowB))]
def S92.ok (x : S92) : Prop := (okN 1 x.a0.length ∧ (∀ y ∈ x.a0, ((IntKind.u8).min ≤ y ∧ y ≤ (IntKind.u8).max)))
theorem S92.row_inj (a b : S92) (h : a.row = b.row) : a = b := by
  cases a; cases b
  simp only [S92.row, List.cons.injEq, V.i.injEq, V.s.injEq, V.b.injEq, V.sl.injEq, true_and, and_true, rowS_inj, rowI_inj, rowB_inj, S7.map_inj, S13.map_inj, S37.map_inj, S23.map_inj, S33.map_inj, S35.map_inj, S100.map_inj, S104.map_inj, S52.map_inj, S116.map_inj, S62.map_inj, S129.map_inj, S72.map_inj, S77.map_inj] at h
  simp only [S92.mk.injEq]
  simp only [h, and_self]
theorem S92.map_inj {a b : List S92} : a.map S92.row = b.map S92.row ↔ a = b := Mx.map_inj S92.row_inj
theorem S92.d_inj (a b : S92) (h : a.d = b.d) : a = b := by
  cases a; cases b
  simp only [S92.d, D.agg.injEq, D.v.injEq, List.cons.injEq, V.i.injEq, V.s.injEq, V.b.injEq, V.sl.injEq, true_and, and_true, rowS_inj, rowI_inj, rowB_inj, S7.map_inj, S13.map_inj, S37.map_inj, S23.map_inj, S33.map_inj, S35.map_inj, S100.map_inj, S104.map_inj, S52.map_inj, S116.map_inj, S62.map_inj, S129.map_inj, S72.map_inj, S77.map_inj] at h
  simp only [S92.mk.injEq]
  simp only [h, and_self]
structure S119 where
  a0 : List Int
  a1 : Bool
def S119.row (x : S119) : List V := [.sl 1 (x.a0.map rowB), .b x.a1]
def S119.d (x : S119) : D := .agg [.v (.sl 1 (x.a0.map rowB)), .v (.b x.a1)]
def S119.ok (x : S119) : Prop := (okN 1 x.a0.length ∧ (∀ y ∈ x.a0, ((IntKind.u8).min ≤ y ∧ y ≤ (IntKind.u8).max))) ∧ (True)
theorem S119.row_inj (a b : S119) (h : a.row = b.row) : a = b := by
  cases a; cases b
  simp only [S119.row, List.cons.injEq, V.i.injEq, V.s.injEq, V.b.injEq, V.sl.injEq, true_and, and_true, rowS_inj, rowI_inj, rowB_inj, S7.map_inj, S13.map_inj, S37.map_inj, S23.map_inj, S33.map_inj, S35.map_inj, S100.map_inj, S104.map_inj, S52.map_inj, S116.map_inj, S62.map_inj, S129.map_inj, S72.map_inj, S77.map_inj, S92.map_inj] at h
  simp only [S119.mk.injEq]
  simp only [h, and_self]
theorem S119.map_inj {a b : List S119} : a.map S119.row = b.map S119.row ↔ a = b := Mx.map_inj S119.row_inj
theorem S119.d_inj (a b : S119) (h : a.d = b.d) : a = b := by
  cases a; cases b
  simp only [S119.d, D.agg.injEq, D.v.injEq, List.cons.injEq, V.i.injEq, V.s.injEq, V.b.injEq, V.sl.injEq, true_and, and_true, rowS_inj, rowI_inj, rowB_inj, S7.map_inj, S13.map_inj, S37.map_inj, S23.map_inj, S33.map_inj, S35.map_inj, S100.map_inj, S104.map_inj, S52.map_inj, S116.map_inj, S62.map_inj, S129.map_inj, S72.map_inj, S77.map_inj, S92.map_inj] at h
  simp only [S119.mk.injEq]
  simp only [h, and_self]
structure S125 where
  a0 : List Int
  a1 : Int
def S125.row (x : S125) : List V := [.sl 1 (x.a0.map rowB), .i .i64 x.a1]
def S125.d (x : S125) : D := .agg [.v (.sl 1 (x.a0.map rowB)), .v (.i .i64 x.a1)]
def S125.ok (x : S125) : Prop := (okN 1 x.a0.length ∧ (∀ y ∈ x.a0, ((IntKind.u8).min ≤ y ∧ y ≤ (IntKind.u8).max))) ∧ (okI x.a1)
theorem S125.row_inj (a b : S125) (h : a.row = b.row) : a = b := by
  cases a; cases b
  simp only [S125.row, List.cons.injEq, V.i.injEq, V.s.injEq, V.b.injEq, V.sl.injEq, true_and, and_true, rowS_inj, rowI_inj, rowB_inj, S7.map_inj, S13.map_inj, S37.map_inj, S23.map_inj, S33.map_inj, S35.map_inj, S100.map_inj, S104.map_inj, S52.map_inj, S116.map_inj, S62.map_inj, S129.map_inj, S72.map_inj, S77.map_inj, S92.map_inj, S119.map_inj] at h
  simp only [S125.mk.injEq]
  simp only [h, and_self]
theorem S125.map_inj {a b : List S125} : a.map S125.row = b.map S125.row ↔ a = b := Mx.map_inj S125.row_inj
theorem S125.d_inj (a b : S125) (h : a.d = b.d) : a = b := by
  cases a; cases b
  simp only [S125.d, D.agg.injEq, D.v.injEq, List.cons.injEq, V.i.injEq, V.s.injEq, V.b.injEq, V.sl.injEq, true_and, and_true, rowS_inj, rowI_inj, rowB_inj, S7.map_inj, S13.map_inj, S37.map_inj, S23.map_inj, S33.map_inj, S35.map_inj, S100.map_inj, S104.map_inj, S52.map_inj, S116.map_inj, S62.map_inj, S129.map_inj, S72.map_inj, S77.map_inj, S92.map_inj, S119.map_inj] at h
  simp only [S125.mk.injEq]
  simp only [h, and_self]
structure S127 where
  a0 : Int
  a1 : ByteArray
  a2 : Int
  a3 : List ByteArray
def S127.row (x : S127) : List V := [.i .i64 x.a0, .s x.a1, .i .i64 x.a2, .sl 1 (x.a3.map rowS)]
def S127.d (x : S127) : D := .agg [.v (.i .i64 x.a0), .v (.s x.a1), .v (.i .i64 x.a2), .v (.sl 1 (x.a3.map rowS))]
def S127.ok (x : S127) : Prop := (okI x.a0) ∧ (okS x.a1) ∧ (okI x.a2) ∧ (okN 16 x.a3.length ∧ (∀ y ∈ x.a3, okS y))
theorem S127.row_inj (a b : S127) (h : a.row = b.row) : a = b := by
  cases a; cases b
  simp only [S127.row, List.cons.injEq, V.i.injEq, V.s.injEq, V.b.injEq, V.sl.injEq, true_and, and_true, rowS_inj, rowI_inj, rowB_inj, S7.map_inj, S13.map_inj, S37.map_inj, S23.map_inj, S33.map_inj, S35.map_inj, S100.map_inj, S104.map_inj, S52.map_inj, S116.map_inj, S62.map_inj, S129.map_inj, S72.map_inj, S77.map_inj, S92.map_inj, S119.map_inj, S125.map_inj] at h
  simp only [S127.mk.injEq]
  simp only [h, and_self]
theorem S127.map_inj {a b : List S127} : a.map S127.row = b.map S127.row ↔ a = b := Mx.map_inj S127.row_inj
theorem S127.d_inj (a b : S127) (h : a.d = b.d) : a = b := by
  cases a; cases b
  simp only [S127.d, D.agg.injEq, D.v.injEq, List.cons.injEq, V.i.injEq, V.s.injEq, V.b.injEq, V.sl.injEq, true_and, and_true, rowS_inj, rowI_inj, rowB_inj, S7.map_inj, S13.map_inj, S37.map_inj, S23.map_inj, S33.map_inj, S35.map_inj, S100.map_inj, S104.map_inj, S52.map_inj, S116.map_inj, S62.map_inj, S129.map_inj, S72.map_inj, S77.map_inj, S92.map_inj, S119.map_inj, S125.map_inj] at h
  simp only [S127.mk.injEq]
  simp only [h, and_self]
theorem S7.of7 {k : Nat} {r : List V} (h : HasV Try.prog k 7 r) : ∃ x : S7, r = x.row ∧ x.ok := by
  obtain ⟨k0, h0⟩ := has_struct Try.underlying7 h
  simp only [hasFs] at h0
  obtain ⟨_, _, rfl, f0_0, _, _, rfl, f0_1, _, _, rfl, f0_2, _, _, rfl, f0_3, rfl⟩ := h0
  obtain ⟨n1, rfl, o1⟩ := has_int Try.underlying2 f0_0
  obtain ⟨n2, rfl, o2⟩ := has_int Try.underlying3 f0_1
  obtain ⟨n3, rfl⟩ := has_bool Try.underlying4 f0_2
  obtain ⟨n4, rfl, o4⟩ := has_int Try.underlying6 f0_3
  exact ⟨⟨n1, n2, n3, n4⟩, rfl, ⟨okI_of o1, okI_of o2, trivial, o4⟩⟩
theorem S7.of8 {k : Nat} {r : List V} (h : HasV Try.prog k 8 r) : ∃ x : S7, r = x.row ∧ x.ok := by
  obtain ⟨k0, h0⟩ := has_struct Try.underlying8 h
  simp only [hasFs] at h0
  obtain ⟨_, _, rfl, f0_0, _, _, rfl, f0_1, _, _, rfl, f0_2, _, _, rfl, f0_3, rfl⟩ := h0
  obtain ⟨n1, rfl, o1⟩ := has_int Try.underlying2 f0_0
  obtain ⟨n2, rfl, o2⟩ := has_int Try.underlying3 f0_1
  obtain ⟨n3, rfl⟩ := has_bool Try.underlying4 f0_2
  obtain ⟨n4, rfl, o4⟩ := has_int Try.underlying6 f0_3
  exact ⟨⟨n1, n2, n3, n4⟩, rfl, ⟨okI_of o1, okI_of o2, trivial, o4⟩⟩
theorem S13.of13 {k : Nat} {r : List V} (h : HasV Try.prog k 13 r) : ∃ x : S13, r = x.row ∧ x.ok := by
  obtain ⟨k0, h0⟩ := has_struct Try.underlying13 h
  simp only [hasFs] at h0
  obtain ⟨_, _, rfl, f0_0, _, _, rfl, f0_1, rfl⟩ := h0
  obtain ⟨n1, rfl, o1⟩ := has_str Try.underlying9 f0_0
  obtain ⟨n2, rfl, o2⟩ := has_int Try.underlying12 f0_1
  exact ⟨⟨n1, n2⟩, rfl, ⟨o1, o2⟩⟩
theorem S13.of14 {k : Nat} {r : List V} (h : HasV Try.prog k 14 r) : ∃ x : S13, r = x.row ∧ x.ok := by
  obtain ⟨k0, h0⟩ := has_struct Try.underlying14 h
  simp only [hasFs] at h0
  obtain ⟨_, _, rfl, f0_0, _, _, rfl, f0_1, rfl⟩ := h0
  obtain ⟨n1, rfl, o1⟩ := has_str Try.underlying9 f0_0
  obtain ⟨n2, rfl, o2⟩ := has_int Try.underlying12 f0_1
  exact ⟨⟨n1, n2⟩, rfl, ⟨o1, o2⟩⟩
theorem S37.of38 {k : Nat} {r : List V} (h : HasV Try.prog k 38 r) : ∃ x : S37, r = x.row ∧ x.ok := by
  obtain ⟨k0, h0⟩ := has_struct Try.underlying38 h
  simp only [hasFs] at h0
  obtain ⟨_, _, rfl, f0_0, _, _, rfl, f0_1, _, _, rfl, f0_2, _, _, rfl, f0_3, rfl⟩ := h0
  obtain ⟨n1, rfl, o1⟩ := has_int Try.underlying3 f0_0
  obtain ⟨n2, rfl, o2⟩ := has_int Try.underlying3 f0_1
  obtain ⟨n3, rfl⟩ := has_bool Try.underlying4 f0_2
  obtain ⟨k4, h4⟩ := has_struct Try.underlying36 f0_3
  simp only [hasFs] at h4
  obtain ⟨_, _, rfl, f4_0, _, _, rfl, f4_1, _, _, rfl, f4_2, rfl⟩ := h4
  obtain ⟨n5, rfl, o5⟩ := has_int Try.underlying3 f4_0
  obtain ⟨n6, rfl, o6⟩ := has_int Try.underlying3 f4_1
  obtain ⟨k7, h7⟩ := has_struct Try.underlying34 f4_2
  simp only [hasFs] at h7
  obtain ⟨_, _, rfl, f7_0, _, _, rfl, f7_1, _, _, rfl, f7_2, _, _, rfl, f7_3, _, _, rfl, f7_4, rfl⟩ := h7
  obtain ⟨n8, rfl, o8⟩ := has_int Try.underlying3 f7_0
  obtain ⟨n9, rfl, o9⟩ := has_str Try.underlying9 f7_1
  obtain ⟨n10, rfl, o10⟩ := has_str Try.underlying9 f7_2
  obtain ⟨n11, rfl, o11⟩ := has_str Try.underlying9 f7_3
  obtain ⟨n12, rfl, o12⟩ := has_int Try.underlying3 f7_4
  exact ⟨⟨n1, n2, n3, n5, n6, n8, n9, n10, n11, n12⟩, rfl, ⟨okI_of o1, okI_of o2, trivial, okI_of o5, okI_of o6, okI_of o8, o9, o10, o11, okI_of o12⟩⟩
theorem S23.of23 {k : Nat} {r : List V} (h : HasV Try.prog k 23 r) : ∃ x : S23, r = x.row ∧ x.ok := by
  obtain ⟨k0, h0⟩ := has_struct Try.underlying23 h
  simp only [hasFs] at h0
  obtain ⟨_, _, rfl, f0_0, _, _, rfl, f0_1, _, _, rfl, f0_2, rfl⟩ := h0
  obtain ⟨n1, rfl, o1⟩ := has_int Try.underlying3 f0_0
  obtain ⟨n2, rfl, o2⟩ := has_int Try.underlying3 f0_1
  obtain ⟨l3, j3, rfl, o3, q3⟩ := has_slice (n := 10) (m := 104) Try.underlying22 (by kernel_rfl) (by kernel_rfl) f0_2
  obtain ⟨n3, rfl, p3⟩ := rows_of (f := S37.row) (ok := fun y => y.ok) (fun r hr => S37.of38 (q3 r hr))
  rw [List.length_map] at o3
  exact ⟨⟨n1, n2, n3⟩, rfl, ⟨okI_of o1, okI_of o2, ⟨o3, p3⟩⟩⟩
theorem S23.of24 {k : Nat} {r : List V} (h : HasV Try.prog k 24 r) : ∃ x : S23, r = x.row ∧ x.ok := by
  obtain ⟨k0, h0⟩ := has_struct Try.underlying24 h
  simp only [hasFs] at h0
  obtain ⟨_, _, rfl, f0_0, _, _, rfl, f0_1, _, _, rfl, f0_2, rfl⟩ := h0
  obtain ⟨n1, rfl, o1⟩ := has_int Try.underlying3 f0_0
  obtain ⟨n2, rfl, o2⟩ := has_int Try.underlying3 f0_1
  obtain ⟨l3, j3, rfl, o3, q3⟩ := has_slice (n := 10) (m := 104) Try.underlying22 (by kernel_rfl) (by kernel_rfl) f0_2
  obtain ⟨n3, rfl, p3⟩ := rows_of (f := S37.row) (ok := fun y => y.ok) (fun r hr => S37.of38 (q3 r hr))
  rw [List.length_map] at o3
  exact ⟨⟨n1, n2, n3⟩, rfl, ⟨okI_of o1, okI_of o2, ⟨o3, p3⟩⟩⟩
theorem S33.of33 {k : Nat} {r : List V} (h : HasV Try.prog k 33 r) : ∃ x : S33, r = x.row ∧ x.ok := by
  obtain ⟨k0, h0⟩ := has_struct Try.underlying33 h
  simp only [hasFs] at h0
  obtain ⟨_, _, rfl, f0_0, _, _, rfl, f0_1, _, _, rfl, f0_2, _, _, rfl, f0_3, _, _, rfl, f0_4, rfl⟩ := h0
  obtain ⟨n1, rfl, o1⟩ := has_int Try.underlying3 f0_0
  obtain ⟨n2, rfl, o2⟩ := has_str Try.underlying9 f0_1
  obtain ⟨n3, rfl, o3⟩ := has_str Try.underlying9 f0_2
  obtain ⟨n4, rfl, o4⟩ := has_str Try.underlying9 f0_3
  obtain ⟨n5, rfl, o5⟩ := has_int Try.underlying3 f0_4
  exact ⟨⟨n1, n2, n3, n4, n5⟩, rfl, ⟨okI_of o1, o2, o3, o4, okI_of o5⟩⟩
theorem S33.of34 {k : Nat} {r : List V} (h : HasV Try.prog k 34 r) : ∃ x : S33, r = x.row ∧ x.ok := by
  obtain ⟨k0, h0⟩ := has_struct Try.underlying34 h
  simp only [hasFs] at h0
  obtain ⟨_, _, rfl, f0_0, _, _, rfl, f0_1, _, _, rfl, f0_2, _, _, rfl, f0_3, _, _, rfl, f0_4, rfl⟩ := h0
  obtain ⟨n1, rfl, o1⟩ := has_int Try.underlying3 f0_0
  obtain ⟨n2, rfl, o2⟩ := has_str Try.underlying9 f0_1
  obtain ⟨n3, rfl, o3⟩ := has_str Try.underlying9 f0_2
  obtain ⟨n4, rfl, o4⟩ := has_str Try.underlying9 f0_3
  obtain ⟨n5, rfl, o5⟩ := has_int Try.underlying3 f0_4
  exact ⟨⟨n1, n2, n3, n4, n5⟩, rfl, ⟨okI_of o1, o2, o3, o4, okI_of o5⟩⟩
theorem S35.of35 {k : Nat} {r : List V} (h : HasV Try.prog k 35 r) : ∃ x : S35, r = x.row ∧ x.ok := by
  obtain ⟨k0, h0⟩ := has_struct Try.underlying35 h
  simp only [hasFs] at h0
  obtain ⟨_, _, rfl, f0_0, _, _, rfl, f0_1, _, _, rfl, f0_2, rfl⟩ := h0
  obtain ⟨n1, rfl, o1⟩ := has_int Try.underlying3 f0_0
  obtain ⟨n2, rfl, o2⟩ := has_int Try.underlying3 f0_1
  obtain ⟨k3, h3⟩ := has_struct Try.underlying34 f0_2
  simp only [hasFs] at h3
  obtain ⟨_, _, rfl, f3_0, _, _, rfl, f3_1, _, _, rfl, f3_2, _, _, rfl, f3_3, _, _, rfl, f3_4, rfl⟩ := h3
  obtain ⟨n4, rfl, o4⟩ := has_int Try.underlying3 f3_0
  obtain ⟨n5, rfl, o5⟩ := has_str Try.underlying9 f3_1
  obtain ⟨n6, rfl, o6⟩ := has_str Try.underlying9 f3_2
  obtain ⟨n7, rfl, o7⟩ := has_str Try.underlying9 f3_3
  obtain ⟨n8, rfl, o8⟩ := has_int Try.underlying3 f3_4
  exact ⟨⟨n1, n2, n4, n5, n6, n7, n8⟩, rfl, ⟨okI_of o1, okI_of o2, okI_of o4, o5, o6, o7, okI_of o8⟩⟩
theorem S35.of36 {k : Nat} {r : List V} (h : HasV Try.prog k 36 r) : ∃ x : S35, r = x.row ∧ x.ok := by
  obtain ⟨k0, h0⟩ := has_struct Try.underlying36 h
  simp only [hasFs] at h0
  obtain ⟨_, _, rfl, f0_0, _, _, rfl, f0_1, _, _, rfl, f0_2, rfl⟩ := h0
  obtain ⟨n1, rfl, o1⟩ := has_int Try.underlying3 f0_0
  obtain ⟨n2, rfl, o2⟩ := has_int Try.underlying3 f0_1
  obtain ⟨k3, h3⟩ := has_struct Try.underlying34 f0_2
  simp only [hasFs] at h3
  obtain ⟨_, _, rfl, f3_0, _, _, rfl, f3_1, _, _, rfl, f3_2, _, _, rfl, f3_3, _, _, rfl, f3_4, rfl⟩ := h3
  obtain ⟨n4, rfl, o4⟩ := has_int Try.underlying3 f3_0
  obtain ⟨n5, rfl, o5⟩ := has_str Try.underlying9 f3_1
  obtain ⟨n6, rfl, o6⟩ := has_str Try.underlying9 f3_2
  obtain ⟨n7, rfl, o7⟩ := has_str Try.underlying9 f3_3
  obtain ⟨n8, rfl, o8⟩ := has_int Try.underlying3 f3_4
  exact ⟨⟨n1, n2, n4, n5, n6, n7, n8⟩, rfl, ⟨okI_of o1, okI_of o2, okI_of o4, o5, o6, o7, okI_of o8⟩⟩
theorem S37.of37 {k : Nat} {r : List V} (h : HasV Try.prog k 37 r) : ∃ x : S37, r = x.row ∧ x.ok := by
  obtain ⟨k0, h0⟩ := has_struct Try.underlying37 h
  simp only [hasFs] at h0
  obtain ⟨_, _, rfl, f0_0, _, _, rfl, f0_1, _, _, rfl, f0_2, _, _, rfl, f0_3, rfl⟩ := h0
  obtain ⟨n1, rfl, o1⟩ := has_int Try.underlying3 f0_0
  obtain ⟨n2, rfl, o2⟩ := has_int Try.underlying3 f0_1
  obtain ⟨n3, rfl⟩ := has_bool Try.underlying4 f0_2
  obtain ⟨k4, h4⟩ := has_struct Try.underlying36 f0_3
  simp only [hasFs] at h4
  obtain ⟨_, _, rfl, f4_0, _, _, rfl, f4_1, _, _, rfl, f4_2, rfl⟩ := h4
  obtain ⟨n5, rfl, o5⟩ := has_int Try.underlying3 f4_0
  obtain ⟨n6, rfl, o6⟩ := has_int Try.underlying3 f4_1
  obtain ⟨k7, h7⟩ := has_struct Try.underlying34 f4_2
  simp only [hasFs] at h7
  obtain ⟨_, _, rfl, f7_0, _, _, rfl, f7_1, _, _, rfl, f7_2, _, _, rfl, f7_3, _, _, rfl, f7_4, rfl⟩ := h7
  obtain ⟨n8, rfl, o8⟩ := has_int Try.underlying3 f7_0
  obtain ⟨n9, rfl, o9⟩ := has_str Try.underlying9 f7_1
  obtain ⟨n10, rfl, o10⟩ := has_str Try.underlying9 f7_2
  obtain ⟨n11, rfl, o11⟩ := has_str Try.underlying9 f7_3
  obtain ⟨n12, rfl, o12⟩ := has_int Try.underlying3 f7_4
  exact ⟨⟨n1, n2, n3, n5, n6, n8, n9, n10, n11, n12⟩, rfl, ⟨okI_of o1, okI_of o2, trivial, okI_of o5, okI_of o6, okI_of o8, o9, o10, o11, okI_of o12⟩⟩
theorem S100.of101 {k : Nat} {r : List V} (h : HasV Try.prog k 101 r) : ∃ x : S100, r = x.row ∧ x.ok := by
  obtain ⟨k0, h0⟩ := has_struct Try.underlying101 h
  simp only [hasFs] at h0
  obtain ⟨_, _, rfl, f0_0, _, _, rfl, f0_1, rfl⟩ := h0
  obtain ⟨n1, rfl, o1⟩ := has_str Try.underlying9 f0_0
  obtain ⟨n2, rfl, o2⟩ := has_str Try.underlying9 f0_1
  exact ⟨⟨n1, n2⟩, rfl, ⟨o1, o2⟩⟩
theorem S104.of105 {k : Nat} {r : List V} (h : HasV Try.prog k 105 r) : ∃ x : S104, r = x.row ∧ x.ok := by
  obtain ⟨k0, h0⟩ := has_struct Try.underlying105 h
  simp only [hasFs] at h0
  obtain ⟨_, _, rfl, f0_0, _, _, rfl, f0_1, rfl⟩ := h0
  obtain ⟨n1, rfl, o1⟩ := has_str Try.underlying9 f0_0
  obtain ⟨n2, rfl, o2⟩ := has_int Try.underlying3 f0_1
  exact ⟨⟨n1, n2⟩, rfl, ⟨o1, okI_of o2⟩⟩
theorem S52.of52 {k : Nat} {r : List V} (h : HasV Try.prog k 52 r) : ∃ x : S52, r = x.row ∧ x.ok := by
  obtain ⟨k0, h0⟩ := has_struct Try.underlying52 h
  simp only [hasFs] at h0
  obtain ⟨_, _, rfl, f0_0, _, _, rfl, f0_1, _, _, rfl, f0_2, _, _, rfl, f0_3, _, _, rfl, f0_4, _, _, rfl, f0_5, rfl⟩ := h0
  obtain ⟨n1, rfl, o1⟩ := has_int Try.underlying3 f0_0
  obtain ⟨n2, rfl, o2⟩ := has_str Try.underlying9 f0_1
  obtain ⟨n3, rfl, o3⟩ := has_int Try.underlying3 f0_2
  obtain ⟨l4, j4, rfl, o4, q4⟩ := has_slice (n := 2) (m := 32) Try.underlying49 (by kernel_rfl) (by kernel_rfl) f0_3
  obtain ⟨n4, rfl, p4⟩ := rows_of (f := S100.row) (ok := fun y => y.ok) (fun r hr => S100.of101 (q4 r hr))
  rw [List.length_map] at o4
  obtain ⟨l5, j5, rfl, o5, q5⟩ := has_slice (n := 1) (m := 16) Try.underlying50 (by kernel_rfl) (by kernel_rfl) f0_4
  obtain ⟨n5, rfl, p5⟩ := rows_of (f := rowS) (ok := fun y => okS y) (fun r hr => by obtain ⟨s, h1, h2⟩ := has_str Try.underlying9 (q5 r hr); exact ⟨s, h1, h2⟩)
  rw [List.length_map] at o5
  obtain ⟨l6, j6, rfl, o6, q6⟩ := has_slice (n := 2) (m := 24) Try.underlying51 (by kernel_rfl) (by kernel_rfl) f0_5
  obtain ⟨n6, rfl, p6⟩ := rows_of (f := S104.row) (ok := fun y => y.ok) (fun r hr => S104.of105 (q6 r hr))
  rw [List.length_map] at o6
  exact ⟨⟨n1, n2, n3, n4, n5, n6⟩, rfl, ⟨okI_of o1, o2, okI_of o3, ⟨o4, p4⟩, ⟨o5, p5⟩, ⟨o6, p6⟩⟩⟩
theorem S52.of53 {k : Nat} {r : List V} (h : HasV Try.prog k 53 r) : ∃ x : S52, r = x.row ∧ x.ok := by
  obtain ⟨k0, h0⟩ := has_struct Try.underlying53 h
  simp only [hasFs] at h0
  obtain ⟨_, _, rfl, f0_0, _, _, rfl, f0_1, _, _, rfl, f0_2, _, _, rfl, f0_3, _, _, rfl, f0_4, _, _, rfl, f0_5, rfl⟩ := h0
  obtain ⟨n1, rfl, o1⟩ := has_int Try.underlying3 f0_0
  obtain ⟨n2, rfl, o2⟩ := has_str Try.underlying9 f0_1
  obtain ⟨n3, rfl, o3⟩ := has_int Try.underlying3 f0_2
  obtain ⟨l4, j4, rfl, o4, q4⟩ := has_slice (n := 2) (m := 32) Try.underlying49 (by kernel_rfl) (by kernel_rfl) f0_3
  obtain ⟨n4, rfl, p4⟩ := rows_of (f := S100.row) (ok := fun y => y.ok) (fun r hr => S100.of101 (q4 r hr))
  rw [List.length_map] at o4
  obtain ⟨l5, j5, rfl, o5, q5⟩ := has_slice (n := 1) (m := 16) Try.underlying50 (by kernel_rfl) (by kernel_rfl) f0_4
  obtain ⟨n5, rfl, p5⟩ := rows_of (f := rowS) (ok := fun y => okS y) (fun r hr => by obtain ⟨s, h1, h2⟩ := has_str Try.underlying9 (q5 r hr); exact ⟨s, h1, h2⟩)
  rw [List.length_map] at o5
  obtain ⟨l6, j6, rfl, o6, q6⟩ := has_slice (n := 2) (m := 24) Try.underlying51 (by kernel_rfl) (by kernel_rfl) f0_5
  obtain ⟨n6, rfl, p6⟩ := rows_of (f := S104.row) (ok := fun y => y.ok) (fun r hr => S104.of105 (q6 r hr))
  rw [List.length_map] at o6
  exact ⟨⟨n1, n2, n3, n4, n5, n6⟩, rfl, ⟨okI_of o1, o2, okI_of o3, ⟨o4, p4⟩, ⟨o5, p5⟩, ⟨o6, p6⟩⟩⟩
theorem S116.of117 {k : Nat} {r : List V} (h : HasV Try.prog k 117 r) : ∃ x : S116, r = x.row ∧ x.ok := by
  obtain ⟨k0, h0⟩ := has_struct Try.underlying117 h
  simp only [hasFs] at h0
  obtain ⟨_, _, rfl, f0_0, _, _, rfl, f0_1, _, _, rfl, f0_2, rfl⟩ := h0
  obtain ⟨n1, rfl, o1⟩ := has_str Try.underlying9 f0_0
  obtain ⟨k2, h2⟩ := has_struct Try.underlying53 f0_1
  simp only [hasFs] at h2
  obtain ⟨_, _, rfl, f2_0, _, _, rfl, f2_1, _, _, rfl, f2_2, _, _, rfl, f2_3, _, _, rfl, f2_4, _, _, rfl, f2_5, rfl⟩ := h2
  obtain ⟨n3, rfl, o3⟩ := has_int Try.underlying3 f2_0
  obtain ⟨n4, rfl, o4⟩ := has_str Try.underlying9 f2_1
  obtain ⟨n5, rfl, o5⟩ := has_int Try.underlying3 f2_2
  obtain ⟨l6, j6, rfl, o6, q6⟩ := has_slice (n := 2) (m := 32) Try.underlying49 (by kernel_rfl) (by kernel_rfl) f2_3
  obtain ⟨n6, rfl, p6⟩ := rows_of (f := S100.row) (ok := fun y => y.ok) (fun r hr => S100.of101 (q6 r hr))
  rw [List.length_map] at o6
  obtain ⟨l7, j7, rfl, o7, q7⟩ := has_slice (n := 1) (m := 16) Try.underlying50 (by kernel_rfl) (by kernel_rfl) f2_4
  obtain ⟨n7, rfl, p7⟩ := rows_of (f := rowS) (ok := fun y => okS y) (fun r hr => by obtain ⟨s, h1, h2⟩ := has_str Try.underlying9 (q7 r hr); exact ⟨s, h1, h2⟩)
  rw [List.length_map] at o7
  obtain ⟨l8, j8, rfl, o8, q8⟩ := has_slice (n := 2) (m := 24) Try.underlying51 (by kernel_rfl) (by kernel_rfl) f2_5
  obtain ⟨n8, rfl, p8⟩ := rows_of (f := S104.row) (ok := fun y => y.ok) (fun r hr => S104.of105 (q8 r hr))
  rw [List.length_map] at o8
  obtain ⟨n9, rfl, o9⟩ := has_int Try.underlying3 f0_2
  exact ⟨⟨n1, n3, n4, n5, n6, n7, n8, n9⟩, rfl, ⟨o1, okI_of o3, o4, okI_of o5, ⟨o6, p6⟩, ⟨o7, p7⟩, ⟨o8, p8⟩, okI_of o9⟩⟩
theorem S62.of62 {k : Nat} {r : List V} (h : HasV Try.prog k 62 r) : ∃ x : S62, r = x.row ∧ x.ok := by
  obtain ⟨k0, h0⟩ := has_struct Try.underlying62 h
  simp only [hasFs] at h0
  obtain ⟨_, _, rfl, f0_0, _, _, rfl, f0_1, rfl⟩ := h0
  obtain ⟨n1, rfl, o1⟩ := has_int Try.underlying3 f0_0
  obtain ⟨l2, j2, rfl, o2, q2⟩ := has_slice (n := 8) (m := 128) Try.underlying61 (by kernel_rfl) (by kernel_rfl) f0_1
  obtain ⟨n2, rfl, p2⟩ := rows_of (f := S116.row) (ok := fun y => y.ok) (fun r hr => S116.of117 (q2 r hr))
  rw [List.length_map] at o2
  exact ⟨⟨n1, n2⟩, rfl, ⟨okI_of o1, ⟨o2, p2⟩⟩⟩
theorem S62.of63 {k : Nat} {r : List V} (h : HasV Try.prog k 63 r) : ∃ x : S62, r = x.row ∧ x.ok := by
  obtain ⟨k0, h0⟩ := has_struct Try.underlying63 h
  simp only [hasFs] at h0
  obtain ⟨_, _, rfl, f0_0, _, _, rfl, f0_1, rfl⟩ := h0
  obtain ⟨n1, rfl, o1⟩ := has_int Try.underlying3 f0_0
  obtain ⟨l2, j2, rfl, o2, q2⟩ := has_slice (n := 8) (m := 128) Try.underlying61 (by kernel_rfl) (by kernel_rfl) f0_1
  obtain ⟨n2, rfl, p2⟩ := rows_of (f := S116.row) (ok := fun y => y.ok) (fun r hr => S116.of117 (q2 r hr))
  rw [List.length_map] at o2
  exact ⟨⟨n1, n2⟩, rfl, ⟨okI_of o1, ⟨o2, p2⟩⟩⟩
theorem S129.of130 {k : Nat} {r : List V} (h : HasV Try.prog k 130 r) : ∃ x : S129, r = x.row ∧ x.ok := by
  obtain ⟨k0, h0⟩ := has_struct Try.underlying130 h
  simp only [hasFs] at h0
  obtain ⟨_, _, rfl, f0_0, _, _, rfl, f0_1, _, _, rfl, f0_2, _, _, rfl, f0_3, rfl⟩ := h0
  obtain ⟨n1, rfl, o1⟩ := has_int Try.underlying3 f0_0
  obtain ⟨n2, rfl, o2⟩ := has_int Try.underlying3 f0_1
  obtain ⟨n3, rfl, o3⟩ := has_int Try.underlying3 f0_2
  obtain ⟨k4, h4⟩ := has_struct Try.underlying128 f0_3
  simp only [hasFs] at h4
  obtain ⟨_, _, rfl, f4_0, _, _, rfl, f4_1, _, _, rfl, f4_2, _, _, rfl, f4_3, rfl⟩ := h4
  obtain ⟨n5, rfl, o5⟩ := has_int Try.underlying25 f4_0
  obtain ⟨n6, rfl, o6⟩ := has_str Try.underlying9 f4_1
  obtain ⟨n7, rfl, o7⟩ := has_int Try.underlying3 f4_2
  obtain ⟨l8, j8, rfl, o8, q8⟩ := has_slice (n := 1) (m := 16) Try.underlying50 (by kernel_rfl) (by kernel_rfl) f4_3
  obtain ⟨n8, rfl, p8⟩ := rows_of (f := rowS) (ok := fun y => okS y) (fun r hr => by obtain ⟨s, h1, h2⟩ := has_str Try.underlying9 (q8 r hr); exact ⟨s, h1, h2⟩)
  rw [List.length_map] at o8
  exact ⟨⟨n1, n2, n3, n5, n6, n7, n8⟩, rfl, ⟨okI_of o1, okI_of o2, okI_of o3, okI_of o5, o6, okI_of o7, ⟨o8, p8⟩⟩⟩
theorem S72.of72 {k : Nat} {r : List V} (h : HasV Try.prog k 72 r) : ∃ x : S72, r = x.row ∧ x.ok := by
  obtain ⟨k0, h0⟩ := has_struct Try.underlying72 h
  simp only [hasFs] at h0
  obtain ⟨_, _, rfl, f0_0, _, _, rfl, f0_1, _, _, rfl, f0_2, rfl⟩ := h0
  obtain ⟨k1, h1⟩ := has_struct Try.underlying63 f0_0
  simp only [hasFs] at h1
  obtain ⟨_, _, rfl, f1_0, _, _, rfl, f1_1, rfl⟩ := h1
  obtain ⟨n2, rfl, o2⟩ := has_int Try.underlying3 f1_0
  obtain ⟨l3, j3, rfl, o3, q3⟩ := has_slice (n := 8) (m := 128) Try.underlying61 (by kernel_rfl) (by kernel_rfl) f1_1
  obtain ⟨n3, rfl, p3⟩ := rows_of (f := S116.row) (ok := fun y => y.ok) (fun r hr => S116.of117 (q3 r hr))
  rw [List.length_map] at o3
  obtain ⟨n4, rfl, o4⟩ := has_int Try.underlying3 f0_1
  obtain ⟨l5, j5, rfl, o5, q5⟩ := has_slice (n := 7) (m := 80) Try.underlying71 (by kernel_rfl) (by kernel_rfl) f0_2
  obtain ⟨n5, rfl, p5⟩ := rows_of (f := S129.row) (ok := fun y => y.ok) (fun r hr => S129.of130 (q5 r hr))
  rw [List.length_map] at o5
  exact ⟨⟨n2, n3, n4, n5⟩, rfl, ⟨okI_of o2, ⟨o3, p3⟩, okI_of o4, ⟨o5, p5⟩⟩⟩
theorem S72.of73 {k : Nat} {r : List V} (h : HasV Try.prog k 73 r) : ∃ x : S72, r = x.row ∧ x.ok := by
  obtain ⟨k0, h0⟩ := has_struct Try.underlying73 h
  simp only [hasFs] at h0
  obtain ⟨_, _, rfl, f0_0, _, _, rfl, f0_1, _, _, rfl, f0_2, rfl⟩ := h0
  obtain ⟨k1, h1⟩ := has_struct Try.underlying63 f0_0
  simp only [hasFs] at h1
  obtain ⟨_, _, rfl, f1_0, _, _, rfl, f1_1, rfl⟩ := h1
  obtain ⟨n2, rfl, o2⟩ := has_int Try.underlying3 f1_0
  obtain ⟨l3, j3, rfl, o3, q3⟩ := has_slice (n := 8) (m := 128) Try.underlying61 (by kernel_rfl) (by kernel_rfl) f1_1
  obtain ⟨n3, rfl, p3⟩ := rows_of (f := S116.row) (ok := fun y => y.ok) (fun r hr => S116.of117 (q3 r hr))
  rw [List.length_map] at o3
  obtain ⟨n4, rfl, o4⟩ := has_int Try.underlying3 f0_1
  obtain ⟨l5, j5, rfl, o5, q5⟩ := has_slice (n := 7) (m := 80) Try.underlying71 (by kernel_rfl) (by kernel_rfl) f0_2
  obtain ⟨n5, rfl, p5⟩ := rows_of (f := S129.row) (ok := fun y => y.ok) (fun r hr => S129.of130 (q5 r hr))
  rw [List.length_map] at o5
  exact ⟨⟨n2, n3, n4, n5⟩, rfl, ⟨okI_of o2, ⟨o3, p3⟩, okI_of o4, ⟨o5, p5⟩⟩⟩
theorem S77.of77 {k : Nat} {r : List V} (h : HasV Try.prog k 77 r) : ∃ x : S77, r = x.row ∧ x.ok := by
  obtain ⟨k0, h0⟩ := has_struct Try.underlying77 h
  simp only [hasFs] at h0
  obtain ⟨_, _, rfl, f0_0, _, _, rfl, f0_1, _, _, rfl, f0_2, rfl⟩ := h0
  obtain ⟨n1, rfl, o1⟩ := has_int Try.underlying3 f0_0
  obtain ⟨n2, rfl, o2⟩ := has_int Try.underlying3 f0_1
  obtain ⟨k3, h3⟩ := has_struct Try.underlying73 f0_2
  simp only [hasFs] at h3
  obtain ⟨_, _, rfl, f3_0, _, _, rfl, f3_1, _, _, rfl, f3_2, rfl⟩ := h3
  obtain ⟨k4, h4⟩ := has_struct Try.underlying63 f3_0
  simp only [hasFs] at h4
  obtain ⟨_, _, rfl, f4_0, _, _, rfl, f4_1, rfl⟩ := h4
  obtain ⟨n5, rfl, o5⟩ := has_int Try.underlying3 f4_0
  obtain ⟨l6, j6, rfl, o6, q6⟩ := has_slice (n := 8) (m := 128) Try.underlying61 (by kernel_rfl) (by kernel_rfl) f4_1
  obtain ⟨n6, rfl, p6⟩ := rows_of (f := S116.row) (ok := fun y => y.ok) (fun r hr => S116.of117 (q6 r hr))
  rw [List.length_map] at o6
  obtain ⟨n7, rfl, o7⟩ := has_int Try.underlying3 f3_1
  obtain ⟨l8, j8, rfl, o8, q8⟩ := has_slice (n := 7) (m := 80) Try.underlying71 (by kernel_rfl) (by kernel_rfl) f3_2
  obtain ⟨n8, rfl, p8⟩ := rows_of (f := S129.row) (ok := fun y => y.ok) (fun r hr => S129.of130 (q8 r hr))
  rw [List.length_map] at o8
  exact ⟨⟨n1, n2, n5, n6, n7, n8⟩, rfl, ⟨okI_of o1, okI_of o2, okI_of o5, ⟨o6, p6⟩, okI_of o7, ⟨o8, p8⟩⟩⟩
theorem S77.of78 {k : Nat} {r : List V} (h : HasV Try.prog k 78 r) : ∃ x : S77, r = x.row ∧ x.ok := by
  obtain ⟨k0, h0⟩ := has_struct Try.underlying78 h
  simp only [hasFs] at h0
  obtain ⟨_, _, rfl, f0_0, _, _, rfl, f0_1, _, _, rfl, f0_2, rfl⟩ := h0
  obtain ⟨n1, rfl, o1⟩ := has_int Try.underlying3 f0_0
  obtain ⟨n2, rfl, o2⟩ := has_int Try.underlying3 f0_1
  obtain ⟨k3, h3⟩ := has_struct Try.underlying73 f0_2
  simp only [hasFs] at h3
  obtain ⟨_, _, rfl, f3_0, _, _, rfl, f3_1, _, _, rfl, f3_2, rfl⟩ := h3
  obtain ⟨k4, h4⟩ := has_struct Try.underlying63 f3_0
  simp only [hasFs] at h4
  obtain ⟨_, _, rfl, f4_0, _, _, rfl, f4_1, rfl⟩ := h4
  obtain ⟨n5, rfl, o5⟩ := has_int Try.underlying3 f4_0
  obtain ⟨l6, j6, rfl, o6, q6⟩ := has_slice (n := 8) (m := 128) Try.underlying61 (by kernel_rfl) (by kernel_rfl) f4_1
  obtain ⟨n6, rfl, p6⟩ := rows_of (f := S116.row) (ok := fun y => y.ok) (fun r hr => S116.of117 (q6 r hr))
  rw [List.length_map] at o6
  obtain ⟨n7, rfl, o7⟩ := has_int Try.underlying3 f3_1
  obtain ⟨l8, j8, rfl, o8, q8⟩ := has_slice (n := 7) (m := 80) Try.underlying71 (by kernel_rfl) (by kernel_rfl) f3_2
  obtain ⟨n8, rfl, p8⟩ := rows_of (f := S129.row) (ok := fun y => y.ok) (fun r hr => S129.of130 (q8 r hr))
  rw [List.length_map] at o8
  exact ⟨⟨n1, n2, n5, n6, n7, n8⟩, rfl, ⟨okI_of o1, okI_of o2, okI_of o5, ⟨o6, p6⟩, okI_of o7, ⟨o8, p8⟩⟩⟩
theorem S92.of92 {k : Nat} {r : List V} (h : HasV Try.prog k 92 r) : ∃ x : S92, r = x.row ∧ x.ok := by
  obtain ⟨k0, h0⟩ := has_struct Try.underlying92 h
  simp only [hasFs] at h0
  obtain ⟨_, _, rfl, f0_0, rfl⟩ := h0
  obtain ⟨l1, j1, rfl, o1, q1⟩ := has_slice (n := 1) (m := 1) Try.underlying39 (by kernel_rfl) (by kernel_rfl) f0_0
  obtain ⟨n1, rfl, p1⟩ := rows_of (f := rowB) (ok := fun y => ((IntKind.u8).min ≤ y ∧ y ≤ (IntKind.u8).max)) (fun r hr => by obtain ⟨s, h1, h2⟩ := has_int Try.underlying5 (q1 r hr); exact ⟨s, h1, h2⟩)
  rw [List.length_map] at o1
  exact ⟨⟨n1⟩, rfl, ⟨o1, p1⟩⟩
theorem S92.of93 {k : Nat} {r : List V} (h : HasV Try.prog k 93 r) : ∃ x : S92, r = x.row ∧ x.ok := by
  obtain ⟨k0, h0⟩ := has_struct Try.underlying93 h
  simp only [hasFs] at h0
  obtain ⟨_, _, rfl, f0_0, rfl⟩ := h0
  obtain ⟨l1, j1, rfl, o1, q1⟩ := has_slice (n := 1) (m := 1) Try.underlying39 (by kernel_rfl) (by kernel_rfl) f0_0
  obtain ⟨n1, rfl, p1⟩ := rows_of (f := rowB) (ok := fun y => ((IntKind.u8).min ≤ y ∧ y ≤ (IntKind.u8).max)) (fun r hr => by obtain ⟨s, h1, h2⟩ := has_int Try.underlying5 (q1 r hr); exact ⟨s, h1, h2⟩)
  rw [List.length_map] at o1
  exact ⟨⟨n1⟩, rfl, ⟨o1, p1⟩⟩
theorem S100.of100 {k : Nat} {r : List V} (h : HasV Try.prog k 100 r) : ∃ x : S100, r = x.row ∧ x.ok := by
  obtain ⟨k0, h0⟩ := has_struct Try.underlying100 h
  simp only [hasFs] at h0
  obtain ⟨_, _, rfl, f0_0, _, _, rfl, f0_1, rfl⟩ := h0
  obtain ⟨n1, rfl, o1⟩ := has_str Try.underlying9 f0_0
  obtain ⟨n2, rfl, o2⟩ := has_str Try.underlying9 f0_1
  exact ⟨⟨n1, n2⟩, rfl, ⟨o1, o2⟩⟩
theorem S104.of104 {k : Nat} {r : List V} (h : HasV Try.prog k 104 r) : ∃ x : S104, r = x.row ∧ x.ok := by
  obtain ⟨k0, h0⟩ := has_struct Try.underlying104 h
  simp only [hasFs] at h0
  obtain ⟨_, _, rfl, f0_0, _, _, rfl, f0_1, rfl⟩ := h0
  obtain ⟨n1, rfl, o1⟩ := has_str Try.underlying9 f0_0
  obtain ⟨n2, rfl, o2⟩ := has_int Try.underlying3 f0_1
  exact ⟨⟨n1, n2⟩, rfl, ⟨o1, okI_of o2⟩⟩
theorem S116.of116 {k : Nat} {r : List V} (h : HasV Try.prog k 116 r) : ∃ x : S116, r = x.row ∧ x.ok := by
  obtain ⟨k0, h0⟩ := has_struct Try.underlying116 h
  simp only [hasFs] at h0
  obtain ⟨_, _, rfl, f0_0, _, _, rfl, f0_1, _, _, rfl, f0_2, rfl⟩ := h0
  obtain ⟨n1, rfl, o1⟩ := has_str Try.underlying9 f0_0
  obtain ⟨k2, h2⟩ := has_struct Try.underlying53 f0_1
  simp only [hasFs] at h2
  obtain ⟨_, _, rfl, f2_0, _, _, rfl, f2_1, _, _, rfl, f2_2, _, _, rfl, f2_3, _, _, rfl, f2_4, _, _, rfl, f2_5, rfl⟩ := h2
  obtain ⟨n3, rfl, o3⟩ := has_int Try.underlying3 f2_0
  obtain ⟨n4, rfl, o4⟩ := has_str Try.underlying9 f2_1
  obtain ⟨n5, rfl, o5⟩ := has_int Try.underlying3 f2_2
  obtain ⟨l6, j6, rfl, o6, q6⟩ := has_slice (n := 2) (m := 32) Try.underlying49 (by kernel_rfl) (by kernel_rfl) f2_3
  obtain ⟨n6, rfl, p6⟩ := rows_of (f := S100.row) (ok := fun y => y.ok) (fun r hr => S100.of101 (q6 r hr))
  rw [List.length_map] at o6
  obtain ⟨l7, j7, rfl, o7, q7⟩ := has_slice (n := 1) (m := 16) Try.underlying50 (by kernel_rfl) (by kernel_rfl) f2_4
  obtain ⟨n7, rfl, p7⟩ := rows_of (f := rowS) (ok := fun y => okS y) (fun r hr => by obtain ⟨s, h1, h2⟩ := has_str Try.underlying9 (q7 r hr); exact ⟨s, h1, h2⟩)
  rw [List.length_map] at o7
  obtain ⟨l8, j8, rfl, o8, q8⟩ := has_slice (n := 2) (m := 24) Try.underlying51 (by kernel_rfl) (by kernel_rfl) f2_5
  obtain ⟨n8, rfl, p8⟩ := rows_of (f := S104.row) (ok := fun y => y.ok) (fun r hr => S104.of105 (q8 r hr))
  rw [List.length_map] at o8
  obtain ⟨n9, rfl, o9⟩ := has_int Try.underlying3 f0_2
  exact ⟨⟨n1, n3, n4, n5, n6, n7, n8, n9⟩, rfl, ⟨o1, okI_of o3, o4, okI_of o5, ⟨o6, p6⟩, ⟨o7, p7⟩, ⟨o8, p8⟩, okI_of o9⟩⟩
theorem S119.of119 {k : Nat} {r : List V} (h : HasV Try.prog k 119 r) : ∃ x : S119, r = x.row ∧ x.ok := by
  obtain ⟨k0, h0⟩ := has_struct Try.underlying119 h
  simp only [hasFs] at h0
  obtain ⟨_, _, rfl, f0_0, _, _, rfl, f0_1, rfl⟩ := h0
  obtain ⟨l1, j1, rfl, o1, q1⟩ := has_slice (n := 1) (m := 1) Try.underlying39 (by kernel_rfl) (by kernel_rfl) f0_0
  obtain ⟨n1, rfl, p1⟩ := rows_of (f := rowB) (ok := fun y => ((IntKind.u8).min ≤ y ∧ y ≤ (IntKind.u8).max)) (fun r hr => by obtain ⟨s, h1, h2⟩ := has_int Try.underlying5 (q1 r hr); exact ⟨s, h1, h2⟩)
  rw [List.length_map] at o1
  obtain ⟨n2, rfl⟩ := has_bool Try.underlying4 f0_1
  exact ⟨⟨n1, n2⟩, rfl, ⟨⟨o1, p1⟩, trivial⟩⟩
theorem S119.of120 {k : Nat} {r : List V} (h : HasV Try.prog k 120 r) : ∃ x : S119, r = x.row ∧ x.ok := by
  obtain ⟨k0, h0⟩ := has_struct Try.underlying120 h
  simp only [hasFs] at h0
  obtain ⟨_, _, rfl, f0_0, _, _, rfl, f0_1, rfl⟩ := h0
  obtain ⟨l1, j1, rfl, o1, q1⟩ := has_slice (n := 1) (m := 1) Try.underlying39 (by kernel_rfl) (by kernel_rfl) f0_0
  obtain ⟨n1, rfl, p1⟩ := rows_of (f := rowB) (ok := fun y => ((IntKind.u8).min ≤ y ∧ y ≤ (IntKind.u8).max)) (fun r hr => by obtain ⟨s, h1, h2⟩ := has_int Try.underlying5 (q1 r hr); exact ⟨s, h1, h2⟩)
  rw [List.length_map] at o1
  obtain ⟨n2, rfl⟩ := has_bool Try.underlying4 f0_1
  exact ⟨⟨n1, n2⟩, rfl, ⟨⟨o1, p1⟩, trivial⟩⟩
theorem S125.of125 {k : Nat} {r : List V} (h : HasV Try.prog k 125 r) : ∃ x : S125, r = x.row ∧ x.ok := by
  obtain ⟨k0, h0⟩ := has_struct Try.underlying125 h
  simp only [hasFs] at h0
  obtain ⟨_, _, rfl, f0_0, _, _, rfl, f0_1, rfl⟩ := h0
  obtain ⟨l1, j1, rfl, o1, q1⟩ := has_slice (n := 1) (m := 1) Try.underlying39 (by kernel_rfl) (by kernel_rfl) f0_0
  obtain ⟨n1, rfl, p1⟩ := rows_of (f := rowB) (ok := fun y => ((IntKind.u8).min ≤ y ∧ y ≤ (IntKind.u8).max)) (fun r hr => by obtain ⟨s, h1, h2⟩ := has_int Try.underlying5 (q1 r hr); exact ⟨s, h1, h2⟩)
  rw [List.length_map] at o1
  obtain ⟨n2, rfl, o2⟩ := has_int Try.underlying3 f0_1
  exact ⟨⟨n1, n2⟩, rfl, ⟨⟨o1, p1⟩, okI_of o2⟩⟩
theorem S125.of126 {k : Nat} {r : List V} (h : HasV Try.prog k 126 r) : ∃ x : S125, r = x.row ∧ x.ok := by
  obtain ⟨k0, h0⟩ := has_struct Try.underlying126 h
  simp only [hasFs] at h0
  obtain ⟨_, _, rfl, f0_0, _, _, rfl, f0_1, rfl⟩ := h0
  obtain ⟨l1, j1, rfl, o1, q1⟩ := has_slice (n := 1) (m := 1) Try.underlying39 (by kernel_rfl) (by kernel_rfl) f0_0
  obtain ⟨n1, rfl, p1⟩ := rows_of (f := rowB) (ok := fun y => ((IntKind.u8).min ≤ y ∧ y ≤ (IntKind.u8).max)) (fun r hr => by obtain ⟨s, h1, h2⟩ := has_int Try.underlying5 (q1 r hr); exact ⟨s, h1, h2⟩)
  rw [List.length_map] at o1
  obtain ⟨n2, rfl, o2⟩ := has_int Try.underlying3 f0_1
  exact ⟨⟨n1, n2⟩, rfl, ⟨⟨o1, p1⟩, okI_of o2⟩⟩
theorem S127.of127 {k : Nat} {r : List V} (h : HasV Try.prog k 127 r) : ∃ x : S127, r = x.row ∧ x.ok := by
  obtain ⟨k0, h0⟩ := has_struct Try.underlying127 h
  simp only [hasFs] at h0
  obtain ⟨_, _, rfl, f0_0, _, _, rfl, f0_1, _, _, rfl, f0_2, _, _, rfl, f0_3, rfl⟩ := h0
  obtain ⟨n1, rfl, o1⟩ := has_int Try.underlying25 f0_0
  obtain ⟨n2, rfl, o2⟩ := has_str Try.underlying9 f0_1
  obtain ⟨n3, rfl, o3⟩ := has_int Try.underlying3 f0_2
  obtain ⟨l4, j4, rfl, o4, q4⟩ := has_slice (n := 1) (m := 16) Try.underlying50 (by kernel_rfl) (by kernel_rfl) f0_3
  obtain ⟨n4, rfl, p4⟩ := rows_of (f := rowS) (ok := fun y => okS y) (fun r hr => by obtain ⟨s, h1, h2⟩ := has_str Try.underlying9 (q4 r hr); exact ⟨s, h1, h2⟩)
  rw [List.length_map] at o4
  exact ⟨⟨n1, n2, n3, n4⟩, rfl, ⟨okI_of o1, o2, okI_of o3, ⟨o4, p4⟩⟩⟩
theorem S127.of128 {k : Nat} {r : List V} (h : HasV Try.prog k 128 r) : ∃ x : S127, r = x.row ∧ x.ok := by
  obtain ⟨k0, h0⟩ := has_struct Try.underlying128 h
  simp only [hasFs] at h0
  obtain ⟨_, _, rfl, f0_0, _, _, rfl, f0_1, _, _, rfl, f0_2, _, _, rfl, f0_3, rfl⟩ := h0
  obtain ⟨n1, rfl, o1⟩ := has_int Try.underlying25 f0_0
  obtain ⟨n2, rfl, o2⟩ := has_str Try.underlying9 f0_1
  obtain ⟨n3, rfl, o3⟩ := has_int Try.underlying3 f0_2
  obtain ⟨l4, j4, rfl, o4, q4⟩ := has_slice (n := 1) (m := 16) Try.underlying50 (by kernel_rfl) (by kernel_rfl) f0_3
  obtain ⟨n4, rfl, p4⟩ := rows_of (f := rowS) (ok := fun y => okS y) (fun r hr => by obtain ⟨s, h1, h2⟩ := has_str Try.underlying9 (q4 r hr); exact ⟨s, h1, h2⟩)
  rw [List.length_map] at o4
  exact ⟨⟨n1, n2, n3, n4⟩, rfl, ⟨okI_of o1, o2, okI_of o3, ⟨o4, p4⟩⟩⟩
theorem S129.of129 {k : Nat} {r : List V} (h : HasV Try.prog k 129 r) : ∃ x : S129, r = x.row ∧ x.ok := by
  obtain ⟨k0, h0⟩ := has_struct Try.underlying129 h
  simp only [hasFs] at h0
  obtain ⟨_, _, rfl, f0_0, _, _, rfl, f0_1, _, _, rfl, f0_2, _, _, rfl, f0_3, rfl⟩ := h0
  obtain ⟨n1, rfl, o1⟩ := has_int Try.underlying3 f0_0
  obtain ⟨n2, rfl, o2⟩ := has_int Try.underlying3 f0_1
  obtain ⟨n3, rfl, o3⟩ := has_int Try.underlying3 f0_2
  obtain ⟨k4, h4⟩ := has_struct Try.underlying128 f0_3
  simp only [hasFs] at h4
  obtain ⟨_, _, rfl, f4_0, _, _, rfl, f4_1, _, _, rfl, f4_2, _, _, rfl, f4_3, rfl⟩ := h4
  obtain ⟨n5, rfl, o5⟩ := has_int Try.underlying25 f4_0
  obtain ⟨n6, rfl, o6⟩ := has_str Try.underlying9 f4_1
  obtain ⟨n7, rfl, o7⟩ := has_int Try.underlying3 f4_2
  obtain ⟨l8, j8, rfl, o8, q8⟩ := has_slice (n := 1) (m := 16) Try.underlying50 (by kernel_rfl) (by kernel_rfl) f4_3
  obtain ⟨n8, rfl, p8⟩ := rows_of (f := rowS) (ok := fun y => okS y) (fun r hr => by obtain ⟨s, h1, h2⟩ := has_str Try.underlying9 (q8 r hr); exact ⟨s, h1, h2⟩)
  rw [List.length_map] at o8
  exact ⟨⟨n1, n2, n3, n5, n6, n7, n8⟩, rfl, ⟨okI_of o1, okI_of o2, okI_of o3, okI_of o5, o6, okI_of o7, ⟨o8, p8⟩⟩⟩
end Go.Proofs.Ytnjkmbogbfjffaa

