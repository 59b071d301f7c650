/- Part of the proof by the machine Mx: Str. -/
import Derived.Test.YtiicnbdolakdgaaMxFour
import Derived.Test.YtiicnbdolakdgaaTyTab
set_option linter.unusedSimpArgs false
set_option linter.unusedVariables false
set_option linter.constructorNameAsVariable false
set_option linter.unnecessarySimpa false
/- The program's struct types, as structures. -/
namespace Go.Proofs.Ytiicnbdolakdgaa
open Go Go.Mx Go.Proofs
structure S7 where
  a0 : Int
  a1 : Int
  a2 : Bool
  a3 : Int
def S7.row (x : S7) : List V := [.i .i64 x.a0, .i .i64 x.a1, .b x.a2, .i .u8 x.a3]
def S7.d (x : S7) : D := .agg [.v (.i .i64 x.a0), .v (.i .i64 x.a1), .v (.b x.a2), .v (.i .u8 x.a3)]
def S7.ok (x : S7) : Prop := (okI x.a0) ∧ (okI x.a1) ∧ (True) ∧ (((IntKind.u8).min ≤ x.a3 ∧ x.a3 ≤ (IntKind.u8).max))
theorem S7.row_inj (a b : S7) (h : a.row = b.row) : a = b := by
  cases a; cases b
  simp only [S7.row, List.cons.injEq, V.i.injEq, V.s.injEq, V.b.injEq, V.sl.injEq, true_and, and_true, rowS_inj, rowI_inj, rowB_inj] at h
  simp only [S7.mk.injEq]
  simp only [h, and_self]
theorem S7.map_inj {a b : List S7} : a.map S7.row = b.map S7.row ↔ a = b := Mx.map_inj S7.row_inj
theorem S7.d_inj (a b : S7) (h : a.d = b.d) : a = b := by
  cases a; cases b
  simp only [S7.d, D.agg.injEq, D.v.injEq, List.cons.injEq, V.i.injEq, V.s.injEq, V.b.injEq, V.sl.injEq, true_and, and_true, rowS_inj, rowI_inj, rowB_inj] at h
  simp only [S7.mk.injEq]
  simp only [h, and_self]
structure S13 where
  a0 : ByteArray
  a1 : Int
def S13.row (x : S13) : List V := [.s x.a0, .i .u64 x.a1]
def S13.d (x : S13) : D := .agg [.v (.s x.a0), .v (.i .u64 x.a1)]
def S13.ok (x : S13) : Prop := (okS x.a0) ∧ (((IntKind.u64).min ≤ x.a1 ∧ x.a1 ≤ (IntKind.u64).max))
theorem S13.row_inj (a b : S13) (h : a.row = b.row) : a = b := by
  cases a; cases b
  simp only [S13.row, List.cons.injEq, V.i.injEq, V.s.injEq, V.b.injEq, V.sl.injEq, true_and, and_true, rowS_inj, rowI_inj, rowB_inj, S7.map_inj] at h
  simp only [S13.mk.injEq]
  simp only [h, and_self]
theorem S13.map_inj {a b : List S13} : a.map S13.row = b.map S13.row ↔ a = b := Mx.map_inj S13.row_inj
theorem S13.d_inj (a b : S13) (h : a.d = b.d) : a = b := by
  cases a; cases b
  simp only [S13.d, D.agg.injEq, D.v.injEq, List.cons.injEq, V.i.injEq, V.s.injEq, V.b.injEq, V.sl.injEq, true_and, and_true, rowS_inj, rowI_inj, rowB_inj, S7.map_inj] at h
  simp only [S13.mk.injEq]
  simp only [h, and_self]
structure S110 where
  a0 : ByteArray
  a1 : ByteArray
def S110.row (x : S110) : List V := [.s x.a0, .s x.a1]
def S110.d (x : S110) : D := .agg [.v (.s x.a0), .v (.s x.a1)]
def S110.ok (x : S110) : Prop := (okS x.a0) ∧ (okS x.a1)
theorem S110.row_inj (a b : S110) (h : a.row = b.row) : a = b := by
  cases a; cases b
  simp only [S110.row, List.cons.injEq, V.i.injEq, V.s.injEq, V.b.injEq, V.sl.injEq, true_and, and_true, rowS_inj, rowI_inj, rowB_inj, S7.map_inj, S13.map_inj] at h
  simp only [S110.mk.injEq]
  simp only [h, and_self]
theorem S110.map_inj {a b : List S110} : a.map S110.row = b.map S110.row ↔ a = b := Mx.map_inj S110.row_inj
theorem S110.d_inj (a b : S110) (h : a.d = b.d) : a = b := by
  cases a; cases b
  simp only [S110.d, D.agg.injEq, D.v.injEq, List.cons.injEq, V.i.injEq, V.s.injEq, V.b.injEq, V.sl.injEq, true_and, and_true, rowS_inj, rowI_inj, rowB_inj, S7.map_inj, S13.map_inj] at h
  simp only [S110.mk.injEq]
  simp only [h, and_self]
structure S112 where
  a0 : ByteArray
  a1 : Int
def S112.row (x : S112) : List V := [.s x.a0, .i .i64 x.a1]
def S112.d (x : S112) : D := .agg [.v (.s x.a0), .v (.i .i64 x.a1)]
def S112.ok (x : S112) : Prop := (okS x.a0) ∧ (okI x.a1)
theorem S112.row_inj (a b : S112) (h : a.row = b.row) : a = b := by
  cases a; cases b
  simp only [S112.row, List.cons.injEq, V.i.injEq, V.s.injEq, V.b.injEq, V.sl.injEq, true_and, and_true, rowS_inj, rowI_inj, rowB_inj, S7.map_inj, S13.map_inj, S110.map_inj] at h
  simp only [S112.mk.injEq]
  simp only [h, and_self]
theorem S112.map_inj {a b : List S112} : a.map S112.row = b.map S112.row ↔ a = b := Mx.map_inj S112.row_inj
theorem S112.d_inj (a b : S112) (h : a.d = b.d) : a = b := by
  cases a; cases b
  simp only [S112.d, D.agg.injEq, D.v.injEq, List.cons.injEq, V.i.injEq, V.s.injEq, V.b.injEq, V.sl.injEq, true_and, and_true, rowS_inj, rowI_inj, rowB_inj, S7.map_inj, S13.map_inj, S110.map_inj] at h
  simp only [S112.mk.injEq]
  simp only [h, and_self]
structure S104 where
  a0 : ByteArray
  a1 : Int
  a2 : ByteArray
  a3 : Int
  a4 : List S110
  a5 : List ByteArray
  a6 : List S112
  a7 : Int
def S104.row (x : S104) : List V := [.s x.a0, .i .i64 x.a1, .s x.a2, .i .i64 x.a3, .sl 2 (x.a4.map S110.row), .sl 1 (x.a5.map rowS), .sl 2 (x.a6.map S112.row), .i .i64 x.a7]
def S104.d (x : S104) : D := .agg [.v (.s x.a0), .v (.i .i64 x.a1), .v (.s x.a2), .v (.i .i64 x.a3), .v (.sl 2 (x.a4.map S110.row)), .v (.sl 1 (x.a5.map rowS)), .v (.sl 2 (x.a6.map S112.row)), .v (.i .i64 x.a7)]
def S104.ok (x : S104) : Prop := (okS x.a0) ∧ (okI x.a1) ∧ (okS x.a2) ∧ (okI x.a3) ∧ (okN 32 x.a4.length ∧ (∀ y ∈ x.a4, y.ok)) ∧ (okN 16 x.a5.length ∧ (∀ y ∈ x.a5, okS y)) ∧ (okN 24 x.a6.length ∧ (∀ y ∈ x.a6, y.ok)) ∧ (okI x.a7)
theorem S104.row_inj (a b : S104) (h : a.row = b.row) : a = b := by
  cases a; cases b
  simp only [S104.row, List.cons.injEq, V.i.injEq, V.s.injEq, V.b.injEq, V.sl.injEq, true_and, and_true, rowS_inj, rowI_inj, rowB_inj, S7.map_inj, S13.map_inj, S110.map_inj, S112.map_inj] at h
  simp only [S104.mk.injEq]
  simp only [h, and_self]
theorem S104.map_inj {a b : List S104} : a.map S104.row = b.map S104.row ↔ a = b := Mx.map_inj S104.row_inj
theorem S104.d_inj (a b : S104) (h : a.d = b.d) : a = b := by
  cases a; cases b
  simp only [S104.d, D.agg.injEq, D.v.injEq, List.cons.injEq, V.i.injEq, V.s.injEq, V.b.injEq, V.sl.injEq, true_and, and_true, rowS_inj, rowI_inj, rowB_inj, S7.map_inj, S13.map_inj, S110.map_inj, S112.map_inj] at h
  simp only [S104.mk.injEq]
  simp only [h, and_self]
structure S27 where
  a0 : Int
  a1 : List S104
def S27.row (x : S27) : List V := [.i .i64 x.a0, .sl 8 (x.a1.map S104.row)]
def S27.d (x : S27) : D := .agg [.v (.i .i64 x.a0), .v (.sl 8 (x.a1.map S104.row))]
def S27.ok (x : S27) : Prop := (okI x.a0) ∧ (okN 128 x.a1.length ∧ (∀ y ∈ x.a1, y.ok))
theorem S27.row_inj (a b : S27) (h : a.row = b.row) : a = b := by
  cases a; cases b
  simp only [S27.row, List.cons.injEq, V.i.injEq, V.s.injEq, V.b.injEq, V.sl.injEq, true_and, and_true, rowS_inj, rowI_inj, rowB_inj, S7.map_inj, S13.map_inj, S110.map_inj, S112.map_inj, S104.map_inj] at h
  simp only [S27.mk.injEq]
  simp only [h, and_self]
theorem S27.map_inj {a b : List S27} : a.map S27.row = b.map S27.row ↔ a = b := Mx.map_inj S27.row_inj
theorem S27.d_inj (a b : S27) (h : a.d = b.d) : a = b := by
  cases a; cases b
  simp only [S27.d, D.agg.injEq, D.v.injEq, List.cons.injEq, V.i.injEq, V.s.injEq, V.b.injEq, V.sl.injEq, true_and, and_true, rowS_inj, rowI_inj, rowB_inj, S7.map_inj, S13.map_inj, S110.map_inj, S112.map_inj, S104.map_inj] at h
  simp only [S27.mk.injEq]
  simp only [h, and_self]
structure S81 where
  a0 : Int
  a1 : Int
  a2 : Int
  a3 : Int
  a4 : ByteArray
  a5 : Int
  a6 : List ByteArray
def S81.row (x : S81) : List V := [.i .i64 x.a0, .i .i64 x.a1, .i .i64 x.a2, .i .i64 x.a3, .s x.a4, .i .i64 x.a5, .sl 1 (x.a6.map rowS)]
def S81.d (x : S81) : D := .agg [.v (.i .i64 x.a0), .v (.i .i64 x.a1), .v (.i .i64 x.a2), .v (.i .i64 x.a3), .v (.s x.a4), .v (.i .i64 x.a5), .v (.sl 1 (x.a6.map rowS))]
def S81.ok (x : S81) : Prop := (okI x.a0) ∧ (okI x.a1) ∧ (okI x.a2) ∧ (okI x.a3) ∧ (okS x.a4) ∧ (okI x.a5) ∧ (okN 16 x.a6.length ∧ (∀ y ∈ x.a6, okS y))
theorem S81.row_inj (a b : S81) (h : a.row = b.row) : a = b := by
  cases a; cases b
  simp only [S81.row, List.cons.injEq, V.i.injEq, V.s.injEq, V.b.injEq, V.sl.injEq, true_and, and_true, rowS_inj, rowI_inj, rowB_inj, S7.map_inj, S13.map_inj, S110.map_inj, S112.map_inj, S104.map_inj, S27.map_inj] at h
  simp only [S81.mk.injEq]
  simp only [h, and_self]
theorem S81.map_inj {a b : List S81} : a.map S81.row = b.map S81.row ↔ a = b := Mx.map_inj S81.row_inj
theorem S81.d_inj (a b : S81) (h : a.d = b.d) : a = b := by
  cases a; cases b
  simp only [S81.d, D.agg.injEq, D.v.injEq, List.cons.injEq, V.i.injEq, V.s.injEq, V.b.injEq, V.sl.injEq, true_and, and_true, rowS_inj, rowI_inj, rowB_inj, S7.map_inj, S13.map_inj, S110.map_inj, S112.map_inj, S104.map_inj, S27.map_inj] at h
  simp only [S81.mk.injEq]
  simp only [h, and_self]
structure S30 where
  a0 : Int
  a1 : List S104
  a2 : Int
  a3 : List S81
def S30.row (x : S30) : List V := [.i .i64 x.a0, .sl 8 (x.a1.map S104.row), .i .i64 x.a2, .sl 7 (x.a3.map S81.row)]
def S30.d (x : S30) : D := .agg [.v (.i .i64 x.a0), .v (.sl 8 (x.a1.map S104.row)), .v (.i .i64 x.a2), .v (.sl 7 (x.a3.map S81.row))]
def S30.ok (x : S30) : Prop := (okI x.a0) ∧ (okN 128 x.a1.length ∧ (∀ y ∈ x.a1, y.ok)) ∧ (okI x.a2) ∧ (okN 80 x.a3.length ∧ (∀ y ∈ x.a3, y.ok))
theorem S30.row_inj (a b : S30) (h : a.row = b.row) : a = b := by
  cases a; cases b
  simp only [S30.row, List.cons.injEq, V.i.injEq, V.s.injEq, V.b.injEq, V.sl.injEq, true_and, and_true, rowS_inj, rowI_inj, rowB_inj, S7.map_inj, S13.map_inj, S110.map_inj, S112.map_inj, S104.map_inj, S27.map_inj, S81.map_inj] at h
  simp only [S30.mk.injEq]
  simp only [h, and_self]
theorem S30.map_inj {a b : List S30} : a.map S30.row = b.map S30.row ↔ a = b := Mx.map_inj S30.row_inj
theorem S30.d_inj (a b : S30) (h : a.d = b.d) : a = b := by
  cases a; cases b
  simp only [S30.d, D.agg.injEq, D.v.injEq, List.cons.injEq, V.i.injEq, V.s.injEq, V.b.injEq, V.sl.injEq, true_and, and_true, rowS_inj, rowI_inj, rowB_inj, S7.map_inj, S13.map_inj, S110.map_inj, S112.map_inj, S104.map_inj, S27.map_inj, S81.map_inj] at h
  simp only [S30.mk.injEq]
  simp only [h, and_self]
structure S34 where
  a0 : Int
  a1 : Int
  a2 : Int
  a3 : List S104
  a4 : Int
  a5 : List S81
def S34.row (x : S34) : List V := [.i .i64 x.a0, .i .i64 x.a1, .i .i64 x.a2, .sl 8 (x.a3.map S104.row), .i .i64 x.a4, .sl 7 (x.a5.map S81.row)]
def S34.d (x : S34) : D := .agg [.v (.i .i64 x.a0), .v (.i .i64 x.a1), .v (.i .i64 x.a2), .v (.sl 8 (x.a3.map S104.row)), .v (.i .i64 x.a4), .v (.sl 7 (x.a5.map S81.row))]
def S34.ok (x : S34) : Prop := (okI x.a0) ∧ (okI x.a1) ∧ (okI x.a2) ∧ (okN 128 x.a3.length ∧ (∀ y ∈ x.a3, y.ok)) ∧ (okI x.a4) ∧ (okN 80 x.a5.length ∧ (∀ y ∈ x.a5, y.ok))
theorem S34.row_inj (a b : S34) (h : a.row = b.row) : a = b := by
  cases a; cases b
  simp only [S34.row, List.cons.injEq, V.i.injEq, V.s.injEq, V.b.injEq, V.sl.injEq, true_and, and_true, rowS_inj, rowI_inj, rowB_inj, S7.map_inj, S13.map_inj, S110.map_inj, S112.map_inj, S104.map_inj, S27.map_inj, S81.map_inj, S30.map_inj] at h
  simp only [S34.mk.injEq]
  simp only [h, and_self]
theorem S34.map_inj {a b : List S34} : a.map S34.row = b.map S34.row ↔ a = b := Mx.map_inj S34.row_inj
theorem S34.d_inj (a b : S34) (h : a.d = b.d) : a = b := by
  cases a; cases b
  simp only [S34.d, D.agg.injEq, D.v.injEq, List.cons.injEq, V.i.injEq, V.s.injEq, V.b.injEq, V.sl.injEq, true_and, and_true, rowS_inj, rowI_inj, rowB_inj, S7.map_inj, S13.map_inj, S110.map_inj, S112.map_inj, S104.map_inj, S27.map_inj, S81.map_inj, S30.map_inj] at h
  simp only [S34.mk.injEq]
  simp only [h, and_self]
structure S67 where
  a0 : Int
  a1 : Int
  a2 : Bool
  a3 : Int
  a4 : Int
  a5 : Int
  a6 : ByteArray
  a7 : ByteArray
  a8 : ByteArray
  a9 : Int
def S67.row (x : S67) : List V := [.i .i64 x.a0, .i .i64 x.a1, .b x.a2, .i .i64 x.a3, .i .i64 x.a4, .i .i64 x.a5, .s x.a6, .s x.a7, .s x.a8, .i .i64 x.a9]
def S67.d (x : S67) : D := .agg [.v (.i .i64 x.a0), .v (.i .i64 x.a1), .v (.b x.a2), .v (.i .i64 x.a3), .v (.i .i64 x.a4), .v (.i .i64 x.a5), .v (.s x.a6), .v (.s x.a7), .v (.s x.a8), .v (.i .i64 x.a9)]
def S67.ok (x : S67) : Prop := (okI x.a0) ∧ (okI x.a1) ∧ (True) ∧ (okI x.a3) ∧ (okI x.a4) ∧ (okI x.a5) ∧ (okS x.a6) ∧ (okS x.a7) ∧ (okS x.a8) ∧ (okI x.a9)
theorem S67.row_inj (a b : S67) (h : a.row = b.row) : a = b := by
  cases a; cases b
  simp only [S67.row, List.cons.injEq, V.i.injEq, V.s.injEq, V.b.injEq, V.sl.injEq, true_and, and_true, rowS_inj, rowI_inj, rowB_inj, S7.map_inj, S13.map_inj, S110.map_inj, S112.map_inj, S104.map_inj, S27.map_inj, S81.map_inj, S30.map_inj, S34.map_inj] at h
  simp only [S67.mk.injEq]
  simp only [h, and_self]
theorem S67.map_inj {a b : List S67} : a.map S67.row = b.map S67.row ↔ a = b := Mx.map_inj S67.row_inj
theorem S67.d_inj (a b : S67) (h : a.d = b.d) : a = b := by
  cases a; cases b
  simp only [S67.d, D.agg.injEq, D.v.injEq, List.cons.injEq, V.i.injEq, V.s.injEq, V.b.injEq, V.sl.injEq, true_and, and_true, rowS_inj, rowI_inj, rowB_inj, S7.map_inj, S13.map_inj, S110.map_inj, S112.map_inj, S104.map_inj, S27.map_inj, S81.map_inj, S30.map_inj, S34.map_inj] at h
  simp only [S67.mk.injEq]
  simp only [h, and_self]
structure S37 where
  a0 : Int
  a1 : Int
  a2 : List S67
def S37.row (x : S37) : List V := [.i .i64 x.a0, .i .i64 x.a1, .sl 10 (x.a2.map S67.row)]
def S37.d (x : S37) : D := .agg [.v (.i .i64 x.a0), .v (.i .i64 x.a1), .v (.sl 10 (x.a2.map S67.row))]
def S37.ok (x : S37) : Prop := (okI x.a0) ∧ (okI x.a1) ∧ (okN 104 x.a2.length ∧ (∀ y ∈ x.a2, y.ok))
theorem S37.row_inj (a b : S37) (h : a.row = b.row) : a = b := by
  cases a; cases b
  simp only [S37.row, List.cons.injEq, V.i.injEq, V.s.injEq, V.b.injEq, V.sl.injEq, true_and, and_true, rowS_inj, rowI_inj, rowB_inj, S7.map_inj, S13.map_inj, S110.map_inj, S112.map_inj, S104.map_inj, S27.map_inj, S81.map_inj, S30.map_inj, S34.map_inj, S67.map_inj] at h
  simp only [S37.mk.injEq]
  simp only [h, and_self]
theorem S37.map_inj {a b : List S37} : a.map S37.row = b.map S37.row ↔ a = b := Mx.map_inj S37.row_inj
theorem S37.d_inj (a b : S37) (h : a.d = b.d) : a = b := by
  cases a; cases b
  simp only [S37.d, D.agg.injEq, D.v.injEq, List.cons.injEq, V.i.injEq, V.s.injEq, V.b.injEq, V.sl.injEq, true_and, and_true, rowS_inj, rowI_inj, rowB_inj, S7.map_inj, S13.map_inj, S110.map_inj, S112.map_inj, S104.map_inj, S27.map_inj, S81.map_inj, S30.map_inj, S34.map_inj, S67.map_inj] at h
  simp only [S37.mk.injEq]
  simp only [h, and_self]
structure S39 where
  a0 : Int
  a1 : Int
  a2 : Int
  a3 : Int
  a4 : Int
  a5 : List S104
  a6 : Int
  a7 : List S81
  a8 : Int
  a9 : Int
  a10 : List S67
def S39.row (x : S39) : List V := [.i .i64 x.a0, .i .i64 x.a1, .i .i64 x.a2, .i .i64 x.a3, .i .i64 x.a4, .sl 8 (x.a5.map S104.row), .i .i64 x.a6, .sl 7 (x.a7.map S81.row), .i .i64 x.a8, .i .i64 x.a9, .sl 10 (x.a10.map S67.row)]
def S39.d (x : S39) : D := .agg [.v (.i .i64 x.a0), .v (.i .i64 x.a1), .v (.i .i64 x.a2), .v (.i .i64 x.a3), .v (.i .i64 x.a4), .v (.sl 8 (x.a5.map S104.row)), .v (.i .i64 x.a6), .v (.sl 7 (x.a7.map S81.row)), .v (.i .i64 x.a8), .v (.i .i64 x.a9), .v (.sl 10 (x.a10.map S67.row))]
def S39.ok (x : S39) : Prop := (okI x.a0) ∧ (okI x.a1) ∧ (okI x.a2) ∧ (okI x.a3) ∧ (okI x.a4) ∧ (okN 128 x.a5.length ∧ (∀ y ∈ x.a5, y.ok)) ∧ (okI x.a6) ∧ (okN 80 x.a7.length ∧ (∀ y ∈ x.a7, y.ok)) ∧ (okI x.a8) ∧ (okI x.a9) ∧ (okN 104 x.a10.length ∧ (∀ y ∈ x.a10, y.ok))
theorem S39.row_inj (a b : S39) (h : a.row = b.row) : a = b := by
  cases a; cases b
  simp only [S39.row, List.cons.injEq, V.i.injEq, V.s.injEq, V.b.injEq, V.sl.injEq, true_and, and_true, rowS_inj, rowI_inj, rowB_inj, S7.map_inj, S13.map_inj, S110.map_inj, S112.map_inj, S104.map_inj, S27.map_inj, S81.map_inj, S30.map_inj, S34.map_inj, S67.map_inj, S37.map_inj] at h
  simp only [S39.mk.injEq]
  simp only [h, and_self]
theorem S39.map_inj {a b : List S39} : a.map S39.row = b.map S39.row ↔ a = b := Mx.map_inj S39.row_inj
theorem S39.d_inj (a b : S39) (h : a.d = b.d) : a = b := by
  cases a; cases b
  simp only [S39.d, D.agg.injEq, D.v.injEq, List.cons.injEq, V.i.injEq, V.s.injEq, V.b.injEq, V.sl.injEq, true_and, and_true, rowS_inj, rowI_inj, rowB_inj, S7.map_inj, S13.map_inj, S110.map_inj, S112.map_inj, S104.map_inj, S27.map_inj, S81.map_inj, S30.map_inj, S34.map_inj, S67.map_inj, S37.map_inj] at h
  simp only [S39.mk.injEq]
  simp only [h, and_self]
structure S44 where
  a0 : List Int
  a1 : Int
def S44.row (x : S44) : List V := [.sl 1 (x.a0.map rowB), .i .i64 x.a1]
def S44.d (x : S44) : D := .agg [.v (.sl 1 (x.a0.map rowB)), .v (.i .i64 x.a1)]
def S44.ok (x : S44) : Prop := (okN 1 x.a0.length ∧ (∀ y ∈ x.a0, ((IntKind.u8).min ≤ y ∧ y ≤ (IntKind.u8).max))) ∧ (okI x.a1)
theorem S44.row_inj (a b : S44) (h : a.row = b.row) : a = b := by
  cases a; cases b
  simp only [S44.row, List.cons.injEq, V.i.injEq, V.s.injEq, V.b.injEq, V.sl.injEq, true_and, and_true, rowS_inj, rowI_inj, rowB_inj, S7.map_inj, S13.map_inj, S110.map_inj, S112.map_inj, S104.map_inj, S27.map_inj, S81.map_inj, S30.map_inj, S34.map_inj, S67.map_inj, S37.map_inj, S39.map_inj] at h
  simp only [S44.mk.injEq]
  simp only [h, and_self]
theorem S44.map_inj {a b : List S44} : a.map S44.row = b.map S44.row ↔ a = b := Mx.map_inj S44.row_inj
theorem S44.d_inj (a b : S44) (h : a.d = b.d) : a = b := by
  cases a; cases b
  simp only [S44.d, D.agg.injEq, D.v.injEq, List.cons.injEq, V.i.injEq, V.s.injEq, V.b.injEq, V.sl.injEq, true_and, and_true, rowS_inj, rowI_inj, rowB_inj, S7.map_inj, S13.map_inj, S110.map_inj, S112.map_inj, S104.map_inj, S27.map_inj, S81.map_inj, S30.map_inj, S34.map_inj, S67.map_inj, S37.map_inj, S39.map_inj] at h
  simp only [S44.mk.injEq]
  simp only [h, and_self]
structure S52 where
  a0 : Int
  a1 : ByteArray
  a2 : Int
  a3 : List ByteArray
def S52.row (x : S52) : List V := [.i .i64 x.a0, .s x.a1, .i .i64 x.a2, .sl 1 (x.a3.map rowS)]
def S52.d (x : S52) : D := .agg [.v (.i .i64 x.a0), .v (.s x.a1), .v (.i .i64 x.a2), .v (.sl 1 (x.a3.map rowS))]
def S52.ok (x : S52) : Prop := (okI x.a0) ∧ (okS x.a1) ∧ (okI x.a2) ∧ (okN 16 x.a3.length ∧ (∀ y ∈ x.a3, okS y))
theorem S52.row_inj (a b : S52) (h : a.row = b.row) : a = b := by
  cases a; cases b
  simp only [S52.row, List.cons.injEq, V.i.injEq, V.s.injEq, V.b.injEq, V.sl.injEq, true_and, and_true, rowS_inj, rowI_inj, rowB_inj, S7.map_inj, S13.map_inj, S110.map_inj, S112.map_inj, S104.map_inj, S27.map_inj, S81.map_inj, S30.map_inj, S34.map_inj, S67.map_inj, S37.map_inj, S39.map_inj, S44.map_inj] at h
  simp only [S52.mk.injEq]
  simp only [h, and_self]
theorem S52.map_inj {a b : List S52} : a.map S52.row = b.map S52.row ↔ a = b := Mx.map_inj S52.row_inj
theorem S52.d_inj (a b : S52) (h : a.d = b.d) : a = b := by
  cases a; cases b
  simp only [S52.d, D.agg.injEq, D.v.injEq, List.cons.injEq, V.i.injEq, V.s.injEq, V.b.injEq, V.sl.injEq, true_and, and_true, rowS_inj, rowI_inj, rowB_inj, S7.map_inj, S13.map_inj, S110.map_inj, S112.map_inj, S104.map_inj, S27.map_inj, S81.map_inj, S30.map_inj, S34.map_inj, S67.map_inj, S37.map_inj, S39.map_inj, S44.map_inj] at h
  simp only [S52.mk.injEq]
  simp only [h, and_self]
structure S59 where
  a0 : Int
  a1 : ByteArray
  a2 : ByteArray
  a3 : ByteArray
  a4 : Int
def S59.row (x : S59) : List V := [.i .i64 x.a0, .s x.a1, .s x.a2, .s x.a3, .i .i64 x.a4]
def S59.d (x : S59) : D := .agg [.v (.i .i64 x.a0), .v (.s x.a1), .v (.s x.a2), .v (.s x.a3), .v (.i .i64 x.a4)]
def S59.ok (x : S59) : Prop := (okI x.a0) ∧ (okS x.a1) ∧ (okS x.a2) ∧ (okS x.a3) ∧ (okI x.a4)
theorem S59.row_inj (a b : S59) (h : a.row = b.row) : a = b := by
  cases a; cases b
  simp only [S59.row, List.cons.injEq, V.i.injEq, V.s.injEq, V.b.injEq, V.sl.injEq, true_and, and_true, rowS_inj, rowI_inj, rowB_inj, S7.map_inj, S13.map_inj, S110.map_inj, S112.map_inj, S104.map_inj, S27.map_inj, S81.map_inj, S30.map_inj, S34.map_inj, S67.map_inj, S37.map_inj, S39.map_inj, S44.map_inj, S52.map_inj] at h
  simp only [S59.mk.injEq]
  simp only [h, and_self]
theorem S59.map_inj {a b : List S59} : a.map S59.row = b.map S59.row ↔ a = b := Mx.map_inj S59.row_inj
theorem S59.d_inj (a b : S59) (h : a.d = b.d) : a = b := by
  cases a; cases b
  simp only [S59.d, D.agg.injEq, D.v.injEq, List.cons.injEq, V.i.injEq, V.s.injEq, V.b.injEq, V.sl.injEq, true_and, and_true, rowS_inj, rowI_inj, rowB_inj, S7.map_inj, S13.map_inj, S110.map_inj, S112.map_inj, S104.map_inj, S27.map_inj, S81.map_inj, S30.map_inj, S34.map_inj, S67.map_inj, S37.map_inj, S39.map_inj, S44.map_inj, S52.map_inj] at h
  simp only [S59.mk.injEq]
  simp only [h, and_self]
structure S63 where
  a0 : Int
  a1 : Int
  a2 : Int
  a3 : ByteArray
  a4 : ByteArray
  a5 : ByteArray
  a6 : Int
def S63.row (x : S63) : List V := [.i .i64 x.a0, .i .i64 x.a1, .i .i64 x.a2, .s x.a3, .s x.a4, .s x.a5, .i .i64 x.a6]
def S63.d (x : S63) : D := .agg [.v (.i .i64 x.a0), .v (.i .i64 x.a1), .v (.i .i64 x.a2), .v (.s x.a3), .v (.s x.a4), .v (.s x.a5), .v (.i .i64 x.a6)]
def S63.ok (x : S63) : Prop := (okI x.a0) ∧ (okI x.a1) ∧ (okI x.a2) ∧ (okS x.a3) ∧ (okS x.a4) ∧ (okS x.a5) ∧ (okI x.a6)
theorem S63.row_inj (a b : S63) (h : a.row = b.row) : a = b := by
  cases a; cases b
  simp only [S63.row, List.cons.injEq, V.i.injEq, V.s.injEq, V.b.injEq, V.sl.injEq, true_and, and_true, rowS_inj, rowI_inj, rowB_inj, S7.map_inj, S13.map_inj, S110.map_inj, S112.map_inj, S104.map_inj, S27.map_inj, S81.map_inj, S30.map_inj, S34.map_inj, S67.map_inj, S37.map_inj, S39.map_inj, S44.map_inj, S52.map_inj, S59.map_inj] at h
  simp only [S63.mk.injEq]
  simp only [h, and_self]
theorem S63.map_inj {a b : List S63} : a.map S63.row = b.map S63.row ↔ a = b := Mx.map_inj S63.row_inj
theorem S63.d_inj (a b : S63) (h : a.d = b.d) : a = b := by
  cases a; cases b
  simp only [S63.d, D.agg.injEq, D.v.injEq, List.cons.injEq, V.i.injEq, V.s.injEq, V.b.injEq, V.sl.injEq, true_and, and_true, rowS_inj, rowI_inj, rowB_inj, S7.map_inj, S13.map_inj, S110.map_inj, S112.map_inj, S104.map_inj, S27.map_inj, S81.map_inj, S30.map_inj, S34.map_inj, S67.map_inj, S37.map_inj, S39.map_inj, S44.map_inj, S52.map_inj, S59.map_inj] at h
  simp only [S63.mk.injEq]
  simp only [h, and_self]
structure S74 where
  a0 : Int
  a1 : Int
  a2 : Int
  a3 : Int
  a4 : Int
  a5 : Int
  a6 : ByteArray
  a7 : ByteArray
  a8 : ByteArray
  a9 : Int
def S74.row (x : S74) : List V := [.i .i64 x.a0, .i .i64 x.a1, .i .i64 x.a2, .i .i64 x.a3, .i .i64 x.a4, .i .i64 x.a5, .s x.a6, .s x.a7, .s x.a8, .i .i64 x.a9]
def S74.d (x : S74) : D := .agg [.v (.i .i64 x.a0), .v (.i .i64 x.a1), .v (.i .i64 x.a2), .v (.i .i64 x.a3), .v (.i .i64 x.a4), .v (.i .i64 x.a5), .v (.s x.a6), .v (.s x.a7), .v (.s x.a8), .v (.i .i64 x.a9)]
def S74.ok (x : S74) : Prop := (okI x.a0) ∧ (okI x.a1) ∧ (okI x.a2) ∧ (okI x.a3) ∧ (okI x.a4) ∧ (okI x.a5) ∧ (okS x.a6) ∧ (okS x.a7) ∧ (okS x.a8) ∧ (okI x.a9)
theorem S74.row_inj (a b : S74) (h : a.row = b.row) : a = b := by
  cases a; cases b
  simp only [S74.row, List.cons.injEq, V.i.injEq, V.s.injEq, V.b.injEq, V.sl.injEq, true_and, and_true, rowS_inj, rowI_inj, rowB_inj, S7.map_inj, S13.map_inj, S110.map_inj, S112.map_inj, S104.map_inj, S27.map_inj, S81.map_inj, S30.map_inj, S34.map_inj, S67.map_inj, S37.map_inj, S39.map_inj, S44.map_inj, S52.map_inj, S59.map_inj, S63.map_inj] at h
  simp only [S74.mk.injEq]
  simp only [h, and_self]
theorem S74.map_inj {a b : List S74} : a.map S74.row = b.map S74.row ↔ a = b := Mx.map_inj S74.row_inj
theorem S74.d_inj (a b : S74) (h : a.d = b.d) : a = b := by
  cases a; cases b
  simp only [S74.d, D.agg.injEq, D.v.injEq, List.cons.injEq, V.i.injEq, V.s.injEq, V.b.injEq, V.sl.injEq, true_and, and_true, rowS_inj, rowI_inj, rowB_inj, S7.map_inj, S13.map_inj, S110.map_inj, S112.map_inj, S104.map_inj, S27.map_inj, S81.map_inj, S30.map_inj, S34.map_inj, S67.map_inj, S37.map_inj, S39.map_inj, S44.map_inj, S52.map_inj, S59.map_inj, S63.map_inj] at h
  simp only [S74.mk.injEq]
  simp only [h, and_self]
structure S102 where
  a0 : Int
  a1 : ByteArray
  a2 : Int
  a3 : List S110
  a4 : List ByteArray
  a5 : List S112
def S102.row (x : S102) : List V := [.i .i64 x.a0, .s x.a1, .i .i64 x.a2, .sl 2 (x.a3.map S110.row), .sl 1 (x.a4.map rowS), .sl 2 (x.a5.map S112.row)]
def S102.d (x : S102) : D := .agg [.v (.i .i64 x.a0), .v (.s x.a1), .v (.i .i64 x.a2), .v (.sl 2 (x.a3.map S110.row)), .v (.sl 1 (x.a4.map rowS)), .v (.sl 2 (x.a5.map S112.row))]
def S102.ok (x : S102) : Prop := (okI x.a0) ∧ (okS x.a1) ∧ (okI x.a2) ∧ (okN 32 x.a3.length ∧ (∀ y ∈ x.a3, y.ok)) ∧ (okN 16 x.a4.length ∧ (∀ y ∈ x.a4, okS y)) ∧ (okN 24 x.a5.length ∧ (∀ y ∈ x.a5, y.ok))
theorem S102.row_inj (a b : S102) (h : a.row = b.row) : a = b := by
  cases a; cases b
  simp only [S102.row, List.cons.injEq, V.i.injEq, V.s.injEq, V.b.injEq, V.sl.injEq, true_and, and_true, rowS_inj, rowI_inj, rowB_inj, S7.map_inj, S13.map_inj, S110.map_inj, S112.map_inj, S104.map_inj, S27.map_inj, S81.map_inj, S30.map_inj, S34.map_inj, S67.map_inj, S37.map_inj, S39.map_inj, S44.map_inj, S52.map_inj, S59.map_inj, S63.map_inj, S74.map_inj] at h
  simp only [S102.mk.injEq]
  simp only [h, and_self]
theorem S102.map_inj {a b : List S102} : a.map S102.row = b.map S102.row ↔ a = b := Mx.map_inj S102.row_inj
theorem S102.d_inj (a b : S102) (h : a.d = b.d) : a = b := by
  cases a; cases b
  simp only [S102.d, D.agg.injEq, D.v.injEq, List.cons.injEq, V.i.injEq, V.s.injEq, V.b.injEq, V.sl.injEq, true_and, and_true, rowS_inj, rowI_inj, rowB_inj, S7.map_inj, S13.map_inj, S110.map_inj, S112.map_inj, S104.map_inj, S27.map_inj, S81.map_inj, S30.map_inj, S34.map_inj, S67.map_inj, S37.map_inj, S39.map_inj, S44.map_inj, S52.map_inj, S59.map_inj, S63.map_inj, S74.map_inj] at h
  simp only [S102.mk.injEq]
  simp only [h, and_self]
theorem S7.of7 {k : Nat} {r : List V} (h : HasV Try.prog k 7 r) : ∃ x : S7, r = x.row ∧ x.ok := by
  obtain ⟨k0, h0⟩ := has_struct Try.underlying7 h
  simp only [hasFs] at h0
  obtain ⟨_, _, rfl, f0_0, _, _, rfl, f0_1, _, _, rfl, f0_2, _, _, rfl, f0_3, rfl⟩ := h0
  obtain ⟨n1, rfl, o1⟩ := has_int Try.underlying2 f0_0
  obtain ⟨n2, rfl, o2⟩ := has_int Try.underlying3 f0_1
  obtain ⟨n3, rfl⟩ := has_bool Try.underlying4 f0_2
  obtain ⟨n4, rfl, o4⟩ := has_int Try.underlying6 f0_3
  exact ⟨⟨n1, n2, n3, n4⟩, rfl, ⟨okI_of o1, okI_of o2, trivial, o4⟩⟩
theorem S7.of8 {k : Nat} {r : List V} (h : HasV Try.prog k 8 r) : ∃ x : S7, r = x.row ∧ x.ok := by
  obtain ⟨k0, h0⟩ := has_struct Try.underlying8 h
  simp only [hasFs] at h0
  obtain ⟨_, _, rfl, f0_0, _, _, rfl, f0_1, _, _, rfl, f0_2, _, _, rfl, f0_3, rfl⟩ := h0
  obtain ⟨n1, rfl, o1⟩ := has_int Try.underlying2 f0_0
  obtain ⟨n2, rfl, o2⟩ := has_int Try.underlying3 f0_1
  obtain ⟨n3, rfl⟩ := has_bool Try.underlying4 f0_2
  obtain ⟨n4, rfl, o4⟩ := has_int Try.underlying6 f0_3
  exact ⟨⟨n1, n2, n3, n4⟩, rfl, ⟨okI_of o1, okI_of o2, trivial, o4⟩⟩
theorem S13.of13 {k : Nat} {r : List V} (h : HasV Try.prog k 13 r) : ∃ x : S13, r = x.row ∧ x.ok := by
  obtain ⟨k0, h0⟩ := has_struct Try.underlying13 h
  simp only [hasFs] at h0
  obtain ⟨_, _, rfl, f0_0, _, _, rfl, f0_1, rfl⟩ := h0
  obtain ⟨n1, rfl, o1⟩ := has_str Try.underlying9 f0_0
  obtain ⟨n2, rfl, o2⟩ := has_int Try.underlying12 f0_1
  exact ⟨⟨n1, n2⟩, rfl, ⟨o1, o2⟩⟩
theorem S13.of14 {k : Nat} {r : List V} (h : HasV Try.prog k 14 r) : ∃ x : S13, r = x.row ∧ x.ok := by
  obtain ⟨k0, h0⟩ := has_struct Try.underlying14 h
  simp only [hasFs] at h0
  obtain ⟨_, _, rfl, f0_0, _, _, rfl, f0_1, rfl⟩ := h0
  obtain ⟨n1, rfl, o1⟩ := has_str Try.underlying9 f0_0
  obtain ⟨n2, rfl, o2⟩ := has_int Try.underlying12 f0_1
  exact ⟨⟨n1, n2⟩, rfl, ⟨o1, o2⟩⟩
theorem S110.of111 {k : Nat} {r : List V} (h : HasV Try.prog k 111 r) : ∃ x : S110, r = x.row ∧ x.ok := by
  obtain ⟨k0, h0⟩ := has_struct Try.underlying111 h
  simp only [hasFs] at h0
  obtain ⟨_, _, rfl, f0_0, _, _, rfl, f0_1, rfl⟩ := h0
  obtain ⟨n1, rfl, o1⟩ := has_str Try.underlying9 f0_0
  obtain ⟨n2, rfl, o2⟩ := has_str Try.underlying9 f0_1
  exact ⟨⟨n1, n2⟩, rfl, ⟨o1, o2⟩⟩
theorem S112.of113 {k : Nat} {r : List V} (h : HasV Try.prog k 113 r) : ∃ x : S112, r = x.row ∧ x.ok := by
  obtain ⟨k0, h0⟩ := has_struct Try.underlying113 h
  simp only [hasFs] at h0
  obtain ⟨_, _, rfl, f0_0, _, _, rfl, f0_1, rfl⟩ := h0
  obtain ⟨n1, rfl, o1⟩ := has_str Try.underlying9 f0_0
  obtain ⟨n2, rfl, o2⟩ := has_int Try.underlying3 f0_1
  exact ⟨⟨n1, n2⟩, rfl, ⟨o1, okI_of o2⟩⟩
theorem S104.of105 {k : Nat} {r : List V} (h : HasV Try.prog k 105 r) : ∃ x : S104, r = x.row ∧ x.ok := by
  obtain ⟨k0, h0⟩ := has_struct Try.underlying105 h
  simp only [hasFs] at h0
  obtain ⟨_, _, rfl, f0_0, _, _, rfl, f0_1, _, _, rfl, f0_2, rfl⟩ := h0
  obtain ⟨n1, rfl, o1⟩ := has_str Try.underlying9 f0_0
  obtain ⟨k2, h2⟩ := has_struct Try.underlying103 f0_1
  simp only [hasFs] at h2
  obtain ⟨_, _, rfl, f2_0, _, _, rfl, f2_1, _, _, rfl, f2_2, _, _, rfl, f2_3, _, _, rfl, f2_4, _, _, rfl, f2_5, rfl⟩ := h2
  obtain ⟨n3, rfl, o3⟩ := has_int Try.underlying3 f2_0
  obtain ⟨n4, rfl, o4⟩ := has_str Try.underlying9 f2_1
  obtain ⟨n5, rfl, o5⟩ := has_int Try.underlying3 f2_2
  obtain ⟨l6, j6, rfl, o6, q6⟩ := has_slice (n := 2) (m := 32) Try.underlying100 (by kernel_rfl) (by kernel_rfl) f2_3
  obtain ⟨n6, rfl, p6⟩ := rows_of (f := S110.row) (ok := fun y => y.ok) (fun r hr => S110.of111 (q6 r hr))
  rw [List.length_map] at o6
  obtain ⟨l7, j7, rfl, o7, q7⟩ := has_slice (n := 1) (m := 16) Try.underlying51 (by kernel_rfl) (by kernel_rfl) f2_4
  obtain ⟨n7, rfl, p7⟩ := rows_of (f := rowS) (ok := fun y => okS y) (fun r hr => by obtain ⟨s, h1, h2⟩ := has_str Try.underlying9 (q7 r hr); exact ⟨s, h1, h2⟩)
  rw [List.length_map] at o7
  obtain ⟨l8, j8, rfl, o8, q8⟩ := has_slice (n := 2) (m := 24) Try.underlying101 (by kernel_rfl) (by kernel_rfl) f2_5
  obtain ⟨n8, rfl, p8⟩ := rows_of (f := S112.row) (ok := fun y => y.ok) (fun r hr => S112.of113 (q8 r hr))
  rw [List.length_map] at o8
  obtain ⟨n9, rfl, o9⟩ := has_int Try.underlying3 f0_2
  exact ⟨⟨n1, n3, n4, n5, n6, n7, n8, n9⟩, rfl, ⟨o1, okI_of o3, o4, okI_of o5, ⟨o6, p6⟩, ⟨o7, p7⟩, ⟨o8, p8⟩, okI_of o9⟩⟩
theorem S27.of27 {k : Nat} {r : List V} (h : HasV Try.prog k 27 r) : ∃ x : S27, r = x.row ∧ x.ok := by
  obtain ⟨k0, h0⟩ := has_struct Try.underlying27 h
  simp only [hasFs] at h0
  obtain ⟨_, _, rfl, f0_0, _, _, rfl, f0_1, rfl⟩ := h0
  obtain ⟨n1, rfl, o1⟩ := has_int Try.underlying3 f0_0
  obtain ⟨l2, j2, rfl, o2, q2⟩ := has_slice (n := 8) (m := 128) Try.underlying26 (by kernel_rfl) (by kernel_rfl) f0_1
  obtain ⟨n2, rfl, p2⟩ := rows_of (f := S104.row) (ok := fun y => y.ok) (fun r hr => S104.of105 (q2 r hr))
  rw [List.length_map] at o2
  exact ⟨⟨n1, n2⟩, rfl, ⟨okI_of o1, ⟨o2, p2⟩⟩⟩
theorem S27.of28 {k : Nat} {r : List V} (h : HasV Try.prog k 28 r) : ∃ x : S27, r = x.row ∧ x.ok := by
  obtain ⟨k0, h0⟩ := has_struct Try.underlying28 h
  simp only [hasFs] at h0
  obtain ⟨_, _, rfl, f0_0, _, _, rfl, f0_1, rfl⟩ := h0
  obtain ⟨n1, rfl, o1⟩ := has_int Try.underlying3 f0_0
  obtain ⟨l2, j2, rfl, o2, q2⟩ := has_slice (n := 8) (m := 128) Try.underlying26 (by kernel_rfl) (by kernel_rfl) f0_1
  obtain ⟨n2, rfl, p2⟩ := rows_of (f := S104.row) (ok := fun y => y.ok) (fun r hr => S104.of105 (q2 r hr))
  rw [List.length_map] at o2
  exact ⟨⟨n1, n2⟩, rfl, ⟨okI_of o1, ⟨o2, p2⟩⟩⟩
theorem S81.of82 {k : Nat} {r : List V} (h : HasV Try.prog k 82 r) : ∃ x : S81, r = x.row ∧ x.ok := by
  obtain ⟨k0, h0⟩ := has_struct Try.underlying82 h
  simp only [hasFs] at h0
  obtain ⟨_, _, rfl, f0_0, _, _, rfl, f0_1, _, _, rfl, f0_2, _, _, rfl, f0_3, rfl⟩ := h0
  obtain ⟨n1, rfl, o1⟩ := has_int Try.underlying3 f0_0
  obtain ⟨n2, rfl, o2⟩ := has_int Try.underlying3 f0_1
  obtain ⟨n3, rfl, o3⟩ := has_int Try.underlying3 f0_2
  obtain ⟨k4, h4⟩ := has_struct Try.underlying53 f0_3
  simp only [hasFs] at h4
  obtain ⟨_, _, rfl, f4_0, _, _, rfl, f4_1, _, _, rfl, f4_2, _, _, rfl, f4_3, rfl⟩ := h4
  obtain ⟨n5, rfl, o5⟩ := has_int Try.underlying22 f4_0
  obtain ⟨n6, rfl, o6⟩ := has_str Try.underlying9 f4_1
  obtain ⟨n7, rfl, o7⟩ := has_int Try.underlying3 f4_2
  obtain ⟨l8, j8, rfl, o8, q8⟩ := has_slice (n := 1) (m := 16) Try.underlying51 (by kernel_rfl) (by kernel_rfl) f4_3
  obtain ⟨n8, rfl, p8⟩ := rows_of (f := rowS) (ok := fun y => okS y) (fun r hr => by obtain ⟨s, h1, h2⟩ := has_str Try.underlying9 (q8 r hr); exact ⟨s, h1, h2⟩)
  rw [List.length_map] at o8
  exact ⟨⟨n1, n2, n3, n5, n6, n7, n8⟩, rfl, ⟨okI_of o1, okI_of o2, okI_of o3, okI_of o5, o6, okI_of o7, ⟨o8, p8⟩⟩⟩
theorem S30.of30 {k : Nat} {r : List V} (h : HasV Try.prog k 30 r) : ∃ x : S30, r = x.row ∧ x.ok := by
  obtain ⟨k0, h0⟩ := has_struct Try.underlying30 h
  simp only [hasFs] at h0
  obtain ⟨_, _, rfl, f0_0, _, _, rfl, f0_1, _, _, rfl, f0_2, rfl⟩ := h0
  obtain ⟨k1, h1⟩ := has_struct Try.underlying28 f0_0
  simp only [hasFs] at h1
  obtain ⟨_, _, rfl, f1_0, _, _, rfl, f1_1, rfl⟩ := h1
  obtain ⟨n2, rfl, o2⟩ := has_int Try.underlying3 f1_0
  obtain ⟨l3, j3, rfl, o3, q3⟩ := has_slice (n := 8) (m := 128) Try.underlying26 (by kernel_rfl) (by kernel_rfl) f1_1
  obtain ⟨n3, rfl, p3⟩ := rows_of (f := S104.row) (ok := fun y => y.ok) (fun r hr => S104.of105 (q3 r hr))
  rw [List.length_map] at o3
  obtain ⟨n4, rfl, o4⟩ := has_int Try.underlying3 f0_1
  obtain ⟨l5, j5, rfl, o5, q5⟩ := has_slice (n := 7) (m := 80) Try.underlying29 (by kernel_rfl) (by kernel_rfl) f0_2
  obtain ⟨n5, rfl, p5⟩ := rows_of (f := S81.row) (ok := fun y => y.ok) (fun r hr => S81.of82 (q5 r hr))
  rw [List.length_map] at o5
  exact ⟨⟨n2, n3, n4, n5⟩, rfl, ⟨okI_of o2, ⟨o3, p3⟩, okI_of o4, ⟨o5, p5⟩⟩⟩
theorem S30.of31 {k : Nat} {r : List V} (h : HasV Try.prog k 31 r) : ∃ x : S30, r = x.row ∧ x.ok := by
  obtain ⟨k0, h0⟩ := has_struct Try.underlying31 h
  simp only [hasFs] at h0
  obtain ⟨_, _, rfl, f0_0, _, _, rfl, f0_1, _, _, rfl, f0_2, rfl⟩ := h0
  obtain ⟨k1, h1⟩ := has_struct Try.underlying28 f0_0
  simp only [hasFs] at h1
  obtain ⟨_, _, rfl, f1_0, _, _, rfl, f1_1, rfl⟩ := h1
  obtain ⟨n2, rfl, o2⟩ := has_int Try.underlying3 f1_0
  obtain ⟨l3, j3, rfl, o3, q3⟩ := has_slice (n := 8) (m := 128) Try.underlying26 (by kernel_rfl) (by kernel_rfl) f1_1
  obtain ⟨n3, rfl, p3⟩ := rows_of (f := S104.row) (ok := fun y => y.ok) (fun r hr => S104.of105 (q3 r hr))
  rw [List.length_map] at o3
  obtain ⟨n4, rfl, o4⟩ := has_int Try.underlying3 f0_1
  obtain ⟨l5, j5, rfl, o5, q5⟩ := has_slice (n := 7) (m := 80) Try.underlying29 (by kernel_rfl) (by kernel_rfl) f0_2
  obtain ⟨n5, rfl, p5⟩ := rows_of (f := S81.row) (ok := fun y => y.ok) (fun r hr => S81.of82 (q5 r hr))
  rw [List.length_map] at o5
  exact ⟨⟨n2, n3, n4, n5⟩, rfl, ⟨okI_of o2, ⟨o3, p3⟩, okI_of o4, ⟨o5, p5⟩⟩⟩
theorem S34.of34 {k : Nat} {r : List V} (h : HasV Try.prog k 34 r) : ∃ x : S34, r = x.row ∧ x.ok := by
  obtain ⟨k0, h0⟩ := has_struct Try.underlying34 h
  simp only [hasFs] at h0
  obtain ⟨_, _, rfl, f0_0, _, _, rfl, f0_1, _, _, rfl, f0_2, rfl⟩ := h0
  obtain ⟨n1, rfl, o1⟩ := has_int Try.underlying3 f0_0
  obtain ⟨n2, rfl, o2⟩ := has_int Try.underlying3 f0_1
  obtain ⟨k3, h3⟩ := has_struct Try.underlying31 f0_2
  simp only [hasFs] at h3
  obtain ⟨_, _, rfl, f3_0, _, _, rfl, f3_1, _, _, rfl, f3_2, rfl⟩ := h3
  obtain ⟨k4, h4⟩ := has_struct Try.underlying28 f3_0
  simp only [hasFs] at h4
  obtain ⟨_, _, rfl, f4_0, _, _, rfl, f4_1, rfl⟩ := h4
  obtain ⟨n5, rfl, o5⟩ := has_int Try.underlying3 f4_0
  obtain ⟨l6, j6, rfl, o6, q6⟩ := has_slice (n := 8) (m := 128) Try.underlying26 (by kernel_rfl) (by kernel_rfl) f4_1
  obtain ⟨n6, rfl, p6⟩ := rows_of (f := S104.row) (ok := fun y => y.ok) (fun r hr => S104.of105 (q6 r hr))
  rw [List.length_map] at o6
  obtain ⟨n7, rfl, o7⟩ := has_int Try.underlying3 f3_1
  obtain ⟨l8, j8, rfl, o8, q8⟩ := has_slice (n := 7) (m := 80) Try.underlying29 (by kernel_rfl) (by kernel_rfl) f3_2
  obtain ⟨n8, rfl, p8⟩ := rows_of (f := S81.row) (ok := fun y => y.ok) (fun r hr => S81.of82 (q8 r hr))
  rw [List.length_map] at o8
  exact ⟨⟨n1, n2, n5, n6, n7, n8⟩, rfl, ⟨okI_of o1, okI_of o2, okI_of o5, ⟨o6, p6⟩, okI_of o7, ⟨o8, p8⟩⟩⟩
theorem S34.of35 {k : Nat} {r : List V} (h : HasV Try.prog k 35 r) : ∃ x : S34, r = x.row ∧ x.ok := by
  obtain ⟨k0, h0⟩ := has_struct Try.underlying35 h
  simp only [hasFs] at h0
  obtain ⟨_, _, rfl, f0_0, _, _, rfl, f0_1, _, _, rfl, f0_2, rfl⟩ := h0
  obtain ⟨n1, rfl, o1⟩ := has_int Try.underlying3 f0_0
  obtain ⟨n2, rfl, o2⟩ := has_int Try.underlying3 f0_1
  obtain ⟨k3, h3⟩ := has_struct Try.underlying31 f0_2
  simp only [hasFs] at h3
  obtain ⟨_, _, rfl, f3_0, _, _, rfl, f3_1, _, _, rfl, f3_2, rfl⟩ := h3
  obtain ⟨k4, h4⟩ := has_struct Try.underlying28 f3_0
  simp only [hasFs] at h4
  obtain ⟨_, _, rfl, f4_0, _, _, rfl, f4_1, rfl⟩ := h4
  obtain ⟨n5, rfl, o5⟩ := has_int Try.underlying3 f4_0
  obtain ⟨l6, j6, rfl, o6, q6⟩ := has_slice (n := 8) (m := 128) Try.underlying26 (by kernel_rfl) (by kernel_rfl) f4_1
  obtain ⟨n6, rfl, p6⟩ := rows_of (f := S104.row) (ok := fun y => y.ok) (fun r hr => S104.of105 (q6 r hr))
  rw [List.length_map] at o6
  obtain ⟨n7, rfl, o7⟩ := has_int Try.underlying3 f3_1
  obtain ⟨l8, j8, rfl, o8, q8⟩ := has_slice (n := 7) (m := 80) Try.underlying29 (by kernel_rfl) (by kernel_rfl) f3_2
  obtain ⟨n8, rfl, p8⟩ := rows_of (f := S81.row) (ok := fun y => y.ok) (fun r hr => S81.of82 (q8 r hr))
  rw [List.length_map] at o8
  exact ⟨⟨n1, n2, n5, n6, n7, n8⟩, rfl, ⟨okI_of o1, okI_of o2, okI_of o5, ⟨o6, p6⟩, okI_of o7, ⟨o8, p8⟩⟩⟩
theorem S67.of68 {k : Nat} {r : List V} (h : HasV Try.prog k 68 r) : ∃ x : S67, r = x.row ∧ x.ok := by
  obtain ⟨k0, h0⟩ := has_struct Try.underlying68 h
  simp only [hasFs] at h0
  obtain ⟨_, _, rfl, f0_0, _, _, rfl, f0_1, _, _, rfl, f0_2, _, _, rfl, f0_3, rfl⟩ := h0
  obtain ⟨n1, rfl, o1⟩ := has_int Try.underlying3 f0_0
  obtain ⟨n2, rfl, o2⟩ := has_int Try.underlying3 f0_1
  obtain ⟨n3, rfl⟩ := has_bool Try.underlying4 f0_2
  obtain ⟨k4, h4⟩ := has_struct Try.underlying64 f0_3
  simp only [hasFs] at h4
  obtain ⟨_, _, rfl, f4_0, _, _, rfl, f4_1, _, _, rfl, f4_2, rfl⟩ := h4
  obtain ⟨n5, rfl, o5⟩ := has_int Try.underlying3 f4_0
  obtain ⟨n6, rfl, o6⟩ := has_int Try.underlying3 f4_1
  obtain ⟨k7, h7⟩ := has_struct Try.underlying60 f4_2
  simp only [hasFs] at h7
  obtain ⟨_, _, rfl, f7_0, _, _, rfl, f7_1, _, _, rfl, f7_2, _, _, rfl, f7_3, _, _, rfl, f7_4, rfl⟩ := h7
  obtain ⟨n8, rfl, o8⟩ := has_int Try.underlying3 f7_0
  obtain ⟨n9, rfl, o9⟩ := has_str Try.underlying9 f7_1
  obtain ⟨n10, rfl, o10⟩ := has_str Try.underlying9 f7_2
  obtain ⟨n11, rfl, o11⟩ := has_str Try.underlying9 f7_3
  obtain ⟨n12, rfl, o12⟩ := has_int Try.underlying3 f7_4
  exact ⟨⟨n1, n2, n3, n5, n6, n8, n9, n10, n11, n12⟩, rfl, ⟨okI_of o1, okI_of o2, trivial, okI_of o5, okI_of o6, okI_of o8, o9, o10, o11, okI_of o12⟩⟩
theorem S37.of37 {k : Nat} {r : List V} (h : HasV Try.prog k 37 r) : ∃ x : S37, r = x.row ∧ x.ok := by
  obtain ⟨k0, h0⟩ := has_struct Try.underlying37 h
  simp only [hasFs] at h0
  obtain ⟨_, _, rfl, f0_0, _, _, rfl, f0_1, _, _, rfl, f0_2, rfl⟩ := h0
  obtain ⟨n1, rfl, o1⟩ := has_int Try.underlying3 f0_0
  obtain ⟨n2, rfl, o2⟩ := has_int Try.underlying3 f0_1
  obtain ⟨l3, j3, rfl, o3, q3⟩ := has_slice (n := 10) (m := 104) Try.underlying36 (by kernel_rfl) (by kernel_rfl) f0_2
  obtain ⟨n3, rfl, p3⟩ := rows_of (f := S67.row) (ok := fun y => y.ok) (fun r hr => S67.of68 (q3 r hr))
  rw [List.length_map] at o3
  exact ⟨⟨n1, n2, n3⟩, rfl, ⟨okI_of o1, okI_of o2, ⟨o3, p3⟩⟩⟩
theorem S37.of38 {k : Nat} {r : List V} (h : HasV Try.prog k 38 r) : ∃ x : S37, r = x.row ∧ x.ok := by
  obtain ⟨k0, h0⟩ := has_struct Try.underlying38 h
  simp only [hasFs] at h0
  obtain ⟨_, _, rfl, f0_0, _, _, rfl, f0_1, _, _, rfl, f0_2, rfl⟩ := h0
  obtain ⟨n1, rfl, o1⟩ := has_int Try.underlying3 f0_0
  obtain ⟨n2, rfl, o2⟩ := has_int Try.underlying3 f0_1
  obtain ⟨l3, j3, rfl, o3, q3⟩ := has_slice (n := 10) (m := 104) Try.underlying36 (by kernel_rfl) (by kernel_rfl) f0_2
  obtain ⟨n3, rfl, p3⟩ := rows_of (f := S67.row) (ok := fun y => y.ok) (fun r hr => S67.of68 (q3 r hr))
  rw [List.length_map] at o3
  exact ⟨⟨n1, n2, n3⟩, rfl, ⟨okI_of o1, okI_of o2, ⟨o3, p3⟩⟩⟩
theorem S39.of39 {k : Nat} {r : List V} (h : HasV Try.prog k 39 r) : ∃ x : S39, r = x.row ∧ x.ok := by
  obtain ⟨k0, h0⟩ := has_struct Try.underlying39 h
  simp only [hasFs] at h0
  obtain ⟨_, _, rfl, f0_0, _, _, rfl, f0_1, _, _, rfl, f0_2, _, _, rfl, f0_3, rfl⟩ := h0
  obtain ⟨n1, rfl, o1⟩ := has_int Try.underlying3 f0_0
  obtain ⟨n2, rfl, o2⟩ := has_int Try.underlying3 f0_1
  obtain ⟨k3, h3⟩ := has_struct Try.underlying35 f0_2
  simp only [hasFs] at h3
  obtain ⟨_, _, rfl, f3_0, _, _, rfl, f3_1, _, _, rfl, f3_2, rfl⟩ := h3
  obtain ⟨n4, rfl, o4⟩ := has_int Try.underlying3 f3_0
  obtain ⟨n5, rfl, o5⟩ := has_int Try.underlying3 f3_1
  obtain ⟨k6, h6⟩ := has_struct Try.underlying31 f3_2
  simp only [hasFs] at h6
  obtain ⟨_, _, rfl, f6_0, _, _, rfl, f6_1, _, _, rfl, f6_2, rfl⟩ := h6
  obtain ⟨k7, h7⟩ := has_struct Try.underlying28 f6_0
  simp only [hasFs] at h7
  obtain ⟨_, _, rfl, f7_0, _, _, rfl, f7_1, rfl⟩ := h7
  obtain ⟨n8, rfl, o8⟩ := has_int Try.underlying3 f7_0
  obtain ⟨l9, j9, rfl, o9, q9⟩ := has_slice (n := 8) (m := 128) Try.underlying26 (by kernel_rfl) (by kernel_rfl) f7_1
  obtain ⟨n9, rfl, p9⟩ := rows_of (f := S104.row) (ok := fun y => y.ok) (fun r hr => S104.of105 (q9 r hr))
  rw [List.length_map] at o9
  obtain ⟨n10, rfl, o10⟩ := has_int Try.underlying3 f6_1
  obtain ⟨l11, j11, rfl, o11, q11⟩ := has_slice (n := 7) (m := 80) Try.underlying29 (by kernel_rfl) (by kernel_rfl) f6_2
  obtain ⟨n11, rfl, p11⟩ := rows_of (f := S81.row) (ok := fun y => y.ok) (fun r hr => S81.of82 (q11 r hr))
  rw [List.length_map] at o11
  obtain ⟨k12, h12⟩ := has_struct Try.underlying38 f0_3
  simp only [hasFs] at h12
  obtain ⟨_, _, rfl, f12_0, _, _, rfl, f12_1, _, _, rfl, f12_2, rfl⟩ := h12
  obtain ⟨n13, rfl, o13⟩ := has_int Try.underlying3 f12_0
  obtain ⟨n14, rfl, o14⟩ := has_int Try.underlying3 f12_1
  obtain ⟨l15, j15, rfl, o15, q15⟩ := has_slice (n := 10) (m := 104) Try.underlying36 (by kernel_rfl) (by kernel_rfl) f12_2
  obtain ⟨n15, rfl, p15⟩ := rows_of (f := S67.row) (ok := fun y => y.ok) (fun r hr => S67.of68 (q15 r hr))
  rw [List.length_map] at o15
  exact ⟨⟨n1, n2, n4, n5, n8, n9, n10, n11, n13, n14, n15⟩, rfl, ⟨okI_of o1, okI_of o2, okI_of o4, okI_of o5, okI_of o8, ⟨o9, p9⟩, okI_of o10, ⟨o11, p11⟩, okI_of o13, okI_of o14, ⟨o15, p15⟩⟩⟩
theorem S39.of40 {k : Nat} {r : List V} (h : HasV Try.prog k 40 r) : ∃ x : S39, r = x.row ∧ x.ok := by
  obtain ⟨k0, h0⟩ := has_struct Try.underlying40 h
  simp only [hasFs] at h0
  obtain ⟨_, _, rfl, f0_0, _, _, rfl, f0_1, _, _, rfl, f0_2, _, _, rfl, f0_3, rfl⟩ := h0
  obtain ⟨n1, rfl, o1⟩ := has_int Try.underlying3 f0_0
  obtain ⟨n2, rfl, o2⟩ := has_int Try.underlying3 f0_1
  obtain ⟨k3, h3⟩ := has_struct Try.underlying35 f0_2
  simp only [hasFs] at h3
  obtain ⟨_, _, rfl, f3_0, _, _, rfl, f3_1, _, _, rfl, f3_2, rfl⟩ := h3
  obtain ⟨n4, rfl, o4⟩ := has_int Try.underlying3 f3_0
  obtain ⟨n5, rfl, o5⟩ := has_int Try.underlying3 f3_1
  obtain ⟨k6, h6⟩ := has_struct Try.underlying31 f3_2
  simp only [hasFs] at h6
  obtain ⟨_, _, rfl, f6_0, _, _, rfl, f6_1, _, _, rfl, f6_2, rfl⟩ := h6
  obtain ⟨k7, h7⟩ := has_struct Try.underlying28 f6_0
  simp only [hasFs] at h7
  obtain ⟨_, _, rfl, f7_0, _, _, rfl, f7_1, rfl⟩ := h7
  obtain ⟨n8, rfl, o8⟩ := has_int Try.underlying3 f7_0
  obtain ⟨l9, j9, rfl, o9, q9⟩ := has_slice (n := 8) (m := 128) Try.underlying26 (by kernel_rfl) (by kernel_rfl) f7_1
  obtain ⟨n9, rfl, p9⟩ := rows_of (f := S104.row) (ok := fun y => y.ok) (fun r hr => S104.of105 (q9 r hr))
  rw [List.length_map] at o9
  obtain ⟨n10, rfl, o10⟩ := has_int Try.underlying3 f6_1
  obtain ⟨l11, j11, rfl, o11, q11⟩ := has_slice (n := 7) (m := 80) Try.underlying29 (by kernel_rfl) (by kernel_rfl) f6_2
  obtain ⟨n11, rfl, p11⟩ := rows_of (f := S81.row) (ok := fun y => y.ok) (fun r hr => S81.of82 (q11 r hr))
  rw [List.length_map] at o11
  obtain ⟨k12, h12⟩ := has_struct Try.underlying38 f0_3
  simp only [hasFs] at h12
  obtain ⟨_, _, rfl, f12_0, _, _, rfl, f12_1, _, _, rfl, f12_2, rfl⟩ := h12
  obtain ⟨n13, rfl, o13⟩ := has_int Try.underlying3 f12_0
  obtain ⟨n14, rfl, o14⟩ := has_int Try.underlying3 f12_1
  obtain ⟨l15, j15, rfl, o15, q15⟩ := has_slice (n := 10) (m := 104) Try.underlying36 (by kernel_rfl) (by kernel_rfl) f12_2
  obtain ⟨n15, rfl, p15⟩ := rows_of (f := S67.row) (ok := fun y => y.ok) (fun r hr => S67.of68 (q15 r hr))
  rw [List.length_map] at o15
  exact ⟨⟨n1, n2, n4, n5, n8, n9, n10, n11, n13, n14, n15⟩, rfl, ⟨okI_of o1, okI_of o2, okI_of o4, okI_of o5, okI_of o8, ⟨o9, p9⟩, okI_of o10, ⟨o11, p11⟩, okI_of o13, okI_of o14, ⟨o15, p15⟩⟩⟩
theorem S44.of44 {k : Nat} {r : List V} (h : HasV Try.prog k 44 r) : ∃ x : S44, r = x.row ∧ x.ok := by
  obtain ⟨k0, h0⟩ := has_struct Try.underlying44 h
  simp only [hasFs] at h0
  obtain ⟨_, _, rfl, f0_0, _, _, rfl, f0_1, rfl⟩ := h0
  obtain ⟨l1, j1, rfl, o1, q1⟩ := has_slice (n := 1) (m := 1) Try.underlying43 (by kernel_rfl) (by kernel_rfl) f0_0
  obtain ⟨n1, rfl, p1⟩ := rows_of (f := rowB) (ok := fun y => ((IntKind.u8).min ≤ y ∧ y ≤ (IntKind.u8).max)) (fun r hr => by obtain ⟨s, h1, h2⟩ := has_int Try.underlying5 (q1 r hr); exact ⟨s, h1, h2⟩)
  rw [List.length_map] at o1
  obtain ⟨n2, rfl, o2⟩ := has_int Try.underlying3 f0_1
  exact ⟨⟨n1, n2⟩, rfl, ⟨⟨o1, p1⟩, okI_of o2⟩⟩
theorem S44.of45 {k : Nat} {r : List V} (h : HasV Try.prog k 45 r) : ∃ x : S44, r = x.row ∧ x.ok := by
  obtain ⟨k0, h0⟩ := has_struct Try.underlying45 h
  simp only [hasFs] at h0
  obtain ⟨_, _, rfl, f0_0, _, _, rfl, f0_1, rfl⟩ := h0
  obtain ⟨l1, j1, rfl, o1, q1⟩ := has_slice (n := 1) (m := 1) Try.underlying43 (by kernel_rfl) (by kernel_rfl) f0_0
  obtain ⟨n1, rfl, p1⟩ := rows_of (f := rowB) (ok := fun y => ((IntKind.u8).min ≤ y ∧ y ≤ (IntKind.u8).max)) (fun r hr => by obtain ⟨s, h1, h2⟩ := has_int Try.underlying5 (q1 r hr); exact ⟨s, h1, h2⟩)
  rw [List.length_map] at o1
  obtain ⟨n2, rfl, o2⟩ := has_int Try.underlying3 f0_1
  exact ⟨⟨n1, n2⟩, rfl, ⟨⟨o1, p1⟩, okI_of o2⟩⟩
theorem S52.of52 {k : Nat} {r : List V} (h : HasV Try.prog k 52 r) : ∃ x : S52, r = x.row ∧ x.ok := by
  obtain ⟨k0, h0⟩ := has_struct Try.underlying52 h
  simp only [hasFs] at h0
  obtain ⟨_, _, rfl, f0_0, _, _, rfl, f0_1, _, _, rfl, f0_2, _, _, rfl, f0_3, rfl⟩ := h0
  obtain ⟨n1, rfl, o1⟩ := has_int Try.underlying22 f0_0
  obtain ⟨n2, rfl, o2⟩ := has_str Try.underlying9 f0_1
  obtain ⟨n3, rfl, o3⟩ := has_int Try.underlying3 f0_2
  obtain ⟨l4, j4, rfl, o4, q4⟩ := has_slice (n := 1) (m := 16) Try.underlying51 (by kernel_rfl) (by kernel_rfl) f0_3
  obtain ⟨n4, rfl, p4⟩ := rows_of (f := rowS) (ok := fun y => okS y) (fun r hr => by obtain ⟨s, h1, h2⟩ := has_str Try.underlying9 (q4 r hr); exact ⟨s, h1, h2⟩)
  rw [List.length_map] at o4
  exact ⟨⟨n1, n2, n3, n4⟩, rfl, ⟨okI_of o1, o2, okI_of o3, ⟨o4, p4⟩⟩⟩
theorem S52.of53 {k : Nat} {r : List V} (h : HasV Try.prog k 53 r) : ∃ x : S52, r = x.row ∧ x.ok := by
  obtain ⟨k0, h0⟩ := has_struct Try.underlying53 h
  simp only [hasFs] at h0
  obtain ⟨_, _, rfl, f0_0, _, _, rfl, f0_1, _, _, rfl, f0_2, _, _, rfl, f0_3, rfl⟩ := h0
  obtain ⟨n1, rfl, o1⟩ := has_int Try.underlying22 f0_0
  obtain ⟨n2, rfl, o2⟩ := has_str Try.underlying9 f0_1
  obtain ⟨n3, rfl, o3⟩ := has_int Try.underlying3 f0_2
  obtain ⟨l4, j4, rfl, o4, q4⟩ := has_slice (n := 1) (m := 16) Try.underlying51 (by kernel_rfl) (by kernel_rfl) f0_3
  obtain ⟨n4, rfl, p4⟩ := rows_of (f := rowS) (ok := fun y => okS y) (fun r hr => by obtain ⟨s, h1, h2⟩ := has_str Try.underlying9 (q4 r hr); exact ⟨s, h1, h2⟩)
  rw [List.length_map] at o4
  exact ⟨⟨n1, n2, n3, n4⟩, rfl, ⟨okI_of o1, o2, okI_of o3, ⟨o4, p4⟩⟩⟩
theorem S59.of59 {k : Nat} {r : List V} (h : HasV Try.prog k 59 r) : ∃ x : S59, r = x.row ∧ x.ok := by
  obtain ⟨k0, h0⟩ := has_struct Try.underlying59 h
  simp only [hasFs] at h0
  obtain ⟨_, _, rfl, f0_0, _, _, rfl, f0_1, _, _, rfl, f0_2, _, _, rfl, f0_3, _, _, rfl, f0_4, rfl⟩ := h0
  obtain ⟨n1, rfl, o1⟩ := has_int Try.underlying3 f0_0
  obtain ⟨n2, rfl, o2⟩ := has_str Try.underlying9 f0_1
  obtain ⟨n3, rfl, o3⟩ := has_str Try.underlying9 f0_2
  obtain ⟨n4, rfl, o4⟩ := has_str Try.underlying9 f0_3
  obtain ⟨n5, rfl, o5⟩ := has_int Try.underlying3 f0_4
  exact ⟨⟨n1, n2, n3, n4, n5⟩, rfl, ⟨okI_of o1, o2, o3, o4, okI_of o5⟩⟩
theorem S59.of60 {k : Nat} {r : List V} (h : HasV Try.prog k 60 r) : ∃ x : S59, r = x.row ∧ x.ok := by
  obtain ⟨k0, h0⟩ := has_struct Try.underlying60 h
  simp only [hasFs] at h0
  obtain ⟨_, _, rfl, f0_0, _, _, rfl, f0_1, _, _, rfl, f0_2, _, _, rfl, f0_3, _, _, rfl, f0_4, rfl⟩ := h0
  obtain ⟨n1, rfl, o1⟩ := has_int Try.underlying3 f0_0
  obtain ⟨n2, rfl, o2⟩ := has_str Try.underlying9 f0_1
  obtain ⟨n3, rfl, o3⟩ := has_str Try.underlying9 f0_2
  obtain ⟨n4, rfl, o4⟩ := has_str Try.underlying9 f0_3
  obtain ⟨n5, rfl, o5⟩ := has_int Try.underlying3 f0_4
  exact ⟨⟨n1, n2, n3, n4, n5⟩, rfl, ⟨okI_of o1, o2, o3, o4, okI_of o5⟩⟩
theorem S63.of63 {k : Nat} {r : List V} (h : HasV Try.prog k 63 r) : ∃ x : S63, r = x.row ∧ x.ok := by
  obtain ⟨k0, h0⟩ := has_struct Try.underlying63 h
  simp only [hasFs] at h0
  obtain ⟨_, _, rfl, f0_0, _, _, rfl, f0_1, _, _, rfl, f0_2, rfl⟩ := h0
  obtain ⟨n1, rfl, o1⟩ := has_int Try.underlying3 f0_0
  obtain ⟨n2, rfl, o2⟩ := has_int Try.underlying3 f0_1
  obtain ⟨k3, h3⟩ := has_struct Try.underlying60 f0_2
  simp only [hasFs] at h3
  obtain ⟨_, _, rfl, f3_0, _, _, rfl, f3_1, _, _, rfl, f3_2, _, _, rfl, f3_3, _, _, rfl, f3_4, rfl⟩ := h3
  obtain ⟨n4, rfl, o4⟩ := has_int Try.underlying3 f3_0
  obtain ⟨n5, rfl, o5⟩ := has_str Try.underlying9 f3_1
  obtain ⟨n6, rfl, o6⟩ := has_str Try.underlying9 f3_2
  obtain ⟨n7, rfl, o7⟩ := has_str Try.underlying9 f3_3
  obtain ⟨n8, rfl, o8⟩ := has_int Try.underlying3 f3_4
  exact ⟨⟨n1, n2, n4, n5, n6, n7, n8⟩, rfl, ⟨okI_of o1, okI_of o2, okI_of o4, o5, o6, o7, okI_of o8⟩⟩
theorem S63.of64 {k : Nat} {r : List V} (h : HasV Try.prog k 64 r) : ∃ x : S63, r = x.row ∧ x.ok := by
  obtain ⟨k0, h0⟩ := has_struct Try.underlying64 h
  simp only [hasFs] at h0
  obtain ⟨_, _, rfl, f0_0, _, _, rfl, f0_1, _, _, rfl, f0_2, rfl⟩ := h0
  obtain ⟨n1, rfl, o1⟩ := has_int Try.underlying3 f0_0
  obtain ⟨n2, rfl, o2⟩ := has_int Try.underlying3 f0_1
  obtain ⟨k3, h3⟩ := has_struct Try.underlying60 f0_2
  simp only [hasFs] at h3
  obtain ⟨_, _, rfl, f3_0, _, _, rfl, f3_1, _, _, rfl, f3_2, _, _, rfl, f3_3, _, _, rfl, f3_4, rfl⟩ := h3
  obtain ⟨n4, rfl, o4⟩ := has_int Try.underlying3 f3_0
  obtain ⟨n5, rfl, o5⟩ := has_str Try.underlying9 f3_1
  obtain ⟨n6, rfl, o6⟩ := has_str Try.underlying9 f3_2
  obtain ⟨n7, rfl, o7⟩ := has_str Try.underlying9 f3_3
  obtain ⟨n8, rfl, o8⟩ := has_int Try.underlying3 f3_4
  exact ⟨⟨n1, n2, n4, n5, n6, n7, n8⟩, rfl, ⟨okI_of o1, okI_of o2, okI_of o4, o5, o6, o7, okI_of o8⟩⟩
theorem S67.of67 {k : Nat} {r : List V} (h : HasV Try.prog k 67 r) : ∃ x : S67, r = x.row ∧ x.ok := by
  obtain ⟨k0, h0⟩ := has_struct Try.underlying67 h
  simp only [hasFs] at h0
  obtain ⟨_, _, rfl, f0_0, _, _, rfl, f0_1, _, _, rfl, f0_2, _, _, rfl, f0_3, rfl⟩ := h0
  obtain ⟨n1, rfl, o1⟩ := has_int Try.underlying3 f0_0
  obtain ⟨n2, rfl, o2⟩ := has_int Try.underlying3 f0_1
  obtain ⟨n3, rfl⟩ := has_bool Try.underlying4 f0_2
  obtain ⟨k4, h4⟩ := has_struct Try.underlying64 f0_3
  simp only [hasFs] at h4
  obtain ⟨_, _, rfl, f4_0, _, _, rfl, f4_1, _, _, rfl, f4_2, rfl⟩ := h4
  obtain ⟨n5, rfl, o5⟩ := has_int Try.underlying3 f4_0
  obtain ⟨n6, rfl, o6⟩ := has_int Try.underlying3 f4_1
  obtain ⟨k7, h7⟩ := has_struct Try.underlying60 f4_2
  simp only [hasFs] at h7
  obtain ⟨_, _, rfl, f7_0, _, _, rfl, f7_1, _, _, rfl, f7_2, _, _, rfl, f7_3, _, _, rfl, f7_4, rfl⟩ := h7
  obtain ⟨n8, rfl, o8⟩ := has_int Try.underlying3 f7_0
  obtain ⟨n9, rfl, o9⟩ := has_str Try.underlying9 f7_1
  obtain ⟨n10, rfl, o10⟩ := has_str Try.underlying9 f7_2
  obtain ⟨n11, rfl, o11⟩ := has_str Try.underlying9 f7_3
  obtain ⟨n12, rfl, o12⟩ := has_int Try.underlying3 f7_4
  exact ⟨⟨n1, n2, n3, n5, n6, n8, n9, n10, n11, n12⟩, rfl, ⟨okI_of o1, okI_of o2, trivial, okI_of o5, okI_of o6, okI_of o8, o9, o10, o11, okI_of o12⟩⟩
theorem S74.of74 {k : Nat} {r : List V} (h : HasV Try.prog k 74 r) : ∃ x : S74, r = x.row ∧ x.ok := by
  obtain ⟨k0, h0⟩ := has_struct Try.underlying74 h
  simp only [hasFs] at h0
  obtain ⟨_, _, rfl, f0_0, _, _, rfl, f0_1, _, _, rfl, f0_2, _, _, rfl, f0_3, rfl⟩ := h0
  obtain ⟨n1, rfl, o1⟩ := has_int Try.underlying3 f0_0
  obtain ⟨n2, rfl, o2⟩ := has_int Try.underlying3 f0_1
  obtain ⟨n3, rfl, o3⟩ := has_int Try.underlying3 f0_2
  obtain ⟨k4, h4⟩ := has_struct Try.underlying64 f0_3
  simp only [hasFs] at h4
  obtain ⟨_, _, rfl, f4_0, _, _, rfl, f4_1, _, _, rfl, f4_2, rfl⟩ := h4
  obtain ⟨n5, rfl, o5⟩ := has_int Try.underlying3 f4_0
  obtain ⟨n6, rfl, o6⟩ := has_int Try.underlying3 f4_1
  obtain ⟨k7, h7⟩ := has_struct Try.underlying60 f4_2
  simp only [hasFs] at h7
  obtain ⟨_, _, rfl, f7_0, _, _, rfl, f7_1, _, _, rfl, f7_2, _, _, rfl, f7_3, _, _, rfl, f7_4, rfl⟩ := h7
  obtain ⟨n8, rfl, o8⟩ := has_int Try.underlying3 f7_0
  obtain ⟨n9, rfl, o9⟩ := has_str Try.underlying9 f7_1
  obtain ⟨n10, rfl, o10⟩ := has_str Try.underlying9 f7_2
  obtain ⟨n11, rfl, o11⟩ := has_str Try.underlying9 f7_3
  obtain ⟨n12, rfl, o12⟩ := has_int Try.underlying3 f7_4
  exact ⟨⟨n1, n2, n3, n5, n6, n8, n9, n10, n11, n12⟩, rfl, ⟨okI_of o1, okI_of o2, okI_of o3, okI_of o5, okI_of o6, okI_of o8, o9, o10, o11, okI_of o12⟩⟩
theorem S74.of75 {k : Nat} {r : List V} (h : HasV Try.prog k 75 r) : ∃ x : S74, r = x.row ∧ x.ok := by
  obtain ⟨k0, h0⟩ := has_struct Try.underlying75 h
  simp only [hasFs] at h0
  obtain ⟨_, _, rfl, f0_0, _, _, rfl, f0_1, _, _, rfl, f0_2, _, _, rfl, f0_3, rfl⟩ := h0
  obtain ⟨n1, rfl, o1⟩ := has_int Try.underlying3 f0_0
  obtain ⟨n2, rfl, o2⟩ := has_int Try.underlying3 f0_1
  obtain ⟨n3, rfl, o3⟩ := has_int Try.underlying3 f0_2
  obtain ⟨k4, h4⟩ := has_struct Try.underlying64 f0_3
  simp only [hasFs] at h4
  obtain ⟨_, _, rfl, f4_0, _, _, rfl, f4_1, _, _, rfl, f4_2, rfl⟩ := h4
  obtain ⟨n5, rfl, o5⟩ := has_int Try.underlying3 f4_0
  obtain ⟨n6, rfl, o6⟩ := has_int Try.underlying3 f4_1
  obtain ⟨k7, h7⟩ := has_struct Try.underlying60 f4_2
  simp only [hasFs] at h7
  obtain ⟨_, _, rfl, f7_0, _, _, rfl, f7_1, _, _, rfl, f7_2, _, _, rfl, f7_3, _, _, rfl, f7_4, rfl⟩ := h7
  obtain ⟨n8, rfl, o8⟩ := has_int Try.underlying3 f7_0
  obtain ⟨n9, rfl, o9⟩ := has_str Try.underlying9 f7_1
  obtain ⟨n10, rfl, o10⟩ := has_str Try.underlying9 f7_2
  obtain ⟨n11, rfl, o11⟩ := has_str Try.underlying9 f7_3
  obtain ⟨n12, rfl, o12⟩ := has_int Try.underlying3 f7_4
  exact ⟨⟨n1, n2, n3, n5, n6, n8, n9, n10, n11, n12⟩, rfl, ⟨okI_of o1, okI_of o2, okI_of o3, okI_of o5, okI_of o6, okI_of o8, o9, o10, o11, okI_of o12⟩⟩
theorem S81.of81 {k : Nat} {r : List V} (h : HasV Try.prog k 81 r) : ∃ x : S81, r = x.row ∧ x.ok := by
  obtain ⟨k0, h0⟩ := has_struct Try.underlying81 h
  simp only [hasFs] at h0
  obtain ⟨_, _, rfl, f0_0, _, _, rfl, f0_1, _, _, rfl, f0_2, _, _, rfl, f0_3, rfl⟩ := h0
  obtain ⟨n1, rfl, o1⟩ := has_int Try.underlying3 f0_0
  obtain ⟨n2, rfl, o2⟩ := has_int Try.underlying3 f0_1
  obtain ⟨n3, rfl, o3⟩ := has_int Try.underlying3 f0_2
  obtain ⟨k4, h4⟩ := has_struct Try.underlying53 f0_3
  simp only [hasFs] at h4
  obtain ⟨_, _, rfl, f4_0, _, _, rfl, f4_1, _, _, rfl, f4_2, _, _, rfl, f4_3, rfl⟩ := h4
  obtain ⟨n5, rfl, o5⟩ := has_int Try.underlying22 f4_0
  obtain ⟨n6, rfl, o6⟩ := has_str Try.underlying9 f4_1
  obtain ⟨n7, rfl, o7⟩ := has_int Try.underlying3 f4_2
  obtain ⟨l8, j8, rfl, o8, q8⟩ := has_slice (n := 1) (m := 16) Try.underlying51 (by kernel_rfl) (by kernel_rfl) f4_3
  obtain ⟨n8, rfl, p8⟩ := rows_of (f := rowS) (ok := fun y => okS y) (fun r hr => by obtain ⟨s, h1, h2⟩ := has_str Try.underlying9 (q8 r hr); exact ⟨s, h1, h2⟩)
  rw [List.length_map] at o8
  exact ⟨⟨n1, n2, n3, n5, n6, n7, n8⟩, rfl, ⟨okI_of o1, okI_of o2, okI_of o3, okI_of o5, o6, okI_of o7, ⟨o8, p8⟩⟩⟩
theorem S102.of102 {k : Nat} {r : List V} (h : HasV Try.prog k 102 r) : ∃ x : S102, r = x.row ∧ x.ok := by
  obtain ⟨k0, h0⟩ := has_struct Try.underlying102 h
  simp only [hasFs] at h0
  obtain ⟨_, _, rfl, f0_0, _, _, rfl, f0_1, _, _, rfl, f0_2, _, _, rfl, f0_3, _, _, rfl, f0_4, _, _, rfl, f0_5, rfl⟩ := h0
  obtain ⟨n1, rfl, o1⟩ := has_int Try.underlying3 f0_0
  obtain ⟨n2, rfl, o2⟩ := has_str Try.underlying9 f0_1
  obtain ⟨n3, rfl, o3⟩ := has_int Try.underlying3 f0_2
  obtain ⟨l4, j4, rfl, o4, q4⟩ := has_slice (n := 2) (m := 32) Try.underlying100 (by kernel_rfl) (by kernel_rfl) f0_3
  obtain ⟨n4, rfl, p4⟩ := rows_of (f := S110.row) (ok := fun y => y.ok) (fun r hr => S110.of111 (q4 r hr))
  rw [List.length_map] at o4
  obtain ⟨l5, j5, rfl, o5, q5⟩ := has_slice (n := 1) (m := 16) Try.underlying51 (by kernel_rfl) (by kernel_rfl) f0_4
  obtain ⟨n5, rfl, p5⟩ := rows_of (f := rowS) (ok := fun y => okS y) (fun r hr => by obtain ⟨s, h1, h2⟩ := has_str Try.underlying9 (q5 r hr); exact ⟨s, h1, h2⟩)
  rw [List.length_map] at o5
  obtain ⟨l6, j6, rfl, o6, q6⟩ := has_slice (n := 2) (m := 24) Try.underlying101 (by kernel_rfl) (by kernel_rfl) f0_5
  obtain ⟨n6, rfl, p6⟩ := rows_of (f := S112.row) (ok := fun y => y.ok) (fun r hr => S112.of113 (q6 r hr))
  rw [List.length_map] at o6
  exact ⟨⟨n1, n2, n3, n4, n5, n6⟩, rfl, ⟨okI_of o1, o2, okI_of o3, ⟨o4, p4⟩, ⟨o5, p5⟩, ⟨o6, p6⟩⟩⟩
theorem S102.of103 {k : Nat} {r : List V} (h : HasV Try.prog k 103 r) : ∃ x : S102, r = x.row ∧ x.ok := by
  obtain ⟨k0, h0⟩ := has_struct Try.underlying103 h
  simp only [hasFs] at h0
  obtain ⟨_, _, rfl, f0_0, _, _, rfl, f0_1, _, _, rfl, f0_2, _, _, rfl, f0_3, _, _, rfl, f0_4, _, _, rfl, f0_5, rfl⟩ := h0
  obtain ⟨n1, rfl, o1⟩ := has_int Try.underlying3 f0_0
  obtain ⟨n2, rfl, o2⟩ := has_str Try.underlying9 f0_1
  obtain ⟨n3, rfl, o3⟩ := has_int Try.underlying3 f0_2
  obtain ⟨l4, j4, rfl, o4, q4⟩ := has_slice (n := 2) (m := 32) Try.underlying100 (by kernel_rfl) (by kernel_rfl) f0_3
  obtain ⟨n4, rfl, p4⟩ := rows_of (f := S110.row) (ok := fun y => y.ok) (fun r hr => S110.of111 (q4 r hr))
  rw [List.length_map] at o4
  obtain ⟨l5, j5, rfl, o5, q5⟩ := has_slice (n := 1) (m := 16) Try.underlying51 (by kernel_rfl) (by kernel_rfl) f0_4
  obtain ⟨n5, rfl, p5⟩ := rows_of (f := rowS) (ok := fun y => okS y) (fun r hr => by obtain ⟨s, h1, h2⟩ := has_str Try.underlying9 (q5 r hr); exact ⟨s, h1, h2⟩)
  rw [List.length_map] at o5
  obtain ⟨l6, j6, rfl, o6, q6⟩ := has_slice (n := 2) (m := 24) Try.underlying101 (by kernel_rfl) (by kernel_rfl) f0_5
  obtain ⟨n6, rfl, p6⟩ := rows_of (f := S112.row) (ok := fun y => y.ok) (fun r hr => S112.of113 (q6 r hr))
  rw [List.length_map] at o6
  exact ⟨⟨n1, n2, n3, n4, n5, n6⟩, rfl, ⟨okI_of o1, o2, okI_of o3, ⟨o4, p4⟩, ⟨o5, p5⟩, ⟨o6, p6⟩⟩⟩
theorem S104.of104 {k : Nat} {r : List V} (h : HasV Try.prog k 104 r) : ∃ x : S104, r = x.row ∧ x.ok := by
  obtain ⟨k0, h0⟩ := has_struct Try.underlying104 h
  simp only [hasFs] at h0
  obtain ⟨_, _, rfl, f0_0, _, _, rfl, f0_1, _, _, rfl, f0_2, rfl⟩ := h0
  obtain ⟨n1, rfl, o1⟩ := has_str Try.underlying9 f0_0
  obtain ⟨k2, h2⟩ := has_struct Try.underlying103 f0_1
  simp only [hasFs] at h2
  obtain ⟨_, _, rfl, f2_0, _, _, rfl, f2_1, _, _, rfl, f2_2, _, _, rfl, f2_3, _, _, rfl, f2_4, _, _, rfl, f2_5, rfl⟩ := h2
  obtain ⟨n3, rfl, o3⟩ := has_int Try.underlying3 f2_0
  obtain ⟨n4, rfl, o4⟩ := has_str Try.underlying9 f2_1
  obtain ⟨n5, rfl, o5⟩ := has_int Try.underlying3 f2_2
  obtain ⟨l6, j6, rfl, o6, q6⟩ := has_slice (n := 2) (m := 32) Try.underlying100 (by kernel_rfl) (by kernel_rfl) f2_3
  obtain ⟨n6, rfl, p6⟩ := rows_of (f := S110.row) (ok := fun y => y.ok) (fun r hr => S110.of111 (q6 r hr))
  rw [List.length_map] at o6
  obtain ⟨l7, j7, rfl, o7, q7⟩ := has_slice (n := 1) (m := 16) Try.underlying51 (by kernel_rfl) (by kernel_rfl) f2_4
  obtain ⟨n7, rfl, p7⟩ := rows_of (f := rowS) (ok := fun y => okS y) (fun r hr => by obtain ⟨s, h1, h2⟩ := has_str Try.underlying9 (q7 r hr); exact ⟨s, h1, h2⟩)
  rw [List.length_map] at o7
  obtain ⟨l8, j8, rfl, o8, q8⟩ := has_slice (n := 2) (m := 24) Try.underlying101 (by kernel_rfl) (by kernel_rfl) f2_5
  obtain ⟨n8, rfl, p8⟩ := rows_of (f := S112.row) (ok := fun y => y.ok) (fun r hr => S112.of113 (q8 r hr))
  rw [List.length_map] at o8
  obtain ⟨n9, rfl, o9⟩ := has_int Try.underlying3 f0_2
  exact ⟨⟨n1, n3, n4, n5, n6, n7, n8, n9⟩, rfl, ⟨o1, okI_of o3, o4, okI_of o5, ⟨o6, p6⟩, ⟨o7, p7⟩, ⟨o8, p8⟩, okI_of o9⟩⟩
theorem S110.of110 {k : Nat} {r : List V} (h : HasV Try.prog k 110 r) : ∃ x : S110, r = x.row ∧ x.ok := by
  obtain ⟨k0, h0⟩ := has_struct Try.underlying110 h
  simp only [hasFs] at h0
  obtain ⟨_, _, rfl, f0_0, _, _, rfl, f0_1, rfl⟩ := h0
  obtain ⟨n1, rfl, o1⟩ := has_str Try.underlying9 f0_0
  obtain ⟨n2, rfl, o2⟩ := has_str Try.underlying9 f0_1
  exact ⟨⟨n1, n2⟩, rfl, ⟨o1, o2⟩⟩
theorem S112.of112 {k : Nat} {r : List V} (h : HasV Try.prog k 112 r) : ∃ x : S112, r = x.row ∧ x.ok := by
  obtain ⟨k0, h0⟩ := has_struct Try.underlying112 h
  simp only [hasFs] at h0
  obtain ⟨_, _, rfl, f0_0, _, _, rfl, f0_1, rfl⟩ := h0
  obtain ⟨n1, rfl, o1⟩ := has_str Try.underlying9 f0_0
  obtain ⟨n2, rfl, o2⟩ := has_int Try.underlying3 f0_1
  exact ⟨⟨n1, n2⟩, rfl, ⟨o1, okI_of o2⟩⟩
end Go.Proofs.Ytiicnbdolakdgaa

