/- Part of the proof by the machine Mx: the types (TyTab). -/
import Derived.Test.YtnjkmbogbfjffaaMxOne
import Derived.Test.YtnjkmbogbfjffaaProg
import Derived.KernelRfl
set_option linter.unusedSimpArgs false
set_option linter.unusedVariables false
set_option linter.constructorNameAsVariable false
set_option linter.unnecessarySimpa false
namespace Go.Proofs.Ytnjkmbogbfjffaa
open Go Go.Mx Go.Proofs
noncomputable def TT : Nat → Ty := ck Try.prog
theorem mixed : Try.prog.follows .mixedOrders = true := by kernel_rfl
theorem ty3 : TT 3 = { tk := TK.int IntKind.i64, size := 1, bytes := 8, agg := false, flat := [0], eqk := [], zero := [D.v (V.i IntKind.i64 (0))] } := by kernel_rfl
theorem ty4 : TT 4 = { tk := TK.bool, size := 1, bytes := 1, agg := false, flat := [0], eqk := [], zero := [D.v (V.b false)] } := by kernel_rfl
theorem ty5 : TT 5 = { tk := TK.int IntKind.u8, size := 1, bytes := 1, agg := false, flat := [0], eqk := [], zero := [D.v (V.i IntKind.u8 (0))] } := by kernel_rfl
theorem ty9 : TT 9 = { tk := TK.str, size := 1, bytes := 16, agg := false, flat := [0], eqk := [], zero := [D.v (V.s ByteArray.empty)] } := by kernel_rfl
theorem ty25 : TT 25 = { tk := TK.int IntKind.i64, size := 1, bytes := 8, agg := false, flat := [0], eqk := [], zero := [D.v (V.i IntKind.i64 (0))] } := by kernel_rfl
theorem ty39 : TT 39 = { tk := TK.slice 5, size := 1, bytes := 24, agg := false, flat := [1], eqk := [], zero := [D.own 1 []] } := by kernel_rfl
theorem ty49 : TT 49 = { tk := TK.slice 101, size := 1, bytes := 24, agg := false, flat := [2], eqk := [], zero := [D.own 2 []] } := by kernel_rfl
theorem ty50 : TT 50 = { tk := TK.slice 9, size := 1, bytes := 24, agg := false, flat := [1], eqk := [], zero := [D.own 1 []] } := by kernel_rfl
theorem ty51 : TT 51 = { tk := TK.slice 105, size := 1, bytes := 24, agg := false, flat := [2], eqk := [], zero := [D.own 2 []] } := by kernel_rfl
theorem ty53 : TT 53 = { tk := TK.struct [(0, 3), (1, 9), (2, 3), (3, 49), (4, 50), (5, 51)], size := 6, bytes := 104, agg := true, flat := [0, 0, 0, 2, 1, 2], eqk := [], zero := [D.v (V.i IntKind.i64 (0)), D.v (V.s ByteArray.empty), D.v (V.i IntKind.i64 (0)), D.own 2 [], D.own 1 [], D.own 2 []] } := by kernel_rfl
theorem ty61 : TT 61 = { tk := TK.slice 117, size := 1, bytes := 24, agg := false, flat := [8], eqk := [], zero := [D.own 8 []] } := by kernel_rfl
theorem ty63 : TT 63 = { tk := TK.struct [(0, 3), (1, 61)], size := 2, bytes := 32, agg := true, flat := [0, 8], eqk := [], zero := [D.v (V.i IntKind.i64 (0)), D.own 8 []] } := by kernel_rfl
theorem ty71 : TT 71 = { tk := TK.slice 130, size := 1, bytes := 24, agg := false, flat := [7], eqk := [], zero := [D.own 7 []] } := by kernel_rfl
theorem ty73 : TT 73 = { tk := TK.struct [(0, 63), (2, 3), (3, 71)], size := 4, bytes := 64, agg := true, flat := [0, 8, 0, 7], eqk := [], zero := [D.v (V.i IntKind.i64 (0)), D.own 8 [], D.v (V.i IntKind.i64 (0)), D.own 7 []] } := by kernel_rfl
theorem ty91 : TT 91 = { tk := TK.ptr, size := 1, bytes := 8, agg := false, flat := [0], eqk := [], zero := [D.nilp] } := by kernel_rfl
theorem ty93 : TT 93 = { tk := TK.struct [(0, 39)], size := 1, bytes := 24, agg := true, flat := [1], eqk := [], zero := [D.own 1 []] } := by kernel_rfl
theorem ty101 : TT 101 = { tk := TK.struct [(0, 9), (1, 9)], size := 2, bytes := 32, agg := true, flat := [0, 0], eqk := [3, 3], zero := [D.v (V.s ByteArray.empty), D.v (V.s ByteArray.empty)] } := by kernel_rfl
theorem ty105 : TT 105 = { tk := TK.struct [(0, 9), (1, 3)], size := 2, bytes := 24, agg := true, flat := [0, 0], eqk := [3, 2], zero := [D.v (V.s ByteArray.empty), D.v (V.i IntKind.i64 (0))] } := by kernel_rfl
theorem ty117 : TT 117 = { tk := TK.struct [(0, 9), (1, 53), (7, 3)], size := 8, bytes := 128, agg := true, flat := [0, 0, 0, 0, 2, 1, 2, 0], eqk := [], zero := [D.v (V.s ByteArray.empty), D.v (V.i IntKind.i64 (0)), D.v (V.s ByteArray.empty), D.v (V.i IntKind.i64 (0)), D.own 2 [], D.own 1 [], D.own 2 [], D.v (V.i IntKind.i64 (0))] } := by kernel_rfl
theorem ty128 : TT 128 = { tk := TK.struct [(0, 25), (1, 9), (2, 3), (3, 50)], size := 4, bytes := 56, agg := true, flat := [0, 0, 0, 1], eqk := [], zero := [D.v (V.i IntKind.i64 (0)), D.v (V.s ByteArray.empty), D.v (V.i IntKind.i64 (0)), D.own 1 []] } := by kernel_rfl
theorem ty130 : TT 130 = { tk := TK.struct [(0, 3), (1, 3), (2, 3), (3, 128)], size := 7, bytes := 80, agg := true, flat := [0, 0, 0, 0, 0, 0, 1], eqk := [], zero := [D.v (V.i IntKind.i64 (0)), D.v (V.i IntKind.i64 (0)), D.v (V.i IntKind.i64 (0)), D.v (V.i IntKind.i64 (0)), D.v (V.s ByteArray.empty), D.v (V.i IntKind.i64 (0)), D.own 1 []] } := by kernel_rfl
theorem ty154 : TT 154 = { tk := TK.int IntKind.u64, size := 1, bytes := 8, agg := false, flat := [0], eqk := [], zero := [D.v (V.i IntKind.u64 (0))] } := by kernel_rfl
theorem ty161 : TT 161 = { tk := TK.slice 3, size := 1, bytes := 24, agg := false, flat := [1], eqk := [], zero := [D.own 1 []] } := by kernel_rfl
end Go.Proofs.Ytnjkmbogbfjffaa
