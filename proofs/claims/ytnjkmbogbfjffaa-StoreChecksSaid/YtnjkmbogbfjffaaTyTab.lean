/- Part of the proof by the machine Mx: the types (TyTab). -/
import Derived.Test.YtnjkmbogbfjffaaMxOne
import Derived.Test.YtnjkmbogbfjffaaProg
import Derived.KernelRfl
set_option linter.unusedSimpArgs false
set_option linter.unusedVariables false
set_option linter.constructorNameAsVariable false
set_option linter.unnecessarySimpa false
/- The machine's table of types for this program. -/
namespace Go.Proofs.Ytnjkmbogbfjffaa
open Go Go.Mx Go.Proofs
noncomputable def TT : Nat → Ty := cq Try.prog
theorem mixed : Try.prog.follows .mixedOrders = true := by kernel_rfl
theorem ty1 : TT 1 = { tk := TK.func, size := 1, bytes := 8, agg := false, flat := [0], eqk := [], zero := [] } := by kernel_rfl
theorem ty2 : TT 2 = { tk := TK.int IntKind.i64, size := 1, bytes := 8, agg := false, flat := [0], eqk := [], zero := [D.v (V.i IntKind.i64 (0))] } := by kernel_rfl
theorem ty3 : TT 3 = { tk := TK.int IntKind.i64, size := 1, bytes := 8, agg := false, flat := [0], eqk := [], zero := [D.v (V.i IntKind.i64 (0))] } := by kernel_rfl
theorem ty4 : TT 4 = { tk := TK.bool, size := 1, bytes := 1, agg := false, flat := [0], eqk := [], zero := [D.v (V.b false)] } := by kernel_rfl
theorem ty5 : TT 5 = { tk := TK.int IntKind.u8, size := 1, bytes := 1, agg := false, flat := [0], eqk := [], zero := [D.v (V.i IntKind.u8 (0))] } := by kernel_rfl
theorem ty6 : TT 6 = { tk := TK.int IntKind.u8, size := 1, bytes := 1, agg := false, flat := [0], eqk := [], zero := [D.v (V.i IntKind.u8 (0))] } := by kernel_rfl
theorem ty7 : TT 7 = { tk := TK.struct [(0, 2), (1, 3), (2, 4), (3, 6)], size := 4, bytes := 24, agg := true, flat := [0, 0, 0, 0], eqk := [2, 2, 1, 2], zero := [D.v (V.i IntKind.i64 (0)), D.v (V.i IntKind.i64 (0)), D.v (V.b false), D.v (V.i IntKind.u8 (0))] } := by kernel_rfl
theorem ty8 : TT 8 = { tk := TK.struct [(0, 2), (1, 3), (2, 4), (3, 6)], size := 4, bytes := 24, agg := true, flat := [0, 0, 0, 0], eqk := [2, 2, 1, 2], zero := [D.v (V.i IntKind.i64 (0)), D.v (V.i IntKind.i64 (0)), D.v (V.b false), D.v (V.i IntKind.u8 (0))] } := by kernel_rfl
theorem ty9 : TT 9 = { tk := TK.str, size := 1, bytes := 16, agg := false, flat := [0], eqk := [], zero := [D.v (V.s ByteArray.empty)] } := by kernel_rfl
theorem ty10 : TT 10 = { tk := TK.str, size := 1, bytes := 16, agg := false, flat := [0], eqk := [], zero := [D.v (V.s ByteArray.empty)] } := by kernel_rfl
theorem ty11 : TT 11 = { tk := TK.str, size := 1, bytes := 16, agg := false, flat := [0], eqk := [], zero := [D.v (V.s ByteArray.empty)] } := by kernel_rfl
theorem ty12 : TT 12 = { tk := TK.int IntKind.u64, size := 1, bytes := 8, agg := false, flat := [0], eqk := [], zero := [D.v (V.i IntKind.u64 (0))] } := by kernel_rfl
theorem ty13 : TT 13 = { tk := TK.struct [(0, 9), (1, 12)], size := 2, bytes := 24, agg := true, flat := [0, 0], eqk := [], zero := [D.v (V.s ByteArray.empty), D.v (V.i IntKind.u64 (0))] } := by kernel_rfl
theorem ty14 : TT 14 = { tk := TK.struct [(0, 9), (1, 12)], size := 2, bytes := 24, agg := true, flat := [0, 0], eqk := [], zero := [D.v (V.s ByteArray.empty), D.v (V.i IntKind.u64 (0))] } := by kernel_rfl
theorem ty15 : TT 15 = { tk := TK.ptr, size := 1, bytes := 8, agg := false, flat := [0], eqk := [], zero := [D.nilp] } := by kernel_rfl
theorem ty16 : TT 16 = { tk := TK.ptr, size := 1, bytes := 8, agg := false, flat := [0], eqk := [], zero := [D.nilp] } := by kernel_rfl
theorem ty17 : TT 17 = { tk := TK.ptr, size := 1, bytes := 8, agg := false, flat := [0], eqk := [], zero := [D.nilp] } := by kernel_rfl
theorem ty18 : TT 18 = { tk := TK.struct [(0, 17)], size := 1, bytes := 8, agg := true, flat := [0], eqk := [], zero := [D.nilp] } := by kernel_rfl
theorem ty19 : TT 19 = { tk := TK.struct [(0, 17)], size := 1, bytes := 8, agg := true, flat := [0], eqk := [], zero := [D.nilp] } := by kernel_rfl
theorem ty21 : TT 21 = { tk := TK.int IntKind.i32, size := 1, bytes := 4, agg := false, flat := [0], eqk := [], zero := [D.v (V.i IntKind.i32 (0))] } := by kernel_rfl
theorem ty22 : TT 22 = { tk := TK.slice 38, size := 1, bytes := 24, agg := false, flat := [10], eqk := [], zero := [D.own 10 []] } := by kernel_rfl
theorem ty23 : TT 23 = { tk := TK.struct [(0, 3), (1, 3), (2, 22)], size := 3, bytes := 40, agg := true, flat := [0, 0, 10], eqk := [], zero := [D.v (V.i IntKind.i64 (0)), D.v (V.i IntKind.i64 (0)), D.own 10 []] } := by kernel_rfl
theorem ty24 : TT 24 = { tk := TK.struct [(0, 3), (1, 3), (2, 22)], size := 3, bytes := 40, agg := true, flat := [0, 0, 10], eqk := [], zero := [D.v (V.i IntKind.i64 (0)), D.v (V.i IntKind.i64 (0)), D.own 10 []] } := by kernel_rfl
theorem ty25 : TT 25 = { tk := TK.int IntKind.i64, size := 1, bytes := 8, agg := false, flat := [0], eqk := [], zero := [D.v (V.i IntKind.i64 (0))] } := by kernel_rfl
theorem ty27 : TT 27 = { tk := TK.func, size := 1, bytes := 8, agg := false, flat := [0], eqk := [], zero := [] } := by kernel_rfl
theorem ty28 : TT 28 = { tk := TK.func, size := 1, bytes := 8, agg := false, flat := [0], eqk := [], zero := [] } := by kernel_rfl
theorem ty29 : TT 29 = { tk := TK.func, size := 1, bytes := 8, agg := false, flat := [0], eqk := [], zero := [] } := by kernel_rfl
theorem ty31 : TT 31 = { tk := TK.func, size := 1, bytes := 8, agg := false, flat := [0], eqk := [], zero := [] } := by kernel_rfl
theorem ty32 : TT 32 = { tk := TK.func, size := 1, bytes := 8, agg := false, flat := [0], eqk := [], zero := [] } := by kernel_rfl
theorem ty33 : TT 33 = { tk := TK.struct [(0, 3), (1, 9), (2, 9), (3, 9), (4, 3)], size := 5, bytes := 64, agg := true, flat := [0, 0, 0, 0, 0], eqk := [2, 3, 3, 3, 2], zero := [D.v (V.i IntKind.i64 (0)), D.v (V.s ByteArray.empty), D.v (V.s ByteArray.empty), D.v (V.s ByteArray.empty), D.v (V.i IntKind.i64 (0))] } := by kernel_rfl
theorem ty34 : TT 34 = { tk := TK.struct [(0, 3), (1, 9), (2, 9), (3, 9), (4, 3)], size := 5, bytes := 64, agg := true, flat := [0, 0, 0, 0, 0], eqk := [2, 3, 3, 3, 2], zero := [D.v (V.i IntKind.i64 (0)), D.v (V.s ByteArray.empty), D.v (V.s ByteArray.empty), D.v (V.s ByteArray.empty), D.v (V.i IntKind.i64 (0))] } := by kernel_rfl
theorem ty35 : TT 35 = { tk := TK.struct [(0, 3), (1, 3), (2, 34)], size := 7, bytes := 80, agg := true, flat := [0, 0, 0, 0, 0, 0, 0], eqk := [2, 2, 2, 3, 3, 3, 2], zero := [D.v (V.i IntKind.i64 (0)), D.v (V.i IntKind.i64 (0)), D.v (V.i IntKind.i64 (0)), D.v (V.s ByteArray.empty), D.v (V.s ByteArray.empty), D.v (V.s ByteArray.empty), D.v (V.i IntKind.i64 (0))] } := by kernel_rfl
theorem ty36 : TT 36 = { tk := TK.struct [(0, 3), (1, 3), (2, 34)], size := 7, bytes := 80, agg := true, flat := [0, 0, 0, 0, 0, 0, 0], eqk := [2, 2, 2, 3, 3, 3, 2], zero := [D.v (V.i IntKind.i64 (0)), D.v (V.i IntKind.i64 (0)), D.v (V.i IntKind.i64 (0)), D.v (V.s ByteArray.empty), D.v (V.s ByteArray.empty), D.v (V.s ByteArray.empty), D.v (V.i IntKind.i64 (0))] } := by kernel_rfl
theorem ty37 : TT 37 = { tk := TK.struct [(0, 3), (1, 3), (2, 4), (3, 36)], size := 10, bytes := 104, agg := true, flat := [0, 0, 0, 0, 0, 0, 0, 0, 0, 0], eqk := [2, 2, 1, 2, 2, 2, 3, 3, 3, 2], zero := [D.v (V.i IntKind.i64 (0)), D.v (V.i IntKind.i64 (0)), D.v (V.b false), D.v (V.i IntKind.i64 (0)), D.v (V.i IntKind.i64 (0)), D.v (V.i IntKind.i64 (0)), D.v (V.s ByteArray.empty), D.v (V.s ByteArray.empty), D.v (V.s ByteArray.empty), D.v (V.i IntKind.i64 (0))] } := by kernel_rfl
theorem ty38 : TT 38 = { tk := TK.struct [(0, 3), (1, 3), (2, 4), (3, 36)], size := 10, bytes := 104, agg := true, flat := [0, 0, 0, 0, 0, 0, 0, 0, 0, 0], eqk := [2, 2, 1, 2, 2, 2, 3, 3, 3, 2], zero := [D.v (V.i IntKind.i64 (0)), D.v (V.i IntKind.i64 (0)), D.v (V.b false), D.v (V.i IntKind.i64 (0)), D.v (V.i IntKind.i64 (0)), D.v (V.i IntKind.i64 (0)), D.v (V.s ByteArray.empty), D.v (V.s ByteArray.empty), D.v (V.s ByteArray.empty), D.v (V.i IntKind.i64 (0))] } := by kernel_rfl
theorem ty39 : TT 39 = { tk := TK.slice 5, size := 1, bytes := 24, agg := false, flat := [1], eqk := [], zero := [D.own 1 []] } := by kernel_rfl
theorem ty41 : TT 41 = { tk := TK.func, size := 1, bytes := 8, agg := false, flat := [0], eqk := [], zero := [] } := by kernel_rfl
theorem ty42 : TT 42 = { tk := TK.func, size := 1, bytes := 8, agg := false, flat := [0], eqk := [], zero := [] } := by kernel_rfl
theorem ty44 : TT 44 = { tk := TK.func, size := 1, bytes := 8, agg := false, flat := [0], eqk := [], zero := [] } := by kernel_rfl
theorem ty45 : TT 45 = { tk := TK.func, size := 1, bytes := 8, agg := false, flat := [0], eqk := [], zero := [] } := by kernel_rfl
theorem ty47 : TT 47 = { tk := TK.func, size := 1, bytes := 8, agg := false, flat := [0], eqk := [], zero := [] } := by kernel_rfl
theorem ty48 : TT 48 = { tk := TK.func, size := 1, bytes := 8, agg := false, flat := [0], eqk := [], zero := [] } := by kernel_rfl
theorem ty49 : TT 49 = { tk := TK.slice 101, size := 1, bytes := 24, agg := false, flat := [2], eqk := [], zero := [D.own 2 []] } := by kernel_rfl
theorem ty50 : TT 50 = { tk := TK.slice 9, size := 1, bytes := 24, agg := false, flat := [1], eqk := [], zero := [D.own 1 []] } := by kernel_rfl
theorem ty51 : TT 51 = { tk := TK.slice 105, size := 1, bytes := 24, agg := false, flat := [2], eqk := [], zero := [D.own 2 []] } := by kernel_rfl
theorem ty52 : TT 52 = { tk := TK.struct [(0, 3), (1, 9), (2, 3), (3, 49), (4, 50), (5, 51)], size := 6, bytes := 104, agg := true, flat := [0, 0, 0, 2, 1, 2], eqk := [], zero := [D.v (V.i IntKind.i64 (0)), D.v (V.s ByteArray.empty), D.v (V.i IntKind.i64 (0)), D.own 2 [], D.own 1 [], D.own 2 []] } := by kernel_rfl
theorem ty53 : TT 53 = { tk := TK.struct [(0, 3), (1, 9), (2, 3), (3, 49), (4, 50), (5, 51)], size := 6, bytes := 104, agg := true, flat := [0, 0, 0, 2, 1, 2], eqk := [], zero := [D.v (V.i IntKind.i64 (0)), D.v (V.s ByteArray.empty), D.v (V.i IntKind.i64 (0)), D.own 2 [], D.own 1 [], D.own 2 []] } := by kernel_rfl
theorem ty54 : TT 54 = { tk := TK.func, size := 1, bytes := 8, agg := false, flat := [0], eqk := [], zero := [] } := by kernel_rfl
theorem ty55 : TT 55 = { tk := TK.func, size := 1, bytes := 8, agg := false, flat := [0], eqk := [], zero := [] } := by kernel_rfl
theorem ty56 : TT 56 = { tk := TK.func, size := 1, bytes := 8, agg := false, flat := [0], eqk := [], zero := [] } := by kernel_rfl
theorem ty58 : TT 58 = { tk := TK.func, size := 1, bytes := 8, agg := false, flat := [0], eqk := [], zero := [] } := by kernel_rfl
theorem ty59 : TT 59 = { tk := TK.func, size := 1, bytes := 8, agg := false, flat := [0], eqk := [], zero := [] } := by kernel_rfl
theorem ty60 : TT 60 = { tk := TK.func, size := 1, bytes := 8, agg := false, flat := [0], eqk := [], zero := [] } := by kernel_rfl
theorem ty61 : TT 61 = { tk := TK.slice 117, size := 1, bytes := 24, agg := false, flat := [8], eqk := [], zero := [D.own 8 []] } := by kernel_rfl
theorem ty62 : TT 62 = { tk := TK.struct [(0, 3), (1, 61)], size := 2, bytes := 32, agg := true, flat := [0, 8], eqk := [], zero := [D.v (V.i IntKind.i64 (0)), D.own 8 []] } := by kernel_rfl
theorem ty63 : TT 63 = { tk := TK.struct [(0, 3), (1, 61)], size := 2, bytes := 32, agg := true, flat := [0, 8], eqk := [], zero := [D.v (V.i IntKind.i64 (0)), D.own 8 []] } := by kernel_rfl
theorem ty64 : TT 64 = { tk := TK.func, size := 1, bytes := 8, agg := false, flat := [0], eqk := [], zero := [] } := by kernel_rfl
theorem ty65 : TT 65 = { tk := TK.func, size := 1, bytes := 8, agg := false, flat := [0], eqk := [], zero := [] } := by kernel_rfl
theorem ty66 : TT 66 = { tk := TK.func, size := 1, bytes := 8, agg := false, flat := [0], eqk := [], zero := [] } := by kernel_rfl
theorem ty68 : TT 68 = { tk := TK.func, size := 1, bytes := 8, agg := false, flat := [0], eqk := [], zero := [] } := by kernel_rfl
theorem ty69 : TT 69 = { tk := TK.func, size := 1, bytes := 8, agg := false, flat := [0], eqk := [], zero := [] } := by kernel_rfl
theorem ty70 : TT 70 = { tk := TK.func, size := 1, bytes := 8, agg := false, flat := [0], eqk := [], zero := [] } := by kernel_rfl
theorem ty71 : TT 71 = { tk := TK.slice 130, size := 1, bytes := 24, agg := false, flat := [7], eqk := [], zero := [D.own 7 []] } := by kernel_rfl
theorem ty72 : TT 72 = { tk := TK.struct [(0, 63), (2, 3), (3, 71)], size := 4, bytes := 64, agg := true, flat := [0, 8, 0, 7], eqk := [], zero := [D.v (V.i IntKind.i64 (0)), D.own 8 [], D.v (V.i IntKind.i64 (0)), D.own 7 []] } := by kernel_rfl
theorem ty73 : TT 73 = { tk := TK.struct [(0, 63), (2, 3), (3, 71)], size := 4, bytes := 64, agg := true, flat := [0, 8, 0, 7], eqk := [], zero := [D.v (V.i IntKind.i64 (0)), D.own 8 [], D.v (V.i IntKind.i64 (0)), D.own 7 []] } := by kernel_rfl
theorem ty74 : TT 74 = { tk := TK.func, size := 1, bytes := 8, agg := false, flat := [0], eqk := [], zero := [] } := by kernel_rfl
theorem ty75 : TT 75 = { tk := TK.func, size := 1, bytes := 8, agg := false, flat := [0], eqk := [], zero := [] } := by kernel_rfl
theorem ty76 : TT 76 = { tk := TK.func, size := 1, bytes := 8, agg := false, flat := [0], eqk := [], zero := [] } := by kernel_rfl
theorem ty77 : TT 77 = { tk := TK.struct [(0, 3), (1, 3), (2, 73)], size := 6, bytes := 80, agg := true, flat := [0, 0, 0, 8, 0, 7], eqk := [], zero := [D.v (V.i IntKind.i64 (0)), D.v (V.i IntKind.i64 (0)), D.v (V.i IntKind.i64 (0)), D.own 8 [], D.v (V.i IntKind.i64 (0)), D.own 7 []] } := by kernel_rfl
theorem ty78 : TT 78 = { tk := TK.struct [(0, 3), (1, 3), (2, 73)], size := 6, bytes := 80, agg := true, flat := [0, 0, 0, 8, 0, 7], eqk := [], zero := [D.v (V.i IntKind.i64 (0)), D.v (V.i IntKind.i64 (0)), D.v (V.i IntKind.i64 (0)), D.own 8 [], D.v (V.i IntKind.i64 (0)), D.own 7 []] } := by kernel_rfl
theorem ty79 : TT 79 = { tk := TK.func, size := 1, bytes := 8, agg := false, flat := [0], eqk := [], zero := [] } := by kernel_rfl
theorem ty80 : TT 80 = { tk := TK.func, size := 1, bytes := 8, agg := false, flat := [0], eqk := [], zero := [] } := by kernel_rfl
theorem ty81 : TT 81 = { tk := TK.func, size := 1, bytes := 8, agg := false, flat := [0], eqk := [], zero := [] } := by kernel_rfl
theorem ty82 : TT 82 = { tk := TK.func, size := 1, bytes := 8, agg := false, flat := [0], eqk := [], zero := [] } := by kernel_rfl
theorem ty83 : TT 83 = { tk := TK.func, size := 1, bytes := 8, agg := false, flat := [0], eqk := [], zero := [] } := by kernel_rfl
theorem ty84 : TT 84 = { tk := TK.func, size := 1, bytes := 8, agg := false, flat := [0], eqk := [], zero := [] } := by kernel_rfl
theorem ty86 : TT 86 = { tk := TK.func, size := 1, bytes := 8, agg := false, flat := [0], eqk := [], zero := [] } := by kernel_rfl
theorem ty87 : TT 87 = { tk := TK.func, size := 1, bytes := 8, agg := false, flat := [0], eqk := [], zero := [] } := by kernel_rfl
theorem ty88 : TT 88 = { tk := TK.func, size := 1, bytes := 8, agg := false, flat := [0], eqk := [], zero := [] } := by kernel_rfl
theorem ty89 : TT 89 = { tk := TK.func, size := 1, bytes := 8, agg := false, flat := [0], eqk := [], zero := [] } := by kernel_rfl
theorem ty90 : TT 90 = { tk := TK.func, size := 1, bytes := 8, agg := false, flat := [0], eqk := [], zero := [] } := by kernel_rfl
theorem ty91 : TT 91 = { tk := TK.ptr, size := 1, bytes := 8, agg := false, flat := [0], eqk := [], zero := [D.nilp] } := by kernel_rfl
theorem ty92 : TT 92 = { tk := TK.struct [(0, 39)], size := 1, bytes := 24, agg := true, flat := [1], eqk := [], zero := [D.own 1 []] } := by kernel_rfl
theorem ty93 : TT 93 = { tk := TK.struct [(0, 39)], size := 1, bytes := 24, agg := true, flat := [1], eqk := [], zero := [D.own 1 []] } := by kernel_rfl
theorem ty94 : TT 94 = { tk := TK.func, size := 1, bytes := 8, agg := false, flat := [0], eqk := [], zero := [] } := by kernel_rfl
theorem ty95 : TT 95 = { tk := TK.func, size := 1, bytes := 8, agg := false, flat := [0], eqk := [], zero := [] } := by kernel_rfl
theorem ty96 : TT 96 = { tk := TK.func, size := 1, bytes := 8, agg := false, flat := [0], eqk := [], zero := [] } := by kernel_rfl
theorem ty97 : TT 97 = { tk := TK.func, size := 1, bytes := 8, agg := false, flat := [0], eqk := [], zero := [] } := by kernel_rfl
theorem ty98 : TT 98 = { tk := TK.func, size := 1, bytes := 8, agg := false, flat := [0], eqk := [], zero := [] } := by kernel_rfl
theorem ty99 : TT 99 = { tk := TK.func, size := 1, bytes := 8, agg := false, flat := [0], eqk := [], zero := [] } := by kernel_rfl
theorem ty100 : TT 100 = { tk := TK.struct [(0, 9), (1, 9)], size := 2, bytes := 32, agg := true, flat := [0, 0], eqk := [3, 3], zero := [D.v (V.s ByteArray.empty), D.v (V.s ByteArray.empty)] } := by kernel_rfl
theorem ty101 : TT 101 = { tk := TK.struct [(0, 9), (1, 9)], size := 2, bytes := 32, agg := true, flat := [0, 0], eqk := [3, 3], zero := [D.v (V.s ByteArray.empty), D.v (V.s ByteArray.empty)] } := by kernel_rfl
theorem ty102 : TT 102 = { tk := TK.func, size := 1, bytes := 8, agg := false, flat := [0], eqk := [], zero := [] } := by kernel_rfl
theorem ty103 : TT 103 = { tk := TK.func, size := 1, bytes := 8, agg := false, flat := [0], eqk := [], zero := [] } := by kernel_rfl
theorem ty104 : TT 104 = { tk := TK.struct [(0, 9), (1, 3)], size := 2, bytes := 24, agg := true, flat := [0, 0], eqk := [3, 2], zero := [D.v (V.s ByteArray.empty), D.v (V.i IntKind.i64 (0))] } := by kernel_rfl
theorem ty105 : TT 105 = { tk := TK.struct [(0, 9), (1, 3)], size := 2, bytes := 24, agg := true, flat := [0, 0], eqk := [3, 2], zero := [D.v (V.s ByteArray.empty), D.v (V.i IntKind.i64 (0))] } := by kernel_rfl
theorem ty106 : TT 106 = { tk := TK.func, size := 1, bytes := 8, agg := false, flat := [0], eqk := [], zero := [] } := by kernel_rfl
theorem ty107 : TT 107 = { tk := TK.func, size := 1, bytes := 8, agg := false, flat := [0], eqk := [], zero := [] } := by kernel_rfl
theorem ty108 : TT 108 = { tk := TK.func, size := 1, bytes := 8, agg := false, flat := [0], eqk := [], zero := [] } := by kernel_rfl
theorem ty109 : TT 109 = { tk := TK.func, size := 1, bytes := 8, agg := false, flat := [0], eqk := [], zero := [] } := by kernel_rfl
theorem ty110 : TT 110 = { tk := TK.func, size := 1, bytes := 8, agg := false, flat := [0], eqk := [], zero := [] } := by kernel_rfl
theorem ty111 : TT 111 = { tk := TK.func, size := 1, bytes := 8, agg := false, flat := [0], eqk := [], zero := [] } := by kernel_rfl
theorem ty112 : TT 112 = { tk := TK.func, size := 1, bytes := 8, agg := false, flat := [0], eqk := [], zero := [] } := by kernel_rfl
theorem ty113 : TT 113 = { tk := TK.func, size := 1, bytes := 8, agg := false, flat := [0], eqk := [], zero := [] } := by kernel_rfl
theorem ty114 : TT 114 = { tk := TK.func, size := 1, bytes := 8, agg := false, flat := [0], eqk := [], zero := [] } := by kernel_rfl
theorem ty115 : TT 115 = { tk := TK.func, size := 1, bytes := 8, agg := false, flat := [0], eqk := [], zero := [] } := by kernel_rfl
theorem ty116 : TT 116 = { tk := TK.struct [(0, 9), (1, 53), (7, 3)], size := 8, bytes := 128, agg := true, flat := [0, 0, 0, 0, 2, 1, 2, 0], eqk := [], zero := [D.v (V.s ByteArray.empty), D.v (V.i IntKind.i64 (0)), D.v (V.s ByteArray.empty), D.v (V.i IntKind.i64 (0)), D.own 2 [], D.own 1 [], D.own 2 [], D.v (V.i IntKind.i64 (0))] } := by kernel_rfl
theorem ty117 : TT 117 = { tk := TK.struct [(0, 9), (1, 53), (7, 3)], size := 8, bytes := 128, agg := true, flat := [0, 0, 0, 0, 2, 1, 2, 0], eqk := [], zero := [D.v (V.s ByteArray.empty), D.v (V.i IntKind.i64 (0)), D.v (V.s ByteArray.empty), D.v (V.i IntKind.i64 (0)), D.own 2 [], D.own 1 [], D.own 2 [], D.v (V.i IntKind.i64 (0))] } := by kernel_rfl
theorem ty118 : TT 118 = { tk := TK.ptr, size := 1, bytes := 8, agg := false, flat := [0], eqk := [], zero := [D.nilp] } := by kernel_rfl
theorem ty119 : TT 119 = { tk := TK.struct [(0, 39), (1, 4)], size := 2, bytes := 32, agg := true, flat := [1, 0], eqk := [], zero := [D.own 1 [], D.v (V.b false)] } := by kernel_rfl
theorem ty120 : TT 120 = { tk := TK.struct [(0, 39), (1, 4)], size := 2, bytes := 32, agg := true, flat := [1, 0], eqk := [], zero := [D.own 1 [], D.v (V.b false)] } := by kernel_rfl
theorem ty122 : TT 122 = { tk := TK.func, size := 1, bytes := 8, agg := false, flat := [0], eqk := [], zero := [] } := by kernel_rfl
theorem ty123 : TT 123 = { tk := TK.func, size := 1, bytes := 8, agg := false, flat := [0], eqk := [], zero := [] } := by kernel_rfl
theorem ty124 : TT 124 = { tk := TK.ptr, size := 1, bytes := 8, agg := false, flat := [0], eqk := [], zero := [D.nilp] } := by kernel_rfl
theorem ty125 : TT 125 = { tk := TK.struct [(0, 39), (1, 3)], size := 2, bytes := 32, agg := true, flat := [1, 0], eqk := [], zero := [D.own 1 [], D.v (V.i IntKind.i64 (0))] } := by kernel_rfl
theorem ty126 : TT 126 = { tk := TK.struct [(0, 39), (1, 3)], size := 2, bytes := 32, agg := true, flat := [1, 0], eqk := [], zero := [D.own 1 [], D.v (V.i IntKind.i64 (0))] } := by kernel_rfl
theorem ty127 : TT 127 = { tk := TK.struct [(0, 25), (1, 9), (2, 3), (3, 50)], size := 4, bytes := 56, agg := true, flat := [0, 0, 0, 1], eqk := [], zero := [D.v (V.i IntKind.i64 (0)), D.v (V.s ByteArray.empty), D.v (V.i IntKind.i64 (0)), D.own 1 []] } := by kernel_rfl
theorem ty128 : TT 128 = { tk := TK.struct [(0, 25), (1, 9), (2, 3), (3, 50)], size := 4, bytes := 56, agg := true, flat := [0, 0, 0, 1], eqk := [], zero := [D.v (V.i IntKind.i64 (0)), D.v (V.s ByteArray.empty), D.v (V.i IntKind.i64 (0)), D.own 1 []] } := by kernel_rfl
theorem ty129 : TT 129 = { tk := TK.struct [(0, 3), (1, 3), (2, 3), (3, 128)], size := 7, bytes := 80, agg := true, flat := [0, 0, 0, 0, 0, 0, 1], eqk := [], zero := [D.v (V.i IntKind.i64 (0)), D.v (V.i IntKind.i64 (0)), D.v (V.i IntKind.i64 (0)), D.v (V.i IntKind.i64 (0)), D.v (V.s ByteArray.empty), D.v (V.i IntKind.i64 (0)), D.own 1 []] } := by kernel_rfl
theorem ty130 : TT 130 = { tk := TK.struct [(0, 3), (1, 3), (2, 3), (3, 128)], size := 7, bytes := 80, agg := true, flat := [0, 0, 0, 0, 0, 0, 1], eqk := [], zero := [D.v (V.i IntKind.i64 (0)), D.v (V.i IntKind.i64 (0)), D.v (V.i IntKind.i64 (0)), D.v (V.i IntKind.i64 (0)), D.v (V.s ByteArray.empty), D.v (V.i IntKind.i64 (0)), D.own 1 []] } := by kernel_rfl
theorem ty131 : TT 131 = { tk := TK.func, size := 1, bytes := 8, agg := false, flat := [0], eqk := [], zero := [] } := by kernel_rfl
theorem ty132 : TT 132 = { tk := TK.func, size := 1, bytes := 8, agg := false, flat := [0], eqk := [], zero := [] } := by kernel_rfl
theorem ty133 : TT 133 = { tk := TK.func, size := 1, bytes := 8, agg := false, flat := [0], eqk := [], zero := [] } := by kernel_rfl
theorem ty134 : TT 134 = { tk := TK.func, size := 1, bytes := 8, agg := false, flat := [0], eqk := [], zero := [] } := by kernel_rfl
theorem ty135 : TT 135 = { tk := TK.func, size := 1, bytes := 8, agg := false, flat := [0], eqk := [], zero := [] } := by kernel_rfl
theorem ty136 : TT 136 = { tk := TK.func, size := 1, bytes := 8, agg := false, flat := [0], eqk := [], zero := [] } := by kernel_rfl
theorem ty137 : TT 137 = { tk := TK.func, size := 1, bytes := 8, agg := false, flat := [0], eqk := [], zero := [] } := by kernel_rfl
theorem ty138 : TT 138 = { tk := TK.func, size := 1, bytes := 8, agg := false, flat := [0], eqk := [], zero := [] } := by kernel_rfl
theorem ty139 : TT 139 = { tk := TK.func, size := 1, bytes := 8, agg := false, flat := [0], eqk := [], zero := [] } := by kernel_rfl
theorem ty140 : TT 140 = { tk := TK.func, size := 1, bytes := 8, agg := false, flat := [0], eqk := [], zero := [] } := by kernel_rfl
theorem ty141 : TT 141 = { tk := TK.func, size := 1, bytes := 8, agg := false, flat := [0], eqk := [], zero := [] } := by kernel_rfl
theorem ty142 : TT 142 = { tk := TK.func, size := 1, bytes := 8, agg := false, flat := [0], eqk := [], zero := [] } := by kernel_rfl
theorem ty143 : TT 143 = { tk := TK.func, size := 1, bytes := 8, agg := false, flat := [0], eqk := [], zero := [] } := by kernel_rfl
theorem ty144 : TT 144 = { tk := TK.func, size := 1, bytes := 8, agg := false, flat := [0], eqk := [], zero := [] } := by kernel_rfl
theorem ty145 : TT 145 = { tk := TK.func, size := 1, bytes := 8, agg := false, flat := [0], eqk := [], zero := [] } := by kernel_rfl
theorem ty146 : TT 146 = { tk := TK.func, size := 1, bytes := 8, agg := false, flat := [0], eqk := [], zero := [] } := by kernel_rfl
theorem ty147 : TT 147 = { tk := TK.func, size := 1, bytes := 8, agg := false, flat := [0], eqk := [], zero := [] } := by kernel_rfl
theorem ty148 : TT 148 = { tk := TK.func, size := 1, bytes := 8, agg := false, flat := [0], eqk := [], zero := [] } := by kernel_rfl
theorem ty149 : TT 149 = { tk := TK.func, size := 1, bytes := 8, agg := false, flat := [0], eqk := [], zero := [] } := by kernel_rfl
theorem ty150 : TT 150 = { tk := TK.func, size := 1, bytes := 8, agg := false, flat := [0], eqk := [], zero := [] } := by kernel_rfl
theorem ty151 : TT 151 = { tk := TK.func, size := 1, bytes := 8, agg := false, flat := [0], eqk := [], zero := [] } := by kernel_rfl
theorem ty152 : TT 152 = { tk := TK.func, size := 1, bytes := 8, agg := false, flat := [0], eqk := [], zero := [] } := by kernel_rfl
theorem ty153 : TT 153 = { tk := TK.func, size := 1, bytes := 8, agg := false, flat := [0], eqk := [], zero := [] } := by kernel_rfl
theorem ty154 : TT 154 = { tk := TK.int IntKind.u64, size := 1, bytes := 8, agg := false, flat := [0], eqk := [], zero := [D.v (V.i IntKind.u64 (0))] } := by kernel_rfl
theorem ty155 : TT 155 = { tk := TK.func, size := 1, bytes := 8, agg := false, flat := [0], eqk := [], zero := [] } := by kernel_rfl
theorem ty156 : TT 156 = { tk := TK.func, size := 1, bytes := 8, agg := false, flat := [0], eqk := [], zero := [] } := by kernel_rfl
theorem ty157 : TT 157 = { tk := TK.func, size := 1, bytes := 8, agg := false, flat := [0], eqk := [], zero := [] } := by kernel_rfl
theorem ty158 : TT 158 = { tk := TK.func, size := 1, bytes := 8, agg := false, flat := [0], eqk := [], zero := [] } := by kernel_rfl
theorem ty159 : TT 159 = { tk := TK.func, size := 1, bytes := 8, agg := false, flat := [0], eqk := [], zero := [] } := by kernel_rfl
theorem ty160 : TT 160 = { tk := TK.func, size := 1, bytes := 8, agg := false, flat := [0], eqk := [], zero := [] } := by kernel_rfl
theorem ty161 : TT 161 = { tk := TK.slice 3, size := 1, bytes := 24, agg := false, flat := [1], eqk := [], zero := [D.own 1 []] } := by kernel_rfl
theorem ty162 : TT 162 = { tk := TK.int IntKind.u64, size := 1, bytes := 8, agg := false, flat := [0], eqk := [], zero := [D.v (V.i IntKind.u64 (0))] } := by kernel_rfl
theorem ty163 : TT 163 = { tk := TK.func, size := 1, bytes := 8, agg := false, flat := [0], eqk := [], zero := [] } := by kernel_rfl
theorem ty164 : TT 164 = { tk := TK.struct [(0, 17), (1, 17), (2, 17), (3, 9)], size := 4, bytes := 40, agg := true, flat := [0, 0, 0, 0], eqk := [], zero := [D.nilp, D.nilp, D.nilp, D.v (V.s ByteArray.empty)] } := by kernel_rfl
theorem ty165 : TT 165 = { tk := TK.struct [(0, 17), (1, 17), (2, 17), (3, 9)], size := 4, bytes := 40, agg := true, flat := [0, 0, 0, 0], eqk := [], zero := [D.nilp, D.nilp, D.nilp, D.v (V.s ByteArray.empty)] } := by kernel_rfl
theorem ty166 : TT 166 = { tk := TK.array 0 16, size := 0, bytes := 0, agg := true, flat := [], eqk := [], zero := [] } := by kernel_rfl
theorem ty167 : TT 167 = { tk := TK.struct [(0, 166)], size := 0, bytes := 0, agg := true, flat := [], eqk := [], zero := [] } := by kernel_rfl
theorem ty168 : TT 168 = { tk := TK.struct [(0, 166)], size := 0, bytes := 0, agg := true, flat := [], eqk := [], zero := [] } := by kernel_rfl
theorem ty169 : TT 169 = { tk := TK.int IntKind.u32, size := 1, bytes := 4, agg := false, flat := [0], eqk := [], zero := [D.v (V.i IntKind.u32 (0))] } := by kernel_rfl
theorem ty170 : TT 170 = { tk := TK.int IntKind.u8, size := 1, bytes := 1, agg := false, flat := [0], eqk := [], zero := [D.v (V.i IntKind.u8 (0))] } := by kernel_rfl
theorem ty171 : TT 171 = { tk := TK.int IntKind.u8, size := 1, bytes := 1, agg := false, flat := [0], eqk := [], zero := [D.v (V.i IntKind.u8 (0))] } := by kernel_rfl
theorem ty172 : TT 172 = { tk := TK.func, size := 1, bytes := 8, agg := false, flat := [0], eqk := [], zero := [] } := by kernel_rfl
theorem ty173 : TT 173 = { tk := TK.ptr, size := 1, bytes := 8, agg := false, flat := [0], eqk := [], zero := [D.nilp] } := by kernel_rfl
theorem ty174 : TT 174 = { tk := TK.int IntKind.i32, size := 1, bytes := 4, agg := false, flat := [0], eqk := [], zero := [D.v (V.i IntKind.i32 (0))] } := by kernel_rfl
theorem ty175 : TT 175 = { tk := TK.int IntKind.i32, size := 1, bytes := 4, agg := false, flat := [0], eqk := [], zero := [D.v (V.i IntKind.i32 (0))] } := by kernel_rfl
theorem ty176 : TT 176 = { tk := TK.struct [(0, 12), (1, 12), (2, 169), (3, 170), (4, 5), (5, 5), (6, 171), (7, 172), (8, 173), (9, 174), (10, 175)], size := 11, bytes := 48, agg := true, flat := [0, 0, 0, 0, 0, 0, 0, 0, 0, 0, 0], eqk := [], zero := [D.v (V.i IntKind.u64 (0)), D.v (V.i IntKind.u64 (0)), D.v (V.i IntKind.u32 (0)), D.v (V.i IntKind.u8 (0)), D.v (V.i IntKind.u8 (0)), D.v (V.i IntKind.u8 (0)), D.v (V.i IntKind.u8 (0)), D.bad, D.nilp, D.v (V.i IntKind.i32 (0)), D.v (V.i IntKind.i32 (0))] } := by kernel_rfl
theorem ty177 : TT 177 = { tk := TK.struct [(0, 12), (1, 12), (2, 169), (3, 170), (4, 5), (5, 5), (6, 171), (7, 172), (8, 173), (9, 174), (10, 175)], size := 11, bytes := 48, agg := true, flat := [0, 0, 0, 0, 0, 0, 0, 0, 0, 0, 0], eqk := [], zero := [D.v (V.i IntKind.u64 (0)), D.v (V.i IntKind.u64 (0)), D.v (V.i IntKind.u32 (0)), D.v (V.i IntKind.u8 (0)), D.v (V.i IntKind.u8 (0)), D.v (V.i IntKind.u8 (0)), D.v (V.i IntKind.u8 (0)), D.bad, D.nilp, D.v (V.i IntKind.i32 (0)), D.v (V.i IntKind.i32 (0))] } := by kernel_rfl
end Go.Proofs.Ytnjkmbogbfjffaa
