/- Part of the proof by the machine Mx: TyTab. -/
import Derived.Test.YtiicnbdolakdgaaMxOne
import Derived.Test.YtiicnbdolakdgaaProg
import Derived.KernelRfl
set_option linter.unusedSimpArgs false
set_option linter.unusedVariables false
set_option linter.constructorNameAsVariable false
set_option linter.unnecessarySimpa false
/- The machine's table of types for this program. -/
namespace Go.Proofs.Ytiicnbdolakdgaa
open Go Go.Mx Go.Proofs
noncomputable def TT : Nat → Ty := tyOf Try.prog
theorem mixed : Try.prog.follows .mixedOrders = true := by kernel_rfl
theorem ty1 : TT 1 = { tk := TK.func, size := 1, bytes := 8, agg := false, flat := [0], eqk := [], zero := [] } := by kernel_rfl
theorem ty2 : TT 2 = { tk := TK.int IntKind.i64, size := 1, bytes := 8, agg := false, flat := [0], eqk := [], zero := [D.v (V.i IntKind.i64 (0))] } := by kernel_rfl
theorem ty3 : TT 3 = { tk := TK.int IntKind.i64, size := 1, bytes := 8, agg := false, flat := [0], eqk := [], zero := [D.v (V.i IntKind.i64 (0))] } := by kernel_rfl
theorem ty4 : TT 4 = { tk := TK.bool, size := 1, bytes := 1, agg := false, flat := [0], eqk := [], zero := [D.v (V.b false)] } := by kernel_rfl
theorem ty5 : TT 5 = { tk := TK.int IntKind.u8, size := 1, bytes := 1, agg := false, flat := [0], eqk := [], zero := [D.v (V.i IntKind.u8 (0))] } := by kernel_rfl
theorem ty6 : TT 6 = { tk := TK.int IntKind.u8, size := 1, bytes := 1, agg := false, flat := [0], eqk := [], zero := [D.v (V.i IntKind.u8 (0))] } := by kernel_rfl
theorem ty7 : TT 7 = { tk := TK.struct [(0, 2), (1, 3), (2, 4), (3, 6)], size := 4, bytes := 24, agg := true, flat := [0, 0, 0, 0], eqk := [2, 2, 1, 2], zero := [D.v (V.i IntKind.i64 (0)), D.v (V.i IntKind.i64 (0)), D.v (V.b false), D.v (V.i IntKind.u8 (0))] } := by kernel_rfl
theorem ty8 : TT 8 = { tk := TK.struct [(0, 2), (1, 3), (2, 4), (3, 6)], size := 4, bytes := 24, agg := true, flat := [0, 0, 0, 0], eqk := [2, 2, 1, 2], zero := [D.v (V.i IntKind.i64 (0)), D.v (V.i IntKind.i64 (0)), D.v (V.b false), D.v (V.i IntKind.u8 (0))] } := by kernel_rfl
theorem ty9 : TT 9 = { tk := TK.str, size := 1, bytes := 16, agg := false, flat := [0], eqk := [], zero := [D.v (V.s ByteArray.empty)] } := by kernel_rfl
theorem ty10 : TT 10 = { tk := TK.str, size := 1, bytes := 16, agg := false, flat := [0], eqk := [], zero := [D.v (V.s ByteArray.empty)] } := by kernel_rfl
theorem ty11 : TT 11 = { tk := TK.str, size := 1, bytes := 16, agg := false, flat := [0], eqk := [], zero := [D.v (V.s ByteArray.empty)] } := by kernel_rfl
theorem ty12 : TT 12 = { tk := TK.int IntKind.u64, size := 1, bytes := 8, agg := false, flat := [0], eqk := [], zero := [D.v (V.i IntKind.u64 (0))] } := by kernel_rfl
theorem ty13 : TT 13 = { tk := TK.struct [(0, 9), (1, 12)], size := 2, bytes := 24, agg := true, flat := [0, 0], eqk := [], zero := [D.v (V.s ByteArray.empty), D.v (V.i IntKind.u64 (0))] } := by kernel_rfl
theorem ty14 : TT 14 = { tk := TK.struct [(0, 9), (1, 12)], size := 2, bytes := 24, agg := true, flat := [0, 0], eqk := [], zero := [D.v (V.s ByteArray.empty), D.v (V.i IntKind.u64 (0))] } := by kernel_rfl
theorem ty15 : TT 15 = { tk := TK.ptr, size := 1, bytes := 8, agg := false, flat := [0], eqk := [], zero := [D.nilp] } := by kernel_rfl
theorem ty16 : TT 16 = { tk := TK.ptr, size := 1, bytes := 8, agg := false, flat := [0], eqk := [], zero := [D.nilp] } := by kernel_rfl
theorem ty17 : TT 17 = { tk := TK.ptr, size := 1, bytes := 8, agg := false, flat := [0], eqk := [], zero := [D.nilp] } := by kernel_rfl
theorem ty18 : TT 18 = { tk := TK.struct [(0, 17)], size := 1, bytes := 8, agg := true, flat := [0], eqk := [], zero := [D.nilp] } := by kernel_rfl
theorem ty19 : TT 19 = { tk := TK.struct [(0, 17)], size := 1, bytes := 8, agg := true, flat := [0], eqk := [], zero := [D.nilp] } := by kernel_rfl
theorem ty21 : TT 21 = { tk := TK.int IntKind.i32, size := 1, bytes := 4, agg := false, flat := [0], eqk := [], zero := [D.v (V.i IntKind.i32 (0))] } := by kernel_rfl
theorem ty22 : TT 22 = { tk := TK.int IntKind.i64, size := 1, bytes := 8, agg := false, flat := [0], eqk := [], zero := [D.v (V.i IntKind.i64 (0))] } := by kernel_rfl
theorem ty23 : TT 23 = { tk := TK.slice 22, size := 1, bytes := 24, agg := false, flat := [1], eqk := [], zero := [D.own 1 []] } := by kernel_rfl
theorem ty24 : TT 24 = { tk := TK.slice 3, size := 1, bytes := 24, agg := false, flat := [1], eqk := [], zero := [D.own 1 []] } := by kernel_rfl
theorem ty25 : TT 25 = { tk := TK.func, size := 1, bytes := 8, agg := false, flat := [0], eqk := [], zero := [] } := by kernel_rfl
theorem ty26 : TT 26 = { tk := TK.slice 105, size := 1, bytes := 24, agg := false, flat := [8], eqk := [], zero := [D.own 8 []] } := by kernel_rfl
theorem ty27 : TT 27 = { tk := TK.struct [(0, 3), (1, 26)], size := 2, bytes := 32, agg := true, flat := [0, 8], eqk := [], zero := [D.v (V.i IntKind.i64 (0)), D.own 8 []] } := by kernel_rfl
theorem ty28 : TT 28 = { tk := TK.struct [(0, 3), (1, 26)], size := 2, bytes := 32, agg := true, flat := [0, 8], eqk := [], zero := [D.v (V.i IntKind.i64 (0)), D.own 8 []] } := by kernel_rfl
theorem ty29 : TT 29 = { tk := TK.slice 82, size := 1, bytes := 24, agg := false, flat := [7], eqk := [], zero := [D.own 7 []] } := by kernel_rfl
theorem ty30 : TT 30 = { tk := TK.struct [(0, 28), (2, 3), (3, 29)], size := 4, bytes := 64, agg := true, flat := [0, 8, 0, 7], eqk := [], zero := [D.v (V.i IntKind.i64 (0)), D.own 8 [], D.v (V.i IntKind.i64 (0)), D.own 7 []] } := by kernel_rfl
theorem ty31 : TT 31 = { tk := TK.struct [(0, 28), (2, 3), (3, 29)], size := 4, bytes := 64, agg := true, flat := [0, 8, 0, 7], eqk := [], zero := [D.v (V.i IntKind.i64 (0)), D.own 8 [], D.v (V.i IntKind.i64 (0)), D.own 7 []] } := by kernel_rfl
theorem ty32 : TT 32 = { tk := TK.func, size := 1, bytes := 8, agg := false, flat := [0], eqk := [], zero := [] } := by kernel_rfl
theorem ty33 : TT 33 = { tk := TK.func, size := 1, bytes := 8, agg := false, flat := [0], eqk := [], zero := [] } := by kernel_rfl
theorem ty34 : TT 34 = { tk := TK.struct [(0, 3), (1, 3), (2, 31)], size := 6, bytes := 80, agg := true, flat := [0, 0, 0, 8, 0, 7], eqk := [], zero := [D.v (V.i IntKind.i64 (0)), D.v (V.i IntKind.i64 (0)), D.v (V.i IntKind.i64 (0)), D.own 8 [], D.v (V.i IntKind.i64 (0)), D.own 7 []] } := by kernel_rfl
theorem ty35 : TT 35 = { tk := TK.struct [(0, 3), (1, 3), (2, 31)], size := 6, bytes := 80, agg := true, flat := [0, 0, 0, 8, 0, 7], eqk := [], zero := [D.v (V.i IntKind.i64 (0)), D.v (V.i IntKind.i64 (0)), D.v (V.i IntKind.i64 (0)), D.own 8 [], D.v (V.i IntKind.i64 (0)), D.own 7 []] } := by kernel_rfl
theorem ty36 : TT 36 = { tk := TK.slice 68, size := 1, bytes := 24, agg := false, flat := [10], eqk := [], zero := [D.own 10 []] } := by kernel_rfl
theorem ty37 : TT 37 = { tk := TK.struct [(0, 3), (1, 3), (2, 36)], size := 3, bytes := 40, agg := true, flat := [0, 0, 10], eqk := [], zero := [D.v (V.i IntKind.i64 (0)), D.v (V.i IntKind.i64 (0)), D.own 10 []] } := by kernel_rfl
theorem ty38 : TT 38 = { tk := TK.struct [(0, 3), (1, 3), (2, 36)], size := 3, bytes := 40, agg := true, flat := [0, 0, 10], eqk := [], zero := [D.v (V.i IntKind.i64 (0)), D.v (V.i IntKind.i64 (0)), D.own 10 []] } := by kernel_rfl
theorem ty39 : TT 39 = { tk := TK.struct [(0, 3), (1, 3), (2, 35), (8, 38)], size := 11, bytes := 136, agg := true, flat := [0, 0, 0, 0, 0, 8, 0, 7, 0, 0, 10], eqk := [], zero := [D.v (V.i IntKind.i64 (0)), D.v (V.i IntKind.i64 (0)), D.v (V.i IntKind.i64 (0)), D.v (V.i IntKind.i64 (0)), D.v (V.i IntKind.i64 (0)), D.own 8 [], D.v (V.i IntKind.i64 (0)), D.own 7 [], D.v (V.i IntKind.i64 (0)), D.v (V.i IntKind.i64 (0)), D.own 10 []] } := by kernel_rfl
theorem ty40 : TT 40 = { tk := TK.struct [(0, 3), (1, 3), (2, 35), (8, 38)], size := 11, bytes := 136, agg := true, flat := [0, 0, 0, 0, 0, 8, 0, 7, 0, 0, 10], eqk := [], zero := [D.v (V.i IntKind.i64 (0)), D.v (V.i IntKind.i64 (0)), D.v (V.i IntKind.i64 (0)), D.v (V.i IntKind.i64 (0)), D.v (V.i IntKind.i64 (0)), D.own 8 [], D.v (V.i IntKind.i64 (0)), D.own 7 [], D.v (V.i IntKind.i64 (0)), D.v (V.i IntKind.i64 (0)), D.own 10 []] } := by kernel_rfl
theorem ty41 : TT 41 = { tk := TK.func, size := 1, bytes := 8, agg := false, flat := [0], eqk := [], zero := [] } := by kernel_rfl
theorem ty42 : TT 42 = { tk := TK.func, size := 1, bytes := 8, agg := false, flat := [0], eqk := [], zero := [] } := by kernel_rfl
theorem ty43 : TT 43 = { tk := TK.slice 5, size := 1, bytes := 24, agg := false, flat := [1], eqk := [], zero := [D.own 1 []] } := by kernel_rfl
theorem ty44 : TT 44 = { tk := TK.struct [(0, 43), (1, 3)], size := 2, bytes := 32, agg := true, flat := [1, 0], eqk := [], zero := [D.own 1 [], D.v (V.i IntKind.i64 (0))] } := by kernel_rfl
theorem ty45 : TT 45 = { tk := TK.struct [(0, 43), (1, 3)], size := 2, bytes := 32, agg := true, flat := [1, 0], eqk := [], zero := [D.own 1 [], D.v (V.i IntKind.i64 (0))] } := by kernel_rfl
theorem ty46 : TT 46 = { tk := TK.func, size := 1, bytes := 8, agg := false, flat := [0], eqk := [], zero := [] } := by kernel_rfl
theorem ty48 : TT 48 = { tk := TK.func, size := 1, bytes := 8, agg := false, flat := [0], eqk := [], zero := [] } := by kernel_rfl
theorem ty49 : TT 49 = { tk := TK.func, size := 1, bytes := 8, agg := false, flat := [0], eqk := [], zero := [] } := by kernel_rfl
theorem ty50 : TT 50 = { tk := TK.func, size := 1, bytes := 8, agg := false, flat := [0], eqk := [], zero := [] } := by kernel_rfl
theorem ty51 : TT 51 = { tk := TK.slice 9, size := 1, bytes := 24, agg := false, flat := [1], eqk := [], zero := [D.own 1 []] } := by kernel_rfl
theorem ty52 : TT 52 = { tk := TK.struct [(0, 22), (1, 9), (2, 3), (3, 51)], size := 4, bytes := 56, agg := true, flat := [0, 0, 0, 1], eqk := [], zero := [D.v (V.i IntKind.i64 (0)), D.v (V.s ByteArray.empty), D.v (V.i IntKind.i64 (0)), D.own 1 []] } := by kernel_rfl
theorem ty53 : TT 53 = { tk := TK.struct [(0, 22), (1, 9), (2, 3), (3, 51)], size := 4, bytes := 56, agg := true, flat := [0, 0, 0, 1], eqk := [], zero := [D.v (V.i IntKind.i64 (0)), D.v (V.s ByteArray.empty), D.v (V.i IntKind.i64 (0)), D.own 1 []] } := by kernel_rfl
theorem ty54 : TT 54 = { tk := TK.func, size := 1, bytes := 8, agg := false, flat := [0], eqk := [], zero := [] } := by kernel_rfl
theorem ty55 : TT 55 = { tk := TK.func, size := 1, bytes := 8, agg := false, flat := [0], eqk := [], zero := [] } := by kernel_rfl
theorem ty56 : TT 56 = { tk := TK.func, size := 1, bytes := 8, agg := false, flat := [0], eqk := [], zero := [] } := by kernel_rfl
theorem ty57 : TT 57 = { tk := TK.func, size := 1, bytes := 8, agg := false, flat := [0], eqk := [], zero := [] } := by kernel_rfl
theorem ty58 : TT 58 = { tk := TK.func, size := 1, bytes := 8, agg := false, flat := [0], eqk := [], zero := [] } := by kernel_rfl
theorem ty59 : TT 59 = { tk := TK.struct [(0, 3), (1, 9), (2, 9), (3, 9), (4, 3)], size := 5, bytes := 64, agg := true, flat := [0, 0, 0, 0, 0], eqk := [2, 3, 3, 3, 2], zero := [D.v (V.i IntKind.i64 (0)), D.v (V.s ByteArray.empty), D.v (V.s ByteArray.empty), D.v (V.s ByteArray.empty), D.v (V.i IntKind.i64 (0))] } := by kernel_rfl
theorem ty60 : TT 60 = { tk := TK.struct [(0, 3), (1, 9), (2, 9), (3, 9), (4, 3)], size := 5, bytes := 64, agg := true, flat := [0, 0, 0, 0, 0], eqk := [2, 3, 3, 3, 2], zero := [D.v (V.i IntKind.i64 (0)), D.v (V.s ByteArray.empty), D.v (V.s ByteArray.empty), D.v (V.s ByteArray.empty), D.v (V.i IntKind.i64 (0))] } := by kernel_rfl
theorem ty61 : TT 61 = { tk := TK.func, size := 1, bytes := 8, agg := false, flat := [0], eqk := [], zero := [] } := by kernel_rfl
theorem ty62 : TT 62 = { tk := TK.func, size := 1, bytes := 8, agg := false, flat := [0], eqk := [], zero := [] } := by kernel_rfl
theorem ty63 : TT 63 = { tk := TK.struct [(0, 3), (1, 3), (2, 60)], size := 7, bytes := 80, agg := true, flat := [0, 0, 0, 0, 0, 0, 0], eqk := [2, 2, 2, 3, 3, 3, 2], zero := [D.v (V.i IntKind.i64 (0)), D.v (V.i IntKind.i64 (0)), D.v (V.i IntKind.i64 (0)), D.v (V.s ByteArray.empty), D.v (V.s ByteArray.empty), D.v (V.s ByteArray.empty), D.v (V.i IntKind.i64 (0))] } := by kernel_rfl
theorem ty64 : TT 64 = { tk := TK.struct [(0, 3), (1, 3), (2, 60)], size := 7, bytes := 80, agg := true, flat := [0, 0, 0, 0, 0, 0, 0], eqk := [2, 2, 2, 3, 3, 3, 2], zero := [D.v (V.i IntKind.i64 (0)), D.v (V.i IntKind.i64 (0)), D.v (V.i IntKind.i64 (0)), D.v (V.s ByteArray.empty), D.v (V.s ByteArray.empty), D.v (V.s ByteArray.empty), D.v (V.i IntKind.i64 (0))] } := by kernel_rfl
theorem ty65 : TT 65 = { tk := TK.func, size := 1, bytes := 8, agg := false, flat := [0], eqk := [], zero := [] } := by kernel_rfl
theorem ty66 : TT 66 = { tk := TK.func, size := 1, bytes := 8, agg := false, flat := [0], eqk := [], zero := [] } := by kernel_rfl
theorem ty67 : TT 67 = { tk := TK.struct [(0, 3), (1, 3), (2, 4), (3, 64)], size := 10, bytes := 104, agg := true, flat := [0, 0, 0, 0, 0, 0, 0, 0, 0, 0], eqk := [2, 2, 1, 2, 2, 2, 3, 3, 3, 2], zero := [D.v (V.i IntKind.i64 (0)), D.v (V.i IntKind.i64 (0)), D.v (V.b false), D.v (V.i IntKind.i64 (0)), D.v (V.i IntKind.i64 (0)), D.v (V.i IntKind.i64 (0)), D.v (V.s ByteArray.empty), D.v (V.s ByteArray.empty), D.v (V.s ByteArray.empty), D.v (V.i IntKind.i64 (0))] } := by kernel_rfl
theorem ty68 : TT 68 = { tk := TK.struct [(0, 3), (1, 3), (2, 4), (3, 64)], size := 10, bytes := 104, agg := true, flat := [0, 0, 0, 0, 0, 0, 0, 0, 0, 0], eqk := [2, 2, 1, 2, 2, 2, 3, 3, 3, 2], zero := [D.v (V.i IntKind.i64 (0)), D.v (V.i IntKind.i64 (0)), D.v (V.b false), D.v (V.i IntKind.i64 (0)), D.v (V.i IntKind.i64 (0)), D.v (V.i IntKind.i64 (0)), D.v (V.s ByteArray.empty), D.v (V.s ByteArray.empty), D.v (V.s ByteArray.empty), D.v (V.i IntKind.i64 (0))] } := by kernel_rfl
theorem ty69 : TT 69 = { tk := TK.func, size := 1, bytes := 8, agg := false, flat := [0], eqk := [], zero := [] } := by kernel_rfl
theorem ty70 : TT 70 = { tk := TK.func, size := 1, bytes := 8, agg := false, flat := [0], eqk := [], zero := [] } := by kernel_rfl
theorem ty71 : TT 71 = { tk := TK.func, size := 1, bytes := 8, agg := false, flat := [0], eqk := [], zero := [] } := by kernel_rfl
theorem ty72 : TT 72 = { tk := TK.func, size := 1, bytes := 8, agg := false, flat := [0], eqk := [], zero := [] } := by kernel_rfl
theorem ty73 : TT 73 = { tk := TK.func, size := 1, bytes := 8, agg := false, flat := [0], eqk := [], zero := [] } := by kernel_rfl
theorem ty74 : TT 74 = { tk := TK.struct [(0, 3), (1, 3), (2, 3), (3, 64)], size := 10, bytes := 104, agg := true, flat := [0, 0, 0, 0, 0, 0, 0, 0, 0, 0], eqk := [2, 2, 2, 2, 2, 2, 3, 3, 3, 2], zero := [D.v (V.i IntKind.i64 (0)), D.v (V.i IntKind.i64 (0)), D.v (V.i IntKind.i64 (0)), D.v (V.i IntKind.i64 (0)), D.v (V.i IntKind.i64 (0)), D.v (V.i IntKind.i64 (0)), D.v (V.s ByteArray.empty), D.v (V.s ByteArray.empty), D.v (V.s ByteArray.empty), D.v (V.i IntKind.i64 (0))] } := by kernel_rfl
theorem ty75 : TT 75 = { tk := TK.struct [(0, 3), (1, 3), (2, 3), (3, 64)], size := 10, bytes := 104, agg := true, flat := [0, 0, 0, 0, 0, 0, 0, 0, 0, 0], eqk := [2, 2, 2, 2, 2, 2, 3, 3, 3, 2], zero := [D.v (V.i IntKind.i64 (0)), D.v (V.i IntKind.i64 (0)), D.v (V.i IntKind.i64 (0)), D.v (V.i IntKind.i64 (0)), D.v (V.i IntKind.i64 (0)), D.v (V.i IntKind.i64 (0)), D.v (V.s ByteArray.empty), D.v (V.s ByteArray.empty), D.v (V.s ByteArray.empty), D.v (V.i IntKind.i64 (0))] } := by kernel_rfl
theorem ty76 : TT 76 = { tk := TK.func, size := 1, bytes := 8, agg := false, flat := [0], eqk := [], zero := [] } := by kernel_rfl
theorem ty77 : TT 77 = { tk := TK.func, size := 1, bytes := 8, agg := false, flat := [0], eqk := [], zero := [] } := by kernel_rfl
theorem ty79 : TT 79 = { tk := TK.func, size := 1, bytes := 8, agg := false, flat := [0], eqk := [], zero := [] } := by kernel_rfl
theorem ty80 : TT 80 = { tk := TK.func, size := 1, bytes := 8, agg := false, flat := [0], eqk := [], zero := [] } := by kernel_rfl
theorem ty81 : TT 81 = { tk := TK.struct [(0, 3), (1, 3), (2, 3), (3, 53)], size := 7, bytes := 80, agg := true, flat := [0, 0, 0, 0, 0, 0, 1], eqk := [], zero := [D.v (V.i IntKind.i64 (0)), D.v (V.i IntKind.i64 (0)), D.v (V.i IntKind.i64 (0)), D.v (V.i IntKind.i64 (0)), D.v (V.s ByteArray.empty), D.v (V.i IntKind.i64 (0)), D.own 1 []] } := by kernel_rfl
theorem ty82 : TT 82 = { tk := TK.struct [(0, 3), (1, 3), (2, 3), (3, 53)], size := 7, bytes := 80, agg := true, flat := [0, 0, 0, 0, 0, 0, 1], eqk := [], zero := [D.v (V.i IntKind.i64 (0)), D.v (V.i IntKind.i64 (0)), D.v (V.i IntKind.i64 (0)), D.v (V.i IntKind.i64 (0)), D.v (V.s ByteArray.empty), D.v (V.i IntKind.i64 (0)), D.own 1 []] } := by kernel_rfl
theorem ty83 : TT 83 = { tk := TK.func, size := 1, bytes := 8, agg := false, flat := [0], eqk := [], zero := [] } := by kernel_rfl
theorem ty84 : TT 84 = { tk := TK.func, size := 1, bytes := 8, agg := false, flat := [0], eqk := [], zero := [] } := by kernel_rfl
theorem ty85 : TT 85 = { tk := TK.func, size := 1, bytes := 8, agg := false, flat := [0], eqk := [], zero := [] } := by kernel_rfl
theorem ty86 : TT 86 = { tk := TK.func, size := 1, bytes := 8, agg := false, flat := [0], eqk := [], zero := [] } := by kernel_rfl
theorem ty88 : TT 88 = { tk := TK.func, size := 1, bytes := 8, agg := false, flat := [0], eqk := [], zero := [] } := by kernel_rfl
theorem ty89 : TT 89 = { tk := TK.func, size := 1, bytes := 8, agg := false, flat := [0], eqk := [], zero := [] } := by kernel_rfl
theorem ty90 : TT 90 = { tk := TK.func, size := 1, bytes := 8, agg := false, flat := [0], eqk := [], zero := [] } := by kernel_rfl
theorem ty91 : TT 91 = { tk := TK.func, size := 1, bytes := 8, agg := false, flat := [0], eqk := [], zero := [] } := by kernel_rfl
theorem ty92 : TT 92 = { tk := TK.func, size := 1, bytes := 8, agg := false, flat := [0], eqk := [], zero := [] } := by kernel_rfl
theorem ty93 : TT 93 = { tk := TK.func, size := 1, bytes := 8, agg := false, flat := [0], eqk := [], zero := [] } := by kernel_rfl
theorem ty95 : TT 95 = { tk := TK.func, size := 1, bytes := 8, agg := false, flat := [0], eqk := [], zero := [] } := by kernel_rfl
theorem ty97 : TT 97 = { tk := TK.func, size := 1, bytes := 8, agg := false, flat := [0], eqk := [], zero := [] } := by kernel_rfl
theorem ty98 : TT 98 = { tk := TK.func, size := 1, bytes := 8, agg := false, flat := [0], eqk := [], zero := [] } := by kernel_rfl
theorem ty99 : TT 99 = { tk := TK.func, size := 1, bytes := 8, agg := false, flat := [0], eqk := [], zero := [] } := by kernel_rfl
theorem ty100 : TT 100 = { tk := TK.slice 111, size := 1, bytes := 24, agg := false, flat := [2], eqk := [], zero := [D.own 2 []] } := by kernel_rfl
theorem ty101 : TT 101 = { tk := TK.slice 113, size := 1, bytes := 24, agg := false, flat := [2], eqk := [], zero := [D.own 2 []] } := by kernel_rfl
theorem ty102 : TT 102 = { tk := TK.struct [(0, 3), (1, 9), (2, 3), (3, 100), (4, 51), (5, 101)], size := 6, bytes := 104, agg := true, flat := [0, 0, 0, 2, 1, 2], eqk := [], zero := [D.v (V.i IntKind.i64 (0)), D.v (V.s ByteArray.empty), D.v (V.i IntKind.i64 (0)), D.own 2 [], D.own 1 [], D.own 2 []] } := by kernel_rfl
theorem ty103 : TT 103 = { tk := TK.struct [(0, 3), (1, 9), (2, 3), (3, 100), (4, 51), (5, 101)], size := 6, bytes := 104, agg := true, flat := [0, 0, 0, 2, 1, 2], eqk := [], zero := [D.v (V.i IntKind.i64 (0)), D.v (V.s ByteArray.empty), D.v (V.i IntKind.i64 (0)), D.own 2 [], D.own 1 [], D.own 2 []] } := by kernel_rfl
theorem ty104 : TT 104 = { tk := TK.struct [(0, 9), (1, 103), (7, 3)], size := 8, bytes := 128, agg := true, flat := [0, 0, 0, 0, 2, 1, 2, 0], eqk := [], zero := [D.v (V.s ByteArray.empty), D.v (V.i IntKind.i64 (0)), D.v (V.s ByteArray.empty), D.v (V.i IntKind.i64 (0)), D.own 2 [], D.own 1 [], D.own 2 [], D.v (V.i IntKind.i64 (0))] } := by kernel_rfl
theorem ty105 : TT 105 = { tk := TK.struct [(0, 9), (1, 103), (7, 3)], size := 8, bytes := 128, agg := true, flat := [0, 0, 0, 0, 2, 1, 2, 0], eqk := [], zero := [D.v (V.s ByteArray.empty), D.v (V.i IntKind.i64 (0)), D.v (V.s ByteArray.empty), D.v (V.i IntKind.i64 (0)), D.own 2 [], D.own 1 [], D.own 2 [], D.v (V.i IntKind.i64 (0))] } := by kernel_rfl
theorem ty106 : TT 106 = { tk := TK.func, size := 1, bytes := 8, agg := false, flat := [0], eqk := [], zero := [] } := by kernel_rfl
theorem ty107 : TT 107 = { tk := TK.func, size := 1, bytes := 8, agg := false, flat := [0], eqk := [], zero := [] } := by kernel_rfl
theorem ty108 : TT 108 = { tk := TK.func, size := 1, bytes := 8, agg := false, flat := [0], eqk := [], zero := [] } := by kernel_rfl
theorem ty109 : TT 109 = { tk := TK.func, size := 1, bytes := 8, agg := false, flat := [0], eqk := [], zero := [] } := by kernel_rfl
theorem ty110 : TT 110 = { tk := TK.struct [(0, 9), (1, 9)], size := 2, bytes := 32, agg := true, flat := [0, 0], eqk := [3, 3], zero := [D.v (V.s ByteArray.empty), D.v (V.s ByteArray.empty)] } := by kernel_rfl
theorem ty111 : TT 111 = { tk := TK.struct [(0, 9), (1, 9)], size := 2, bytes := 32, agg := true, flat := [0, 0], eqk := [3, 3], zero := [D.v (V.s ByteArray.empty), D.v (V.s ByteArray.empty)] } := by kernel_rfl
theorem ty112 : TT 112 = { tk := TK.struct [(0, 9), (1, 3)], size := 2, bytes := 24, agg := true, flat := [0, 0], eqk := [3, 2], zero := [D.v (V.s ByteArray.empty), D.v (V.i IntKind.i64 (0))] } := by kernel_rfl
theorem ty113 : TT 113 = { tk := TK.struct [(0, 9), (1, 3)], size := 2, bytes := 24, agg := true, flat := [0, 0], eqk := [3, 2], zero := [D.v (V.s ByteArray.empty), D.v (V.i IntKind.i64 (0))] } := by kernel_rfl
theorem ty114 : TT 114 = { tk := TK.func, size := 1, bytes := 8, agg := false, flat := [0], eqk := [], zero := [] } := by kernel_rfl
theorem ty115 : TT 115 = { tk := TK.struct [(0, 17), (1, 17), (2, 17), (3, 9)], size := 4, bytes := 40, agg := true, flat := [0, 0, 0, 0], eqk := [], zero := [D.nilp, D.nilp, D.nilp, D.v (V.s ByteArray.empty)] } := by kernel_rfl
theorem ty116 : TT 116 = { tk := TK.struct [(0, 17), (1, 17), (2, 17), (3, 9)], size := 4, bytes := 40, agg := true, flat := [0, 0, 0, 0], eqk := [], zero := [D.nilp, D.nilp, D.nilp, D.v (V.s ByteArray.empty)] } := by kernel_rfl
theorem ty117 : TT 117 = { tk := TK.array 0 16, size := 0, bytes := 0, agg := true, flat := [], eqk := [], zero := [] } := by kernel_rfl
theorem ty118 : TT 118 = { tk := TK.struct [(0, 117)], size := 0, bytes := 0, agg := true, flat := [], eqk := [], zero := [] } := by kernel_rfl
theorem ty119 : TT 119 = { tk := TK.struct [(0, 117)], size := 0, bytes := 0, agg := true, flat := [], eqk := [], zero := [] } := by kernel_rfl
end Go.Proofs.Ytiicnbdolakdgaa
