/- Part of the proof by the machine Mx: the types (TyTab). -/
import Derived.Test.YtgcglmoogaldbaaGreatMxOne
import Derived.Test.YtgcglmoogaldbaaGreatProg
import Derived.KernelRfl
set_option linter.unusedSimpArgs false
set_option linter.unusedVariables false
set_option linter.constructorNameAsVariable false
set_option linter.unnecessarySimpa false
namespace Go.Proofs.YtgcglmoogaldbaaGreat
open Go Go.Mx Go.Proofs
noncomputable def TT:Nat->Ty:=ck Tryz.prog
theorem i7:Tryz.prog.follows .mixedOrders=true:=by kernel_rfl
theorem ty3:TT 3= { tk:=TK.int IntKind.i64,size:=1,bytes:=8,agg:=false,flat:=[0],eqk:=[],zero:=[D.v (V.i IntKind.i64 (0))] } :=by kernel_rfl
theorem ty4:TT 4= { tk:=TK.bool,size:=1,bytes:=1,agg:=false,flat:=[0],eqk:=[],zero:=[D.v (V.b false)] } :=by kernel_rfl
theorem ty5:TT 5= { tk:=TK.int IntKind.u8,size:=1,bytes:=1,agg:=false,flat:=[0],eqk:=[],zero:=[D.v (V.i IntKind.u8 (0))] } :=by kernel_rfl
theorem ty9:TT 9= { tk:=TK.str,size:=1,bytes:=16,agg:=false,flat:=[0],eqk:=[],zero:=[D.v (V.s ByteArray.empty)] } :=by kernel_rfl
theorem qM:TT 22= { tk:=TK.slice 5,size:=1,bytes:=24,agg:=false,flat:=[1],eqk:=[],zero:=[D.own 1 []] } :=by kernel_rfl
theorem Dh:TT 24= { tk:=TK.struct [(0,22),(1,3)],size:=2,bytes:=32,agg:=true,flat:=[1,0],eqk:=[],zero:=[D.own 1 [],D.v (V.i IntKind.i64 (0))] } :=by kernel_rfl
theorem LF:TT 26= { tk:=TK.slice 62,size:=1,bytes:=24,agg:=false,flat:=[20],eqk:=[],zero:=[D.own 20 []] } :=by kernel_rfl
theorem mD:TT 27= { tk:=TK.int IntKind.i64,size:=1,bytes:=8,agg:=false,flat:=[0],eqk:=[],zero:=[D.v (V.i IntKind.i64 (0))] } :=by kernel_rfl
theorem Bp:TT 34= { tk:=TK.slice 111,size:=1,bytes:=24,agg:=false,flat:=[8],eqk:=[],zero:=[D.own 8 []] } :=by kernel_rfl
theorem wv:TT 36= { tk:=TK.struct [(0,3),(1,34)],size:=2,bytes:=32,agg:=true,flat:=[0,8],eqk:=[],zero:=[D.v (V.i IntKind.i64 (0)),D.own 8 []] } :=by kernel_rfl
theorem Ab:TT 37= { tk:=TK.slice 117,size:=1,bytes:=24,agg:=false,flat:=[7],eqk:=[],zero:=[D.own 7 []] } :=by kernel_rfl
theorem u4:TT 39= { tk:=TK.struct [(0,36),(2,3),(3,37)],size:=4,bytes:=64,agg:=true,flat:=[0,8,0,7],eqk:=[],zero:=[D.v (V.i IntKind.i64 (0)),D.own 8 [],D.v (V.i IntKind.i64 (0)),D.own 7 []] } :=by kernel_rfl
theorem Ah:TT 41= { tk:=TK.struct [(0,3),(1,3),(2,39)],size:=6,bytes:=80,agg:=true,flat:=[0,0,0,8,0,7],eqk:=[],zero:=[D.v (V.i IntKind.i64 (0)),D.v (V.i IntKind.i64 (0)),D.v (V.i IntKind.i64 (0)),D.own 8 [],D.v (V.i IntKind.i64 (0)),D.own 7 []] } :=by kernel_rfl
theorem yd:TT 56= { tk:=TK.struct [(0,3),(1,9),(2,9),(3,9),(4,3)],size:=5,bytes:=64,agg:=true,flat:=[0,0,0,0,0],eqk:=[2,3,3,3,2],zero:=[D.v (V.i IntKind.i64 (0)),D.v (V.s ByteArray.empty),D.v (V.s ByteArray.empty),D.v (V.s ByteArray.empty),D.v (V.i IntKind.i64 (0))] } :=by kernel_rfl
theorem CI:TT 58= { tk:=TK.struct [(0,3),(1,3),(2,56)],size:=7,bytes:=80,agg:=true,flat:=[0,0,0,0,0,0,0],eqk:=[2,2,2,3,3,3,2],zero:=[D.v (V.i IntKind.i64 (0)),D.v (V.i IntKind.i64 (0)),D.v (V.i IntKind.i64 (0)),D.v (V.s ByteArray.empty),D.v (V.s ByteArray.empty),D.v (V.s ByteArray.empty),D.v (V.i IntKind.i64 (0))] } :=by kernel_rfl
theorem zN:TT 60= { tk:=TK.struct [(0,3),(1,3),(2,4),(3,58)],size:=10,bytes:=104,agg:=true,flat:=[0,0,0,0,0,0,0,0,0,0],eqk:=[2,2,1,2,2,2,3,3,3,2],zero:=[D.v (V.i IntKind.i64 (0)),D.v (V.i IntKind.i64 (0)),D.v (V.b false),D.v (V.i IntKind.i64 (0)),D.v (V.i IntKind.i64 (0)),D.v (V.i IntKind.i64 (0)),D.v (V.s ByteArray.empty),D.v (V.s ByteArray.empty),D.v (V.s ByteArray.empty),D.v (V.i IntKind.i64 (0))] } :=by kernel_rfl
theorem CU:TT 62= { tk:=TK.struct [(0,3),(1,3),(2,3),(3,3),(4,60),(14,41)],size:=20,bytes:=216,agg:=true,flat:=[0,0,0,0,0,0,0,0,0,0,0,0,0,0,0,0,0,8,0,7],eqk:=[],zero:=[D.v (V.i IntKind.i64 (0)),D.v (V.i IntKind.i64 (0)),D.v (V.i IntKind.i64 (0)),D.v (V.i IntKind.i64 (0)),D.v (V.i IntKind.i64 (0)),D.v (V.i IntKind.i64 (0)),D.v (V.b false),D.v (V.i IntKind.i64 (0)),D.v (V.i IntKind.i64 (0)),D.v (V.i IntKind.i64 (0)),D.v (V.s ByteArray.empty),D.v (V.s ByteArray.empty),D.v (V.s ByteArray.empty),D.v (V.i IntKind.i64 (0)),D.v (V.i IntKind.i64 (0)),D.v (V.i IntKind.i64 (0)),D.v (V.i IntKind.i64 (0)),D.own 8 [],D.v (V.i IntKind.i64 (0)),D.own 7 []] } :=by kernel_rfl
theorem ue:TT 105= { tk:=TK.slice 146,size:=1,bytes:=24,agg:=false,flat:=[2],eqk:=[],zero:=[D.own 2 []] } :=by kernel_rfl
theorem ph:TT 106= { tk:=TK.slice 9,size:=1,bytes:=24,agg:=false,flat:=[1],eqk:=[],zero:=[D.own 1 []] } :=by kernel_rfl
theorem qu:TT 107= { tk:=TK.slice 148,size:=1,bytes:=24,agg:=false,flat:=[2],eqk:=[],zero:=[D.own 2 []] } :=by kernel_rfl
theorem mh:TT 109= { tk:=TK.struct [(0,3),(1,9),(2,3),(3,105),(4,106),(5,107)],size:=6,bytes:=104,agg:=true,flat:=[0,0,0,2,1,2],eqk:=[],zero:=[D.v (V.i IntKind.i64 (0)),D.v (V.s ByteArray.empty),D.v (V.i IntKind.i64 (0)),D.own 2 [],D.own 1 [],D.own 2 []] } :=by kernel_rfl
theorem zS:TT 111= { tk:=TK.struct [(0,9),(1,109),(7,3)],size:=8,bytes:=128,agg:=true,flat:=[0,0,0,0,2,1,2,0],eqk:=[],zero:=[D.v (V.s ByteArray.empty),D.v (V.i IntKind.i64 (0)),D.v (V.s ByteArray.empty),D.v (V.i IntKind.i64 (0)),D.own 2 [],D.own 1 [],D.own 2 [],D.v (V.i IntKind.i64 (0))] } :=by kernel_rfl
theorem zR:TT 115= { tk:=TK.struct [(0,27),(1,9),(2,3),(3,106)],size:=4,bytes:=56,agg:=true,flat:=[0,0,0,1],eqk:=[],zero:=[D.v (V.i IntKind.i64 (0)),D.v (V.s ByteArray.empty),D.v (V.i IntKind.i64 (0)),D.own 1 []] } :=by kernel_rfl
theorem A5:TT 117= { tk:=TK.struct [(0,3),(1,3),(2,3),(3,115)],size:=7,bytes:=80,agg:=true,flat:=[0,0,0,0,0,0,1],eqk:=[],zero:=[D.v (V.i IntKind.i64 (0)),D.v (V.i IntKind.i64 (0)),D.v (V.i IntKind.i64 (0)),D.v (V.i IntKind.i64 (0)),D.v (V.s ByteArray.empty),D.v (V.i IntKind.i64 (0)),D.own 1 []] } :=by kernel_rfl
theorem Ap:TT 119= { tk:=TK.ptr,size:=1,bytes:=8,agg:=false,flat:=[0],eqk:=[],zero:=[D.nilp] } :=by kernel_rfl
theorem AU:TT 121= { tk:=TK.struct [(0,22),(1,4)],size:=2,bytes:=32,agg:=true,flat:=[1,0],eqk:=[],zero:=[D.own 1 [],D.v (V.b false)] } :=by kernel_rfl
theorem Vx:TT 135= { tk:=TK.ptr,size:=1,bytes:=8,agg:=false,flat:=[0],eqk:=[],zero:=[D.nilp] } :=by kernel_rfl
theorem Kn:TT 137= { tk:=TK.struct [(0,22),(1,3)],size:=2,bytes:=32,agg:=true,flat:=[1,0],eqk:=[],zero:=[D.own 1 [],D.v (V.i IntKind.i64 (0))] } :=by kernel_rfl
theorem Vf:TT 144= { tk:=TK.int IntKind.u64,size:=1,bytes:=8,agg:=false,flat:=[0],eqk:=[],zero:=[D.v (V.i IntKind.u64 (0))] } :=by kernel_rfl
theorem AH:TT 146= { tk:=TK.struct [(0,9),(1,9)],size:=2,bytes:=32,agg:=true,flat:=[0,0],eqk:=[3,3],zero:=[D.v (V.s ByteArray.empty),D.v (V.s ByteArray.empty)] } :=by kernel_rfl
theorem u7:TT 148= { tk:=TK.struct [(0,9),(1,3)],size:=2,bytes:=24,agg:=true,flat:=[0,0],eqk:=[3,2],zero:=[D.v (V.s ByteArray.empty),D.v (V.i IntKind.i64 (0))] } :=by kernel_rfl
theorem RZ:TT 179= { tk:=TK.slice 3,size:=1,bytes:=24,agg:=false,flat:=[1],eqk:=[],zero:=[D.own 1 []] } :=by kernel_rfl
end Go.Proofs.YtgcglmoogaldbaaGreat
