/- Part of the proof by the machine Mx: the types (TyTab). -/
import Derived.Test.YtgcglmoogaldbaaGreatMxOne
import Derived.Test.YtgcglmoogaldbaaGreatProg
import Derived.KernelRfl
set_option linter.unusedSimpArgs false
set_option linter.unusedVariables false
set_option linter.constructorNameAsVariable false
set_option linter.unnecessarySimpa false
noncomputable section
namespace Go.Proofs.YtgcglmoogaldbaaGreat
open Go Go.Mx Go.Proofs
def TT:Nat->Ty:=ck Tryz.prog
theorem iU:Tryz.prog.follows .mixedOrders=true:=by kernel_rfl
theorem ty3:TT 3= { tk:=TK.int IntKind.i64,size:=1,bytes:=8,agg:=false,flat:=[0],eqk:=[],zero:=[D.v (V.i IntKind.i64 (0))] } :=by kernel_rfl
theorem ty4:TT 4= { tk:=TK.bool,size:=1,bytes:=1,agg:=false,flat:=[0],eqk:=[],zero:=[D.v (V.b false)] } :=by kernel_rfl
theorem ty5:TT 5= { tk:=TK.int IntKind.u8,size:=1,bytes:=1,agg:=false,flat:=[0],eqk:=[],zero:=[D.v (V.i IntKind.u8 (0))] } :=by kernel_rfl
theorem ty9:TT 9= { tk:=TK.str,size:=1,bytes:=16,agg:=false,flat:=[0],eqk:=[],zero:=[D.v (V.s ByteArray.empty)] } :=by kernel_rfl
theorem AJ:TT 22= { tk:=TK.slice 5,size:=1,bytes:=24,agg:=false,flat:=[1],eqk:=[],zero:=[D.own 1 []] } :=by kernel_rfl
theorem M8:TT 26= { tk:=TK.slice 62,size:=1,bytes:=24,agg:=false,flat:=[20],eqk:=[],zero:=[D.own 20 []] } :=by kernel_rfl
theorem kQ:TT 27= { tk:=TK.int IntKind.i64,size:=1,bytes:=8,agg:=false,flat:=[0],eqk:=[],zero:=[D.v (V.i IntKind.i64 (0))] } :=by kernel_rfl
theorem Ad:TT 34= { tk:=TK.slice 111,size:=1,bytes:=24,agg:=false,flat:=[8],eqk:=[],zero:=[D.own 8 []] } :=by kernel_rfl
theorem ug:TT 36= { tk:=TK.struct [(0,3),(1,34)],size:=2,bytes:=32,agg:=true,flat:=[0,8],eqk:=[],zero:=[D.v (V.i IntKind.i64 (0)),D.own 8 []] } :=by kernel_rfl
theorem xm:TT 37= { tk:=TK.slice 117,size:=1,bytes:=24,agg:=false,flat:=[7],eqk:=[],zero:=[D.own 7 []] } :=by kernel_rfl
theorem sm:TT 39= { tk:=TK.struct [(0,36),(2,3),(3,37)],size:=4,bytes:=64,agg:=true,flat:=[0,8,0,7],eqk:=[],zero:=[D.v (V.i IntKind.i64 (0)),D.own 8 [],D.v (V.i IntKind.i64 (0)),D.own 7 []] } :=by kernel_rfl
theorem tZ:TT 41= { tk:=TK.struct [(0,3),(1,3),(2,39)],size:=6,bytes:=80,agg:=true,flat:=[0,0,0,8,0,7],eqk:=[],zero:=[D.v (V.i IntKind.i64 (0)),D.v (V.i IntKind.i64 (0)),D.v (V.i IntKind.i64 (0)),D.own 8 [],D.v (V.i IntKind.i64 (0)),D.own 7 []] } :=by kernel_rfl
theorem vq:TT 42= { tk:=TK.slice 60,size:=1,bytes:=24,agg:=false,flat:=[10],eqk:=[],zero:=[D.own 10 []] } :=by kernel_rfl
theorem sj:TT 44= { tk:=TK.struct [(0,3),(1,3),(2,42)],size:=3,bytes:=40,agg:=true,flat:=[0,0,10],eqk:=[],zero:=[D.v (V.i IntKind.i64 (0)),D.v (V.i IntKind.i64 (0)),D.own 10 []] } :=by kernel_rfl
theorem An:TT 46= { tk:=TK.struct [(0,3),(1,3),(2,41),(8,44)],size:=11,bytes:=136,agg:=true,flat:=[0,0,0,0,0,8,0,7,0,0,10],eqk:=[],zero:=[D.v (V.i IntKind.i64 (0)),D.v (V.i IntKind.i64 (0)),D.v (V.i IntKind.i64 (0)),D.v (V.i IntKind.i64 (0)),D.v (V.i IntKind.i64 (0)),D.own 8 [],D.v (V.i IntKind.i64 (0)),D.own 7 [],D.v (V.i IntKind.i64 (0)),D.v (V.i IntKind.i64 (0)),D.own 10 []] } :=by kernel_rfl
theorem AX:TT 56= { tk:=TK.struct [(0,3),(1,9),(2,9),(3,9),(4,3)],size:=5,bytes:=64,agg:=true,flat:=[0,0,0,0,0],eqk:=[2,3,3,3,2],zero:=[D.v (V.i IntKind.i64 (0)),D.v (V.s ByteArray.empty),D.v (V.s ByteArray.empty),D.v (V.s ByteArray.empty),D.v (V.i IntKind.i64 (0))] } :=by kernel_rfl
theorem Rv:TT 58= { tk:=TK.struct [(0,3),(1,3),(2,56)],size:=7,bytes:=80,agg:=true,flat:=[0,0,0,0,0,0,0],eqk:=[2,2,2,3,3,3,2],zero:=[D.v (V.i IntKind.i64 (0)),D.v (V.i IntKind.i64 (0)),D.v (V.i IntKind.i64 (0)),D.v (V.s ByteArray.empty),D.v (V.s ByteArray.empty),D.v (V.s ByteArray.empty),D.v (V.i IntKind.i64 (0))] } :=by kernel_rfl
theorem vR:TT 60= { tk:=TK.struct [(0,3),(1,3),(2,4),(3,58)],size:=10,bytes:=104,agg:=true,flat:=[0,0,0,0,0,0,0,0,0,0],eqk:=[2,2,1,2,2,2,3,3,3,2],zero:=[D.v (V.i IntKind.i64 (0)),D.v (V.i IntKind.i64 (0)),D.v (V.b false),D.v (V.i IntKind.i64 (0)),D.v (V.i IntKind.i64 (0)),D.v (V.i IntKind.i64 (0)),D.v (V.s ByteArray.empty),D.v (V.s ByteArray.empty),D.v (V.s ByteArray.empty),D.v (V.i IntKind.i64 (0))] } :=by kernel_rfl
theorem y9:TT 62= { tk:=TK.struct [(0,3),(1,3),(2,3),(3,3),(4,60),(14,41)],size:=20,bytes:=216,agg:=true,flat:=[0,0,0,0,0,0,0,0,0,0,0,0,0,0,0,0,0,8,0,7],eqk:=[],zero:=[D.v (V.i IntKind.i64 (0)),D.v (V.i IntKind.i64 (0)),D.v (V.i IntKind.i64 (0)),D.v (V.i IntKind.i64 (0)),D.v (V.i IntKind.i64 (0)),D.v (V.i IntKind.i64 (0)),D.v (V.b false),D.v (V.i IntKind.i64 (0)),D.v (V.i IntKind.i64 (0)),D.v (V.i IntKind.i64 (0)),D.v (V.s ByteArray.empty),D.v (V.s ByteArray.empty),D.v (V.s ByteArray.empty),D.v (V.i IntKind.i64 (0)),D.v (V.i IntKind.i64 (0)),D.v (V.i IntKind.i64 (0)),D.v (V.i IntKind.i64 (0)),D.own 8 [],D.v (V.i IntKind.i64 (0)),D.own 7 []] } :=by kernel_rfl
theorem qgS:TT 101= { tk:=TK.ptr,size:=1,bytes:=8,agg:=false,flat:=[0],eqk:=[],zero:=[D.nilp] } :=by kernel_rfl
theorem Pi:TT 103= { tk:=TK.struct [(0,22)],size:=1,bytes:=24,agg:=true,flat:=[1],eqk:=[],zero:=[D.own 1 []] } :=by kernel_rfl
theorem ti:TT 105= { tk:=TK.slice 146,size:=1,bytes:=24,agg:=false,flat:=[2],eqk:=[],zero:=[D.own 2 []] } :=by kernel_rfl
theorem mJ:TT 106= { tk:=TK.slice 9,size:=1,bytes:=24,agg:=false,flat:=[1],eqk:=[],zero:=[D.own 1 []] } :=by kernel_rfl
theorem oN:TT 107= { tk:=TK.slice 148,size:=1,bytes:=24,agg:=false,flat:=[2],eqk:=[],zero:=[D.own 2 []] } :=by kernel_rfl
theorem kU:TT 109= { tk:=TK.struct [(0,3),(1,9),(2,3),(3,105),(4,106),(5,107)],size:=6,bytes:=104,agg:=true,flat:=[0,0,0,2,1,2],eqk:=[],zero:=[D.v (V.i IntKind.i64 (0)),D.v (V.s ByteArray.empty),D.v (V.i IntKind.i64 (0)),D.own 2 [],D.own 1 [],D.own 2 []] } :=by kernel_rfl
theorem zO:TT 111= { tk:=TK.struct [(0,9),(1,109),(7,3)],size:=8,bytes:=128,agg:=true,flat:=[0,0,0,0,2,1,2,0],eqk:=[],zero:=[D.v (V.s ByteArray.empty),D.v (V.i IntKind.i64 (0)),D.v (V.s ByteArray.empty),D.v (V.i IntKind.i64 (0)),D.own 2 [],D.own 1 [],D.own 2 [],D.v (V.i IntKind.i64 (0))] } :=by kernel_rfl
theorem wQ:TT 115= { tk:=TK.struct [(0,27),(1,9),(2,3),(3,106)],size:=4,bytes:=56,agg:=true,flat:=[0,0,0,1],eqk:=[],zero:=[D.v (V.i IntKind.i64 (0)),D.v (V.s ByteArray.empty),D.v (V.i IntKind.i64 (0)),D.own 1 []] } :=by kernel_rfl
theorem zm:TT 117= { tk:=TK.struct [(0,3),(1,3),(2,3),(3,115)],size:=7,bytes:=80,agg:=true,flat:=[0,0,0,0,0,0,1],eqk:=[],zero:=[D.v (V.i IntKind.i64 (0)),D.v (V.i IntKind.i64 (0)),D.v (V.i IntKind.i64 (0)),D.v (V.i IntKind.i64 (0)),D.v (V.s ByteArray.empty),D.v (V.i IntKind.i64 (0)),D.own 1 []] } :=by kernel_rfl
theorem CV:TT 119= { tk:=TK.ptr,size:=1,bytes:=8,agg:=false,flat:=[0],eqk:=[],zero:=[D.nilp] } :=by kernel_rfl
theorem C8:TT 121= { tk:=TK.struct [(0,22),(1,4)],size:=2,bytes:=32,agg:=true,flat:=[1,0],eqk:=[],zero:=[D.own 1 [],D.v (V.b false)] } :=by kernel_rfl
theorem Ps:TT 144= { tk:=TK.int IntKind.u64,size:=1,bytes:=8,agg:=false,flat:=[0],eqk:=[],zero:=[D.v (V.i IntKind.u64 (0))] } :=by kernel_rfl
theorem AE:TT 146= { tk:=TK.struct [(0,9),(1,9)],size:=2,bytes:=32,agg:=true,flat:=[0,0],eqk:=[3,3],zero:=[D.v (V.s ByteArray.empty),D.v (V.s ByteArray.empty)] } :=by kernel_rfl
theorem ua:TT 148= { tk:=TK.struct [(0,9),(1,3)],size:=2,bytes:=24,agg:=true,flat:=[0,0],eqk:=[3,2],zero:=[D.v (V.s ByteArray.empty),D.v (V.i IntKind.i64 (0))] } :=by kernel_rfl
theorem TB:TT 179= { tk:=TK.slice 3,size:=1,bytes:=24,agg:=false,flat:=[1],eqk:=[],zero:=[D.own 1 []] } :=by kernel_rfl
end Go.Proofs.YtgcglmoogaldbaaGreat
