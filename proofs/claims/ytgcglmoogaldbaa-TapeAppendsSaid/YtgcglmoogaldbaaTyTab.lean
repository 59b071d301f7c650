/- Part of the proof by the machine Mx: the types (TyTab). -/
import Derived.Test.YtgcglmoogaldbaaMxOne
import Derived.Test.YtgcglmoogaldbaaProg
import Derived.KernelRfl
set_option linter.unusedSimpArgs false
set_option linter.unusedVariables false
set_option linter.constructorNameAsVariable false
set_option linter.unnecessarySimpa false
noncomputable section
namespace Go.Proofs.Ytgcglmoogaldbaa
open Go Go.Mx Go.Proofs
def TT:Nat->Ty:=ck Try.prog
theorem iR:Try.prog.follows .mixedOrders=true:=by kernel_rfl
theorem ty3:TT 3= { tk:=TK.int IntKind.i64,size:=1,bytes:=8,agg:=false,flat:=[0],eqk:=[],zero:=[D.v (V.i IntKind.i64 (0))] } :=by kernel_rfl
theorem ty4:TT 4= { tk:=TK.bool,size:=1,bytes:=1,agg:=false,flat:=[0],eqk:=[],zero:=[D.v (V.b false)] } :=by kernel_rfl
theorem ty5:TT 5= { tk:=TK.int IntKind.u8,size:=1,bytes:=1,agg:=false,flat:=[0],eqk:=[],zero:=[D.v (V.i IntKind.u8 (0))] } :=by kernel_rfl
theorem ty9:TT 9= { tk:=TK.str,size:=1,bytes:=16,agg:=false,flat:=[0],eqk:=[],zero:=[D.v (V.s ByteArray.empty)] } :=by kernel_rfl
theorem pg:TT 22= { tk:=TK.slice 5,size:=1,bytes:=24,agg:=false,flat:=[1],eqk:=[],zero:=[D.own 1 []] } :=by kernel_rfl
theorem xq:TT 23= { tk:=TK.slice 77,size:=1,bytes:=24,agg:=false,flat:=[8],eqk:=[],zero:=[D.own 8 []] } :=by kernel_rfl
theorem uQ:TT 25= { tk:=TK.struct [(0,3),(1,23)],size:=2,bytes:=32,agg:=true,flat:=[0,8],eqk:=[],zero:=[D.v (V.i IntKind.i64 (0)),D.own 8 []] } :=by kernel_rfl
theorem xt:TT 26= { tk:=TK.slice 81,size:=1,bytes:=24,agg:=false,flat:=[7],eqk:=[],zero:=[D.own 7 []] } :=by kernel_rfl
theorem un:TT 28= { tk:=TK.struct [(0,25),(2,3),(3,26)],size:=4,bytes:=64,agg:=true,flat:=[0,8,0,7],eqk:=[],zero:=[D.v (V.i IntKind.i64 (0)),D.own 8 [],D.v (V.i IntKind.i64 (0)),D.own 7 []] } :=by kernel_rfl
theorem mR:TT 29= { tk:=TK.int IntKind.i64,size:=1,bytes:=8,agg:=false,flat:=[0],eqk:=[],zero:=[D.v (V.i IntKind.i64 (0))] } :=by kernel_rfl
theorem v9:TT 36= { tk:=TK.struct [(0,3),(1,9),(2,9),(3,9),(4,3)],size:=5,bytes:=64,agg:=true,flat:=[0,0,0,0,0],eqk:=[2,3,3,3,2],zero:=[D.v (V.i IntKind.i64 (0)),D.v (V.s ByteArray.empty),D.v (V.s ByteArray.empty),D.v (V.s ByteArray.empty),D.v (V.i IntKind.i64 (0))] } :=by kernel_rfl
theorem B4:TT 38= { tk:=TK.struct [(0,3),(1,3),(2,36)],size:=7,bytes:=80,agg:=true,flat:=[0,0,0,0,0,0,0],eqk:=[2,2,2,3,3,3,2],zero:=[D.v (V.i IntKind.i64 (0)),D.v (V.i IntKind.i64 (0)),D.v (V.i IntKind.i64 (0)),D.v (V.s ByteArray.empty),D.v (V.s ByteArray.empty),D.v (V.s ByteArray.empty),D.v (V.i IntKind.i64 (0))] } :=by kernel_rfl
theorem z1:TT 40= { tk:=TK.struct [(0,3),(1,3),(2,4),(3,38)],size:=10,bytes:=104,agg:=true,flat:=[0,0,0,0,0,0,0,0,0,0],eqk:=[2,2,1,2,2,2,3,3,3,2],zero:=[D.v (V.i IntKind.i64 (0)),D.v (V.i IntKind.i64 (0)),D.v (V.b false),D.v (V.i IntKind.i64 (0)),D.v (V.i IntKind.i64 (0)),D.v (V.i IntKind.i64 (0)),D.v (V.s ByteArray.empty),D.v (V.s ByteArray.empty),D.v (V.s ByteArray.empty),D.v (V.i IntKind.i64 (0))] } :=by kernel_rfl
theorem yk:TT 42= { tk:=TK.struct [(0,3),(1,3),(2,28)],size:=6,bytes:=80,agg:=true,flat:=[0,0,0,8,0,7],eqk:=[],zero:=[D.v (V.i IntKind.i64 (0)),D.v (V.i IntKind.i64 (0)),D.v (V.i IntKind.i64 (0)),D.own 8 [],D.v (V.i IntKind.i64 (0)),D.own 7 []] } :=by kernel_rfl
theorem A6:TT 44= { tk:=TK.struct [(0,3),(1,3),(2,3),(3,3),(4,40),(14,42)],size:=20,bytes:=216,agg:=true,flat:=[0,0,0,0,0,0,0,0,0,0,0,0,0,0,0,0,0,8,0,7],eqk:=[],zero:=[D.v (V.i IntKind.i64 (0)),D.v (V.i IntKind.i64 (0)),D.v (V.i IntKind.i64 (0)),D.v (V.i IntKind.i64 (0)),D.v (V.i IntKind.i64 (0)),D.v (V.i IntKind.i64 (0)),D.v (V.b false),D.v (V.i IntKind.i64 (0)),D.v (V.i IntKind.i64 (0)),D.v (V.i IntKind.i64 (0)),D.v (V.s ByteArray.empty),D.v (V.s ByteArray.empty),D.v (V.s ByteArray.empty),D.v (V.i IntKind.i64 (0)),D.v (V.i IntKind.i64 (0)),D.v (V.i IntKind.i64 (0)),D.v (V.i IntKind.i64 (0)),D.own 8 [],D.v (V.i IntKind.i64 (0)),D.own 7 []] } :=by kernel_rfl
theorem E4:TT 58= { tk:=TK.struct [(0,22),(1,3)],size:=2,bytes:=32,agg:=true,flat:=[1,0],eqk:=[],zero:=[D.own 1 [],D.v (V.i IntKind.i64 (0))] } :=by kernel_rfl
theorem wb:TT 70= { tk:=TK.slice 110,size:=1,bytes:=24,agg:=false,flat:=[2],eqk:=[],zero:=[D.own 2 []] } :=by kernel_rfl
theorem rG:TT 71= { tk:=TK.slice 9,size:=1,bytes:=24,agg:=false,flat:=[1],eqk:=[],zero:=[D.own 1 []] } :=by kernel_rfl
theorem sY:TT 72= { tk:=TK.slice 112,size:=1,bytes:=24,agg:=false,flat:=[2],eqk:=[],zero:=[D.own 2 []] } :=by kernel_rfl
theorem pK:TT 74= { tk:=TK.struct [(0,3),(1,9),(2,3),(3,70),(4,71),(5,72)],size:=6,bytes:=104,agg:=true,flat:=[0,0,0,2,1,2],eqk:=[],zero:=[D.v (V.i IntKind.i64 (0)),D.v (V.s ByteArray.empty),D.v (V.i IntKind.i64 (0)),D.own 2 [],D.own 1 [],D.own 2 []] } :=by kernel_rfl
theorem FJ:TT 77= { tk:=TK.struct [(0,9),(1,74),(7,3)],size:=8,bytes:=128,agg:=true,flat:=[0,0,0,0,2,1,2,0],eqk:=[],zero:=[D.v (V.s ByteArray.empty),D.v (V.i IntKind.i64 (0)),D.v (V.s ByteArray.empty),D.v (V.i IntKind.i64 (0)),D.own 2 [],D.own 1 [],D.own 2 [],D.v (V.i IntKind.i64 (0))] } :=by kernel_rfl
theorem Cb:TT 79= { tk:=TK.struct [(0,29),(1,9),(2,3),(3,71)],size:=4,bytes:=56,agg:=true,flat:=[0,0,0,1],eqk:=[],zero:=[D.v (V.i IntKind.i64 (0)),D.v (V.s ByteArray.empty),D.v (V.i IntKind.i64 (0)),D.own 1 []] } :=by kernel_rfl
theorem GB:TT 81= { tk:=TK.struct [(0,3),(1,3),(2,3),(3,79)],size:=7,bytes:=80,agg:=true,flat:=[0,0,0,0,0,0,1],eqk:=[],zero:=[D.v (V.i IntKind.i64 (0)),D.v (V.i IntKind.i64 (0)),D.v (V.i IntKind.i64 (0)),D.v (V.i IntKind.i64 (0)),D.v (V.s ByteArray.empty),D.v (V.i IntKind.i64 (0)),D.own 1 []] } :=by kernel_rfl
theorem Q0:TT 107= { tk:=TK.int IntKind.u64,size:=1,bytes:=8,agg:=false,flat:=[0],eqk:=[],zero:=[D.v (V.i IntKind.u64 (0))] } :=by kernel_rfl
theorem xP:TT 110= { tk:=TK.struct [(0,9),(1,9)],size:=2,bytes:=32,agg:=true,flat:=[0,0],eqk:=[3,3],zero:=[D.v (V.s ByteArray.empty),D.v (V.s ByteArray.empty)] } :=by kernel_rfl
theorem sQ:TT 112= { tk:=TK.struct [(0,9),(1,3)],size:=2,bytes:=24,agg:=true,flat:=[0,0],eqk:=[3,2],zero:=[D.v (V.s ByteArray.empty),D.v (V.i IntKind.i64 (0))] } :=by kernel_rfl
theorem Gw:TT 127= { tk:=TK.slice 22,size:=1,bytes:=24,agg:=false,flat:=[1],eqk:=[],zero:=[D.own 1 []] } :=by kernel_rfl
theorem Ri:TT 138= { tk:=TK.ptr,size:=1,bytes:=8,agg:=false,flat:=[0],eqk:=[],zero:=[D.nilp] } :=by kernel_rfl
theorem HB:TT 140= { tk:=TK.struct [(0,22)],size:=1,bytes:=24,agg:=true,flat:=[1],eqk:=[],zero:=[D.own 1 []] } :=by kernel_rfl
theorem NA:TT 169= { tk:=TK.slice 3,size:=1,bytes:=24,agg:=false,flat:=[1],eqk:=[],zero:=[D.own 1 []] } :=by kernel_rfl
end Go.Proofs.Ytgcglmoogaldbaa
