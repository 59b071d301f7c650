/- The machine Mx: Go code run on plain data in place of memory, and that it tells the truth of the model (part MxOne). -/
import Derived.Calls
import Derived.Deep.MidRow
import Derived.Deep.AppendSrc
import Derived.Laws.StructEq
import Derived.Laws.BytesArg
set_option linter.unusedSimpArgs false
set_option linter.unusedVariables false
set_option linter.constructorNameAsVariable false
set_option linter.unnecessarySimpa false
noncomputable section
namespace Go.Mx
inductive V where
 |b (x:Bool)
 |i (k:IntKind) (n:Int)
 |s (x:ByteArray)
 |sl (sz:Nat) (l:List (List V))
 deriving Inhabited
inductive Loc where
 |reg (t j:Nat)
 |cell (o off:Nat)
 |hand (k j:Nat)
 |nowhere
 deriving DecidableEq,Inhabited
inductive D where
 |v (x:V)
 |undef
 |bad
 |mb (g:Bool) (d:D)
 |own (sz:Nat) (l:List (List V))
 |al (full:Bool) (sz:Nat) (l:List (List V)) (src:Loc)
 |cut (sz:Nat) (l:List (List V))
 |rp (cells:List V)
 |ptr (o off:Nat)
 |ep (src:Loc) (sz i off:Nat)
 |agg (cs:List D)
 |tup (cs:List D)
 |clo (f:Nat) (caps:List D)
 |nilp
 deriving Inhabited
abbrev Env:=List (Nat×D)
abbrev bH:=List (List D)
structure St where
 env:Env
 S:bH
def bI:Env->Nat->D
 | [],_=>.bad
 |(u,d)::r,t=>bif u==t then d else bI r t
def put (env:Env) (t:Nat) (d:D):Env:=(t,d)::env
inductive TK where
 |bool|int (k:IntKind)|str|slice (e:Nat)|array (n e:Nat)|struct (fs:List (Nat×Nat))|ptr|func|other
 deriving Inhabited
structure Ty where
 tk:TK
 size:Nat
 bytes:Nat
 agg:Bool
 flat:List Nat
 eqk:List Nat
 zero:List D
 deriving Inhabited
def ofCell:Value->D
 | .bool b=>.v (.b b)
 | .int k n=>.v (.i k n)
 | .string s=>.v (.s s)
 | .slice none 0 0=>.own 0 []
 | .pointer none=>.nilp
 |_=>.bad
def ofConst:Value->D
 | .agg cs=>.agg (cs.toList.map ofCell)
 |v=>ofCell v
def opnd (env:Env):Operand->D
 | .tmp t=>bI env t
 | .const v=>ofConst v
 | .global _=>.bad
 | .func f=>.clo f []
def bJ:D->Bool
 | .v _| .undef| .bad| .cut .. | .rp _| .ptr .. | .nilp=>true
 |_=>false
def aM:D->Bool
 | .own .. =>true
 | .clo _ cs=>cs.all bJ
 |d=>bJ d
def bD:D->Bool
 | .agg cs=>cs.all aM
 |d=>aM d
def ay:D->Bool
 | .own .. | .agg _| .mb .. =>false
 |_=>true
def aA:D->Bool
 | .agg cs=>cs.all ay
 | .own .. | .mb .. =>false
 |_=>true
def aN:D->Bool
 | .mb .. =>false
 |d=>!aA d
def bQ:D->Option D
 | .mb .. | .undef| .bad=>none
 |d=>some d
def bl (g:Bool):D->Option D
 | .mb h d=>bif (!g||h) then (bif aA d then bQ d else none) else none
 |d=>bQ d
def cx (k:IntKind) (a b:Int):BinOp->Option V
 | .add=>some (.i k (k.wrap (a+b)))
 | .sub=>some (.i k (k.wrap (a-b)))
 | .mul=>some (.i k (k.wrap (a*b)))
 | .eql=>some (.b (a==b))
 | .neq=>some (.b (a != b))
 | .lss=>some (.b (decide (a<b)))
 | .leq=>some (.b (decide (a<=b)))
 | .gtr=>some (.b (decide (a>b)))
 | .geq=>some (.b (decide (a≥b)))
 | .quo=>bif (b==0) then none else some (.i k (k.wrap (a.tdiv b)))
 | .rem=>bif (b==0) then none else some (.i k (a.tmod b))
 | .and=>some (.i k (k.wrap (BitVec.ofInt k.bits a&&& BitVec.ofInt k.bits b).toNat))
 | .or=>some (.i k (k.wrap (BitVec.ofInt k.bits a|||BitVec.ofInt k.bits b).toNat))
 |_=>none
def cy (k k':IntKind) (a b:Int):BinOp->Option V
 | .shl=>bif decide (0<=b) then some (.i k (k.wrap (a*2 ^ (min b.toNat k.bits)))) else none
 | .shr=>bif decide (0<=b) then some (.i k (a.fdiv (2 ^ (min b.toNat k.bits)))) else none
 |op=>if k=k' then cx k a b op else none
def cB (op:BinOp):V->V->Option V
 | .i k a,.i k' b=>cy k k' a b op
 | .s x,.s y=>match op with
  | .eql=>some (.b (x.toList==y.toList))
  | .neq=>some (.b (!(x.toList==y.toList)))
  | .lss=>some (.b (Op.bytesLess x.toList y.toList))
  | .leq=>some (.b (Op.bytesLess x.toList y.toList||x.toList==y.toList))
  | .gtr=>some (.b (!(Op.bytesLess x.toList y.toList||x.toList==y.toList)))
  | .geq=>some (.b (!(Op.bytesLess x.toList y.toList)))
  |_=>none
 |_,_=>none
end Go.Mx
namespace Go.Mx
def bG:D->Bool
 | .own .. =>true
 |_=>false
def co (k:Nat):D->Option D
 | .own sz l=>bif k==0 then none else bif (sz==k||(sz==0&&l.isEmpty)) then some (.own k l) else none
 | .cut sz l=>bif k==0 then none else bif (sz==k||l.isEmpty) then some (.v (.sl k l)) else none
 | .v (.sl sz l)=>bif k==0 then none else bif (sz==k||l.isEmpty) then some (.v (.sl k l)) else none
 | .v x=>bif k==0 then some (.v x) else none
 | .ptr o f=>some (.ptr o f)
 | .rp c=>some (.rp c)
 | .clo f c=>bif c.all bJ then some (.clo f c) else none
 | .nilp=>some .nilp
 |_=>none
def bP:List Nat->List D->Option (List D)
 | [],[]=>some []
 |k::ks,d::ds=>match co k d with
  |some d'=>match bP ks ds with
   |some r=>some (d'::r)
   |none=>none
  |none=>none
 |_,_=>none
def fit (ty:Ty):D->Option D
 | .agg cs=>bif ty.agg then (match bP ty.flat cs with|some r=>some (.agg r)|none=>none) else none
 |d=>match ty.flat with
  | [k]=>bif ty.agg then none else co k d
  |_=>none
def cellsOf:D->List D
 | .agg cs=>cs
 |d=>[d]
def eqC:Nat->V->V->Option Bool
 |1,.b x,.b y=>some (x==y)
 |2,.i k x,.i k' y=>if k=k' then some (x==y) else none
 |3,.s x,.s y=>some (x.toList==y.toList)
 |_,_,_=>none
def toV:D->Option V
 | .v x=>some x
 | .own sz l=>some (.sl sz l)
 | .cut sz l=>some (.sl sz l)
 |_=>none
def toVs:List D->Option (List V)
 | []=>some []
 |d::r=>match toV d with
  |some x=>match toVs r with
   |some s=>some (x::s)
   |none=>none
  |none=>none
mutual
def iy (p:Loc->Bool):D->D
 | .al full sz l src=>bif p src then .bad else .al full sz l src
 | .ep src sz i off=>bif p src then .bad else .ep src sz i off
 | .mb g d=>.mb g (iy p d)
 | .agg cs=>.agg (kt p cs)
 | .tup cs=>.tup (kt p cs)
 | .clo f cs=>.clo f (kt p cs)
 | .v x=>.v x
 | .undef=>.undef
 | .bad=>.bad
 | .own sz l=>.own sz l
 | .cut sz l=>.cut sz l
 | .rp c=>.rp c
 | .ptr o f=>.ptr o f
 | .nilp=>.nilp
def kt (p:Loc->Bool):List D->List D
 | []=>[]
 |d::r=>iy p d::kt p r
end
def kill (p:Loc->Bool) (env:Env):Env:=env.map fun e=>(e.1,iy p e.2)
def bO (t:Nat):Loc->Bool
 | .reg u _=>u==t
 |_=>false
def bU (o:Nat):Loc->Bool
 | .cell q _=>q==o
 |_=>false
def vS (acc:List Nat):D->List Nat
 | .ptr o _=>bif acc.contains o then acc else acc++ [o]
 |_=>acc
def wB (acc:List Nat):D->List Nat
 | .clo _ cs=>cs.foldl vS acc
 |d=>vS acc d
def go (args:List D):List Nat:=args.foldl wB []
def nH (S:bH) (os:List Nat):List Nat:=
 let ins:=os.foldl (fun acc o=>(S.getD o []).foldl vS acc) []
 ins++os.filter (fun o=>!ins.contains o)
def qp (S:bH) (args:List D):List Nat:=nH S (go args)
def inL (ft:List Nat):Loc->Bool
 | .cell o _=>ft.contains o
 |_=>false
def jF (S:bH) (args:List D) (l:Loc):Bool:=inL (qp S args) l
def setReg (env:Env) (t:Nat) (d:D):Env:=put (bif aN (bI env t) then kill (bO t) env else env) t d
def spend (env:Env):Operand->Env
 | .tmp u=>bif aN (bI env u) then put (kill (bO u) env) u .bad else env
 |_=>env
def setCells:List D->Nat->List D->List D
 |cs,_,[]=>cs
 |cs,off,d::r=>setCells (cs.set off d) (off+1) r
def bX:List V->Nat->List V->List V
 |cs,_,[]=>cs
 |cs,off,d::r=>bX (cs.set off d) (off+1) r
def dh (n b:Nat):Bool:=@decide ((n:Int)*b<=140737488355328) (Classical.propDecidable _)
theorem fJ {n b:Nat} :dh n b=true↔((n:Int)*b<=140737488355328):=by
 unfold dh
 exact @decide_eq_true_iff _ (Classical.propDecidable _)
abbrev IA (lo hi n:Int):Bool:=decide (0<=lo/\lo<=hi/\hi<=n)
abbrev ltB (i n:Int):Bool:=decide (0<=i/\i<n)
abbrev Ow (k:Int) (b:Nat):Bool:=decide (0<=k/\k*b<=140737488355328/\k<=140737488355328)
noncomputable section
variable (T:Nat->Ty)
def aO:D->Option (Nat×List (List V))
 | .v (.sl sz l)| .own sz l| .al _ sz l _| .cut sz l=>some (sz,l)
 |_=>none
def cu:D->Option Int
 | .v (.s x)=>some (x.size:Int)
 | .v (.sl _ l)| .own _ l| .al _ _ l _| .cut _ l=>some (l.length:Int)
 |_=>none
def aG:List Nat->List D->List D->Option Bool
 | [],[],[]=>some true
 |k::ks,.v x::r,.v y::s=>match eqC k x y with
  |some p=>match aG ks r s with
   |some q=>some (p&&q)
   |none=>none
  |_=>none
 |_,_,_=>none
def cz (ty:Ty) (op:BinOp):D->D->Option D
 | .v x,.v y=>match cB op x y with
  |some z=>some (.v z)
  |none=>match ty.tk,x,y,op with
   | .bool,.b p,.b q,.eql=>some (.v (.b (p==q)))
   | .bool,.b p,.b q,.neq=>some (.v (.b (!(p==q))))
   |_,_,_,_=>none
 | .agg xs,.agg ys=>bif ty.agg&& !ty.eqk.isEmpty then (match op with
  | .eql=>match aG ty.eqk xs ys with|some q=>some (.v (.b q))|none=>none
  | .neq=>match aG ty.eqk xs ys with|some q=>some (.v (.b (!q)))|none=>none
  |_=>none) else none
 |_,_=>none
def aE (t f:Nat):Option (Nat×Nat):=match (T t).tk with
 | .struct fs=>match fs[f]? with
  |some (o,u)=>bif (T u).size==0||(T u).flat.isEmpty then none else some (o,u)
  |none=>none
 |_=>none
def bT (ty:Ty) (cs:List D) (off:Nat):Option D:=
 bif ty.agg then (bif ((cs.drop off).take ty.size).length==ty.size&&((cs.drop off).take ty.size).all ay then some (.agg ((cs.drop off).take ty.size)) else none)
 else match ty.flat with
  | [_]=>match cs[off]? with
   |some d=>bif ay d then some d else none
   |none=>none
  |_=>none
def ownAt (σ:St):Loc->Option (Nat×List (List V))
 | .reg t j=>match bI σ.env t with
  | .own sz l=>bif j==0 then some (sz,l) else none
  |_=>none
 | .cell o off=>match σ.S[o]? with
  |some cs=>match cs[off]? with
   |some (.own sz l)=>some (sz,l)
   |_=>none
  |none=>none
 |_=>none
def aP (o:Nat):Nat->List D->List D
 |_,[]=>[]
 |off,.own sz l::r=>.al true sz l (.cell o off)::aP o (off+1) r
 |off,d::r=>d::aP o (off+1) r
def loadAt (ty:Ty) (σ:St):D->Option D
 | .ptr o off=>match σ.S[o]? with
  |some cs=>match cs[off]?,ty.agg,ty.flat with
   |some (.own sz l),false,[_]=>some (.al true sz l (.cell o off))
   |_,true,_=>bif ((cs.drop off).take ty.size).length==ty.size then some (.agg (aP o off ((cs.drop off).take ty.size))) else none
   |_,_,_=>bT ty cs off
  |none=>none
 | .rp cells=>bT ty (cells.map .v) 0
 | .ep src sz i off=>match ownAt σ src with
  |some (sz',l)=>bif sz==sz' then (match l[i]? with
   |some row=>bT ty ((row.drop off).map .v) 0
   |none=>none) else none
  |none=>none
 |_=>none
def dL (l:List (List V)):ByteArray:=⟨(l.map fun r=>match r with| [.i _ n]=>UInt8.ofNat n.toNat|_=>0).toArray⟩
def dX:List (List V)->Bool
 | []=>true
 | [.i .u8 n]::r=>decide (0<=n/\n<256)&&dX r
 |_::_=>false
def dJ (s:ByteArray):List (List V):=s.data.toList.map fun b=>[.i .u8 b.toNat]
def aF:TK->Bool
 | .slice _=>true
 |_=>false
def bB:D->Option (Nat×List (List V))
 | .v (.s x)=>some (1,dJ x)
 |_=>none
def lend:D->D
 | .own sz l| .al _ sz l _| .cut sz l=>.v (.sl sz l)
 |d=>d
def lendA:D->D
 | .agg cs=>.agg (cs.map lend)
 |d=>lend d
def aS:D->Bool
 | .own sz l=>!(sz==0&&l.isEmpty)
 | .al .. | .cut .. =>true
 |_=>false
def aB:D->Bool
 | .agg cs=>cs.any aS
 |d=>aS d
def bR:V->Bool
 | .sl .. =>false
 |_=>true
def fe:D->Bool
 | .v x=>bR x
 |_=>false
def cg:D->Bool
 | .agg cs=>cs.all fe
 |d=>fe d
def noSl:D->Bool
 | .agg cs=>cs.all fe
 | .tup cs=>cs.all cg
 |d=>fe d
def gh (r:List V):Bool:=r.all bR
def cw:D->Bool
 | .v x=>bR x
 | .own _ l=>l.all gh
 |_=>false
def newB:D->Bool
 | .agg cs=>cs.all cw
 | .tup cs=>cs.all cg
 |d=>cw d
def bW:D->Bool
 | .v _=>true
 |_=>false
def bare:D->Bool
 | .agg cs=>cs.all bW
 | .clo _ []=>true
 |d=>bW d
def forceAll (g:Bool) (env:Env):List Operand->Option (List D)
 | []=>some []
 |x::r=>match bl g (opnd env x) with
  |some d=>match forceAll g env r with
   |some s=>some (d::s)
   |none=>none
  |none=>none
def eV (l:List (List V)) (lo hi:Nat):List (List V):=(l.take hi).drop lo
def ci:D->Option Int
 | .v (.i _ n)=>some n
 |_=>none
def bound (g:Bool) (env:Env) (x:Option Operand) (dflt:Int):Option Int:=match x with
 |none=>some dflt
 |some o=>match bl g (opnd env o) with
  |some d=>ci d
  |none=>none
def bj (ty:Ty) (sz:Nat):Bool:=sz==ty.size&& !ty.flat.isEmpty
def bA (T:Nat->Ty) (tk:TK) (d:D) (lo hi:Int) (cutAt:Bool):Option D:=
 match tk,d with
 | .str,.v (.s x)=>bif IA lo hi x.size&& !cutAt then some (.v (.s (x.extract lo.toNat hi.toNat))) else none
 | .slice e,.v (.sl sz l)=>bif bj (T e) sz&&IA lo hi l.length then
   some (bif cutAt then .cut sz (eV l lo.toNat hi.toNat) else .v (.sl sz (eV l lo.toNat hi.toNat))) else none
 | .slice e,.al _ sz l src=>bif bj (T e) sz&&IA lo hi l.length&& !cutAt then some (.al false sz (eV l lo.toNat hi.toNat) src) else none
 |_,_=>none
def bh (g x h:Bool):Bool:=!g||(x||h)
theorem gW (x h:Bool):bh false x h=true:=rfl
theorem hP (g h:Bool):bh g true h=true:=by cases g<;>rfl
theorem ii (g x:Bool):bh g x true=true:=by cases g<;>cases x<;>rfl
abbrev aj:=Nat->List D->bH->Option (D×bH)
def aK (C:aj) (σ:St) (g:Bool):Op->Option D
 | .move x=>match bl g (opnd σ.env x) with
  |some (.own sz l)=>match x with
   | .tmp p=>some (.al true sz l (.reg p 0))
   |_=>none
  |some (.agg cs)=>bif cs.all ay then some (.agg cs) else none
  |r=>r
 | .nilCheck x=>match bl g (opnd σ.env x) with
  |some (.ptr o f)=>some (.ptr o f)
  |some (.rp c)=>some (.rp c)
  |some (.ep a b c d)=>some (.ep a b c d)
  |_=>none
 | .pick c a b=>match bl g (opnd σ.env c) with
  |some (.v (.b x))=>match opnd σ.env a,opnd σ.env b with
   | .v (.b p),.v (.b q)=>some (.v (.b (bif x then p else q)))
   | .v (.b p),.mb h (.v (.b q))=>bif bh g x h then some (.v (.b (bif x then p else q))) else none
   | .mb h (.v (.b p)),.v (.b q)=>bif bh g (!x) h then some (.v (.b (bif x then p else q))) else none
   | .v (.b p),.undef=>bif bh g x false then some (.v (.b p)) else none
   | .undef,.v (.b q)=>bif bh g (!x) false then some (.v (.b q)) else none
   |_,_=>none
  |_=>none
 | .binOp op t x y _=>match bl g (opnd σ.env x) with
  |some a=>match bl g (opnd σ.env y) with
   |some b=>cz (T t) op a b
   |none=>none
  |none=>none
 | .unOp .not _ x=>match bl g (opnd σ.env x) with
  |some (.v (.b p))=>some (.v (.b (!p)))
  |_=>none
 | .convert src dst x=>match bl g (opnd σ.env x) with
  |some (.v (.i _ n))=>match (T src).tk,(T dst).tk with
   | .int _,.int k=>some (.v (.i k (k.wrap n)))
   |_,_=>none
  |some (.v (.s x))=>match (T src).tk,(T dst).tk with
   | .str,.str=>some (.v (.s x))
   |_,_=>none
  |some d=>match (T src).tk,(T dst).tk,aO d with
   | .slice e,.str,some (_,l)=>match (T e).tk with
    | .int .u8=>bif dX l then some (.v (.s (dL l))) else none
    |_=>none
   |_,_,_=>none
  |none=>none
 | .fieldAddr t x f=>match aE T t f with
  |some (fo,_)=>match bl g (opnd σ.env x) with
   |some (.ptr o off)=>some (.ptr o (off+fo))
   |some (.rp cells)=>some (.rp (cells.drop fo))
   |some (.ep src sz i off)=>some (.ep src sz i (off+fo))
   |_=>none
  |none=>none
 | .field t x f=>match aE T t f with
  |some (fo,ft)=>match bl g (opnd σ.env x) with
   |some (.agg cs)=>bT (T ft) cs fo
   |_=>none
  |none=>none
 | .load t a=>match bl g (opnd σ.env a) with
  |some d=>loadAt (T t) σ d
  |none=>none
 | .indexAddr t x ix=>match bl g (opnd σ.env ix) with
  |some (.v (.i _ n))=>match bl g (opnd σ.env x),(T t).tk with
   |some (.v (.sl sz l)),.slice e=>bif bj (T e) sz&&decide (0<=n) then (match l[n.toNat]? with|some r=>some (.rp r)|none=>none) else none
   |some (.al true sz l src),.slice e=>bif bj (T e) sz&&ltB n l.length then some (.ep src sz n.toNat 0) else none
   |some (.ptr o off),.array len e=>bif bj (T e) (T e).size&&ltB n len then some (.ptr o (off+n.toNat*(T e).size)) else none
   |some (.rp cells),.array len e=>bif bj (T e) (T e).size&&ltB n len then some (.rp (cells.drop (n.toNat*(T e).size))) else none
   |_,_=>none
  |_=>none
 | .index t x ix=>match bl g (opnd σ.env ix) with
  |some (.v (.i _ n))=>match bl g (opnd σ.env x),(T t).tk with
   |some (.v (.s s)),.str=>bif decide (0<=n) then (match s[n.toNat]? with|some c=>some (.v (.i .u8 c.toNat))|none=>none) else none
   |some (.agg cs),.array len e=>bif bj (T e) (T e).size&&ltB n len then bT (T e) cs (n.toNat*(T e).size) else none
   |_,_=>none
  |_=>none
 | .extract t ix=>match bl g (opnd σ.env t) with
  |some (.tup cs)=>match cs[ix]? with
   |some d=>bif aA d then some d else none
   |none=>none
  |_=>none
 | .makeFunc (.func f) first caps=>bif first.isEmpty then (match forceAll g σ.env caps.toList with|some cs=>bif cs.all bJ then some (.clo f cs) else none|none=>none) else none
 | .slice t x lo hi mx=>match bl g (opnd σ.env x) with
  |some d=>match cu d with
   |some n=>match bound g σ.env lo 0,bound g σ.env hi n with
    |some a,some b=>match mx with
     |none=>bA T (T t).tk d a b false
     |some m=>match bound g σ.env (some m) 0 with
      |some c=>bif b==c&&hi.isSome then bA T (T t).tk d a b true else none
      |none=>none
    |_,_=>none
   |none=>none
  |none=>none
 | .call c=>match c.callee with
  | .builtin .len=>match c.args.toList,c.argTypes.toList with
   | [x],[t]=>match bl g (opnd σ.env x) with
    |some d=>match cu d with
     |some n=>match (T t).tk with
      | .str=>match d with| .v (.s _)=>some (.v (.i .i64 n))|_=>none
      | .slice _=>match d with| .v (.s _)=>none|_=>some (.v (.i .i64 n))
      |_=>none
     |none=>none
    |none=>none
   |_,_=>none
  | .builtin .max=>match c.args.toList with
   | [x,y]=>match bl g (opnd σ.env x),bl g (opnd σ.env y) with
    |some (.v (.i k a)),some (.v (.i _ b))=>some (.v (.i k (if b>a then b else a)))
    |_,_=>none
   |_=>none
  | .builtin .min=>match c.args.toList with
   | [x,y]=>match bl g (opnd σ.env x),bl g (opnd σ.env y) with
    |some (.v (.i k a)),some (.v (.i _ b))=>some (.v (.i k (if b<a then b else a)))
    |_,_=>none
   |_=>none
  | .value (.func f)=>bif g then (match forceAll g σ.env c.args.toList with
   |some args=>bif (args.map lendA).all bare then (match C f (args.map lendA) [] with
     |some (d,[])=>bif (args.any aB&& !newB d) then none else some d
     |_=>none) else none
   |none=>none) else none
  |_=>none
 |_=>none
def aD (ops:List Oper) (env:Env) (j:Nat):Option D:=match ops[j]? with
 |some o=>match o.dst with
  |some t=>some (bI env t)
  |none=>none
 |none=>none
def aQ (ops:List Oper) (env:Env):Option (Nat×Bool)->Option Bool
 |none=>some true
 |some (j,want)=>match aD ops env j with
  |some (.v (.b x))=>some (bif want then x else !x)
  |some (.mb g (.v (.b x)))=>some (g&&bif want then x else !x)
  |some .undef=>some false
  |_=>none
def gx (g plain:Bool) (r:Option D):Option D:=bif plain then r else bif g then r else some .undef
def putDst (env:Env) (dst:Option Nat) (d:D):Env:=match dst with
 |some t=>setReg env t d
 |none=>env
def fill (size:Nat->Option (Nat×Nat)):List D->List (Nat×D)->Option (List D)
 |cs,[]=>some cs
 |cs,(i,d)::r=>match size i with
  |some (off,n)=>bif (cellsOf d).length==n&&decide (off+n<=cs.length) then fill size (setCells cs off (cellsOf d)) r else none
  |none=>none
def takeParts:Env->List (Nat×Operand)->Option (List (Nat×D)×Env)
 |env,[]=>some ([],env)
 |env,(i,x)::r=>match bl true (opnd env x) with
  |some d=>bif bD d then (match takeParts (spend env x) r with
   |some (s,env')=>some ((i,d)::s,env')
   |none=>none) else none
  |none=>none
def bv (sz:Nat):List (Nat×D)->Option (List (List V))
 | []=>some []
 |(_,d)::r=>match toVs (cellsOf d) with
  |some row=>bif row.length==sz then (match bv sz r with|some s=>some (row::s)|none=>none) else none
  |none=>none
def aR:Nat->List (Nat×D)->Bool
 |_,[]=>true
 |k,(i,_)::r=>i==k&&aR (k+1) r
def ce (d:D):D:=bif bG d then .bad else d
def spendLoc (σ:St):Loc->St
 | .reg t _=>{ σ with env:=put (kill (bO t) σ.env) t .bad }
 | .cell o off=>match σ.S[o]? with
  |some cs=>{ env:=kill (fun l=>l== .cell o off) σ.env,S:=σ.S.set o (cs.set off .bad) }
  |none=>σ
 |_=>σ
def spendOk (σ:St):Loc->Bool
 | .cell .. =>true
 | .reg p j=>j==0&&bG (bI σ.env p)
 |_=>false
mutual

def dropAl (src:Loc):D->D
 | .al f z m s=>bif s==src then .bad else .al f z m s
 | .ep s sz i off=>.ep s sz i off
 | .mb g d=>.mb g (dropAl src d)
 | .agg cs=>.agg (rB src cs)
 | .tup cs=>.tup (rB src cs)
 | .clo f cs=>.clo f (rB src cs)
 | .v x=>.v x
 | .undef=>.undef
 | .bad=>.bad
 | .own sz l=>.own sz l
 | .cut sz l=>.cut sz l
 | .rp c=>.rp c
 | .ptr o f=>.ptr o f
 | .nilp=>.nilp
def rB (src:Loc):List D->List D
 | []=>[]
 |d::r=>dropAl src d::rB src r
end
def setOwn (σ:St) (src:Loc) (sz:Nat) (l:List (List V)):St:=match src with
  | .reg t _=>{ σ with env:=put (σ.env.map fun e=>(e.1,dropAl src e.2)) t (.own sz l) }
  | .cell o off=>{ env:=σ.env.map fun e=>(e.1,dropAl src e.2),
                     S:=σ.S.modify o fun cs=>cs.set off (.own sz l) }
  |_=>σ
def cq:D->D
 | .own sz l=>.v (.sl sz l)
 |d=>d
def frz:D->D
 | .agg cs=>.agg (cs.map cq)
 |d=>cq d
def frzReg (env:Env):Operand->Env
 | .tmp u=>bif aN (bI env u) then put (kill (bO u) env) u (frz (bI env u)) else env
 |_=>env
def lowP (n:Nat):D->Bool
 | .ptr o _=>decide (o<n)
 |d=>bJ d
def lowC (n:Nat):D->Bool
 | .ptr o _=>decide (o<n)
 | .clo _ cs=>cs.all (lowP n)
 |d=>aM d
def bw (give:Nat->Bool):Operand->Bool
 | .tmp u=>give u
 | .const _=>give 1000000
 |_=>false
def fitS (g:Bool) (ty:Ty) (d:D):Option D:=match fit ty d with
 |some d'=>bif g then some (frz d') else some d'
 |none=>none
def argE (give:Nat->Bool) (σ:St) (x:Operand):Option (D×St):=match bl true (opnd σ.env x) with
 |none=>none
 |some d=>bif bw give x then (match d with
   | .al true sz l src=>bif spendOk σ src then some (.own sz l,spendLoc σ src) else none
   |d=>bif bD d then some (d,{ σ with env:=spend σ.env x }) else none)
  else bif bD d then some (frz d,{ σ with env:=frzReg σ.env x }) else none
def argsE (give:Nat->Bool):St->List Operand->Option (List D×St)
 |σ,[]=>some ([],σ)
 |σ,x::r=>match argE give σ x with
  |some (d,σ')=>match argsE give σ' r with
   |some (ds,σ'')=>some (d::ds,σ'')
   |none=>none
  |none=>none
def offReg (env:Env) (dst:Option Nat) (d:D):D:=match dst with
 |some t=>bif aN (bI env t) then iy (bO t) d else d
 |none=>d
def jA (mv:Nat->Bool):Option Nat->Bool
 |some u=>mv u
 |none=>false
def aJ (C:aj) (ro mv give:Nat->Bool) (σ:St) (dst:Option Nat) (ot:Nat):Op->Option St
  | .assign x=>match bl true (opnd σ.env x),dst with
    |some d,some t=>match fit (T ot) d with
      |some d'=>some { σ with env:=setReg (spend σ.env x) t d' }
      |none=>match d with
        | .tup cs=>some { σ with env:=setReg σ.env t (offReg σ.env (some t) (.tup cs)) }
        | .ep src sz i off=>some { σ with env:=setReg σ.env t (offReg σ.env (some t) (.ep src sz i off)) }
        | .al f sz l src=>some { σ with env:=setReg σ.env t (offReg σ.env (some t) (.al f sz l src)) }
        |_=>none
    |_,_=>none
  | .box t x=>match bl true (opnd σ.env x),dst with
    |some d,some u=>match fit (T t) d with
      |some d'=>bif ro u then (match toVs (cellsOf d') with
          |some cs=>some { σ with env:=setReg (spend σ.env x) u (.rp cs) }
          |none=>none)
        else some { env:=setReg (spend σ.env x) u (.ptr σ.S.length 0),S:=σ.S++ [cellsOf d'] }
      |none=>none
    |_,_=>none
  | .alloc t=>match dst with
    |some u=>bif (T t).zero.length==(T t).size&&(T t).size != 0 then some { env:=setReg σ.env u (.ptr σ.S.length 0),S:=σ.S++ [(T t).zero] } else none
    |none=>none
  | .build t parts=>match takeParts σ.env parts.toList,dst with
    |some (ds,env'),some u=>match (T t).tk with
      | .struct fs=>bif (T t).zero.length==(T t).size&&(T t).size != 0&&fs.all (fun f=>!(T f.2).flat.isEmpty) then match fill (fun i=>(fs[i]?).map fun f=>(f.1,(T f.2).size)) (T t).zero ds with
        |some cs=>match bP (T t).flat cs with
          |some cs'=>some { σ with env:=setReg env' u (.agg cs') }
          |none=>none
        |none=>none else none
      |_=>none
    |_,_=>none
  | .buildSlice t n parts=>match takeParts σ.env parts.toList,dst with
    |some (ds,env'),some u=>match (T t).tk with
      | .slice e=>bif (T e).zero.length==(T e).size&&(T e).size != 0&&decide (n*(T e).size<=16777216)&&aR 0 ds&&ds.length==n then (match bv (T e).size ds with
        |some rows=>some { σ with env:=setReg env' u (.own (T e).size rows) }
        |none=>none) else none
      |_=>none
    |_,_=>none
  | .makeSlice t n _=>match bl true (opnd σ.env n),dst with
    |some (.v (.i _ k)),some u=>match (T t).tk with
      | .slice e=>bif (T e).zero.length==(T e).size&&(T e).size != 0&&Ow k (T e).bytes then (match toVs (T e).zero with
        |some z=>some { σ with env:=setReg σ.env u (.own (T e).size (List.replicate k.toNat z)) }
        |none=>none) else none
      |_=>none
    |_,_=>none
  | .convert _ t x=>match bl true (opnd σ.env x),dst with
    |some (.v (.s s)),some u=>match (T t).tk with
      | .slice e=>match (T e).tk with
        | .int .u8=>some { σ with env:=setReg σ.env u (.own 1 (dJ s)) }
        |_=>none
      |_=>none
    |_,_=>none
  | .load t a=>match dst with
    |some u=>bif mv u&&(T t).agg then (match bl true (opnd σ.env a) with
        |some (.ptr o off)=>match σ.S[o]? with
          |some cs=>bif ((cs.drop off).take (T t).size).length==(T t).size then some { env:=setReg (kill (bU o) σ.env) u (.agg ((cs.drop off).take (T t).size)),S:=σ.S.set o (setCells cs off (((cs.drop off).take (T t).size).map ce)) } else none
          |none=>none
        |_=>none) else bif mv u then (match bl true (opnd σ.env a),(T t).flat with
        |some (.ptr o off),[_]=>match σ.S[o]? with
          |some cs=>match cs[off]? with
            |some (.own sz l)=>some { env:=setReg (kill (bU o) σ.env) u (.own sz l),S:=σ.S.set o (cs.set off .bad) }
            |_=>none
          |none=>none
        |_,_=>none) else none
    |none=>none
  | .store t a x=>match bl true (opnd σ.env a),bl true (opnd σ.env x) with
    |some (.ptr o off),some d=>match fitS (bw give a) (T t) d with
      |some d'=>match σ.S[o]? with
        |some cs=>bif decide (off+(cellsOf d').length<=cs.length)&&(cellsOf d').all (lowC o)&&(cellsOf d').length==(T t).size&& !(T t).flat.isEmpty then
            some { env:=bif ((cs.drop off).take (cellsOf d').length).any bG then kill (bU o) (spend σ.env x) else spend σ.env x,
                   S:=σ.S.set o (setCells cs off (cellsOf d')) } else none
        |none=>none
      |none=>none
    |some (.ep src sz i off),some d=>match fit (T t) d with
      |some d'=>match toVs (cellsOf d'),ownAt { σ with env:=spend σ.env x } src with
        |some vs,some (sz',l)=>match l[i]? with
          |some row=>bif sz==sz'&&decide (off+vs.length<=row.length)&&(cellsOf d').length==(T t).size&& !(T t).flat.isEmpty then some (setOwn { σ with env:=spend σ.env x } src sz (l.set i (bX row off vs))) else none
          |none=>none
        |_,_=>none
      |none=>none
    |_,_=>none
  | .call c=>match c.callee with
    | .builtin .append=>match c.args.toList,c.argTypes.toList,dst with
      | [x,y],[tx,ty],some u=>match (T tx).tk,bl true (opnd σ.env x),bl true (opnd σ.env y) with
        | .slice e,some dx,some dy=>match (match (T ty).tk with| .slice _=>aO dy| .str=>bB dy|_=>none) with
          |some (zy,ly)=>bif (zy==(T e).size||(ly.isEmpty&&aF (T ty).tk))&&(T e).zero.length==(T e).size&&(T e).size != 0&&(T e).bytes != 0 then (match dx with
            | .own zx lx=>bif (zx==(T e).size||(zx==0&&lx.isEmpty))&&dh (lx.length+ly.length) (T e).bytes then
                some { σ with env:=setReg (spend σ.env x) u (.own (T e).size (lx++ly)) } else none
            | .al true zx lx src=>bif spendOk σ src&&zx==(T e).size&&dh (lx.length+ly.length) (T e).bytes then
                some { spendLoc σ src with env:=setReg (spendLoc σ src).env u (.own (T e).size (lx++ly)) } else none
            | .cut zx lx=>bif zx==(T e).size&& !ly.isEmpty&&dh (lx.length+ly.length) (T e).bytes then
                some { σ with env:=setReg σ.env u (.own (T e).size (lx++ly)) } else none
            |_=>none) else none
          |none=>none
        |_,_,_=>none
      |_,_,_=>none
    | .value (.func f)=>match argsE give σ c.args.toList with
      |some (args,σ1)=>bif args.all bare&& !jA mv dst then none else (match C f args σ1.S with
        |some (d,S')=>some { env:=putDst (kill (jF σ1.S args) σ1.env) dst (offReg (kill (jF σ1.S args) σ1.env) dst d),S:=S' }
        |none=>none)
      |none=>none
    | .value (.tmp x)=>match bl true (bI σ.env x),argsE give σ c.args.toList with
      |some (.clo f caps),some (args,σ1)=>bif caps.all bJ then (match C f (args++caps) σ1.S with
        |some (d,S')=>some { env:=putDst (kill (jF σ1.S (args++caps)) σ1.env) dst (offReg (kill (jF σ1.S (args++caps)) σ1.env) dst d),S:=S' }
        |none=>none) else none
      |_,_=>none
    |_=>none
  |_=>none
structure cL where
 keep:Nat->List Nat
 ro:Nat->Bool
 mv:Nat->Bool
 give:Nat->Bool
 free:Nat->List (Nat×Nat)
 alive:Nat->Bool->Option (List Nat):=fun _ _=>none
def be (ν:cL) (o:Oper):Bool:=match o.op with
 | .assign _| .box .. | .alloc _| .build .. | .buildSlice .. | .makeSlice .. | .store .. =>true
 | .convert _ t _=>match (T t).tk with| .slice _=>true|_=>false
 | .load .. =>match o.dst with|some u=>ν.mv u|none=>false
 | .call c=>match c.callee with
  | .builtin .append=>true
  | .builtin _=>false
  | .value (.tmp _)=>true
  | .value (.func _)=>jA ν.mv o.dst
  |_=>false
 |_=>false
def ar (o:Oper):Bool:=match o.op with
 | .call c=>match c.callee with
  | .value (.func _)=>true
  |_=>false
 |_=>false
def aw (C:aj) (σ:St) (g:Bool) (o:Oper):Bool:=match o.op with
 | .call c=>match c.callee with
  | .value (.func f)=>bif g then (match forceAll g σ.env c.args.toList with
   |some args=>(args.map lendA).all bare&&(C f (args.map lendA) []).isNone
   |none=>false) else false
  |_=>false
 |_=>false
def bC:TK->Bool
 | .str=>true
 |_=>false
def aT:Option D->Option D->Bool
 |some (.v (.i k a)),some (.v (.i k' b))=>decide (k=k')&&a==b
 |_,_=>false
def bf (env:Env) (o:Oper):Bool:=match o.op with
 | .convert s _ _=>bC (T s).tk
 | .makeSlice _ n m=>aT (bl true (opnd env n)) (bl true (opnd env m))
 | .store .. =>o.dst.isNone
 |_=>true
def cP (C:aj) (ν:cL) (ops:List Oper) (o:Oper) (σ:St):Option St:=
 match aQ ops σ.env o.guard with
 |none=>none
 |some g=>
  bif be T ν o then
   bif g then (bif bf T σ.env o then aJ T C ν.ro ν.mv ν.give σ o.dst o.type o.op else none) else some { σ with env:=putDst σ.env o.dst .undef }
  else bif aw C σ g o then none else match gx g o.guard.isNone (aK T C σ g o.op) with
   |some d=>some { σ with env:=putDst σ.env o.dst (offReg σ.env o.dst d) }
   |none=>bif g&&ar o then aJ T C ν.ro ν.mv ν.give σ o.dst o.type o.op else none
def fd (C:aj) (ν:cL) (ops:List Oper):List Oper->St->Option St
 | [],σ=>some σ
 |o::r,σ=>match cP T C ν ops o σ with
  |some σ'=>fd C ν ops r σ'
  |none=>none
inductive Ex where
 |normal
 |exit (id:Nat)
 |ret
 deriving Inhabited
def ct (keep:List Nat):Loc->Bool
 | .reg u _=>!(keep.contains u)
 |_=>false
def prune (keep:List Nat) (env:Env):Env:=keep.map fun t=>(t,iy (ct keep) (bI env t))
def ca:D->Bool
 | .v _| .undef| .cut .. | .rp _| .ptr .. | .nilp=>true
 |_=>false
def bL:D->Bool
 | .v _| .undef| .cut .. | .rp _| .ptr .. | .nilp=>true
 | .clo _ cs=>cs.all ca
 |_=>false
def bV:D->Bool
 | .agg cs=>cs.all bL
 |d=>bL d
def lP:D->Bool
 | .agg cs=>cs.all bL
 | .tup cs=>cs.all bV
 | .mb _ d=>match d with| .agg cs=>cs.all bL| .tup cs=>cs.all bV|d=>bL d
 |d=>bL d
def bo:D->Bool
 | .own .. =>true
 |d=>bL d
def ch:D->Bool
 | .agg cs=>cs.all bo
 |d=>bif bo d then true else lP d
def cv:D->Bool
 | .al _ _ _ (.cell _ _)=>true
 | .mb _ (.al _ _ _ (.cell _ _))=>true
 |d=>ch d
def br (d:D):Bool:=(cv d&& !aN d)||bG d
inductive Kd where
 |still (lP own:Bool) (rd:Option (Nat×Nat×Nat)) (imm res:Bool)
 |work (wr:Option (Nat×Nat×Nat)) (n:Nat)
 |reg
 |new (n:Nat)
 |eff
 |ap
 |call (ft:List Nat)
 |lay (own:Bool)
 |wild
 deriving Inhabited
def aY (env:Env):Operand->Bool
 | .tmp t=>lP (bI env t)
 |_=>true
def aL (σ:St) (g:Bool):Op->Option (Nat×Nat×Nat)
 | .load t a=>match bl g (opnd σ.env a) with
  |some (.ptr o off)=>some (o,off,(T t).size-1+1)
  |_=>none
 |_=>none
def tW:Option (Nat×Nat×Nat)->D->Bool
 |some (o,_,_),.al _ _ _ (.cell q _)=>!(q==o)
 |some (o,_,_),.mb _ (.al _ _ _ (.cell q _))=>!(q==o)
 |_,_=>false
def au:Op->Bool
 | .assign _| .box .. | .alloc _| .build .. | .buildSlice .. | .makeSlice .. | .convert .. =>true
 |_=>false
def bN (env:Env):Op->Bool
 | .call c=>match c.callee with
  | .builtin .append=>match c.args.toList with
   |x::_=>match bl true (opnd env x) with
    |some (.al _ _ _ (.cell _ _))|some (.own ..)|some (.cut ..)=>true
    |_=>false
   | []=>false
  | .value (.func _)=>c.args.toList.all (aY env)
  | .value (.tmp x)=>lP (bI env x)&&c.args.toList.all (aY env)
  |_=>false
 | .store _ a _=>match bl true (opnd env a) with
  |some (.ptr _ _)=>true
  |_=>false
 |_=>false
def bM (σ:St):Op->Kd
 | .store t a _=>match bl true (opnd σ.env a) with
  |some (.ptr o off)=>match σ.S[o]? with
   |some cs=>bif ((cs.drop off).take (T t).size).any bG then .eff else .work (some (o,off,(T t).size)) σ.S.length
   |none=>.wild
  |_=>.wild
 |op=>bif au op then .work none σ.S.length else bif bN σ.env op then .eff else .wild
def aI (env:Env):Option Nat->Bool
 |some t=>aN (bI env t)
 |none=>true
def cI (C:aj) (ν:cL) (ops:List Oper) (o:Oper) (σ:St):Kd:=
 match aQ ops σ.env o.guard with
 |none=>.wild
 |some g=>
  bif be T ν o then (bif g then bM T σ o.op else .work none σ.S.length)
  else match gx g o.guard.isNone (aK T C σ g o.op) with
   |some d=>bif aI σ.env o.dst then .wild else .still (o.op.operands.toList.all (aY σ.env)) (aN d||tW (aL T σ g o.op) d) (aL T σ g o.op) (br d) (lP d)
   |none=>bif g&&bN σ.env o.op then .eff else .wild
def cd (own:Bool) (op:Op):Kd->Kd
 | .work none n=>match op with
  | .alloc _=>bif own then .work none n else .new n
  | .build .. =>.reg
  | .buildSlice .. =>.reg
  | .assign _=>.reg
  | .makeSlice .. =>.reg
  | .convert .. =>.reg
  |_=>.work none n
 |k=>k
def kx (give:Nat->Bool) (σ:St):Op->Option (List D)
 | .call c=>match c.callee with
  | .value (.func _)=>match argsE give σ c.args.toList with
   |some (args,_)=>some args
   |none=>none
  | .value (.tmp x)=>match bl true (bI σ.env x),argsE give σ c.args.toList with
   |some (.clo _ caps),some (args,_)=>some (args++caps)
   |_,_=>none
  |_=>none
 |_=>none
def ub (env:Env):Op->Bool
 | .call c=>match c.callee with
  | .builtin .append=>match c.args.toList with
   |x::_=>match bl true (opnd env x) with
    |some (.own ..)=>true
    |_=>false
   | []=>false
  |_=>false
 |_=>false
def zL:Op->Bool
 | .build .. | .buildSlice .. =>true
 |_=>false
def layOf (C:aj) (ν:cL) (o:Oper) (σ:St):Option Bool:=match zL o.op&&o.op.operands.toList.all (aY σ.env),o.dst with
 |true,some t=>match aN (bI σ.env t),aJ T C ν.ro ν.mv ν.give σ o.dst o.type o.op with
  |false,some s=>match br (bI s.env t) with
   |true=>some (aN (bI s.env t))
   |false=>none
  |_,_=>none
 |_,_=>none
def qB (C:aj) (ν:cL) (o:Oper) (σ:St):Kd->Kd
 | .eff=>match kx ν.give σ o.op with
  |some a=>.call (qp σ.S a)
  |none=>bif ub σ.env o.op then .ap else .eff
 | .reg=>match layOf T C ν o σ with
  |some w=>.lay w
  |none=>.reg
 |k=>k
def cT (C:aj) (ν:cL) (ops:List Oper) (o:Oper) (σ:St):Kd:=match aQ ops σ.env o.guard with
 |some true=>qB T C ν o σ (cd (aI σ.env o.dst) o.op (cI T C ν ops o σ))
 |_=>cI T C ν ops o σ
def dV (C:aj) (ν:cL) (ops:List Oper):List Oper->St->Option (St×List Kd)
 | [],σ=>some (σ,[])
 |o::r,σ=>match cP T C ν ops o σ with
  |some σ'=>match dV C ν ops r σ' with
   |some (σ'',ks)=>some (σ'',cT T C ν ops o σ::ks)
   |none=>none
  |none=>none
def cr:Option (Nat×Nat×Nat)->Option (Nat×Nat×Nat)->Nat->Bool
 |none,_,_=>true
 |some (o,_,_),none,n=>decide (o<n)
 |some (o,off,l),some (o',off',l'),_=>!(o==o')||decide (off+l<=off')||decide (off'+l'<=off)
def xk (ft:List Nat):Option (Nat×Nat×Nat)->Bool
 |some (o,_,_)=>!ft.contains o
 |none=>false
def bd:Kd->Kd->Bool
 | .still c1 w1 _ _ _,.still c2 w2 _ _ _=>(!w1||c2)&&(!w2||c1)
 | .still c _ r m _,.work wr n=>c&&m&&cr r wr n
 | .work wr n,.still c _ r m _=>c&&m&&cr r wr n
 | .still c _ _ m _,.reg=>c&&m
 | .reg,.still c _ _ m _=>c&&m
 | .still c _ r _ _,.new n=>c&&cr r none n
 | .new n,.still c _ r m _=>c&&m&&cr r none n
 | .reg,.new _=>true
 | .still c w r _ k,.eff=>c&& !w&&k&&r.isNone
 | .eff,.still c w r _ k=>c&& !w&&k&&r.isNone
 | .still c w r _ k,.ap=>c&& !w&&k&&r.isNone
 | .ap,.still c w r _ k=>c&& !w&&k&&r.isNone
 | .ap,.new _=>true
 | .still c w r m k,.call ft=>c&& !w&&((k&&r.isNone)||(m&&xk ft r))
 | .call ft,.still c w r _ k=>c&& !w&&k&&(r.isNone||xk ft r)
 | .call _,.new n=>!(n==0)
 | .still c v r _ _,.lay w=>!w||c||(v&&r.isNone)
 | .lay w,.still c v r _ _=>!w||c||(v&&r.isNone)
 | .lay w,.call _=>w
 | .call _,.lay w=>w
 | .lay w,.ap=>w
 | .ap,.lay w=>w
 | .lay _,.lay _=>true
 | .lay _,.reg=>true
 | .lay _,.new _=>true
 |_,_=>false
def bp (ks:List Kd):List (Nat×Nat)->Bool
 | []=>true
 |(i,j)::r=>bd (ks.getD i .wild) (ks.getD j .wild)&&bp ks r
def bm:Kd->Bool
 | .still _ w _ _ _=>!w
 |_=>false
abbrev dS:=Nat->St->Option (Ex×St)
def dY (C:aj) (ν:cL) (id:Nat) (ops:List Oper) (draw:Bool) (σ:St):Option St:=
 bif draw&& !(ν.free id).isEmpty then
  match dV T C ν ops ops σ with
  |some (σ',ks)=>bif ks.all bm||bp ks (ν.free id) then some σ' else none
  |none=>none
 else fd T C ν ops ops σ
def dl (id:Nat):Option (Ex×St)->Option (Ex×St)
 |some (.exit id',σ)=>bif id'==id then some (.normal,σ) else some (.exit id',σ)
 |r=>r
def cK (ν:cL) (t:Nat) (x:Bool) (σ:St):St:=match ν.alive t x with
 |some l=>{ σ with env:=prune l σ.env }
 |none=>σ
def aH (C:aj) (L:dS) (ν:cL):Code->St->Option (Ex×St)
 | .skip,σ=>some (.normal,σ)
 | .region id ops draw,σ=>match dY T C ν id ops.toList draw σ with
  |some σ'=>some (.normal,{ σ' with env:=prune (ν.keep id) σ'.env })
  |none=>none
 | .seq a b,σ=>match aH C L ν a σ with
  |some (.normal,σ')=>aH C L ν b σ'
  |r=>r
 | .cond (.tmp t) a b,σ=>match bI σ.env t with
  | .v (.b x)=>bif x then aH C L ν a (cK ν t true σ) else aH C L ν b (cK ν t false σ)
  |_=>none
 | .block id (.loop _),σ=>L id σ
 | .block id c,σ=>dl id (aH C L ν c σ)
 | .exit id,σ=>some (.exit id,σ)
 | .ret,σ=>some (.ret,σ)
 |_,_=>none
def bE (id:Nat):Code->Option Code
 | .block i (.loop c)=>bif i==id then some c else bE id c
 | .block _ c=>bE id c
 | .loop c=>bE id c
 | .seq a b=>match bE id a with
  |some c=>some c
  |none=>bE id b
 | .cond _ a b=>match bE id a with
  |some c=>some c
  |none=>bE id b
 |_=>none
def bn (n:Nat):Loc->Bool
 | .cell o _=>decide (o<n)
 |_=>true
def lowA (n:Nat):D->Bool
 | .al _ _ _ src=>bn n src
 | .ep src _ _ _=>bn n src
 | .agg cs=>cs.all (lowC n)
 | .tup cs=>cs.all (lowC n)
 | .mb _ d=>lowC n d
 |d=>lowC n d
def trunc (n:Nat) (σ:St):Option St:=
 bif σ.S.length==n then some σ else
 bif σ.env.all (fun e=>lowA n e.2) then some { σ with S:=σ.S.take n } else none
def FA (C:aj) (L:dS) (ν:cL) (id:Nat) (c:Code) (σ:St):Option (Ex×St):=match aH T C L ν c σ with
 |some (.normal,σ')=>match trunc σ.S.length σ' with
  |some σ''=>L id σ''
  |none=>none
 |r=>dl id r
def evL (C:aj) (ν:cL) (body:Code):Nat->dS
 |0,_,_=>none
 |n+1,id,σ=>match bE id body with
  |some c=>FA T C (evL C ν body n) ν id c σ
  |none=>none
def bx (n:Nat) (σ:St):ResultVar->Option D
 | .tmp t=>match bI σ.env t with
  | .al true sz l (.reg p 0)=>bif bG (bI σ.env p) then some (.own sz l) else none
  |d=>bl true d
 | .cell a t=>match bI σ.env a with
  | .ptr o 0=>match σ.S[o]? with
   |some cs=>bif decide (n<=o)&&cs.length==(T t).size&& !(T t).flat.isEmpty then (bif (T t).agg then some (.agg cs) else match cs,(T t).flat with
    | [d],[_]=>some d
    |_,_=>none) else none
   |none=>none
  |_=>none
def bu (n:Nat) (σ:St):List ResultVar->Option (List D)
 | []=>some []
 |r::rs=>match bx T n σ r with
  |some d=>match bu n σ rs with
   |some ds=>some (d::ds)
   |none=>none
  |none=>none
def bS (n:Nat):D->Bool
 | .al _ _ _ src| .ep src _ _ _=>match src with
  | .cell o _=>decide (o<n)
  |_=>false
 | .agg cs=>cs.all (fun d=>aM d&&lowC n d)
 |d=>aM d&&lowC n d
def bq (n:Nat) (d:D):Bool:=match d with
 | .agg cs=>cs.all (fun d=>bJ d&&lowC n d)
 |d=>aM d&&lowC n d
def cA (n:Nat):List D->Option D
 | [d]=>bif bS n d then some d else none
 |ds=>bif ds.all (fun d=>bq n (frz d)) then some (.tup (ds.map frz)) else none
def enter:Nat->List D->Env
 |_,[]=>[]
 |j,d::r=>(j,d)::enter (j+1) r
def aC (n:Nat) (res:List ResultVar) (σ:St):Option (D×bH):=match bu T n σ res with
 |some ds=>match cA n ds with
  |some d=>some (d,σ.S.take n)
  |none=>none
 |none=>none
def cR (C:aj) (L:dS) (ν:cL) (res:List ResultVar) (body:Code) (args:List D) (S:bH):Option (D×bH):=
 match aH T C L ν body ⟨enter 0 args,S⟩ with
 |some (.normal,σ)=>aC T S.length res σ
 |some (.ret,σ)=>aC T S.length res σ
 |_=>none
end
end Go.Mx
namespace Go.Mx
def BH (P:Program):Nat->TypeId->Option (List Nat)
 |0,_=>none
 |d+1,t=>match P.underlying t with
  |some (.slice e)=>some [P.cellsOf e]
  |some (.struct fs)=>fs.toList.foldr (fun f r=>match BH P d f.type,r with|some x,some y=>some (x++y)|_,_=>none) (some [])
  |some (.array n e)=>match BH P d e with|some x=>some ((List.replicate n x).flatten)|none=>none
  |some (.bool)|some (.int _)|some .string|some (.pointer _)|some (.func ..)=>some [0]
  |_=>none
def Bj (P:Program) (rec:TypeId->Option (List Nat)):List Field->Nat->Option (List Nat)
 | [],_=>some []
 |f::r,off=>bif f.name== "_" || !(f.offset==off) then none else
  match rec f.type with
  |some x=>bif x.length==P.cellsOf f.type then (match Bj P rec r (off+x.length) with|some y=>some (x++y)|none=>none) else none
  |none=>none
def ed (P:Program):Nat->TypeId->Option (List Nat)
 |0,_=>none
 |d+1,t=>match P.underlying t with
  |some .bool=>some [1]
  |some (.int _)=>some [2]
  |some .string=>some [3]
  |some (.struct fs)=>bif P.stoodInHeld t then none else
   match Bj P (ed P d) fs.toList 0 with
   |some x=>bif x.length==P.cellsOf t&& !P.eqGuardType P.depth t then some x else none
   |none=>none
  |_=>none
def zeroCell (k:Nat):Value->D
 | .bool b=>.v (.b b)
 | .int q n=>.v (.i q n)
 | .string s=>.v (.s s)
 | .slice none 0 0=>bif k==0 then .bad else .own k []
 | .pointer none=>.nilp
 |_=>.bad
def fg (fl:List Nat) (z:Value) (n:Nat):List D:=bif fl.length==n&&z.cells.size==n&&n != 0 then List.zipWith zeroCell fl z.cells.toList else []
def ck (P:Program) (t:TypeId):Ty:=
 match P.info? t,BH P 12 t with
 |some i,some fl=>match i.zero with
  |some z=>match P.underlying t with
   |some .bool=>⟨.bool,i.size,i.bytes,false,fl,[],fg fl z i.size⟩
   |some (.int k)=>⟨.int k,i.size,i.bytes,false,fl,[],fg fl z i.size⟩
   |some .string=>⟨.str,i.size,i.bytes,false,fl,[],fg fl z i.size⟩
   |some (.slice e)=>⟨.slice e,i.size,i.bytes,false,fl,[],fg fl z i.size⟩
   |some (.pointer _)=>⟨.ptr,i.size,i.bytes,false,fl,[],fg fl z i.size⟩
   |some (.func ..)=>⟨.func,i.size,i.bytes,false,fl,[],[]⟩
   |some (.struct fs)=>⟨.struct (fs.toList.map fun f=>(f.offset,f.type)),i.size,i.bytes,true,fl,(ed P 12 t).getD [],fg fl z i.size⟩
   |some (.array n e)=>⟨.array n e,i.size,i.bytes,true,fl,[],fg fl z i.size⟩
   |_=>⟨.other,1,1,false,[],[],[]⟩
  |none=>⟨.other,1,1,false,[],[],[]⟩
 |_,_=>⟨.other,1,1,false,[],[],[]⟩
end Go.Mx
namespace Go.Mx
abbrev Rd:=Nat->Option (Array Value)
mutual
def RV (rd:Rd):V->Value->Prop
 | .b x,v=>v= .bool x
 | .i k n,v=>v= .int k n
 | .s x,v=>v= .string x
 | .sl sz l,v=>∃base cap,v= .slice base l.length cap/\l.length<=cap/\
   (l= []∨ ∃b off c,base=some ⟨b,off,none⟩/\rd b=some c/\RVr rd sz l c off)
def RVr (rd:Rd) (sz:Nat):List (List V)->Array Value->Nat->Prop
 | [],_,_=>True
 |r::l,c,off=>r.length=sz/\RVc rd r c off/\RVr rd sz l c (off+sz)
def RVc (rd:Rd):List V->Array Value->Nat->Prop
 | [],_,_=>True
 |x::r,c,off=>(∃v,c[off]? =some v/\RV rd x v)/\RVc rd r c (off+1)
end
structure Gh where
 rd:Rd
 ob:Nat->Option Nat
 ow:Loc->Option (Nat×Nat)
def fQ (c:Array Value) (fr:Nat×Nat):Prop:=∀i,i<c.size-> ¬(fr.1<=i/\i<fr.2)
def wa (h:Array Obj) (rd:Rd) (w:Option (Nat×Nat)) (sz:Nat) (l:List (List V)) (v:Value):Prop:=
 (v= .slice none 0 0/\l= [])∨
 ∃b off cap c e fr,v= .slice (some ⟨b,off,none⟩) l.length cap/\w=some (b,off)/\h[b]? =some (.cells c e fr)/\fQ c fr/\
  (l.length<=cap/\sz≠0)/\off+cap*sz<=c.size/\RVr rd sz l c off
def AO (h:Array Obj) (rd:Rd) (w:Option (Nat×Nat)) (sz:Nat) (l:List (List V)) (v:Value):Prop:=
 ∃base cap,v= .slice base l.length cap/\l.length<=cap/\
  (l= []∨ ∃b off o c e fr,base=some ⟨b,off,none⟩/\w=some (b,o)/\h[b]? =some (.cells c e fr)/\RVr rd sz l c off)
def Loc.place:Loc->Bool
 | .hand .. =>false
 |_=>true
mutual
def RD (h:Array Obj) (G:Gh) (loc:Nat->Loc):D->Value->Prop
 | .v x,v=>RV G.rd x v
 | .undef,v=>v=undef
 | .bad,_=>True
 | .mb g d,v=>(g=true->RD h G loc d v)/\(g=false->v=undef)
 | .own sz l,v=>wa h G.rd (G.ow (loc 0)) sz l v
 | .al full sz l src,v=>(full=true->wa h G.rd (G.ow src) sz l v)/\AO h G.rd (G.ow src) sz l v/\src.place=true
 | .cut sz l,v=>∃base,v= .slice base l.length l.length/\(l= []∨ ∃b off c,base=some ⟨b,off,none⟩/\G.rd b=some c/\RVr G.rd sz l c off)
 | .rp cells,v=>∃b off c,v= .pointer (some ⟨b,off,none⟩)/\G.rd b=some c/\RVc G.rd cells c off
 | .ptr o off,v=>∃b,G.ob o=some b/\v= .pointer (some ⟨b,off,none⟩)
 | .ep src sz i off,v=>∃b base,G.ow src=some (b,base)/\v= .pointer (some ⟨b,base+i*sz+off,none⟩)/\src.place=true
 | .agg cs,v=>∃vs:Array Value,v= .agg vs/\RDs h G loc 0 cs vs.toList
 | .tup cs,v=>∃vs:Array Value,v= .tuple vs/\RDs h G (fun _=>Loc.nowhere) 0 cs vs.toList
 | .clo f caps,v=>∃vs:Array Value,v= .func (.func f) #[] vs/\RDs h G (fun _=>Loc.nowhere) 0 caps vs.toList
 | .nilp,v=>v= .pointer none
def RDs (h:Array Obj) (G:Gh) (loc:Nat->Loc):Nat->List D->List Value->Prop
 |_,[],[]=>True
 |j,d::ds,v::vs=>RD h G (fun _=>loc j) d v/\RDs h G loc (j+1) ds vs
 |_,_,_=>False
end
def dg (σ:St):Loc->Bool
 | .reg t j=>match bI σ.env t with
  | .own .. =>j==0
  | .agg cs=>match cs[j]? with|some d=>bG d|none=>false
  |_=>false
 | .cell o off=>match σ.S[o]? with
  |some cs=>match cs[off]? with|some d=>bG d|none=>false
  |none=>false
 |_=>false
structure Inv (h:Array Obj) (G:Gh):Prop where
 rd_ok: ∀b c,G.rd b=some c-> ∃e fr,h[b]? =some (.cells c e fr)
 ob_lt: ∀o b,G.ob o=some b->b<h.size
 ob_rd: ∀o b,G.ob o=some b->G.rd b=none
 ob_inj: ∀o o' b,G.ob o=some b->G.ob o'=some b->o=o'
 ow_lt: ∀l b f,G.ow l=some (b,f)->b<h.size
 ow_rd: ∀l b f,G.ow l=some (b,f)->G.rd b=none
 ow_ob: ∀l b f o,G.ow l=some (b,f)->G.ob o≠some b
 ow_inj: ∀l l' b f f',G.ow l=some (b,f)->G.ow l'=some (b,f')->l=l'
def ROb (h:Array Obj) (G:Gh) (o:Nat) (cs:List D):Prop:=
 ∃b c e fr,G.ob o=some b/\h[b]? =some (.cells c e fr)/\fQ c fr/\RDs h G (Loc.cell o) 0 cs c.toList
structure Rel (h:Array Obj) (G:Gh) (tmps:Array Value) (σ:St):Prop where
 inv:Inv h G
 env: ∀t,RD h G (Loc.reg t) (bI σ.env t) (tmps.getD t undef)
 obj: ∀o cs,σ.S[o]? =some cs->ROb h G o cs
 obc: ∀(o:Nat) (cs:List D),σ.S[o]? =some cs->cs.all aM=true
 obn: ∀o,σ.S.length<=o->G.ob o=none
 own: ∀l p,(∀k j,l≠ .hand k j)->G.ow l=some p->dg σ l=true
def cS (a b:Rd):Prop:=∀k c,a k=some c->b k=some c
theorem cS.refl (a:Rd):cS a a:=fun _ _ h=>h
theorem cS.trans {a b c:Rd} (h:cS a b) (k:cS b c):cS a c:=fun x y e=>k x y (h x y e)
mutual
theorem RV.mono {rd rd':Rd} (hl:cS rd rd'): ∀(x:V) (v:Value),RV rd x v->RV rd' x v
 | .b _,_,h=>h
 | .i _ _,_,h=>h
 | .s _,_,h=>h
 | .sl sz l,v,h=>by
  simp only [RV] at*
  obtain⟨base,cap,hv,hc,h⟩:=h
  refine⟨base,cap,hv,hc,h.imp id ?_⟩
  rintro⟨b,off,c,h1,h2,h3⟩
  exact⟨b,off,c,h1,hl _ _ h2,RVr.mono hl sz l c off h3⟩
theorem RVr.mono {rd rd':Rd} (hl:cS rd rd') (sz:Nat): ∀(l:List (List V)) (c:Array Value) (off:Nat),RVr rd sz l c off->RVr rd' sz l c off
 | [],_,_,_=>by simp only [RVr]
 |r::l,c,off,h=>by
  simp only [RVr] at*
  exact⟨h.1,RVc.mono hl r c off h.2.1,RVr.mono hl sz l c _ h.2.2⟩
theorem RVc.mono {rd rd':Rd} (hl:cS rd rd'): ∀(l:List V) (c:Array Value) (off:Nat),RVc rd l c off->RVc rd' l c off
 | [],_,_,_=>by simp only [RVc]
 |x::r,c,off,h=>by
  simp only [RVc] at*
  obtain⟨⟨v,h1,h2⟩,h3⟩:=h
  exact⟨⟨v,h1,RV.mono hl x v h2⟩,RVc.mono hl r c _ h3⟩
end
theorem RVc.same {rd:Rd} : ∀(l:List V) (c c':Array Value) (off:Nat),(∀i,off<=i->i<off+l.length->c'[i]? =c[i]?)->RVc rd l c off->RVc rd l c' off
 | [],_,_,_,_,_=>by simp only [RVc]
 |x::r,c,c',off,hs,h=>by
  simp only [RVc,List.length_cons] at*
  obtain⟨⟨v,h1,h2⟩,h3⟩:=h
  exact⟨⟨v,by rw [hs off (Nat.le_refl _) (by omega)];exact h1,h2⟩,RVc.same r c c' _ (fun i a b=>hs i (by omega) (by omega)) h3⟩
theorem RVr.same {rd:Rd} (sz:Nat): ∀(l:List (List V)) (c c':Array Value) (off:Nat),(∀i,off<=i->i<off+l.length*sz->c'[i]? =c[i]?)->RVr rd sz l c off->RVr rd sz l c' off
 | [],_,_,_,_,_=>by simp only [RVr]
 |r::l,c,c',off,hs,h=>by
  simp only [RVr,List.length_cons,Nat.succ_mul] at*
  exact⟨h.1,RVc.same r c c' off (fun i a b=>hs i a (by have:=h.1;omega)) h.2.1,RVr.same sz l c c' _ (fun i a b=>hs i (by omega) (by omega)) h.2.2⟩
theorem RVc.get {rd:Rd} : ∀(l:List V) (c:Array Value) (off i:Nat) (x:V),RVc rd l c off->l[i]? =some x-> ∃v,c[off+i]? =some v/\RV rd x v
 | [],_,_,_,_,_,h=>by simp at h
 |y::r,c,off,0,x,h,hx=>by
  simp only [RVc] at h
  simp at hx;subst hx
  exact h.1
 |y::r,c,off,i+1,x,h,hx=>by
  simp only [RVc] at h
  simp at hx
  obtain⟨v,h1,h2⟩:=RVc.get r c (off+1) i x h.2 hx
  exact⟨v,by rw [<-h1];congr 1;omega,h2⟩
theorem RVc.drop {rd:Rd} : ∀(l:List V) (c:Array Value) (off k:Nat),RVc rd l c off->RVc rd (l.drop k) c (off+k)
 |l,c,off,0,h=>by simpa using h
 | [],c,off,k+1,h=>by simp only [List.drop_nil,RVc]
 |x::r,c,off,k+1,h=>by
  simp only [RVc] at h
  have:=RVc.drop r c (off+1) k h.2
  simpa [Nat.add_assoc,Nat.add_comm 1 k] using this
theorem RVc.take {rd:Rd} : ∀(l:List V) (c:Array Value) (off k:Nat),RVc rd l c off->RVc rd (l.take k) c off
 |l,c,off,0,h=>by simp only [List.take_zero,RVc]
 | [],c,off,k+1,h=>by simp only [List.take_nil,RVc]
 |x::r,c,off,k+1,h=>by
  simp only [RVc,List.take_succ_cons] at*
  exact⟨h.1,RVc.take r c _ k h.2⟩
theorem RVr.get {rd:Rd} (sz:Nat): ∀(l:List (List V)) (c:Array Value) (off i:Nat) (r:List V),RVr rd sz l c off->l[i]? =some r->r.length=sz/\RVc rd r c (off+i*sz)
 | [],_,_,_,_,_,h=>by simp at h
 |y::l,c,off,0,r,h,hx=>by
  simp only [RVr] at h
  simp at hx;subst hx
  exact⟨h.1,by simpa using h.2.1⟩
 |y::l,c,off,i+1,r,h,hx=>by
  simp only [RVr] at h
  simp at hx
  obtain⟨h1,h2⟩:=RVr.get sz l c (off+sz) i r h.2.2 hx
  exact⟨h1,by rw [Nat.succ_mul,Nat.add_comm (i*sz) sz,<-Nat.add_assoc];exact h2⟩
theorem RVr.drop {rd:Rd} (sz:Nat): ∀(l:List (List V)) (c:Array Value) (off k:Nat),RVr rd sz l c off->RVr rd sz (l.drop k) c (off+k*sz)
 |l,c,off,0,h=>by simpa using h
 | [],c,off,k+1,h=>by simp only [List.drop_nil,RVr]
 |x::r,c,off,k+1,h=>by
  simp only [RVr] at h
  have:=RVr.drop sz r c (off+sz) k h.2.2
  rw [Nat.succ_mul,Nat.add_comm (k*sz) sz,<-Nat.add_assoc]
  simpa using this
theorem RVr.take {rd:Rd} (sz:Nat): ∀(l:List (List V)) (c:Array Value) (off k:Nat),RVr rd sz l c off->RVr rd sz (l.take k) c off
 |l,c,off,0,h=>by simp only [List.take_zero,RVr]
 | [],c,off,k+1,h=>by simp only [List.take_nil,RVr]
 |x::r,c,off,k+1,h=>by
  simp only [RVr,List.take_succ_cons] at*
  exact⟨h.1,h.2.1,RVr.take sz r c _ k h.2.2⟩
theorem RVr.append {rd:Rd} (sz:Nat): ∀(l m:List (List V)) (c:Array Value) (off:Nat),RVr rd sz l c off->RVr rd sz m c (off+l.length*sz)->RVr rd sz (l++m) c off
 | [],m,c,off,_,hm=>by simpa using hm
 |x::l,m,c,off,h,hm=>by
  simp only [RVr,List.cons_append,List.length_cons,Nat.succ_mul] at*
  exact⟨h.1,h.2.1,RVr.append sz l m c _ h.2.2 (by rw [Nat.add_assoc,Nat.add_comm sz];exact hm)⟩
end Go.Mx
namespace Go.Mx
mutual

def free (touch:Loc->Prop) (loc:Nat->Loc):D->Prop
 | .own .. =>¬touch (loc 0)
 | .al _ _ _ src=>¬touch src
 | .ep src _ _ _=>¬touch src
 | .mb _ d=>free touch loc d
 | .agg cs=>kn touch loc 0 cs
 | .tup cs=>kn touch (fun _=>Loc.nowhere) 0 cs
 | .clo _ cs=>kn touch (fun _=>Loc.nowhere) 0 cs
 |_=>True
def kn (touch:Loc->Prop) (loc:Nat->Loc):Nat->List D->Prop
 |_,[]=>True
 |j,d::ds=>free touch (fun _=>loc j) d/\kn touch loc (j+1) ds
end
structure Fr (touch:Loc->Prop) (h:Array Obj) (G:Gh) (h':Array Obj) (G':Gh):Prop where
 rd:cS G.rd G'.rd
 ob: ∀o b,G.ob o=some b->G'.ob o=some b
 ow: ∀l p,l.place=true-> ¬touch l->G.ow l=some p->G'.ow l=some p
 owh: ∀l b f,l.place=true-> ¬touch l->G.ow l=some (b,f)->h'[b]? =h[b]?
theorem wa.fr {touch:Loc->Prop} {h h':Array Obj} {G G':Gh} (F:Fr touch h G h' G') {l:Loc} (hp:l.place=true) (hl: ¬touch l) {sz:Nat} {m:List (List V)} {v:Value}
  (hr:wa h G.rd (G.ow l) sz m v):wa h' G'.rd (G'.ow l) sz m v:=by
 rcases hr with hr|⟨b,off,cap,c,e,fr,h1,h2,h3,h4,h5,h6,h7⟩
 ·exact .inl hr
 ·exact .inr ⟨b,off,cap,c,e,fr,h1,F.ow l _ hp hl h2,by rw [F.owh l b off hp hl h2];exact h3,h4,h5,h6,RVr.mono F.rd _ _ _ _ h7⟩
theorem AO.fr {touch:Loc->Prop} {h h':Array Obj} {G G':Gh} (F:Fr touch h G h' G') {l:Loc} (hp:l.place=true) (hl: ¬touch l) {sz:Nat} {m:List (List V)} {v:Value}
  (hr:AO h G.rd (G.ow l) sz m v):AO h' G'.rd (G'.ow l) sz m v:=by
 obtain⟨base,cap,h1,h2,h3⟩:=hr
 refine⟨base,cap,h1,h2,h3.imp id ?_⟩
 rintro⟨b,off,o,c,e,fr,k1,k2,k3,k4⟩
 exact⟨b,off,o,c,e,fr,k1,F.ow l _ hp hl k2,by rw [F.owh l b o hp hl k2];exact k3,RVr.mono F.rd _ _ _ _ k4⟩
mutual
theorem RD.fr {touch:Loc->Prop} {h h':Array Obj} {G G':Gh} (F:Fr touch h G h' G') (loc:Nat->Loc) (hpl: ∀j,(loc j).place=true): ∀(d:D) (v:Value),free touch loc d->RD h G loc d v->RD h' G' loc d v
 | .v x,v,_,hr=>by simp only [RD] at*;exact RV.mono F.rd x v hr
 | .undef,v,_,hr=>by simp only [RD] at*;exact hr
 | .bad,_,_,_=>by simp only [RD]
 | .mb g d,v,hf,hr=>by
  simp only [RD,free] at*
  exact⟨fun hg=>RD.fr F loc hpl d v hf (hr.1 hg),hr.2⟩
 | .own sz l,v,hf,hr=>by simp only [RD,free] at*;exact wa.fr F (hpl 0) hf hr
 | .al full sz l src,v,hf,hr=>by
  simp only [RD,free] at*
  exact⟨fun he=>wa.fr F hr.2.2 hf (hr.1 he),AO.fr F hr.2.2 hf hr.2.1,hr.2.2⟩
 | .cut sz l,v,_,hr=>by
  simp only [RD] at*
  obtain⟨base,h1,h2⟩:=hr
  refine⟨base,h1,h2.imp id ?_⟩
  rintro⟨b,off,c,k1,k2,k3⟩
  exact⟨b,off,c,k1,F.rd _ _ k2,RVr.mono F.rd _ _ _ _ k3⟩
 | .rp cells,v,_,hr=>by
  simp only [RD] at*
  obtain⟨b,off,c,k1,k2,k3⟩:=hr
  exact⟨b,off,c,k1,F.rd _ _ k2,RVc.mono F.rd _ _ _ k3⟩
 | .ptr o off,v,_,hr=>by
  simp only [RD] at*
  obtain⟨b,k1,k2⟩:=hr
  exact⟨b,F.ob _ _ k1,k2⟩
 | .ep src sz i off,v,hf,hr=>by
  simp only [RD,free] at*
  obtain⟨b,base,k1,k2,k3⟩:=hr
  exact⟨b,base,F.ow _ _ k3 hf k1,k2,k3⟩
 | .agg cs,v,hf,hr=>by
  simp only [RD,free] at*
  obtain⟨vs,k1,k2⟩:=hr
  exact⟨vs,k1,RDs.fr F loc hpl 0 cs vs.toList hf k2⟩
 | .tup cs,v,hf,hr=>by
  simp only [RD,free] at*
  obtain⟨vs,k1,k2⟩:=hr
  exact⟨vs,k1,RDs.fr F (fun _=>Loc.nowhere) (fun _=>rfl) 0 cs vs.toList hf k2⟩
 | .clo f cs,v,hf,hr=>by
  simp only [RD,free] at*
  obtain⟨vs,k1,k2⟩:=hr
  exact⟨vs,k1,RDs.fr F (fun _=>Loc.nowhere) (fun _=>rfl) 0 cs vs.toList hf k2⟩
 | .nilp,v,_,hr=>by simp only [RD] at*;exact hr
theorem RDs.fr {touch:Loc->Prop} {h h':Array Obj} {G G':Gh} (F:Fr touch h G h' G') (loc:Nat->Loc) (hpl: ∀j,(loc j).place=true): ∀(j:Nat) (ds:List D) (vs:List Value),kn touch loc j ds->RDs h G loc j ds vs->RDs h' G' loc j ds vs
 |_,[],[],_,_=>by simp only [RDs]
 |j,d::ds,v::vs,hf,hr=>by
  simp only [RDs,kn] at*
  exact⟨RD.fr F (fun _=>loc j) (fun _=>hpl j) d v hf.1 hr.1,RDs.fr F loc hpl (j+1) ds vs hf.2 hr.2⟩
 |_,[],_::_,_,hr=>by simp only [RDs] at hr
 |_,_::_,[],_,hr=>by simp only [RDs] at hr
end
mutual
theorem free.none (loc:Nat->Loc): ∀(d:D),free (fun _=>False) loc d
 | .v _=>by simp only [free]
 | .undef=>by simp only [free]
 | .bad=>by simp only [free]
 | .mb _ d=>by simp only [free];exact free.none loc d
 | .own _ _=>by simp [free]
 | .al .. =>by simp [free]
 | .cut .. =>by simp only [free]
 | .rp .. =>by simp only [free]
 | .ptr .. =>by simp only [free]
 | .ep .. =>by simp [free]
 | .agg cs=>by simp only [free];exact kn.none loc 0 cs
 | .tup cs=>by simp only [free];exact kn.none _ 0 cs
 | .clo _ cs=>by simp only [free];exact kn.none _ 0 cs
 | .nilp=>by simp only [free]
theorem kn.none (loc:Nat->Loc): ∀(j:Nat) (ds:List D),kn (fun _=>False) loc j ds
 |_,[]=>by simp only [kn]
 |j,d::ds=>by simp only [kn];exact⟨free.none _ d,kn.none loc (j+1) ds⟩
end
mutual
theorem free.kill {touch:Loc->Prop} {p:Loc->Bool} (hp: ∀l,touch l->p l=true) (hn: ¬touch .nowhere) {loc:Nat->Loc} (hl: ∀j,¬touch (loc j)): ∀(d:D),free touch loc (iy p d)
 | .v _=>by simp only [iy,free]
 | .undef=>by simp only [iy,free]
 | .bad=>by simp only [iy,free]
 | .mb _ d=>by simp only [iy,free];exact free.kill hp hn hl d
 | .own _ _=>by simp only [iy,free];exact hl 0
 | .al full sz l src=>by
  simp only [iy]
  cases h:p src with
  |true=>simp only [cond_true,free]
  |false=>simp only [cond_false,free];exact fun ht=>by rw [hp _ ht] at h;cases h
 | .cut .. =>by simp only [iy,free]
 | .rp .. =>by simp only [iy,free]
 | .ptr .. =>by simp only [iy,free]
 | .ep src sz i off=>by
  simp only [iy]
  cases h:p src with
  |true=>simp only [cond_true,free]
  |false=>simp only [cond_false,free];exact fun ht=>by rw [hp _ ht] at h;cases h
 | .agg cs=>by simp only [iy,free];exact kn.kill hp hn hl 0 cs
 | .tup cs=>by simp only [iy,free];exact kn.kill hp hn (fun _=>hn) 0 cs
 | .clo _ cs=>by simp only [iy,free];exact kn.kill hp hn (fun _=>hn) 0 cs
 | .nilp=>by simp only [iy,free]
theorem kn.kill {touch:Loc->Prop} {p:Loc->Bool} (hp: ∀l,touch l->p l=true) (hn: ¬touch .nowhere) {loc:Nat->Loc} (hl: ∀j,¬touch (loc j)): ∀(j:Nat) (ds:List D),kn touch loc j (kt p ds)
 |_,[]=>by simp only [kt,kn]
 |j,d::ds=>by simp only [kt,kn];exact⟨free.kill hp hn (fun _=>hl j) d,kn.kill hp hn hl (j+1) ds⟩
end
mutual

theorem RD.kill {h:Array Obj} {G:Gh} {p:Loc->Bool} (loc:Nat->Loc): ∀(d:D) (v:Value),RD h G loc d v->RD h G loc (iy p d) v
 | .v _,_,hr=>by simpa only [iy] using hr
 | .undef,_,hr=>by simpa only [iy] using hr
 | .bad,_,hr=>by simpa only [iy] using hr
 | .mb _ d,v,hr=>by
  simp only [iy,RD] at*
  exact⟨fun hg=>RD.kill loc d v (hr.1 hg),hr.2⟩
 | .own _ _,_,hr=>by simpa only [iy] using hr
 | .al full sz l src,v,hr=>by
  simp only [iy]
  cases h:p src with
  |true=>simp only [cond_true,RD]
  |false=>simpa only [cond_false] using hr
 | .cut ..,_,hr=>by simpa only [iy] using hr
 | .rp ..,_,hr=>by simpa only [iy] using hr
 | .ptr ..,_,hr=>by simpa only [iy] using hr
 | .ep src sz i off,v,hr=>by
  simp only [iy]
  cases h:p src with
  |true=>simp only [cond_true,RD]
  |false=>simpa only [cond_false] using hr
 | .agg cs,v,hr=>by
  simp only [iy,RD] at*
  obtain⟨vs,h1,h2⟩:=hr
  exact⟨vs,h1,RDs.kill loc 0 cs _ h2⟩
 | .tup cs,v,hr=>by
  simp only [iy,RD] at*
  obtain⟨vs,h1,h2⟩:=hr
  exact⟨vs,h1,RDs.kill _ 0 cs _ h2⟩
 | .clo _ cs,v,hr=>by
  simp only [iy,RD] at*
  obtain⟨vs,h1,h2⟩:=hr
  exact⟨vs,h1,RDs.kill _ 0 cs _ h2⟩
 | .nilp,_,hr=>by simpa only [iy] using hr
theorem RDs.kill {h:Array Obj} {G:Gh} {p:Loc->Bool} (loc:Nat->Loc): ∀(j:Nat) (ds:List D) (vs:List Value),RDs h G loc j ds vs->RDs h G loc j (kt p ds) vs
 |_,[],[],_=>by simp only [kt,RDs]
 |j,d::ds,v::vs,hr=>by
  simp only [kt,RDs] at*
  exact⟨RD.kill _ d v hr.1,RDs.kill loc (j+1) ds vs hr.2⟩
 |_,[],_::_,hr=>by simp only [RDs] at hr
 |_,_::_,[],hr=>by simp only [RDs] at hr
end
theorem Hx {p:Loc->Bool} (d:D):bG (iy p d)=bG d:=by
 cases d with
 |al full sz l src=>simp only [iy];cases p src<;>rfl
 |ep src sz i off=>simp only [iy];cases p src<;>rfl
 |_=>simp only [iy,bG]
theorem AU {p:Loc->Bool} : ∀(cs:List D) (j:Nat),(kt p cs)[j]? =(cs[j]?).map (iy p)
 | [],_=>by simp [kt]
 |d::cs,0=>by simp [kt]
 |d::cs,j+1=>by simp [kt,AU cs j]
theorem free.stay {touch:Loc->Prop} {loc:Nat->Loc} {d:D} (h:bJ d=true):free touch loc d:=by
 cases d<;>simp_all [bJ,free]
theorem kn.stay {touch:Loc->Prop} {loc:Nat->Loc} : ∀(j:Nat) (ds:List D),ds.all bJ=true->kn touch loc j ds
 |_,[],_=>by simp only [kn]
 |j,d::ds,h=>by
  simp only [List.all_cons,Bool.and_eq_true] at h
  simp only [kn]
  exact⟨free.stay h.1,kn.stay (j+1) ds h.2⟩
theorem free.cell {touch:Loc->Prop} {loc:Nat->Loc} {d:D} (h:aM d=true) (hl:bG d=true-> ¬touch (loc 0)):free touch loc d:=by
 cases d with
 |own sz l=>simp only [free];exact hl rfl
 |clo f cs=>simp only [free];exact kn.stay 0 cs h
 |_=>exact free.stay h
theorem kn.cell {touch:Loc->Prop} {loc:Nat->Loc} : ∀(j:Nat) (ds:List D),ds.all aM=true->(∀i d,ds[i]? =some d->bG d=true-> ¬touch (loc (j+i)))->kn touch loc j ds
 |_,[],_,_=>by simp only [kn]
 |j,d::ds,h,hl=>by
  simp only [List.all_cons,Bool.and_eq_true] at h
  simp only [kn]
  refine⟨free.cell h.1 (fun ho=>by simpa using hl 0 d rfl ho),kn.cell (j+1) ds h.2 (fun i d' hd ho=>?_)⟩
  have:=hl (i+1) d' (by simpa using hd) ho
  rw [Nat.add_assoc,Nat.add_comm 1 i]
  exact this
theorem RDs.length {h:Array Obj} {G:Gh} (loc:Nat->Loc): ∀(j:Nat) (ds:List D) (vs:List Value),RDs h G loc j ds vs->vs.length=ds.length
 |_,[],[],_=>rfl
 |j,d::ds,v::vs,hr=>by simp only [RDs] at hr;simp [RDs.length loc (j+1) ds vs hr.2]
 |_,[],_::_,hr=>by simp only [RDs] at hr
 |_,_::_,[],hr=>by simp only [RDs] at hr
theorem RDs.get {h:Array Obj} {G:Gh} (loc:Nat->Loc): ∀(j:Nat) (ds:List D) (vs:List Value) (i:Nat) (d:D),RDs h G loc j ds vs->ds[i]? =some d-> ∃v,vs[i]? =some v/\RD h G (fun _=>loc (j+i)) d v
 |_,[],[],_,_,_,hd=>by simp at hd
 |j,d::ds,v::vs,0,x,hr,hd=>by
  simp only [RDs] at hr
  simp at hd;subst hd
  exact⟨v,rfl,hr.1⟩
 |j,d::ds,v::vs,i+1,x,hr,hd=>by
  simp only [RDs] at hr
  simp at hd
  obtain⟨w,h1,h2⟩:=RDs.get loc (j+1) ds vs i x hr.2 hd
  refine⟨w,by simpa using h1,?_⟩
  rw [Nat.add_assoc,Nat.add_comm 1 i] at h2
  exact h2
 |_,[],_::_,_,_,hr,_=>by simp only [RDs] at hr
 |_,_::_,[],_,_,hr,_=>by simp only [RDs] at hr
theorem RD.relocC {h:Array Obj} {G:Gh} {loc loc':Nat->Loc} {d:D} {v:Value} (hp:ay d=true) (hr:RD h G loc d v):RD h G loc' d v:=by
 cases d<;>simp_all [ay,RD]
theorem RDs.reloc {h:Array Obj} {G:Gh} {loc loc':Nat->Loc} : ∀(j j':Nat) (ds:List D) (vs:List Value),ds.all ay=true->RDs h G loc j ds vs->RDs h G loc' j' ds vs
 |_,_,[],[],_,_=>by simp only [RDs]
 |j,j',d::ds,v::vs,ho,hr=>by
  simp only [RDs,List.all_cons,Bool.and_eq_true] at*
  exact⟨RD.relocC ho.1 hr.1,RDs.reloc (j+1) (j'+1) ds vs ho.2 hr.2⟩
 |_,_,[],_::_,_,hr=>by simp only [RDs] at hr
 |_,_,_::_,[],_,hr=>by simp only [RDs] at hr
theorem RD.reloc {h:Array Obj} {G:Gh} {loc loc':Nat->Loc} {d:D} {v:Value} (hp:aA d=true) (hr:RD h G loc d v):RD h G loc' d v:=by
 cases d<;>simp_all [aA,RD]
 obtain⟨vs,h1,h2⟩:=hr
 exact⟨vs,h1,RDs.reloc 0 0 _ _ (by simpa using hp) h2⟩
theorem cJ (env:Env) (t u:Nat) (d:D):bI (put env t d) u=if t=u then d else bI env u:=by
 simp only [put,bI]
 by_cases h:t=u
 ·simp [h]
 ·have:(t==u)=false:=by simp [h]
  simp [h,this]
theorem fH (f:D->D) (hf:f .bad= .bad): ∀(env:Env) (t:Nat),bI (env.map fun e=>(e.1,f e.2)) t=f (bI env t)
 | [],_=>by simp [bI,hf]
 |(u,d)::r,t=>by
  simp only [List.map_cons,bI]
  cases h:u==t
  ·simpa using fH f hf r t
  ·simp
theorem cU (p:Loc->Bool) (env:Env) (t:Nat):bI (kill p env) t=iy p (bI env t):=fH _ rfl env t
end Go.Mx
namespace Go.Mx
open Go
section types
variable {P:Program} {t:TypeId}
theorem fM (h:(ck P t).agg=true): ∃i d,P.info? t=some i/\P.underlying t=some d/\d.isRow=true/\i.size=(ck P t).size/\i.bytes=(ck P t).bytes:=by
 unfold ck at*
 split at h<;>try (simp at h;done)
 rename_i i fl hi hf
 simp only [hi,hf]
 cases hz:i.zero with
 |none=>simp [hz] at h
 |some z=>
  simp only [hz] at h⊢
  cases hu:P.underlying t with
  |none=>simp [hu] at h
  |some d=>
   simp only [hu] at h⊢
   cases d<;>simp at h<;>exact⟨i,_,rfl,rfl,rfl,rfl,rfl⟩
theorem gr {k:Nat} (h:(ck P t).agg=false) (hf:(ck P t).flat= [k]): ∃i d,P.info? t=some i/\P.underlying t=some d/\d.isRow=false:=by
 unfold ck at*
 split at h<;>try (simp_all;done)
 rename_i i fl hi hfl
 simp only [hi,hfl] at*
 cases hz:i.zero with
 |none=>simp [hz] at hf
 |some z=>
  simp only [hz] at h hf⊢
  cases hu:P.underlying t with
  |none=>simp [hu] at hf
  |some d=>
   simp only [hu] at h hf⊢
   cases d<;>simp at h hf<;>exact⟨i,_,rfl,rfl,rfl⟩
theorem zD {fs:List (Nat×Nat)} (h:(ck P t).tk= .struct fs): ∃i fs0,P.info? t=some i/\P.underlying t=some (.struct fs0)/\fs=fs0.toList.map (fun f=>(f.offset,f.type))/\(ck P t).agg=true:=by
 unfold ck at*
 split at h<;>try (simp at h;done)
 rename_i i fl hi hf
 simp only [hi,hf]
 cases hz:i.zero with
 |none=>simp [hz] at h
 |some z=>
  simp only [hz] at h⊢
  cases hu:P.underlying t with
  |none=>simp [hu] at h
  |some d=>
   simp only [hu] at h⊢
   cases d<;>simp at h
   exact⟨i,_,rfl,rfl,h.symm,rfl⟩
theorem dw {e:Nat} (h:(ck P t).tk= .slice e): ∃i,P.info? t=some i/\P.underlying t=some (.slice e):=by
 unfold ck at*
 split at h<;>try (simp at h;done)
 rename_i i fl hi hf
 cases hz:i.zero with
 |none=>simp [hz] at h
 |some z=>
  simp only [hz] at h
  cases hu:P.underlying t with
  |none=>simp [hu] at h
  |some d=>
   simp only [hu] at h
   cases d<;>simp at h
   subst h
   exact⟨i,hi,rfl⟩
theorem gN {n e:Nat} (h:(ck P t).tk= .array n e): ∃i,P.info? t=some i/\P.underlying t=some (.array n e):=by
 unfold ck at*
 split at h<;>try (simp at h;done)
 rename_i i fl hi hf
 cases hz:i.zero with
 |none=>simp [hz] at h
 |some z=>
  simp only [hz] at h
  cases hu:P.underlying t with
  |none=>simp [hu] at h
  |some d=>
   simp only [hu] at h
   cases d<;>simp at h
   obtain⟨rfl,rfl⟩:=h
   exact⟨i,hi,rfl⟩
theorem gT {k:IntKind} (h:(ck P t).tk= .int k): ∃i,P.info? t=some i/\P.underlying t=some (.int k):=by
 unfold ck at*
 split at h<;>try (simp at h;done)
 rename_i i fl hi hf
 cases hz:i.zero with
 |none=>simp [hz] at h
 |some z=>
  simp only [hz] at h
  cases hu:P.underlying t with
  |none=>simp [hu] at h
  |some d=>
   simp only [hu] at h
   cases d<;>simp at h
   subst h
   exact⟨i,hi,rfl⟩
theorem eY (h:(ck P t).tk= .str): ∃i,P.info? t=some i/\P.underlying t=some .string:=by
 unfold ck at*
 split at h<;>try (simp at h;done)
 rename_i i fl hi hf
 cases hz:i.zero with
 |none=>simp [hz] at h
 |some z=>
  simp only [hz] at h
  cases hu:P.underlying t with
  |none=>simp [hu] at h
  |some d=>
   simp only [hu] at h
   cases d<;>simp at h
   exact⟨i,hi,rfl⟩
theorem fF (h:(ck P t).flat≠ []): ∃i,P.info? t=some i/\(ck P t).size=i.size/\(ck P t).bytes=i.bytes:=by
 unfold ck at*
 cases hi:P.info? t with
 |none=>simp [hi] at h
 |some i=>
  cases hf:BH P 12 t with
  |none=>simp [hi,hf] at h
  |some fl=>
   simp only [hi,hf] at h⊢
   refine⟨i,rfl,?_⟩
   cases hz:i.zero with
   |none=>simp [hz] at h
   |some z=>
    simp only [hz] at h⊢
    cases hu:P.underlying t with
    |none=>simp [hu] at h
    |some d=>
     simp only [hu] at h⊢
     cases d<;>simp at h⊢
end types
end Go.Mx
namespace Go.Mx
open Go
def zO:Nat->Value->Value->Option Bool
 |1,.bool x,.bool y=>some (x==y)
 |2,.int k x,.int k' y=>if k=k' then some (x==y) else none
 |3,.string x,.string y=>some (x.toList==y.toList)
 |_,_,_=>none
def dz:List Nat->List Value->List Value->Option Bool
 | [],[],[]=>some true
 |k::ks,x::r,y::s=>match zO k x y with
  |some p=>match dz ks r s with
   |some q=>some (p&&q)
   |none=>none
  |none=>none
 |_,_,_=>none
theorem fA: ∀(ks:List Nat) (xs ys:List Value) (q:Bool),dz ks xs ys=some q->xs.length=ks.length/\ys.length=ks.length
 | [],[],[],_,_=>⟨rfl,rfl⟩
 |k::ks,x::r,y::s,q,h=>by
  simp only [dz] at h
  split at h<;>try (simp at h;done)
  split at h<;>try (simp at h;done)
  rename_i _ hq
  have:=fA ks r s _ hq
  simp [this]
 | [],[],_::_,_,h=>by simp [dz] at h
 | [],_::_,_,_,h=>by simp [dz] at h
 |_::_,[],_,_,h=>by simp [dz] at h
 |_::_,_::_,[],_,h=>by simp [dz] at h
theorem gK: ∀(k1 k2:List Nat) (xs ys:List Value) (q:Bool),dz (k1++k2) xs ys=some q->
  ∃p r,dz k1 (xs.take k1.length) (ys.take k1.length)=some p/\dz k2 (xs.drop k1.length) (ys.drop k1.length)=some r/\q=(p&&r)
 | [],k2,xs,ys,q,h=>⟨true,q,by simp [dz],by simpa using h,by simp⟩
 |k::k1,k2,x::xs,y::ys,q,h=>by
  simp only [List.cons_append,dz] at h
  split at h<;>try (simp at h;done)
  rename_i p hp
  split at h<;>try (simp at h;done)
  rename_i q' hq'
  obtain⟨p2,r,h1,h2,h3⟩:=gK k1 k2 xs ys q' hq'
  refine⟨p&&p2,r,?_,by simpa using h2,?_⟩
  ·simp [dz,hp,h1]
  ·simp at h;rw [<-h,h3,Bool.and_assoc]
 |_::_,_,[],_,_,h=>by simp [dz] at h
 |_::_,_,_::_,[],_,h=>by simp [dz] at h
section
variable {P:Program}
def AM (P:Program) (t:TypeId) (c:List Value) (v:Value):Prop:=
 (∃fs,P.underlying t=some (.struct fs)/\v= .agg c.toArray)∨((∀d,P.underlying t=some d->d.isRow=false)/\c= [v])
theorem Mz {n:Nat} (w:World) (t:TypeId) (cs:Array Value) (off:Nat) {i:TypeInfo} {d:TypeDesc} (hi:P.info? t=some i) (hu:P.underlying t=some d) {ks:List Nat}
  (hk:ed P n t=some ks) (hs:ks.length=i.size) (hl:off+ks.length<=cs.size):
  ∃v,(part t cs off).run P w= .ok v w/\AM P t ((cs.toList.drop off).take ks.length) v:=by
 cases n with
 |zero=>simp [ed] at hk
 |succ n=>
  simp only [ed,hu] at hk
  cases d with
  |bool=>
   simp at hk;subst hk
   have:off<cs.size:=by simp at hl;omega
   refine⟨cs[off],?_,.inr ⟨fun d hd=>by rw [hu] at hd;cases hd;rfl,?_⟩⟩
   ·simp [part,isAgg,run_underlying hu,this]
   ·simp [List.take_one,List.head?_drop,this]
  |int k=>
   simp at hk;subst hk
   have:off<cs.size:=by simp at hl;omega
   refine⟨cs[off],?_,.inr ⟨fun d hd=>by rw [hu] at hd;cases hd;rfl,?_⟩⟩
   ·simp [part,isAgg,run_underlying hu,this]
   ·simp [List.take_one,List.head?_drop,this]
  |string=>
   simp at hk;subst hk
   have:off<cs.size:=by simp at hl;omega
   refine⟨cs[off],?_,.inr ⟨fun d hd=>by rw [hu] at hd;cases hd;rfl,?_⟩⟩
   ·simp [part,isAgg,run_underlying hu,this]
   ·simp [List.take_one,List.head?_drop,this]
  |struct fs=>
   refine⟨.agg (cs.extract off (off+i.size)),?_,.inl ⟨fs,hu,?_⟩⟩
   ·simp [part,isAgg,run_underlying hu,sizeOf,typeInfo,hi]
   ·congr 1
    apply Array.ext'
    simp [hs,List.extract_eq_take_drop]
  |_=>simp at hk
theorem KO: ∀(d:Nat) (t:TypeId) (ks:List Nat),ed P d t=some ks-> ∃u,P.underlying t=some u/\(u.isRow=false->ks.length=1)
 |0,_,_,h=>by simp [ed] at h
 |d+1,t,ks,h=>by
  simp only [ed] at h
  cases hu:P.underlying t with
  |none=>simp [hu] at h
  |some u=>
   simp only [hu] at h
   refine⟨u,rfl,fun hr=>?_⟩
   cases u<;>simp at h hr<;>(subst h;rfl)
theorem Jx (w : World) (D : Nat) (rec : TypeId -> Option (List Nat)) (xs ys : Array Value)
    (hrec : ∀ t ks, rec t = some ks -> (∃ n, ed P n t = some ks) /\ ∀ c1 c2 v1 v2 q, AM P t c1 v1 -> AM P t c2 v2 -> dz ks c1 c2 = some q -> (Op.equalIn D t v1 v2).run P w = .ok q w) :
    ∀ (fs : List Field) (off : Nat) (ks : List Nat) (q : Bool), Bj P rec fs off = some ks -> dz ks (xs.toList.drop off) (ys.toList.drop off) = some q ->
      (Op.eqFields D xs ys fs).run P w = .ok q w
  | [], off, ks, q, hk, hq => by
    simp [Bj] at hk; subst hk
    have := fA _ _ _ _ hq
    cases h1 : xs.toList.drop off <;> cases h2 : ys.toList.drop off <;> simp_all [dz]
    subst hq
    simp [Op.eqFields]
  | f :: fs, off, ks, q, hk, hq => by
    simp only [Bj] at hk
    cases hn : (f.name == "_" || !(f.offset == off)) with
    | true => simp [hn] at hk
    | false =>
      simp only [hn, cond_false] at hk
      simp at hn
      obtain ⟨hn, hoff⟩ := hn
      cases hr : rec f.type with
      | none => simp [hr] at hk
      | some x =>
        simp only [hr] at hk
        cases hl : x.length == P.cellsOf f.type with
        | false => simp [hl] at hk
        | true =>
          simp only [hl, cond_true] at hk
          simp at hl
          cases hy : Bj P rec fs (off + x.length) with
          | none => simp [hy] at hk
          | some y =>
            simp only [hy] at hk
            cases hk
            obtain ⟨p, r, h1, h2, rfl⟩ := gK x y _ _ _ hq
            obtain ⟨⟨n, hn'⟩, hrec'⟩ := hrec f.type x hr
            have hlen := fA _ _ _ _ h1
            simp at hlen
            obtain ⟨u, hu, hone⟩ := KO n f.type x hn'
            have hpart : ∀ cs : Array Value, off + x.length <= cs.size -> ∃ v, (part f.type cs f.offset).run P w = .ok v w /\ AM P f.type ((cs.toList.drop off).take x.length) v := by
              intro cs hcs
              rw [hoff]
              cases hi : P.info? f.type with
              | some i => exact Mz w f.type cs off hi hu hn' (by rw [hl]; simp [Program.cellsOf, hi]) hcs
              | none =>
                have : P.cellsOf f.type = 0 := by simp [Program.cellsOf, hi]
                have hx0 : x.length = 0 := by omega
                have : u.isRow = true := by
                  cases hrr : u.isRow with
                  | true => rfl
                  | false => have := hone hrr; omega
                exfalso
                unfold Program.underlying at hu
                simp [hi] at hu
            have hs1 : off + x.length <= xs.size ∨ x.length = 0 := by have := hlen.1; omega
            have hs2 : off + x.length <= ys.size ∨ x.length = 0 := by have := hlen.2; omega
            have hpart' : ∀ cs : Array Value, (off + x.length <= cs.size ∨ x.length = 0) -> ∃ v, (part f.type cs f.offset).run P w = .ok v w /\ AM P f.type ((cs.toList.drop off).take x.length) v := by
              intro cs hcs
              rcases hcs with hcs | h0
              . exact hpart cs hcs
              . -- no cells: an empty struct
                cases hu' : u with
                | struct fs0 =>
                  subst hu'
                  cases hi : P.info? f.type with
                  | none => unfold Program.underlying at hu; simp [hi] at hu
                  | some i =>
                    refine ⟨.agg (cs.extract f.offset (f.offset + i.size)), ?_, .inl ⟨fs0, hu, ?_⟩⟩
                    . simp [part, isAgg, run_underlying hu, sizeOf, typeInfo, hi]
                    . have : i.size = 0 := by rw [h0] at hl; simp [Program.cellsOf, hi] at hl; omega
                      simp [this, h0]
                      omega
                | array len e =>
                  subst hu'
                  cases n with
                  | zero => simp [ed] at hn'
                  | succ n => simp [ed, hu] at hn'
                | _ => subst hu'; have := hone rfl; omega
            obtain ⟨va, ha, ia⟩ := hpart' xs hs1
            obtain ⟨vb, hb, ib⟩ := hpart' ys hs2
            have he := hrec' _ _ va vb p ia ib h1
            have ih := Jx w D rec xs ys hrec fs (off + x.length) y r hy (by simpa [List.drop_drop] using h2)
            simp only [Op.eqFields]
            rw [if_pos hn]
            simp only [Sem.run_bind, ha, hb, he, Result.andThen_ok]
            cases p
            . simp
            . simp [ih]
theorem Ba (w:World): ∀(d:Nat) (t:TypeId) (ks:List Nat),ed P d t=some ks-> ∀(D:Nat),d<=D-> ∀c1 c2 v1 v2 q,AM P t c1 v1->AM P t c2 v2->dz ks c1 c2=some q->
  (Op.equalIn D t v1 v2).run P w= .ok q w
 |0,_,_,h,_,_,_,_,_,_,_,_,_,_=>by simp [ed] at h
 |d+1,t,ks,h,D,hD,c1,c2,v1,v2,q,i1,i2,hq=>by
  obtain⟨D,rfl⟩: ∃m,D=m+1:=⟨D-1,by omega⟩
  simp only [ed] at h
  cases hu:P.underlying t with
  |none=>simp [hu] at h
  |some u=>
   simp only [hu] at h
   cases u with
   |struct fs=>
    simp only at h
    cases hs:P.stoodInHeld t with
    |true=>simp [hs] at h
    |false=>
     simp only [hs,cond_false] at h
     cases hf:Bj P (ed P d) fs.toList 0 with
     |none=>simp [hf] at h
     |some x=>
      simp only [hf] at h
      have hx:x=ks:=by
       cases hc:(x.length==P.cellsOf t&& !P.eqGuardType P.depth t)<;>simp [hc] at h
       exact h
      subst hx
      have g1:v1= .agg c1.toArray:=by
       rcases i1 with⟨_,_,h1⟩|⟨h1,_⟩
       ·exact h1
       ·have:=h1 _ hu;simp at this
      have g2:v2= .agg c2.toArray:=by
       rcases i2 with⟨_,_,h1⟩|⟨h1,_⟩
       ·exact h1
       ·have:=h1 _ hu;simp at this
      subst g1;subst g2
      have hfo:P.fieldsOf t=fs:=by simp [Program.fieldsOf,hu]
      rw [run_equalIn_struct w D t _ _ (by rw [hfo];exact hu) hs,hfo]
      refine Jx w D (ed P d) _ _ (fun t' ks' hk'=>⟨⟨d,hk'⟩,fun a b va vb q' ja jb jq=>Ba w d t' ks' hk' D (by omega) a b va vb q' ja jb jq⟩) fs.toList 0 x q hf (by simpa using hq)
   |bool=>
    simp at h;subst h
    have e1:c1= [v1]:=by
     rcases i1 with⟨_,h1,_⟩|⟨_,h1⟩
     ·rw [hu] at h1;cases h1
     ·exact h1
    have e2:c2= [v2]:=by
     rcases i2 with⟨_,h1,_⟩|⟨_,h1⟩
     ·rw [hu] at h1;cases h1
     ·exact h1
    subst e1;subst e2
    cases v1<;>cases v2<;>simp [dz,zO] at hq
    subst hq
    simp [Op.equalIn,run_underlying hu]
   |int k=>
    simp at h;subst h
    have e1:c1= [v1]:=by
     rcases i1 with⟨_,h1,_⟩|⟨_,h1⟩
     ·rw [hu] at h1;cases h1
     ·exact h1
    have e2:c2= [v2]:=by
     rcases i2 with⟨_,h1,_⟩|⟨_,h1⟩
     ·rw [hu] at h1;cases h1
     ·exact h1
    subst e1;subst e2
    cases v1<;>cases v2<;>simp [dz,zO] at hq
    rename_i k1 n1 k2 n2
    by_cases hkk:k1=k2
    ·subst hkk
     simp at hq
     subst hq
     simp [Op.equalIn,run_underlying hu]
    ·simp [hkk] at hq
   |string=>
    simp at h;subst h
    have e1:c1= [v1]:=by
     rcases i1 with⟨_,h1,_⟩|⟨_,h1⟩
     ·rw [hu] at h1;cases h1
     ·exact h1
    have e2:c2= [v2]:=by
     rcases i2 with⟨_,h1,_⟩|⟨_,h1⟩
     ·rw [hu] at h1;cases h1
     ·exact h1
    subst e1;subst e2
    cases v1<;>cases v2<;>simp [dz,zO] at hq
    subst hq
    simp [Op.equalIn,run_underlying hu,beq_toListBytes]
   |_=>simp at h
end
end Go.Mx
namespace Go.Mx
open Go
section
variable {P:Program} {h:Array Obj} {G:Gh} {tmps:Array Value} {σ:St}
theorem RD.ofCell (loc:Nat->Loc) (v:Value):RD h G loc (ofCell v) v:=by
 unfold Mx.ofCell
 split<;>simp only [RD,RV]
 exact .inl ⟨rfl,rfl⟩
theorem RDs.ofCells (loc:Nat->Loc): ∀(j:Nat) (vs:List Value),RDs h G loc j (vs.map Mx.ofCell) vs
 |_,[]=>by simp only [List.map_nil,RDs]
 |j,v::vs=>by simp only [List.map_cons,RDs];exact⟨RD.ofCell _ v,RDs.ofCells loc (j+1) vs⟩
theorem RD.ofConst (loc:Nat->Loc) (v:Value):RD h G loc (ofConst v) v:=by
 unfold Mx.ofConst
 split
 ·rename_i cs
  simp only [RD]
  exact⟨cs,rfl,RDs.ofCells loc 0 _⟩
 ·exact RD.ofCell loc v
def JF:Operand->Nat->Loc
 | .tmp t=>Loc.reg t
 |_=>Loc.reg 0
theorem Rel.opnd (R:Rel h G tmps σ) (ds:List Deferred) (x:Operand):RD h G (JF x) (opnd σ.env x) ((⟨tmps,ds⟩:Act).eval x):=by
 cases x with
 |tmp t=>exact R.env t
 |const v=>exact RD.ofConst _ v
 |global g=>simp only [Mx.opnd,RD]
 |func f=>
  simp only [Mx.opnd,RD,Act.eval]
  exact⟨#[],rfl,by simp only [RDs]⟩
def ey:D->Bool
 | .mb .. | .undef| .bad=>false
 |_=>true
theorem fK {d d':D} (hf:bQ d=some d'):d'=d/\ey d=true:=by
 cases d<;>simp [bQ] at hf<;>exact⟨hf.symm,rfl⟩
theorem fR {loc:Nat->Loc} {d d':D} {v:Value} (hf:bl true d=some d') (hr:RD h G loc d v):RD h G loc d' v/\ey d'=true:=by
 cases d with
 |mb g d=>
  simp only [bl] at hf
  cases g with
  |false=>simp at hf
  |true=>
   simp only [Bool.or_true,cond_true] at hf
   cases hof:aA d with
   |false=>simp [hof] at hf
   |true=>
    simp only [hof,cond_true] at hf
    obtain⟨rfl,hk⟩:=fK hf
    simp only [RD] at hr
    exact⟨by simpa using hr.1,hk⟩
 |_=>
  simp only [bl] at hf
  obtain⟨rfl,hk⟩:=fK hf
  exact⟨hr,hk⟩
theorem yX {d d':D} (hf:bl true d=some d'):(d=d'/\ey d=true)∨(aA d'=true/\ ∃g,d= .mb g d'):=by
 cases d with
 |mb g d=>
  right
  cases g<;>cases hof:aA d<;>simp only [hof,bl,Bool.or_true,Bool.or_self,Bool.not_true,cond_true,cond_false] at hf
  ·cases hf
  ·cases hf
  ·cases hf
  ·obtain⟨rfl,hk⟩:=fK hf;exact⟨hof,true,rfl⟩
 |_=>left;simp only [bl] at hf;obtain⟨rfl,hk⟩:=fK hf;exact⟨rfl,hk⟩
theorem Rel.opndF (R:Rel h G tmps σ) (ds:List Deferred) {x:Operand} {d:D} (hf:bl true (Mx.opnd σ.env x)=some d):RD h G (JF x) d ((⟨tmps,ds⟩:Act).eval x):=
 (fR hf (R.opnd ds x)).1
theorem fj {d d':D} (hf:bl true d=some d'):ey d'=true:=by
 cases d with
 |mb g d=>
  cases g<;>cases hof:aA d<;>simp only [hof,bl,Bool.or_true,Bool.or_self,Bool.not_true,cond_true,cond_false] at hf
  ·cases hf
  ·cases hf
  ·cases hf
  ·obtain⟨rfl,hk⟩:=fK hf;exact hk
 |_=>simp only [bl] at hf;obtain⟨rfl,hk⟩:=fK hf;exact hk
def scal:V->Value
 | .b x=>.bool x
 | .i k n=>.int k n
 | .s x=>.string x
 | .sl .. =>undef
theorem RV.scal {rd:Rd} {x:V} {v:Value} (hx:bR x=true) (h:RV rd x v):v=scal x:=by
 cases x<;>simp_all [RV,Mx.scal,bR]
theorem RV.ofScal {rd:Rd} {x:V} (hx:bR x=true):RV rd x (Mx.scal x):=by
 cases x<;>simp_all [RV,Mx.scal,bR]
theorem Qp {op:BinOp} {x y z:V} {vx vy:Value} (t:TypeId) (w:World) (hx:RV G.rd x vx) (hy:RV G.rd y vy) (hb:cB op x y=some z):
  (Go.binOp op t vx vy).run P w= .ok (scal z) w/\bR z=true/\bR x=true:=by
 cases x<;>cases y<;>simp only [cB] at hb<;>try (simp at hb;done)
 case i.i k a k' b=>
  simp only [RV] at hx hy
  subst hx;subst hy
  by_cases hs:op= .shl∨op= .shr
  ·rcases hs with rfl|rfl
   ·simp only [cy] at hb
    cases h:decide (0<=b) with
    |false=>rw [h] at hb;cases hb
    |true=>
     rw [h,cond_true] at hb
     have: ¬b<0:=by have:=of_decide_eq_true h;omega
     cases hb
     exact⟨by simp [Go.binOp,Op.shift,this,scal],rfl,rfl⟩
   ·simp only [cy] at hb
    cases h:decide (0<=b) with
    |false=>rw [h] at hb;cases hb
    |true=>
     rw [h,cond_true] at hb
     have: ¬b<0:=by have:=of_decide_eq_true h;omega
     cases hb
     exact⟨by simp [Go.binOp,Op.shift,this,scal],rfl,rfl⟩
  ·have e:cy k k' a b op=if k=k' then cx k a b op else none:=by
    cases op<;>first|rfl|simp at hs
   rw [e] at hb
   by_cases hk:k=k'
   ·subst hk
    simp only [if_true] at hb
    by_cases hd:op= .quo∨op= .rem
    ·rcases hd with rfl|rfl
     ·simp only [cx] at hb
      cases h:(b==0) with
      |true=>rw [h] at hb;cases hb
      |false=>
       rw [h,cond_false] at hb
       have:b≠0:=by simpa using h
       cases hb
       exact⟨by simp [Go.binOp,Op.intDiv,this,scal],rfl,rfl⟩
     ·simp only [cx] at hb
      cases h:(b==0) with
      |true=>rw [h] at hb;cases hb
      |false=>
       rw [h,cond_false] at hb
       have:b≠0:=by simpa using h
       cases hb
       exact⟨by simp [Go.binOp,Op.intDiv,this,scal],rfl,rfl⟩
    ·cases op<;>first|(exfalso;simp at hs hd;done)|(simp only [cx] at hb;first|(simp at hb;done)|(cases hb;exact⟨by simp [Go.binOp,Op.intArith,Op.intCmp,Op.intBits,scal],rfl,rfl⟩))
   ·simp [hk] at hb
 case s.s p q=>
  simp only [RV] at hx hy
  subst hx;subst hy
  cases op<;>simp only at hb<;>first|(simp at hb;done)|(cases hb;exact⟨by simp [Go.binOp,Op.stringOp,scal],rfl,rfl⟩)
theorem gM (w:World) (op:BinOp) (t:TypeId) (x y:Operand) (a b:Value) (ha:a≠ .nilIface) (hg: ∀c,a≠ .agg c):(eqGuard op t x y a b).run P w= .ok () w:=by
 unfold eqGuard
 cases op<;>simp<;>(cases a<;>simp_all)
theorem Vn {k:Nat} {x y:V} {vx vy:Value} {p:Bool} (hx:RV G.rd x vx) (hy:RV G.rd y vy) (hb:eqC k x y=some p):zO k vx vy=some p:=by
 unfold eqC at hb
 split at hb
 ·simp only [RV] at hx hy;subst hx;subst hy;simpa [zO] using hb
 ·simp only [RV] at hx hy;subst hx;subst hy;simpa [zO] using hb
 ·simp only [RV] at hx hy;subst hx;subst hy;simpa [zO] using hb
 ·simp at hb
theorem AG {loc loc':Nat->Loc} : ∀(ks:List Nat) (j j':Nat) (xs ys:List D) (vx vy:List Value) (q:Bool),RDs h G loc j xs vx->RDs h G loc' j' ys vy->aG ks xs ys=some q->dz ks vx vy=some q
 | [],_,_,[],[],[],[],q,_,_,hq=>by simpa [aG,dz] using hq
 |k::ks,j,j',.v x::xs,.v y::ys,vx::vxs,vy::vys,q,hx,hy,hq=>by
  simp only [aG] at hq
  simp only [RDs,RD] at hx hy
  split at hq<;>try (simp at hq;done)
  rename_i p hp
  split at hq<;>try (simp at hq;done)
  rename_i r hr
  simp only [dz,Vn hx.1 hy.1 hp,AG ks (j+1) (j'+1) xs ys vxs vys r hx.2 hy.2 hr]
  exact hq
 | [],_,_,[],[],[],_::_,_,_,hy,_=>by simp only [RDs] at hy
 | [],_,_,[],[],_::_,_,_,hx,_,_=>by simp only [RDs] at hx
 | [],_,_,[],_::_,_,_,_,_,_,hq=>by simp [aG] at hq
 | [],_,_,_::_,_,_,_,_,_,_,hq=>by simp [aG] at hq
 |_::_,_,_,[],_,_,_,_,_,_,hq=>by simp [aG] at hq
 |_::_,_,_,_::_,[],_,_,_,_,_,hq=>by simp [aG] at hq
 |_::_,_,_,.v _::_,.v _::_,[],_,_,hx,_,_=>by simp only [RDs] at hx
 |_::_,_,_,.v _::_,.v _::_,_::_,[],_,_,hy,_=>by simp only [RDs] at hy
 |_::_,_,_,.v _::_,.undef::_,_,_,_,_,_,hq=>by simp [aG] at hq
 |_::_,_,_,.v _::_,.bad::_,_,_,_,_,_,hq=>by simp [aG] at hq
 |_::_,_,_,.v _::_,.mb .. ::_,_,_,_,_,_,hq=>by simp [aG] at hq
 |_::_,_,_,.v _::_,.own .. ::_,_,_,_,_,_,hq=>by simp [aG] at hq
 |_::_,_,_,.v _::_,.al .. ::_,_,_,_,_,_,hq=>by simp [aG] at hq
 |_::_,_,_,.v _::_,.cut .. ::_,_,_,_,_,_,hq=>by simp [aG] at hq
 |_::_,_,_,.v _::_,.rp .. ::_,_,_,_,_,_,hq=>by simp [aG] at hq
 |_::_,_,_,.v _::_,.ptr .. ::_,_,_,_,_,_,hq=>by simp [aG] at hq
 |_::_,_,_,.v _::_,.ep .. ::_,_,_,_,_,_,hq=>by simp [aG] at hq
 |_::_,_,_,.v _::_,.agg .. ::_,_,_,_,_,_,hq=>by simp [aG] at hq
 |_::_,_,_,.v _::_,.tup .. ::_,_,_,_,_,_,hq=>by simp [aG] at hq
 |_::_,_,_,.v _::_,.clo .. ::_,_,_,_,_,_,hq=>by simp [aG] at hq
 |_::_,_,_,.v _::_,.nilp::_,_,_,_,_,_,hq=>by simp [aG] at hq
 |_::_,_,_,.undef::_,_::_,_,_,_,_,_,hq=>by simp [aG] at hq
 |_::_,_,_,.bad::_,_::_,_,_,_,_,_,hq=>by simp [aG] at hq
 |_::_,_,_,.mb .. ::_,_::_,_,_,_,_,_,hq=>by simp [aG] at hq
 |_::_,_,_,.own .. ::_,_::_,_,_,_,_,_,hq=>by simp [aG] at hq
 |_::_,_,_,.al .. ::_,_::_,_,_,_,_,_,hq=>by simp [aG] at hq
 |_::_,_,_,.cut .. ::_,_::_,_,_,_,_,_,hq=>by simp [aG] at hq
 |_::_,_,_,.rp .. ::_,_::_,_,_,_,_,_,hq=>by simp [aG] at hq
 |_::_,_,_,.ptr .. ::_,_::_,_,_,_,_,_,hq=>by simp [aG] at hq
 |_::_,_,_,.ep .. ::_,_::_,_,_,_,_,_,hq=>by simp [aG] at hq
 |_::_,_,_,.agg .. ::_,_::_,_,_,_,_,_,hq=>by simp [aG] at hq
 |_::_,_,_,.tup .. ::_,_::_,_,_,_,_,_,hq=>by simp [aG] at hq
 |_::_,_,_,.clo .. ::_,_::_,_,_,_,_,_,hq=>by simp [aG] at hq
 |_::_,_,_,.nilp::_,_::_,_,_,_,_,_,hq=>by simp [aG] at hq
theorem Gt {d:Nat} {t:TypeId} {ks:List Nat} {u:TypeDesc} (he:ed P d t=some ks) (hu:P.underlying t=some u) (hr:u.isRow=true):P.eqGuardType P.depth t=false:=by
 cases d with
 |zero=>simp [ed] at he
 |succ d=>
  simp only [ed,hu] at he
  cases u<;>simp at he hr
  cases hs:P.stoodInHeld t<;>simp [hs] at he
  split at he<;>try (simp at he;done)
  cases hg:P.eqGuardType P.depth t with
  |false=>rfl
  |true=>simp [hg] at he
theorem Oo {t:TypeId} (ha:(ck P t).agg=true) (hk:(ck P t).eqk≠ []):ed P 12 t=some (ck P t).eqk/\(∃fs,P.underlying t=some (.struct fs))/\P.eqGuardType P.depth t=false:=by
 obtain⟨i,d,h1,h2,h3,_⟩:=fM ha
 have key:(ck P t).eqk=(ed P 12 t).getD []/\ ∃fs,P.underlying t=some (.struct fs):=by
  unfold ck at*
  split at hk<;>try (simp at hk;done)
  rename_i i fl hi hfl
  simp only [hi,hfl] at*
  cases hz:i.zero with
  |none=>simp [hz] at hk
  |some z=>
   simp only [hz] at hk⊢
   simp only [h2] at hk⊢
   cases d<;>simp at hk h3⊢
 cases he:ed P 12 t with
 |none=>simp [key.1,he] at hk
 |some ks=>exact⟨by simp [key.1,he],key.2,Gt he h2 h3⟩
theorem Da {t:TypeId} (h:(ck P t).tk= .bool):P.underlying t=some .bool:=by
 unfold ck at*
 split at h<;>try (simp at h;done)
 rename_i i fl hi hf
 cases hz:i.zero with
 |none=>simp [hz] at h
 |some z=>
  simp only [hz] at h
  cases hu:P.underlying t with
  |none=>simp [hu] at h
  |some d=>
   simp only [hu] at h
   cases d<;>simp at h
   rfl
theorem zA (w:World) {t:TypeId} (p q:Bool) (hu:P.underlying t=some .bool):(Op.equal t (.bool p) (.bool q)).run P w= .ok (p==q) w:=by
 have:Op.equal t (.bool p) (.bool q)=Op.equalIn (9999+1) t (.bool p) (.bool q):=rfl
 rw [this]
 exact run_equalIn_bool w 9999 t p q hu
theorem OZ {op:BinOp} {x y d:D} {vx vy:Value} {lx ly:Nat->Loc} (t:TypeId) (w:World) (ox oy:Operand) (hx:RD h G lx x vx) (hy:RD h G ly y vy) (hb:cz (ck P t) op x y=some d):
  ∃z,d= .v z/\bR z=true/\(do eqGuard op t ox oy vx vy;Go.binOp op t vx vy:Sem Value).run P w= .ok (scal z) w:=by
 unfold cz at hb
 split at hb
 ·rename_i x y
  simp only [RD] at hx hy
  split at hb
  ·rename_i z hz
   cases hb
   obtain⟨h1,h2,h3⟩:=Qp t w hx hy hz
   refine⟨z,rfl,h2,?_⟩
   have hv:=RV.scal h3 hx
   rw [Sem.run_bind,gM w op t ox oy vx vy (by rw [hv];cases x<;>simp [scal,bR] at h3⊢) (by rw [hv];intro c;cases x<;>simp [scal,bR] at h3⊢)]
   exact h1
  ·split at hb<;>try (simp at hb;done)
   ·rename_i htk _
    simp only [RV] at hx hy
    subst hx;subst hy
    cases hb
    refine⟨_,rfl,rfl,?_⟩
    rw [Sem.run_bind,gM w .eql t ox oy _ _ (by simp) (by simp)]
    simp only [Result.andThen_ok,Go.binOp]
    rw [Sem.run_bind,zA w _ _ (Da htk)]
    rfl
   ·rename_i htk _
    simp only [RV] at hx hy
    subst hx;subst hy
    cases hb
    refine⟨_,rfl,rfl,?_⟩
    rw [Sem.run_bind,gM w .neq t ox oy _ _ (by simp) (by simp)]
    simp only [Result.andThen_ok,Go.binOp]
    rw [Sem.run_bind,zA w _ _ (Da htk)]
    rfl
 ·rename_i xs ys
  cases ha:((ck P t).agg&& !(ck P t).eqk.isEmpty) with
  |false=>simp [ha] at hb
  |true=>
   simp only [ha,cond_true] at hb
   simp at ha
   obtain⟨he,⟨fs,hu⟩,hg⟩:=Oo ha.1 ha.2
   simp only [RD] at hx hy
   obtain⟨vx',rfl,hx⟩:=hx
   obtain⟨vy',rfl,hy⟩:=hy
   have main: ∀q,aG (ck P t).eqk xs ys=some q->(Op.equalIn 10000 t (.agg vx') (.agg vy')).run P w= .ok q w:=fun q hq=>
    Ba w 12 t _ he 10000 (by omega) vx'.toList vy'.toList _ _ q (.inl ⟨fs,hu,by simp⟩) (.inl ⟨fs,hu,by simp⟩) (AG _ _ _ _ _ _ _ _ hx hy hq)
   split at hb
   ·split at hb<;>try (simp at hb;done)
    rename_i q hq
    cases hb
    refine⟨_,rfl,rfl,?_⟩
    rw [Sem.run_bind,run_eqGuard_agg w .eql t ox oy vx' vy' hg]
    simp only [Result.andThen_ok]
    rw [run_eql_struct,main q hq]
    rfl
   ·split at hb<;>try (simp at hb;done)
    rename_i q hq
    cases hb
    refine⟨_,rfl,rfl,?_⟩
    rw [Sem.run_bind,run_eqGuard_agg w .neq t ox oy vx' vy' hg]
    simp only [Result.andThen_ok]
    rw [run_neq_struct,main q hq]
    rfl
   ·simp at hb
 ·simp at hb
theorem RDs.drop {loc:Nat->Loc} : ∀(k j:Nat) (ds:List D) (vs:List Value),RDs h G loc j ds vs->RDs h G loc (j+k) (ds.drop k) (vs.drop k)
 |0,_,_,_,hr=>by simpa using hr
 |k+1,j,[],[],_=>by simp only [List.drop_nil,RDs]
 |k+1,j,d::ds,v::vs,hr=>by
  simp only [RDs] at hr
  have:=RDs.drop k (j+1) ds vs hr.2
  rw [Nat.add_assoc,Nat.add_comm 1 k] at this
  simpa using this
 |_+1,_,[],_::_,hr=>by simp only [RDs] at hr
 |_+1,_,_::_,[],hr=>by simp only [RDs] at hr
theorem RDs.take {loc:Nat->Loc} : ∀(k j:Nat) (ds:List D) (vs:List Value),RDs h G loc j ds vs->RDs h G loc j (ds.take k) (vs.take k)
 |0,_,_,_,_=>by simp only [List.take_zero,RDs]
 |k+1,j,[],[],_=>by simp only [List.take_nil,RDs]
 |k+1,j,d::ds,v::vs,hr=>by
  simp only [RDs,List.take_succ_cons] at*
  exact⟨hr.1,RDs.take k (j+1) ds vs hr.2⟩
 |_+1,_,[],_::_,hr=>by simp only [RDs] at hr
 |_+1,_,_::_,[],hr=>by simp only [RDs] at hr
theorem RVc.RDs {loc:Nat->Loc} : ∀(l:List V) (c:Array Value) (off j:Nat),RVc G.rd l c off->RDs h G loc j (l.map .v) ((c.toList.drop off).take l.length)
 | [],c,off,j,_=>by simp only [List.map_nil,List.length_nil,List.take_zero,Mx.RDs]
 |x::l,c,off,j,hr=>by
  simp only [RVc] at hr
  obtain⟨⟨v,h1,h2⟩,h3⟩:=hr
  have hlt:off<c.size:=by
   rcases Nat.lt_or_ge off c.size with h|h
   ·exact h
   ·simp [Array.getElem?_eq_none h] at h1
  have hv:c[off]=v:=by simpa [hlt] using h1
  rw [List.drop_eq_getElem_cons (by simpa using hlt)]
  simp only [List.map_cons,List.length_cons,List.take_succ_cons,Mx.RDs,RD]
  refine⟨by simpa [hv] using h2,RVc.RDs l c (off+1) (j+1) h3⟩
theorem Bz (w:World) {t:TypeId} {d:TypeDesc} (hu:P.underlying t=some d) (hd:d.isRow=true):(isAgg t).run P w= .ok true w:=by
 unfold isAgg
 rw [Sem.run_bind,run_underlying hu w]
 cases d<;>simp_all
theorem eu (w:World) {t:TypeId} {d:TypeDesc} (hu:P.underlying t=some d) (hd:d.isRow=false):(isAgg t).run P w= .ok false w:=by
 unfold isAgg
 rw [Sem.run_bind,run_underlying hu w]
 cases d<;>simp_all
theorem fI {loc loc':Nat->Loc} {j:Nat} (w:World) {t:TypeId} {cs:List D} {off:Nat} {d:D} {va:Array Value} (hr:RDs h G loc j cs va.toList) (hd:bT (ck P t) cs off=some d):
  ∃v,(part t va off).run P w= .ok v w/\aA d=true/\RD h G loc' d v:=by
 unfold bT at hd
 cases ha:(ck P t).agg with
 |true=>
  simp only [ha,cond_true] at hd
  obtain⟨i,u,h1,h2,h3,h4,_⟩:=fM ha
  generalize hq:(((cs.drop off).take (ck P t).size).length==(ck P t).size&&((cs.drop off).take (ck P t).size).all ay)=q at hd
  cases q with
  |false=>simp at hd
  |true=>
   simp only [cond_true,Option.some.injEq] at hd
   subst hd
   rw [Bool.and_eq_true] at hq
   refine⟨.agg (va.extract off (off+i.size)),?_,by simpa [aA] using hq.2,?_⟩
   ·simp [part,Bz w h2 h3,Sem.run_bind,sizeOf,typeInfo,h1]
   ·simp only [RD]
    refine⟨_,rfl,?_⟩
    have:=RDs.take (ck P t).size _ _ _ (RDs.drop off j cs va.toList hr)
    have e:(va.extract off (off+i.size)).toList=(va.toList.drop off).take (ck P t).size:=by
     simp [List.extract_eq_take_drop,h4]
    rw [e]
    exact RDs.reloc _ _ _ _ (by simpa using hq.2) this
 |false=>
  simp only [ha,cond_false] at hd
  split at hd<;>try (simp at hd;done)
  rename_i k hf
  split at hd<;>try (simp at hd;done)
  rename_i d' hd'
  cases ho:ay d' with
  |false=>simp [ho] at hd
  |true=>
   simp [ho] at hd
   subst hd
   obtain⟨i,u,h1,h2,h3⟩:=gr ha hf
   obtain⟨v,hv,hrd⟩:=RDs.get loc j cs va.toList off d' hr hd'
   refine⟨v,?_,?_,RD.relocC ho hrd⟩
   ·have hv':va[off]? =some v:=by simpa using hv
    simp [part,eu w h2 h3,Sem.run_bind,hv']
   ·cases d'<;>simp_all [aA,ay]
theorem dZ {h:Array Obj} {w:World} (hw:w.heap=h) {b:Nat} {c:Array Value} {e:TypeId} {fr:Nat×Nat} (hb:h[b]? =some (.cells c e fr)) (off:Nat):w.cell? ⟨b,off,none⟩=c[off]? :=by
 subst hw
 simp [World.cell?,hb]
theorem Bi {loc loc':Nat->Loc} {j:Nat} (w:World) {t:TypeId} {b base:Nat} {c:Array Value} {e:TypeId} {fr:Nat×Nat} {cs:List D} {vs:List Value} {off:Nat} {d:D} (hb:w.heap[b]? =some (.cells c e fr))
  (hr:RDs h G loc j cs vs) (hv: ∀q v,vs[q]? =some v->c[base+q]? =some v) (hd:bT (ck P t) cs off=some d):
  ∃v,(loadVar t ⟨b,base+off,none⟩).run P w= .ok v w/\aA d=true/\RD h G loc' d v:=by
 obtain⟨v,h1,h2,h3⟩:=fI (loc':=loc') w (va:=vs.toArray) (by simpa using hr) hd
 refine⟨v,?_,h2,h3⟩
 have hl:=RDs.length loc j cs _ hr
 unfold bT at hd
 cases ha:(ck P t).agg with
 |true=>
  simp only [ha,cond_true] at hd
  obtain⟨i,u,k1,k2,k3,k4,_⟩:=fM ha
  generalize hq:(((cs.drop off).take (ck P t).size).length==(ck P t).size&&((cs.drop off).take (ck P t).size).all ay)=q at hd
  cases q with
  |false=>simp at hd
  |true=>
   rw [Bool.and_eq_true] at hq
   have hlen:off+(ck P t).size<=cs.length∨(ck P t).size=0:=by have:=hq.1;simp at this;omega
   simp [part,Bz w k2 k3,Sem.run_bind,sizeOf,typeInfo,k1] at h1
   subst h1
   have:=run_loadVar_mid (P:=P) w b (base+off) t ((vs.drop off).take i.size) u (by
    intro q v hv'
    rw [dZ rfl hb]
    rw [List.getElem?_take] at hv'
    split at hv'
    ·rw [List.getElem?_drop] at hv'
     rw [Nat.add_assoc]
     exact hv _ _ hv'
    ·simp at hv') k2 k3 (by
    rw [k1]
    simp only [Option.map_some,List.length_take,List.length_drop]
    congr 1
    omega)
   rw [this]
 |false=>
  simp only [ha,cond_false] at hd
  split at hd<;>try (simp at hd;done)
  rename_i k hf
  obtain⟨i,u,k1,k2,k3⟩:=gr ha hf
  simp [part,eu w k2 k3,Sem.run_bind] at h1
  cases hc:vs[off]? with
  |none=>simp [hc] at h1
  |some x=>
   simp [hc] at h1
   subst h1
   simp [loadVar,eu w k2 k3,Sem.run_bind,load,Sem.run,dZ rfl hb,hv off x hc]
end
end Go.Mx
namespace Go.Mx
open Go
section
variable {P:Program} {G:Gh} {tmps:Array Value} {σ:St} {w:World} {ds:List Deferred} {C:aj}
def dC (P:Program) (G:Gh) (w:World) (a:Act) (o:Oper) (d:D):Prop:=
 ∃v,(execOp a.eval o).run P w= .ok (.value v) w/\aA d=true/\ ∀loc,RD w.heap G loc d v
theorem Qb {o:Oper} {x:Operand} (R:Rel w.heap G tmps σ) (ho:o.op= .move x) {d:D} (hd:aK (ck P) C σ true o.op=some d):dC P G w ⟨tmps,ds⟩ o d:=by
 simp only [ho,aK] at hd
 refine⟨(⟨tmps,ds⟩:Act).eval x,by simp [execOp,ho],?_⟩
 cases hf:bl true (opnd σ.env x) with
 |none=>simp [hf] at hd
 |some d0=>
  have hr:=R.opndF ds hf
  rw [hf] at hd
  cases d0 with
  |own sz l=>
   cases x with
   |tmp p=>
    simp at hd;subst hd
    simp only [RD,JF] at hr
    refine⟨rfl,fun loc=>?_⟩
    simp only [RD]
    refine⟨fun _=>hr,?_,rfl⟩
    rcases hr with⟨h1,h2⟩|⟨b,off,cap,c,e,fr,h1,h2,h3,h4,h5,h6,h7⟩
    ·exact⟨none,0,by simp [h1,h2],by simp [h2],.inl h2⟩
    ·exact⟨_,cap,h1,h5.1,.inr ⟨b,off,off,c,e,fr,rfl,h2,h3,h7⟩⟩
   |const v=>simp at hd
   |global g=>simp [opnd,bl,bQ] at hf
   |func f=>simp [opnd,bl,bQ] at hf
  |agg cs=>
   simp only at hd
   cases ha:cs.all ay with
   |false=>simp [ha] at hd
   |true=>
    simp [ha] at hd;subst hd
    exact⟨by simpa [aA] using ha,fun loc=>RD.reloc (by simpa [aA] using ha) hr⟩
  |mb g x'=>have:=fj hf;simp [ey] at this
  |undef=>have:=fj hf;simp [ey] at this
  |bad=>have:=fj hf;simp [ey] at this
  |_=>simp only [Option.some.injEq] at hd;subst hd;exact⟨rfl,fun loc=>RD.reloc rfl hr⟩
theorem If {o:Oper} {x:Operand} (R:Rel w.heap G tmps σ) (ho:o.op= .nilCheck x) {d:D} (hd:aK (ck P) C σ true o.op=some d):dC P G w ⟨tmps,ds⟩ o d:=by
 simp only [ho,aK] at hd
 cases hf:bl true (opnd σ.env x) with
 |none=>simp [hf] at hd
 |some d0=>
  have hr:=R.opndF ds hf
  rw [hf] at hd
  cases d0<;>simp at hd<;>subst hd<;>simp only [RD] at hr
  case rp=>
   obtain⟨b,off,c,h1,h2⟩:=hr
   exact⟨.pointer (some ⟨b,off,none⟩),by simp [execOp,ho,h1],rfl,fun loc=>by simp only [RD];exact⟨b,off,c,rfl,h2⟩⟩
  case ptr=>
   obtain⟨b,h1,h2⟩:=hr
   exact⟨_,by simp only [execOp,ho,h2];rfl,rfl,fun loc=>by simp only [RD];exact⟨b,h1,rfl⟩⟩
  case ep=>
   obtain⟨b,base,h1,h2,h3⟩:=hr
   exact⟨_,by simp only [execOp,ho,h2];rfl,rfl,fun loc=>by simp only [RD];exact⟨b,base,h1,rfl,h3⟩⟩
theorem RD.bool {loc:Nat->Loc} {p:Bool} {v:Value} {h:Array Obj} (hr:RD h G loc (.v (.b p)) v):v= .bool p:=by simpa only [RD,RV] using hr
theorem RD.int {loc:Nat->Loc} {k:IntKind} {n:Int} {v:Value} {h:Array Obj} (hr:RD h G loc (.v (.i k n)) v):v= .int k n:=by simpa only [RD,RV] using hr
theorem RD.str {loc:Nat->Loc} {s:ByteArray} {v:Value} {h:Array Obj} (hr:RD h G loc (.v (.s s)) v):v= .string s:=by simpa only [RD,RV] using hr
theorem Qr {o:Oper} {c x y:Operand} (R:Rel w.heap G tmps σ) (ho:o.op= .pick c x y) {d:D} (hd:aK (ck P) C σ true o.op=some d):dC P G w ⟨tmps,ds⟩ o d:=by
 simp only [ho,aK] at hd
 cases hf:bl true (opnd σ.env c) with
 |none=>simp [hf] at hd
 |some d0=>
  have hr:=R.opndF ds hf
  rw [hf] at hd
  cases d0<;>try (simp at hd;done)
  rename_i v0
  cases v0<;>try (simp at hd;done)
  rename_i p
  have hp:=RD.bool hr
  have hx:=R.opnd ds x
  have hy:=R.opnd ds y
  have fin: ∀q:Bool,(if p then (⟨tmps,ds⟩:Act).eval x else (⟨tmps,ds⟩:Act).eval y)= .bool q->dC P G w ⟨tmps,ds⟩ o (.v (.b q)):=by
   intro q hq
   refine⟨.bool q,?_,rfl,fun loc=>by simp only [RD,RV]⟩
   simp only [execOp,ho,hp,asBool,Sem.run_bind,Sem.run_pure,Result.andThen_ok,hq]
  generalize (⟨tmps,ds⟩:Act).eval x=vx at*
  generalize (⟨tmps,ds⟩:Act).eval y=vy at*
  simp only at hd
  split at hd
  ·rename_i q1 q2 e1 e2
   rw [e1] at hx;rw [e2] at hy
   have hx:=RD.bool hx;have hy:=RD.bool hy
   cases hd
   apply fin
   cases p
   ·simpa using hy
   ·simpa using hx
  ·rename_i q1 h' q2 e1 e2
   rw [e1] at hx;rw [e2] at hy
   have hx:=RD.bool hx
   simp only [RD,RV] at hy
   cases p with
   |true=>simp [bh] at hd;subst hd;apply fin;simpa using hx
   |false=>
    cases h' with
    |false=>simp [bh] at hd
    |true=>simp [bh] at hd;subst hd;apply fin;simpa using hy
  ·rename_i h' q1 q2 e1 e2
   rw [e1] at hx;rw [e2] at hy
   have hy:=RD.bool hy
   simp only [RD,RV] at hx
   cases p with
   |false=>simp [bh] at hd;subst hd;apply fin;simpa using hy
   |true=>
    cases h' with
    |false=>simp [bh] at hd
    |true=>simp [bh] at hd;subst hd;apply fin;simpa using hx
  ·rename_i q1 e1 e2
   rw [e1] at hx
   have hx:=RD.bool hx
   cases p with
   |true=>simp [bh] at hd;subst hd;apply fin;simpa using hx
   |false=>simp [bh] at hd
  ·rename_i q1 e1 e2
   rw [e2] at hy
   have hy:=RD.bool hy
   cases p with
   |false=>simp [bh] at hd;subst hd;apply fin;simpa using hy
   |true=>simp [bh] at hd
  ·simp at hd
theorem NN {o:Oper} {op:BinOp} {t u:TypeId} {x y:Operand} (R:Rel w.heap G tmps σ) (ho:o.op= .binOp op t x y u) {d:D} (hd:aK (ck P) C σ true o.op=some d):dC P G w ⟨tmps,ds⟩ o d:=by
 simp only [ho,aK] at hd
 split at hd<;>try (simp at hd;done)
 rename_i dx hx
 split at hd<;>try (simp at hd;done)
 rename_i dy hy
 obtain⟨z,rfl,hz,hrun⟩:=OZ t w x y (R.opndF ds hx) (R.opndF ds hy) hd
 refine⟨scal z,?_,rfl,fun loc=>by simp only [RD];exact RV.ofScal hz⟩
 simp only [execOp,ho]
 rw [Sem.run_bind]
 rw [hrun]
 rfl
theorem Tl {o:Oper} {t:TypeId} {x:Operand} (R:Rel w.heap G tmps σ) (ho:o.op= .unOp .not t x) {d:D} (hd:aK (ck P) C σ true o.op=some d):dC P G w ⟨tmps,ds⟩ o d:=by
 simp only [ho,aK] at hd
 split at hd<;>try (simp at hd;done)
 rename_i p hx
 have hp:=RD.bool (R.opndF ds hx)
 cases hd
 exact⟨.bool (!p),by simp [execOp,ho,hp,Op.unary],rfl,fun loc=>by simp only [RD,RV]⟩
theorem Iv {o:Oper} {x:Operand} {ix:Nat} (R:Rel w.heap G tmps σ) (ho:o.op= .extract x ix) {d:D} (hd:aK (ck P) C σ true o.op=some d):dC P G w ⟨tmps,ds⟩ o d:=by
 simp only [ho,aK] at hd
 split at hd<;>try (simp at hd;done)
 rename_i cs hx
 have hr:=R.opndF ds hx
 simp only [RD] at hr
 obtain⟨vs,h1,h2⟩:=hr
 split at hd<;>try (simp at hd;done)
 rename_i d' hd'
 cases hof:aA d' with
 |false=>simp [hof] at hd
 |true=>
  simp [hof] at hd;subst hd
  obtain⟨v,hv,hrd⟩:=RDs.get _ 0 cs vs.toList ix d' h2 hd'
  have hv':vs[ix]? =some v:=by simpa using hv
  exact⟨v,by simp [execOp,ho,h1,Instr.extract,hv'],hof,fun loc=>RD.reloc hof hrd⟩
theorem zK {t f fo ft:Nat} (h:aE (ck P) t f=some (fo,ft)): ∃fs fl,P.underlying t=some (.struct fs)/\fs[f]? =some fl/\fl.offset=fo/\fl.type=ft/\ ∃i,P.info? ft=some i/\i.size≠0:=by
 unfold aE at h
 split at h<;>try (simp at h;done)
 rename_i fs htk
 obtain⟨i,fs0,h1,h2,rfl,h4⟩:=zD htk
 split at h<;>try (simp at h;done)
 rename_i o u hou
 cases hc:((ck P u).size==0||(ck P u).flat.isEmpty) with
 |true=>simp [hc] at h
 |false=>
  simp [hc] at h
  obtain⟨rfl,rfl⟩:=h
  simp at hc
  obtain⟨i',k1,k2,k3⟩:=fF (P:=P) (t:=u) hc.2
  rw [List.getElem?_map] at hou
  cases hfl:fs0.toList[f]? with
  |none=>simp [hfl] at hou
  |some fl=>
   simp [hfl] at hou
   exact⟨fs0,fl,h2,by simpa using hfl,hou.1,hou.2,i',k1,by omega⟩
theorem gD {t f fo ft:Nat} (h:aE (ck P) t f=some (fo,ft)) (b off:Nat):(Instr.fieldAt t (.pointer (some ⟨b,off,none⟩)) f).run P w= .ok (.pointer (some ⟨b,off+fo,none⟩)) w:=by
 obtain⟨fs,fl,h1,h2,rfl,rfl,i,k1,k2⟩:=zK h
 simp [Instr.fieldAt,Sem.run_bind,run_underlying h1,h2,Instr.sureAddr,fieldPlace,sizeOf,typeInfo,k1,k2,Addr.add_mid]
theorem E1 {o:Oper} {x:Operand} {t f:Nat} (R:Rel w.heap G tmps σ) (ho:o.op= .fieldAddr t x f) {d:D} (hd:aK (ck P) C σ true o.op=some d):dC P G w ⟨tmps,ds⟩ o d:=by
 simp only [ho,aK] at hd
 split at hd<;>try (simp at hd;done)
 rename_i fo ft hf
 split at hd<;>try (simp at hd;done)
 ·rename_i q off hx
  have hr:=R.opndF ds hx
  simp only [RD] at hr
  obtain⟨b,h1,h2⟩:=hr
  cases hd
  exact⟨.pointer (some ⟨b,off+fo,none⟩),by simp only [execOp,ho,h2,Sem.run_bind,gD hf];rfl,rfl,fun loc=>by simp only [RD];exact⟨b,h1,rfl⟩⟩
 ·rename_i cells hx
  have hr:=R.opndF ds hx
  simp only [RD] at hr
  obtain⟨b,off,c,h1,h2,h3⟩:=hr
  cases hd
  exact⟨.pointer (some ⟨b,off+fo,none⟩),by simp only [execOp,ho,h1,Sem.run_bind,gD hf];rfl,rfl,fun loc=>by simp only [RD];exact⟨b,off+fo,c,rfl,h2,RVc.drop _ _ _ _ h3⟩⟩
 ·rename_i src sz i off hx
  have hr:=R.opndF ds hx
  simp only [RD] at hr
  obtain⟨b,base,h1,h2,h3⟩:=hr
  cases hd
  exact⟨.pointer (some ⟨b,base+i*sz+off+fo,none⟩),by simp only [execOp,ho,h2,Sem.run_bind,gD hf];rfl,rfl,fun loc=>by simp only [RD];exact⟨b,base,h1,by rw [Nat.add_assoc],h3⟩⟩
theorem Oj {o:Oper} {x:Operand} {t f:Nat} (R:Rel w.heap G tmps σ) (ho:o.op= .field t x f) {d:D} (hd:aK (ck P) C σ true o.op=some d):dC P G w ⟨tmps,ds⟩ o d:=by
 simp only [ho,aK] at hd
 split at hd<;>try (simp at hd;done)
 rename_i fo ft hf
 split at hd<;>try (simp at hd;done)
 rename_i cs hx
 have hr:=R.opndF ds hx
 simp only [RD] at hr
 obtain⟨vs,h1,h2⟩:=hr
 obtain⟨fs,fl,k1,k2,rfl,rfl,_⟩:=zK hf
 obtain⟨v,hv,_,_⟩:=fI (loc':=fun _=>Loc.reg 0 0) w h2 hd
 refine⟨v,?_,?_,?_⟩
 ·simp [execOp,ho,h1,Instr.field,Sem.run_bind,run_underlying k1,k2,asAgg,hv]
 ·obtain⟨_,_,h,_⟩:=fI (loc':=fun _=>Loc.reg 0 0) w h2 hd;exact h
 ·intro loc
  obtain⟨v',hv',_,hr'⟩:=fI (loc':=loc) w h2 hd
  rw [hv] at hv'
  cases hv'
  exact hr'
theorem Hj (R:Rel w.heap G tmps σ) {src:Loc} {sz:Nat} {l:List (List V)} (h:ownAt σ src=some (sz,l)): ∃v,wa w.heap G.rd (G.ow src) sz l v:=by
 unfold ownAt at h
 split at h
 ·rename_i t j
  split at h<;>try (simp at h;done)
  rename_i sz' l' hl
  cases hj:j==0 with
  |false=>simp [hj] at h
  |true=>
   simp [hj] at h
   obtain⟨rfl,rfl⟩:=h
   simp at hj;subst hj
   have:=R.env t
   rw [hl] at this
   simp only [RD] at this
   exact⟨_,this⟩
 ·rename_i o off
  split at h<;>try (simp at h;done)
  rename_i cs hcs
  split at h<;>try (simp at h;done)
  rename_i sz' l' hl
  cases h
  obtain⟨b,c,e,fr,h1,h2,h3,h4⟩:=R.obj o cs hcs
  obtain⟨v,hv,hrd⟩:=RDs.get _ 0 cs c.toList off _ h4 hl
  simp only [RD,Nat.zero_add] at hrd
  exact⟨v,hrd⟩
 ·cases h
theorem RDs.alias {o:Nat} (loc':Nat->Loc): ∀(cs:List D) (vs:List Value) (j j':Nat),cs.all aM=true->RDs w.heap G (Loc.cell o) j cs vs->RDs w.heap G loc' j' (aP o j cs) vs
 | [],[],_,_,_,_=>by simp only [aP,RDs]
 |d::cs,v::vs,j,j',hc,hr=>by
  simp only [List.all_cons,Bool.and_eq_true] at hc
  simp only [RDs] at hr
  have ih:=RDs.alias loc' cs vs (j+1) (j'+1) hc.2 hr.2
  cases d with
  |own sz l=>
   simp only [aP,RDs]
   refine⟨?_,ih⟩
   have hrd:=hr.1
   simp only [RD] at hrd⊢
   refine⟨fun _=>hrd,?_,rfl⟩
   rcases hrd with⟨g1,g2⟩|⟨b2,off2,cap,c2,e2,fr2,g1,g2,g3,g4,g5,g6,g7⟩
   ·exact⟨none,0,by simp [g1,g2],by simp [g2],.inl g2⟩
   ·exact⟨_,cap,g1,g5.1,.inr ⟨b2,off2,off2,c2,e2,fr2,rfl,g2,g3,g7⟩⟩
  |agg _=>simp [aM,bJ] at hc
  |mb _ _=>simp [aM,bJ] at hc
  |_=>simp only [aP,RDs];exact⟨RD.relocC rfl hr.1,ih⟩
 | [],_::_,_,_,_,hr=>by simp only [RDs] at hr
 |_::_,[],_,_,_,hr=>by simp only [RDs] at hr
theorem hI (o:Nat): ∀(cs:List D) (j:Nat),cs.all aM=true->(aP o j cs).all ay=true
 | [],_,_=>by simp [aP]
 |d::cs,j,hc=>by
  simp only [List.all_cons,Bool.and_eq_true] at hc
  have ih:=hI o cs (j+1) hc.2
  cases d with
  |own sz l=>simp only [aP,List.all_cons,ih,Bool.and_true];rfl
  |agg _=>simp [aM,bJ] at hc
  |mb _ _=>simp [aM,bJ] at hc
  |_=>simp only [aP,List.all_cons,ih,Bool.and_true];rfl
theorem Qq {o:Oper} {x:Operand} {t:Nat} (R:Rel w.heap G tmps σ) (ho:o.op= .load t x) {d:D} (hd:aK (ck P) C σ true o.op=some d):dC P G w ⟨tmps,ds⟩ o d:=by
 simp only [ho,aK] at hd
 split at hd<;>try (simp at hd;done)
 rename_i dx hx
 have hr:=R.opndF ds hx
 have fin: ∀(b off:Nat),(⟨tmps,ds⟩:Act).eval x= .pointer (some ⟨b,off,none⟩)->(∃v,(loadVar t ⟨b,off,none⟩).run P w= .ok v w/\aA d=true/\ ∀loc,RD w.heap G loc d v)->dC P G w ⟨tmps,ds⟩ o d:=by
  intro b off he ⟨v,h1,h2⟩
  exact⟨v,by simp [execOp,ho,he,Instr.loadAt,Instr.sureAddr,Sem.run_bind,h1],h2⟩
 have all: ∀ {b base off:Nat} {c:Array Value} {e:TypeId} {fr:Nat×Nat} {cs:List D} {vs:List Value} {loc:Nat->Loc} {j:Nat},w.heap[b]? =some (.cells c e fr)->RDs w.heap G loc j cs vs->(∀q v,vs[q]? =some v->c[base+q]? =some v)->
   bT (ck P t) cs off=some d-> ∃v,(loadVar t ⟨b,base+off,none⟩).run P w= .ok v w/\aA d=true/\ ∀loc,RD w.heap G loc d v:=by
  intro b base off c e fr cs vs loc j hb hr hv hd
  obtain⟨v,h1,h2,_⟩:=Bi (loc':=fun _=>Loc.reg 0 0) w hb hr hv hd
  refine⟨v,h1,h2,fun loc'=>?_⟩
  obtain⟨v',h1',_,h3⟩:=Bi (loc':=loc') w hb hr hv hd
  rw [h1] at h1';cases h1'
  exact h3
 unfold loadAt at hd
 split at hd<;>try (simp at hd;done)
 ·rename_i q off
  simp only [RD] at hr
  obtain⟨b,hob,he⟩:=hr
  split at hd<;>try (simp at hd;done)
  rename_i cs hcs
  obtain⟨b',c,e,fr,h1,h2,h3,h4⟩:=R.obj q cs hcs
  rw [hob] at h1;cases h1
  refine fin b off he ?_
  split at hd
  ·rename_i sz l k hown hagg hflat
   cases hd
   obtain⟨v,hv,hrd⟩:=RDs.get _ 0 cs c.toList off _ h4 hown
   simp only [RD,Nat.zero_add] at hrd
   obtain⟨i,u,k1,k2,k3⟩:=gr hagg hflat
   have hv':c[off]? =some v:=by simpa using hv
   refine⟨v,?_,rfl,fun loc=>?_⟩
   ·simp [loadVar,eu w k2 k3,Sem.run_bind,load,Sem.run,dZ rfl h2,hv']
   ·simp only [RD]
    refine⟨fun _=>hrd,?_,rfl⟩
    rcases hrd with⟨g1,g2⟩|⟨b2,off2,cap,c2,e2,fr2,g1,g2,g3,g4,g5,g6,g7⟩
    ·exact⟨none,0,by simp [g1,g2],by simp [g2],.inl g2⟩
    ·exact⟨_,cap,g1,g5.1,.inr ⟨b2,off2,off2,c2,e2,fr2,rfl,g2,g3,g7⟩⟩
  ·have hagg:(ck P t).agg=true:=by assumption
   cases hl:(((cs.drop off).take (ck P t).size).length==(ck P t).size) with
   |false=>rw [hl] at hd;cases hd
   |true=>
    rw [hl,cond_true,Option.some.injEq] at hd
    subst hd
    simp only [beq_iff_eq] at hl
    obtain⟨i,dd,hi,hu,hrow,hisz,_⟩:=fM hagg
    have hlen:=RDs.length _ _ _ _ h4
    have hck:((cs.drop off).take (ck P t).size).all aM=true:=by
     rw [List.all_eq_true]
     intro d hd
     exact List.all_eq_true.1 (R.obc q cs hcs) d (List.mem_of_mem_drop (List.mem_of_mem_take hd))
    let vs:List Value:=(c.toList.drop off).take (ck P t).size
    have hvsl:vs.length=(ck P t).size:=by
     have:=hl
     rw [List.length_take,List.length_drop] at this⊢
     rw [hlen];exact this
    have hrun:=run_loadVar_mid (P:=P) w b off t vs dd (fun j v hv=>by
     rw [dZ rfl h2]
     simp only [vs] at hv
     rw [List.getElem?_take] at hv
     split at hv
     ·rw [List.getElem?_drop] at hv;simpa using hv
     ·cases hv) hu hrow (by rw [hi];simp [hisz,hvsl])
    have hsub:RDs w.heap G (Loc.cell q) off ((cs.drop off).take (ck P t).size) vs:=by
     have:=RDs.take (ck P t).size _ _ _ (RDs.drop off 0 cs c.toList h4)
     simpa using this
    refine⟨.agg vs.toArray,hrun,?_,fun loc=>?_⟩
    ·simp only [aA];exact hI q _ off hck
    ·simp only [RD]
     exact⟨_,rfl,RDs.alias loc _ _ off 0 hck hsub⟩
  ·have:=all (base:=0) h2 h4 (by simp) hd
   simpa using this
 ·rename_i cells
  simp only [RD] at hr
  obtain⟨b,off,c,he,h2,h3⟩:=hr
  obtain⟨e,fr,hb⟩:=R.inv.rd_ok b c h2
  refine fin b off he ?_
  have:=all (base:=off) (off:=0) (loc:=Loc.reg 0) (j:=0) hb (RVc.RDs cells c off 0 h3) (by
   intro q v hq
   rw [List.getElem?_take] at hq
   split at hq
   ·simpa [List.getElem?_drop] using hq
   ·simp at hq) hd
  simpa using this
 ·rename_i src sz i off
  simp only [RD] at hr
  obtain⟨b,base,how,he,_⟩:=hr
  split at hd<;>try (simp at hd;done)
  rename_i sz' l hown
  cases hsz:sz==sz' with
  |false=>simp [hsz] at hd
  |true=>
   simp [hsz] at hd
   simp at hsz;subst hsz
   split at hd<;>try (simp at hd;done)
   rename_i row hrow
   obtain⟨v0,hv0⟩:=Hj R hown
   rcases hv0 with⟨_,rfl⟩|⟨b2,off2,cap,c2,e2,fr2,g1,g2,g3,g4,g5,g6,g7⟩
   ·simp at hrow
   ·rw [how] at g2;cases g2
    refine fin b _ he ?_
    obtain⟨hlen,hrc⟩:=RVr.get sz l c2 base i row g7 hrow
    have hrc':=RVc.drop row c2 _ off hrc
    rw [<-List.map_drop] at hd
    have:=all (base:=base+i*sz+off) (off:=0) (loc:=Loc.reg 0) (j:=0) g3 (RVc.RDs _ c2 _ 0 hrc') (by
     intro q v hq
     rw [List.getElem?_take] at hq
     split at hq
     ·simpa [List.getElem?_drop] using hq
     ·simp at hq) hd
    simpa using this
theorem eN {e sz:Nat} (h:bj (ck P e) sz=true): ∃i,P.info? e=some i/\i.size=sz/\(ck P e).bytes=i.bytes/\(ck P e).size=sz:=by
 simp [bj] at h
 obtain⟨i,h1,h2,h3⟩:=fF (P:=P) (t:=e) (by simpa using h.2)
 exact⟨i,h1,by omega,h3,by omega⟩
theorem Fc {o:Oper} {x ix:Operand} {t:Nat} (R:Rel w.heap G tmps σ) (ho:o.op= .indexAddr t x ix) {d:D} (hd:aK (ck P) C σ true o.op=some d):dC P G w ⟨tmps,ds⟩ o d:=by
 simp only [ho,aK] at hd
 split at hd<;>try (simp at hd;done)
 rename_i k n hix
 have hn:=RD.int (R.opndF ds hix)
 split at hd<;>try (simp at hd;done)
 ·rename_i sz l e hx htk
  cases hb:(bj (ck P e) sz&&decide (0<=n)) with
  |false=>simp only [hb,cond_false] at hd;cases hd
  |true=>
   simp only [hb,cond_true] at hd
   rw [Bool.and_eq_true,decide_eq_true_eq] at hb
   obtain⟨i,h1,rfl,_,_⟩:=eN hb.1
   obtain⟨_,_,hu⟩:=dw htk
   have hr:=R.opndF ds hx
   simp only [RD,RV] at hr
   obtain⟨base,cap,he,hc,hl⟩:=hr
   split at hd<;>try (simp at hd;done)
   rename_i r hr
   cases hd
   have hlt:n.toNat<l.length:=by
    rcases Nat.lt_or_ge n.toNat l.length with h|h
    ·exact h
    ·simp [List.getElem?_eq_none h] at hr
   have hlt':n<l.length:=by omega
   rcases hl with rfl|⟨b,off,c,rfl,h2,h3⟩
   ·simp at hlt
   ·obtain⟨_,hrow⟩:=RVr.get _ l c off n.toNat r h3 hr
    refine⟨.pointer (some ⟨b,off+n.toNat*i.size,none⟩),?_,rfl,fun loc=>by simp only [RD];exact⟨b,_,c,rfl,h2,hrow⟩⟩
    simp [execOp,ho,he,hn,Instr.indexAt,Sem.run_bind,asIntOf,run_underlying hu,hb.2,hlt',sizeOf,typeInfo,h1,Addr.add_mid]
 ·rename_i sz l src e hx htk
  cases hb:(bj (ck P e) sz&&ltB n l.length) with
  |false=>simp only [hb,cond_false] at hd;cases hd
  |true=>
   simp only [hb,cond_true] at hd
   rw [Bool.and_eq_true,decide_eq_true_eq] at hb
   obtain⟨i,h1,rfl,_,_⟩:=eN hb.1
   obtain⟨_,_,hu⟩:=dw htk
   have hr:=R.opndF ds hx
   simp only [RD] at hr
   cases hd
   rcases hr.1 trivial with⟨_,rfl⟩|⟨b,off,cap,c,e',fr,he,g2,g3,g4,g5,g6,g7⟩
   ·have:=hb.2;simp at this;omega
   ·refine⟨.pointer (some ⟨b,off+n.toNat*i.size,none⟩),?_,rfl,fun loc=>by simp only [RD];exact⟨b,off,g2,by simp,hr.2.2⟩⟩
    simp [execOp,ho,he,hn,Instr.indexAt,Sem.run_bind,asIntOf,run_underlying hu,hb.2,sizeOf,typeInfo,h1,Addr.add_mid]
 ·rename_i q off len e hx htk
  cases hb:(bj (ck P e) (ck P e).size&&ltB n len) with
  |false=>simp only [hb,cond_false] at hd;cases hd
  |true=>
   simp only [hb,cond_true] at hd
   rw [Bool.and_eq_true,decide_eq_true_eq] at hb
   obtain⟨i,h1,h1',_,_⟩:=eN hb.1
   obtain⟨_,_,hu⟩:=gN htk
   have hr:=R.opndF ds hx
   simp only [RD] at hr
   obtain⟨b,hob,he⟩:=hr
   cases hd
   refine⟨.pointer (some ⟨b,off+n.toNat*i.size,none⟩),?_,rfl,fun loc=>by simp only [RD];exact⟨b,hob,by rw [h1']⟩⟩
   simp [execOp,ho,he,hn,Instr.indexAt,Sem.run_bind,asIntOf,run_underlying hu,hb.2,Instr.sureAddr,sizeOf,typeInfo,h1,Addr.add_mid]
 ·rename_i cells len e hx htk
  cases hb:(bj (ck P e) (ck P e).size&&ltB n len) with
  |false=>simp only [hb,cond_false] at hd;cases hd
  |true=>
   simp only [hb,cond_true] at hd
   rw [Bool.and_eq_true,decide_eq_true_eq] at hb
   obtain⟨i,h1,h1',_,_⟩:=eN hb.1
   obtain⟨_,_,hu⟩:=gN htk
   have hr:=R.opndF ds hx
   simp only [RD] at hr
   obtain⟨b,off,c,he,h2,h3⟩:=hr
   cases hd
   refine⟨.pointer (some ⟨b,off+n.toNat*i.size,none⟩),?_,rfl,fun loc=>by simp only [RD];exact⟨b,_,c,rfl,h2,by rw [h1'];exact RVc.drop _ _ _ _ h3⟩⟩
   simp [execOp,ho,he,hn,Instr.indexAt,Sem.run_bind,asIntOf,run_underlying hu,hb.2,Instr.sureAddr,sizeOf,typeInfo,h1,Addr.add_mid]
theorem Mq {o:Oper} {x ix:Operand} {t:Nat} (R:Rel w.heap G tmps σ) (ho:o.op= .index t x ix) {d:D} (hd:aK (ck P) C σ true o.op=some d):dC P G w ⟨tmps,ds⟩ o d:=by
 simp only [ho,aK] at hd
 split at hd<;>try (simp at hd;done)
 rename_i k n hix
 have hn:=RD.int (R.opndF ds hix)
 split at hd<;>try (simp at hd;done)
 ·rename_i s hx htk
  have he:=RD.str (R.opndF ds hx)
  obtain⟨_,_,hu⟩:=eY htk
  cases hb:decide (0<=n) with
  |false=>simp only [hb,cond_false] at hd;cases hd
  |true=>
   simp only [hb,cond_true] at hd
   rw [decide_eq_true_eq] at hb
   split at hd<;>try (simp at hd;done)
   rename_i c hc
   cases hd
   refine⟨.int .u8 c.toNat,?_,rfl,fun loc=>by simp only [RD,RV]⟩
   simp [execOp,ho,he,hn,Instr.index,Sem.run_bind,asIntOf,run_underlying hu,hb,hc]
 ·rename_i cs len e hx htk
  have hr:=R.opndF ds hx
  simp only [RD] at hr
  obtain⟨vs,he,h2⟩:=hr
  cases hb:(bj (ck P e) (ck P e).size&&ltB n len) with
  |false=>simp only [hb,cond_false] at hd;cases hd
  |true=>
   simp only [hb,cond_true] at hd
   rw [Bool.and_eq_true,decide_eq_true_eq] at hb
   obtain⟨i,h1,h1',_,_⟩:=eN hb.1
   obtain⟨_,_,hu⟩:=gN htk
   obtain⟨v,hv,hof,_⟩:=fI (loc':=fun _=>Loc.reg 0 0) w h2 hd
   refine⟨v,?_,hof,?_⟩
   ·rw [<-h1'] at hv
    simp [execOp,ho,he,hn,Instr.index,Sem.run_bind,asIntOf,run_underlying hu,hb.2,sizeOf,typeInfo,h1,hv]
   ·intro loc
    obtain⟨v',hv',_,hr'⟩:=fI (loc':=loc) w h2 hd
    rw [hv] at hv';cases hv'
    exact hr'
theorem zS {loc:Nat->Loc} (R:Rel w.heap G tmps σ): ∀(j:Nat) (xs:List Operand) (cs:List D),forceAll true σ.env xs=some cs->cs.all ay=true->RDs w.heap G loc j cs (xs.map (⟨tmps,ds⟩:Act).eval)
 |_,[],cs,h,_=>by simp [forceAll] at h;subst h;simp only [List.map_nil,RDs]
 |j,x::xs,cs,h,ho=>by
  simp only [forceAll] at h
  split at h<;>try (simp at h;done)
  rename_i d hd
  split at h<;>try (simp at h;done)
  rename_i s hs
  cases h
  simp only [List.all_cons,Bool.and_eq_true] at ho
  simp only [List.map_cons,RDs]
  exact⟨RD.relocC ho.1 (R.opndF ds hd),zS R (j+1) xs s hs ho.2⟩
theorem Ht {o:Oper} {f:Nat} {first caps:Array Operand} (R:Rel w.heap G tmps σ) (ho:o.op= .makeFunc (.func f) first caps) {d:D} (hd:aK (ck P) C σ true o.op=some d):dC P G w ⟨tmps,ds⟩ o d:=by
 simp only [ho,aK] at hd
 cases hf:first.isEmpty with
 |false=>simp [hf] at hd
 |true=>
  simp only [hf,cond_true] at hd
  split at hd<;>try (simp at hd;done)
  rename_i cs hcs
  cases ho3:cs.all bJ with
  |false=>simp only [ho3,cond_false] at hd;cases hd
  |true=>
   simp only [ho3,cond_true,Option.some.injEq] at hd;subst hd
   have ho2:cs.all ay=true:=List.all_eq_true.2 fun d hd=>by
    have:=List.all_eq_true.1 ho3 d hd
    cases d<;>simp_all [bJ,ay]
   have hfe:first= #[]:=by simpa using hf
   subst hfe
   refine⟨.func (.func f) #[] (caps.map (⟨tmps,ds⟩:Act).eval),by simp [execOp,ho,Instr.makeFunc],rfl,fun loc=>?_⟩
   simp only [RD]
   exact⟨_,rfl,by simpa using zS (ds:=ds) R 0 caps.toList cs hcs ho2⟩
def Am (v:Option Value) (n dflt:Int):Prop:=(v=none/\n=dflt)∨ ∃k,v=some (.int k n)
theorem Bc (R:Rel w.heap G tmps σ) {x:Option Operand} {n dflt:Int} (h:bound true σ.env x dflt=some n):Am (x.map (⟨tmps,ds⟩:Act).eval) n dflt:=by
 unfold bound at h
 split at h
 ·cases h;exact .inl ⟨rfl,rfl⟩
 ·rename_i o
  split at h<;>try (simp at h;done)
  rename_i d hd
  unfold ci at h
  split at h<;>try (simp at h;done)
  cases h
  exact .inr ⟨_,by simp [RD.int (R.opndF ds hd)];rfl⟩
theorem dk {v:Value} {k:IntKind} {n:Int} (hv:v= .int k n) (y:Nat) (code:BoundsCode) (h0:0<=n) (h1:n<=y):(Instr.sliceBound v y code).run P w= .ok n.toNat w:=by
 subst hv
 simp [Instr.sliceBound,Sem.run_bind,asIntOf,h0,h1]
theorem eZ {isS:Bool} {len cap:Nat} {vlo vhi:Option Value} {a b:Int} (ha:Am vlo a 0) (hb:Am vhi b len) (h0:0<=a) (h1:a<=b) (h2:b<=len) (h3:len<=cap):
  (Instr.sliceBounds isS len cap vlo vhi none).run P w= .ok (a.toNat,b.toNat,cap) w:=by
 unfold Instr.sliceBounds
 rcases hb with⟨rfl,rfl⟩|⟨k,rfl⟩<;>rcases ha with⟨rfl,rfl⟩|⟨k',rfl⟩
 ·simp [Sem.run_bind]
 ·simp only [Sem.run_bind,Sem.run_pure,Result.andThen_ok]
  rw [dk rfl _ _ h0 (by omega)]
  simp
 ·simp only [Sem.run_bind,Sem.run_pure,Result.andThen_ok]
  rw [dk rfl _ _ (by omega) (by omega)]
  simp
 ·simp only [Sem.run_bind,Sem.run_pure,Result.andThen_ok]
  rw [dk rfl _ _ (by omega) (by omega)]
  simp only [Sem.run_pure,Result.andThen_ok]
  rw [dk rfl _ _ h0 (by omega)]
  simp
theorem io {isS:Bool} {len cap:Nat} {vlo:Option Value} {a b:Int} {k k':IntKind} (ha:Am vlo a 0) (h0:0<=a) (h1:a<=b) (h2:b<=len) (h3:len<=cap):
  (Instr.sliceBounds isS len cap vlo (some (.int k b)) (some (.int k' b))).run P w= .ok (a.toNat,b.toNat,b.toNat) w:=by
 unfold Instr.sliceBounds
 rcases ha with⟨rfl,rfl⟩|⟨k'',rfl⟩
 ·simp only [Sem.run_bind,Sem.run_pure,Result.andThen_ok]
  rw [dk rfl _ _ (by omega) (by omega)]
  simp only [Sem.run_pure,Result.andThen_ok]
  rw [dk rfl _ _ (by omega) (by omega)]
  simp
 ·simp only [Sem.run_bind,Sem.run_pure,Result.andThen_ok]
  rw [dk rfl _ _ (by omega) (by omega)]
  simp only [Sem.run_pure,Result.andThen_ok]
  rw [dk rfl _ _ (by omega) (by omega)]
  simp only [Sem.run_pure,Result.andThen_ok]
  rw [dk rfl _ _ (by omega) (by omega)]
  simp
theorem gl (l:List (List V)) (a b:Nat) (h1:a<=b) (h2:b<=l.length):(eV l a b).length=b-a:=by
 simp [eV];omega
theorem RVr.sub {rd:Rd} (sz:Nat) (l:List (List V)) (c:Array Value) (off a b:Nat) (h:RVr rd sz l c off):RVr rd sz (eV l a b) c (off+a*sz):=
 RVr.drop sz _ c off a (RVr.take sz l c off b h)
def fZ (base:Option Addr) (m l size:Nat):Option Addr:=if m=l then base else base.map (·.add (l*size))
theorem fc {t e:TypeId} {i:TypeInfo} (hu:P.underlying t=some (.slice e)) (hi:P.info? e=some i) {base:Option Addr} {len cap lo hj m:Nat} {vlo vhi vmx:Option Value}
  (hb:(Instr.sliceBounds true len cap vlo vhi vmx).run P w= .ok (lo,hj,m) w):
  (Instr.sliceAt t (.slice base len cap) vlo vhi vmx).run P w= .ok (.slice (fZ base m lo i.size) (hj-lo) (m-lo)) w:=by
 simp [Instr.sliceAt,Sem.run_bind,run_underlying hu,Instr.slice,hb,sizeOf,typeInfo,hi,fZ]
theorem fS {b off m l size:Nat} (h:l<m):fZ (some ⟨b,off,none⟩) m l size=some ⟨b,off+l*size,none⟩:=by
 unfold fZ
 rw [if_neg (by omega)]
 simp [Addr.add_mid]
theorem Mt {o : Oper} {x : Operand} {lo hi mx : Option Operand} {t : Nat} (R : Rel w.heap G tmps σ) (ho : o.op = .slice t x lo hi mx) {d : D} (hd : aK (ck P) C σ true o.op = some d) : dC P G w ⟨tmps, ds⟩ o d := by
  simp only [ho, aK] at hd
  split at hd <;> try (simp at hd; done)
  rename_i dx hx
  have hr := R.opndF ds hx
  split at hd <;> try (simp at hd; done)
  rename_i n hn
  split at hd <;> try (simp at hd; done)
  rename_i a b ha hb
  have hA := Bc (ds := ds) R ha
  have hB := Bc (ds := ds) R hb
  -- which bounds
  have key : ∀ cutAt, (cutAt = false /\ mx = none ∨ cutAt = true /\ ∃ k k', hi.map (⟨tmps, ds⟩ : Act).eval = some (.int k b) /\ mx.map (⟨tmps, ds⟩ : Act).eval = some (.int k' b)) -> bA (ck P) (ck P t).tk dx a b cutAt = some d -> dC P G w ⟨tmps, ds⟩ o d := by
    clear hd
    intro cutAt hcut hd
    have hexec : (execOp (⟨tmps, ds⟩ : Act).eval o) = (do pure (.value (<- Instr.sliceAt t ((⟨tmps, ds⟩ : Act).eval x) (lo.map (⟨tmps, ds⟩ : Act).eval) (hi.map (⟨tmps, ds⟩ : Act).eval) (mx.map (⟨tmps, ds⟩ : Act).eval))) : Sem Next) := by
      simp only [execOp, ho]
    generalize htk : (ck P t).tk = tk at hd
    unfold bA at hd
    split at hd <;> try (simp at hd; done)
    . rename_i s
      obtain ⟨_, _, hu⟩ := eY htk
      have hs := RD.str hr
      cases hq : (decide (0 <= a /\ a <= b /\ b <= (s.size : Int)) && !cutAt) with
      | false => simp only [hq, cond_false] at hd; cases hd
      | true =>
        simp only [hq, cond_true] at hd
        rw [Bool.and_eq_true, decide_eq_true_eq] at hq
        cases hd
        rcases hcut with ⟨rfl, rfl⟩ | ⟨rfl, _⟩
        . simp only [cu, Option.some.injEq] at hn
          subst hn
          have hsb := eZ (P := P) (w := w) (isS := false) (len := s.size) (cap := s.size) hA hB hq.1.1 hq.1.2.1 hq.1.2.2 (Nat.le_refl _)
          refine ⟨.string (s.extract a.toNat b.toNat), ?_, rfl, fun loc => by simp only [RD, RV]⟩
          rw [hexec]
          simp [Sem.run_bind, hs, Instr.sliceAt, run_underlying hu, Instr.slice, hsb]
        . simp at hq
    . rename_i e sz l
      obtain ⟨_, _, hu⟩ := dw htk
      cases hq : (bj (ck P e) sz && decide (0 <= a /\ a <= b /\ b <= (l.length : Int))) with
      | false => simp only [hq, cond_false] at hd; cases hd
      | true =>
        simp only [hq, cond_true] at hd
        rw [Bool.and_eq_true, decide_eq_true_eq] at hq
        obtain ⟨i, hi1, rfl, _, _⟩ := eN hq.1
        simp only [cu, Option.some.injEq] at hn
        subst hn
        simp only [RD, RV] at hr
        obtain ⟨base, cap, he, hc, hl⟩ := hr
        obtain ⟨q0, q1, q2⟩ := hq.2
        have hlen : (eV l a.toNat b.toNat).length = b.toNat - a.toNat := gl l _ _ (by omega) (by omega)
        rcases hcut with ⟨rfl, rfl⟩ | ⟨rfl, k, k', hh, hm⟩
        . simp only [cond_false, Option.some.injEq] at hd
          subst hd
          have hsb := eZ (P := P) (w := w) (isS := true) hA hB q0 q1 q2 hc
          refine ⟨.slice (fZ base cap a.toNat i.size) (b.toNat - a.toNat) (cap - a.toNat), ?_, rfl, fun loc => ?_⟩
          . rw [hexec]
            simp only [Sem.run_bind, he, Option.map_none, fc hu hi1 hsb]
            rfl
          . simp only [RD, RV]
            refine ⟨_, _, by rw [hlen], by rw [hlen]; omega, ?_⟩
            by_cases h0 : b.toNat - a.toNat = 0
            . left; exact List.eq_nil_of_length_eq_zero (by omega)
            . right
              rcases hl with rfl | ⟨bb, off, c, rfl, h2, h3⟩
              . simp at q2; omega
              . exact ⟨bb, off + a.toNat * i.size, c, fS (by omega), h2, RVr.sub _ l c off _ _ h3⟩
        . simp only [cond_true, Option.some.injEq] at hd
          subst hd
          have hsb := io (P := P) (w := w) (isS := true) (k := k) (k' := k') hA q0 q1 q2 hc
          refine ⟨.slice (fZ base b.toNat a.toNat i.size) (b.toNat - a.toNat) (b.toNat - a.toNat), ?_, rfl, fun loc => ?_⟩
          . rw [hexec]
            simp only [Sem.run_bind, he, hh, hm, fc hu hi1 hsb]
            rfl
          . simp only [RD]
            refine ⟨_, by rw [hlen], ?_⟩
            by_cases h0 : b.toNat - a.toNat = 0
            . left; exact List.eq_nil_of_length_eq_zero (by omega)
            . right
              rcases hl with rfl | ⟨bb, off, c, rfl, h2, h3⟩
              . simp at q2; omega
              . exact ⟨bb, off + a.toNat * i.size, c, fS (by omega), h2, RVr.sub _ l c off _ _ h3⟩
    . rename_i e full sz l src
      obtain ⟨_, _, hu⟩ := dw htk
      cases hq : (bj (ck P e) sz && decide (0 <= a /\ a <= b /\ b <= (l.length : Int)) && !cutAt) with
      | false => simp only [hq, cond_false] at hd; cases hd
      | true =>
        simp only [hq, cond_true] at hd
        rw [Bool.and_eq_true, Bool.and_eq_true, decide_eq_true_eq] at hq
        obtain ⟨i, hi1, rfl, _, _⟩ := eN hq.1.1
        simp only [cu, Option.some.injEq] at hn
        subst hn
        simp only [RD] at hr
        obtain ⟨base, cap, he, hc, hl⟩ := hr.2.1
        obtain ⟨q0, q1, q2⟩ := hq.1.2
        have hlen : (eV l a.toNat b.toNat).length = b.toNat - a.toNat := gl l _ _ (by omega) (by omega)
        rcases hcut with ⟨rfl, rfl⟩ | ⟨rfl, _⟩
        . cases hd
          have hsb := eZ (P := P) (w := w) (isS := true) hA hB q0 q1 q2 hc
          refine ⟨.slice (fZ base cap a.toNat i.size) (b.toNat - a.toNat) (cap - a.toNat), ?_, rfl, fun loc => ?_⟩
          . rw [hexec]
            simp only [Sem.run_bind, he, Option.map_none, fc hu hi1 hsb]
            rfl
          . simp only [RD]
            refine ⟨by simp, ⟨_, _, by rw [hlen], by rw [hlen]; omega, ?_⟩, hr.2.2⟩
            by_cases h0 : b.toNat - a.toNat = 0
            . left; exact List.eq_nil_of_length_eq_zero (by omega)
            . right
              rcases hl with rfl | ⟨bb, off, o', c, e', fr, rfl, h2, h3, h4⟩
              . simp at q2; omega
              . exact ⟨bb, off + a.toNat * i.size, o', c, e', fr, fS (by omega), h2, h3, RVr.sub _ l c off _ _ h4⟩
        . simp at hq
  split at hd
  . exact key false (.inl ⟨rfl, rfl⟩) hd
  . rename_i m
    split at hd <;> try (simp at hd; done)
    rename_i c hc
    have hC := Bc (ds := ds) R hc
    cases hq : (b == c && hi.isSome) with
    | false => simp only [hq, cond_false] at hd; cases hd
    | true =>
      simp only [hq, cond_true] at hd
      simp at hq
      obtain ⟨rfl, hs⟩ := hq
      refine key true (.inr ⟨rfl, ?_⟩) hd
      rcases hC with ⟨h, _⟩ | ⟨k', hk'⟩
      . simp at h
      . rcases hB with ⟨h, _⟩ | ⟨k, hk⟩
        . cases hi <;> simp at hs h
        . exact ⟨k, k', hk, hk'⟩
theorem J5 {loc:Nat->Loc} {h:Array Obj} {d:D} {n:Int} {v:Value} (hr:RD h G loc d v) (hn:cu d=some n):
  (∃s,d= .v (.s s)/\v= .string s/\n=s.size)∨((∀s,d≠ .v (.s s))/\ ∃base len cap,v= .slice base len cap/\n=(len:Nat)):=by
 unfold cu at hn
 split at hn<;>try (simp at hn;done)
 ·cases hn;exact .inl ⟨_,rfl,RD.str hr,rfl⟩
 ·cases hn
  simp only [RD,RV] at hr
  obtain⟨base,cap,he,_⟩:=hr
  exact .inr ⟨by simp,base,_,cap,he,rfl⟩
 ·cases hn
  simp only [RD] at hr
  rcases hr with⟨he,rfl⟩|⟨b,off,cap,c,e,fr,he,_⟩
  ·exact .inr ⟨by simp,_,_,_,he,rfl⟩
  ·exact .inr ⟨by simp,_,_,_,he,rfl⟩
 ·cases hn
  simp only [RD] at hr
  obtain⟨base,cap,he,_⟩:=hr.2.1
  exact .inr ⟨by simp,base,_,cap,he,rfl⟩
 ·cases hn
  simp only [RD] at hr
  obtain⟨base,he,_⟩:=hr
  exact .inr ⟨by simp,base,_,_,he,rfl⟩
theorem W9 {o:Oper} {c:Call} (R:Rel w.heap G tmps σ) (ho:o.op= .call c) (hc:c.callee= .builtin .len) {d:D} (hd:aK (ck P) C σ true o.op=some d):dC P G w ⟨tmps,ds⟩ o d:=by
 simp only [ho,aK,hc] at hd
 split at hd<;>try (simp at hd;done)
 rename_i x t hargs htys
 split at hd<;>try (simp at hd;done)
 rename_i dx hx
 have hr:=R.opndF ds hx
 split at hd<;>try (simp at hd;done)
 rename_i n hn
 have ea:c.args= #[x]:=by apply Array.ext';simpa using hargs
 have et:c.argTypes= #[t]:=by apply Array.ext';simpa using htys
 have hexec:execOp (⟨tmps,ds⟩:Act).eval o=(do pure (.value (<-Builtin.len_ #[t] o.type #[(⟨tmps,ds⟩:Act).eval x])):Sem Next):=by
  simp [execOp,ho,resolve,hc,ea,et,invoke,builtin]
 split at hd<;>try (simp at hd;done)
 ·rename_i htk
  obtain⟨_,_,hu⟩:=eY htk
  split at hd<;>try (simp at hd;done)
  cases hd
  rename_i s
  rcases J5 hr hn with⟨s',h1,h2,h3⟩|⟨h1,_⟩
  ·cases h1
   refine⟨.int .i64 n,?_,rfl,fun loc=>by simp only [RD,RV]⟩
   rw [hexec]
   simp [Sem.run_bind,Builtin.len_,h2,run_underlying hu,goInt,h3]
  ·exact absurd rfl (h1 s)
 ·rename_i e htk
  obtain⟨_,_,hu⟩:=dw htk
  rcases J5 hr hn with⟨s',h1,h2,h3⟩|⟨h1,base,len,cap,h2,h3⟩
  ·subst h1;simp at hd
  ·split at hd
   ·rename_i s;exact absurd rfl (h1 s)
   ·cases hd
    refine⟨.int .i64 n,?_,rfl,fun loc=>by simp only [RD,RV]⟩
    rw [hexec]
    simp [Sem.run_bind,Builtin.len_,h2,run_underlying hu,goInt,h3]
theorem SJ {o:Oper} {c:Call} (R:Rel w.heap G tmps σ) (ho:o.op= .call c) (hc:c.callee= .builtin .max) {d:D} (hd:aK (ck P) C σ true o.op=some d):dC P G w ⟨tmps,ds⟩ o d:=by
 simp only [ho,aK,hc] at hd
 split at hd<;>try (simp at hd;done)
 rename_i x y hargs
 split at hd<;>try (simp at hd;done)
 rename_i k a k' b hx hy
 have hx:=RD.int (R.opndF ds hx)
 have hy:=RD.int (R.opndF ds hy)
 cases hd
 have ea:c.args= #[x,y]:=by apply Array.ext';simpa using hargs
 refine⟨.int k (if b>a then b else a),?_,rfl,fun loc=>by simp only [RD,RV]⟩
 simp [execOp,ho,resolve,hc,ea,invoke,builtin,Builtin.max_,Sem.run_bind,hx,hy,Builtin.max2]
theorem SH {o:Oper} {c:Call} (R:Rel w.heap G tmps σ) (ho:o.op= .call c) (hc:c.callee= .builtin .min) {d:D} (hd:aK (ck P) C σ true o.op=some d):dC P G w ⟨tmps,ds⟩ o d:=by
 simp only [ho,aK,hc] at hd
 split at hd<;>try (simp at hd;done)
 rename_i x y hargs
 split at hd<;>try (simp at hd;done)
 rename_i k a k' b hx hy
 have hx:=RD.int (R.opndF ds hx)
 have hy:=RD.int (R.opndF ds hy)
 cases hd
 have ea:c.args= #[x,y]:=by apply Array.ext';simpa using hargs
 refine⟨.int k (if b<a then b else a),?_,rfl,fun loc=>by simp only [RD,RV]⟩
 simp [execOp,ho,resolve,hc,ea,invoke,builtin,Builtin.min_,Sem.run_bind,hx,hy,Builtin.min2]
def Kf:List V->Int
 | [.i _ n]=>n
 |_=>0
theorem E9 (l:List (List V)):dL l=⟨((l.map Kf).map fun n=>UInt8.ofNat n.toNat).toArray⟩:=by
 unfold dL
 congr 2
 rw [List.map_map]
 apply List.map_congr_left
 intro r _
 match r with
 | []=>rfl
 | [.i _ _]=>rfl
 | [.b _]=>rfl
 | [.s _]=>rfl
 | [.sl ..]=>rfl
 | .b _::_::_=>rfl
 | .i _ _::_::_=>rfl
 | .s _::_::_=>rfl
 | .sl .. ::_::_=>rfl
theorem hU: ∀(l:List (List V)) (c:Array Value) (off i:Nat),dX l=true->RVr G.rd 1 l c off->i<l.length->c[off+i]? =some (.int .u8 ((l.map Kf).getD i 0))
 | [],_,_,_,_,_,h=>by simp at h
 |r::l,c,off,i,hb,hr,hi=>by
  match r,hb with
  | [.i .u8 n],hb=>
   simp only [dX,Bool.and_eq_true,decide_eq_true_eq] at hb
   simp only [RVr,RVc,RV] at hr
   obtain⟨_,⟨⟨v,h1,rfl⟩,_⟩,h3⟩:=hr
   cases i with
   |zero=>simpa [Kf] using h1
   |succ i=>
    have:=hU l c (off+1) i hb.2 h3 (by simpa using hi)
    rw [show off+(i+1)=off+1+i by omega,this]
    simp
theorem Cn {src dst e:Nat} (hs:P.underlying src=some (.slice e)) (he:P.underlying e=some (.int .u8)) (hdst:P.underlying dst=some .string) {b off cap:Nat} {c:Array Value} {e':TypeId} {fr:Nat×Nat} {l:List (List V)}
  (hb:w.heap[b]? =some (.cells c e' fr)) (hl:dX l=true) (hr:RVr G.rd 1 l c off):(Go.convert src dst (.slice (some ⟨b,off,none⟩) l.length cap)).run P w= .ok (.string (dL l)) w:=by
 rw [run_convert_bytes_arg w src e hs he b off l.length cap (l.map Kf) (by simp) (fun i hi=>by rw [dZ rfl hb];exact hU l c off i hl hr hi) dst hdst,E9]
 rfl
theorem H7 {sz:Nat} {c:Array Value} {off:Nat} : ∀(l:List (List V)),dX l=true->l≠ []->RVr G.rd sz l c off->sz=1
 | [],_,h,_=>absurd rfl h
 |r::l,hb,_,hr=>by
  match r,hb with
  | [.i .u8 n],hb=>simp only [RVr] at hr;have:=hr.1;simpa using this.symm
theorem IH {o : Oper} {x : Operand} {src dst : Nat} (R : Rel w.heap G tmps σ) (ho : o.op = .convert src dst x) {d : D} (hd : aK (ck P) C σ true o.op = some d) : dC P G w ⟨tmps, ds⟩ o d := by
  simp only [ho, aK] at hd
  split at hd <;> try (simp at hd; done)
  . rename_i k n hx
    have hn := RD.int (R.opndF ds hx)
    split at hd <;> try (simp at hd; done)
    rename_i k1 k2 h1 h2
    obtain ⟨_, _, hu⟩ := gT h2
    obtain ⟨_, _, hu1⟩ := gT h1
    cases hd
    refine ⟨.int k2 (k2.wrap n), ?_, rfl, fun loc => by simp only [RD, RV]⟩
    simp [execOp, ho, hn, Sem.run_bind, Go.convert, run_underlying hu, run_underlying hu1, Conv.intToInt]
  . rename_i s hx
    have hn := RD.str (R.opndF ds hx)
    split at hd <;> try (simp at hd; done)
    rename_i h1 h2
    obtain ⟨_, _, hu⟩ := eY h2
    obtain ⟨_, _, hu1⟩ := eY h1
    cases hd
    refine ⟨.string s, ?_, rfl, fun loc => by simp only [RD, RV]⟩
    simp [execOp, ho, hn, Sem.run_bind, Go.convert, run_underlying hu, run_underlying hu1]
  . rename_i dx _ _ hx
    have hr := R.opndF ds hx
    split at hd <;> try (simp at hd; done)
    rename_i e sz l h1 h2 hsl
    obtain ⟨_, _, hu1⟩ := dw h1
    obtain ⟨_, _, hu2⟩ := eY h2
    split at hd <;> try (simp at hd; done)
    rename_i he
    obtain ⟨_, _, hu3⟩ := gT he
    cases hb : dX l with
    | false => simp [hb] at hd
    | true =>
      simp [hb] at hd; subst hd
      refine ⟨.string (dL l), ?_, rfl, fun loc => by simp only [RD, RV]⟩
      have hexec : execOp (⟨tmps, ds⟩ : Act).eval o = (do pure (.value (<- Go.convert src dst ((⟨tmps, ds⟩ : Act).eval x))) : Sem Next) := by simp only [execOp, ho]
      rw [hexec, Sem.run_bind]
      -- what the operand is in memory
      have key : (∃ a len cap, (⟨tmps, ds⟩ : Act).eval x = .slice a len cap /\ l = [] /\ len = 0) ∨ ∃ b off cap c e' fr, (⟨tmps, ds⟩ : Act).eval x = .slice (some ⟨b, off, none⟩) l.length cap /\ w.heap[b]? = some (.cells c e' fr) /\ RVr G.rd sz l c off := by
        unfold aO at hsl
        split at hsl <;> try (simp at hsl; done)
        . cases hsl
          simp only [RD, RV] at hr
          obtain ⟨base, cap, g1, g2, g3⟩ := hr
          rcases g3 with rfl | ⟨b, off, c, rfl, g4, g5⟩
          . exact .inl ⟨base, 0, cap, by simpa using g1, rfl, rfl⟩
          . obtain ⟨e', fr, g6⟩ := R.inv.rd_ok b c g4
            exact .inr ⟨b, off, cap, c, e', fr, g1, g6, g5⟩
        . cases hsl
          simp only [RD] at hr
          rcases hr with ⟨g1, rfl⟩ | ⟨b, off, cap, c, e', fr, g1, g2, g3, g4, g5, g6, g7⟩
          . exact .inl ⟨none, 0, 0, g1, rfl, rfl⟩
          . exact .inr ⟨b, off, cap, c, e', fr, g1, g3, g7⟩
        . cases hsl
          simp only [RD] at hr
          obtain ⟨base, cap, g1, g2, g3⟩ := hr.2.1
          rcases g3 with rfl | ⟨b, off, o', c, e', fr, rfl, g4, g5, g6⟩
          . exact .inl ⟨base, 0, cap, by simpa using g1, rfl, rfl⟩
          . exact .inr ⟨b, off, cap, c, e', fr, g1, g5, g6⟩
        . cases hsl
          simp only [RD] at hr
          obtain ⟨base, g1, g3⟩ := hr
          rcases g3 with rfl | ⟨b, off, c, rfl, g4, g5⟩
          . exact .inl ⟨base, 0, 0, by simpa using g1, rfl, rfl⟩
          . obtain ⟨e', fr, g6⟩ := R.inv.rd_ok b c g4
            exact .inr ⟨b, off, l.length, c, e', fr, g1, g6, g5⟩
      by_cases hl0 : l = []
      . subst hl0
        have : ∃ a cap, (⟨tmps, ds⟩ : Act).eval x = .slice a 0 cap := by
          rcases key with ⟨a, len, cap, g1, _, rfl⟩ | ⟨b, off, cap, c, e', fr, g1, _⟩
          . exact ⟨a, cap, g1⟩
          . exact ⟨_, cap, g1⟩
        obtain ⟨a, cap, g1⟩ := this
        rw [g1]
        cases a with
        | none => rw [run_convert_bytes_nil w src e hu1 hu3 0 cap dst hu2]; rfl
        | some a =>
          have hz : (loadCells a 0).run P w = .ok (([] : List Int).map (Value.int .u8)).toArray w := by simp [loadCells, loadCellsFrom]
          rw [run_convert_bytes_string w src dst e _ 0 cap hu1 hu3 hu2, run_bytesToString w a 0 cap [] hz]
          rfl
      . rcases key with ⟨a, len, cap, g1, g2, _⟩ | ⟨b, off, cap, c, e', fr, g1, g2, g3⟩
        . exact absurd g2 hl0
        . have := H7 l hb hl0 g3
          subst this
          rw [g1, Cn hu1 hu3 hu2 g2 hb g3]
          rfl
end
end Go.Mx
namespace Go.Mx
open Go
def mine (G:Gh) (b:Nat):Prop:=(∃o,G.ob o=some b)∨(∃l f,G.ow l=some (b,f))
structure w7 (w:World) (G:Gh) (w':World) (G':Gh):Prop where
 os:w'.os=w.os
 tape:w'.tape=w.tape
 output:w'.output=w.output
 size:w.heap.size<=w'.heap.size
 keep: ∀b,b<w.heap.size-> ¬mine G b->w'.heap[b]? =w.heap[b]?
 mine: ∀b,mine G' b->mine G b∨w.heap.size<=b
 rd:cS G.rd G'.rd
 rdn: ∀b,G'.rd b≠none->G.rd b≠none∨Mx.mine G b∨w.heap.size<=b
theorem w7.refl (w:World) (G:Gh):w7 w G w G:=⟨rfl,rfl,rfl,Nat.le_refl _,fun _ _ _=>rfl,fun _ h=>.inl h,cS.refl _,fun _ h=>.inl h⟩
theorem w7.trans {w w1 w2:World} {G G1 G2:Gh} (h:w7 w G w1 G1) (k:w7 w1 G1 w2 G2):w7 w G w2 G2 where
 os:=k.os.trans h.os
 tape:=k.tape.trans h.tape
 output:=k.output.trans h.output
 size:=Nat.le_trans h.size k.size
 keep:=fun b hb hm=>(k.keep b (Nat.lt_of_lt_of_le hb h.size) (fun hm'=>(h.mine b hm').elim hm (fun hs=>absurd hb (Nat.not_lt.2 hs)))).trans (h.keep b hb hm)
 mine:=fun b hm=>(k.mine b hm).elim (h.mine b) (fun hs=>.inr (Nat.le_trans h.size hs))
 rd:=h.rd.trans k.rd
 rdn:=fun b hb=>(k.rdn b hb).elim (h.rdn b) (fun hm=>hm.elim (fun hm=>.inr (h.mine b hm)) (fun hs=>.inr (.inr (Nat.le_trans h.size hs))))
theorem gP {σ:St} {t j:Nat} (h:dg σ (.reg t j)=true):aN (bI σ.env t)=true:=by
 unfold dg at h
 simp only at h
 split at h
 ·rename_i sz l hl;rw [hl];rfl
 ·rename_i cs hcs
  rw [hcs]
  simp only [aN,aA,Bool.not_eq_true']
  split at h
  ·rename_i d hd
   refine Bool.eq_false_iff.2 fun ha=>?_
   have:=List.all_eq_true.1 ha d (List.mem_of_getElem? hd)
   cases d<;>simp_all [bG,ay]
  ·cases h
 ·cases h
theorem AT (tmps:Array Value) (t u:Nat) (v:Value) (ht:t<tmps.size):(tmps.setIfInBounds t v).getD u undef=if t=u then v else tmps.getD u undef:=by
 by_cases h:t=u
 ·subst h;simp [ht]
 ·by_cases hu:u<tmps.size
  ·simp [h,hu,Array.getElem_setIfInBounds]
  ·simp [h,hu]
def cW (d:D) (j:Nat):Bool:=match d with
 | .own .. =>j==0
 | .agg cs=>match cs[j]? with|some d=>bG d|none=>false
 |_=>false
theorem dc {σ:St} {t j:Nat} :dg σ (.reg t j)=cW (bI σ.env t) j:=rfl
theorem eJ {p:Loc->Bool} (d:D) (j:Nat):cW (iy p d) j=cW d j:=by
 cases d with
 |al full sz l src=>simp only [iy];cases p src<;>rfl
 |ep src sz i off=>simp only [iy];cases p src<;>rfl
 |agg cs=>
  simp only [iy,cW,AU]
  cases cs[j]? with
  |none=>rfl
  |some d=>simp [Hx]
 |_=>simp only [iy,cW]
theorem Rel.reg {h h' : Array Obj} {G G' : Gh} {tmps : Array Value} {σ : St} (R : Rel h G tmps σ) {t : Nat} {d : D} {v : Value} (ht : t < tmps.size)
    (I : Inv h' G') (F : Fr (fun l => ∃ j, l = .reg t j) h G h' G') (hob : ∀ o, G'.ob o = G.ob o)
    (hobh : ∀ o b, G.ob o = some b -> h'[b]? = h[b]?)
    (hown : ∀ l p, l.place = true -> G'.ow l = some p -> (∀ j, l ≠ .reg t j) -> G.ow l = some p) (hd : RD h' G' (Loc.reg t) d v) (hdo : ∀ j p, G'.ow (.reg t j) = some p -> cW d j = true) :
    Rel h' G' (tmps.setIfInBounds t v) { σ with env := setReg σ.env t d } := by
  -- a place of this register that owned nothing: nothing hangs on it
  have F' : aN (bI σ.env t) = false -> Fr (fun _ => False) h G h' G' := fun hno => {
    rd := F.rd, ob := F.ob
    ow := fun l p hp _ hl => by
      refine F.ow l p hp ?_ hl
      rintro ⟨j, rfl⟩
      have := gP (R.own _ _ (fun _ _ h => by cases h) hl)
      rw [hno] at this; cases this
    owh := fun l b f hp _ hl => by
      refine F.owh l b f hp ?_ hl
      rintro ⟨j, rfl⟩
      have := gP (R.own _ _ (fun _ _ h => by cases h) hl)
      rw [hno] at this; cases this }
  have henv : ∀ u, bI (setReg σ.env t d) u = if t = u then d else (bif aN (bI σ.env t) then iy (bO t) (bI σ.env u) else bI σ.env u) := by
    intro u
    unfold setReg
    rw [cJ]
    split
    . rfl
    . cases aN (bI σ.env t) with
      | true => simp only [cond_true]; exact cU _ _ _
      | false => rfl
  refine ⟨I, ?_, ?_, R.obc, ?_, ?_⟩
  . intro u
    rw [henv, AT _ _ _ _ ht]
    by_cases hu : t = u
    . subst hu; simpa using hd
    . simp only [hu, if_false]
      cases hh : aN (bI σ.env t) with
      | false => simp only [cond_false]; exact RD.fr (F' hh) _ (fun _ => rfl) _ _ (free.none _ _) (R.env u)
      | true =>
        simp only [cond_true]
        refine RD.fr F _ (fun _ => rfl) _ _ (free.kill ?_ ?_ ?_ _) (RD.kill _ _ _ (R.env u))
        . rintro l ⟨j, rfl⟩; simp [bO]
        . rintro ⟨j, hj⟩; cases hj
        . rintro j ⟨k, hk⟩; cases hk; exact hu rfl
  . intro o cs hcs
    obtain ⟨b, c, e, fr, h1, h2, h3, h4⟩ := R.obj o cs hcs
    refine ⟨b, c, e, fr, by rw [hob]; exact h1, by rw [hobh o b h1]; exact h2, h3, ?_⟩
    exact RDs.fr F _ (fun _ => rfl) _ _ _ (kn.cell 0 cs (R.obc o cs hcs) (by rintro i d _ _ ⟨j, hj⟩; cases hj)) h4
  . intro o ho; rw [hob]; exact R.obn o ho
  . intro l p hh hl
    by_cases hr : ∃ j, l = .reg t j
    . obtain ⟨j, rfl⟩ := hr
      rw [dc]
      simp only [cJ, setReg, if_true]
      exact hdo j p hl
    . have hl' := R.own l p hh (hown l p (by cases l <;> first | rfl | exact absurd rfl (hh _ _)) hl (fun j hj => hr ⟨j, hj⟩))
      cases l with
      | reg u j =>
        rw [dc] at *
        rw [henv]
        have hu : t ≠ u := fun hu => hr ⟨j, by rw [hu]⟩
        simp only [hu, if_false]
        cases aN (bI σ.env t) with
        | true => simpa only [cond_true, eJ] using hl'
        | false => simpa only [cond_false] using hl'
      | cell o off => exact hl'
      | hand k j => exact absurd rfl (hh k j)
      | nowhere => exact hl'
end Go.Mx
namespace Go.Mx
open Go
structure Cq (h:Array Obj) (G:Gh) (h':Array Obj) (G':Gh):Prop where
 rd:cS G.rd G'.rd
 ob: ∀o b,G.ob o=some b->G'.ob o=some b
theorem RD.stay {h h':Array Obj} {G G':Gh} {loc loc':Nat->Loc} {d:D} {v:Value} (M:Cq h G h' G') (hs:bJ d=true) (hr:RD h G loc d v):RD h' G' loc' d v:=by
 have F:Fr (fun _=>True) h G h' G':=⟨M.rd,M.ob,fun l p _ hl=>absurd trivial hl,fun l b f _ hl=>absurd trivial hl⟩
 have hof:aA d=true:=by cases d<;>simp_all [bJ,aA]
 exact RD.reloc hof (RD.fr F (fun _=>.nowhere) (fun _=>rfl) d v (free.stay hs) (RD.reloc hof hr))
theorem RDs.stay {h h':Array Obj} {G G':Gh} {loc loc':Nat->Loc} (M:Cq h G h' G'): ∀(j j':Nat) (ds:List D) (vs:List Value),ds.all bJ=true->RDs h G loc j ds vs->RDs h' G' loc' j' ds vs
 |_,_,[],[],_,_=>by simp only [RDs]
 |j,j',d::ds,v::vs,hs,hr=>by
  simp only [List.all_cons,Bool.and_eq_true] at hs
  simp only [RDs] at*
  exact⟨RD.stay M hs.1 hr.1,RDs.stay M (j+1) (j'+1) ds vs hs.2 hr.2⟩
 |_,_,[],_::_,_,hr=>by simp only [RDs] at hr
 |_,_,_::_,[],_,hr=>by simp only [RDs] at hr
theorem RD.cellMove {h h':Array Obj} {G G':Gh} {l l':Loc} {d:D} {v:Value} (M:Cq h G h' G') (hc:aM d=true)
  (ho:bG d=true-> ∀b f,G.ow l=some (b,f)->G'.ow l'=some (b,f)/\h'[b]? =h[b]?) (hr:RD h G (fun _=>l) d v):RD h' G' (fun _=>l') d v:=by
 cases d with
 |own sz m=>
  simp only [RD] at*
  rcases hr with hr|⟨b,off,cap,c,e,fr,h1,h2,h3,h4,h5,h6,h7⟩
  ·exact .inl hr
  ·obtain⟨g1,g2⟩:=ho rfl b off h2
   exact .inr ⟨b,off,cap,c,e,fr,h1,g1,by rw [g2];exact h3,h4,h5,h6,RVr.mono M.rd _ _ _ _ h7⟩
 |clo f cs=>
  simp only [RD] at*
  obtain⟨vs,h1,h2⟩:=hr
  exact⟨vs,h1,RDs.stay M _ _ _ _ (by simpa [aM] using hc) h2⟩
 |_=>exact RD.stay M hc hr
theorem RDs.cellMove {h h':Array Obj} {G G':Gh} {loc loc':Nat->Loc} (M:Cq h G h' G'): ∀(j j':Nat) (ds:List D) (vs:List Value),ds.all aM=true->
  (∀i d,ds[i]? =some d->bG d=true-> ∀b f,G.ow (loc (j+i))=some (b,f)->G'.ow (loc' (j'+i))=some (b,f)/\h'[b]? =h[b]?)->RDs h G loc j ds vs->RDs h' G' loc' j' ds vs
 |_,_,[],[],_,_,_=>by simp only [RDs]
 |j,j',d::ds,v::vs,hs,ho,hr=>by
  simp only [List.all_cons,Bool.and_eq_true] at hs
  simp only [RDs] at*
  refine⟨RD.cellMove M hs.1 (fun hd=>by simpa using ho 0 d rfl hd) hr.1,RDs.cellMove M (j+1) (j'+1) ds vs hs.2 (fun i d' hd=>?_) hr.2⟩
  have:=ho (i+1) d' (by simpa using hd)
  rw [Nat.add_assoc,Nat.add_comm 1 i,Nat.add_assoc,Nat.add_comm 1 i]
  exact this
 |_,_,[],_::_,_,_,hr=>by simp only [RDs] at hr
 |_,_,_::_,[],_,_,hr=>by simp only [RDs] at hr
theorem RD.valMove {h h':Array Obj} {G G':Gh} {loc loc':Nat->Loc} {d:D} {v:Value} (M:Cq h G h' G') (hc:bD d=true)
  (ho: ∀j,cW d j=true-> ∀b f,G.ow (loc j)=some (b,f)->G'.ow (loc' j)=some (b,f)/\h'[b]? =h[b]?) (hr:RD h G loc d v):RD h' G' loc' d v:=by
 cases d with
 |agg cs=>
  simp only [RD] at*
  obtain⟨vs,h1,h2⟩:=hr
  refine⟨vs,h1,RDs.cellMove M 0 0 cs _ (by simpa [bD] using hc) (fun i d hd hown b f hb=>?_) h2⟩
  have:=ho i (by simp [cW,hd,hown]) b f (by simpa using hb)
  simpa using this
 |own sz m=>
  have hr':RD h G (fun _=>loc 0) (.own sz m) v:=by simpa only [RD] using hr
  have:=RD.cellMove (l:=loc 0) (l':=loc' 0) M (d:=.own sz m) (by rfl) (fun _=>ho 0 rfl) hr'
  simpa only [RD] using this
 |clo f cs=>
  have hr':RD h G (fun _=>loc 0) (.clo f cs) v:=by simpa only [RD] using hr
  have:=RD.cellMove (l:=loc 0) (l':=loc' 0) M (d:=.clo f cs) hc (fun h=>by cases h) hr'
  simpa only [RD] using this
 |_=>first|exact RD.stay M hc hr|(simp [bD,aM,bJ] at hc)
theorem Inv.sub {h:Array Obj} {G:Gh} (I:Inv h G) {ow:Loc->Option (Nat×Nat)} (hs: ∀l p,ow l=some p-> ∃l0,G.ow l0=some p)
  (hi: ∀l l' b f f',ow l=some (b,f)->ow l'=some (b,f')->l=l'):Inv h { G with ow:=ow } where
 rd_ok:=I.rd_ok
 ob_lt:=I.ob_lt
 ob_rd:=I.ob_rd
 ob_inj:=I.ob_inj
 ow_lt:=fun l b f hl=>let ⟨l0,h0⟩:=hs l _ hl;I.ow_lt l0 b f h0
 ow_rd:=fun l b f hl=>let ⟨l0,h0⟩:=hs l _ hl;I.ow_rd l0 b f h0
 ow_ob:=fun l b f o hl=>let ⟨l0,h0⟩:=hs l _ hl;I.ow_ob l0 b f o h0
 ow_inj:=hi
structure dG (h:Array Obj) (G:Gh) (k:Nat) (d:D) (v:Value):Prop where
 rd:RD h G (Loc.hand k) d v
 own: ∀j p,G.ow (.hand k j)=some p->cW d j=true
 ok:bD d=true
structure yS (k:Nat) (h:Array Obj) (G:Gh) (G':Gh):Prop where
 rd:G'.rd=G.rd
 ob:G'.ob=G.ob
 mine: ∀l p,G'.ow l=some p-> ∃l0,G.ow l0=some p
 hand: ∀q j,q≠k->G'.ow (.hand q j)=G.ow (.hand q j)
 cell: ∀o off,G'.ow (.cell o off)=G.ow (.cell o off)
 keep: ∀l p,l.place=true->G'.ow l=some p->G.ow l=some p
theorem yS.more {k:Nat} {h:Array Obj} {G G':Gh} (T:yS k h G G'):Cq h G h G':=⟨by rw [T.rd];exact cS.refl _,fun o b hb=>by rw [T.ob];exact hb⟩
theorem yS.held {k q:Nat} {h:Array Obj} {G G':Gh} (T:yS k h G G') (hq:q≠k) {d:D} {v:Value} (H:dG h G q d v):dG h G' q d v:=
 ⟨RD.valMove T.more H.ok (fun j _ b f hb=>⟨by rw [T.hand q j hq];exact hb,rfl⟩) H.rd,fun j p hp=>H.own j p (by rw [<-T.hand q j hq];exact hp),H.ok⟩
theorem yS.step {k:Nat} {w:World} {G G':Gh} (T:yS k w.heap G G'):w7 w G w G':=
 ⟨rfl,rfl,rfl,Nat.le_refl _,fun _ _ _=>rfl,fun b hb=>.inl (by
  rcases hb with⟨o,ho⟩|⟨l,f,hl⟩
  ·exact .inl ⟨o,by rw [<-T.ob];exact ho⟩
  ·obtain⟨l0,h0⟩:=T.mine l _ hl;exact .inr ⟨l0,f,h0⟩),by rw [T.rd];exact cS.refl _,fun b hb=>.inl (by rw [<-T.rd];exact hb)⟩
section
variable {P:Program} {h:Array Obj} {G:Gh} {tmps:Array Value} {σ:St} {ds:List Deferred}
def xd (G:Gh):Prop:=∀k j,G.ow (.hand k j)=none
theorem Rel.takeReg (R : Rel h G tmps σ) (k u : Nat) (hk : ∀ j, G.ow (.hand k j) = none) : ∃ G', Rel h G' tmps { σ with env := put (kill (bO u) σ.env) u .bad } /\ yS k h G G' /\ (∀ j, G'.ow (.hand k j) = G.ow (.reg u j)) /\ (∀ t j, t ≠ u -> G'.ow (.reg t j) = G.ow (.reg t j)) := by
  let ow : Loc -> Option (Nat × Nat) := fun l => match l with
    | .hand q j => if q = k then G.ow (.reg u j) else G.ow (.hand q j)
    | .reg t j => if t = u then none else G.ow (.reg t j)
    | l => G.ow l
  have o1 : ∀ j, ow (.hand k j) = G.ow (.reg u j) := fun j => by simp [ow]
  have o2 : ∀ q j, q ≠ k -> ow (.hand q j) = G.ow (.hand q j) := fun q j hq => by simp [ow, hq]
  have o3 : ∀ j, ow (.reg u j) = none := fun j => by simp [ow]
  have o4 : ∀ t j, t ≠ u -> ow (.reg t j) = G.ow (.reg t j) := fun q j hq => by simp [ow, hq]
  -- where a place has what it owns from
  let r : Loc -> Loc := fun l => match l with
    | .hand q j => if q = k then .reg u j else .hand q j
    | l => l
  have hr : ∀ l p, ow l = some p -> G.ow (r l) = some p := by
    intro l p hl
    cases l with
    | hand q j =>
      by_cases hq : q = k
      . subst hq; rw [o1] at hl; simpa [r] using hl
      . rw [o2 q j hq] at hl; simpa [r, hq] using hl
    | reg t j =>
      by_cases ht : t = u
      . subst ht; rw [o3] at hl; cases hl
      . rw [o4 t j ht] at hl; exact hl
    | _ => exact hl
  have hinj : ∀ l l' b f f', ow l = some (b, f) -> ow l' = some (b, f') -> l = l' := by
    intro l l' b f f' h1 h2
    have e := R.inv.ow_inj _ _ b f f' (hr _ _ h1) (hr _ _ h2)
    cases l <;> cases l' <;> simp only [r] at e <;> (try split at e) <;> (try split at e) <;> simp_all
  refine ⟨{ G with ow := ow }, ⟨R.inv.sub (fun l p hl => ⟨_, hr l p hl⟩) hinj, ?_, ?_, R.obc, R.obn, ?_⟩, ⟨rfl, rfl, fun l p hl => ⟨_, hr l p hl⟩, o2, fun _ _ => rfl, fun l p hpl hl => (by have := hr l p hl; cases l <;> first | exact this | cases hpl)⟩, o1, o4⟩
  . have F : Fr (fun l => ∃ j, l = .reg u j) h G h { G with ow := ow } := ⟨cS.refl _, fun _ _ h => h, fun l p hpl hl hp => by
      show ow l = some p
      cases l with
      | hand q j => cases hpl
      | reg t j => rw [o4 t j (fun ht => hl ⟨j, by rw [ht]⟩)]; exact hp
      | _ => exact hp, fun _ _ _ _ _ _ => rfl⟩
    intro t
    rw [cJ]
    split
    . simp only [RD]
    . rename_i hu
      rw [cU]
      refine RD.fr F _ (fun _ => rfl) _ _ (free.kill ?_ ?_ ?_ _) (RD.kill _ _ _ (R.env t))
      . rintro l ⟨j, rfl⟩; simp [bO]
      . rintro ⟨j, hj⟩; cases hj
      . rintro j ⟨q, hq⟩; cases hq; exact hu rfl
  . intro o cs hcs
    obtain ⟨b, c, e, fr, h1, h2, h3, h4⟩ := R.obj o cs hcs
    refine ⟨b, c, e, fr, h1, h2, h3, RDs.cellMove (G := G) (G' := { G with ow := ow }) ⟨cS.refl _, fun _ _ h => h⟩ 0 0 cs _ (R.obc o cs hcs) (fun i d _ _ b f hb => ⟨hb, rfl⟩) h4⟩
  . intro l p hh hl
    cases l with
    | hand q j => exact absurd rfl (hh q j)
    | reg t j =>
      by_cases ht : t = u
      . subst ht
        have : ow (.reg t j) = some p := hl
        rw [o3] at this; cases this
      . have hl' : G.ow (.reg t j) = some p := by rw [<- o4 t j ht]; exact hl
        have := R.own _ p hh hl'
        rw [dc] at *
        rw [cJ, if_neg (fun e => ht e.symm), cU, eJ]
        exact this
    | cell o off => exact R.own _ p hh hl
    | nowhere => exact R.own _ p hh hl
theorem Rel.take (R:Rel h G tmps σ) (k:Nat) (hk: ∀j,G.ow (.hand k j)=none) {x:Operand} {d:D} (hf:bl true (Mx.opnd σ.env x)=some d) (hv:bD d=true):
  ∃G',Rel h G' tmps { σ with env:=spend σ.env x } /\yS k h G G'/\dG h G' k d ((⟨tmps,ds⟩:Act).eval x):=by
 have still:(∀loc,RD h G loc d ((⟨tmps,ds⟩:Act).eval x))->spend σ.env x=σ.env-> ∃G',Rel h G' tmps { σ with env:=spend σ.env x } /\yS k h G G'/\dG h G' k d ((⟨tmps,ds⟩:Act).eval x):=by
  intro hrd he
  refine⟨G,by rw [he];exact R,⟨rfl,rfl,fun l p hl=>⟨l,hl⟩,fun _ _ _=>rfl,fun _ _=>rfl,fun _ _ _ h=>h⟩,⟨hrd _,fun j p hp=>(by rw [hk] at hp;cases hp),hv⟩⟩
 cases x with
 |const v=>
  refine still (fun loc=>(fR hf (RD.ofConst loc v)).1) rfl
 |global g=>simp [Mx.opnd,bl,bQ] at hf
 |func f=>
  refine still (fun loc=>(fR hf ?_).1) rfl
  simp only [Mx.opnd,RD,Act.eval]
  exact⟨#[],rfl,by simp only [RDs]⟩
 |tmp u=>
  have hr:=R.env u
  have hfo:=yX hf
  simp only [Mx.opnd] at hf hfo
  cases hh:aN (bI σ.env u) with
  |false=>
   have hof:aA d=true:=by
    rcases hfo with⟨he,hkn⟩|⟨ho,_⟩
    ·rw [he] at hh
     cases d<;>simp_all [aN,ey]
    ·exact ho
   refine still (fun loc=>RD.reloc hof (fR hf hr).1) (by simp [spend,hh])
  |true=>
   have he:bI σ.env u=d:=by
    rcases hfo with⟨he,_⟩|⟨_,g,hg⟩
    ·exact he
    ·rw [hg] at hh;simp [aN] at hh
   obtain⟨G',R',T,h1,h2⟩:=R.takeReg k u hk
   refine⟨G',by simpa [spend,hh] using R',T,⟨?_,?_,hv⟩⟩
   ·rw [he] at hr
    exact RD.valMove T.more hv (fun j _ b f hb=>⟨by rw [h1];exact hb,rfl⟩) hr
   ·intro j p hp
    rw [h1] at hp
    have:=R.own _ p (fun _ _ h=>by cases h) hp
    rw [dc,he] at this
    exact this
end
end Go.Mx
