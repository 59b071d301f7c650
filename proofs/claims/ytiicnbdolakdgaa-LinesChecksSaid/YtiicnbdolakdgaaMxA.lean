/- The abstract machine: Go code run on data instead of memory. Definitions alone. -/
import Derived.Calls
set_option linter.unusedSimpArgs false
set_option linter.unusedVariables false
set_option linter.constructorNameAsVariable false
set_option linter.unnecessarySimpa false
namespace Go.Mx

/-- Plain data: what a cell of a variable holds, a slice with all its elements (each a list of cells). -/
inductive V where
  | b (x : Bool)
  | i (k : IntKind) (n : Int)
  | s (x : ByteArray)
  | sl (sz : Nat) (l : List (List V))
  deriving Inhabited

inductive Loc where
  | reg (t j : Nat)
  | cell (o off : Nat)
  | hand (k j : Nat)
  | nowhere
  deriving DecidableEq, Inhabited

/-- What a register or a variable's cell holds, as the machine knows it. -/
inductive D where
  | v (x : V)
  | undef
  | bad
  | mb (g : Bool) (d : D)
  | own (sz : Nat) (l : List (List V))
  | al (full : Bool) (sz : Nat) (l : List (List V)) (src : Loc)
  | cut (sz : Nat) (l : List (List V))
  | rp (cells : List V)
  | ptr (o off : Nat)
  | ep (src : Loc) (sz i off : Nat)
  | agg (cs : List D)
  | tup (cs : List D)
  | clo (f : Nat) (caps : List D)
  | nilp
  deriving Inhabited

abbrev Env := List (Nat × D)
abbrev Store := List (List D)
structure St where
  env : Env
  S : Store

def look : Env → Nat → D
  | [], _ => .bad
  | (u, d) :: r, t => bif u == t then d else look r t

def put (env : Env) (t : Nat) (d : D) : Env := (t, d) :: env

inductive TK where
  | bool | int (k : IntKind) | str | slice (e : Nat) | array (n e : Nat) | struct (fs : List (Nat × Nat)) | ptr | func | other
  deriving Inhabited

/-- What the machine knows of a type. flat: for each cell, the size of a slice's elements (0: the cell is no slice). eqk: where values of the type are compared cell by cell, the cells' kinds (1: bool, 2: integer, 3: string). -/
structure Ty where
  tk : TK
  size : Nat
  bytes : Nat
  agg : Bool
  flat : List Nat
  eqk : List Nat
  zero : List D
  deriving Inhabited

def ofCell : Value → D
  | .bool b => .v (.b b)
  | .int k n => .v (.i k n)
  | .string s => .v (.s s)
  | .slice none 0 0 => .own 0 []
  | .pointer none => .nilp
  | _ => .bad
def ofConst : Value → D
  | .agg cs => .agg (cs.toList.map ofCell)
  | v => ofCell v

def opnd (env : Env) : Operand → D
  | .tmp t => look env t
  | .const v => ofConst v
  | .global _ => .bad
  | .func f => .clo f []

/-- What hangs on no place. -/
def stayC : D → Bool
  | .v _ | .undef | .bad | .cut .. | .rp _ | .ptr .. | .nilp => true
  | _ => false
/-- What a variable's cell may hold. -/
def cellOk : D → Bool
  | .own .. => true
  | .clo _ cs => cs.all stayC
  | d => stayC d
/-- What an operation may take along: it hangs on no other place. -/
def valOk : D → Bool
  | .agg cs => cs.all cellOk
  | d => cellOk d
/-- A cell that owns nothing. -/
def ownFreeC : D → Bool
  | .own .. | .agg _ | .mb .. => false
  | _ => true
def ownFree : D → Bool
  | .agg cs => cs.all ownFreeC
  | .own .. | .mb .. => false
  | _ => true
def hasOwn : D → Bool
  | .mb .. => false
  | d => !ownFree d

/-- An operand's value where the operation runs under the guard g. -/
def solid : D → Option D
  | .mb .. | .undef | .bad => none
  | d => some d
def force (g : Bool) : D → Option D
  | .mb h d => bif (!g || h) then (bif ownFree d then solid d else none) else none
  | d => solid d

def binV (op : BinOp) : V → V → Option V
  | .i k a, .i k' b =>
    if k = k' then
      match op with
      | .add => some (.i k (k.wrap (a + b)))
      | .sub => some (.i k (k.wrap (a - b)))
      | .mul => some (.i k (k.wrap (a * b)))
      | .eql => some (.b (a == b))
      | .neq => some (.b (a != b))
      | .lss => some (.b (decide (a < b)))
      | .leq => some (.b (decide (a ≤ b)))
      | .gtr => some (.b (decide (a > b)))
      | .geq => some (.b (decide (a ≥ b)))
      | _ => none
    else none
  | .s x, .s y => match op with
    | .eql => some (.b (x.toList == y.toList))
    | .neq => some (.b (!(x.toList == y.toList)))
    | .lss => some (.b (Op.bytesLess x.toList y.toList))
    | .leq => some (.b (Op.bytesLess x.toList y.toList || x.toList == y.toList))
    | .gtr => some (.b (!(Op.bytesLess x.toList y.toList || x.toList == y.toList)))
    | .geq => some (.b (!(Op.bytesLess x.toList y.toList)))
    | _ => none
  | _, _ => none

end Go.Mx
namespace Go.Mx

def isOwn : D → Bool
  | .own .. => true
  | _ => false
/-- One cell made ready for a variable: k is the size of a slice's elements, 0 where the variable is no slice. -/
def fitC (k : Nat) : D → Option D
  | .own sz l => bif k == 0 then none else bif (sz == k || (sz == 0 && l.isEmpty)) then some (.own k l) else none
  | .cut sz l => bif k == 0 then none else bif (sz == k || l.isEmpty) then some (.v (.sl k l)) else none
  | .v (.sl sz l) => bif k == 0 then none else bif (sz == k || l.isEmpty) then some (.v (.sl k l)) else none
  | .v x => bif k == 0 then some (.v x) else none
  | .ptr o f => some (.ptr o f)
  | .rp c => some (.rp c)
  | .clo f c => bif c.all stayC then some (.clo f c) else none
  | .nilp => some .nilp
  | _ => none

def fitCs : List Nat → List D → Option (List D)
  | [], [] => some []
  | k :: ks, d :: ds => match fitC k d with
    | some d' => match fitCs ks ds with
      | some r => some (d' :: r)
      | none => none
    | none => none
  | _, _ => none

def fit (ty : Ty) : D → Option D
  | .agg cs => bif ty.agg then (match fitCs ty.flat cs with | some r => some (.agg r) | none => none) else none
  | d => match ty.flat with
    | [k] => bif ty.agg then none else fitC k d
    | _ => none

def cellsOf : D → List D
  | .agg cs => cs
  | d => [d]

/-- Two cells of a kind (1: bool, 2: integer, 3: string): are they alike? -/
def eqC : Nat → V → V → Option Bool
  | 1, .b x, .b y => some (x == y)
  | 2, .i k x, .i k' y => if k = k' then some (x == y) else none
  | 3, .s x, .s y => some (x.toList == y.toList)
  | _, _, _ => none

/-- Frozen: plain data for ever. -/
def toV : D → Option V
  | .v x => some x
  | .own sz l => some (.sl sz l)
  | .cut sz l => some (.sl sz l)
  | _ => none
def toVs : List D → Option (List V)
  | [] => some []
  | d :: r => match toV d with
    | some x => match toVs r with
      | some s => some (x :: s)
      | none => none
    | none => none

mutual
def killB (p : Loc → Bool) : D → D
  | .al full sz l src => bif p src then .bad else .al full sz l src
  | .ep src sz i off => bif p src then .bad else .ep src sz i off
  | .mb g d => .mb g (killB p d)
  | .agg cs => .agg (killBs p cs)
  | .tup cs => .tup (killBs p cs)
  | .clo f cs => .clo f (killBs p cs)
  | .v x => .v x
  | .undef => .undef
  | .bad => .bad
  | .own sz l => .own sz l
  | .cut sz l => .cut sz l
  | .rp c => .rp c
  | .ptr o f => .ptr o f
  | .nilp => .nilp
def killBs (p : Loc → Bool) : List D → List D
  | [] => []
  | d :: r => killB p d :: killBs p r
end
def kill (p : Loc → Bool) (env : Env) : Env := env.map fun e => (e.1, killB p e.2)
def inReg (t : Nat) : Loc → Bool
  | .reg u _ => u == t
  | _ => false
def inObj (o : Nat) : Loc → Bool
  | .cell q _ => q == o
  | _ => false
def isCell : Loc → Bool
  | .cell .. => true
  | _ => false

/-- A register gets a value (what pointed into what it owned is known no more). -/
def setReg (env : Env) (t : Nat) (d : D) : Env := put (bif hasOwn (look env t) then kill (inReg t) env else env) t d
/-- What an operand owned has gone on. -/
def spend (env : Env) : Operand → Env
  | .tmp u => bif hasOwn (look env u) then put (kill (inReg u) env) u .bad else env
  | _ => env

def setCells : List D → Nat → List D → List D
  | cs, _, [] => cs
  | cs, off, d :: r => setCells (cs.set off d) (off + 1) r
def setVs : List V → Nat → List V → List V
  | cs, _, [] => cs
  | cs, off, d :: r => setVs (cs.set off d) (off + 1) r

variable (T : Nat → Ty)

def sliceOf : D → Option (Nat × List (List V))
  | .v (.sl sz l) | .own sz l | .al _ sz l _ | .cut sz l => some (sz, l)
  | _ => none

def lenD : D → Option Int
  | .v (.s x) => some (x.size : Int)
  | .v (.sl _ l) | .own _ l | .al _ _ l _ | .cut _ l => some (l.length : Int)
  | _ => none

def eqCells : List Nat → List D → List D → Option Bool
  | [], [], [] => some true
  | k :: ks, .v x :: r, .v y :: s => match eqC k x y with
    | some p => match eqCells ks r s with
      | some q => some (p && q)
      | none => none
    | _ => none
  | _, _, _ => none

def binD (ty : Ty) (op : BinOp) : D → D → Option D
  | .v x, .v y => match binV op x y with
    | some z => some (.v z)
    | none => match ty.tk, x, y, op with
      | .bool, .b p, .b q, .eql => some (.v (.b (p == q)))
      | .bool, .b p, .b q, .neq => some (.v (.b (!(p == q))))
      | _, _, _, _ => none
  | .agg xs, .agg ys => bif ty.agg && !ty.eqk.isEmpty then (match op with
    | .eql => match eqCells ty.eqk xs ys with | some q => some (.v (.b q)) | none => none
    | .neq => match eqCells ty.eqk xs ys with | some q => some (.v (.b (!q))) | none => none
    | _ => none) else none
  | _, _ => none

def fieldOff (t f : Nat) : Option (Nat × Nat) := match (T t).tk with
  | .struct fs => match fs[f]? with
    | some (o, u) => bif (T u).size == 0 || (T u).flat.isEmpty then none else some (o, u)
    | none => none
  | _ => none

def partD (ty : Ty) (cs : List D) (off : Nat) : Option D :=
  bif ty.agg then (bif ((cs.drop off).take ty.size).length == ty.size && ((cs.drop off).take ty.size).all ownFreeC then some (.agg ((cs.drop off).take ty.size)) else none)
  else match ty.flat with
    | [_] => match cs[off]? with
      | some d => bif ownFreeC d then some d else none
      | none => none
    | _ => none

/-- The own list at a place. -/
def ownAt (σ : St) : Loc → Option (Nat × List (List V))
  | .reg t j => match look σ.env t with
    | .own sz l => bif j == 0 then some (sz, l) else none
    | _ => none
  | .cell o off => match σ.S[o]? with
    | some cs => match cs[off]? with
      | some (.own sz l) => some (sz, l)
      | _ => none
    | none => none
  | _ => none

def loadAt (ty : Ty) (σ : St) : D → Option D
  | .ptr o off => match σ.S[o]? with
    | some cs => match cs[off]?, ty.agg, ty.flat with
      | some (.own sz l), false, [_] => some (.al true sz l (.cell o off))
      | _, _, _ => partD ty cs off
    | none => none
  | .rp cells => partD ty (cells.map .v) 0
  | .ep src sz i off => match ownAt σ src with
    | some (sz', l) => bif sz == sz' then (match l[i]? with
      | some row => partD ty ((row.drop off).map .v) 0
      | none => none) else none
    | none => none
  | _ => none

def rowsBytes (l : List (List V)) : ByteArray := ⟨(l.map fun r => match r with | [.i _ n] => UInt8.ofNat n.toNat | _ => 0).toArray⟩
def allBytes : List (List V) → Bool
  | [] => true
  | [.i .u8 n] :: r => decide (0 ≤ n ∧ n < 256) && allBytes r
  | _ :: _ => false
def bytesRows (s : ByteArray) : List (List V) := s.data.toList.map fun b => [.i .u8 b.toNat]

def isSliceK : TK → Bool
  | .slice _ => true
  | _ => false
/-- A slice's elements, or a string's bytes where it is appended. -/
def tailOf : D → Option (Nat × List (List V))
  | .v (.s x) => some (1, bytesRows x)
  | _ => none

/-- Lent to a call: as plain data. -/
def lend : D → D
  | .own sz l | .al _ sz l _ | .cut sz l => .v (.sl sz l)
  | d => d
def lendA : D → D
  | .agg cs => .agg (cs.map lend)
  | d => lend d
def tracked : D → Bool
  | .own .. | .al .. | .cut .. => true
  | _ => false
def trackedA : D → Bool
  | .agg cs => cs.any tracked
  | d => tracked d
/-- Is there a slice in it? -/
def noSlV : V → Bool
  | .sl .. => false
  | _ => true
def noSlC : D → Bool
  | .v x => noSlV x
  | _ => false
def noSl : D → Bool
  | .agg cs => cs.all noSlC
  | .tup cs => cs.all noSlC
  | d => noSlC d
/-- No pointer in it: it may go into a call that sees no variables. -/
def bareC : D → Bool
  | .v _ => true
  | _ => false
def bare : D → Bool
  | .agg cs => cs.all bareC
  | .clo _ [] => true
  | d => bareC d

def forceAll (g : Bool) (env : Env) : List Operand → Option (List D)
  | [] => some []
  | x :: r => match force g (opnd env x) with
    | some d => match forceAll g env r with
      | some s => some (d :: s)
      | none => none
    | none => none

def subList (l : List (List V)) (lo hi : Nat) : List (List V) := (l.take hi).drop lo

def asNat : D → Option Int
  | .v (.i _ n) => some n
  | _ => none

def bound (g : Bool) (env : Env) (x : Option Operand) (dflt : Int) : Option Int := match x with
  | none => some dflt
  | some o => match force g (opnd env o) with
    | some d => asNat d
    | none => none

/-- Slices of this element type have elements of so many cells. -/
def elemIs (ty : Ty) (sz : Nat) : Bool := sz == ty.size && !ty.flat.isEmpty

def sliceD (T : Nat → Ty) (tk : TK) (d : D) (lo hi : Int) (cutAt : Bool) : Option D :=
  match tk, d with
  | .str, .v (.s x) => bif decide (0 ≤ lo ∧ lo ≤ hi ∧ hi ≤ x.size) && !cutAt then some (.v (.s (x.extract lo.toNat hi.toNat))) else none
  | .slice e, .v (.sl sz l) => bif elemIs (T e) sz && decide (0 ≤ lo ∧ lo ≤ hi ∧ hi ≤ l.length) then
      some (bif cutAt then .cut sz (subList l lo.toNat hi.toNat) else .v (.sl sz (subList l lo.toNat hi.toNat))) else none
  | .slice e, .al _ sz l src => bif elemIs (T e) sz && decide (0 ≤ lo ∧ lo ≤ hi ∧ hi ≤ l.length) && !cutAt then some (.al false sz (subList l lo.toNat hi.toNat) src) else none
  | _, _ => none

/-- Is the value known that a choice takes? (g: the operation's guard; x: it takes the other one; h: it is known) -/
def pickOk (g x h : Bool) : Bool := !g || (x || h)
theorem pickOk_n (g x : Bool) : pickOk g (!x) (g && x) = true := by cases g <;> cases x <;> rfl
theorem pickOk_p (g x : Bool) : pickOk g x (g && !x) = true := by cases g <;> cases x <;> rfl
theorem pickOk_tn (x : Bool) : pickOk true (!x) x = true := by cases x <;> rfl
theorem pickOk_tp (x : Bool) : pickOk true x (!x) = true := by cases x <;> rfl
theorem pickOk_g (g x : Bool) : pickOk g x g = true := by cases g <;> cases x <;> rfl
theorem pickOk_f (x h : Bool) : pickOk false x h = true := rfl
theorem pickOk_x (g h : Bool) : pickOk g true h = true := by cases g <;> rfl
theorem pickOk_h (g x : Bool) : pickOk g x true = true := by cases g <;> cases x <;> rfl

abbrev Oracle := Nat → List D → Store → Option (D × Store)

/-- Operations that change nothing but their own register. -/
def pureOp (C : Oracle) (σ : St) (g : Bool) : Op → Option D
  | .move x => match force g (opnd σ.env x) with
    | some (.own sz l) => match x with
      | .tmp p => some (.al true sz l (.reg p 0))
      | _ => none
    | some (.agg cs) => bif cs.all ownFreeC then some (.agg cs) else none
    | r => r
  | .nilCheck x => match force g (opnd σ.env x) with
    | some (.ptr o f) => some (.ptr o f)
    | some (.rp c) => some (.rp c)
    | some (.ep a b c d) => some (.ep a b c d)
    | _ => none
  | .pick c a b => match force g (opnd σ.env c) with
    | some (.v (.b x)) => match opnd σ.env a, opnd σ.env b with
      | .v (.b p), .v (.b q) => some (.v (.b (bif x then p else q)))
      | .v (.b p), .mb h (.v (.b q)) => bif pickOk g x h then some (.v (.b (bif x then p else q))) else none
      | .mb h (.v (.b p)), .v (.b q) => bif pickOk g (!x) h then some (.v (.b (bif x then p else q))) else none
      | .v (.b p), .undef => bif pickOk g x false then some (.v (.b p)) else none
      | .undef, .v (.b q) => bif pickOk g (!x) false then some (.v (.b q)) else none
      | _, _ => none
    | _ => none
  | .binOp op t x y _ => match force g (opnd σ.env x) with
    | some a => match force g (opnd σ.env y) with
      | some b => binD (T t) op a b
      | none => none
    | none => none
  | .unOp .not _ x => match force g (opnd σ.env x) with
    | some (.v (.b p)) => some (.v (.b (!p)))
    | _ => none
  | .convert src dst x => match force g (opnd σ.env x) with
    | some (.v (.i _ n)) => match (T src).tk, (T dst).tk with
      | .int _, .int k => some (.v (.i k (k.wrap n)))
      | _, _ => none
    | some (.v (.s x)) => match (T src).tk, (T dst).tk with
      | .str, .str => some (.v (.s x))
      | _, _ => none
    | some d => match (T src).tk, (T dst).tk, sliceOf d with
      | .slice e, .str, some (_, l) => match (T e).tk with
        | .int .u8 => bif allBytes l then some (.v (.s (rowsBytes l))) else none
        | _ => none
      | _, _, _ => none
    | none => none
  | .fieldAddr t x f => match fieldOff T t f with
    | some (fo, _) => match force g (opnd σ.env x) with
      | some (.ptr o off) => some (.ptr o (off + fo))
      | some (.rp cells) => some (.rp (cells.drop fo))
      | some (.ep src sz i off) => some (.ep src sz i (off + fo))
      | _ => none
    | none => none
  | .field t x f => match fieldOff T t f with
    | some (fo, ft) => match force g (opnd σ.env x) with
      | some (.agg cs) => partD (T ft) cs fo
      | _ => none
    | none => none
  | .load t a => match force g (opnd σ.env a) with
    | some d => loadAt (T t) σ d
    | none => none
  | .indexAddr t x ix => match force g (opnd σ.env ix) with
    | some (.v (.i _ n)) => match force g (opnd σ.env x), (T t).tk with
      | some (.v (.sl sz l)), .slice e => bif elemIs (T e) sz && decide (0 ≤ n) then (match l[n.toNat]? with | some r => some (.rp r) | none => none) else none
      | some (.al true sz l src), .slice e => bif elemIs (T e) sz && decide (0 ≤ n ∧ n < l.length) then some (.ep src sz n.toNat 0) else none
      | some (.ptr o off), .array len e => bif elemIs (T e) (T e).size && decide (0 ≤ n ∧ n < len) then some (.ptr o (off + n.toNat * (T e).size)) else none
      | some (.rp cells), .array len e => bif elemIs (T e) (T e).size && decide (0 ≤ n ∧ n < len) then some (.rp (cells.drop (n.toNat * (T e).size))) else none
      | _, _ => none
    | _ => none
  | .index t x ix => match force g (opnd σ.env ix) with
    | some (.v (.i _ n)) => match force g (opnd σ.env x), (T t).tk with
      | some (.v (.s s)), .str => bif decide (0 ≤ n) then (match s[n.toNat]? with | some c => some (.v (.i .u8 c.toNat)) | none => none) else none
      | some (.agg cs), .array len e => bif elemIs (T e) (T e).size && decide (0 ≤ n ∧ n < len) then partD (T e) cs (n.toNat * (T e).size) else none
      | _, _ => none
    | _ => none
  | .extract t ix => match force g (opnd σ.env t) with
    | some (.tup cs) => match cs[ix]? with
      | some d => bif ownFree d then some d else none
      | none => none
    | _ => none
  | .makeFunc (.func f) first caps => bif first.isEmpty then (match forceAll g σ.env caps.toList with | some cs => bif cs.all stayC then some (.clo f cs) else none | none => none) else none
  | .slice t x lo hi mx => match force g (opnd σ.env x) with
    | some d => match lenD d with
      | some n => match bound g σ.env lo 0, bound g σ.env hi n with
        | some a, some b => match mx with
          | none => sliceD T (T t).tk d a b false
          | some m => match bound g σ.env (some m) 0 with
            | some c => bif b == c && hi.isSome then sliceD T (T t).tk d a b true else none
            | none => none
        | _, _ => none
      | none => none
    | none => none
  | .call c => match c.callee with
    | .builtin .len => match c.args.toList, c.argTypes.toList with
      | [x], [t] => match force g (opnd σ.env x) with
        | some d => match lenD d with
          | some n => match (T t).tk with
            | .str => match d with | .v (.s _) => some (.v (.i .i64 n)) | _ => none
            | .slice _ => match d with | .v (.s _) => none | _ => some (.v (.i .i64 n))
            | _ => none
          | none => none
        | none => none
      | _, _ => none
    | .builtin .max => match c.args.toList with
      | [x, y] => match force g (opnd σ.env x), force g (opnd σ.env y) with
        | some (.v (.i k a)), some (.v (.i _ b)) => some (.v (.i k (if b > a then b else a)))
        | _, _ => none
      | _ => none
    | .builtin .min => match c.args.toList with
      | [x, y] => match force g (opnd σ.env x), force g (opnd σ.env y) with
        | some (.v (.i k a)), some (.v (.i _ b)) => some (.v (.i k (if b < a then b else a)))
        | _, _ => none
      | _ => none
    | .value (.func f) => match forceAll g σ.env c.args.toList with
      | some args => bif (args.map lendA).all bare then (match C f (args.map lendA) [] with
          | some (d, []) => bif (args.any trackedA && !noSl d) then none else some d
          | _ => none) else none
      | none => none
    | _ => none
  | _ => none

def yieldedD (ops : List Oper) (env : Env) (j : Nat) : Option D := match ops[j]? with
  | some o => match o.dst with
    | some t => some (look env t)
    | none => none
  | none => none

def guardB (ops : List Oper) (env : Env) : Option (Nat × Bool) → Option Bool
  | none => some true
  | some (j, want) => match yieldedD ops env j with
    | some (.v (.b x)) => some (bif want then x else !x)
    | some (.mb g (.v (.b x))) => some (g && bif want then x else !x)
    | some .undef => some false
    | _ => none

/-- What an operation under the guard g leaves: nothing where g is false. -/
def gx (g plain : Bool) : Option D → Option D
  | some d => bif plain then some d else bif ownFree d then some (.mb g d) else bif g then some d else some .undef
  | none => bif g then none else some .undef

def putDst (env : Env) (dst : Option Nat) (d : D) : Env := match dst with
  | some t => setReg env t d
  | none => env

def fill (size : Nat → Option (Nat × Nat)) : List D → List (Nat × D) → Option (List D)
  | cs, [] => some cs
  | cs, (i, d) :: r => match size i with
    | some (off, n) => bif (cellsOf d).length == n && decide (off + n ≤ cs.length) then fill size (setCells cs off (cellsOf d)) r else none
    | none => none

def takeParts : Env → List (Nat × Operand) → Option (List (Nat × D) × Env)
  | env, [] => some ([], env)
  | env, (i, x) :: r => match force true (opnd env x) with
    | some d => bif valOk d then (match takeParts (spend env x) r with
      | some (s, env') => some ((i, d) :: s, env')
      | none => none) else none
    | none => none

def rowsOf (sz : Nat) : List (Nat × D) → Option (List (List V))
  | [] => some []
  | (_, d) :: r => match toVs (cellsOf d) with
    | some row => bif row.length == sz then (match rowsOf sz r with | some s => some (row :: s) | none => none) else none
    | none => none
def inOrder : Nat → List (Nat × D) → Bool
  | _, [] => true
  | k, (i, _) :: r => i == k && inOrder (k + 1) r

def noOwn (d : D) : D := bif isOwn d then .bad else d
/-- The place that an alias points into owns no more. -/
def spendLoc (σ : St) : Loc → St
  | .reg t _ => { σ with env := put (kill (inReg t) σ.env) t .bad }
  | .cell o off => match σ.S[o]? with
    | some cs => { env := kill (fun l => l == .cell o off) σ.env, S := σ.S.set o (cs.set off .bad) }
    | none => σ
  | _ => σ

/-- May what that place owns be taken? -/
def spendOk (σ : St) : Loc → Bool
  | .cell .. => true
  | .reg p j => j == 0 && isOwn (look σ.env p)
  | _ => false

mutual
/-- Whoever knew the list at that place knows it no more (pointers to its elements stay). -/
def dropAl (src : Loc) : D → D
  | .al f z m s => bif s == src then .bad else .al f z m s
  | .ep s sz i off => .ep s sz i off
  | .mb g d => .mb g (dropAl src d)
  | .agg cs => .agg (dropAls src cs)
  | .tup cs => .tup (dropAls src cs)
  | .clo f cs => .clo f (dropAls src cs)
  | .v x => .v x
  | .undef => .undef
  | .bad => .bad
  | .own sz l => .own sz l
  | .cut sz l => .cut sz l
  | .rp c => .rp c
  | .ptr o f => .ptr o f
  | .nilp => .nilp
def dropAls (src : Loc) : List D → List D
  | [] => []
  | d :: r => dropAl src d :: dropAls src r
end
def setOwn (σ : St) (src : Loc) (sz : Nat) (l : List (List V)) : St := match src with
  | .reg t _ => { σ with env := put (σ.env.map fun e => (e.1, dropAl src e.2)) t (.own sz l) }
  | .cell o off => { env := σ.env.map fun e => (e.1, dropAl src e.2),
                     S := σ.S.modify o fun cs => cs.set off (.own sz l) }
  | _ => σ

/-- A value without ownership: what it owned never changes again. -/
def frzC : D → D
  | .own sz l => .v (.sl sz l)
  | d => d
def frz : D → D
  | .agg cs => .agg (cs.map frzC)
  | d => frzC d
def frzReg (env : Env) : Operand → Env
  | .tmp u => bif hasOwn (look env u) then put (kill (inReg u) env) u (frz (look env u)) else env
  | _ => env
def lowP (n : Nat) : D → Bool
  | .ptr o _ => decide (o < n)
  | d => stayC d
/-- Pointers to variables older than n alone. -/
def lowC (n : Nat) : D → Bool
  | .ptr o _ => decide (o < n)
  | .clo _ cs => cs.all (lowP n)
  | d => cellOk d

def isGive (give : Nat → Bool) : Operand → Bool
  | .tmp u => give u
  | _ => false
/-- An argument of a call that sees the variables: given away, or frozen. -/
def argE (give : Nat → Bool) (σ : St) (x : Operand) : Option (D × St) := match force true (opnd σ.env x) with
  | none => none
  | some d => bif isGive give x then (match d with
      | .al true sz l src => bif spendOk σ src then some (.own sz l, spendLoc σ src) else none
      | d => bif valOk d then some (d, { σ with env := spend σ.env x }) else none)
    else bif valOk d then some (frz d, { σ with env := frzReg σ.env x }) else none
def argsE (give : Nat → Bool) : St → List Operand → Option (List D × St)
  | σ, [] => some ([], σ)
  | σ, x :: r => match argE give σ x with
    | some (d, σ') => match argsE give σ' r with
      | some (ds, σ'') => some (d :: ds, σ'')
      | none => none
    | none => none

/-- What hangs on the register that it goes to is not known behind. -/
def offReg (env : Env) (dst : Option Nat) (d : D) : D := match dst with
  | some t => bif hasOwn (look env t) then killB (inReg t) d else d
  | none => d

/-- The rest: they change variables, or what is owned. mv: a load that takes what a struct's cells own with it. -/
def workOp (C : Oracle) (ro mv give : Nat → Bool) (σ : St) (dst : Option Nat) (ot : Nat) : Op → Option St
  | .assign x => match force true (opnd σ.env x), dst with
    | some d, some t => match fit (T ot) d with
      | some d' => some { σ with env := setReg (spend σ.env x) t d' }
      | none => match d with
        | .tup cs => some { σ with env := setReg σ.env t (offReg σ.env (some t) (.tup cs)) }
        | .ep src sz i off => some { σ with env := setReg σ.env t (offReg σ.env (some t) (.ep src sz i off)) }
        | .al f sz l src => some { σ with env := setReg σ.env t (offReg σ.env (some t) (.al f sz l src)) }
        | _ => none
    | _, _ => none
  | .box t x => match force true (opnd σ.env x), dst with
    | some d, some u => match fit (T t) d with
      | some d' => bif ro u then (match toVs (cellsOf d') with
          | some cs => some { σ with env := setReg (spend σ.env x) u (.rp cs) }
          | none => none)
        else some { env := setReg (spend σ.env x) u (.ptr σ.S.length 0), S := σ.S ++ [cellsOf d'] }
      | none => none
    | _, _ => none
  | .alloc t => match dst with
    | some u => bif (T t).zero.length == (T t).size && (T t).size != 0 then some { env := setReg σ.env u (.ptr σ.S.length 0), S := σ.S ++ [(T t).zero] } else none
    | none => none
  | .build t parts => match takeParts σ.env parts.toList, dst with
    | some (ds, env'), some u => match (T t).tk with
      | .struct fs => bif (T t).zero.length == (T t).size && (T t).size != 0 && fs.all (fun f => !(T f.2).flat.isEmpty) then match fill (fun i => (fs[i]?).map fun f => (f.1, (T f.2).size)) (T t).zero ds with
        | some cs => match fitCs (T t).flat cs with
          | some cs' => some { σ with env := setReg env' u (.agg cs') }
          | none => none
        | none => none else none
      | _ => none
    | _, _ => none
  | .buildSlice t n parts => match takeParts σ.env parts.toList, dst with
    | some (ds, env'), some u => match (T t).tk with
      | .slice e => bif (T e).zero.length == (T e).size && (T e).size != 0 && decide (n * (T e).size ≤ 16777216) && inOrder 0 ds && ds.length == n then (match rowsOf (T e).size ds with
        | some rows => some { σ with env := setReg env' u (.own (T e).size rows) }
        | none => none) else none
      | _ => none
    | _, _ => none
  | .makeSlice t n _ => match force true (opnd σ.env n), dst with
    | some (.v (.i _ k)), some u => match (T t).tk with
      | .slice e => bif (T e).zero.length == (T e).size && (T e).size != 0 && decide (0 ≤ k ∧ k * (T e).bytes ≤ 140737488355328 ∧ k ≤ 140737488355328) then (match toVs (T e).zero with
        | some z => some { σ with env := setReg σ.env u (.own (T e).size (List.replicate k.toNat z)) }
        | none => none) else none
      | _ => none
    | _, _ => none
  | .convert _ t x => match force true (opnd σ.env x), dst with
    | some (.v (.s s)), some u => match (T t).tk with
      | .slice e => match (T e).tk with
        | .int .u8 => some { σ with env := setReg σ.env u (.own 1 (bytesRows s)) }
        | _ => none
      | _ => none
    | _, _ => none
  | .load t a => match dst with
    | some u => bif mv u && (T t).agg then (match force true (opnd σ.env a) with
        | some (.ptr o off) => match σ.S[o]? with
          | some cs => bif ((cs.drop off).take (T t).size).length == (T t).size then some { env := setReg (kill (inObj o) σ.env) u (.agg ((cs.drop off).take (T t).size)), S := σ.S.set o (setCells cs off (((cs.drop off).take (T t).size).map noOwn)) } else none
          | none => none
        | _ => none) else none
    | none => none
  | .store t a x => match force true (opnd σ.env a), force true (opnd σ.env x) with
    | some (.ptr o off), some d => match fit (T t) d with
      | some d' => match σ.S[o]? with
        | some cs => bif decide (off + (cellsOf d').length ≤ cs.length) && (cellsOf d').all (lowC o) && (cellsOf d').length == (T t).size && !(T t).flat.isEmpty then
            some { env := bif ((cs.drop off).take (cellsOf d').length).any isOwn then kill (inObj o) (spend σ.env x) else spend σ.env x,
                   S := σ.S.set o (setCells cs off (cellsOf d')) } else none
        | none => none
      | none => none
    | some (.ep src sz i off), some d => match fit (T t) d with
      | some d' => match toVs (cellsOf d'), ownAt { σ with env := spend σ.env x } src with
        | some vs, some (sz', l) => match l[i]? with
          | some row => bif sz == sz' && decide (off + vs.length ≤ row.length) && (cellsOf d').length == (T t).size && !(T t).flat.isEmpty then some (setOwn { σ with env := spend σ.env x } src sz (l.set i (setVs row off vs))) else none
          | none => none
        | _, _ => none
      | none => none
    | _, _ => none
  | .call c => match c.callee with
    | .builtin .append => match c.args.toList, c.argTypes.toList, dst with
      | [x, y], [tx, ty], some u => match (T tx).tk, force true (opnd σ.env x), force true (opnd σ.env y) with
        | .slice e, some dx, some dy => match (match (T ty).tk with | .slice _ => sliceOf dy | .str => tailOf dy | _ => none) with
          | some (zy, ly) => bif (zy == (T e).size || (ly.isEmpty && isSliceK (T ty).tk)) && (T e).zero.length == (T e).size && (T e).size != 0 && (T e).bytes != 0 then (match dx with
            | .own zx lx => bif (zx == (T e).size || (zx == 0 && lx.isEmpty)) && decide (((lx.length + ly.length : Nat) : Int) * (T e).bytes ≤ 140737488355328) then
                some { σ with env := setReg (spend σ.env x) u (.own (T e).size (lx ++ ly)) } else none
            | .al true zx lx src => bif spendOk σ src && zx == (T e).size && decide (((lx.length + ly.length : Nat) : Int) * (T e).bytes ≤ 140737488355328) then
                some { spendLoc σ src with env := setReg (spendLoc σ src).env u (.own (T e).size (lx ++ ly)) } else none
            | .cut zx lx => bif zx == (T e).size && !ly.isEmpty && decide (((lx.length + ly.length : Nat) : Int) * (T e).bytes ≤ 140737488355328) then
                some { σ with env := setReg σ.env u (.own (T e).size (lx ++ ly)) } else none
            | _ => none) else none
          | none => none
        | _, _, _ => none
      | _, _, _ => none
    | .value (.func f) => match argsE give σ c.args.toList with
      | some (args, σ1) => bif args.all bare then none else (match C f args σ1.S with
        | some (d, S') => some { env := putDst (kill isCell σ1.env) dst (offReg (kill isCell σ1.env) dst d), S := S' }
        | none => none)
      | none => none
    | .value (.tmp x) => match force true (look σ.env x), argsE give σ c.args.toList with
      | some (.clo f caps), some (args, σ1) => bif caps.all stayC then (match C f (args ++ caps) σ1.S with
        | some (d, S') => some { env := putDst (kill isCell σ1.env) dst (offReg (kill isCell σ1.env) dst d), S := S' }
        | none => none) else none
      | _, _ => none
    | _ => none
  | _ => none

/-- Annotations of one function: what is kept behind a region, which boxes are never written, which loads take ownership along. -/
structure Note where
  keep : Nat → List Nat
  ro : Nat → Bool
  mv : Nat → Bool
  give : Nat → Bool
  free : Nat → List (Nat × Nat)

def isWork (ν : Note) (o : Oper) : Bool := match o.op with
  | .assign _ | .box .. | .alloc _ | .build .. | .buildSlice .. | .makeSlice .. | .store .. => true
  | .convert _ t _ => match (T t).tk with | .slice _ => true | _ => false
  | .load .. => match o.dst with | some u => ν.mv u | none => false
  | .call c => match c.callee with
    | .builtin .append => true
    | .builtin _ => false
    | .value (.tmp _) => true
    | _ => false
  | _ => false

def isFuncCall (o : Oper) : Bool := match o.op with
  | .call c => match c.callee with
    | .value (.func _) => true
    | _ => false
  | _ => false

/-- A call that the oracle does not know (and that is not to be taken for one that is left out). -/
def callFails (C : Oracle) (σ : St) (g : Bool) (o : Oper) : Bool := match o.op with
  | .call c => match c.callee with
    | .value (.func f) => match forceAll g σ.env c.args.toList with
      | some args => (args.map lendA).all bare && (C f (args.map lendA) []).isNone
      | none => false
    | _ => false
  | _ => false
def isStrK : TK → Bool
  | .str => true
  | _ => false
def sameInt : Option D → Option D → Bool
  | some (.v (.i k a)), some (.v (.i k' b)) => decide (k = k') && a == b
  | _, _ => false
def workOk (env : Env) (o : Oper) : Bool := match o.op with
  | .convert s _ _ => isStrK (T s).tk
  | .makeSlice _ n m => sameInt (force true (opnd env n)) (force true (opnd env m))
  | .store .. => o.dst.isNone
  | _ => true

def stepOp (C : Oracle) (ν : Note) (ops : List Oper) (o : Oper) (σ : St) : Option St :=
  match guardB ops σ.env o.guard with
  | none => none
  | some g =>
    bif isWork T ν o then
      bif g then (bif workOk T σ.env o then workOp T C ν.ro ν.mv ν.give σ o.dst o.type o.op else none) else some { σ with env := putDst σ.env o.dst .undef }
    else bif callFails C σ g o then none else match gx g o.guard.isNone (pureOp T C σ g o.op) with
      | some d => some { σ with env := putDst σ.env o.dst (offReg σ.env o.dst d) }
      | none => bif g && isFuncCall o then workOp T C ν.ro ν.mv ν.give σ o.dst o.type o.op else none

def evOps (C : Oracle) (ν : Note) (ops : List Oper) : List Oper → St → Option St
  | [], σ => some σ
  | o :: r, σ => match stepOp T C ν ops o σ with
    | some σ' => evOps C ν ops r σ'
    | none => none

inductive Ex where
  | normal
  | exit (id : Nat)
  | ret
  deriving Inhabited

/-- A register that is not kept. -/
def gone (keep : List Nat) : Loc → Bool
  | .reg u _ => !(keep.contains u)
  | _ => false
def prune (keep : List Nat) (env : Env) : Env := keep.map fun t => (t, killB (gone keep) (look env t))

/-! ### Regions that draw their order -/
/-- It hangs on nothing that another operation may change. -/
def calmP : D → Bool
  | .v _ | .undef | .cut .. | .rp _ | .ptr .. | .nilp => true
  | _ => false
def calmC : D → Bool
  | .v _ | .undef | .cut .. | .rp _ | .ptr .. | .nilp => true
  | .clo _ cs => cs.all calmP
  | _ => false
def calm : D → Bool
  | .agg cs => cs.all calmC
  | .tup cs => cs.all calmC
  | .mb _ d => match d with | .agg cs => cs.all calmC | .tup cs => cs.all calmC | d => calmC d
  | d => calmC d
/-- No place in it. -/
def noLocC : D → Bool
  | .own .. => true
  | d => calmC d
def noLoc : D → Bool
  | .agg cs => cs.all noLocC
  | d => bif noLocC d then true else calm d

/-- It hangs on no register. -/
def immB : D → Bool
  | .al _ _ _ (.cell _ _) => true
  | .mb _ (.al _ _ _ (.cell _ _)) => true
  | d => noLoc d

/-- What an operation did. still: it left alone everything but its register (calm: what it looked at hangs on nothing; own: its result owns; rd: the cells that it read; imm: its result hangs on no register). work: it changed more (wr: the cells that it wrote; n: how many variables there were). wild: anything. -/
inductive Kd where
  | still (calm own : Bool) (rd : Option (Nat × Nat × Nat)) (imm : Bool)
  | work (wr : Option (Nat × Nat × Nat)) (n : Nat)
  | wild
  deriving Inhabited

def calmOp (env : Env) : Operand → Bool
  | .tmp t => calm (look env t)
  | _ => true

def readsAt (σ : St) (g : Bool) : Op → Option (Nat × Nat × Nat)
  | .load t a => match force g (opnd σ.env a) with
    | some (.ptr o off) => some (o, off, (T t).size - 1 + 1)
    | _ => none
  | _ => none

def plainWork : Op → Bool
  | .assign _ | .box .. | .alloc _ | .build .. | .buildSlice .. | .makeSlice .. | .convert .. => true
  | _ => false

def kindW (σ : St) : Op → Kd
  | .store t a _ => match force true (opnd σ.env a) with
    | some (.ptr o off) => match σ.S[o]? with
      | some cs => bif ((cs.drop off).take (T t).size).any isOwn then .wild else .work (some (o, off, (T t).size)) σ.S.length
      | none => .wild
    | _ => .wild
  | op => bif plainWork op then .work none σ.S.length else .wild
def ownsDst (env : Env) : Option Nat → Bool
  | some t => hasOwn (look env t)
  | none => true
def kindOp (C : Oracle) (ν : Note) (ops : List Oper) (o : Oper) (σ : St) : Kd :=
  match guardB ops σ.env o.guard with
  | none => .wild
  | some g =>
    bif isWork T ν o then (bif g then kindW T σ o.op else .work none σ.S.length)
    else match gx g o.guard.isNone (pureOp T C σ g o.op) with
      | some d => bif ownsDst σ.env o.dst then .wild else .still (o.op.operands.toList.all (calmOp σ.env)) (hasOwn d) (readsAt T σ g o.op) (immB d)
      | none => .wild

def evOpsK (C : Oracle) (ν : Note) (ops : List Oper) : List Oper → St → Option (St × List Kd)
  | [], σ => some (σ, [])
  | o :: r, σ => match stepOp T C ν ops o σ with
    | some σ' => match evOpsK C ν ops r σ' with
      | some (σ'', ks) => some (σ'', kindOp T C ν ops o σ :: ks)
      | none => none
    | none => none

def rwOk : Option (Nat × Nat × Nat) → Option (Nat × Nat × Nat) → Nat → Bool
  | none, _, _ => true
  | some (o, _, _), none, n => decide (o < n)
  | some (o, off, l), some (o', off', l'), _ => !(o == o') || decide (off + l ≤ off') || decide (off' + l' ≤ off)
def pairOk : Kd → Kd → Bool
  | .still c1 w1 _ _, .still c2 w2 _ _ => (!w1 || c2) && (!w2 || c1)
  | .still c w r m, .work wr n => c && !w && m && rwOk r wr n
  | .work wr n, .still c w r m => c && !w && m && rwOk r wr n
  | _, _ => false
def freeOk (ks : List Kd) : List (Nat × Nat) → Bool
  | [] => true
  | (i, j) :: r => pairOk (ks.getD i .wild) (ks.getD j .wild) && freeOk ks r
def plainK : Kd → Bool
  | .still _ w _ _ => !w
  | _ => false

abbrev Loops := Nat → St → Option (Ex × St)

def evRegion (C : Oracle) (ν : Note) (id : Nat) (ops : List Oper) (draw : Bool) (σ : St) : Option St :=
  bif draw && !(ν.free id).isEmpty then
    match evOpsK T C ν ops ops σ with
    | some (σ', ks) => bif ks.all plainK || freeOk ks (ν.free id) then some σ' else none
    | none => none
  else evOps T C ν ops ops σ

/-- A block's own exit ends it. -/
def unblock (id : Nat) : Option (Ex × St) → Option (Ex × St)
  | some (.exit id', σ) => bif id' == id then some (.normal, σ) else some (.exit id', σ)
  | r => r

def evCode (C : Oracle) (L : Loops) (ν : Note) : Code → St → Option (Ex × St)
  | .skip, σ => some (.normal, σ)
  | .region id ops draw, σ => match evRegion T C ν id ops.toList draw σ with
    | some σ' => some (.normal, { σ' with env := prune (ν.keep id) σ'.env })
    | none => none
  | .seq a b, σ => match evCode C L ν a σ with
    | some (.normal, σ') => evCode C L ν b σ'
    | r => r
  | .cond (.tmp t) a b, σ => match look σ.env t with
    | .v (.b x) => bif x then evCode C L ν a σ else evCode C L ν b σ
    | _ => none
  | .block id (.loop _), σ => L id σ
  | .block id c, σ => unblock id (evCode C L ν c σ)
  | .exit id, σ => some (.exit id, σ)
  | .ret, σ => some (.ret, σ)
  | _, _ => none

/-- The loop in the block of that number. -/
def findLoop (id : Nat) : Code → Option Code
  | .block i (.loop c) => bif i == id then some c else findLoop id c
  | .block _ c => findLoop id c
  | .loop c => findLoop id c
  | .seq a b => match findLoop id a with
    | some c => some c
    | none => findLoop id b
  | .cond _ a b => match findLoop id a with
    | some c => some c
    | none => findLoop id b
  | _ => none

/-- Variables that are born in a loop's round are gone behind it. -/
def lowLoc (n : Nat) : Loc → Bool
  | .cell o _ => decide (o < n)
  | _ => true
def lowA (n : Nat) : D → Bool
  | .al _ _ _ src => lowLoc n src
  | .ep src _ _ _ => lowLoc n src
  | .agg cs => cs.all (lowC n)
  | .tup cs => cs.all (lowC n)
  | .mb _ d => lowC n d
  | d => lowC n d
def trunc (n : Nat) (σ : St) : Option St :=
  bif σ.S.length == n then some σ else
  bif σ.env.all (fun e => lowA n e.2) then some { σ with S := σ.S.take n } else none

def evLoop (C : Oracle) (L : Loops) (ν : Note) (id : Nat) (c : Code) (σ : St) : Option (Ex × St) := match evCode T C L ν c σ with
  | some (.normal, σ') => match trunc σ.S.length σ' with
    | some σ'' => L id σ''
    | none => none
  | r => unblock id r
def evL (C : Oracle) (ν : Note) (body : Code) : Nat → Loops
  | 0, _, _ => none
  | n + 1, id, σ => match findLoop id body with
    | some c => evLoop T C (evL C ν body n) ν id c σ
    | none => none

/-! ### Functions -/
def resOne (n : Nat) (σ : St) : ResultVar → Option D
  | .tmp t => force true (look σ.env t)
  | .cell a t => match look σ.env a with
    | .ptr o 0 => match σ.S[o]? with
      | some cs => bif decide (n ≤ o) && cs.length == (T t).size && !(T t).flat.isEmpty then (bif (T t).agg then some (.agg cs) else match cs, (T t).flat with
        | [d], [_] => some d
        | _, _ => none) else none
      | none => none
    | _ => none
def resAll (n : Nat) (σ : St) : List ResultVar → Option (List D)
  | [] => some []
  | r :: rs => match resOne T n σ r with
    | some d => match resAll n σ rs with
      | some ds => some (d :: ds)
      | none => none
    | none => none
/-- What may leave a function that was entered with n variables. -/
def outOk (n : Nat) : D → Bool
  | .al _ _ _ src | .ep src _ _ _ => match src with
    | .cell o _ => decide (o < n)
    | _ => false
  | .agg cs => cs.all (fun d => cellOk d && lowC n d)
  | d => cellOk d && lowC n d
def outTup (n : Nat) (d : D) : Bool := match d with
  | .agg cs => cs.all (fun d => stayC d && lowC n d)
  | d => cellOk d && lowC n d
def outD (n : Nat) : List D → Option D
  | [d] => bif outOk n d then some d else none
  | ds => bif ds.all (fun d => outTup n (frz d)) then some (.tup (ds.map frz)) else none

def enter : Nat → List D → Env
  | _, [] => []
  | j, d :: r => (j, d) :: enter (j + 1) r

/-- What a function gives back. -/
def giveBack (n : Nat) (res : List ResultVar) (σ : St) : Option (D × Store) := match resAll T n σ res with
  | some ds => match outD n ds with
    | some d => some (d, σ.S.take n)
    | none => none
  | none => none

def evFn (C : Oracle) (L : Loops) (ν : Note) (res : List ResultVar) (body : Code) (args : List D) (S : Store) : Option (D × Store) :=
  match evCode T C L ν body ⟨enter 0 args, S⟩ with
  | some (.normal, σ) => giveBack T S.length res σ
  | some (.ret, σ) => giveBack T S.length res σ
  | _ => none

end Go.Mx
