/- The machine's table of types, out of a program's. Definitions alone. -/
import Derived.Test.YtiicnbdolakdgaaMxA
set_option linter.unusedSimpArgs false
set_option linter.unusedVariables false
set_option linter.constructorNameAsVariable false
set_option linter.unnecessarySimpa false
namespace Go.Mx

def flatOf (P : Program) : Nat → TypeId → Option (List Nat)
  | 0, _ => none
  | d + 1, t => match P.underlying t with
    | some (.slice e) => some [P.cellsOf e]
    | some (.struct fs) => fs.toList.foldr (fun f r => match flatOf P d f.type, r with | some x, some y => some (x ++ y) | _, _ => none) (some [])
    | some (.array n e) => match flatOf P d e with | some x => some ((List.replicate n x).flatten) | none => none
    | some (.bool) | some (.int _) | some .string | some (.pointer _) | some (.func ..) => some [0]
    | _ => none

def eqkFs (P : Program) (rec : TypeId → Option (List Nat)) : List Field → Nat → Option (List Nat)
  | [], _ => some []
  | f :: r, off => bif f.name == "_" || !(f.offset == off) then none else
    match rec f.type with
    | some x => bif x.length == P.cellsOf f.type then (match eqkFs P rec r (off + x.length) with | some y => some (x ++ y) | none => none) else none
    | none => none
def eqkOf (P : Program) : Nat → TypeId → Option (List Nat)
  | 0, _ => none
  | d + 1, t => match P.underlying t with
    | some .bool => some [1]
    | some (.int _) => some [2]
    | some .string => some [3]
    | some (.struct fs) => bif P.stoodInHeld t then none else
      match eqkFs P (eqkOf P d) fs.toList 0 with
      | some x => bif x.length == P.cellsOf t && !P.eqGuardType P.depth t then some x else none
      | none => none
    | _ => none

/-- A cell of a variable's zero value. -/
def zeroCell (k : Nat) : Value → D
  | .bool b => .v (.b b)
  | .int q n => .v (.i q n)
  | .string s => .v (.s s)
  | .slice none 0 0 => bif k == 0 then .bad else .own k []
  | .pointer none => .nilp
  | _ => .bad

def zeroOf (fl : List Nat) (z : Value) (n : Nat) : List D := bif fl.length == n && z.cells.size == n && n != 0 then List.zipWith zeroCell fl z.cells.toList else []

def tyOf (P : Program) (t : TypeId) : Ty :=
  match P.info? t, flatOf P 12 t with
  | some i, some fl => match i.zero with
    | some z => match P.underlying t with
      | some .bool => ⟨.bool, i.size, i.bytes, false, fl, [], zeroOf fl z i.size⟩
      | some (.int k) => ⟨.int k, i.size, i.bytes, false, fl, [], zeroOf fl z i.size⟩
      | some .string => ⟨.str, i.size, i.bytes, false, fl, [], zeroOf fl z i.size⟩
      | some (.slice e) => ⟨.slice e, i.size, i.bytes, false, fl, [], zeroOf fl z i.size⟩
      | some (.pointer _) => ⟨.ptr, i.size, i.bytes, false, fl, [], zeroOf fl z i.size⟩
      | some (.func ..) => ⟨.func, i.size, i.bytes, false, fl, [], []⟩
      | some (.struct fs) => ⟨.struct (fs.toList.map fun f => (f.offset, f.type)), i.size, i.bytes, true, fl, (eqkOf P 12 t).getD [], zeroOf fl z i.size⟩
      | some (.array n e) => ⟨.array n e, i.size, i.bytes, true, fl, [], zeroOf fl z i.size⟩
      | _ => ⟨.other, 1, 1, false, [], [], []⟩
    | none => ⟨.other, 1, 1, false, [], [], []⟩
  | _, _ => ⟨.other, 1, 1, false, [], [], []⟩

end Go.Mx
