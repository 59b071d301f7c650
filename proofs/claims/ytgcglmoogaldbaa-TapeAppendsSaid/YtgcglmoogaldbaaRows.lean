/-
  No cell of these rows narrows 'for every input' (looked for: loops, veiled, ifaces, maps, wideKeys, modest, calm, conditions, laid).
  DERIVED. THE GIVEN ROWS OF THIS SEAT. 4 by the template 'for every input the law returns true; each argument reads behind the call as it read before'; 0 by the template 'total and deterministic' (their statements: YtgcglmoogaldbaaTotals.lean).
  GIVEN WITH THE SEED: the statements are not yours to turn. If you find one false, say at which input.
  Laid BY PROGRAM, IN A SANDBOX (cutbox-rows.mjs): the forced cells as the released guide's own fill.sh prints them over the translation b690c3a6f8c46cca… (all of the seat's roots in one cut). By AI agents, Wed Nov 11 2026. No macro, syntax, notation, axiom, sorry.
-/
import Derived.Test.YtgcglmoogaldbaaChecked
import GoSem.Claim
import GoSem.ClaimJoined
import GoSem.ClaimMapViews
import Derived.JoinedTies
import Derived.KernelRfl
namespace Go.Proofs.Ytgcglmoogaldbaa
/- THE CELL 'sum', in the pinned program and in every row, IS THE sha256 OF THE DUMP (.gsa) THAT YtgcglmoogaldbaaProg.lean LOADS. Nothing in Lean hashes anything: it is a label: what it is worth is what the hold of that sum in a sandbox is worth. -/
noncomputable def Try.pinned : Pinned := { name := "ytgcglmoogaldbaa", sum := "b690c3a6f8c46ccae0dbb6135220ca03941398ec1db0a5228cca308b71a5bd94", checked := Try.checked }
namespace Rows
def none {H : Type} : Left H := { results := [], args := [] }

/-- 'rostrumlaw.WireDecodes': WHATEVER THE INPUT: true; the input reads as it did. -/
def wireDecodesSpec : ChangeSpec := { name := "wireDecodes", fn := fun _ => fun
  | [d] => { results := [.lit (.bool true)], args := [d] }
  | _ => none }
def wireDecodesRow : OpenClaim := { program := "ytgcglmoogaldbaa", sum := "b690c3a6f8c46ccae0dbb6135220ca03941398ec1db0a5228cca308b71a5bd94", func := "rostrum/rostrumlaw.WireDecodes", spec := "wireDecodes", inPlace := ["internal/bytealg.abigen_runtime_cmpstring"], unfollowed := true, recurses := true, apart := false }
def WireDecodesSaid : Prop := wireDecodesRow.holds Try.pinned (OpenSpec.ofChange wireDecodesSpec)

/-- ITS FALSE NEIGHBOUR: 'it returns false'. Refute it at one input. -/
def wireDecodesWrong : ChangeSpec := { name := "wireDecodes", fn := fun _ => fun
  | [d] => { results := [.lit (.bool false)], args := [d] }
  | _ => none }
def WireDecodesWrongFalsely : Prop := wireDecodesRow.holds Try.pinned (OpenSpec.ofChange wireDecodesWrong)

/-- 'rostrumlaw.TapeChecks': WHATEVER THE INPUT: true; the input reads as it did. -/
def tapeChecksSpec : ChangeSpec := { name := "tapeChecks", fn := fun _ => fun
  | [d] => { results := [.lit (.bool true)], args := [d] }
  | _ => none }
def tapeChecksRow : OpenClaim := { program := "ytgcglmoogaldbaa", sum := "b690c3a6f8c46ccae0dbb6135220ca03941398ec1db0a5228cca308b71a5bd94", func := "rostrum/rostrumlaw.TapeChecks", spec := "tapeChecks", inPlace := ["internal/bytealg.abigen_runtime_cmpstring"], unfollowed := true, recurses := true, apart := false }
def TapeChecksSaid : Prop := tapeChecksRow.holds Try.pinned (OpenSpec.ofChange tapeChecksSpec)

/-- ITS FALSE NEIGHBOUR: 'it returns false'. Refute it at one input. -/
def tapeChecksWrong : ChangeSpec := { name := "tapeChecks", fn := fun _ => fun
  | [d] => { results := [.lit (.bool false)], args := [d] }
  | _ => none }
def TapeChecksWrongFalsely : Prop := tapeChecksRow.holds Try.pinned (OpenSpec.ofChange tapeChecksWrong)

/-- 'rostrumlaw.TapeRests': WHATEVER THE INPUT: true; the input reads as it did. -/
def tapeRestsSpec : ChangeSpec := { name := "tapeRests", fn := fun _ => fun
  | [d1, d2] => { results := [.lit (.bool true)], args := [d1, d2] }
  | _ => none }
def tapeRestsRow : OpenClaim := { program := "ytgcglmoogaldbaa", sum := "b690c3a6f8c46ccae0dbb6135220ca03941398ec1db0a5228cca308b71a5bd94", func := "rostrum/rostrumlaw.TapeRests", spec := "tapeRests", inPlace := ["internal/bytealg.abigen_runtime_cmpstring"], unfollowed := true, recurses := true, apart := false }
def TapeRestsSaid : Prop := tapeRestsRow.holds Try.pinned (OpenSpec.ofChange tapeRestsSpec)

/-- ITS FALSE NEIGHBOUR: 'it returns false'. Refute it at one input. -/
def tapeRestsWrong : ChangeSpec := { name := "tapeRests", fn := fun _ => fun
  | [d1, d2] => { results := [.lit (.bool false)], args := [d1, d2] }
  | _ => none }
def TapeRestsWrongFalsely : Prop := tapeRestsRow.holds Try.pinned (OpenSpec.ofChange tapeRestsWrong)

/-- 'rostrumlaw.TapeAppends': WHATEVER THE INPUT: true; the input reads as it did. -/
def tapeAppendsSpec : ChangeSpec := { name := "tapeAppends", fn := fun _ => fun
  | [d1, d2] => { results := [.lit (.bool true)], args := [d1, d2] }
  | _ => none }
def tapeAppendsRow : OpenClaim := { program := "ytgcglmoogaldbaa", sum := "b690c3a6f8c46ccae0dbb6135220ca03941398ec1db0a5228cca308b71a5bd94", func := "rostrum/rostrumlaw.TapeAppends", spec := "tapeAppends", inPlace := ["internal/bytealg.abigen_runtime_cmpstring"], unfollowed := true, recurses := true, apart := false }
def TapeAppendsSaid : Prop := tapeAppendsRow.holds Try.pinned (OpenSpec.ofChange tapeAppendsSpec)

/-- ITS FALSE NEIGHBOUR: 'it returns false'. Refute it at one input. -/
def tapeAppendsWrong : ChangeSpec := { name := "tapeAppends", fn := fun _ => fun
  | [d1, d2] => { results := [.lit (.bool false)], args := [d1, d2] }
  | _ => none }
def TapeAppendsWrongFalsely : Prop := tapeAppendsRow.holds Try.pinned (OpenSpec.ofChange tapeAppendsWrong)

/- THE SECOND FORM. 'bulk': how many values and letters a reading holds, each counted each time it is reached (what is shared counts as often as it is met; a slice's spare places count too). A statement '..UptoSaid' is the law's where the arguments, and the package variables that the reading takes, are together of bulk at most 1048576: NARROWER than '..Said'. Prove '..Said' where nothing that the law and all that it calls make is longer than what came in: it says more and counts as full. Else prove '..UptoSaid'. A law counts once. -/
mutual
def uptoBulk {H : Type} : DataW H → Nat
  | .lit (.string bytes) => bytes.length + 1
  | .lit _ => 1
  | .nil => 1
  | .ptr d => uptoBulk d + 1
  | .slice elems spare => uptoBulkAll elems + uptoBulkAll spare + 1
  | .agg parts => uptoBulkAll parts + 1
  | .iface _ d => uptoBulk d + 1
  | .map entries => uptoBulkEntries entries + 1
  | .held _ => 1
def uptoBulkAll {H : Type} : List (DataW H) → Nat
  | [] => 0
  | d :: r => uptoBulk d + uptoBulkAll r
def uptoBulkEntries {H : Type} : List (Lit × DataW H) → Nat
  | [] => 0
  | x :: r => uptoBulkEntry x + uptoBulkEntries r
def uptoBulkEntry {H : Type} : Lit × DataW H → Nat
  | (.string bytes, d) => bytes.length + uptoBulk d + 1
  | (_, d) => uptoBulk d + 1
 end
def uptoSmall : (H : Type) → List (DataW H) → Bool := fun _ ds => decide (uptoBulkAll ds ≤ 1048576)
def OpenSpec.upto (s : _root_.Go.ChangeSpec) : _root_.Go.OpenSpec := { _root_.Go.OpenSpec.ofChange s with cond := some uptoSmall }

/-- 'rostrumlaw.WireDecodes', WHERE WHAT IT READS IS OF BULK AT MOST 1048576: true; the input reads as it did. -/
def wireDecodesUptoRow : OpenClaim := { program := "ytgcglmoogaldbaa", sum := "b690c3a6f8c46ccae0dbb6135220ca03941398ec1db0a5228cca308b71a5bd94", func := "rostrum/rostrumlaw.WireDecodes", spec := "wireDecodes", inPlace := ["internal/bytealg.abigen_runtime_cmpstring"], unfollowed := true, recurses := true, apart := false, narrowed := true }
def WireDecodesUptoSaid : Prop := wireDecodesUptoRow.holds Try.pinned (OpenSpec.upto wireDecodesSpec)

/-- 'rostrumlaw.TapeChecks', WHERE WHAT IT READS IS OF BULK AT MOST 1048576: true; the input reads as it did. -/
def tapeChecksUptoRow : OpenClaim := { program := "ytgcglmoogaldbaa", sum := "b690c3a6f8c46ccae0dbb6135220ca03941398ec1db0a5228cca308b71a5bd94", func := "rostrum/rostrumlaw.TapeChecks", spec := "tapeChecks", inPlace := ["internal/bytealg.abigen_runtime_cmpstring"], unfollowed := true, recurses := true, apart := false, narrowed := true }
def TapeChecksUptoSaid : Prop := tapeChecksUptoRow.holds Try.pinned (OpenSpec.upto tapeChecksSpec)

/-- 'rostrumlaw.TapeRests', WHERE WHAT IT READS IS OF BULK AT MOST 1048576: true; the input reads as it did. -/
def tapeRestsUptoRow : OpenClaim := { program := "ytgcglmoogaldbaa", sum := "b690c3a6f8c46ccae0dbb6135220ca03941398ec1db0a5228cca308b71a5bd94", func := "rostrum/rostrumlaw.TapeRests", spec := "tapeRests", inPlace := ["internal/bytealg.abigen_runtime_cmpstring"], unfollowed := true, recurses := true, apart := false, narrowed := true }
def TapeRestsUptoSaid : Prop := tapeRestsUptoRow.holds Try.pinned (OpenSpec.upto tapeRestsSpec)

/-- 'rostrumlaw.TapeAppends', WHERE WHAT IT READS IS OF BULK AT MOST 1048576: true; the input reads as it did. -/
def tapeAppendsUptoRow : OpenClaim := { program := "ytgcglmoogaldbaa", sum := "b690c3a6f8c46ccae0dbb6135220ca03941398ec1db0a5228cca308b71a5bd94", func := "rostrum/rostrumlaw.TapeAppends", spec := "tapeAppends", inPlace := ["internal/bytealg.abigen_runtime_cmpstring"], unfollowed := true, recurses := true, apart := false, narrowed := true }
def TapeAppendsUptoSaid : Prop := tapeAppendsUptoRow.holds Try.pinned (OpenSpec.upto tapeAppendsSpec)

end Rows
end Go.Proofs.Ytgcglmoogaldbaa
