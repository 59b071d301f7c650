/-
  No cell of these rows narrows 'for every input' (looked for: loops, veiled, ifaces, maps, wideKeys, modest, calm, conditions, laid).
  DERIVED. THE GIVEN ROWS OF THIS SEAT. 12 by the template 'for every input the law returns true; each argument reads behind the call as it read before'; 0 by the template 'total and deterministic' (their statements: YtiicnbdolakdgaaTotals.lean).
  GIVEN WITH THE SEED: the statements are not yours to turn. If you find one false, say at which input.
  Laid BY PROGRAM, IN A SANDBOX (cutbox-rows.mjs): the forced cells as the released guide's own fill.sh prints them over the translation cf873e009ec816db… (all of the seat's roots in one cut). By AI agents, Wed Nov 11 2026. No macro, syntax, notation, axiom, sorry.
-/
import Derived.Test.YtiicnbdolakdgaaChecked
import GoSem.Claim
import GoSem.ClaimJoined
import GoSem.ClaimMapViews
import Derived.JoinedTies
import Derived.KernelRfl
namespace Go.Proofs.Ytiicnbdolakdgaa
/- THE CELL 'sum', in the pinned program and in every row, IS THE sha256 OF THE DUMP (.gsa) THAT YtiicnbdolakdgaaProg.lean LOADS. Nothing in Lean hashes anything: it is a label: what it is worth is what the hold of that sum in a sandbox is worth. -/
noncomputable def Try.pinned : Pinned := { name := "ytiicnbdolakdgaa", sum := "cf873e009ec816db06c2d575e686000eb20fbeab0bcbc39ba519c03405fe2029", checked := Try.checked }
namespace Rows
def none {H : Type} : Left H := { results := [], args := [] }

/-- 'rostrumlaw.Names': WHATEVER THE INPUT: true; the input reads as it did. -/
def namesSpec : ChangeSpec := { name := "names", fn := fun _ => fun
  | [] => { results := [.lit (.bool true)], args := [] }
  | _ => none }
def namesRow : OpenClaim := { program := "ytiicnbdolakdgaa", sum := "cf873e009ec816db06c2d575e686000eb20fbeab0bcbc39ba519c03405fe2029", func := "rostrum/rostrumlaw.Names", spec := "names", apart := false }
def NamesSaid : Prop := namesRow.holds Try.pinned (OpenSpec.ofChange namesSpec)

/-- ITS FALSE NEIGHBOUR: 'it returns false'. Refute it at one input. -/
def namesWrong : ChangeSpec := { name := "names", fn := fun _ => fun
  | [] => { results := [.lit (.bool false)], args := [] }
  | _ => none }
def NamesWrongFalsely : Prop := namesRow.holds Try.pinned (OpenSpec.ofChange namesWrong)

/-- 'rostrumlaw.ClientNews': WHATEVER THE INPUT: true; the input reads as it did. -/
def clientNewsSpec : ChangeSpec := { name := "clientNews", fn := fun _ => fun
  | [] => { results := [.lit (.bool true)], args := [] }
  | _ => none }
def clientNewsRow : OpenClaim := { program := "ytiicnbdolakdgaa", sum := "cf873e009ec816db06c2d575e686000eb20fbeab0bcbc39ba519c03405fe2029", func := "rostrum/rostrumlaw.ClientNews", spec := "clientNews", apart := false }
def ClientNewsSaid : Prop := clientNewsRow.holds Try.pinned (OpenSpec.ofChange clientNewsSpec)

/-- ITS FALSE NEIGHBOUR: 'it returns false'. Refute it at one input. -/
def clientNewsWrong : ChangeSpec := { name := "clientNews", fn := fun _ => fun
  | [] => { results := [.lit (.bool false)], args := [] }
  | _ => none }
def ClientNewsWrongFalsely : Prop := clientNewsRow.holds Try.pinned (OpenSpec.ofChange clientNewsWrong)

/-- 'rostrumlaw.TapeNews': WHATEVER THE INPUT: true; the input reads as it did. -/
def tapeNewsSpec : ChangeSpec := { name := "tapeNews", fn := fun _ => fun
  | [] => { results := [.lit (.bool true)], args := [] }
  | _ => none }
def tapeNewsRow : OpenClaim := { program := "ytiicnbdolakdgaa", sum := "cf873e009ec816db06c2d575e686000eb20fbeab0bcbc39ba519c03405fe2029", func := "rostrum/rostrumlaw.TapeNews", spec := "tapeNews", apart := false }
def TapeNewsSaid : Prop := tapeNewsRow.holds Try.pinned (OpenSpec.ofChange tapeNewsSpec)

/-- ITS FALSE NEIGHBOUR: 'it returns false'. Refute it at one input. -/
def tapeNewsWrong : ChangeSpec := { name := "tapeNews", fn := fun _ => fun
  | [] => { results := [.lit (.bool false)], args := [] }
  | _ => none }
def TapeNewsWrongFalsely : Prop := tapeNewsRow.holds Try.pinned (OpenSpec.ofChange tapeNewsWrong)

/-- 'rostrumlaw.TapeSyncs': WHATEVER THE INPUT: true; the input reads as it did. -/
def tapeSyncsSpec : ChangeSpec := { name := "tapeSyncs", fn := fun _ => fun
  | [d] => { results := [.lit (.bool true)], args := [d] }
  | _ => none }
def tapeSyncsRow : OpenClaim := { program := "ytiicnbdolakdgaa", sum := "cf873e009ec816db06c2d575e686000eb20fbeab0bcbc39ba519c03405fe2029", func := "rostrum/rostrumlaw.TapeSyncs", spec := "tapeSyncs", apart := false }
def TapeSyncsSaid : Prop := tapeSyncsRow.holds Try.pinned (OpenSpec.ofChange tapeSyncsSpec)

/-- ITS FALSE NEIGHBOUR: 'it returns false'. Refute it at one input. -/
def tapeSyncsWrong : ChangeSpec := { name := "tapeSyncs", fn := fun _ => fun
  | [d] => { results := [.lit (.bool false)], args := [d] }
  | _ => none }
def TapeSyncsWrongFalsely : Prop := tapeSyncsRow.holds Try.pinned (OpenSpec.ofChange tapeSyncsWrong)

/-- 'rostrumlaw.ClientReplies': WHATEVER THE INPUT: true; the input reads as it did. -/
def clientRepliesSpec : ChangeSpec := { name := "clientReplies", fn := fun _ => fun
  | [d] => { results := [.lit (.bool true)], args := [d] }
  | _ => none }
def clientRepliesRow : OpenClaim := { program := "ytiicnbdolakdgaa", sum := "cf873e009ec816db06c2d575e686000eb20fbeab0bcbc39ba519c03405fe2029", func := "rostrum/rostrumlaw.ClientReplies", spec := "clientReplies", unfollowed := true, recurses := true, apart := false }
def ClientRepliesSaid : Prop := clientRepliesRow.holds Try.pinned (OpenSpec.ofChange clientRepliesSpec)

/-- ITS FALSE NEIGHBOUR: 'it returns false'. Refute it at one input. -/
def clientRepliesWrong : ChangeSpec := { name := "clientReplies", fn := fun _ => fun
  | [d] => { results := [.lit (.bool false)], args := [d] }
  | _ => none }
def ClientRepliesWrongFalsely : Prop := clientRepliesRow.holds Try.pinned (OpenSpec.ofChange clientRepliesWrong)

/-- 'rostrumlaw.TapeCrashes': WHATEVER THE INPUT: true; the input reads as it did. -/
def tapeCrashesSpec : ChangeSpec := { name := "tapeCrashes", fn := fun _ => fun
  | [d1, d2] => { results := [.lit (.bool true)], args := [d1, d2] }
  | _ => none }
def tapeCrashesRow : OpenClaim := { program := "ytiicnbdolakdgaa", sum := "cf873e009ec816db06c2d575e686000eb20fbeab0bcbc39ba519c03405fe2029", func := "rostrum/rostrumlaw.TapeCrashes", spec := "tapeCrashes", apart := false }
def TapeCrashesSaid : Prop := tapeCrashesRow.holds Try.pinned (OpenSpec.ofChange tapeCrashesSpec)

/-- ITS FALSE NEIGHBOUR: 'it returns false'. Refute it at one input. -/
def tapeCrashesWrong : ChangeSpec := { name := "tapeCrashes", fn := fun _ => fun
  | [d1, d2] => { results := [.lit (.bool false)], args := [d1, d2] }
  | _ => none }
def TapeCrashesWrongFalsely : Prop := tapeCrashesRow.holds Try.pinned (OpenSpec.ofChange tapeCrashesWrong)

/-- 'rostrumlaw.ValueCommands': WHATEVER THE INPUT: true; the input reads as it did. -/
def valueCommandsSpec : ChangeSpec := { name := "valueCommands", fn := fun _ => fun
  | [d] => { results := [.lit (.bool true)], args := [d] }
  | _ => none }
def valueCommandsRow : OpenClaim := { program := "ytiicnbdolakdgaa", sum := "cf873e009ec816db06c2d575e686000eb20fbeab0bcbc39ba519c03405fe2029", func := "rostrum/rostrumlaw.ValueCommands", spec := "valueCommands", apart := false }
def ValueCommandsSaid : Prop := valueCommandsRow.holds Try.pinned (OpenSpec.ofChange valueCommandsSpec)

/-- ITS FALSE NEIGHBOUR: 'it returns false'. Refute it at one input. -/
def valueCommandsWrong : ChangeSpec := { name := "valueCommands", fn := fun _ => fun
  | [d] => { results := [.lit (.bool false)], args := [d] }
  | _ => none }
def ValueCommandsWrongFalsely : Prop := valueCommandsRow.holds Try.pinned (OpenSpec.ofChange valueCommandsWrong)

/-- 'rostrumlaw.ClientCalls': WHATEVER THE INPUT: true; the input reads as it did. -/
def clientCallsSpec : ChangeSpec := { name := "clientCalls", fn := fun _ => fun
  | [d] => { results := [.lit (.bool true)], args := [d] }
  | _ => none }
def clientCallsRow : OpenClaim := { program := "ytiicnbdolakdgaa", sum := "cf873e009ec816db06c2d575e686000eb20fbeab0bcbc39ba519c03405fe2029", func := "rostrum/rostrumlaw.ClientCalls", spec := "clientCalls", apart := false }
def ClientCallsSaid : Prop := clientCallsRow.holds Try.pinned (OpenSpec.ofChange clientCallsSpec)

/-- ITS FALSE NEIGHBOUR: 'it returns false'. Refute it at one input. -/
def clientCallsWrong : ChangeSpec := { name := "clientCalls", fn := fun _ => fun
  | [d] => { results := [.lit (.bool false)], args := [d] }
  | _ => none }
def ClientCallsWrongFalsely : Prop := clientCallsRow.holds Try.pinned (OpenSpec.ofChange clientCallsWrong)

/-- 'rostrumlaw.WireItems': WHATEVER THE INPUT: true; the input reads as it did. -/
def wireItemsSpec : ChangeSpec := { name := "wireItems", fn := fun _ => fun
  | [d] => { results := [.lit (.bool true)], args := [d] }
  | _ => none }
def wireItemsRow : OpenClaim := { program := "ytiicnbdolakdgaa", sum := "cf873e009ec816db06c2d575e686000eb20fbeab0bcbc39ba519c03405fe2029", func := "rostrum/rostrumlaw.WireItems", spec := "wireItems", apart := false }
def WireItemsSaid : Prop := wireItemsRow.holds Try.pinned (OpenSpec.ofChange wireItemsSpec)

/-- ITS FALSE NEIGHBOUR: 'it returns false'. Refute it at one input. -/
def wireItemsWrong : ChangeSpec := { name := "wireItems", fn := fun _ => fun
  | [d] => { results := [.lit (.bool false)], args := [d] }
  | _ => none }
def WireItemsWrongFalsely : Prop := wireItemsRow.holds Try.pinned (OpenSpec.ofChange wireItemsWrong)

/-- 'rostrumlaw.LedgerChecks': WHATEVER THE INPUT: true; the input reads as it did. -/
def ledgerChecksSpec : ChangeSpec := { name := "ledgerChecks", fn := fun _ => fun
  | [d] => { results := [.lit (.bool true)], args := [d] }
  | _ => none }
def ledgerChecksRow : OpenClaim := { program := "ytiicnbdolakdgaa", sum := "cf873e009ec816db06c2d575e686000eb20fbeab0bcbc39ba519c03405fe2029", func := "rostrum/rostrumlaw.LedgerChecks", spec := "ledgerChecks", apart := false }
def LedgerChecksSaid : Prop := ledgerChecksRow.holds Try.pinned (OpenSpec.ofChange ledgerChecksSpec)

/-- ITS FALSE NEIGHBOUR: 'it returns false'. Refute it at one input. -/
def ledgerChecksWrong : ChangeSpec := { name := "ledgerChecks", fn := fun _ => fun
  | [d] => { results := [.lit (.bool false)], args := [d] }
  | _ => none }
def LedgerChecksWrongFalsely : Prop := ledgerChecksRow.holds Try.pinned (OpenSpec.ofChange ledgerChecksWrong)

/-- 'rostrumlaw.LinesChecks': WHATEVER THE INPUT: true; the input reads as it did. -/
def linesChecksSpec : ChangeSpec := { name := "linesChecks", fn := fun _ => fun
  | [d] => { results := [.lit (.bool true)], args := [d] }
  | _ => none }
def linesChecksRow : OpenClaim := { program := "ytiicnbdolakdgaa", sum := "cf873e009ec816db06c2d575e686000eb20fbeab0bcbc39ba519c03405fe2029", func := "rostrum/rostrumlaw.LinesChecks", spec := "linesChecks", apart := false }
def LinesChecksSaid : Prop := linesChecksRow.holds Try.pinned (OpenSpec.ofChange linesChecksSpec)

/-- ITS FALSE NEIGHBOUR: 'it returns false'. Refute it at one input. -/
def linesChecksWrong : ChangeSpec := { name := "linesChecks", fn := fun _ => fun
  | [d] => { results := [.lit (.bool false)], args := [d] }
  | _ => none }
def LinesChecksWrongFalsely : Prop := linesChecksRow.holds Try.pinned (OpenSpec.ofChange linesChecksWrong)

/-- 'rostrumlaw.LedgerLasts': WHATEVER THE INPUT: true; the input reads as it did. -/
def ledgerLastsSpec : ChangeSpec := { name := "ledgerLasts", fn := fun _ => fun
  | [d] => { results := [.lit (.bool true)], args := [d] }
  | _ => none }
def ledgerLastsRow : OpenClaim := { program := "ytiicnbdolakdgaa", sum := "cf873e009ec816db06c2d575e686000eb20fbeab0bcbc39ba519c03405fe2029", func := "rostrum/rostrumlaw.LedgerLasts", spec := "ledgerLasts", apart := false }
def LedgerLastsSaid : Prop := ledgerLastsRow.holds Try.pinned (OpenSpec.ofChange ledgerLastsSpec)

/-- ITS FALSE NEIGHBOUR: 'it returns false'. Refute it at one input. -/
def ledgerLastsWrong : ChangeSpec := { name := "ledgerLasts", fn := fun _ => fun
  | [d] => { results := [.lit (.bool false)], args := [d] }
  | _ => none }
def LedgerLastsWrongFalsely : Prop := ledgerLastsRow.holds Try.pinned (OpenSpec.ofChange ledgerLastsWrong)

/- THE SECOND FORM. 'bulk': how many values and letters a reading holds, each counted each time it is reached (what is shared counts as often as it is met; a slice's spare places count too). A statement '..UptoSaid' is the law's where the arguments, and the package variables that the reading takes, are together of bulk at most 1048576: NARROWER than '..Said'. Prove '..Said' where nothing that the law and all that it calls make is longer than what came in: it says more and counts as full. Else prove '..UptoSaid'. A law counts once. -/
mutual
def uptoBulk {H : Type} : DataW H → Nat
  | .lit (.string bytes) => bytes.length + 1
  | .lit _ => 1
  | .nil => 1
  | .ptr d => uptoBulk d + 1
  | .slice elems spare => uptoBulkAll elems + uptoBulkAll spare + 1
  | .agg parts => uptoBulkAll parts + 1
  | .iface _ d => uptoBulk d + 1
  | .map entries => uptoBulkEntries entries + 1
  | .held _ => 1
def uptoBulkAll {H : Type} : List (DataW H) → Nat
  | [] => 0
  | d :: r => uptoBulk d + uptoBulkAll r
def uptoBulkEntries {H : Type} : List (Lit × DataW H) → Nat
  | [] => 0
  | x :: r => uptoBulkEntry x + uptoBulkEntries r
def uptoBulkEntry {H : Type} : Lit × DataW H → Nat
  | (.string bytes, d) => bytes.length + uptoBulk d + 1
  | (_, d) => uptoBulk d + 1
 end
def uptoSmall : (H : Type) → List (DataW H) → Bool := fun _ ds => decide (uptoBulkAll ds ≤ 1048576)
def OpenSpec.upto (s : _root_.Go.ChangeSpec) : _root_.Go.OpenSpec := { _root_.Go.OpenSpec.ofChange s with cond := some uptoSmall }

/-- 'rostrumlaw.Names', WHERE WHAT IT READS IS OF BULK AT MOST 1048576: true; the input reads as it did. -/
def namesUptoRow : OpenClaim := { program := "ytiicnbdolakdgaa", sum := "cf873e009ec816db06c2d575e686000eb20fbeab0bcbc39ba519c03405fe2029", func := "rostrum/rostrumlaw.Names", spec := "names", apart := false, narrowed := true }
def NamesUptoSaid : Prop := namesUptoRow.holds Try.pinned (OpenSpec.upto namesSpec)

/-- 'rostrumlaw.ClientNews', WHERE WHAT IT READS IS OF BULK AT MOST 1048576: true; the input reads as it did. -/
def clientNewsUptoRow : OpenClaim := { program := "ytiicnbdolakdgaa", sum := "cf873e009ec816db06c2d575e686000eb20fbeab0bcbc39ba519c03405fe2029", func := "rostrum/rostrumlaw.ClientNews", spec := "clientNews", apart := false, narrowed := true }
def ClientNewsUptoSaid : Prop := clientNewsUptoRow.holds Try.pinned (OpenSpec.upto clientNewsSpec)

/-- 'rostrumlaw.TapeNews', WHERE WHAT IT READS IS OF BULK AT MOST 1048576: true; the input reads as it did. -/
def tapeNewsUptoRow : OpenClaim := { program := "ytiicnbdolakdgaa", sum := "cf873e009ec816db06c2d575e686000eb20fbeab0bcbc39ba519c03405fe2029", func := "rostrum/rostrumlaw.TapeNews", spec := "tapeNews", apart := false, narrowed := true }
def TapeNewsUptoSaid : Prop := tapeNewsUptoRow.holds Try.pinned (OpenSpec.upto tapeNewsSpec)

/-- 'rostrumlaw.TapeSyncs', WHERE WHAT IT READS IS OF BULK AT MOST 1048576: true; the input reads as it did. -/
def tapeSyncsUptoRow : OpenClaim := { program := "ytiicnbdolakdgaa", sum := "cf873e009ec816db06c2d575e686000eb20fbeab0bcbc39ba519c03405fe2029", func := "rostrum/rostrumlaw.TapeSyncs", spec := "tapeSyncs", apart := false, narrowed := true }
def TapeSyncsUptoSaid : Prop := tapeSyncsUptoRow.holds Try.pinned (OpenSpec.upto tapeSyncsSpec)

/-- 'rostrumlaw.ClientReplies', WHERE WHAT IT READS IS OF BULK AT MOST 1048576: true; the input reads as it did. -/
def clientRepliesUptoRow : OpenClaim := { program := "ytiicnbdolakdgaa", sum := "cf873e009ec816db06c2d575e686000eb20fbeab0bcbc39ba519c03405fe2029", func := "rostrum/rostrumlaw.ClientReplies", spec := "clientReplies", unfollowed := true, recurses := true, apart := false, narrowed := true }
def ClientRepliesUptoSaid : Prop := clientRepliesUptoRow.holds Try.pinned (OpenSpec.upto clientRepliesSpec)

/-- 'rostrumlaw.TapeCrashes', WHERE WHAT IT READS IS OF BULK AT MOST 1048576: true; the input reads as it did. -/
def tapeCrashesUptoRow : OpenClaim := { program := "ytiicnbdolakdgaa", sum := "cf873e009ec816db06c2d575e686000eb20fbeab0bcbc39ba519c03405fe2029", func := "rostrum/rostrumlaw.TapeCrashes", spec := "tapeCrashes", apart := false, narrowed := true }
def TapeCrashesUptoSaid : Prop := tapeCrashesUptoRow.holds Try.pinned (OpenSpec.upto tapeCrashesSpec)

/-- 'rostrumlaw.ValueCommands', WHERE WHAT IT READS IS OF BULK AT MOST 1048576: true; the input reads as it did. -/
def valueCommandsUptoRow : OpenClaim := { program := "ytiicnbdolakdgaa", sum := "cf873e009ec816db06c2d575e686000eb20fbeab0bcbc39ba519c03405fe2029", func := "rostrum/rostrumlaw.ValueCommands", spec := "valueCommands", apart := false, narrowed := true }
def ValueCommandsUptoSaid : Prop := valueCommandsUptoRow.holds Try.pinned (OpenSpec.upto valueCommandsSpec)

/-- 'rostrumlaw.ClientCalls', WHERE WHAT IT READS IS OF BULK AT MOST 1048576: true; the input reads as it did. -/
def clientCallsUptoRow : OpenClaim := { program := "ytiicnbdolakdgaa", sum := "cf873e009ec816db06c2d575e686000eb20fbeab0bcbc39ba519c03405fe2029", func := "rostrum/rostrumlaw.ClientCalls", spec := "clientCalls", apart := false, narrowed := true }
def ClientCallsUptoSaid : Prop := clientCallsUptoRow.holds Try.pinned (OpenSpec.upto clientCallsSpec)

/-- 'rostrumlaw.WireItems', WHERE WHAT IT READS IS OF BULK AT MOST 1048576: true; the input reads as it did. -/
def wireItemsUptoRow : OpenClaim := { program := "ytiicnbdolakdgaa", sum := "cf873e009ec816db06c2d575e686000eb20fbeab0bcbc39ba519c03405fe2029", func := "rostrum/rostrumlaw.WireItems", spec := "wireItems", apart := false, narrowed := true }
def WireItemsUptoSaid : Prop := wireItemsUptoRow.holds Try.pinned (OpenSpec.upto wireItemsSpec)

/-- 'rostrumlaw.LedgerChecks', WHERE WHAT IT READS IS OF BULK AT MOST 1048576: true; the input reads as it did. -/
def ledgerChecksUptoRow : OpenClaim := { program := "ytiicnbdolakdgaa", sum := "cf873e009ec816db06c2d575e686000eb20fbeab0bcbc39ba519c03405fe2029", func := "rostrum/rostrumlaw.LedgerChecks", spec := "ledgerChecks", apart := false, narrowed := true }
def LedgerChecksUptoSaid : Prop := ledgerChecksUptoRow.holds Try.pinned (OpenSpec.upto ledgerChecksSpec)

/-- 'rostrumlaw.LinesChecks', WHERE WHAT IT READS IS OF BULK AT MOST 1048576: true; the input reads as it did. -/
def linesChecksUptoRow : OpenClaim := { program := "ytiicnbdolakdgaa", sum := "cf873e009ec816db06c2d575e686000eb20fbeab0bcbc39ba519c03405fe2029", func := "rostrum/rostrumlaw.LinesChecks", spec := "linesChecks", apart := false, narrowed := true }
def LinesChecksUptoSaid : Prop := linesChecksUptoRow.holds Try.pinned (OpenSpec.upto linesChecksSpec)

/-- 'rostrumlaw.LedgerLasts', WHERE WHAT IT READS IS OF BULK AT MOST 1048576: true; the input reads as it did. -/
def ledgerLastsUptoRow : OpenClaim := { program := "ytiicnbdolakdgaa", sum := "cf873e009ec816db06c2d575e686000eb20fbeab0bcbc39ba519c03405fe2029", func := "rostrum/rostrumlaw.LedgerLasts", spec := "ledgerLasts", apart := false, narrowed := true }
def LedgerLastsUptoSaid : Prop := ledgerLastsUptoRow.holds Try.pinned (OpenSpec.upto ledgerLastsSpec)

end Rows
end Go.Proofs.Ytiicnbdolakdgaa
