/-
  No cell of these rows narrows 'for every input' (looked for: loops, veiled, ifaces, maps, wideKeys, modest, calm, conditions, laid).
  DERIVED. THE GIVEN ROWS OF THIS SEAT. 12 by the template 'for every input the law returns true; each argument reads behind the call as it read before'; 0 by the template 'total and deterministic' (their statements: YtnjkmbogbfjffaaTotals.lean).
  GIVEN WITH THE SEED: the statements are not yours to turn. If you find one false, say at which input.
  Laid BY PROGRAM, IN A SANDBOX (cutbox-rows.mjs): the forced cells as the released guide's own fill.sh prints them over the translation 9e235cc7177f26a5… (all of the seat's roots in one cut). By AI agents, Wed Nov 11 2026. No macro, syntax, notation, axiom, sorry.
-/
import Derived.Test.YtnjkmbogbfjffaaChecked
import GoSem.Claim
import GoSem.ClaimJoined
import GoSem.ClaimMapViews
import Derived.JoinedTies
import Derived.KernelRfl
namespace Go.Proofs.Ytnjkmbogbfjffaa
/- THE CELL 'sum', in the pinned program and in every row, IS THE sha256 OF THE DUMP (.gsa) THAT YtnjkmbogbfjffaaProg.lean LOADS. Nothing in Lean hashes anything: it is a label: what it is worth is what the hold of that sum in a sandbox is worth. -/
noncomputable def Try.pinned : Pinned := { name := "ytnjkmbogbfjffaa", sum := "9e235cc7177f26a50c73534513254be06da946adf42891dda48edea29fe441f8", checked := Try.checked }
namespace Rows
def none {H : Type} : Left H := { results := [], args := [] }

/-- 'rostrumlaw.LedgerNewer': WHATEVER THE INPUT: true; the input reads as it did. -/
def ledgerNewerSpec : ChangeSpec := { name := "ledgerNewer", fn := fun _ => fun
  | [d1, d2, d3] => { results := [.lit (.bool true)], args := [d1, d2, d3] }
  | _ => none }
def ledgerNewerRow : OpenClaim := { program := "ytnjkmbogbfjffaa", sum := "9e235cc7177f26a50c73534513254be06da946adf42891dda48edea29fe441f8", func := "rostrum/rostrumlaw.LedgerNewer", spec := "ledgerNewer", apart := false }
def LedgerNewerSaid : Prop := ledgerNewerRow.holds Try.pinned (OpenSpec.ofChange ledgerNewerSpec)

/-- ITS FALSE NEIGHBOUR: 'it returns false'. Refute it at one input. -/
def ledgerNewerWrong : ChangeSpec := { name := "ledgerNewer", fn := fun _ => fun
  | [d1, d2, d3] => { results := [.lit (.bool false)], args := [d1, d2, d3] }
  | _ => none }
def LedgerNewerWrongFalsely : Prop := ledgerNewerRow.holds Try.pinned (OpenSpec.ofChange ledgerNewerWrong)

/-- 'rostrumlaw.LedgerTerms': WHATEVER THE INPUT: true; the input reads as it did. -/
def ledgerTermsSpec : ChangeSpec := { name := "ledgerTerms", fn := fun _ => fun
  | [d1, d2] => { results := [.lit (.bool true)], args := [d1, d2] }
  | _ => none }
def ledgerTermsRow : OpenClaim := { program := "ytnjkmbogbfjffaa", sum := "9e235cc7177f26a50c73534513254be06da946adf42891dda48edea29fe441f8", func := "rostrum/rostrumlaw.LedgerTerms", spec := "ledgerTerms", apart := false }
def LedgerTermsSaid : Prop := ledgerTermsRow.holds Try.pinned (OpenSpec.ofChange ledgerTermsSpec)

/-- ITS FALSE NEIGHBOUR: 'it returns false'. Refute it at one input. -/
def ledgerTermsWrong : ChangeSpec := { name := "ledgerTerms", fn := fun _ => fun
  | [d1, d2] => { results := [.lit (.bool false)], args := [d1, d2] }
  | _ => none }
def LedgerTermsWrongFalsely : Prop := ledgerTermsRow.holds Try.pinned (OpenSpec.ofChange ledgerTermsWrong)

/-- 'rostrumlaw.WireItemBytes': WHATEVER THE INPUT: true; the input reads as it did. -/
def wireItemBytesSpec : ChangeSpec := { name := "wireItemBytes", fn := fun _ => fun
  | [d] => { results := [.lit (.bool true)], args := [d] }
  | _ => none }
def wireItemBytesRow : OpenClaim := { program := "ytnjkmbogbfjffaa", sum := "9e235cc7177f26a50c73534513254be06da946adf42891dda48edea29fe441f8", func := "rostrum/rostrumlaw.WireItemBytes", spec := "wireItemBytes", apart := false }
def WireItemBytesSaid : Prop := wireItemBytesRow.holds Try.pinned (OpenSpec.ofChange wireItemBytesSpec)

/-- ITS FALSE NEIGHBOUR: 'it returns false'. Refute it at one input. -/
def wireItemBytesWrong : ChangeSpec := { name := "wireItemBytes", fn := fun _ => fun
  | [d] => { results := [.lit (.bool false)], args := [d] }
  | _ => none }
def WireItemBytesWrongFalsely : Prop := wireItemBytesRow.holds Try.pinned (OpenSpec.ofChange wireItemBytesWrong)

/-- 'rostrumlaw.LedgerTrims': WHATEVER THE INPUT: true; the input reads as it did. -/
def ledgerTrimsSpec : ChangeSpec := { name := "ledgerTrims", fn := fun _ => fun
  | [d1, d2] => { results := [.lit (.bool true)], args := [d1, d2] }
  | _ => none }
def ledgerTrimsRow : OpenClaim := { program := "ytnjkmbogbfjffaa", sum := "9e235cc7177f26a50c73534513254be06da946adf42891dda48edea29fe441f8", func := "rostrum/rostrumlaw.LedgerTrims", spec := "ledgerTrims", apart := false }
def LedgerTrimsSaid : Prop := ledgerTrimsRow.holds Try.pinned (OpenSpec.ofChange ledgerTrimsSpec)

/-- ITS FALSE NEIGHBOUR: 'it returns false'. Refute it at one input. -/
def ledgerTrimsWrong : ChangeSpec := { name := "ledgerTrims", fn := fun _ => fun
  | [d1, d2] => { results := [.lit (.bool false)], args := [d1, d2] }
  | _ => none }
def LedgerTrimsWrongFalsely : Prop := ledgerTrimsRow.holds Try.pinned (OpenSpec.ofChange ledgerTrimsWrong)

/-- 'rostrumlaw.LedgerBehinds': WHATEVER THE INPUT: true; the input reads as it did. -/
def ledgerBehindsSpec : ChangeSpec := { name := "ledgerBehinds", fn := fun _ => fun
  | [d1, d2, d3] => { results := [.lit (.bool true)], args := [d1, d2, d3] }
  | _ => none }
def ledgerBehindsRow : OpenClaim := { program := "ytnjkmbogbfjffaa", sum := "9e235cc7177f26a50c73534513254be06da946adf42891dda48edea29fe441f8", func := "rostrum/rostrumlaw.LedgerBehinds", spec := "ledgerBehinds", apart := false }
def LedgerBehindsSaid : Prop := ledgerBehindsRow.holds Try.pinned (OpenSpec.ofChange ledgerBehindsSpec)

/-- ITS FALSE NEIGHBOUR: 'it returns false'. Refute it at one input. -/
def ledgerBehindsWrong : ChangeSpec := { name := "ledgerBehinds", fn := fun _ => fun
  | [d1, d2, d3] => { results := [.lit (.bool false)], args := [d1, d2, d3] }
  | _ => none }
def LedgerBehindsWrongFalsely : Prop := ledgerBehindsRow.holds Try.pinned (OpenSpec.ofChange ledgerBehindsWrong)

/-- 'rostrumlaw.ValueChecks': WHATEVER THE INPUT: true; the input reads as it did. -/
def valueChecksSpec : ChangeSpec := { name := "valueChecks", fn := fun _ => fun
  | [d] => { results := [.lit (.bool true)], args := [d] }
  | _ => none }
def valueChecksRow : OpenClaim := { program := "ytnjkmbogbfjffaa", sum := "9e235cc7177f26a50c73534513254be06da946adf42891dda48edea29fe441f8", func := "rostrum/rostrumlaw.ValueChecks", spec := "valueChecks", inPlace := ["internal/bytealg.abigen_runtime_cmpstring"], unfollowed := true, recurses := true, apart := false }
def ValueChecksSaid : Prop := valueChecksRow.holds Try.pinned (OpenSpec.ofChange valueChecksSpec)

/-- ITS FALSE NEIGHBOUR: 'it returns false'. Refute it at one input. -/
def valueChecksWrong : ChangeSpec := { name := "valueChecks", fn := fun _ => fun
  | [d] => { results := [.lit (.bool false)], args := [d] }
  | _ => none }
def ValueChecksWrongFalsely : Prop := valueChecksRow.holds Try.pinned (OpenSpec.ofChange valueChecksWrong)

/-- 'rostrumlaw.LedgerMatches': WHATEVER THE INPUT: true; the input reads as it did. -/
def ledgerMatchesSpec : ChangeSpec := { name := "ledgerMatches", fn := fun _ => fun
  | [d1, d2, d3, d4] => { results := [.lit (.bool true)], args := [d1, d2, d3, d4] }
  | _ => none }
def ledgerMatchesRow : OpenClaim := { program := "ytnjkmbogbfjffaa", sum := "9e235cc7177f26a50c73534513254be06da946adf42891dda48edea29fe441f8", func := "rostrum/rostrumlaw.LedgerMatches", spec := "ledgerMatches", apart := false }
def LedgerMatchesSaid : Prop := ledgerMatchesRow.holds Try.pinned (OpenSpec.ofChange ledgerMatchesSpec)

/-- ITS FALSE NEIGHBOUR: 'it returns false'. Refute it at one input. -/
def ledgerMatchesWrong : ChangeSpec := { name := "ledgerMatches", fn := fun _ => fun
  | [d1, d2, d3, d4] => { results := [.lit (.bool false)], args := [d1, d2, d3, d4] }
  | _ => none }
def LedgerMatchesWrongFalsely : Prop := ledgerMatchesRow.holds Try.pinned (OpenSpec.ofChange ledgerMatchesWrong)

/-- 'rostrumlaw.StoreChecks': WHATEVER THE INPUT: true; the input reads as it did. -/
def storeChecksSpec : ChangeSpec := { name := "storeChecks", fn := fun _ => fun
  | [d] => { results := [.lit (.bool true)], args := [d] }
  | _ => none }
def storeChecksRow : OpenClaim := { program := "ytnjkmbogbfjffaa", sum := "9e235cc7177f26a50c73534513254be06da946adf42891dda48edea29fe441f8", func := "rostrum/rostrumlaw.StoreChecks", spec := "storeChecks", inPlace := ["internal/bytealg.abigen_runtime_cmpstring"], unfollowed := true, recurses := true, apart := false }
def StoreChecksSaid : Prop := storeChecksRow.holds Try.pinned (OpenSpec.ofChange storeChecksSpec)

/-- ITS FALSE NEIGHBOUR: 'it returns false'. Refute it at one input. -/
def storeChecksWrong : ChangeSpec := { name := "storeChecks", fn := fun _ => fun
  | [d] => { results := [.lit (.bool false)], args := [d] }
  | _ => none }
def StoreChecksWrongFalsely : Prop := storeChecksRow.holds Try.pinned (OpenSpec.ofChange storeChecksWrong)

/-- 'rostrumlaw.WireItemReads': WHATEVER THE INPUT: true; the input reads as it did. -/
def wireItemReadsSpec : ChangeSpec := { name := "wireItemReads", fn := fun _ => fun
  | [d] => { results := [.lit (.bool true)], args := [d] }
  | _ => none }
def wireItemReadsRow : OpenClaim := { program := "ytnjkmbogbfjffaa", sum := "9e235cc7177f26a50c73534513254be06da946adf42891dda48edea29fe441f8", func := "rostrum/rostrumlaw.WireItemReads", spec := "wireItemReads", apart := false }
def WireItemReadsSaid : Prop := wireItemReadsRow.holds Try.pinned (OpenSpec.ofChange wireItemReadsSpec)

/-- ITS FALSE NEIGHBOUR: 'it returns false'. Refute it at one input. -/
def wireItemReadsWrong : ChangeSpec := { name := "wireItemReads", fn := fun _ => fun
  | [d] => { results := [.lit (.bool false)], args := [d] }
  | _ => none }
def WireItemReadsWrongFalsely : Prop := wireItemReadsRow.holds Try.pinned (OpenSpec.ofChange wireItemReadsWrong)

/-- 'rostrumlaw.ClientChecks': WHATEVER THE INPUT: true; the input reads as it did. -/
def clientChecksSpec : ChangeSpec := { name := "clientChecks", fn := fun _ => fun
  | [d] => { results := [.lit (.bool true)], args := [d] }
  | _ => none }
def clientChecksRow : OpenClaim := { program := "ytnjkmbogbfjffaa", sum := "9e235cc7177f26a50c73534513254be06da946adf42891dda48edea29fe441f8", func := "rostrum/rostrumlaw.ClientChecks", spec := "clientChecks", inPlace := ["internal/bytealg.abigen_runtime_cmpstring"], unfollowed := true, recurses := true, apart := false }
def ClientChecksSaid : Prop := clientChecksRow.holds Try.pinned (OpenSpec.ofChange clientChecksSpec)

/-- ITS FALSE NEIGHBOUR: 'it returns false'. Refute it at one input. -/
def clientChecksWrong : ChangeSpec := { name := "clientChecks", fn := fun _ => fun
  | [d] => { results := [.lit (.bool false)], args := [d] }
  | _ => none }
def ClientChecksWrongFalsely : Prop := clientChecksRow.holds Try.pinned (OpenSpec.ofChange clientChecksWrong)

/-- 'rostrumlaw.TapeSnaps': WHATEVER THE INPUT: true; the input reads as it did. -/
def tapeSnapsSpec : ChangeSpec := { name := "tapeSnaps", fn := fun _ => fun
  | [d] => { results := [.lit (.bool true)], args := [d] }
  | _ => none }
def tapeSnapsRow : OpenClaim := { program := "ytnjkmbogbfjffaa", sum := "9e235cc7177f26a50c73534513254be06da946adf42891dda48edea29fe441f8", func := "rostrum/rostrumlaw.TapeSnaps", spec := "tapeSnaps", inPlace := ["internal/bytealg.abigen_runtime_cmpstring"], unfollowed := true, recurses := true, apart := false }
def TapeSnapsSaid : Prop := tapeSnapsRow.holds Try.pinned (OpenSpec.ofChange tapeSnapsSpec)

/-- ITS FALSE NEIGHBOUR: 'it returns false'. Refute it at one input. -/
def tapeSnapsWrong : ChangeSpec := { name := "tapeSnaps", fn := fun _ => fun
  | [d] => { results := [.lit (.bool false)], args := [d] }
  | _ => none }
def TapeSnapsWrongFalsely : Prop := tapeSnapsRow.holds Try.pinned (OpenSpec.ofChange tapeSnapsWrong)

/-- 'rostrumlaw.WireEncodes': WHATEVER THE INPUT: true; the input reads as it did. -/
def wireEncodesSpec : ChangeSpec := { name := "wireEncodes", fn := fun _ => fun
  | [d] => { results := [.lit (.bool true)], args := [d] }
  | _ => none }
def wireEncodesRow : OpenClaim := { program := "ytnjkmbogbfjffaa", sum := "9e235cc7177f26a50c73534513254be06da946adf42891dda48edea29fe441f8", func := "rostrum/rostrumlaw.WireEncodes", spec := "wireEncodes", inPlace := ["internal/bytealg.abigen_runtime_cmpstring"], unfollowed := true, recurses := true, apart := false }
def WireEncodesSaid : Prop := wireEncodesRow.holds Try.pinned (OpenSpec.ofChange wireEncodesSpec)

/-- ITS FALSE NEIGHBOUR: 'it returns false'. Refute it at one input. -/
def wireEncodesWrong : ChangeSpec := { name := "wireEncodes", fn := fun _ => fun
  | [d] => { results := [.lit (.bool false)], args := [d] }
  | _ => none }
def WireEncodesWrongFalsely : Prop := wireEncodesRow.holds Try.pinned (OpenSpec.ofChange wireEncodesWrong)

/- THE SECOND FORM. 'bulk': how many values and letters a reading holds, each counted each time it is reached (what is shared counts as often as it is met; a slice's spare places count too). A statement '..UptoSaid' is the law's where the arguments, and the package variables that the reading takes, are together of bulk at most 1048576: NARROWER than '..Said'. Prove '..Said' where nothing that the law and all that it calls make is longer than what came in: it says more and counts as full. Else prove '..UptoSaid'. A law counts once. -/
mutual
def uptoBulk {H : Type} : DataW H → Nat
  | .lit (.string bytes) => bytes.length + 1
  | .lit _ => 1
  | .nil => 1
  | .ptr d => uptoBulk d + 1
  | .slice elems spare => uptoBulkAll elems + uptoBulkAll spare + 1
  | .agg parts => uptoBulkAll parts + 1
  | .iface _ d => uptoBulk d + 1
  | .map entries => uptoBulkEntries entries + 1
  | .held _ => 1
def uptoBulkAll {H : Type} : List (DataW H) → Nat
  | [] => 0
  | d :: r => uptoBulk d + uptoBulkAll r
def uptoBulkEntries {H : Type} : List (Lit × DataW H) → Nat
  | [] => 0
  | x :: r => uptoBulkEntry x + uptoBulkEntries r
def uptoBulkEntry {H : Type} : Lit × DataW H → Nat
  | (.string bytes, d) => bytes.length + uptoBulk d + 1
  | (_, d) => uptoBulk d + 1
 end
def uptoSmall : (H : Type) → List (DataW H) → Bool := fun _ ds => decide (uptoBulkAll ds ≤ 1048576)
def OpenSpec.upto (s : _root_.Go.ChangeSpec) : _root_.Go.OpenSpec := { _root_.Go.OpenSpec.ofChange s with cond := some uptoSmall }

/-- 'rostrumlaw.LedgerNewer', WHERE WHAT IT READS IS OF BULK AT MOST 1048576: true; the input reads as it did. -/
def ledgerNewerUptoRow : OpenClaim := { program := "ytnjkmbogbfjffaa", sum := "9e235cc7177f26a50c73534513254be06da946adf42891dda48edea29fe441f8", func := "rostrum/rostrumlaw.LedgerNewer", spec := "ledgerNewer", apart := false, narrowed := true }
def LedgerNewerUptoSaid : Prop := ledgerNewerUptoRow.holds Try.pinned (OpenSpec.upto ledgerNewerSpec)

/-- 'rostrumlaw.LedgerTerms', WHERE WHAT IT READS IS OF BULK AT MOST 1048576: true; the input reads as it did. -/
def ledgerTermsUptoRow : OpenClaim := { program := "ytnjkmbogbfjffaa", sum := "9e235cc7177f26a50c73534513254be06da946adf42891dda48edea29fe441f8", func := "rostrum/rostrumlaw.LedgerTerms", spec := "ledgerTerms", apart := false, narrowed := true }
def LedgerTermsUptoSaid : Prop := ledgerTermsUptoRow.holds Try.pinned (OpenSpec.upto ledgerTermsSpec)

/-- 'rostrumlaw.WireItemBytes', WHERE WHAT IT READS IS OF BULK AT MOST 1048576: true; the input reads as it did. -/
def wireItemBytesUptoRow : OpenClaim := { program := "ytnjkmbogbfjffaa", sum := "9e235cc7177f26a50c73534513254be06da946adf42891dda48edea29fe441f8", func := "rostrum/rostrumlaw.WireItemBytes", spec := "wireItemBytes", apart := false, narrowed := true }
def WireItemBytesUptoSaid : Prop := wireItemBytesUptoRow.holds Try.pinned (OpenSpec.upto wireItemBytesSpec)

/-- 'rostrumlaw.LedgerTrims', WHERE WHAT IT READS IS OF BULK AT MOST 1048576: true; the input reads as it did. -/
def ledgerTrimsUptoRow : OpenClaim := { program := "ytnjkmbogbfjffaa", sum := "9e235cc7177f26a50c73534513254be06da946adf42891dda48edea29fe441f8", func := "rostrum/rostrumlaw.LedgerTrims", spec := "ledgerTrims", apart := false, narrowed := true }
def LedgerTrimsUptoSaid : Prop := ledgerTrimsUptoRow.holds Try.pinned (OpenSpec.upto ledgerTrimsSpec)

/-- 'rostrumlaw.LedgerBehinds', WHERE WHAT IT READS IS OF BULK AT MOST 1048576: true; the input reads as it did. -/
def ledgerBehindsUptoRow : OpenClaim := { program := "ytnjkmbogbfjffaa", sum := "9e235cc7177f26a50c73534513254be06da946adf42891dda48edea29fe441f8", func := "rostrum/rostrumlaw.LedgerBehinds", spec := "ledgerBehinds", apart := false, narrowed := true }
def LedgerBehindsUptoSaid : Prop := ledgerBehindsUptoRow.holds Try.pinned (OpenSpec.upto ledgerBehindsSpec)

/-- 'rostrumlaw.ValueChecks', WHERE WHAT IT READS IS OF BULK AT MOST 1048576: true; the input reads as it did. -/
def valueChecksUptoRow : OpenClaim := { program := "ytnjkmbogbfjffaa", sum := "9e235cc7177f26a50c73534513254be06da946adf42891dda48edea29fe441f8", func := "rostrum/rostrumlaw.ValueChecks", spec := "valueChecks", inPlace := ["internal/bytealg.abigen_runtime_cmpstring"], unfollowed := true, recurses := true, apart := false, narrowed := true }
def ValueChecksUptoSaid : Prop := valueChecksUptoRow.holds Try.pinned (OpenSpec.upto valueChecksSpec)

/-- 'rostrumlaw.LedgerMatches', WHERE WHAT IT READS IS OF BULK AT MOST 1048576: true; the input reads as it did. -/
def ledgerMatchesUptoRow : OpenClaim := { program := "ytnjkmbogbfjffaa", sum := "9e235cc7177f26a50c73534513254be06da946adf42891dda48edea29fe441f8", func := "rostrum/rostrumlaw.LedgerMatches", spec := "ledgerMatches", apart := false, narrowed := true }
def LedgerMatchesUptoSaid : Prop := ledgerMatchesUptoRow.holds Try.pinned (OpenSpec.upto ledgerMatchesSpec)

/-- 'rostrumlaw.StoreChecks', WHERE WHAT IT READS IS OF BULK AT MOST 1048576: true; the input reads as it did. -/
def storeChecksUptoRow : OpenClaim := { program := "ytnjkmbogbfjffaa", sum := "9e235cc7177f26a50c73534513254be06da946adf42891dda48edea29fe441f8", func := "rostrum/rostrumlaw.StoreChecks", spec := "storeChecks", inPlace := ["internal/bytealg.abigen_runtime_cmpstring"], unfollowed := true, recurses := true, apart := false, narrowed := true }
def StoreChecksUptoSaid : Prop := storeChecksUptoRow.holds Try.pinned (OpenSpec.upto storeChecksSpec)

/-- 'rostrumlaw.WireItemReads', WHERE WHAT IT READS IS OF BULK AT MOST 1048576: true; the input reads as it did. -/
def wireItemReadsUptoRow : OpenClaim := { program := "ytnjkmbogbfjffaa", sum := "9e235cc7177f26a50c73534513254be06da946adf42891dda48edea29fe441f8", func := "rostrum/rostrumlaw.WireItemReads", spec := "wireItemReads", apart := false, narrowed := true }
def WireItemReadsUptoSaid : Prop := wireItemReadsUptoRow.holds Try.pinned (OpenSpec.upto wireItemReadsSpec)

/-- 'rostrumlaw.ClientChecks', WHERE WHAT IT READS IS OF BULK AT MOST 1048576: true; the input reads as it did. -/
def clientChecksUptoRow : OpenClaim := { program := "ytnjkmbogbfjffaa", sum := "9e235cc7177f26a50c73534513254be06da946adf42891dda48edea29fe441f8", func := "rostrum/rostrumlaw.ClientChecks", spec := "clientChecks", inPlace := ["internal/bytealg.abigen_runtime_cmpstring"], unfollowed := true, recurses := true, apart := false, narrowed := true }
def ClientChecksUptoSaid : Prop := clientChecksUptoRow.holds Try.pinned (OpenSpec.upto clientChecksSpec)

/-- 'rostrumlaw.TapeSnaps', WHERE WHAT IT READS IS OF BULK AT MOST 1048576: true; the input reads as it did. -/
def tapeSnapsUptoRow : OpenClaim := { program := "ytnjkmbogbfjffaa", sum := "9e235cc7177f26a50c73534513254be06da946adf42891dda48edea29fe441f8", func := "rostrum/rostrumlaw.TapeSnaps", spec := "tapeSnaps", inPlace := ["internal/bytealg.abigen_runtime_cmpstring"], unfollowed := true, recurses := true, apart := false, narrowed := true }
def TapeSnapsUptoSaid : Prop := tapeSnapsUptoRow.holds Try.pinned (OpenSpec.upto tapeSnapsSpec)

/-- 'rostrumlaw.WireEncodes', WHERE WHAT IT READS IS OF BULK AT MOST 1048576: true; the input reads as it did. -/
def wireEncodesUptoRow : OpenClaim := { program := "ytnjkmbogbfjffaa", sum := "9e235cc7177f26a50c73534513254be06da946adf42891dda48edea29fe441f8", func := "rostrum/rostrumlaw.WireEncodes", spec := "wireEncodes", inPlace := ["internal/bytealg.abigen_runtime_cmpstring"], unfollowed := true, recurses := true, apart := false, narrowed := true }
def WireEncodesUptoSaid : Prop := wireEncodesUptoRow.holds Try.pinned (OpenSpec.upto wireEncodesSpec)

end Rows
end Go.Proofs.Ytnjkmbogbfjffaa
