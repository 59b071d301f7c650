/- The chain of contracts of the law WireEncodes, over the functions that it reaches. -/
import Derived.Test.YtnjkmbogbfjffaaWireEncodesZa
import Derived.Test.YtnjkmbogbfjffaaWireEncodesZb
import Derived.Test.YtnjkmbogbfjffaaWireEncodesZc
import Derived.Test.YtnjkmbogbfjffaaWireEncodesZd
import Derived.Test.YtnjkmbogbfjffaaWireEncodesD
import Derived.Test.YtnjkmbogbfjffaaWireEncodesP
set_option linter.unusedSimpArgs false
set_option linter.unusedVariables false
set_option linter.constructorNameAsVariable false
set_option linter.unnecessarySimpa false
set_option maxRecDepth 100000
namespace Go.Proofs.Ytnjkmbogbfjffaa
open Go Go.Mx Go.Proofs
namespace CWireEncodes
theorem argD_slice {P : Program} {t e : TypeId} {x : V} (hu : P.underlying t = some (.slice e)) : argD P t [x] = .v x := by simp only [argD, hu]
theorem argD_str {P : Program} {t : TypeId} {x : V} (hu : P.underlying t = some .string) : argD P t [x] = .v x := by simp only [argD, hu]
def a1 (x : GValue) : List D × bH := ([.agg [.v (.i .i64 x.fKind), .v (.s x.fText), .v (.i .i64 x.fCount), .v (.sl 2 (ah GPair.row x.fPairs)), .v (.sl 1 (ah bY x.fItems)), .v (.sl 2 (ah GScore.row x.fScores))]], [])
noncomputable def O1 : aj := aj.addF noC 29 a1 (fun x => rrValueCopy x) (fun _ (r : GValue) => (.agg [.v (.i .i64 r.fKind), .v (.s r.fText), .v (.i .i64 r.fCount), .own 2 (ah GPair.row r.fPairs), .own 1 (ah bY r.fItems), .own 2 (ah GScore.row r.fScores)], []))
def a2 (x : GStore) : List D × bH := ([.agg [.v (.i .i64 x.fNow), .v (.sl 8 (ah GEntry.row x.fEntries))]], [])
noncomputable def O2 : aj := aj.addF O1 35 a2 (fun x => rrStoreCopy x) (fun _ (r : GStore) => (.agg [.v (.i .i64 r.fNow), .own 8 (ah GEntry.row r.fEntries)], []))
def a3 (x : GReply) : List D × bH := ([.agg [.v (.i .i64 x.fCode), .v (.s x.fText), .v (.i .i64 x.fN), .v (.sl 1 (ah bY x.fList))]], [])
noncomputable def O3 : aj := aj.addF O2 90 a3 (fun x => rrreplyCopy x) (fun _ (r : GReply) => (.agg [.v (.i .i64 r.fCode), .v (.s r.fText), .v (.i .i64 r.fN), .own 1 (ah bY r.fList)], []))
def a4 (x : GMachine) : List D × bH := ([.agg [.v (.i .i64 x.fStore.fNow), .v (.sl 8 (ah GEntry.row x.fStore.fEntries)), .v (.i .i64 x.fNext), .v (.sl 7 (ah GClient.row x.fClients))]], [])
noncomputable def O4 : aj := aj.addF O3 41 a4 (fun x => rrMachineCopy_z x) (fun _ (r : GMachine) => (.agg [.v (.i .i64 r.fStore.fNow), .v (.sl 8 (ah GEntry.row r.fStore.fEntries)), .v (.i .i64 r.fNext), .v (.sl 7 (ah GClient.row r.fClients))], []))
noncomputable def O5 : aj := aj.addF O4 61 a1 (fun x => value_elements x) (fun _ (r : Int) => (.v (.i .i64 r), []))
def a6 (x : ByteArray) : List D × bH := ([.v (.s x)], [])
noncomputable def O6 : aj := aj.addF O5 62 a6 (fun x => value_text x) (fun _ (r : Bool) => (.v (.b r), []))
noncomputable def O7 : aj := aj.addF O6 64 a6 (fun x => vaC_fn1 x) (fun _ (r : Bool) => (.v (.b r), []))
def a8 (x : (List ByteArray)) : List D × bH := ([.v (.sl 1 (ah bY x)), .clo 64 []], [])
noncomputable def O8 : aj := aj.addF O7 108 a8 (fun x => sISvaC_fn1 x) (fun _ (r : Int) => (.v (.i .i64 r), []))
noncomputable def O9 : aj := aj.addF O8 63 a8 (fun x => sCSvaC_fn1 x) (fun _ (r : Bool) => (.v (.b r), []))
noncomputable def O10 : aj := aj.addF O9 67 a6 (fun x => value_field x) (fun _ (r : Bool) => (.v (.b r), []))
def a11 (x : GPair) : List D × bH := ([.agg [.v (.s x.fField), .v (.s x.fText)]], [])
noncomputable def O11 : aj := aj.addF O10 66 a11 (fun x => vaC_fn2 x) (fun _ (r : Bool) => (.v (.b r), []))
def a12 (x : (List GPair)) : List D × bH := ([.v (.sl 2 (ah GPair.row x)), .clo 66 []], [])
noncomputable def O12 : aj := aj.addF O11 109 a12 (fun x => sIPvaC_fn2 x) (fun _ (r : Int) => (.v (.i .i64 r), []))
noncomputable def O13 : aj := aj.addF O12 65 a12 (fun x => sCPvaC_fn2 x) (fun _ (r : Bool) => (.v (.b r), []))
def a14 (x : GScore) : List D × bH := ([.agg [.v (.s x.fMember), .v (.i .i64 x.fN)]], [])
noncomputable def O14 : aj := aj.addF O13 69 a14 (fun x => vaC_fn3 x) (fun _ (r : Bool) => (.v (.b r), []))
def a15 (x : (List GScore)) : List D × bH := ([.v (.sl 2 (ah GScore.row x)), .clo 69 []], [])
noncomputable def O15 : aj := aj.addF O14 110 a15 (fun x => sIRvaC_fn3 x) (fun _ (r : Int) => (.v (.i .i64 r), []))
noncomputable def O16 : aj := aj.addF O15 68 a15 (fun x => sCRvaC_fn3 x) (fun _ (r : Bool) => (.v (.b r), []))
def a17 (x : Int) : List D × bH := ([.v (.i .i64 x)], [])
noncomputable def O17 : aj := aj.addF O16 70 a17 (fun x => value_count x) (fun _ (r : Bool) => (.v (.b r), []))
noncomputable def O18 : aj := aj.addF O17 71 a14 (fun x => vaC_fn4 x) (fun _ (r : Bool) => (.v (.b r), []))
def a19 (x : (List GScore)) : List D × bH := ([.v (.sl 2 (ah GScore.row x)), .clo 71 []], [])
noncomputable def O19 : aj := aj.addF O18 110 a19 (fun x => sIRvaC_fn4 x) (fun _ (r : Int) => (.v (.i .i64 r), []))
noncomputable def O20 : aj := aj.addF O19 68 a19 (fun x => sCRvaC_fn4 x) (fun _ (r : Bool) => (.v (.b r), []))
def a21 (x : ByteArray × ByteArray) : List D × bH := ([.v (.s x.1), .v (.s x.2)], [])
noncomputable def O21 : aj := aj.addF O20 132 a21 (fun x => cmpstring x.1 x.2) (fun _ (r : Int) => (.v (.i .i64 r), []))
noncomputable def O22 : aj := aj.addF O21 113 a21 (fun x => ibCompareString x.1 x.2) (fun _ (r : Int) => (.v (.i .i64 r), []))
noncomputable def O23 : aj := aj.addF O22 77 a21 (fun x => strings_Compare x.1 x.2) (fun _ (r : Int) => (.v (.i .i64 r), []))
def a24 (x : GPair × GPair) : List D × bH := ([.agg [.v (.s x.1.fField), .v (.s x.1.fText)], .agg [.v (.s x.2.fField), .v (.s x.2.fText)]], [])
noncomputable def O24 : aj := aj.addF O23 73 a24 (fun x => value_byField x.1 x.2) (fun _ (r : Int) => (.v (.i .i64 r), []))
def a25 (x : (List GPair)) : List D × bH := ([.v (.sl 2 (ah GPair.row x)), .clo 73 []], [])
noncomputable def O25 : aj := aj.addF O24 72 a25 (fun x => value_rising_Pair_value_byField x) (fun _ (r : Bool) => (.v (.b r), []))
noncomputable def O26 : aj := aj.addF O25 131 a17 (fun x => cmp_isNaN_int x) (fun _ (r : Bool) => (.v (.b r), []))
def a27 (x : Int × Int) : List D × bH := ([.v (.i .i64 x.1), .v (.i .i64 x.2)], [])
noncomputable def O27 : aj := aj.addF O26 112 a27 (fun x => cmp_Compare_int x.1 x.2) (fun _ (r : Int) => (.v (.i .i64 r), []))
def a28 (x : (List Int)) : List D × bH := ([.v (.sl 1 (ah rowI x))], [])
noncomputable def O28 : aj := aj.addF O27 111 a28 (fun x => cmp_Or_int x) (fun _ (r : Int) => (.v (.i .i64 r), []))
def a29 (x : GScore × GScore) : List D × bH := ([.agg [.v (.s x.1.fMember), .v (.i .i64 x.1.fN)], .agg [.v (.s x.2.fMember), .v (.i .i64 x.2.fN)]], [])
noncomputable def O29 : aj := aj.addF O28 75 a29 (fun x => value_byScore x.1 x.2) (fun _ (r : Int) => (.v (.i .i64 r), []))
def a30 (x : (List GScore)) : List D × bH := ([.v (.sl 2 (ah GScore.row x)), .clo 75 []], [])
noncomputable def O30 : aj := aj.addF O29 74 a30 (fun x => value_rising_Score_value_byScore x) (fun _ (r : Bool) => (.v (.b r), []))
def a31 (x : (List ByteArray)) : List D × bH := ([.v (.sl 1 (ah bY x)), .clo 77 []], [])
noncomputable def O31 : aj := aj.addF O30 76 a31 (fun x => value_rising_string_strings_Compare x) (fun _ (r : Bool) => (.v (.b r), []))
def a32 (x : GScore × ByteArray) : List D × bH := ([.agg [.v (.s x.1.fMember), .v (.i .i64 x.1.fN)], .ptr 0 0], [[.v (.s x.2)]])
noncomputable def O32 : aj := aj.addF O31 114 a32 (fun x => value_rank_fn1 x.1 x.2) (fun _ (r : Bool × ByteArray) => (.v (.b r.1), [[.v (.s r.2)]]))
def a33 (x : (List GScore) × ByteArray) : List D × bH := ([.v (.sl 2 (ah GScore.row x.1)), .clo 114 [.ptr 0 0]], [[.v (.s x.2)]])
noncomputable def O33 : aj := aj.addF O32 110 a33 (fun x => sIRvalue_rank_fn1 x.1 x.2) (fun _ (r : Int × ByteArray) => (.v (.i .i64 r.1), [[.v (.s r.2)]]))
def a34 (x : (List GScore) × ByteArray) : List D × bH := ([.v (.sl 2 (ah GScore.row x.1)), .v (.s x.2)], [])
noncomputable def O34 : aj := aj.addF O33 78 a34 (fun x => value_rank x.1 x.2) (fun _ (r : Int) => (.v (.i .i64 r), []))
noncomputable def O35 : aj := aj.addF O34 28 a1 (fun x => vaC x) (fun _ (r : Int) => (.v (.i .i64 r), []))
noncomputable def O36 : aj := aj.addF O35 34 a2 (fun x => store_Check x) (fun _ (r : Int) => (.v (.i .i64 r), []))
noncomputable def O37 : aj := aj.addF O36 122 a6 (fun x => clCReply_fn1 x) (fun _ (r : Bool) => (.v (.b r), []))
def a38 (x : (List ByteArray)) : List D × bH := ([.v (.sl 1 (ah bY x)), .clo 122 []], [])
noncomputable def O38 : aj := aj.addF O37 108 a38 (fun x => sISclCReply_fn1 x) (fun _ (r : Int) => (.v (.i .i64 r), []))
noncomputable def O39 : aj := aj.addF O38 63 a38 (fun x => sCSclCReply_fn1 x) (fun _ (r : Bool) => (.v (.b r), []))
noncomputable def O40 : aj := aj.addF O39 89 a3 (fun x => clCReply x) (fun _ (r : Int) => (.v (.i .i64 r), []))
noncomputable def O41 : aj := aj.addF O40 40 a4 (fun x => clC x) (fun _ (r : Int) => (.v (.i .i64 r), []))
def a42 (x : Int × Gwriter) : List D × bH := ([.ptr 0 0, .v (.i .i64 x.1)], [[.own 1 (ah cE x.2.fb)]])
noncomputable def O42 : aj := aj.addF O41 94 a42 (fun x => wwnumber x.1 x.2) (fun _ (r : Gwriter) => (.tup [], [[.own 1 (ah cE r.fb)]]))
noncomputable def O43 : aj := aj.addF O42 95 a42 (fun x => wwsmall x.1 x.2) (fun _ (r : Gwriter) => (.tup [], [[.own 1 (ah cE r.fb)]]))
def a44 (x : ByteArray × Gwriter) : List D × bH := ([.ptr 0 0, .v (.s x.1)], [[.own 1 (ah cE x.2.fb)]])
noncomputable def O44 : aj := aj.addF O43 96 a44 (fun x => wwtext x.1 x.2) (fun _ (r : Gwriter) => (.tup [], [[.own 1 (ah cE r.fb)]]))
def a45 (x : (List ByteArray) × Gwriter) : List D × bH := ([.ptr 0 0, .v (.sl 1 (ah bY x.1))], [[.own 1 (ah cE x.2.fb)]])
noncomputable def O45 : aj := aj.addF O44 98 a45 (fun x => wwtexts x.1 x.2) (fun _ (r : Gwriter) => (.tup [], [[.own 1 (ah cE r.fb)]]))
def a46 (x : GValue × Gwriter) : List D × bH := ([.ptr 0 0, .agg [.v (.i .i64 x.1.fKind), .v (.s x.1.fText), .v (.i .i64 x.1.fCount), .v (.sl 2 (ah GPair.row x.1.fPairs)), .v (.sl 1 (ah bY x.1.fItems)), .v (.sl 2 (ah GScore.row x.1.fScores))]], [[.own 1 (ah cE x.2.fb)]])
noncomputable def O46 : aj := aj.addF O45 97 a46 (fun x => wwvalue x.1 x.2) (fun _ (r : Gwriter) => (.tup [], [[.own 1 (ah cE r.fb)]]))
noncomputable def O47 : aj := aj.addF O46 46 a4 (fun x => wire_Encode x) (fun _ (r : (List Int) × Int) => (.tup [.v (.sl 1 (ah cE r.1)), .v (.i .i64 r.2)], []))
def a48 (x : Int × Int × Int) : List D × bH := ([.v (.i .i64 x.1), .v (.i .i64 x.2.1), .v (.i .i64 x.2.2)], [])
noncomputable def O48 : aj := aj.addF O47 55 a48 (fun x => rrIn x.1 x.2.1 x.2.2) (fun _ (r : Bool) => (.v (.b r), []))
noncomputable def O49 : aj := aj.addF O48 81 a6 (fun x => rrfieldMay x) (fun _ (r : Bool) => (.v (.b r), []))
noncomputable def O50 : aj := aj.addF O49 79 a1 (fun x => rrsizeOf x) (fun _ (r : Int) => (.v (.i .i64 r), []))
noncomputable def O51 : aj := aj.addF O50 80 a6 (fun x => rrtextMay x) (fun _ (r : Bool) => (.v (.b r), []))
noncomputable def O52 : aj := aj.addF O51 82 a17 (fun x => rrcountMay x) (fun _ (r : Bool) => (.v (.b r), []))
noncomputable def O53 : aj := aj.addF O52 83 a29 (fun x => rrscoreAhead x.1 x.2) (fun _ (r : Bool) => (.v (.b r), []))
noncomputable def O54 : aj := aj.addF O53 84 a34 (fun x => rrmemberAt x.1 x.2) (fun _ (r : Int) => (.v (.i .i64 r), []))
noncomputable def O55 : aj := aj.addF O54 30 a1 (fun x => rrValueFault x) (fun _ (r : Int) => (.v (.i .i64 r), []))
noncomputable def O56 : aj := aj.addF O55 36 a2 (fun x => rrStoreFault x) (fun _ (r : Int) => (.v (.i .i64 r), []))
noncomputable def O57 : aj := aj.addF O56 91 a17 (fun x => rrnumberMay x) (fun _ (r : Bool) => (.v (.b r), []))
noncomputable def O58 : aj := aj.addF O57 92 a3 (fun x => rrReplyFault x) (fun _ (r : Int) => (.v (.i .i64 r), []))
noncomputable def O59 : aj := aj.addF O58 42 a4 (fun x => rrMachineFault x) (fun _ (r : Int) => (.v (.i .i64 r), []))
noncomputable def O60 : aj := aj.addF O59 106 a17 (fun x => rreight x) (fun _ (r : (List Int)) => (.own 1 (ah cE r), []))
def a61 (x : (List Int) × (List Int)) : List D × bH := ([.v (.sl 1 (ah cE x.1)), .v (.sl 1 (ah cE x.2))], [])
noncomputable def O61 : aj := aj.addF O60 105 a61 (fun x => rrjoined x.1 x.2) (fun _ (r : (List Int)) => (.own 1 (ah cE r), []))
noncomputable def O62 : aj := aj.addF O61 107 a6 (fun x => rrtextBytes x) (fun _ (r : (List Int)) => (.own 1 (ah cE r), []))
def a63 (x : (List ByteArray)) : List D × bH := ([.v (.sl 1 (ah bY x))], [])
noncomputable def O63 : aj := aj.addF O62 124 a63 (fun x => rrlistBytes x) (fun _ (r : (List Int)) => (.own 1 (ah cE r), []))
noncomputable def O64 : aj := aj.addF O63 123 a1 (fun x => rrvalueBytes x) (fun _ (r : (List Int)) => (.own 1 (ah cE r), []))
noncomputable def O65 : aj := aj.addF O64 99 a4 (fun x => rrmachineBytes x) (fun _ (r : (List Int)) => (.own 1 (ah cE r), []))
noncomputable def O66 : aj := aj.addF O65 47 a4 (fun x => rrMachineBytes x) (fun _ (r : (List Int) × Int) => (.tup [.v (.sl 1 (ah cE r.1)), .v (.i .i64 r.2)], []))
def a67 (x : (List ByteArray) × (List ByteArray)) : List D × bH := ([.v (.sl 1 (ah bY x.1)), .v (.sl 1 (ah bY x.2))], [])
noncomputable def O67 : aj := aj.addF O66 126 a67 (fun x => rlsameTexts x.1 x.2) (fun _ (r : Bool) => (.v (.b r), []))
def a68 (x : GValue × GValue) : List D × bH := ([.agg [.v (.i .i64 x.1.fKind), .v (.s x.1.fText), .v (.i .i64 x.1.fCount), .v (.sl 2 (ah GPair.row x.1.fPairs)), .v (.sl 1 (ah bY x.1.fItems)), .v (.sl 2 (ah GScore.row x.1.fScores))], .agg [.v (.i .i64 x.2.fKind), .v (.s x.2.fText), .v (.i .i64 x.2.fCount), .v (.sl 2 (ah GPair.row x.2.fPairs)), .v (.sl 1 (ah bY x.2.fItems)), .v (.sl 2 (ah GScore.row x.2.fScores))]], [])
noncomputable def O68 : aj := aj.addF O67 125 a68 (fun x => rlsameValue x.1 x.2) (fun _ (r : Bool) => (.v (.b r), []))
def a69 (x : GStore × GStore) : List D × bH := ([.agg [.v (.i .i64 x.1.fNow), .v (.sl 8 (ah GEntry.row x.1.fEntries))], .agg [.v (.i .i64 x.2.fNow), .v (.sl 8 (ah GEntry.row x.2.fEntries))]], [])
noncomputable def O69 : aj := aj.addF O68 100 a69 (fun x => rlsameStore x.1 x.2) (fun _ (r : Bool) => (.v (.b r), []))
def a70 (x : GReply × GReply) : List D × bH := ([.agg [.v (.i .i64 x.1.fCode), .v (.s x.1.fText), .v (.i .i64 x.1.fN), .v (.sl 1 (ah bY x.1.fList))], .agg [.v (.i .i64 x.2.fCode), .v (.s x.2.fText), .v (.i .i64 x.2.fN), .v (.sl 1 (ah bY x.2.fList))]], [])
noncomputable def O70 : aj := aj.addF O69 101 a70 (fun x => rlsameReply x.1 x.2) (fun _ (r : Bool) => (.v (.b r), []))
def a71 (x : GMachine × GMachine) : List D × bH := ([.agg [.v (.i .i64 x.1.fStore.fNow), .v (.sl 8 (ah GEntry.row x.1.fStore.fEntries)), .v (.i .i64 x.1.fNext), .v (.sl 7 (ah GClient.row x.1.fClients))], .agg [.v (.i .i64 x.2.fStore.fNow), .v (.sl 8 (ah GEntry.row x.2.fStore.fEntries)), .v (.i .i64 x.2.fNext), .v (.sl 7 (ah GClient.row x.2.fClients))]], [])
noncomputable def O71 : aj := aj.addF O70 48 a71 (fun x => rlsameMachine x.1 x.2) (fun _ (r : Bool) => (.v (.b r), []))
def FF : Nat → Nat
  | 1 => 29
  | 2 => 35
  | 3 => 90
  | 4 => 41
  | 5 => 61
  | 6 => 62
  | 7 => 64
  | 8 => 108
  | 9 => 63
  | 10 => 67
  | 11 => 66
  | 12 => 109
  | 13 => 65
  | 14 => 69
  | 15 => 110
  | 16 => 68
  | 17 => 70
  | 18 => 71
  | 19 => 110
  | 20 => 68
  | 21 => 132
  | 22 => 113
  | 23 => 77
  | 24 => 73
  | 25 => 72
  | 26 => 131
  | 27 => 112
  | 28 => 111
  | 29 => 75
  | 30 => 74
  | 31 => 76
  | 32 => 114
  | 33 => 110
  | 34 => 78
  | 35 => 28
  | 36 => 34
  | 37 => 122
  | 38 => 108
  | 39 => 63
  | 40 => 89
  | 41 => 40
  | 42 => 94
  | 43 => 95
  | 44 => 96
  | 45 => 98
  | 46 => 97
  | 47 => 46
  | 48 => 55
  | 49 => 81
  | 50 => 79
  | 51 => 80
  | 52 => 82
  | 53 => 83
  | 54 => 84
  | 55 => 30
  | 56 => 36
  | 57 => 91
  | 58 => 92
  | 59 => 42
  | 60 => 106
  | 61 => 105
  | 62 => 107
  | 63 => 124
  | 64 => 123
  | 65 => 99
  | 66 => 47
  | 67 => 126
  | 68 => 125
  | 69 => 100
  | 70 => 101
  | 71 => 48
  | _ => 0
noncomputable def OO : Nat → aj
  | 0 => noC
  | 1 => O1
  | 2 => O2
  | 3 => O3
  | 4 => O4
  | 5 => O5
  | 6 => O6
  | 7 => O7
  | 8 => O8
  | 9 => O9
  | 10 => O10
  | 11 => O11
  | 12 => O12
  | 13 => O13
  | 14 => O14
  | 15 => O15
  | 16 => O16
  | 17 => O17
  | 18 => O18
  | 19 => O19
  | 20 => O20
  | 21 => O21
  | 22 => O22
  | 23 => O23
  | 24 => O24
  | 25 => O25
  | 26 => O26
  | 27 => O27
  | 28 => O28
  | 29 => O29
  | 30 => O30
  | 31 => O31
  | 32 => O32
  | 33 => O33
  | 34 => O34
  | 35 => O35
  | 36 => O36
  | 37 => O37
  | 38 => O38
  | 39 => O39
  | 40 => O40
  | 41 => O41
  | 42 => O42
  | 43 => O43
  | 44 => O44
  | 45 => O45
  | 46 => O46
  | 47 => O47
  | 48 => O48
  | 49 => O49
  | 50 => O50
  | 51 => O51
  | 52 => O52
  | 53 => O53
  | 54 => O54
  | 55 => O55
  | 56 => O56
  | 57 => O57
  | 58 => O58
  | 59 => O59
  | 60 => O60
  | 61 => O61
  | 62 => O62
  | 63 => O63
  | 64 => O64
  | 65 => O65
  | 66 => O66
  | 67 => O67
  | 68 => O68
  | 69 => O69
  | 70 => O70
  | 71 => O71
  | _ => noC
theorem up {C : aj} {f f1 : Nat} {X R : Type} {arg : X → List D × bH} {G : X → Option R} {res : X → R → D × bH} (h : f ≠ f1) : (aj.addF C f1 arg G res) f = C f := funext fun a => funext fun S => ac h a S
theorem step1 : ∀ n f, n < 71 → f ≠ FF (n + 1) → OO (n + 1) f = OO n f
  | 0, f, _, h => (up h : O1 f = noC f)
  | 1, f, _, h => (up h : O2 f = O1 f)
  | 2, f, _, h => (up h : O3 f = O2 f)
  | 3, f, _, h => (up h : O4 f = O3 f)
  | 4, f, _, h => (up h : O5 f = O4 f)
  | 5, f, _, h => (up h : O6 f = O5 f)
  | 6, f, _, h => (up h : O7 f = O6 f)
  | 7, f, _, h => (up h : O8 f = O7 f)
  | 8, f, _, h => (up h : O9 f = O8 f)
  | 9, f, _, h => (up h : O10 f = O9 f)
  | 10, f, _, h => (up h : O11 f = O10 f)
  | 11, f, _, h => (up h : O12 f = O11 f)
  | 12, f, _, h => (up h : O13 f = O12 f)
  | 13, f, _, h => (up h : O14 f = O13 f)
  | 14, f, _, h => (up h : O15 f = O14 f)
  | 15, f, _, h => (up h : O16 f = O15 f)
  | 16, f, _, h => (up h : O17 f = O16 f)
  | 17, f, _, h => (up h : O18 f = O17 f)
  | 18, f, _, h => (up h : O19 f = O18 f)
  | 19, f, _, h => (up h : O20 f = O19 f)
  | 20, f, _, h => (up h : O21 f = O20 f)
  | 21, f, _, h => (up h : O22 f = O21 f)
  | 22, f, _, h => (up h : O23 f = O22 f)
  | 23, f, _, h => (up h : O24 f = O23 f)
  | 24, f, _, h => (up h : O25 f = O24 f)
  | 25, f, _, h => (up h : O26 f = O25 f)
  | 26, f, _, h => (up h : O27 f = O26 f)
  | 27, f, _, h => (up h : O28 f = O27 f)
  | 28, f, _, h => (up h : O29 f = O28 f)
  | 29, f, _, h => (up h : O30 f = O29 f)
  | 30, f, _, h => (up h : O31 f = O30 f)
  | 31, f, _, h => (up h : O32 f = O31 f)
  | 32, f, _, h => (up h : O33 f = O32 f)
  | 33, f, _, h => (up h : O34 f = O33 f)
  | 34, f, _, h => (up h : O35 f = O34 f)
  | 35, f, _, h => (up h : O36 f = O35 f)
  | 36, f, _, h => (up h : O37 f = O36 f)
  | 37, f, _, h => (up h : O38 f = O37 f)
  | 38, f, _, h => (up h : O39 f = O38 f)
  | 39, f, _, h => (up h : O40 f = O39 f)
  | 40, f, _, h => (up h : O41 f = O40 f)
  | 41, f, _, h => (up h : O42 f = O41 f)
  | 42, f, _, h => (up h : O43 f = O42 f)
  | 43, f, _, h => (up h : O44 f = O43 f)
  | 44, f, _, h => (up h : O45 f = O44 f)
  | 45, f, _, h => (up h : O46 f = O45 f)
  | 46, f, _, h => (up h : O47 f = O46 f)
  | 47, f, _, h => (up h : O48 f = O47 f)
  | 48, f, _, h => (up h : O49 f = O48 f)
  | 49, f, _, h => (up h : O50 f = O49 f)
  | 50, f, _, h => (up h : O51 f = O50 f)
  | 51, f, _, h => (up h : O52 f = O51 f)
  | 52, f, _, h => (up h : O53 f = O52 f)
  | 53, f, _, h => (up h : O54 f = O53 f)
  | 54, f, _, h => (up h : O55 f = O54 f)
  | 55, f, _, h => (up h : O56 f = O55 f)
  | 56, f, _, h => (up h : O57 f = O56 f)
  | 57, f, _, h => (up h : O58 f = O57 f)
  | 58, f, _, h => (up h : O59 f = O58 f)
  | 59, f, _, h => (up h : O60 f = O59 f)
  | 60, f, _, h => (up h : O61 f = O60 f)
  | 61, f, _, h => (up h : O62 f = O61 f)
  | 62, f, _, h => (up h : O63 f = O62 f)
  | 63, f, _, h => (up h : O64 f = O63 f)
  | 64, f, _, h => (up h : O65 f = O64 f)
  | 65, f, _, h => (up h : O66 f = O65 f)
  | 66, f, _, h => (up h : O67 f = O66 f)
  | 67, f, _, h => (up h : O68 f = O67 f)
  | 68, f, _, h => (up h : O69 f = O68 f)
  | 69, f, _, h => (up h : O70 f = O69 f)
  | 70, f, _, h => (up h : O71 f = O70 f)
  | n + 71, _, h, _ => absurd h (by omega)
theorem jump (f j : Nat) : ∀ d, j + d ≤ 71 → (∀ m, m < d → f ≠ FF (j + m + 1)) → ∀ a S, OO (j + d) f a S = OO j f a S
  | 0, _, _, _, _ => rfl
  | d + 1, hd, h, a, S => (congrFun (congrFun (step1 (j + d) f (by omega) (h d (Nat.lt_succ_self d))) a) S).trans (jump f j d (by omega) (fun m hm => h m (Nat.lt_succ_of_lt hm)) a S)
theorem O1_sound : cj Try.prog O1 := aV (gF _) (fun x r h => cb (ν := n29) (aW (gF _)) Try.func29 (by kernel_rfl) mixed (by kernel_rfl) (Nat.le_of_ble_eq_true (by kernel_rfl)) (r_rrValueCopy noC x r h))
theorem inj1 : ∀ x y, a1 x = a1 y → x = y := by
  rintro ⟨ua1, ua2, ua3, ua4, ua5, ua6⟩ ⟨ub1, ub2, ub3, ub4, ub5, ub6⟩ h
  simp only [a1, Prod.mk.injEq, List.cons.injEq, D.v.injEq, D.agg.injEq, V.i.injEq, V.s.injEq, V.sl.injEq, aZ, GPair.map_inj, GScore.map_inj, true_and, and_true] at h
  simp only [h]
theorem K1_1 : K_rrValueCopy O1 := fun p0 r h => bZ (x := p0) inj1 h
theorem O2_sound : cj Try.prog O2 := aV O1_sound (fun x r h => cb (ν := n35) (aW O1_sound) Try.func35 (by kernel_rfl) mixed (by kernel_rfl) (Nat.le_of_ble_eq_true (by kernel_rfl)) (r_rrStoreCopy O1 K1_1 x r h))
theorem inj2 : ∀ x y, a2 x = a2 y → x = y := by
  rintro ⟨ua1, ua2⟩ ⟨ub1, ub2⟩ h
  simp only [a2, Prod.mk.injEq, List.cons.injEq, D.v.injEq, D.agg.injEq, V.i.injEq, V.sl.injEq, GEntry.map_inj, true_and, and_true] at h
  simp only [h]
theorem K2_2 : K_rrStoreCopy O2 := fun p0 r h => bZ (x := p0) inj2 h
theorem O3_sound : cj Try.prog O3 := aV O2_sound (fun x r h => cb (ν := n90) (aW O2_sound) Try.func90 (by kernel_rfl) mixed (by kernel_rfl) (Nat.le_of_ble_eq_true (by kernel_rfl)) (r_rrreplyCopy O2 x r h))
theorem inj3 : ∀ x y, a3 x = a3 y → x = y := by
  rintro ⟨ua1, ua2, ua3, ua4⟩ ⟨ub1, ub2, ub3, ub4⟩ h
  simp only [a3, Prod.mk.injEq, List.cons.injEq, D.v.injEq, D.agg.injEq, V.i.injEq, V.s.injEq, V.sl.injEq, aZ, true_and, and_true] at h
  simp only [h]
theorem K3_3 : K_rrreplyCopy O3 := fun p0 r h => bZ (x := p0) inj3 h
theorem K2_3 : K_rrStoreCopy O3 := fun p0 r h => (jump 35 2 1 (by decide) (by decide) _ _).trans (K2_2 p0 r h)
theorem O4_sound : cj Try.prog O4 := aV O3_sound (fun x r h => by
  obtain ⟨d, S, h1, h2, h3⟩ := r_rrMachineCopy_z O3 K2_3 K3_3 x r h
  have h4 := Mx.Sem.frozen (cb (ν := n41) (aW O3_sound) Try.func41 (by kernel_rfl) mixed (by kernel_rfl) (Nat.le_of_ble_eq_true (by kernel_rfl)) h1) h2
  obtain ⟨e1, e2⟩ := Prod.mk.inj h3
  rw [e1] at h4; rw [e2] at h4; exact h4)
theorem inj4 : ∀ x y, a4 x = a4 y → x = y := by
  rintro ⟨⟨ua1, ua2⟩, ua3, ua4⟩ ⟨⟨ub1, ub2⟩, ub3, ub4⟩ h
  simp only [a4, Prod.mk.injEq, List.cons.injEq, D.v.injEq, D.agg.injEq, V.i.injEq, V.sl.injEq, GEntry.map_inj, GClient.map_inj, true_and, and_true] at h
  simp only [h]
theorem K4_4 : K_rrMachineCopy_z O4 := fun p0 r h => bZ (x := p0) inj4 h
theorem O5_sound : cj Try.prog O5 := aV O4_sound (fun x r h => cb (ν := n61) (aW O4_sound) Try.func61 (by kernel_rfl) mixed (by kernel_rfl) (Nat.le_of_ble_eq_true (by kernel_rfl)) (r_value_elements O4 x r h))
theorem K5_5 : K_value_elements O5 := fun p0 r h => bZ (x := p0) inj1 h
theorem O6_sound : cj Try.prog O6 := aV O5_sound (fun x r h => cb (ν := n62) (aW O5_sound) Try.func62 (by kernel_rfl) mixed (by kernel_rfl) (Nat.le_of_ble_eq_true (by kernel_rfl)) (r_value_text O5 x r h))
theorem inj6 : ∀ x y, a6 x = a6 y → x = y := by
  rintro ua1 ub1 h
  simp only [a6, Prod.mk.injEq, List.cons.injEq, D.v.injEq, V.s.injEq, and_true] at h
  exact h
theorem K6_6 : K_value_text O6 := fun p0 r h => bZ (x := p0) inj6 h
theorem O7_sound : cj Try.prog O7 := aV O6_sound (fun x r h => cb (ν := n64) (aW O6_sound) Try.func64 (by kernel_rfl) mixed (by kernel_rfl) (Nat.le_of_ble_eq_true (by kernel_rfl)) (r_vaC_fn1 O6 K6_6 x r h))
theorem K7_7 : K_vaC_fn1 O7 := fun p0 r h => bZ (x := p0) inj6 h
theorem O8_sound : cj Try.prog O8 := aV O7_sound (fun x r h => cb (ν := n108) (aW O7_sound) Try.func108 (by kernel_rfl) mixed (by kernel_rfl) (Nat.le_of_ble_eq_true (by kernel_rfl)) (r_sISvaC_fn1 O7 K7_7 x r h))
theorem inj8 : ∀ x y, a8 x = a8 y → x = y := by
  rintro ua1 ub1 h
  simp only [a8, Prod.mk.injEq, List.cons.injEq, D.v.injEq, V.sl.injEq, aZ, true_and, and_true] at h
  exact h
theorem K8_8 : K_sISvaC_fn1 O8 := fun p0 r h => bZ (x := p0) inj8 h
theorem O9_sound : cj Try.prog O9 := aV O8_sound (fun x r h => cb (ν := n63) (aW O8_sound) Try.func63 (by kernel_rfl) mixed (by kernel_rfl) (Nat.le_of_ble_eq_true (by kernel_rfl)) (r_sCSvaC_fn1 O8 K8_8 x r h))
theorem K9_9 : K_sCSvaC_fn1 O9 := fun p0 r h => bZ (x := p0) inj8 h
theorem O10_sound : cj Try.prog O10 := aV O9_sound (fun x r h => cb (ν := n67) (aW O9_sound) Try.func67 (by kernel_rfl) mixed (by kernel_rfl) (Nat.le_of_ble_eq_true (by kernel_rfl)) (r_value_field O9 x r h))
theorem K10_10 : K_value_field O10 := fun p0 r h => bZ (x := p0) inj6 h
theorem K6_10 : K_value_text O10 := fun p0 r h => (jump 62 6 4 (by decide) (by decide) _ _).trans (K6_6 p0 r h)
theorem O11_sound : cj Try.prog O11 := aV O10_sound (fun x r h => cb (ν := n66) (aW O10_sound) Try.func66 (by kernel_rfl) mixed (by kernel_rfl) (Nat.le_of_ble_eq_true (by kernel_rfl)) (r_vaC_fn2 O10 K10_10 K6_10 x r h))
theorem inj11 : ∀ x y, a11 x = a11 y → x = y := by
  rintro ⟨ua1, ua2⟩ ⟨ub1, ub2⟩ h
  simp only [a11, Prod.mk.injEq, List.cons.injEq, D.v.injEq, D.agg.injEq, V.s.injEq, and_true] at h
  simp only [h]
theorem K11_11 : K_vaC_fn2 O11 := fun p0 r h => bZ (x := p0) inj11 h
theorem O12_sound : cj Try.prog O12 := aV O11_sound (fun x r h => cb (ν := n109) (aW O11_sound) Try.func109 (by kernel_rfl) mixed (by kernel_rfl) (Nat.le_of_ble_eq_true (by kernel_rfl)) (r_sIPvaC_fn2 O11 K11_11 x r h))
theorem inj12 : ∀ x y, a12 x = a12 y → x = y := by
  rintro ua1 ub1 h
  simp only [a12, Prod.mk.injEq, List.cons.injEq, D.v.injEq, V.sl.injEq, GPair.map_inj, true_and, and_true] at h
  exact h
theorem K12_12 : K_sIPvaC_fn2 O12 := fun p0 r h => bZ (x := p0) inj12 h
theorem O13_sound : cj Try.prog O13 := aV O12_sound (fun x r h => cb (ν := n65) (aW O12_sound) Try.func65 (by kernel_rfl) mixed (by kernel_rfl) (Nat.le_of_ble_eq_true (by kernel_rfl)) (r_sCPvaC_fn2 O12 K12_12 x r h))
theorem K13_13 : K_sCPvaC_fn2 O13 := fun p0 r h => bZ (x := p0) inj12 h
theorem K6_13 : K_value_text O13 := fun p0 r h => (jump 62 6 7 (by decide) (by decide) _ _).trans (K6_6 p0 r h)
theorem O14_sound : cj Try.prog O14 := aV O13_sound (fun x r h => cb (ν := n69) (aW O13_sound) Try.func69 (by kernel_rfl) mixed (by kernel_rfl) (Nat.le_of_ble_eq_true (by kernel_rfl)) (r_vaC_fn3 O13 K6_13 x r h))
theorem inj14 : ∀ x y, a14 x = a14 y → x = y := by
  rintro ⟨ua1, ua2⟩ ⟨ub1, ub2⟩ h
  simp only [a14, Prod.mk.injEq, List.cons.injEq, D.v.injEq, D.agg.injEq, V.i.injEq, V.s.injEq, true_and, and_true] at h
  simp only [h]
theorem K14_14 : K_vaC_fn3 O14 := fun p0 r h => bZ (x := p0) inj14 h
theorem O15_sound : cj Try.prog O15 := aV O14_sound (fun x r h => cb (ν := n110) (aW O14_sound) Try.func110 (by kernel_rfl) mixed (by kernel_rfl) (Nat.le_of_ble_eq_true (by kernel_rfl)) (r_sIRvaC_fn3 O14 K14_14 x r h))
theorem inj15 : ∀ x y, a15 x = a15 y → x = y := by
  rintro ua1 ub1 h
  simp only [a15, Prod.mk.injEq, List.cons.injEq, D.v.injEq, V.sl.injEq, GScore.map_inj, true_and, and_true] at h
  exact h
theorem K15_15 : K_sIRvaC_fn3 O15 := fun p0 r h => bZ (x := p0) inj15 h
theorem O16_sound : cj Try.prog O16 := aV O15_sound (fun x r h => cb (ν := n68) (aW O15_sound) Try.func68 (by kernel_rfl) mixed (by kernel_rfl) (Nat.le_of_ble_eq_true (by kernel_rfl)) (r_sCRvaC_fn3 O15 K15_15 x r h))
theorem K16_16 : K_sCRvaC_fn3 O16 := fun p0 r h => bZ (x := p0) inj15 h
theorem O17_sound : cj Try.prog O17 := aV O16_sound (fun x r h => cb (ν := n70) (aW O16_sound) Try.func70 (by kernel_rfl) mixed (by kernel_rfl) (Nat.le_of_ble_eq_true (by kernel_rfl)) (r_value_count O16 x r h))
theorem inj17 : ∀ x y, a17 x = a17 y → x = y := by
  rintro ua1 ub1 h
  simp only [a17, Prod.mk.injEq, List.cons.injEq, D.v.injEq, V.i.injEq, true_and, and_true] at h
  exact h
theorem K17_17 : K_value_count O17 := fun p0 r h => bZ (x := p0) inj17 h
theorem O18_sound : cj Try.prog O18 := aV O17_sound (fun x r h => cb (ν := n71) (aW O17_sound) Try.func71 (by kernel_rfl) mixed (by kernel_rfl) (Nat.le_of_ble_eq_true (by kernel_rfl)) (r_vaC_fn4 O17 K17_17 x r h))
theorem K18_18 : K_vaC_fn4 O18 := fun p0 r h => bZ (x := p0) inj14 h
theorem O19_sound : cj Try.prog O19 := aV O18_sound (fun x r h => cb (ν := n110) (aW O18_sound) Try.func110 (by kernel_rfl) mixed (by kernel_rfl) (Nat.le_of_ble_eq_true (by kernel_rfl)) (r_sIRvaC_fn4 O18 K18_18 x r h))
theorem inj19 : ∀ x y, a19 x = a19 y → x = y := by
  rintro ua1 ub1 h
  simp only [a19, Prod.mk.injEq, List.cons.injEq, D.v.injEq, V.sl.injEq, GScore.map_inj, true_and, and_true] at h
  exact h
theorem K19_19 : K_sIRvaC_fn4 O19 := fun p0 r h => bZ (x := p0) inj19 h
theorem O20_sound : cj Try.prog O20 := aV O19_sound (fun x r h => cb (ν := n68) (aW O19_sound) Try.func68 (by kernel_rfl) mixed (by kernel_rfl) (Nat.le_of_ble_eq_true (by kernel_rfl)) (r_sCRvaC_fn4 O19 K19_19 x r h))
theorem K20_20 : K_sCRvaC_fn4 O20 := fun p0 r h => bZ (x := p0) inj19 h
theorem O21_sound : cj Try.prog O21 := aV O20_sound (fun x r h => by
  obtain rfl := Option.some.inj h
  exact sem_cmp Try.func132 (by kernel_rfl) (by kernel_rfl) (by kernel_rfl) (by kernel_rfl) x.1 x.2)
theorem inj21 : ∀ x y, a21 x = a21 y → x = y := by
  rintro ⟨ua1, ua2⟩ ⟨ub1, ub2⟩ h
  simp only [a21, Prod.mk.injEq, List.cons.injEq, D.v.injEq, V.s.injEq, and_true] at h
  simp only [h]
theorem K21_21 : K_cmpstring O21 := fun p0 p1 r h => bZ (x := (p0, p1)) inj21 h
theorem O22_sound : cj Try.prog O22 := aV O21_sound (fun x r h => cb (ν := n113) (aW O21_sound) Try.func113 (by kernel_rfl) mixed (by kernel_rfl) (Nat.le_of_ble_eq_true (by kernel_rfl)) (r_ibCompareString O21 K21_21 x.1 x.2 r h))
theorem K22_22 : K_ibCompareString O22 := fun p0 p1 r h => bZ (x := (p0, p1)) inj21 h
theorem O23_sound : cj Try.prog O23 := aV O22_sound (fun x r h => cb (ν := n77) (aW O22_sound) Try.func77 (by kernel_rfl) mixed (by kernel_rfl) (Nat.le_of_ble_eq_true (by kernel_rfl)) (r_strings_Compare O22 K22_22 x.1 x.2 r h))
theorem K23_23 : K_strings_Compare O23 := fun p0 p1 r h => bZ (x := (p0, p1)) inj21 h
theorem O24_sound : cj Try.prog O24 := aV O23_sound (fun x r h => cb (ν := n73) (aW O23_sound) Try.func73 (by kernel_rfl) mixed (by kernel_rfl) (Nat.le_of_ble_eq_true (by kernel_rfl)) (r_value_byField O23 K23_23 x.1 x.2 r h))
theorem inj24 : ∀ x y, a24 x = a24 y → x = y := by
  rintro ⟨⟨ua1, ua2⟩, ⟨ua3, ua4⟩⟩ ⟨⟨ub1, ub2⟩, ⟨ub3, ub4⟩⟩ h
  simp only [a24, Prod.mk.injEq, List.cons.injEq, D.v.injEq, D.agg.injEq, V.s.injEq, and_true] at h
  simp only [h]
theorem K24_24 : K_value_byField O24 := fun p0 p1 r h => bZ (x := (p0, p1)) inj24 h
theorem O25_sound : cj Try.prog O25 := aV O24_sound (fun x r h => cb (ν := n72) (aW O24_sound) Try.func72 (by kernel_rfl) mixed (by kernel_rfl) (Nat.le_of_ble_eq_true (by kernel_rfl)) (r_value_rising_Pair_value_byField O24 K24_24 x r h))
theorem inj25 : ∀ x y, a25 x = a25 y → x = y := by
  rintro ua1 ub1 h
  simp only [a25, Prod.mk.injEq, List.cons.injEq, D.v.injEq, V.sl.injEq, GPair.map_inj, true_and, and_true] at h
  exact h
theorem K25_25 : K_value_rising_Pair_value_byField O25 := fun p0 r h => bZ (x := p0) inj25 h
theorem O26_sound : cj Try.prog O26 := aV O25_sound (fun x r h => cb (ν := n131) (aW O25_sound) Try.func131 (by kernel_rfl) mixed (by kernel_rfl) (Nat.le_of_ble_eq_true (by kernel_rfl)) (r_cmp_isNaN_int O25 x r h))
theorem K26_26 : K_cmp_isNaN_int O26 := fun p0 r h => bZ (x := p0) inj17 h
theorem O27_sound : cj Try.prog O27 := aV O26_sound (fun x r h => cb (ν := n112) (aW O26_sound) Try.func112 (by kernel_rfl) mixed (by kernel_rfl) (Nat.le_of_ble_eq_true (by kernel_rfl)) (r_cmp_Compare_int O26 K26_26 x.1 x.2 r h))
theorem inj27 : ∀ x y, a27 x = a27 y → x = y := by
  rintro ⟨ua1, ua2⟩ ⟨ub1, ub2⟩ h
  simp only [a27, Prod.mk.injEq, List.cons.injEq, D.v.injEq, V.i.injEq, true_and, and_true] at h
  simp only [h]
theorem K27_27 : K_cmp_Compare_int O27 := fun p0 p1 r h => bZ (x := (p0, p1)) inj27 h
theorem O28_sound : cj Try.prog O28 := aV O27_sound (fun x r h => cb (ν := n111) (aW O27_sound) Try.func111 (by kernel_rfl) mixed (by kernel_rfl) (Nat.le_of_ble_eq_true (by kernel_rfl)) (r_cmp_Or_int O27 x r h))
theorem inj28 : ∀ x y, a28 x = a28 y → x = y := by
  rintro ua1 ub1 h
  simp only [a28, Prod.mk.injEq, List.cons.injEq, D.v.injEq, V.sl.injEq, ba, true_and, and_true] at h
  exact h
theorem K28_28 : K_cmp_Or_int O28 := fun p0 r h => bZ (x := p0) inj28 h
theorem K27_28 : K_cmp_Compare_int O28 := fun p0 p1 r h => (jump 112 27 1 (by decide) (by decide) _ _).trans (K27_27 p0 p1 r h)
theorem K23_28 : K_strings_Compare O28 := fun p0 p1 r h => (jump 77 23 5 (by decide) (by decide) _ _).trans (K23_23 p0 p1 r h)
theorem O29_sound : cj Try.prog O29 := aV O28_sound (fun x r h => cb (ν := n75) (aW O28_sound) Try.func75 (by kernel_rfl) mixed (by kernel_rfl) (Nat.le_of_ble_eq_true (by kernel_rfl)) (r_value_byScore O28 K27_28 K23_28 K28_28 x.1 x.2 r h))
theorem inj29 : ∀ x y, a29 x = a29 y → x = y := by
  rintro ⟨⟨ua1, ua2⟩, ⟨ua3, ua4⟩⟩ ⟨⟨ub1, ub2⟩, ⟨ub3, ub4⟩⟩ h
  simp only [a29, Prod.mk.injEq, List.cons.injEq, D.v.injEq, D.agg.injEq, V.i.injEq, V.s.injEq, true_and, and_true] at h
  simp only [h]
theorem K29_29 : K_value_byScore O29 := fun p0 p1 r h => bZ (x := (p0, p1)) inj29 h
theorem O30_sound : cj Try.prog O30 := aV O29_sound (fun x r h => cb (ν := n74) (aW O29_sound) Try.func74 (by kernel_rfl) mixed (by kernel_rfl) (Nat.le_of_ble_eq_true (by kernel_rfl)) (r_value_rising_Score_value_byScore O29 K29_29 x r h))
theorem inj30 : ∀ x y, a30 x = a30 y → x = y := by
  rintro ua1 ub1 h
  simp only [a30, Prod.mk.injEq, List.cons.injEq, D.v.injEq, V.sl.injEq, GScore.map_inj, true_and, and_true] at h
  exact h
theorem K30_30 : K_value_rising_Score_value_byScore O30 := fun p0 r h => bZ (x := p0) inj30 h
theorem K23_30 : K_strings_Compare O30 := fun p0 p1 r h => (jump 77 23 7 (by decide) (by decide) _ _).trans (K23_23 p0 p1 r h)
theorem O31_sound : cj Try.prog O31 := aV O30_sound (fun x r h => cb (ν := n76) (aW O30_sound) Try.func76 (by kernel_rfl) mixed (by kernel_rfl) (Nat.le_of_ble_eq_true (by kernel_rfl)) (r_value_rising_string_strings_Compare O30 K23_30 x r h))
theorem inj31 : ∀ x y, a31 x = a31 y → x = y := by
  rintro ua1 ub1 h
  simp only [a31, Prod.mk.injEq, List.cons.injEq, D.v.injEq, V.sl.injEq, aZ, true_and, and_true] at h
  exact h
theorem K31_31 : K_value_rising_string_strings_Compare O31 := fun p0 r h => bZ (x := p0) inj31 h
theorem O32_sound : cj Try.prog O32 := aV O31_sound (fun x r h => cb (ν := n114) (aW O31_sound) Try.func114 (by kernel_rfl) mixed (by kernel_rfl) (Nat.le_of_ble_eq_true (by kernel_rfl)) (r_value_rank_fn1 O31 x.1 x.2 r h))
theorem inj32 : ∀ x y, a32 x = a32 y → x = y := by
  rintro ⟨⟨ua1, ua2⟩, ua3⟩ ⟨⟨ub1, ub2⟩, ub3⟩ h
  simp only [a32, Prod.mk.injEq, List.cons.injEq, D.v.injEq, D.agg.injEq, V.i.injEq, V.s.injEq, true_and, and_true] at h
  simp only [h]
theorem K32_32 : K_value_rank_fn1 O32 := fun p0 p1 r h => bZ (x := (p0, p1)) inj32 h
theorem O33_sound : cj Try.prog O33 := aV O32_sound (fun x r h => cb (ν := n110) (aW O32_sound) Try.func110 (by kernel_rfl) mixed (by kernel_rfl) (Nat.le_of_ble_eq_true (by kernel_rfl)) (r_sIRvalue_rank_fn1 O32 K32_32 x.1 x.2 r h))
theorem inj33 : ∀ x y, a33 x = a33 y → x = y := by
  rintro ⟨ua1, ua2⟩ ⟨ub1, ub2⟩ h
  simp only [a33, Prod.mk.injEq, List.cons.injEq, D.v.injEq, V.s.injEq, V.sl.injEq, GScore.map_inj, true_and, and_true] at h
  simp only [h]
theorem K33_33 : K_sIRvalue_rank_fn1 O33 := fun p0 p1 r h => bZ (x := (p0, p1)) inj33 h
theorem O34_sound : cj Try.prog O34 := aV O33_sound (fun x r h => cb (ν := n78) (aW O33_sound) Try.func78 (by kernel_rfl) mixed (by kernel_rfl) (Nat.le_of_ble_eq_true (by kernel_rfl)) (r_value_rank O33 K33_33 x.1 x.2 r h))
theorem inj34 : ∀ x y, a34 x = a34 y → x = y := by
  rintro ⟨ua1, ua2⟩ ⟨ub1, ub2⟩ h
  simp only [a34, Prod.mk.injEq, List.cons.injEq, D.v.injEq, V.s.injEq, V.sl.injEq, GScore.map_inj, true_and, and_true] at h
  simp only [h]
theorem K34_34 : K_value_rank O34 := fun p0 p1 r h => bZ (x := (p0, p1)) inj34 h
theorem K5_34 : K_value_elements O34 := fun p0 r h => (jump 61 5 29 (by decide) (by decide) _ _).trans (K5_5 p0 r h)
theorem K6_34 : K_value_text O34 := fun p0 r h => (jump 62 6 28 (by decide) (by decide) _ _).trans (K6_6 p0 r h)
theorem K9_34 : K_sCSvaC_fn1 O34 := fun p0 r h => (jump 63 9 25 (by decide) (by decide) _ _).trans (K9_9 p0 r h)
theorem K13_34 : K_sCPvaC_fn2 O34 := fun p0 r h => (jump 65 13 21 (by decide) (by decide) _ _).trans (K13_13 p0 r h)
theorem K16_34 : K_sCRvaC_fn3 O34 := fun p0 r h => (jump 68 20 14 (by decide) (by decide) _ _).trans ((show O20 68 _ _ = O19 68 _ _ from addF_other (by intro x hx; simp [a19] at hx)).trans ((jump 68 16 3 (by decide) (by decide) _ _).trans (K16_16 p0 r h)))
theorem K17_34 : K_value_count O34 := fun p0 r h => (jump 70 17 17 (by decide) (by decide) _ _).trans (K17_17 p0 r h)
theorem K20_34 : K_sCRvaC_fn4 O34 := fun p0 r h => (jump 68 20 14 (by decide) (by decide) _ _).trans (K20_20 p0 r h)
theorem K25_34 : K_value_rising_Pair_value_byField O34 := fun p0 r h => (jump 72 25 9 (by decide) (by decide) _ _).trans (K25_25 p0 r h)
theorem K30_34 : K_value_rising_Score_value_byScore O34 := fun p0 r h => (jump 74 30 4 (by decide) (by decide) _ _).trans (K30_30 p0 r h)
theorem K31_34 : K_value_rising_string_strings_Compare O34 := fun p0 r h => (jump 76 31 3 (by decide) (by decide) _ _).trans (K31_31 p0 r h)
theorem O35_sound : cj Try.prog O35 := aV O34_sound (fun x r h => cb (ν := n28) (aW O34_sound) Try.func28 (by kernel_rfl) mixed (by kernel_rfl) (Nat.le_of_ble_eq_true (by kernel_rfl)) (r_vaC O34 K5_34 K6_34 K9_34 K13_34 K16_34 K17_34 K20_34 K25_34 K30_34 K31_34 K34_34 x r h))
theorem K35_35 : K_vaC O35 := fun p0 r h => bZ (x := p0) inj1 h
theorem O36_sound : cj Try.prog O36 := aV O35_sound (fun x r h => cb (ν := n34) (aW O35_sound) Try.func34 (by kernel_rfl) mixed (by kernel_rfl) (Nat.le_of_ble_eq_true (by kernel_rfl)) (r_store_Check O35 K35_35 x r h))
theorem K36_36 : K_store_Check O36 := fun p0 r h => bZ (x := p0) inj2 h
theorem O37_sound : cj Try.prog O37 := aV O36_sound (fun x r h => cb (ν := n122) (aW O36_sound) Try.func122 (by kernel_rfl) mixed (by kernel_rfl) (Nat.le_of_ble_eq_true (by kernel_rfl)) (r_clCReply_fn1 O36 x r h))
theorem K37_37 : K_clCReply_fn1 O37 := fun p0 r h => bZ (x := p0) inj6 h
theorem O38_sound : cj Try.prog O38 := aV O37_sound (fun x r h => cb (ν := n108) (aW O37_sound) Try.func108 (by kernel_rfl) mixed (by kernel_rfl) (Nat.le_of_ble_eq_true (by kernel_rfl)) (r_sISclCReply_fn1 O37 K37_37 x r h))
theorem inj38 : ∀ x y, a38 x = a38 y → x = y := by
  rintro ua1 ub1 h
  simp only [a38, Prod.mk.injEq, List.cons.injEq, D.v.injEq, V.sl.injEq, aZ, true_and, and_true] at h
  exact h
theorem K38_38 : K_sISclCReply_fn1 O38 := fun p0 r h => bZ (x := p0) inj38 h
theorem O39_sound : cj Try.prog O39 := aV O38_sound (fun x r h => cb (ν := n63) (aW O38_sound) Try.func63 (by kernel_rfl) mixed (by kernel_rfl) (Nat.le_of_ble_eq_true (by kernel_rfl)) (r_sCSclCReply_fn1 O38 K38_38 x r h))
theorem K39_39 : K_sCSclCReply_fn1 O39 := fun p0 r h => bZ (x := p0) inj38 h
theorem O40_sound : cj Try.prog O40 := aV O39_sound (fun x r h => cb (ν := n89) (aW O39_sound) Try.func89 (by kernel_rfl) mixed (by kernel_rfl) (Nat.le_of_ble_eq_true (by kernel_rfl)) (r_clCReply O39 K39_39 x r h))
theorem K40_40 : K_clCReply O40 := fun p0 r h => bZ (x := p0) inj3 h
theorem K36_40 : K_store_Check O40 := fun p0 r h => (jump 34 36 4 (by decide) (by decide) _ _).trans (K36_36 p0 r h)
theorem O41_sound : cj Try.prog O41 := aV O40_sound (fun x r h => cb (ν := n40) (aW O40_sound) Try.func40 (by kernel_rfl) mixed (by kernel_rfl) (Nat.le_of_ble_eq_true (by kernel_rfl)) (r_clC O40 K36_40 K40_40 x r h))
theorem K41_41 : K_clC O41 := fun p0 r h => bZ (x := p0) inj4 h
theorem O42_sound : cj Try.prog O42 := aV O41_sound (fun x r h => cb (ν := n94) (aW O41_sound) Try.func94 (by kernel_rfl) mixed (by kernel_rfl) (Nat.le_of_ble_eq_true (by kernel_rfl)) (r_wwnumber O41 x.1 x.2 r h))
theorem inj42 : ∀ x y, a42 x = a42 y → x = y := by
  rintro ⟨ua1, ⟨ua2⟩⟩ ⟨ub1, ⟨ub2⟩⟩ h
  simp only [a42, Prod.mk.injEq, List.cons.injEq, D.v.injEq, D.own.injEq, V.i.injEq, bc, true_and, and_true] at h
  simp only [h]
theorem K42_42 : K_wwnumber O42 := fun p0 p1 r h => bZ (x := (p0, p1)) inj42 h
theorem O43_sound : cj Try.prog O43 := aV O42_sound (fun x r h => cb (ν := n95) (aW O42_sound) Try.func95 (by kernel_rfl) mixed (by kernel_rfl) (Nat.le_of_ble_eq_true (by kernel_rfl)) (r_wwsmall O42 x.1 x.2 r h))
theorem K43_43 : K_wwsmall O43 := fun p0 p1 r h => bZ (x := (p0, p1)) inj42 h
theorem O44_sound : cj Try.prog O44 := aV O43_sound (fun x r h => cb (ν := n96) (aW O43_sound) Try.func96 (by kernel_rfl) mixed (by kernel_rfl) (Nat.le_of_ble_eq_true (by kernel_rfl)) (r_wwtext O43 K43_43 x.1 x.2 r h))
theorem inj44 : ∀ x y, a44 x = a44 y → x = y := by
  rintro ⟨ua1, ⟨ua2⟩⟩ ⟨ub1, ⟨ub2⟩⟩ h
  simp only [a44, Prod.mk.injEq, List.cons.injEq, D.v.injEq, D.own.injEq, V.s.injEq, bc, true_and, and_true] at h
  simp only [h]
theorem K44_44 : K_wwtext O44 := fun p0 p1 r h => bZ (x := (p0, p1)) inj44 h
theorem K43_44 : K_wwsmall O44 := fun p0 p1 r h => (jump 95 43 1 (by decide) (by decide) _ _).trans (K43_43 p0 p1 r h)
theorem O45_sound : cj Try.prog O45 := aV O44_sound (fun x r h => cb (ν := n98) (aW O44_sound) Try.func98 (by kernel_rfl) mixed (by kernel_rfl) (Nat.le_of_ble_eq_true (by kernel_rfl)) (r_wwtexts O44 K43_44 K44_44 x.1 x.2 r h))
theorem inj45 : ∀ x y, a45 x = a45 y → x = y := by
  rintro ⟨ua1, ⟨ua2⟩⟩ ⟨ub1, ⟨ub2⟩⟩ h
  simp only [a45, Prod.mk.injEq, List.cons.injEq, D.v.injEq, D.own.injEq, V.sl.injEq, bc, aZ, true_and, and_true] at h
  simp only [h]
theorem K45_45 : K_wwtexts O45 := fun p0 p1 r h => bZ (x := (p0, p1)) inj45 h
theorem K43_45 : K_wwsmall O45 := fun p0 p1 r h => (jump 95 43 2 (by decide) (by decide) _ _).trans (K43_43 p0 p1 r h)
theorem K44_45 : K_wwtext O45 := fun p0 p1 r h => (jump 96 44 1 (by decide) (by decide) _ _).trans (K44_44 p0 p1 r h)
theorem K42_45 : K_wwnumber O45 := fun p0 p1 r h => (jump 94 42 3 (by decide) (by decide) _ _).trans (K42_42 p0 p1 r h)
theorem O46_sound : cj Try.prog O46 := aV O45_sound (fun x r h => cb (ν := n97) (aW O45_sound) Try.func97 (by kernel_rfl) mixed (by kernel_rfl) (Nat.le_of_ble_eq_true (by kernel_rfl)) (r_wwvalue O45 K43_45 K44_45 K42_45 K45_45 x.1 x.2 r h))
theorem inj46 : ∀ x y, a46 x = a46 y → x = y := by
  rintro ⟨⟨ua1, ua2, ua3, ua4, ua5, ua6⟩, ⟨ua7⟩⟩ ⟨⟨ub1, ub2, ub3, ub4, ub5, ub6⟩, ⟨ub7⟩⟩ h
  simp only [a46, Prod.mk.injEq, List.cons.injEq, D.v.injEq, D.own.injEq, D.agg.injEq, V.i.injEq, V.s.injEq, V.sl.injEq, bc, aZ, GPair.map_inj, GScore.map_inj, true_and, and_true] at h
  simp only [h]
theorem K46_46 : K_wwvalue O46 := fun p0 p1 r h => bZ (x := (p0, p1)) inj46 h
theorem K41_46 : K_clC O46 := fun p0 r h => (jump 40 41 5 (by decide) (by decide) _ _).trans (K41_41 p0 r h)
theorem K42_46 : K_wwnumber O46 := fun p0 p1 r h => (jump 94 42 4 (by decide) (by decide) _ _).trans (K42_42 p0 p1 r h)
theorem K43_46 : K_wwsmall O46 := fun p0 p1 r h => (jump 95 43 3 (by decide) (by decide) _ _).trans (K43_43 p0 p1 r h)
theorem K44_46 : K_wwtext O46 := fun p0 p1 r h => (jump 96 44 2 (by decide) (by decide) _ _).trans (K44_44 p0 p1 r h)
theorem K45_46 : K_wwtexts O46 := fun p0 p1 r h => (jump 98 45 1 (by decide) (by decide) _ _).trans (K45_45 p0 p1 r h)
theorem O47_sound : cj Try.prog O47 := aV O46_sound (fun x r h => cb (ν := n46) (aW O46_sound) Try.func46 (by kernel_rfl) mixed (by kernel_rfl) (Nat.le_of_ble_eq_true (by kernel_rfl)) (r_wire_Encode O46 K41_46 K42_46 K43_46 K44_46 K46_46 K45_46 x r h))
theorem K47_47 : K_wire_Encode O47 := fun p0 r h => bZ (x := p0) inj4 h
theorem O48_sound : cj Try.prog O48 := aV O47_sound (fun x r h => cb (ν := n55) (aW O47_sound) Try.func55 (by kernel_rfl) mixed (by kernel_rfl) (Nat.le_of_ble_eq_true (by kernel_rfl)) (r_rrIn O47 x.1 x.2.1 x.2.2 r h))
theorem inj48 : ∀ x y, a48 x = a48 y → x = y := by
  rintro ⟨ua1, ua2, ua3⟩ ⟨ub1, ub2, ub3⟩ h
  simp only [a48, Prod.mk.injEq, List.cons.injEq, D.v.injEq, V.i.injEq, true_and, and_true] at h
  simp only [h]
theorem K48_48 : K_rrIn O48 := fun p0 p1 p2 r h => bZ (x := (p0, p1, p2)) inj48 h
theorem O49_sound : cj Try.prog O49 := aV O48_sound (fun x r h => cb (ν := n81) (aW O48_sound) Try.func81 (by kernel_rfl) mixed (by kernel_rfl) (Nat.le_of_ble_eq_true (by kernel_rfl)) (r_rrfieldMay O48 K48_48 x r h))
theorem K49_49 : K_rrfieldMay O49 := fun p0 r h => bZ (x := p0) inj6 h
theorem O50_sound : cj Try.prog O50 := aV O49_sound (fun x r h => cb (ν := n79) (aW O49_sound) Try.func79 (by kernel_rfl) mixed (by kernel_rfl) (Nat.le_of_ble_eq_true (by kernel_rfl)) (r_rrsizeOf O49 x r h))
theorem K50_50 : K_rrsizeOf O50 := fun p0 r h => bZ (x := p0) inj1 h
theorem O51_sound : cj Try.prog O51 := aV O50_sound (fun x r h => cb (ν := n80) (aW O50_sound) Try.func80 (by kernel_rfl) mixed (by kernel_rfl) (Nat.le_of_ble_eq_true (by kernel_rfl)) (r_rrtextMay O50 x r h))
theorem K51_51 : K_rrtextMay O51 := fun p0 r h => bZ (x := p0) inj6 h
theorem K48_51 : K_rrIn O51 := fun p0 p1 p2 r h => (jump 55 48 3 (by decide) (by decide) _ _).trans (K48_48 p0 p1 p2 r h)
theorem O52_sound : cj Try.prog O52 := aV O51_sound (fun x r h => cb (ν := n82) (aW O51_sound) Try.func82 (by kernel_rfl) mixed (by kernel_rfl) (Nat.le_of_ble_eq_true (by kernel_rfl)) (r_rrcountMay O51 K48_51 x r h))
theorem K52_52 : K_rrcountMay O52 := fun p0 r h => bZ (x := p0) inj17 h
theorem O53_sound : cj Try.prog O53 := aV O52_sound (fun x r h => cb (ν := n83) (aW O52_sound) Try.func83 (by kernel_rfl) mixed (by kernel_rfl) (Nat.le_of_ble_eq_true (by kernel_rfl)) (r_rrscoreAhead O52 x.1 x.2 r h))
theorem K53_53 : K_rrscoreAhead O53 := fun p0 p1 r h => bZ (x := (p0, p1)) inj29 h
theorem O54_sound : cj Try.prog O54 := aV O53_sound (fun x r h => cb (ν := n84) (aW O53_sound) Try.func84 (by kernel_rfl) mixed (by kernel_rfl) (Nat.le_of_ble_eq_true (by kernel_rfl)) (r_rrmemberAt O53 x.1 x.2 r h))
theorem K54_54 : K_rrmemberAt O54 := fun p0 p1 r h => bZ (x := (p0, p1)) inj34 h
theorem K48_54 : K_rrIn O54 := fun p0 p1 p2 r h => (jump 55 48 6 (by decide) (by decide) _ _).trans (K48_48 p0 p1 p2 r h)
theorem K50_54 : K_rrsizeOf O54 := fun p0 r h => (jump 79 50 4 (by decide) (by decide) _ _).trans (K50_50 p0 r h)
theorem K51_54 : K_rrtextMay O54 := fun p0 r h => (jump 80 51 3 (by decide) (by decide) _ _).trans (K51_51 p0 r h)
theorem K52_54 : K_rrcountMay O54 := fun p0 r h => (jump 82 52 2 (by decide) (by decide) _ _).trans (K52_52 p0 r h)
theorem K49_54 : K_rrfieldMay O54 := fun p0 r h => (jump 81 49 5 (by decide) (by decide) _ _).trans (K49_49 p0 r h)
theorem K53_54 : K_rrscoreAhead O54 := fun p0 p1 r h => (jump 83 53 1 (by decide) (by decide) _ _).trans (K53_53 p0 p1 r h)
theorem O55_sound : cj Try.prog O55 := aV O54_sound (fun x r h => cb (ν := n30) (aW O54_sound) Try.func30 (by kernel_rfl) mixed (by kernel_rfl) (Nat.le_of_ble_eq_true (by kernel_rfl)) (r_rrValueFault O54 K48_54 K50_54 K51_54 K52_54 K49_54 K53_54 K54_54 x r h))
theorem K55_55 : K_rrValueFault O55 := fun p0 r h => bZ (x := p0) inj1 h
theorem K48_55 : K_rrIn O55 := fun p0 p1 p2 r h => (jump 55 48 7 (by decide) (by decide) _ _).trans (K48_48 p0 p1 p2 r h)
theorem K49_55 : K_rrfieldMay O55 := fun p0 r h => (jump 81 49 6 (by decide) (by decide) _ _).trans (K49_49 p0 r h)
theorem O56_sound : cj Try.prog O56 := aV O55_sound (fun x r h => cb (ν := n36) (aW O55_sound) Try.func36 (by kernel_rfl) mixed (by kernel_rfl) (Nat.le_of_ble_eq_true (by kernel_rfl)) (r_rrStoreFault O55 K48_55 K49_55 K55_55 x r h))
theorem K56_56 : K_rrStoreFault O56 := fun p0 r h => bZ (x := p0) inj2 h
theorem K48_56 : K_rrIn O56 := fun p0 p1 p2 r h => (jump 55 48 8 (by decide) (by decide) _ _).trans (K48_48 p0 p1 p2 r h)
theorem O57_sound : cj Try.prog O57 := aV O56_sound (fun x r h => cb (ν := n91) (aW O56_sound) Try.func91 (by kernel_rfl) mixed (by kernel_rfl) (Nat.le_of_ble_eq_true (by kernel_rfl)) (r_rrnumberMay O56 K48_56 x r h))
theorem K57_57 : K_rrnumberMay O57 := fun p0 r h => bZ (x := p0) inj17 h
theorem K48_57 : K_rrIn O57 := fun p0 p1 p2 r h => (jump 55 48 9 (by decide) (by decide) _ _).trans (K48_48 p0 p1 p2 r h)
theorem K51_57 : K_rrtextMay O57 := fun p0 r h => (jump 80 51 6 (by decide) (by decide) _ _).trans (K51_51 p0 r h)
theorem K52_57 : K_rrcountMay O57 := fun p0 r h => (jump 82 52 5 (by decide) (by decide) _ _).trans (K52_52 p0 r h)
theorem O58_sound : cj Try.prog O58 := aV O57_sound (fun x r h => cb (ν := n92) (aW O57_sound) Try.func92 (by kernel_rfl) mixed (by kernel_rfl) (Nat.le_of_ble_eq_true (by kernel_rfl)) (r_rrReplyFault O57 K48_57 K51_57 K52_57 x r h))
theorem K58_58 : K_rrReplyFault O58 := fun p0 r h => bZ (x := p0) inj3 h
theorem K56_58 : K_rrStoreFault O58 := fun p0 r h => (jump 36 56 2 (by decide) (by decide) _ _).trans (K56_56 p0 r h)
theorem K48_58 : K_rrIn O58 := fun p0 p1 p2 r h => (jump 55 48 10 (by decide) (by decide) _ _).trans (K48_48 p0 p1 p2 r h)
theorem K57_58 : K_rrnumberMay O58 := fun p0 r h => (jump 91 57 1 (by decide) (by decide) _ _).trans (K57_57 p0 r h)
theorem O59_sound : cj Try.prog O59 := aV O58_sound (fun x r h => cb (ν := n42) (aW O58_sound) Try.func42 (by kernel_rfl) mixed (by kernel_rfl) (Nat.le_of_ble_eq_true (by kernel_rfl)) (r_rrMachineFault O58 K56_58 K48_58 K57_58 K58_58 x r h))
theorem K59_59 : K_rrMachineFault O59 := fun p0 r h => bZ (x := p0) inj4 h
theorem O60_sound : cj Try.prog O60 := aV O59_sound (fun x r h => cb (ν := n106) (aW O59_sound) Try.func106 (by kernel_rfl) mixed (by kernel_rfl) (Nat.le_of_ble_eq_true (by kernel_rfl)) (r_rreight O59 x r h))
theorem K60_60 : K_rreight O60 := fun p0 r h => bZ (x := p0) inj17 h
theorem O61_sound : cj Try.prog O61 := aV O60_sound (fun x r h => cb (ν := n105) (aW O60_sound) Try.func105 (by kernel_rfl) mixed (by kernel_rfl) (Nat.le_of_ble_eq_true (by kernel_rfl)) (r_rrjoined O60 x.1 x.2 r h))
theorem inj61 : ∀ x y, a61 x = a61 y → x = y := by
  rintro ⟨ua1, ua2⟩ ⟨ub1, ub2⟩ h
  simp only [a61, Prod.mk.injEq, List.cons.injEq, D.v.injEq, V.sl.injEq, bc, true_and, and_true] at h
  simp only [h]
theorem K61_61 : K_rrjoined O61 := fun p0 p1 r h => bZ (x := (p0, p1)) inj61 h
theorem O62_sound : cj Try.prog O62 := aV O61_sound (fun x r h => cb (ν := n107) (aW O61_sound) Try.func107 (by kernel_rfl) mixed (by kernel_rfl) (Nat.le_of_ble_eq_true (by kernel_rfl)) (r_rrtextBytes O61 K61_61 x r h))
theorem K62_62 : K_rrtextBytes O62 := fun p0 r h => bZ (x := p0) inj6 h
theorem K61_62 : K_rrjoined O62 := fun p0 p1 r h => (jump 105 61 1 (by decide) (by decide) _ _).trans (K61_61 p0 p1 r h)
theorem O63_sound : cj Try.prog O63 := aV O62_sound (fun x r h => cb (ν := n124) (aW O62_sound) Try.func124 (by kernel_rfl) mixed (by kernel_rfl) (Nat.le_of_ble_eq_true (by kernel_rfl)) (r_rrlistBytes O62 K62_62 K61_62 x r h))
theorem inj63 : ∀ x y, a63 x = a63 y → x = y := by
  rintro ua1 ub1 h
  simp only [a63, Prod.mk.injEq, List.cons.injEq, D.v.injEq, V.sl.injEq, aZ, true_and, and_true] at h
  exact h
theorem K63_63 : K_rrlistBytes O63 := fun p0 r h => bZ (x := p0) inj63 h
theorem K62_63 : K_rrtextBytes O63 := fun p0 r h => (jump 107 62 1 (by decide) (by decide) _ _).trans (K62_62 p0 r h)
theorem K60_63 : K_rreight O63 := fun p0 r h => (jump 106 60 3 (by decide) (by decide) _ _).trans (K60_60 p0 r h)
theorem K61_63 : K_rrjoined O63 := fun p0 p1 r h => (jump 105 61 2 (by decide) (by decide) _ _).trans (K61_61 p0 p1 r h)
theorem O64_sound : cj Try.prog O64 := aV O63_sound (fun x r h => cb (ν := n123) (aW O63_sound) Try.func123 (by kernel_rfl) mixed (by kernel_rfl) (Nat.le_of_ble_eq_true (by kernel_rfl)) (r_rrvalueBytes O63 K62_63 K60_63 K61_63 K63_63 x r h))
theorem K64_64 : K_rrvalueBytes O64 := fun p0 r h => bZ (x := p0) inj1 h
theorem K60_64 : K_rreight O64 := fun p0 r h => (jump 106 60 4 (by decide) (by decide) _ _).trans (K60_60 p0 r h)
theorem K61_64 : K_rrjoined O64 := fun p0 p1 r h => (jump 105 61 3 (by decide) (by decide) _ _).trans (K61_61 p0 p1 r h)
theorem K62_64 : K_rrtextBytes O64 := fun p0 r h => (jump 107 62 2 (by decide) (by decide) _ _).trans (K62_62 p0 r h)
theorem K63_64 : K_rrlistBytes O64 := fun p0 r h => (jump 124 63 1 (by decide) (by decide) _ _).trans (K63_63 p0 r h)
theorem O65_sound : cj Try.prog O65 := aV O64_sound (fun x r h => cb (ν := n99) (aW O64_sound) Try.func99 (by kernel_rfl) mixed (by kernel_rfl) (Nat.le_of_ble_eq_true (by kernel_rfl)) (r_rrmachineBytes O64 K60_64 K61_64 K62_64 K64_64 K63_64 x r h))
theorem K65_65 : K_rrmachineBytes O65 := fun p0 r h => bZ (x := p0) inj4 h
theorem K59_65 : K_rrMachineFault O65 := fun p0 r h => (jump 42 59 6 (by decide) (by decide) _ _).trans (K59_59 p0 r h)
theorem O66_sound : cj Try.prog O66 := aV O65_sound (fun x r h => cb (ν := n47) (aW O65_sound) Try.func47 (by kernel_rfl) mixed (by kernel_rfl) (Nat.le_of_ble_eq_true (by kernel_rfl)) (r_rrMachineBytes O65 K59_65 K65_65 x r h))
theorem K66_66 : K_rrMachineBytes O66 := fun p0 r h => bZ (x := p0) inj4 h
theorem O67_sound : cj Try.prog O67 := aV O66_sound (fun x r h => cb (ν := n126) (aW O66_sound) Try.func126 (by kernel_rfl) mixed (by kernel_rfl) (Nat.le_of_ble_eq_true (by kernel_rfl)) (r_rlsameTexts O66 x.1 x.2 r h))
theorem inj67 : ∀ x y, a67 x = a67 y → x = y := by
  rintro ⟨ua1, ua2⟩ ⟨ub1, ub2⟩ h
  simp only [a67, Prod.mk.injEq, List.cons.injEq, D.v.injEq, V.sl.injEq, aZ, true_and, and_true] at h
  simp only [h]
theorem K67_67 : K_rlsameTexts O67 := fun p0 p1 r h => bZ (x := (p0, p1)) inj67 h
theorem O68_sound : cj Try.prog O68 := aV O67_sound (fun x r h => cb (ν := n125) (aW O67_sound) Try.func125 (by kernel_rfl) mixed (by kernel_rfl) (Nat.le_of_ble_eq_true (by kernel_rfl)) (r_rlsameValue O67 K67_67 x.1 x.2 r h))
theorem inj68 : ∀ x y, a68 x = a68 y → x = y := by
  rintro ⟨⟨ua1, ua2, ua3, ua4, ua5, ua6⟩, ⟨ua7, ua8, ua9, ua10, ua11, ua12⟩⟩ ⟨⟨ub1, ub2, ub3, ub4, ub5, ub6⟩, ⟨ub7, ub8, ub9, ub10, ub11, ub12⟩⟩ h
  simp only [a68, Prod.mk.injEq, List.cons.injEq, D.v.injEq, D.agg.injEq, V.i.injEq, V.s.injEq, V.sl.injEq, aZ, GPair.map_inj, GScore.map_inj, true_and, and_true] at h
  simp only [h]
theorem K68_68 : K_rlsameValue O68 := fun p0 p1 r h => bZ (x := (p0, p1)) inj68 h
theorem O69_sound : cj Try.prog O69 := aV O68_sound (fun x r h => cb (ν := n100) (aW O68_sound) Try.func100 (by kernel_rfl) mixed (by kernel_rfl) (Nat.le_of_ble_eq_true (by kernel_rfl)) (r_rlsameStore O68 K68_68 x.1 x.2 r h))
theorem inj69 : ∀ x y, a69 x = a69 y → x = y := by
  rintro ⟨⟨ua1, ua2⟩, ⟨ua3, ua4⟩⟩ ⟨⟨ub1, ub2⟩, ⟨ub3, ub4⟩⟩ h
  simp only [a69, Prod.mk.injEq, List.cons.injEq, D.v.injEq, D.agg.injEq, V.i.injEq, V.sl.injEq, GEntry.map_inj, true_and, and_true] at h
  simp only [h]
theorem K69_69 : K_rlsameStore O69 := fun p0 p1 r h => bZ (x := (p0, p1)) inj69 h
theorem K67_69 : K_rlsameTexts O69 := fun p0 p1 r h => (jump 126 67 2 (by decide) (by decide) _ _).trans (K67_67 p0 p1 r h)
theorem O70_sound : cj Try.prog O70 := aV O69_sound (fun x r h => cb (ν := n101) (aW O69_sound) Try.func101 (by kernel_rfl) mixed (by kernel_rfl) (Nat.le_of_ble_eq_true (by kernel_rfl)) (r_rlsameReply O69 K67_69 x.1 x.2 r h))
theorem inj70 : ∀ x y, a70 x = a70 y → x = y := by
  rintro ⟨⟨ua1, ua2, ua3, ua4⟩, ⟨ua5, ua6, ua7, ua8⟩⟩ ⟨⟨ub1, ub2, ub3, ub4⟩, ⟨ub5, ub6, ub7, ub8⟩⟩ h
  simp only [a70, Prod.mk.injEq, List.cons.injEq, D.v.injEq, D.agg.injEq, V.i.injEq, V.s.injEq, V.sl.injEq, aZ, true_and, and_true] at h
  simp only [h]
theorem K70_70 : K_rlsameReply O70 := fun p0 p1 r h => bZ (x := (p0, p1)) inj70 h
theorem K69_70 : K_rlsameStore O70 := fun p0 p1 r h => (jump 100 69 1 (by decide) (by decide) _ _).trans (K69_69 p0 p1 r h)
theorem O71_sound : cj Try.prog O71 := aV O70_sound (fun x r h => cb (ν := n48) (aW O70_sound) Try.func48 (by kernel_rfl) mixed (by kernel_rfl) (Nat.le_of_ble_eq_true (by kernel_rfl)) (r_rlsameMachine O70 K69_70 K70_70 x.1 x.2 r h))
theorem inj71 : ∀ x y, a71 x = a71 y → x = y := by
  rintro ⟨⟨⟨ua1, ua2⟩, ua3, ua4⟩, ⟨⟨ua5, ua6⟩, ua7, ua8⟩⟩ ⟨⟨⟨ub1, ub2⟩, ub3, ub4⟩, ⟨⟨ub5, ub6⟩, ub7, ub8⟩⟩ h
  simp only [a71, Prod.mk.injEq, List.cons.injEq, D.v.injEq, D.agg.injEq, V.i.injEq, V.sl.injEq, GEntry.map_inj, GClient.map_inj, true_and, and_true] at h
  simp only [h]
theorem K71_71 : K_rlsameMachine O71 := fun p0 p1 r h => bZ (x := (p0, p1)) inj71 h
theorem K4_71 : K_rrMachineCopy_z O71 := fun p0 r h => (jump 41 4 67 (by decide) (by decide) _ _).trans (K4_4 p0 r h)
theorem K47_71 : K_wire_Encode O71 := fun p0 r h => (jump 46 47 24 (by decide) (by decide) _ _).trans (K47_47 p0 r h)
theorem K66_71 : K_rrMachineBytes O71 := fun p0 r h => (jump 47 66 5 (by decide) (by decide) _ _).trans (K66_66 p0 r h)
theorem sem (rs : List (List V)) (h : eC Try.prog [73] rs) : Mx.Sem Try.prog 14 (fD Try.prog [73] rs) [] (.v (.b true)) [] := by
  obtain ⟨r0, _, rfl, a0, b0⟩ := eC.cons h
  obtain rfl := eC.nil b0
  obtain ⟨x0, rfl, o0⟩ := GMachine.of73 a0
  simp only [fD, argD_struct Try.underlying73]
  exact cb (ν := n14) (aW O71_sound) Try.func14 (by kernel_rfl) mixed (by kernel_rfl) (Nat.le_of_ble_eq_true (by kernel_rfl)) (r_rlWireEncodes O71 K4_71 K47_71 K66_71 K71_71 x0 true (WireEncodes_pure x0 o0))
end CWireEncodes
end Go.Proofs.Ytnjkmbogbfjffaa
