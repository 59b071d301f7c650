/- The chain of contracts of the law WireDecodes, over the functions that it reaches. -/
import Derived.Test.YtgcglmoogaldbaaWireDecodesZa
import Derived.Test.YtgcglmoogaldbaaWireDecodesZb
import Derived.Test.YtgcglmoogaldbaaWireDecodesZc
import Derived.Test.YtgcglmoogaldbaaWireDecodesZd
import Derived.Test.YtgcglmoogaldbaaWireDecodesD
import Derived.Test.YtgcglmoogaldbaaWireDecodesP
set_option linter.unusedSimpArgs false
set_option linter.unusedVariables false
set_option linter.constructorNameAsVariable false
set_option linter.unnecessarySimpa false
set_option maxRecDepth 100000
namespace Go.Proofs.Ytgcglmoogaldbaa
open Go Go.Mx Go.Proofs
namespace CWireDecodes
theorem argD_slice {P:Program} {t e:TypeId} {x:V} (hu:P.underlying t=some (.slice e)):argD P t [x]= .v x:=by simp only [argD,hu]
theorem argD_str {P:Program} {t:TypeId} {x:V} (hu:P.underlying t=some .string):argD P t [x]= .v x:=by simp only [argD,hu]
def a1 (x:(List Int)):List D×bH:=([.v (.sl 1 (ah cE x))],[])
noncomputable def O1:aj:=aj.addF noC 8 a1 (fun x=>rloctets_z x) (fun _ (r:(List Int))=>(.v (.sl 1 (ah cE r)),[]))
noncomputable def O2:aj:=aj.addF O1 23 a1 (fun x=>sKbyte_byte_z x) (fun _ (r:(List Int))=>(.v (.sl 1 (ah cE r)),[]))
def a3 (x:Int×Greader):List D×bH:=([.ptr 0 0,.v (.i .i64 x.1)],[[.v (.sl 1 (ah cE x.2.frest)),.v (.b x.2.fshort)]])
noncomputable def O3:aj:=aj.addF O2 67 a3 (fun x=>wrtake x.1 x.2) (fun _ (r:(List Int)×Greader)=>(.v (.sl 1 (ah cE r.1)),[[.v (.sl 1 (ah cE r.2.frest)),.v (.b r.2.fshort)]]))
def a4 (x:Greader):List D×bH:=([.ptr 0 0],[[.v (.sl 1 (ah cE x.frest)),.v (.b x.fshort)]])
noncomputable def O4:aj:=aj.addF O3 24 a4 (fun x=>wrnumber x) (fun _ (r:Int×Greader)=>(.v (.i .i64 r.1),[[.v (.sl 1 (ah cE r.2.frest)),.v (.b r.2.fshort)]]))
noncomputable def O5:aj:=aj.addF O4 30 a4 (fun x=>wrsmall x) (fun _ (r:Int×Greader)=>(.v (.i .i64 r.1),[[.v (.sl 1 (ah cE r.2.frest)),.v (.b r.2.fshort)]]))
noncomputable def O6:aj:=aj.addF O5 27 a4 (fun x=>wrtext x) (fun _ (r:ByteArray×Greader)=>(.v (.s r.1),[[.v (.sl 1 (ah cE r.2.frest)),.v (.b r.2.fshort)]]))
def a7 (x:Greader×GValue):List D×bH:=([.ptr 1 0,.ptr 2 0],[[.v (.sl 1 (ah cE x.1.frest)),.v (.b x.1.fshort)],[.v (.i .i64 x.2.fKind),.v (.s x.2.fText),.v (.i .i64 x.2.fCount),.own 2 (ah GPair.row x.2.fPairs),.own 1 (ah bY x.2.fItems),.own 2 (ah GScore.row x.2.fScores)],[.ptr 0 0]])
noncomputable def O7:aj:=aj.addF O6 68 a7 (fun x=>wrvalue_fn1 x.1 x.2) (fun _ (r:Greader×GValue)=>(.tup [],[[.v (.sl 1 (ah cE r.1.frest)),.v (.b r.1.fshort)],[.v (.i .i64 r.2.fKind),.v (.s r.2.fText),.v (.i .i64 r.2.fCount),.own 2 (ah GPair.row r.2.fPairs),.own 1 (ah bY r.2.fItems),.own 2 (ah GScore.row r.2.fScores)],[.ptr 0 0]]))
def a8 (x:Greader×GValue):List D×bH:=([.ptr 0 0,.clo 68 [.ptr 1 0,.ptr 2 0]],[[.v (.sl 1 (ah cE x.1.frest)),.v (.b x.1.fshort)],[.v (.i .i64 x.2.fKind),.v (.s x.2.fText),.v (.i .i64 x.2.fCount),.own 2 (ah GPair.row x.2.fPairs),.own 1 (ah bY x.2.fItems),.own 2 (ah GScore.row x.2.fScores)],[.ptr 0 0]])
noncomputable def O8:aj:=aj.addF O7 25 a8 (fun x=>wreach_wrvalue_fn1 x.1 x.2) (fun _ (r:Greader×GValue)=>(.tup [],[[.v (.sl 1 (ah cE r.1.frest)),.v (.b r.1.fshort)],[.v (.i .i64 r.2.fKind),.v (.s r.2.fText),.v (.i .i64 r.2.fCount),.own 2 (ah GPair.row r.2.fPairs),.own 1 (ah bY r.2.fItems),.own 2 (ah GScore.row r.2.fScores)],[.ptr 0 0]]))
def a9 (x:Greader×(List ByteArray)):List D×bH:=([.ptr 1 0,.ptr 2 0],[[.v (.sl 1 (ah cE x.1.frest)),.v (.b x.1.fshort)],[.own 1 (ah bY x.2)],[.ptr 0 0]])
noncomputable def O9:aj:=aj.addF O8 70 a9 (fun x=>wrtexts_fn1 x.1 x.2) (fun _ (r:Greader×(List ByteArray))=>(.tup [],[[.v (.sl 1 (ah cE r.1.frest)),.v (.b r.1.fshort)],[.own 1 (ah bY r.2)],[.ptr 0 0]]))
def a10 (x:Greader×(List ByteArray)):List D×bH:=([.ptr 0 0,.clo 70 [.ptr 1 0,.ptr 2 0]],[[.v (.sl 1 (ah cE x.1.frest)),.v (.b x.1.fshort)],[.own 1 (ah bY x.2)],[.ptr 0 0]])
noncomputable def O10:aj:=aj.addF O9 25 a10 (fun x=>wreach_wrtexts_fn1 x.1 x.2) (fun _ (r:Greader×(List ByteArray))=>(.tup [],[[.v (.sl 1 (ah cE r.1.frest)),.v (.b r.1.fshort)],[.own 1 (ah bY r.2)],[.ptr 0 0]]))
noncomputable def O11:aj:=aj.addF O10 31 a4 (fun x=>wrtexts x) (fun _ (r:(List ByteArray)×Greader)=>(.own 1 (ah bY r.1),[[.v (.sl 1 (ah cE r.2.frest)),.v (.b r.2.fshort)]]))
noncomputable def O12:aj:=aj.addF O11 69 a7 (fun x=>wrvalue_fn2 x.1 x.2) (fun _ (r:Greader×GValue)=>(.tup [],[[.v (.sl 1 (ah cE r.1.frest)),.v (.b r.1.fshort)],[.v (.i .i64 r.2.fKind),.v (.s r.2.fText),.v (.i .i64 r.2.fCount),.own 2 (ah GPair.row r.2.fPairs),.own 1 (ah bY r.2.fItems),.own 2 (ah GScore.row r.2.fScores)],[.ptr 0 0]]))
def a13 (x:Greader×GValue):List D×bH:=([.ptr 0 0,.clo 69 [.ptr 1 0,.ptr 2 0]],[[.v (.sl 1 (ah cE x.1.frest)),.v (.b x.1.fshort)],[.v (.i .i64 x.2.fKind),.v (.s x.2.fText),.v (.i .i64 x.2.fCount),.own 2 (ah GPair.row x.2.fPairs),.own 1 (ah bY x.2.fItems),.own 2 (ah GScore.row x.2.fScores)],[.ptr 0 0]])
noncomputable def O13:aj:=aj.addF O12 25 a13 (fun x=>wreach_wrvalue_fn2 x.1 x.2) (fun _ (r:Greader×GValue)=>(.tup [],[[.v (.sl 1 (ah cE r.1.frest)),.v (.b r.1.fshort)],[.v (.i .i64 r.2.fKind),.v (.s r.2.fText),.v (.i .i64 r.2.fCount),.own 2 (ah GPair.row r.2.fPairs),.own 1 (ah bY r.2.fItems),.own 2 (ah GScore.row r.2.fScores)],[.ptr 0 0]]))
noncomputable def O14:aj:=aj.addF O13 28 a4 (fun x=>wrvalue x) (fun _ (r:GValue×Greader)=>(.agg [.v (.i .i64 r.1.fKind),.v (.s r.1.fText),.v (.i .i64 r.1.fCount),.own 2 (ah GPair.row r.1.fPairs),.own 1 (ah bY r.1.fItems),.own 2 (ah GScore.row r.1.fScores)],[[.v (.sl 1 (ah cE r.2.frest)),.v (.b r.2.fshort)]]))
def a15 (x:Greader×GMachine):List D×bH:=([.ptr 1 0,.ptr 2 0],[[.v (.sl 1 (ah cE x.1.frest)),.v (.b x.1.fshort)],[.v (.i .i64 x.2.fStore.fNow),.own 8 (ah GEntry.row x.2.fStore.fEntries),.v (.i .i64 x.2.fNext),.own 7 (ah GClient.row x.2.fClients)],[.ptr 0 0]])
noncomputable def O15:aj:=aj.addF O14 26 a15 (fun x=>wire_Decode_fn1 x.1 x.2) (fun _ (r:Greader×GMachine)=>(.tup [],[[.v (.sl 1 (ah cE r.1.frest)),.v (.b r.1.fshort)],[.v (.i .i64 r.2.fStore.fNow),.own 8 (ah GEntry.row r.2.fStore.fEntries),.v (.i .i64 r.2.fNext),.own 7 (ah GClient.row r.2.fClients)],[.ptr 0 0]]))
def a16 (x:Greader×GMachine):List D×bH:=([.ptr 0 0,.clo 26 [.ptr 1 0,.ptr 2 0]],[[.v (.sl 1 (ah cE x.1.frest)),.v (.b x.1.fshort)],[.v (.i .i64 x.2.fStore.fNow),.own 8 (ah GEntry.row x.2.fStore.fEntries),.v (.i .i64 x.2.fNext),.own 7 (ah GClient.row x.2.fClients)],[.ptr 0 0]])
noncomputable def O16:aj:=aj.addF O15 25 a16 (fun x=>wreach_wire_Decode_fn1 x.1 x.2) (fun _ (r:Greader×GMachine)=>(.tup [],[[.v (.sl 1 (ah cE r.1.frest)),.v (.b r.1.fshort)],[.v (.i .i64 r.2.fStore.fNow),.own 8 (ah GEntry.row r.2.fStore.fEntries),.v (.i .i64 r.2.fNext),.own 7 (ah GClient.row r.2.fClients)],[.ptr 0 0]]))
def a17 (x:Greader×GMachine):List D×bH:=([.ptr 1 0,.ptr 2 0],[[.v (.sl 1 (ah cE x.1.frest)),.v (.b x.1.fshort)],[.ptr 0 0],[.v (.i .i64 x.2.fStore.fNow),.own 8 (ah GEntry.row x.2.fStore.fEntries),.v (.i .i64 x.2.fNext),.own 7 (ah GClient.row x.2.fClients)]])
noncomputable def O17:aj:=aj.addF O16 29 a17 (fun x=>wire_Decode_fn2 x.1 x.2) (fun _ (r:Greader×GMachine)=>(.tup [],[[.v (.sl 1 (ah cE r.1.frest)),.v (.b r.1.fshort)],[.ptr 0 0],[.v (.i .i64 r.2.fStore.fNow),.own 8 (ah GEntry.row r.2.fStore.fEntries),.v (.i .i64 r.2.fNext),.own 7 (ah GClient.row r.2.fClients)]]))
def a18 (x:Greader×GMachine):List D×bH:=([.ptr 0 0,.clo 29 [.ptr 1 0,.ptr 2 0]],[[.v (.sl 1 (ah cE x.1.frest)),.v (.b x.1.fshort)],[.ptr 0 0],[.v (.i .i64 x.2.fStore.fNow),.own 8 (ah GEntry.row x.2.fStore.fEntries),.v (.i .i64 x.2.fNext),.own 7 (ah GClient.row x.2.fClients)]])
noncomputable def O18:aj:=aj.addF O17 25 a18 (fun x=>wreach_wire_Decode_fn2 x.1 x.2) (fun _ (r:Greader×GMachine)=>(.tup [],[[.v (.sl 1 (ah cE r.1.frest)),.v (.b r.1.fshort)],[.ptr 0 0],[.v (.i .i64 r.2.fStore.fNow),.own 8 (ah GEntry.row r.2.fStore.fEntries),.v (.i .i64 r.2.fNext),.own 7 (ah GClient.row r.2.fClients)]]))
def a19 (x:Bool×Greader):List D×bH:=([.ptr 0 0,.v (.b x.1)],[[.v (.sl 1 (ah cE x.2.frest)),.v (.b x.2.fshort)]])
noncomputable def O19:aj:=aj.addF O18 32 a19 (fun x=>wrend x.1 x.2) (fun _ (r:Int×Greader)=>(.v (.i .i64 r.1),[[.v (.sl 1 (ah cE r.2.frest)),.v (.b r.2.fshort)]]))
def a20 (x:GValue):List D×bH:=([.agg [.v (.i .i64 x.fKind),.v (.s x.fText),.v (.i .i64 x.fCount),.v (.sl 2 (ah GPair.row x.fPairs)),.v (.sl 1 (ah bY x.fItems)),.v (.sl 2 (ah GScore.row x.fScores))]],[])
noncomputable def O20:aj:=aj.addF O19 114 a20 (fun x=>value_elements x) (fun _ (r:Int)=>(.v (.i .i64 r),[]))
def a21 (x:ByteArray):List D×bH:=([.v (.s x)],[])
noncomputable def O21:aj:=aj.addF O20 115 a21 (fun x=>value_text x) (fun _ (r:Bool)=>(.v (.b r),[]))
noncomputable def O22:aj:=aj.addF O21 116 a21 (fun x=>vaC_fn1 x) (fun _ (r:Bool)=>(.v (.b r),[]))
def a23 (x:(List ByteArray)):List D×bH:=([.v (.sl 1 (ah bY x)),.clo 116 []],[])
noncomputable def O23:aj:=aj.addF O22 131 a23 (fun x=>sISvaC_fn1 x) (fun _ (r:Int)=>(.v (.i .i64 r),[]))
noncomputable def O24:aj:=aj.addF O23 91 a23 (fun x=>sCSvaC_fn1 x) (fun _ (r:Bool)=>(.v (.b r),[]))
noncomputable def O25:aj:=aj.addF O24 119 a21 (fun x=>value_field x) (fun _ (r:Bool)=>(.v (.b r),[]))
def a26 (x:GPair):List D×bH:=([.agg [.v (.s x.fField),.v (.s x.fText)]],[])
noncomputable def O26:aj:=aj.addF O25 118 a26 (fun x=>vaC_fn2 x) (fun _ (r:Bool)=>(.v (.b r),[]))
def a27 (x:(List GPair)):List D×bH:=([.v (.sl 2 (ah GPair.row x)),.clo 118 []],[])
noncomputable def O27:aj:=aj.addF O26 136 a27 (fun x=>sIPvaC_fn2 x) (fun _ (r:Int)=>(.v (.i .i64 r),[]))
noncomputable def O28:aj:=aj.addF O27 117 a27 (fun x=>sCPvaC_fn2 x) (fun _ (r:Bool)=>(.v (.b r),[]))
def a29 (x:GScore):List D×bH:=([.agg [.v (.s x.fMember),.v (.i .i64 x.fN)]],[])
noncomputable def O29:aj:=aj.addF O28 121 a29 (fun x=>vaC_fn3 x) (fun _ (r:Bool)=>(.v (.b r),[]))
def a30 (x:(List GScore)):List D×bH:=([.v (.sl 2 (ah GScore.row x)),.clo 121 []],[])
noncomputable def O30:aj:=aj.addF O29 137 a30 (fun x=>sIRvaC_fn3 x) (fun _ (r:Int)=>(.v (.i .i64 r),[]))
noncomputable def O31:aj:=aj.addF O30 120 a30 (fun x=>sCRvaC_fn3 x) (fun _ (r:Bool)=>(.v (.b r),[]))
def a32 (x:Int):List D×bH:=([.v (.i .i64 x)],[])
noncomputable def O32:aj:=aj.addF O31 122 a32 (fun x=>value_count x) (fun _ (r:Bool)=>(.v (.b r),[]))
noncomputable def O33:aj:=aj.addF O32 123 a29 (fun x=>vaC_fn4 x) (fun _ (r:Bool)=>(.v (.b r),[]))
def a34 (x:(List GScore)):List D×bH:=([.v (.sl 2 (ah GScore.row x)),.clo 123 []],[])
noncomputable def O34:aj:=aj.addF O33 137 a34 (fun x=>sIRvaC_fn4 x) (fun _ (r:Int)=>(.v (.i .i64 r),[]))
noncomputable def O35:aj:=aj.addF O34 120 a34 (fun x=>sCRvaC_fn4 x) (fun _ (r:Bool)=>(.v (.b r),[]))
def a36 (x:ByteArray×ByteArray):List D×bH:=([.v (.s x.1),.v (.s x.2)],[])
noncomputable def O36:aj:=aj.addF O35 144 a36 (fun x=>cmpstring x.1 x.2) (fun _ (r:Int)=>(.v (.i .i64 r),[]))
noncomputable def O37:aj:=aj.addF O36 140 a36 (fun x=>ibCompareString x.1 x.2) (fun _ (r:Int)=>(.v (.i .i64 r),[]))
noncomputable def O38:aj:=aj.addF O37 129 a36 (fun x=>strings_Compare x.1 x.2) (fun _ (r:Int)=>(.v (.i .i64 r),[]))
def a39 (x:GPair×GPair):List D×bH:=([.agg [.v (.s x.1.fField),.v (.s x.1.fText)],.agg [.v (.s x.2.fField),.v (.s x.2.fText)]],[])
noncomputable def O39:aj:=aj.addF O38 125 a39 (fun x=>value_byField x.1 x.2) (fun _ (r:Int)=>(.v (.i .i64 r),[]))
def a40 (x:(List GPair)):List D×bH:=([.v (.sl 2 (ah GPair.row x)),.clo 125 []],[])
noncomputable def O40:aj:=aj.addF O39 124 a40 (fun x=>value_rising_Pair_value_byField x) (fun _ (r:Bool)=>(.v (.b r),[]))
noncomputable def O41:aj:=aj.addF O40 143 a32 (fun x=>cmp_isNaN_int x) (fun _ (r:Bool)=>(.v (.b r),[]))
def a42 (x:Int×Int):List D×bH:=([.v (.i .i64 x.1),.v (.i .i64 x.2)],[])
noncomputable def O42:aj:=aj.addF O41 139 a42 (fun x=>cmp_Compare_int x.1 x.2) (fun _ (r:Int)=>(.v (.i .i64 r),[]))
def a43 (x:(List Int)):List D×bH:=([.v (.sl 1 (ah rowI x))],[])
noncomputable def O43:aj:=aj.addF O42 138 a43 (fun x=>cmp_Or_int x) (fun _ (r:Int)=>(.v (.i .i64 r),[]))
def a44 (x:GScore×GScore):List D×bH:=([.agg [.v (.s x.1.fMember),.v (.i .i64 x.1.fN)],.agg [.v (.s x.2.fMember),.v (.i .i64 x.2.fN)]],[])
noncomputable def O44:aj:=aj.addF O43 127 a44 (fun x=>value_byScore x.1 x.2) (fun _ (r:Int)=>(.v (.i .i64 r),[]))
def a45 (x:(List GScore)):List D×bH:=([.v (.sl 2 (ah GScore.row x)),.clo 127 []],[])
noncomputable def O45:aj:=aj.addF O44 126 a45 (fun x=>value_rising_Score_value_byScore x) (fun _ (r:Bool)=>(.v (.b r),[]))
def a46 (x:(List ByteArray)):List D×bH:=([.v (.sl 1 (ah bY x)),.clo 129 []],[])
noncomputable def O46:aj:=aj.addF O45 128 a46 (fun x=>value_rising_string_strings_Compare x) (fun _ (r:Bool)=>(.v (.b r),[]))
def a47 (x:GScore×ByteArray):List D×bH:=([.agg [.v (.s x.1.fMember),.v (.i .i64 x.1.fN)],.ptr 0 0],[[.v (.s x.2)]])
noncomputable def O47:aj:=aj.addF O46 141 a47 (fun x=>value_rank_fn1 x.1 x.2) (fun _ (r:Bool×ByteArray)=>(.v (.b r.1),[[.v (.s r.2)]]))
def a48 (x:(List GScore)×ByteArray):List D×bH:=([.v (.sl 2 (ah GScore.row x.1)),.clo 141 [.ptr 0 0]],[[.v (.s x.2)]])
noncomputable def O48:aj:=aj.addF O47 137 a48 (fun x=>sIRvalue_rank_fn1 x.1 x.2) (fun _ (r:Int×ByteArray)=>(.v (.i .i64 r.1),[[.v (.s r.2)]]))
def a49 (x:(List GScore)×ByteArray):List D×bH:=([.v (.sl 2 (ah GScore.row x.1)),.v (.s x.2)],[])
noncomputable def O49:aj:=aj.addF O48 130 a49 (fun x=>value_rank x.1 x.2) (fun _ (r:Int)=>(.v (.i .i64 r),[]))
noncomputable def O50:aj:=aj.addF O49 90 a20 (fun x=>vaC x) (fun _ (r:Int)=>(.v (.i .i64 r),[]))
def a51 (x:GStore):List D×bH:=([.agg [.v (.i .i64 x.fNow),.v (.sl 8 (ah GEntry.row x.fEntries))]],[])
noncomputable def O51:aj:=aj.addF O50 71 a51 (fun x=>store_Check x) (fun _ (r:Int)=>(.v (.i .i64 r),[]))
noncomputable def O52:aj:=aj.addF O51 92 a21 (fun x=>clCReply_fn1 x) (fun _ (r:Bool)=>(.v (.b r),[]))
def a53 (x:(List ByteArray)):List D×bH:=([.v (.sl 1 (ah bY x)),.clo 92 []],[])
noncomputable def O53:aj:=aj.addF O52 131 a53 (fun x=>sISclCReply_fn1 x) (fun _ (r:Int)=>(.v (.i .i64 r),[]))
noncomputable def O54:aj:=aj.addF O53 91 a53 (fun x=>sCSclCReply_fn1 x) (fun _ (r:Bool)=>(.v (.b r),[]))
def a55 (x:GReply):List D×bH:=([.agg [.v (.i .i64 x.fCode),.v (.s x.fText),.v (.i .i64 x.fN),.v (.sl 1 (ah bY x.fList))]],[])
noncomputable def O55:aj:=aj.addF O54 72 a55 (fun x=>clCReply x) (fun _ (r:Int)=>(.v (.i .i64 r),[]))
def a56 (x:GMachine):List D×bH:=([.agg [.v (.i .i64 x.fStore.fNow),.v (.sl 8 (ah GEntry.row x.fStore.fEntries)),.v (.i .i64 x.fNext),.v (.sl 7 (ah GClient.row x.fClients))]],[])
noncomputable def O56:aj:=aj.addF O55 33 a56 (fun x=>clC x) (fun _ (r:Int)=>(.v (.i .i64 r),[]))
noncomputable def O57:aj:=aj.addF O56 7 a1 (fun x=>wire_Decode x) (fun _ (r:GMachine×Int)=>(.tup [.agg [.v (.i .i64 r.1.fStore.fNow),.v (.sl 8 (ah GEntry.row r.1.fStore.fEntries)),.v (.i .i64 r.1.fNext),.v (.sl 7 (ah GClient.row r.1.fClients))],.v (.i .i64 r.2)],[]))
def a58 (x:Gscan):List D×bH:=([.ptr 0 0],[[.v (.sl 1 (ah cE x.fb)),.v (.i .i64 x.fat)]])
noncomputable def O58:aj:=aj.addF O57 35 a58 (fun x=>rrscan_next x) (fun _ (r:Int×Gscan)=>(.v (.i .i64 r.1),[[.v (.sl 1 (ah cE r.2.fb)),.v (.i .i64 r.2.fat)]]))
noncomputable def O59:aj:=aj.addF O58 34 a58 (fun x=>rrscan_long x) (fun _ (r:Int×Gscan)=>(.v (.i .i64 r.1),[[.v (.sl 1 (ah cE r.2.fb)),.v (.i .i64 r.2.fat)]]))
noncomputable def O60:aj:=aj.addF O59 36 a58 (fun x=>rrscan_over x) (fun _ (r:Bool×Gscan)=>(.v (.b r.1),[[.v (.sl 1 (ah cE r.2.fb)),.v (.i .i64 r.2.fat)]]))
def a61 (x:Bool×Gscan):List D×bH:=([.ptr 0 0,.v (.b x.1)],[[.v (.sl 1 (ah cE x.2.fb)),.v (.i .i64 x.2.fat)]])
noncomputable def O61:aj:=aj.addF O60 40 a61 (fun x=>rrscan_end x.1 x.2) (fun _ (r:Int×Gscan)=>(.v (.i .i64 r.1),[[.v (.sl 1 (ah cE r.2.fb)),.v (.i .i64 r.2.fat)]]))
def a62 (x:Int×Int×Int):List D×bH:=([.v (.i .i64 x.1),.v (.i .i64 x.2.1),.v (.i .i64 x.2.2)],[])
noncomputable def O62:aj:=aj.addF O61 48 a62 (fun x=>rrIn x.1 x.2.1 x.2.2) (fun _ (r:Bool)=>(.v (.b r),[]))
noncomputable def O63:aj:=aj.addF O62 93 a21 (fun x=>rrfieldMay x) (fun _ (r:Bool)=>(.v (.b r),[]))
noncomputable def O64:aj:=aj.addF O63 132 a20 (fun x=>rrsizeOf x) (fun _ (r:Int)=>(.v (.i .i64 r),[]))
noncomputable def O65:aj:=aj.addF O64 95 a21 (fun x=>rrtextMay x) (fun _ (r:Bool)=>(.v (.b r),[]))
noncomputable def O66:aj:=aj.addF O65 96 a32 (fun x=>rrcountMay x) (fun _ (r:Bool)=>(.v (.b r),[]))
noncomputable def O67:aj:=aj.addF O66 133 a44 (fun x=>rrscoreAhead x.1 x.2) (fun _ (r:Bool)=>(.v (.b r),[]))
noncomputable def O68:aj:=aj.addF O67 134 a49 (fun x=>rrmemberAt x.1 x.2) (fun _ (r:Int)=>(.v (.i .i64 r),[]))
noncomputable def O69:aj:=aj.addF O68 94 a20 (fun x=>rrValueFault x) (fun _ (r:Int)=>(.v (.i .i64 r),[]))
noncomputable def O70:aj:=aj.addF O69 73 a51 (fun x=>rrStoreFault x) (fun _ (r:Int)=>(.v (.i .i64 r),[]))
noncomputable def O71:aj:=aj.addF O70 51 a32 (fun x=>rrnumberMay x) (fun _ (r:Bool)=>(.v (.b r),[]))
noncomputable def O72:aj:=aj.addF O71 74 a55 (fun x=>rrReplyFault x) (fun _ (r:Int)=>(.v (.i .i64 r),[]))
noncomputable def O73:aj:=aj.addF O72 41 a56 (fun x=>rrMachineFault x) (fun _ (r:Int)=>(.v (.i .i64 r),[]))
noncomputable def O74:aj:=aj.addF O73 37 a58 (fun x=>rrscan_str x) (fun _ (r:ByteArray×Gscan)=>(.v (.s r.1),[[.v (.sl 1 (ah cE r.2.fb)),.v (.i .i64 r.2.fat)]]))
noncomputable def O75:aj:=aj.addF O74 39 a58 (fun x=>rrscan_strs x) (fun _ (r:(List ByteArray)×Gscan)=>(.own 1 (ah bY r.1),[[.v (.sl 1 (ah cE r.2.fb)),.v (.i .i64 r.2.fat)]]))
noncomputable def O76:aj:=aj.addF O75 38 a58 (fun x=>rrscan_valueNext x) (fun _ (r:GValue×Gscan)=>(.agg [.v (.i .i64 r.1.fKind),.v (.s r.1.fText),.v (.i .i64 r.1.fCount),.own 2 (ah GPair.row r.1.fPairs),.own 1 (ah bY r.1.fItems),.own 2 (ah GScore.row r.1.fScores)],[[.v (.sl 1 (ah cE r.2.fb)),.v (.i .i64 r.2.fat)]]))
noncomputable def O77:aj:=aj.addF O76 9 a1 (fun x=>rrMachineOf x) (fun _ (r:GMachine×Int)=>(.tup [.agg [.v (.i .i64 r.1.fStore.fNow),.v (.sl 8 (ah GEntry.row r.1.fStore.fEntries)),.v (.i .i64 r.1.fNext),.v (.sl 7 (ah GClient.row r.1.fClients))],.v (.i .i64 r.2)],[]))
def a78 (x:(List ByteArray)×(List ByteArray)):List D×bH:=([.v (.sl 1 (ah bY x.1)),.v (.sl 1 (ah bY x.2))],[])
noncomputable def O78:aj:=aj.addF O77 76 a78 (fun x=>rlsameTexts x.1 x.2) (fun _ (r:Bool)=>(.v (.b r),[]))
def a79 (x:GValue×GValue):List D×bH:=([.agg [.v (.i .i64 x.1.fKind),.v (.s x.1.fText),.v (.i .i64 x.1.fCount),.v (.sl 2 (ah GPair.row x.1.fPairs)),.v (.sl 1 (ah bY x.1.fItems)),.v (.sl 2 (ah GScore.row x.1.fScores))],.agg [.v (.i .i64 x.2.fKind),.v (.s x.2.fText),.v (.i .i64 x.2.fCount),.v (.sl 2 (ah GPair.row x.2.fPairs)),.v (.sl 1 (ah bY x.2.fItems)),.v (.sl 2 (ah GScore.row x.2.fScores))]],[])
noncomputable def O79:aj:=aj.addF O78 75 a79 (fun x=>rlsameValue x.1 x.2) (fun _ (r:Bool)=>(.v (.b r),[]))
def a80 (x:GStore×GStore):List D×bH:=([.agg [.v (.i .i64 x.1.fNow),.v (.sl 8 (ah GEntry.row x.1.fEntries))],.agg [.v (.i .i64 x.2.fNow),.v (.sl 8 (ah GEntry.row x.2.fEntries))]],[])
noncomputable def O80:aj:=aj.addF O79 42 a80 (fun x=>rlsameStore x.1 x.2) (fun _ (r:Bool)=>(.v (.b r),[]))
def a81 (x:GReply×GReply):List D×bH:=([.agg [.v (.i .i64 x.1.fCode),.v (.s x.1.fText),.v (.i .i64 x.1.fN),.v (.sl 1 (ah bY x.1.fList))],.agg [.v (.i .i64 x.2.fCode),.v (.s x.2.fText),.v (.i .i64 x.2.fN),.v (.sl 1 (ah bY x.2.fList))]],[])
noncomputable def O81:aj:=aj.addF O80 43 a81 (fun x=>rlsameReply x.1 x.2) (fun _ (r:Bool)=>(.v (.b r),[]))
def a82 (x:GMachine×GMachine):List D×bH:=([.agg [.v (.i .i64 x.1.fStore.fNow),.v (.sl 8 (ah GEntry.row x.1.fStore.fEntries)),.v (.i .i64 x.1.fNext),.v (.sl 7 (ah GClient.row x.1.fClients))],.agg [.v (.i .i64 x.2.fStore.fNow),.v (.sl 8 (ah GEntry.row x.2.fStore.fEntries)),.v (.i .i64 x.2.fNext),.v (.sl 7 (ah GClient.row x.2.fClients))]],[])
noncomputable def O82:aj:=aj.addF O81 10 a82 (fun x=>rlsameMachine x.1 x.2) (fun _ (r:Bool)=>(.v (.b r),[]))
def FF:Nat→Nat
 |1=>8
 |2=>23
 |3=>67
 |4=>24
 |5=>30
 |6=>27
 |7=>68
 |8=>25
 |9=>70
 |10=>25
 |11=>31
 |12=>69
 |13=>25
 |14=>28
 |15=>26
 |16=>25
 |17=>29
 |18=>25
 |19=>32
 |20=>114
 |21=>115
 |22=>116
 |23=>131
 |24=>91
 |25=>119
 |26=>118
 |27=>136
 |28=>117
 |29=>121
 |30=>137
 |31=>120
 |32=>122
 |33=>123
 |34=>137
 |35=>120
 |36=>144
 |37=>140
 |38=>129
 |39=>125
 |40=>124
 |41=>143
 |42=>139
 |43=>138
 |44=>127
 |45=>126
 |46=>128
 |47=>141
 |48=>137
 |49=>130
 |50=>90
 |51=>71
 |52=>92
 |53=>131
 |54=>91
 |55=>72
 |56=>33
 |57=>7
 |58=>35
 |59=>34
 |60=>36
 |61=>40
 |62=>48
 |63=>93
 |64=>132
 |65=>95
 |66=>96
 |67=>133
 |68=>134
 |69=>94
 |70=>73
 |71=>51
 |72=>74
 |73=>41
 |74=>37
 |75=>39
 |76=>38
 |77=>9
 |78=>76
 |79=>75
 |80=>42
 |81=>43
 |82=>10
 |_=>0
noncomputable def OO:Nat→aj
 |0=>noC
 |1=>O1
 |2=>O2
 |3=>O3
 |4=>O4
 |5=>O5
 |6=>O6
 |7=>O7
 |8=>O8
 |9=>O9
 |10=>O10
 |11=>O11
 |12=>O12
 |13=>O13
 |14=>O14
 |15=>O15
 |16=>O16
 |17=>O17
 |18=>O18
 |19=>O19
 |20=>O20
 |21=>O21
 |22=>O22
 |23=>O23
 |24=>O24
 |25=>O25
 |26=>O26
 |27=>O27
 |28=>O28
 |29=>O29
 |30=>O30
 |31=>O31
 |32=>O32
 |33=>O33
 |34=>O34
 |35=>O35
 |36=>O36
 |37=>O37
 |38=>O38
 |39=>O39
 |40=>O40
 |41=>O41
 |42=>O42
 |43=>O43
 |44=>O44
 |45=>O45
 |46=>O46
 |47=>O47
 |48=>O48
 |49=>O49
 |50=>O50
 |51=>O51
 |52=>O52
 |53=>O53
 |54=>O54
 |55=>O55
 |56=>O56
 |57=>O57
 |58=>O58
 |59=>O59
 |60=>O60
 |61=>O61
 |62=>O62
 |63=>O63
 |64=>O64
 |65=>O65
 |66=>O66
 |67=>O67
 |68=>O68
 |69=>O69
 |70=>O70
 |71=>O71
 |72=>O72
 |73=>O73
 |74=>O74
 |75=>O75
 |76=>O76
 |77=>O77
 |78=>O78
 |79=>O79
 |80=>O80
 |81=>O81
 |82=>O82
 |_=>noC
theorem up {C:aj} {f f1:Nat} {X R:Type} {arg:X→List D×bH} {G:X→Option R} {res:X→R→D×bH} (h:f≠f1):(aj.addF C f1 arg G res) f=C f:=funext fun a=>funext fun S=>ac h a S
theorem step1: ∀n f,n<82→f≠FF (n+1)→OO (n+1) f=OO n f
 |0,f,_,h=>(up h:O1 f=noC f)
 |1,f,_,h=>(up h:O2 f=O1 f)
 |2,f,_,h=>(up h:O3 f=O2 f)
 |3,f,_,h=>(up h:O4 f=O3 f)
 |4,f,_,h=>(up h:O5 f=O4 f)
 |5,f,_,h=>(up h:O6 f=O5 f)
 |6,f,_,h=>(up h:O7 f=O6 f)
 |7,f,_,h=>(up h:O8 f=O7 f)
 |8,f,_,h=>(up h:O9 f=O8 f)
 |9,f,_,h=>(up h:O10 f=O9 f)
 |10,f,_,h=>(up h:O11 f=O10 f)
 |11,f,_,h=>(up h:O12 f=O11 f)
 |12,f,_,h=>(up h:O13 f=O12 f)
 |13,f,_,h=>(up h:O14 f=O13 f)
 |14,f,_,h=>(up h:O15 f=O14 f)
 |15,f,_,h=>(up h:O16 f=O15 f)
 |16,f,_,h=>(up h:O17 f=O16 f)
 |17,f,_,h=>(up h:O18 f=O17 f)
 |18,f,_,h=>(up h:O19 f=O18 f)
 |19,f,_,h=>(up h:O20 f=O19 f)
 |20,f,_,h=>(up h:O21 f=O20 f)
 |21,f,_,h=>(up h:O22 f=O21 f)
 |22,f,_,h=>(up h:O23 f=O22 f)
 |23,f,_,h=>(up h:O24 f=O23 f)
 |24,f,_,h=>(up h:O25 f=O24 f)
 |25,f,_,h=>(up h:O26 f=O25 f)
 |26,f,_,h=>(up h:O27 f=O26 f)
 |27,f,_,h=>(up h:O28 f=O27 f)
 |28,f,_,h=>(up h:O29 f=O28 f)
 |29,f,_,h=>(up h:O30 f=O29 f)
 |30,f,_,h=>(up h:O31 f=O30 f)
 |31,f,_,h=>(up h:O32 f=O31 f)
 |32,f,_,h=>(up h:O33 f=O32 f)
 |33,f,_,h=>(up h:O34 f=O33 f)
 |34,f,_,h=>(up h:O35 f=O34 f)
 |35,f,_,h=>(up h:O36 f=O35 f)
 |36,f,_,h=>(up h:O37 f=O36 f)
 |37,f,_,h=>(up h:O38 f=O37 f)
 |38,f,_,h=>(up h:O39 f=O38 f)
 |39,f,_,h=>(up h:O40 f=O39 f)
 |40,f,_,h=>(up h:O41 f=O40 f)
 |41,f,_,h=>(up h:O42 f=O41 f)
 |42,f,_,h=>(up h:O43 f=O42 f)
 |43,f,_,h=>(up h:O44 f=O43 f)
 |44,f,_,h=>(up h:O45 f=O44 f)
 |45,f,_,h=>(up h:O46 f=O45 f)
 |46,f,_,h=>(up h:O47 f=O46 f)
 |47,f,_,h=>(up h:O48 f=O47 f)
 |48,f,_,h=>(up h:O49 f=O48 f)
 |49,f,_,h=>(up h:O50 f=O49 f)
 |50,f,_,h=>(up h:O51 f=O50 f)
 |51,f,_,h=>(up h:O52 f=O51 f)
 |52,f,_,h=>(up h:O53 f=O52 f)
 |53,f,_,h=>(up h:O54 f=O53 f)
 |54,f,_,h=>(up h:O55 f=O54 f)
 |55,f,_,h=>(up h:O56 f=O55 f)
 |56,f,_,h=>(up h:O57 f=O56 f)
 |57,f,_,h=>(up h:O58 f=O57 f)
 |58,f,_,h=>(up h:O59 f=O58 f)
 |59,f,_,h=>(up h:O60 f=O59 f)
 |60,f,_,h=>(up h:O61 f=O60 f)
 |61,f,_,h=>(up h:O62 f=O61 f)
 |62,f,_,h=>(up h:O63 f=O62 f)
 |63,f,_,h=>(up h:O64 f=O63 f)
 |64,f,_,h=>(up h:O65 f=O64 f)
 |65,f,_,h=>(up h:O66 f=O65 f)
 |66,f,_,h=>(up h:O67 f=O66 f)
 |67,f,_,h=>(up h:O68 f=O67 f)
 |68,f,_,h=>(up h:O69 f=O68 f)
 |69,f,_,h=>(up h:O70 f=O69 f)
 |70,f,_,h=>(up h:O71 f=O70 f)
 |71,f,_,h=>(up h:O72 f=O71 f)
 |72,f,_,h=>(up h:O73 f=O72 f)
 |73,f,_,h=>(up h:O74 f=O73 f)
 |74,f,_,h=>(up h:O75 f=O74 f)
 |75,f,_,h=>(up h:O76 f=O75 f)
 |76,f,_,h=>(up h:O77 f=O76 f)
 |77,f,_,h=>(up h:O78 f=O77 f)
 |78,f,_,h=>(up h:O79 f=O78 f)
 |79,f,_,h=>(up h:O80 f=O79 f)
 |80,f,_,h=>(up h:O81 f=O80 f)
 |81,f,_,h=>(up h:O82 f=O81 f)
 |n+82,_,h,_=>absurd h (by omega)
theorem jump (f j:Nat): ∀d,j+d≤82→(∀m,m<d→f≠FF (j+m+1))→ ∀a S,OO (j+d) f a S=OO j f a S
 |0,_,_,_,_=>rfl
 |d+1,hd,h,a,S=>(congrFun (congrFun (step1 (j+d) f (by omega) (h d (Nat.lt_succ_self d))) a) S).trans (jump f j d (by omega) (fun m hm=>h m (Nat.lt_succ_of_lt hm)) a S)
theorem O1_sound:SoundB Try.prog O1:=aV (gF _) (fun x r h=>by
 obtain⟨d,S,h1,h2,h3⟩:=r_rloctets_z noC x r h
 have h4:=Mx.Sem.frozen (cb (ν:=n8) (aW (gF _)) Try.func8 (by kernel_rfl) mixed (by kernel_rfl) (Nat.le_of_ble_eq_true (by kernel_rfl)) h1) h2
 obtain⟨e1,e2⟩:=Prod.mk.inj h3
 rw [e1] at h4;rw [e2] at h4;exact h4)
theorem inj1: ∀x y,a1 x=a1 y→x=y:=by
 rintro ua1 ub1 h
 simp only [a1,Prod.mk.injEq,List.cons.injEq,D.v.injEq,V.sl.injEq,bc,true_and,and_true] at h
 exact h
theorem K1_1:K_rloctets_z O1:=fun p0 r h=>bZ (x:=p0) inj1 h
theorem O2_sound:SoundB Try.prog O2:=aV O1_sound (fun x r h=>Mx.Sem.frozen (sem_all (ν:=n23) (aW O1_sound) Try.func23 (by kernel_rfl) (Nat.le_of_ble_eq_true (by kernel_rfl)) (q_sKbyte_byte_z _ x r h)) rfl)
theorem K2_2:K_sKbyte_byte_z O2:=fun p0 r h=>bZ (x:=p0) inj1 h
theorem O3_sound:SoundB Try.prog O3:=aV O2_sound (fun x r h=>by
 obtain⟨d,S,h1,h2,h3⟩:=r_wrtake O2 x.1 x.2 r h
 have h4:=Mx.Sem.frozen (cb (ν:=n67) (aW O2_sound) Try.func67 (by kernel_rfl) mixed (by kernel_rfl) (Nat.le_of_ble_eq_true (by kernel_rfl)) h1) h2
 obtain⟨e1,e2⟩:=Prod.mk.inj h3
 rw [e1] at h4;rw [e2] at h4;exact h4)
theorem inj3: ∀x y,a3 x=a3 y→x=y:=by
 rintro⟨ua1,⟨ua2,ua3⟩⟩ ⟨ub1,⟨ub2,ub3⟩⟩ h
 simp only [a3,Prod.mk.injEq,List.cons.injEq,D.v.injEq,V.i.injEq,V.b.injEq,V.sl.injEq,bc,true_and,and_true] at h
 simp only [h]
theorem K3_3:K_wrtake O3:=fun p0 p1 r h=>bZ (x:=(p0,p1)) inj3 h
theorem O4_sound:SoundB Try.prog O4:=aV O3_sound (fun x r h=>cb (ν:=n24) (aW O3_sound) Try.func24 (by kernel_rfl) mixed (by kernel_rfl) (Nat.le_of_ble_eq_true (by kernel_rfl)) (r_wrnumber O3 K3_3 x r h))
theorem inj4: ∀x y,a4 x=a4 y→x=y:=by
 rintro⟨ua1,ua2⟩ ⟨ub1,ub2⟩ h
 simp only [a4,Prod.mk.injEq,List.cons.injEq,D.v.injEq,V.b.injEq,V.sl.injEq,bc,true_and,and_true] at h
 simp only [h]
theorem K4_4:K_wrnumber O4:=fun p0 r h=>bZ (x:=p0) inj4 h
theorem K3_4:K_wrtake O4:=fun p0 p1 r h=>(jump 67 3 1 (by decide) (by decide) _ _).trans (K3_3 p0 p1 r h)
theorem O5_sound:SoundB Try.prog O5:=aV O4_sound (fun x r h=>cb (ν:=n30) (aW O4_sound) Try.func30 (by kernel_rfl) mixed (by kernel_rfl) (Nat.le_of_ble_eq_true (by kernel_rfl)) (r_wrsmall O4 K3_4 x r h))
theorem K5_5:K_wrsmall O5:=fun p0 r h=>bZ (x:=p0) inj4 h
theorem K3_5:K_wrtake O5:=fun p0 p1 r h=>(jump 67 3 2 (by decide) (by decide) _ _).trans (K3_3 p0 p1 r h)
theorem O6_sound:SoundB Try.prog O6:=aV O5_sound (fun x r h=>cb (ν:=n27) (aW O5_sound) Try.func27 (by kernel_rfl) mixed (by kernel_rfl) (Nat.le_of_ble_eq_true (by kernel_rfl)) (r_wrtext O5 K5_5 K3_5 x r h))
theorem K6_6:K_wrtext O6:=fun p0 r h=>bZ (x:=p0) inj4 h
theorem O7_sound:SoundB Try.prog O7:=aV O6_sound (fun x r h=>cb (ν:=n68) (aW O6_sound) Try.func68 (by kernel_rfl) mixed (by kernel_rfl) (Nat.le_of_ble_eq_true (by kernel_rfl)) (r_wrvalue_fn1 O6 K6_6 x.1 x.2 r h))
theorem inj7: ∀x y,a7 x=a7 y→x=y:=by
 rintro⟨⟨ua1,ua2⟩,⟨ua3,ua4,ua5,ua6,ua7,ua8⟩⟩ ⟨⟨ub1,ub2⟩,⟨ub3,ub4,ub5,ub6,ub7,ub8⟩⟩ h
 simp only [a7,Prod.mk.injEq,List.cons.injEq,D.v.injEq,D.own.injEq,V.i.injEq,V.s.injEq,V.b.injEq,V.sl.injEq,bc,aZ,GPair.map_inj,GScore.map_inj,true_and,and_true] at h
 simp only [h]
theorem K7_7:K_wrvalue_fn1 O7:=fun p0 p1 r h=>bZ (x:=(p0,p1)) inj7 h
theorem K5_7:K_wrsmall O7:=fun p0 r h=>(jump 30 5 2 (by decide) (by decide) _ _).trans (K5_5 p0 r h)
theorem O8_sound:SoundB Try.prog O8:=aV O7_sound (fun x r h=>cb (ν:=n25) (aW O7_sound) Try.func25 (by kernel_rfl) mixed (by kernel_rfl) (Nat.le_of_ble_eq_true (by kernel_rfl)) (r_wreach_wrvalue_fn1 O7 K5_7 K7_7 x.1 x.2 r h))
theorem inj8: ∀x y,a8 x=a8 y→x=y:=by
 rintro⟨⟨ua1,ua2⟩,⟨ua3,ua4,ua5,ua6,ua7,ua8⟩⟩ ⟨⟨ub1,ub2⟩,⟨ub3,ub4,ub5,ub6,ub7,ub8⟩⟩ h
 simp only [a8,Prod.mk.injEq,List.cons.injEq,D.v.injEq,D.own.injEq,V.i.injEq,V.s.injEq,V.b.injEq,V.sl.injEq,bc,aZ,GPair.map_inj,GScore.map_inj,true_and,and_true] at h
 simp only [h]
theorem K8_8:K_wreach_wrvalue_fn1 O8:=fun p0 p1 r h=>bZ (x:=(p0,p1)) inj8 h
theorem K6_8:K_wrtext O8:=fun p0 r h=>(jump 27 6 2 (by decide) (by decide) _ _).trans (K6_6 p0 r h)
theorem O9_sound:SoundB Try.prog O9:=aV O8_sound (fun x r h=>cb (ν:=n70) (aW O8_sound) Try.func70 (by kernel_rfl) mixed (by kernel_rfl) (Nat.le_of_ble_eq_true (by kernel_rfl)) (r_wrtexts_fn1 O8 K6_8 x.1 x.2 r h))
theorem inj9: ∀x y,a9 x=a9 y→x=y:=by
 rintro⟨⟨ua1,ua2⟩,ua3⟩ ⟨⟨ub1,ub2⟩,ub3⟩ h
 simp only [a9,Prod.mk.injEq,List.cons.injEq,D.v.injEq,D.own.injEq,V.b.injEq,V.sl.injEq,bc,aZ,true_and,and_true] at h
 simp only [h]
theorem K9_9:K_wrtexts_fn1 O9:=fun p0 p1 r h=>bZ (x:=(p0,p1)) inj9 h
theorem K5_9:K_wrsmall O9:=fun p0 r h=>(jump 30 5 4 (by decide) (by decide) _ _).trans (K5_5 p0 r h)
theorem O10_sound:SoundB Try.prog O10:=aV O9_sound (fun x r h=>cb (ν:=n25) (aW O9_sound) Try.func25 (by kernel_rfl) mixed (by kernel_rfl) (Nat.le_of_ble_eq_true (by kernel_rfl)) (r_wreach_wrtexts_fn1 O9 K5_9 K9_9 x.1 x.2 r h))
theorem inj10: ∀x y,a10 x=a10 y→x=y:=by
 rintro⟨⟨ua1,ua2⟩,ua3⟩ ⟨⟨ub1,ub2⟩,ub3⟩ h
 simp only [a10,Prod.mk.injEq,List.cons.injEq,D.v.injEq,D.own.injEq,V.b.injEq,V.sl.injEq,bc,aZ,true_and,and_true] at h
 simp only [h]
theorem K10_10:K_wreach_wrtexts_fn1 O10:=fun p0 p1 r h=>bZ (x:=(p0,p1)) inj10 h
theorem O11_sound:SoundB Try.prog O11:=aV O10_sound (fun x r h=>cb (ν:=n31) (aW O10_sound) Try.func31 (by kernel_rfl) mixed (by kernel_rfl) (Nat.le_of_ble_eq_true (by kernel_rfl)) (r_wrtexts O10 K10_10 x r h))
theorem K11_11:K_wrtexts O11:=fun p0 r h=>bZ (x:=p0) inj4 h
theorem K6_11:K_wrtext O11:=fun p0 r h=>(jump 27 6 5 (by decide) (by decide) _ _).trans (K6_6 p0 r h)
theorem K4_11:K_wrnumber O11:=fun p0 r h=>(jump 24 4 7 (by decide) (by decide) _ _).trans (K4_4 p0 r h)
theorem O12_sound:SoundB Try.prog O12:=aV O11_sound (fun x r h=>cb (ν:=n69) (aW O11_sound) Try.func69 (by kernel_rfl) mixed (by kernel_rfl) (Nat.le_of_ble_eq_true (by kernel_rfl)) (r_wrvalue_fn2 O11 K6_11 K4_11 x.1 x.2 r h))
theorem K12_12:K_wrvalue_fn2 O12:=fun p0 p1 r h=>bZ (x:=(p0,p1)) inj7 h
theorem K5_12:K_wrsmall O12:=fun p0 r h=>(jump 30 5 7 (by decide) (by decide) _ _).trans (K5_5 p0 r h)
theorem O13_sound:SoundB Try.prog O13:=aV O12_sound (fun x r h=>cb (ν:=n25) (aW O12_sound) Try.func25 (by kernel_rfl) mixed (by kernel_rfl) (Nat.le_of_ble_eq_true (by kernel_rfl)) (r_wreach_wrvalue_fn2 O12 K5_12 K12_12 x.1 x.2 r h))
theorem inj13: ∀x y,a13 x=a13 y→x=y:=by
 rintro⟨⟨ua1,ua2⟩,⟨ua3,ua4,ua5,ua6,ua7,ua8⟩⟩ ⟨⟨ub1,ub2⟩,⟨ub3,ub4,ub5,ub6,ub7,ub8⟩⟩ h
 simp only [a13,Prod.mk.injEq,List.cons.injEq,D.v.injEq,D.own.injEq,V.i.injEq,V.s.injEq,V.b.injEq,V.sl.injEq,bc,aZ,GPair.map_inj,GScore.map_inj,true_and,and_true] at h
 simp only [h]
theorem K13_13:K_wreach_wrvalue_fn2 O13:=fun p0 p1 r h=>bZ (x:=(p0,p1)) inj13 h
theorem K5_13:K_wrsmall O13:=fun p0 r h=>(jump 30 5 8 (by decide) (by decide) _ _).trans (K5_5 p0 r h)
theorem K6_13:K_wrtext O13:=fun p0 r h=>(jump 27 6 7 (by decide) (by decide) _ _).trans (K6_6 p0 r h)
theorem K4_13:K_wrnumber O13:=fun p0 r h=>(jump 24 4 9 (by decide) (by decide) _ _).trans (K4_4 p0 r h)
theorem K8_13:K_wreach_wrvalue_fn1 O13:=fun p0 p1 r h=>(show O13 25 _ _=O12 25 _ _ from addF_other (by intro x hx;simp [a13] at hx)).trans ((jump 25 10 2 (by decide) (by decide) _ _).trans ((show O10 25 _ _=O9 25 _ _ from addF_other (by intro x hx;simp [a10] at hx)).trans ((jump 25 8 1 (by decide) (by decide) _ _).trans (K8_8 p0 p1 r h))))
theorem K11_13:K_wrtexts O13:=fun p0 r h=>(jump 31 11 2 (by decide) (by decide) _ _).trans (K11_11 p0 r h)
theorem O14_sound:SoundB Try.prog O14:=aV O13_sound (fun x r h=>cb (ν:=n28) (aW O13_sound) Try.func28 (by kernel_rfl) mixed (by kernel_rfl) (Nat.le_of_ble_eq_true (by kernel_rfl)) (r_wrvalue O13 K5_13 K6_13 K4_13 K8_13 K11_13 K13_13 x r h))
theorem K14_14:K_wrvalue O14:=fun p0 r h=>bZ (x:=p0) inj4 h
theorem K6_14:K_wrtext O14:=fun p0 r h=>(jump 27 6 8 (by decide) (by decide) _ _).trans (K6_6 p0 r h)
theorem K4_14:K_wrnumber O14:=fun p0 r h=>(jump 24 4 10 (by decide) (by decide) _ _).trans (K4_4 p0 r h)
theorem O15_sound:SoundB Try.prog O15:=aV O14_sound (fun x r h=>cb (ν:=n26) (aW O14_sound) Try.func26 (by kernel_rfl) mixed (by kernel_rfl) (Nat.le_of_ble_eq_true (by kernel_rfl)) (r_wire_Decode_fn1 O14 K6_14 K14_14 K4_14 x.1 x.2 r h))
theorem inj15: ∀x y,a15 x=a15 y→x=y:=by
 rintro⟨⟨ua1,ua2⟩,⟨⟨ua3,ua4⟩,ua5,ua6⟩⟩ ⟨⟨ub1,ub2⟩,⟨⟨ub3,ub4⟩,ub5,ub6⟩⟩ h
 simp only [a15,Prod.mk.injEq,List.cons.injEq,D.v.injEq,D.own.injEq,V.i.injEq,V.b.injEq,V.sl.injEq,bc,GEntry.map_inj,GClient.map_inj,true_and,and_true] at h
 simp only [h]
theorem K15_15:K_wire_Decode_fn1 O15:=fun p0 p1 r h=>bZ (x:=(p0,p1)) inj15 h
theorem K5_15:K_wrsmall O15:=fun p0 r h=>(jump 30 5 10 (by decide) (by decide) _ _).trans (K5_5 p0 r h)
theorem O16_sound:SoundB Try.prog O16:=aV O15_sound (fun x r h=>cb (ν:=n25) (aW O15_sound) Try.func25 (by kernel_rfl) mixed (by kernel_rfl) (Nat.le_of_ble_eq_true (by kernel_rfl)) (r_wreach_wire_Decode_fn1 O15 K5_15 K15_15 x.1 x.2 r h))
theorem inj16: ∀x y,a16 x=a16 y→x=y:=by
 rintro⟨⟨ua1,ua2⟩,⟨⟨ua3,ua4⟩,ua5,ua6⟩⟩ ⟨⟨ub1,ub2⟩,⟨⟨ub3,ub4⟩,ub5,ub6⟩⟩ h
 simp only [a16,Prod.mk.injEq,List.cons.injEq,D.v.injEq,D.own.injEq,V.i.injEq,V.b.injEq,V.sl.injEq,bc,GEntry.map_inj,GClient.map_inj,true_and,and_true] at h
 simp only [h]
theorem K16_16:K_wreach_wire_Decode_fn1 O16:=fun p0 p1 r h=>bZ (x:=(p0,p1)) inj16 h
theorem K4_16:K_wrnumber O16:=fun p0 r h=>(jump 24 4 12 (by decide) (by decide) _ _).trans (K4_4 p0 r h)
theorem K5_16:K_wrsmall O16:=fun p0 r h=>(jump 30 5 11 (by decide) (by decide) _ _).trans (K5_5 p0 r h)
theorem K6_16:K_wrtext O16:=fun p0 r h=>(jump 27 6 10 (by decide) (by decide) _ _).trans (K6_6 p0 r h)
theorem K11_16:K_wrtexts O16:=fun p0 r h=>(jump 31 11 5 (by decide) (by decide) _ _).trans (K11_11 p0 r h)
theorem O17_sound:SoundB Try.prog O17:=aV O16_sound (fun x r h=>cb (ν:=n29) (aW O16_sound) Try.func29 (by kernel_rfl) mixed (by kernel_rfl) (Nat.le_of_ble_eq_true (by kernel_rfl)) (r_wire_Decode_fn2 O16 K4_16 K5_16 K6_16 K11_16 x.1 x.2 r h))
theorem inj17: ∀x y,a17 x=a17 y→x=y:=by
 rintro⟨⟨ua1,ua2⟩,⟨⟨ua3,ua4⟩,ua5,ua6⟩⟩ ⟨⟨ub1,ub2⟩,⟨⟨ub3,ub4⟩,ub5,ub6⟩⟩ h
 simp only [a17,Prod.mk.injEq,List.cons.injEq,D.v.injEq,D.own.injEq,V.i.injEq,V.b.injEq,V.sl.injEq,bc,GEntry.map_inj,GClient.map_inj,true_and,and_true] at h
 simp only [h]
theorem K17_17:K_wire_Decode_fn2 O17:=fun p0 p1 r h=>bZ (x:=(p0,p1)) inj17 h
theorem K5_17:K_wrsmall O17:=fun p0 r h=>(jump 30 5 12 (by decide) (by decide) _ _).trans (K5_5 p0 r h)
theorem O18_sound:SoundB Try.prog O18:=aV O17_sound (fun x r h=>cb (ν:=n25) (aW O17_sound) Try.func25 (by kernel_rfl) mixed (by kernel_rfl) (Nat.le_of_ble_eq_true (by kernel_rfl)) (r_wreach_wire_Decode_fn2 O17 K5_17 K17_17 x.1 x.2 r h))
theorem inj18: ∀x y,a18 x=a18 y→x=y:=by
 rintro⟨⟨ua1,ua2⟩,⟨⟨ua3,ua4⟩,ua5,ua6⟩⟩ ⟨⟨ub1,ub2⟩,⟨⟨ub3,ub4⟩,ub5,ub6⟩⟩ h
 simp only [a18,Prod.mk.injEq,List.cons.injEq,D.v.injEq,D.own.injEq,V.i.injEq,V.b.injEq,V.sl.injEq,bc,GEntry.map_inj,GClient.map_inj,true_and,and_true] at h
 simp only [h]
theorem K18_18:K_wreach_wire_Decode_fn2 O18:=fun p0 p1 r h=>bZ (x:=(p0,p1)) inj18 h
theorem O19_sound:SoundB Try.prog O19:=aV O18_sound (fun x r h=>cb (ν:=n32) (aW O18_sound) Try.func32 (by kernel_rfl) mixed (by kernel_rfl) (Nat.le_of_ble_eq_true (by kernel_rfl)) (r_wrend O18 x.1 x.2 r h))
theorem inj19: ∀x y,a19 x=a19 y→x=y:=by
 rintro⟨ua1,⟨ua2,ua3⟩⟩ ⟨ub1,⟨ub2,ub3⟩⟩ h
 simp only [a19,Prod.mk.injEq,List.cons.injEq,D.v.injEq,V.b.injEq,V.sl.injEq,bc,true_and,and_true] at h
 simp only [h]
theorem K19_19:K_wrend O19:=fun p0 p1 r h=>bZ (x:=(p0,p1)) inj19 h
theorem O20_sound:SoundB Try.prog O20:=aV O19_sound (fun x r h=>cb (ν:=n114) (aW O19_sound) Try.func114 (by kernel_rfl) mixed (by kernel_rfl) (Nat.le_of_ble_eq_true (by kernel_rfl)) (r_value_elements O19 x r h))
theorem inj20: ∀x y,a20 x=a20 y→x=y:=by
 rintro⟨ua1,ua2,ua3,ua4,ua5,ua6⟩ ⟨ub1,ub2,ub3,ub4,ub5,ub6⟩ h
 simp only [a20,Prod.mk.injEq,List.cons.injEq,D.v.injEq,D.agg.injEq,V.i.injEq,V.s.injEq,V.sl.injEq,aZ,GPair.map_inj,GScore.map_inj,true_and,and_true] at h
 simp only [h]
theorem K20_20:K_value_elements O20:=fun p0 r h=>bZ (x:=p0) inj20 h
theorem O21_sound:SoundB Try.prog O21:=aV O20_sound (fun x r h=>cb (ν:=n115) (aW O20_sound) Try.func115 (by kernel_rfl) mixed (by kernel_rfl) (Nat.le_of_ble_eq_true (by kernel_rfl)) (r_value_text O20 x r h))
theorem inj21: ∀x y,a21 x=a21 y→x=y:=by
 rintro ua1 ub1 h
 simp only [a21,Prod.mk.injEq,List.cons.injEq,D.v.injEq,V.s.injEq,and_true] at h
 exact h
theorem K21_21:K_value_text O21:=fun p0 r h=>bZ (x:=p0) inj21 h
theorem O22_sound:SoundB Try.prog O22:=aV O21_sound (fun x r h=>cb (ν:=n116) (aW O21_sound) Try.func116 (by kernel_rfl) mixed (by kernel_rfl) (Nat.le_of_ble_eq_true (by kernel_rfl)) (r_vaC_fn1 O21 K21_21 x r h))
theorem K22_22:K_vaC_fn1 O22:=fun p0 r h=>bZ (x:=p0) inj21 h
theorem O23_sound:SoundB Try.prog O23:=aV O22_sound (fun x r h=>cb (ν:=n131) (aW O22_sound) Try.func131 (by kernel_rfl) mixed (by kernel_rfl) (Nat.le_of_ble_eq_true (by kernel_rfl)) (r_sISvaC_fn1 O22 K22_22 x r h))
theorem inj23: ∀x y,a23 x=a23 y→x=y:=by
 rintro ua1 ub1 h
 simp only [a23,Prod.mk.injEq,List.cons.injEq,D.v.injEq,V.sl.injEq,aZ,true_and,and_true] at h
 exact h
theorem K23_23:K_sISvaC_fn1 O23:=fun p0 r h=>bZ (x:=p0) inj23 h
theorem O24_sound:SoundB Try.prog O24:=aV O23_sound (fun x r h=>cb (ν:=n91) (aW O23_sound) Try.func91 (by kernel_rfl) mixed (by kernel_rfl) (Nat.le_of_ble_eq_true (by kernel_rfl)) (r_sCSvaC_fn1 O23 K23_23 x r h))
theorem K24_24:K_sCSvaC_fn1 O24:=fun p0 r h=>bZ (x:=p0) inj23 h
theorem O25_sound:SoundB Try.prog O25:=aV O24_sound (fun x r h=>cb (ν:=n119) (aW O24_sound) Try.func119 (by kernel_rfl) mixed (by kernel_rfl) (Nat.le_of_ble_eq_true (by kernel_rfl)) (r_value_field O24 x r h))
theorem K25_25:K_value_field O25:=fun p0 r h=>bZ (x:=p0) inj21 h
theorem K21_25:K_value_text O25:=fun p0 r h=>(jump 115 21 4 (by decide) (by decide) _ _).trans (K21_21 p0 r h)
theorem O26_sound:SoundB Try.prog O26:=aV O25_sound (fun x r h=>cb (ν:=n118) (aW O25_sound) Try.func118 (by kernel_rfl) mixed (by kernel_rfl) (Nat.le_of_ble_eq_true (by kernel_rfl)) (r_vaC_fn2 O25 K25_25 K21_25 x r h))
theorem inj26: ∀x y,a26 x=a26 y→x=y:=by
 rintro⟨ua1,ua2⟩ ⟨ub1,ub2⟩ h
 simp only [a26,Prod.mk.injEq,List.cons.injEq,D.v.injEq,D.agg.injEq,V.s.injEq,and_true] at h
 simp only [h]
theorem K26_26:K_vaC_fn2 O26:=fun p0 r h=>bZ (x:=p0) inj26 h
theorem O27_sound:SoundB Try.prog O27:=aV O26_sound (fun x r h=>cb (ν:=n136) (aW O26_sound) Try.func136 (by kernel_rfl) mixed (by kernel_rfl) (Nat.le_of_ble_eq_true (by kernel_rfl)) (r_sIPvaC_fn2 O26 K26_26 x r h))
theorem inj27: ∀x y,a27 x=a27 y→x=y:=by
 rintro ua1 ub1 h
 simp only [a27,Prod.mk.injEq,List.cons.injEq,D.v.injEq,V.sl.injEq,GPair.map_inj,true_and,and_true] at h
 exact h
theorem K27_27:K_sIPvaC_fn2 O27:=fun p0 r h=>bZ (x:=p0) inj27 h
theorem O28_sound:SoundB Try.prog O28:=aV O27_sound (fun x r h=>cb (ν:=n117) (aW O27_sound) Try.func117 (by kernel_rfl) mixed (by kernel_rfl) (Nat.le_of_ble_eq_true (by kernel_rfl)) (r_sCPvaC_fn2 O27 K27_27 x r h))
theorem K28_28:K_sCPvaC_fn2 O28:=fun p0 r h=>bZ (x:=p0) inj27 h
theorem K21_28:K_value_text O28:=fun p0 r h=>(jump 115 21 7 (by decide) (by decide) _ _).trans (K21_21 p0 r h)
theorem O29_sound:SoundB Try.prog O29:=aV O28_sound (fun x r h=>cb (ν:=n121) (aW O28_sound) Try.func121 (by kernel_rfl) mixed (by kernel_rfl) (Nat.le_of_ble_eq_true (by kernel_rfl)) (r_vaC_fn3 O28 K21_28 x r h))
theorem inj29: ∀x y,a29 x=a29 y→x=y:=by
 rintro⟨ua1,ua2⟩ ⟨ub1,ub2⟩ h
 simp only [a29,Prod.mk.injEq,List.cons.injEq,D.v.injEq,D.agg.injEq,V.i.injEq,V.s.injEq,true_and,and_true] at h
 simp only [h]
theorem K29_29:K_vaC_fn3 O29:=fun p0 r h=>bZ (x:=p0) inj29 h
theorem O30_sound:SoundB Try.prog O30:=aV O29_sound (fun x r h=>cb (ν:=n137) (aW O29_sound) Try.func137 (by kernel_rfl) mixed (by kernel_rfl) (Nat.le_of_ble_eq_true (by kernel_rfl)) (r_sIRvaC_fn3 O29 K29_29 x r h))
theorem inj30: ∀x y,a30 x=a30 y→x=y:=by
 rintro ua1 ub1 h
 simp only [a30,Prod.mk.injEq,List.cons.injEq,D.v.injEq,V.sl.injEq,GScore.map_inj,true_and,and_true] at h
 exact h
theorem K30_30:K_sIRvaC_fn3 O30:=fun p0 r h=>bZ (x:=p0) inj30 h
theorem O31_sound:SoundB Try.prog O31:=aV O30_sound (fun x r h=>cb (ν:=n120) (aW O30_sound) Try.func120 (by kernel_rfl) mixed (by kernel_rfl) (Nat.le_of_ble_eq_true (by kernel_rfl)) (r_sCRvaC_fn3 O30 K30_30 x r h))
theorem K31_31:K_sCRvaC_fn3 O31:=fun p0 r h=>bZ (x:=p0) inj30 h
theorem O32_sound:SoundB Try.prog O32:=aV O31_sound (fun x r h=>cb (ν:=n122) (aW O31_sound) Try.func122 (by kernel_rfl) mixed (by kernel_rfl) (Nat.le_of_ble_eq_true (by kernel_rfl)) (r_value_count O31 x r h))
theorem inj32: ∀x y,a32 x=a32 y→x=y:=by
 rintro ua1 ub1 h
 simp only [a32,Prod.mk.injEq,List.cons.injEq,D.v.injEq,V.i.injEq,true_and,and_true] at h
 exact h
theorem K32_32:K_value_count O32:=fun p0 r h=>bZ (x:=p0) inj32 h
theorem O33_sound:SoundB Try.prog O33:=aV O32_sound (fun x r h=>cb (ν:=n123) (aW O32_sound) Try.func123 (by kernel_rfl) mixed (by kernel_rfl) (Nat.le_of_ble_eq_true (by kernel_rfl)) (r_vaC_fn4 O32 K32_32 x r h))
theorem K33_33:K_vaC_fn4 O33:=fun p0 r h=>bZ (x:=p0) inj29 h
theorem O34_sound:SoundB Try.prog O34:=aV O33_sound (fun x r h=>cb (ν:=n137) (aW O33_sound) Try.func137 (by kernel_rfl) mixed (by kernel_rfl) (Nat.le_of_ble_eq_true (by kernel_rfl)) (r_sIRvaC_fn4 O33 K33_33 x r h))
theorem inj34: ∀x y,a34 x=a34 y→x=y:=by
 rintro ua1 ub1 h
 simp only [a34,Prod.mk.injEq,List.cons.injEq,D.v.injEq,V.sl.injEq,GScore.map_inj,true_and,and_true] at h
 exact h
theorem K34_34:K_sIRvaC_fn4 O34:=fun p0 r h=>bZ (x:=p0) inj34 h
theorem O35_sound:SoundB Try.prog O35:=aV O34_sound (fun x r h=>cb (ν:=n120) (aW O34_sound) Try.func120 (by kernel_rfl) mixed (by kernel_rfl) (Nat.le_of_ble_eq_true (by kernel_rfl)) (r_sCRvaC_fn4 O34 K34_34 x r h))
theorem K35_35:K_sCRvaC_fn4 O35:=fun p0 r h=>bZ (x:=p0) inj34 h
theorem O36_sound:SoundB Try.prog O36:=aV O35_sound (fun x r h=>by
 obtain rfl:=Option.some.inj h
 exact sem_cmp Try.func144 (by kernel_rfl) (by kernel_rfl) (by kernel_rfl) (by kernel_rfl) x.1 x.2)
theorem inj36: ∀x y,a36 x=a36 y→x=y:=by
 rintro⟨ua1,ua2⟩ ⟨ub1,ub2⟩ h
 simp only [a36,Prod.mk.injEq,List.cons.injEq,D.v.injEq,V.s.injEq,and_true] at h
 simp only [h]
theorem K36_36:K_cmpstring O36:=fun p0 p1 r h=>bZ (x:=(p0,p1)) inj36 h
theorem O37_sound:SoundB Try.prog O37:=aV O36_sound (fun x r h=>cb (ν:=n140) (aW O36_sound) Try.func140 (by kernel_rfl) mixed (by kernel_rfl) (Nat.le_of_ble_eq_true (by kernel_rfl)) (r_ibCompareString O36 K36_36 x.1 x.2 r h))
theorem K37_37:K_ibCompareString O37:=fun p0 p1 r h=>bZ (x:=(p0,p1)) inj36 h
theorem O38_sound:SoundB Try.prog O38:=aV O37_sound (fun x r h=>cb (ν:=n129) (aW O37_sound) Try.func129 (by kernel_rfl) mixed (by kernel_rfl) (Nat.le_of_ble_eq_true (by kernel_rfl)) (r_strings_Compare O37 K37_37 x.1 x.2 r h))
theorem K38_38:K_strings_Compare O38:=fun p0 p1 r h=>bZ (x:=(p0,p1)) inj36 h
theorem O39_sound:SoundB Try.prog O39:=aV O38_sound (fun x r h=>cb (ν:=n125) (aW O38_sound) Try.func125 (by kernel_rfl) mixed (by kernel_rfl) (Nat.le_of_ble_eq_true (by kernel_rfl)) (r_value_byField O38 K38_38 x.1 x.2 r h))
theorem inj39: ∀x y,a39 x=a39 y→x=y:=by
 rintro⟨⟨ua1,ua2⟩,⟨ua3,ua4⟩⟩ ⟨⟨ub1,ub2⟩,⟨ub3,ub4⟩⟩ h
 simp only [a39,Prod.mk.injEq,List.cons.injEq,D.v.injEq,D.agg.injEq,V.s.injEq,and_true] at h
 simp only [h]
theorem K39_39:K_value_byField O39:=fun p0 p1 r h=>bZ (x:=(p0,p1)) inj39 h
theorem O40_sound:SoundB Try.prog O40:=aV O39_sound (fun x r h=>cb (ν:=n124) (aW O39_sound) Try.func124 (by kernel_rfl) mixed (by kernel_rfl) (Nat.le_of_ble_eq_true (by kernel_rfl)) (r_value_rising_Pair_value_byField O39 K39_39 x r h))
theorem inj40: ∀x y,a40 x=a40 y→x=y:=by
 rintro ua1 ub1 h
 simp only [a40,Prod.mk.injEq,List.cons.injEq,D.v.injEq,V.sl.injEq,GPair.map_inj,true_and,and_true] at h
 exact h
theorem K40_40:K_value_rising_Pair_value_byField O40:=fun p0 r h=>bZ (x:=p0) inj40 h
theorem O41_sound:SoundB Try.prog O41:=aV O40_sound (fun x r h=>cb (ν:=n143) (aW O40_sound) Try.func143 (by kernel_rfl) mixed (by kernel_rfl) (Nat.le_of_ble_eq_true (by kernel_rfl)) (r_cmp_isNaN_int O40 x r h))
theorem K41_41:K_cmp_isNaN_int O41:=fun p0 r h=>bZ (x:=p0) inj32 h
theorem O42_sound:SoundB Try.prog O42:=aV O41_sound (fun x r h=>cb (ν:=n139) (aW O41_sound) Try.func139 (by kernel_rfl) mixed (by kernel_rfl) (Nat.le_of_ble_eq_true (by kernel_rfl)) (r_cmp_Compare_int O41 K41_41 x.1 x.2 r h))
theorem inj42: ∀x y,a42 x=a42 y→x=y:=by
 rintro⟨ua1,ua2⟩ ⟨ub1,ub2⟩ h
 simp only [a42,Prod.mk.injEq,List.cons.injEq,D.v.injEq,V.i.injEq,true_and,and_true] at h
 simp only [h]
theorem K42_42:K_cmp_Compare_int O42:=fun p0 p1 r h=>bZ (x:=(p0,p1)) inj42 h
theorem O43_sound:SoundB Try.prog O43:=aV O42_sound (fun x r h=>cb (ν:=n138) (aW O42_sound) Try.func138 (by kernel_rfl) mixed (by kernel_rfl) (Nat.le_of_ble_eq_true (by kernel_rfl)) (r_cmp_Or_int O42 x r h))
theorem inj43: ∀x y,a43 x=a43 y→x=y:=by
 rintro ua1 ub1 h
 simp only [a43,Prod.mk.injEq,List.cons.injEq,D.v.injEq,V.sl.injEq,ba,true_and,and_true] at h
 exact h
theorem K43_43:K_cmp_Or_int O43:=fun p0 r h=>bZ (x:=p0) inj43 h
theorem K42_43:K_cmp_Compare_int O43:=fun p0 p1 r h=>(jump 139 42 1 (by decide) (by decide) _ _).trans (K42_42 p0 p1 r h)
theorem K38_43:K_strings_Compare O43:=fun p0 p1 r h=>(jump 129 38 5 (by decide) (by decide) _ _).trans (K38_38 p0 p1 r h)
theorem O44_sound:SoundB Try.prog O44:=aV O43_sound (fun x r h=>cb (ν:=n127) (aW O43_sound) Try.func127 (by kernel_rfl) mixed (by kernel_rfl) (Nat.le_of_ble_eq_true (by kernel_rfl)) (r_value_byScore O43 K42_43 K38_43 K43_43 x.1 x.2 r h))
theorem inj44: ∀x y,a44 x=a44 y→x=y:=by
 rintro⟨⟨ua1,ua2⟩,⟨ua3,ua4⟩⟩ ⟨⟨ub1,ub2⟩,⟨ub3,ub4⟩⟩ h
 simp only [a44,Prod.mk.injEq,List.cons.injEq,D.v.injEq,D.agg.injEq,V.i.injEq,V.s.injEq,true_and,and_true] at h
 simp only [h]
theorem K44_44:K_value_byScore O44:=fun p0 p1 r h=>bZ (x:=(p0,p1)) inj44 h
theorem O45_sound:SoundB Try.prog O45:=aV O44_sound (fun x r h=>cb (ν:=n126) (aW O44_sound) Try.func126 (by kernel_rfl) mixed (by kernel_rfl) (Nat.le_of_ble_eq_true (by kernel_rfl)) (r_value_rising_Score_value_byScore O44 K44_44 x r h))
theorem inj45: ∀x y,a45 x=a45 y→x=y:=by
 rintro ua1 ub1 h
 simp only [a45,Prod.mk.injEq,List.cons.injEq,D.v.injEq,V.sl.injEq,GScore.map_inj,true_and,and_true] at h
 exact h
theorem K45_45:K_value_rising_Score_value_byScore O45:=fun p0 r h=>bZ (x:=p0) inj45 h
theorem K38_45:K_strings_Compare O45:=fun p0 p1 r h=>(jump 129 38 7 (by decide) (by decide) _ _).trans (K38_38 p0 p1 r h)
theorem O46_sound:SoundB Try.prog O46:=aV O45_sound (fun x r h=>cb (ν:=n128) (aW O45_sound) Try.func128 (by kernel_rfl) mixed (by kernel_rfl) (Nat.le_of_ble_eq_true (by kernel_rfl)) (r_value_rising_string_strings_Compare O45 K38_45 x r h))
theorem inj46: ∀x y,a46 x=a46 y→x=y:=by
 rintro ua1 ub1 h
 simp only [a46,Prod.mk.injEq,List.cons.injEq,D.v.injEq,V.sl.injEq,aZ,true_and,and_true] at h
 exact h
theorem K46_46:K_value_rising_string_strings_Compare O46:=fun p0 r h=>bZ (x:=p0) inj46 h
theorem O47_sound:SoundB Try.prog O47:=aV O46_sound (fun x r h=>cb (ν:=n141) (aW O46_sound) Try.func141 (by kernel_rfl) mixed (by kernel_rfl) (Nat.le_of_ble_eq_true (by kernel_rfl)) (r_value_rank_fn1 O46 x.1 x.2 r h))
theorem inj47: ∀x y,a47 x=a47 y→x=y:=by
 rintro⟨⟨ua1,ua2⟩,ua3⟩ ⟨⟨ub1,ub2⟩,ub3⟩ h
 simp only [a47,Prod.mk.injEq,List.cons.injEq,D.v.injEq,D.agg.injEq,V.i.injEq,V.s.injEq,true_and,and_true] at h
 simp only [h]
theorem K47_47:K_value_rank_fn1 O47:=fun p0 p1 r h=>bZ (x:=(p0,p1)) inj47 h
theorem O48_sound:SoundB Try.prog O48:=aV O47_sound (fun x r h=>cb (ν:=n137) (aW O47_sound) Try.func137 (by kernel_rfl) mixed (by kernel_rfl) (Nat.le_of_ble_eq_true (by kernel_rfl)) (r_sIRvalue_rank_fn1 O47 K47_47 x.1 x.2 r h))
theorem inj48: ∀x y,a48 x=a48 y→x=y:=by
 rintro⟨ua1,ua2⟩ ⟨ub1,ub2⟩ h
 simp only [a48,Prod.mk.injEq,List.cons.injEq,D.v.injEq,V.s.injEq,V.sl.injEq,GScore.map_inj,true_and,and_true] at h
 simp only [h]
theorem K48_48:K_sIRvalue_rank_fn1 O48:=fun p0 p1 r h=>bZ (x:=(p0,p1)) inj48 h
theorem O49_sound:SoundB Try.prog O49:=aV O48_sound (fun x r h=>cb (ν:=n130) (aW O48_sound) Try.func130 (by kernel_rfl) mixed (by kernel_rfl) (Nat.le_of_ble_eq_true (by kernel_rfl)) (r_value_rank O48 K48_48 x.1 x.2 r h))
theorem inj49: ∀x y,a49 x=a49 y→x=y:=by
 rintro⟨ua1,ua2⟩ ⟨ub1,ub2⟩ h
 simp only [a49,Prod.mk.injEq,List.cons.injEq,D.v.injEq,V.s.injEq,V.sl.injEq,GScore.map_inj,true_and,and_true] at h
 simp only [h]
theorem K49_49:K_value_rank O49:=fun p0 p1 r h=>bZ (x:=(p0,p1)) inj49 h
theorem K20_49:K_value_elements O49:=fun p0 r h=>(jump 114 20 29 (by decide) (by decide) _ _).trans (K20_20 p0 r h)
theorem K21_49:K_value_text O49:=fun p0 r h=>(jump 115 21 28 (by decide) (by decide) _ _).trans (K21_21 p0 r h)
theorem K24_49:K_sCSvaC_fn1 O49:=fun p0 r h=>(jump 91 24 25 (by decide) (by decide) _ _).trans (K24_24 p0 r h)
theorem K28_49:K_sCPvaC_fn2 O49:=fun p0 r h=>(jump 117 28 21 (by decide) (by decide) _ _).trans (K28_28 p0 r h)
theorem K31_49:K_sCRvaC_fn3 O49:=fun p0 r h=>(jump 120 35 14 (by decide) (by decide) _ _).trans ((show O35 120 _ _=O34 120 _ _ from addF_other (by intro x hx;simp [a34] at hx)).trans ((jump 120 31 3 (by decide) (by decide) _ _).trans (K31_31 p0 r h)))
theorem K32_49:K_value_count O49:=fun p0 r h=>(jump 122 32 17 (by decide) (by decide) _ _).trans (K32_32 p0 r h)
theorem K35_49:K_sCRvaC_fn4 O49:=fun p0 r h=>(jump 120 35 14 (by decide) (by decide) _ _).trans (K35_35 p0 r h)
theorem K40_49:K_value_rising_Pair_value_byField O49:=fun p0 r h=>(jump 124 40 9 (by decide) (by decide) _ _).trans (K40_40 p0 r h)
theorem K45_49:K_value_rising_Score_value_byScore O49:=fun p0 r h=>(jump 126 45 4 (by decide) (by decide) _ _).trans (K45_45 p0 r h)
theorem K46_49:K_value_rising_string_strings_Compare O49:=fun p0 r h=>(jump 128 46 3 (by decide) (by decide) _ _).trans (K46_46 p0 r h)
theorem O50_sound:SoundB Try.prog O50:=aV O49_sound (fun x r h=>cb (ν:=n90) (aW O49_sound) Try.func90 (by kernel_rfl) mixed (by kernel_rfl) (Nat.le_of_ble_eq_true (by kernel_rfl)) (r_vaC O49 K20_49 K21_49 K24_49 K28_49 K31_49 K32_49 K35_49 K40_49 K45_49 K46_49 K49_49 x r h))
theorem K50_50:K_vaC O50:=fun p0 r h=>bZ (x:=p0) inj20 h
theorem O51_sound:SoundB Try.prog O51:=aV O50_sound (fun x r h=>cb (ν:=n71) (aW O50_sound) Try.func71 (by kernel_rfl) mixed (by kernel_rfl) (Nat.le_of_ble_eq_true (by kernel_rfl)) (r_store_Check O50 K50_50 x r h))
theorem inj51: ∀x y,a51 x=a51 y→x=y:=by
 rintro⟨ua1,ua2⟩ ⟨ub1,ub2⟩ h
 simp only [a51,Prod.mk.injEq,List.cons.injEq,D.v.injEq,D.agg.injEq,V.i.injEq,V.sl.injEq,GEntry.map_inj,true_and,and_true] at h
 simp only [h]
theorem K51_51:K_store_Check O51:=fun p0 r h=>bZ (x:=p0) inj51 h
theorem O52_sound:SoundB Try.prog O52:=aV O51_sound (fun x r h=>cb (ν:=n92) (aW O51_sound) Try.func92 (by kernel_rfl) mixed (by kernel_rfl) (Nat.le_of_ble_eq_true (by kernel_rfl)) (r_clCReply_fn1 O51 x r h))
theorem K52_52:K_clCReply_fn1 O52:=fun p0 r h=>bZ (x:=p0) inj21 h
theorem O53_sound:SoundB Try.prog O53:=aV O52_sound (fun x r h=>cb (ν:=n131) (aW O52_sound) Try.func131 (by kernel_rfl) mixed (by kernel_rfl) (Nat.le_of_ble_eq_true (by kernel_rfl)) (r_sISclCReply_fn1 O52 K52_52 x r h))
theorem inj53: ∀x y,a53 x=a53 y→x=y:=by
 rintro ua1 ub1 h
 simp only [a53,Prod.mk.injEq,List.cons.injEq,D.v.injEq,V.sl.injEq,aZ,true_and,and_true] at h
 exact h
theorem K53_53:K_sISclCReply_fn1 O53:=fun p0 r h=>bZ (x:=p0) inj53 h
theorem O54_sound:SoundB Try.prog O54:=aV O53_sound (fun x r h=>cb (ν:=n91) (aW O53_sound) Try.func91 (by kernel_rfl) mixed (by kernel_rfl) (Nat.le_of_ble_eq_true (by kernel_rfl)) (r_sCSclCReply_fn1 O53 K53_53 x r h))
theorem K54_54:K_sCSclCReply_fn1 O54:=fun p0 r h=>bZ (x:=p0) inj53 h
theorem O55_sound:SoundB Try.prog O55:=aV O54_sound (fun x r h=>cb (ν:=n72) (aW O54_sound) Try.func72 (by kernel_rfl) mixed (by kernel_rfl) (Nat.le_of_ble_eq_true (by kernel_rfl)) (r_clCReply O54 K54_54 x r h))
theorem inj55: ∀x y,a55 x=a55 y→x=y:=by
 rintro⟨ua1,ua2,ua3,ua4⟩ ⟨ub1,ub2,ub3,ub4⟩ h
 simp only [a55,Prod.mk.injEq,List.cons.injEq,D.v.injEq,D.agg.injEq,V.i.injEq,V.s.injEq,V.sl.injEq,aZ,true_and,and_true] at h
 simp only [h]
theorem K55_55:K_clCReply O55:=fun p0 r h=>bZ (x:=p0) inj55 h
theorem K51_55:K_store_Check O55:=fun p0 r h=>(jump 71 51 4 (by decide) (by decide) _ _).trans (K51_51 p0 r h)
theorem O56_sound:SoundB Try.prog O56:=aV O55_sound (fun x r h=>cb (ν:=n33) (aW O55_sound) Try.func33 (by kernel_rfl) mixed (by kernel_rfl) (Nat.le_of_ble_eq_true (by kernel_rfl)) (r_clC O55 K51_55 K55_55 x r h))
theorem inj56: ∀x y,a56 x=a56 y→x=y:=by
 rintro⟨⟨ua1,ua2⟩,ua3,ua4⟩ ⟨⟨ub1,ub2⟩,ub3,ub4⟩ h
 simp only [a56,Prod.mk.injEq,List.cons.injEq,D.v.injEq,D.agg.injEq,V.i.injEq,V.sl.injEq,GEntry.map_inj,GClient.map_inj,true_and,and_true] at h
 simp only [h]
theorem K56_56:K_clC O56:=fun p0 r h=>bZ (x:=p0) inj56 h
theorem K2_56:K_sKbyte_byte_z O56:=fun p0 r h=>(jump 23 2 54 (by decide) (by decide) _ _).trans (K2_2 p0 r h)
theorem K4_56:K_wrnumber O56:=fun p0 r h=>(jump 24 4 52 (by decide) (by decide) _ _).trans (K4_4 p0 r h)
theorem K16_56:K_wreach_wire_Decode_fn1 O56:=fun p0 p1 r h=>(jump 25 18 38 (by decide) (by decide) _ _).trans ((show O18 25 _ _=O17 25 _ _ from addF_other (by intro x hx;simp [a18] at hx)).trans ((jump 25 16 1 (by decide) (by decide) _ _).trans (K16_16 p0 p1 r h)))
theorem K18_56:K_wreach_wire_Decode_fn2 O56:=fun p0 p1 r h=>(jump 25 18 38 (by decide) (by decide) _ _).trans (K18_18 p0 p1 r h)
theorem K19_56:K_wrend O56:=fun p0 p1 r h=>(jump 32 19 37 (by decide) (by decide) _ _).trans (K19_19 p0 p1 r h)
theorem O57_sound:SoundB Try.prog O57:=aV O56_sound (fun x r h=>cb (ν:=n7) (aW O56_sound) Try.func7 (by kernel_rfl) mixed (by kernel_rfl) (Nat.le_of_ble_eq_true (by kernel_rfl)) (r_wire_Decode O56 K2_56 K4_56 K16_56 K18_56 K19_56 K56_56 x r h))
theorem K57_57:K_wire_Decode O57:=fun p0 r h=>bZ (x:=p0) inj1 h
theorem O58_sound:SoundB Try.prog O58:=aV O57_sound (fun x r h=>cb (ν:=n35) (aW O57_sound) Try.func35 (by kernel_rfl) mixed (by kernel_rfl) (Nat.le_of_ble_eq_true (by kernel_rfl)) (r_rrscan_next O57 x r h))
theorem inj58: ∀x y,a58 x=a58 y→x=y:=by
 rintro⟨ua1,ua2⟩ ⟨ub1,ub2⟩ h
 simp only [a58,Prod.mk.injEq,List.cons.injEq,D.v.injEq,V.i.injEq,V.sl.injEq,bc,true_and,and_true] at h
 simp only [h]
theorem K58_58:K_rrscan_next O58:=fun p0 r h=>bZ (x:=p0) inj58 h
theorem O59_sound:SoundB Try.prog O59:=aV O58_sound (fun x r h=>cb (ν:=n34) (aW O58_sound) Try.func34 (by kernel_rfl) mixed (by kernel_rfl) (Nat.le_of_ble_eq_true (by kernel_rfl)) (r_rrscan_long O58 K58_58 x r h))
theorem K59_59:K_rrscan_long O59:=fun p0 r h=>bZ (x:=p0) inj58 h
theorem O60_sound:SoundB Try.prog O60:=aV O59_sound (fun x r h=>cb (ν:=n36) (aW O59_sound) Try.func36 (by kernel_rfl) mixed (by kernel_rfl) (Nat.le_of_ble_eq_true (by kernel_rfl)) (r_rrscan_over O59 x r h))
theorem K60_60:K_rrscan_over O60:=fun p0 r h=>bZ (x:=p0) inj58 h
theorem O61_sound:SoundB Try.prog O61:=aV O60_sound (fun x r h=>cb (ν:=n40) (aW O60_sound) Try.func40 (by kernel_rfl) mixed (by kernel_rfl) (Nat.le_of_ble_eq_true (by kernel_rfl)) (r_rrscan_end O60 K60_60 x.1 x.2 r h))
theorem inj61: ∀x y,a61 x=a61 y→x=y:=by
 rintro⟨ua1,⟨ua2,ua3⟩⟩ ⟨ub1,⟨ub2,ub3⟩⟩ h
 simp only [a61,Prod.mk.injEq,List.cons.injEq,D.v.injEq,V.i.injEq,V.b.injEq,V.sl.injEq,bc,true_and,and_true] at h
 simp only [h]
theorem K61_61:K_rrscan_end O61:=fun p0 p1 r h=>bZ (x:=(p0,p1)) inj61 h
theorem O62_sound:SoundB Try.prog O62:=aV O61_sound (fun x r h=>cb (ν:=n48) (aW O61_sound) Try.func48 (by kernel_rfl) mixed (by kernel_rfl) (Nat.le_of_ble_eq_true (by kernel_rfl)) (r_rrIn O61 x.1 x.2.1 x.2.2 r h))
theorem inj62: ∀x y,a62 x=a62 y→x=y:=by
 rintro⟨ua1,ua2,ua3⟩ ⟨ub1,ub2,ub3⟩ h
 simp only [a62,Prod.mk.injEq,List.cons.injEq,D.v.injEq,V.i.injEq,true_and,and_true] at h
 simp only [h]
theorem K62_62:K_rrIn O62:=fun p0 p1 p2 r h=>bZ (x:=(p0,p1,p2)) inj62 h
theorem O63_sound:SoundB Try.prog O63:=aV O62_sound (fun x r h=>cb (ν:=n93) (aW O62_sound) Try.func93 (by kernel_rfl) mixed (by kernel_rfl) (Nat.le_of_ble_eq_true (by kernel_rfl)) (r_rrfieldMay O62 K62_62 x r h))
theorem K63_63:K_rrfieldMay O63:=fun p0 r h=>bZ (x:=p0) inj21 h
theorem O64_sound:SoundB Try.prog O64:=aV O63_sound (fun x r h=>cb (ν:=n132) (aW O63_sound) Try.func132 (by kernel_rfl) mixed (by kernel_rfl) (Nat.le_of_ble_eq_true (by kernel_rfl)) (r_rrsizeOf O63 x r h))
theorem K64_64:K_rrsizeOf O64:=fun p0 r h=>bZ (x:=p0) inj20 h
theorem O65_sound:SoundB Try.prog O65:=aV O64_sound (fun x r h=>cb (ν:=n95) (aW O64_sound) Try.func95 (by kernel_rfl) mixed (by kernel_rfl) (Nat.le_of_ble_eq_true (by kernel_rfl)) (r_rrtextMay O64 x r h))
theorem K65_65:K_rrtextMay O65:=fun p0 r h=>bZ (x:=p0) inj21 h
theorem K62_65:K_rrIn O65:=fun p0 p1 p2 r h=>(jump 48 62 3 (by decide) (by decide) _ _).trans (K62_62 p0 p1 p2 r h)
theorem O66_sound:SoundB Try.prog O66:=aV O65_sound (fun x r h=>cb (ν:=n96) (aW O65_sound) Try.func96 (by kernel_rfl) mixed (by kernel_rfl) (Nat.le_of_ble_eq_true (by kernel_rfl)) (r_rrcountMay O65 K62_65 x r h))
theorem K66_66:K_rrcountMay O66:=fun p0 r h=>bZ (x:=p0) inj32 h
theorem O67_sound:SoundB Try.prog O67:=aV O66_sound (fun x r h=>cb (ν:=n133) (aW O66_sound) Try.func133 (by kernel_rfl) mixed (by kernel_rfl) (Nat.le_of_ble_eq_true (by kernel_rfl)) (r_rrscoreAhead O66 x.1 x.2 r h))
theorem K67_67:K_rrscoreAhead O67:=fun p0 p1 r h=>bZ (x:=(p0,p1)) inj44 h
theorem O68_sound:SoundB Try.prog O68:=aV O67_sound (fun x r h=>cb (ν:=n134) (aW O67_sound) Try.func134 (by kernel_rfl) mixed (by kernel_rfl) (Nat.le_of_ble_eq_true (by kernel_rfl)) (r_rrmemberAt O67 x.1 x.2 r h))
theorem K68_68:K_rrmemberAt O68:=fun p0 p1 r h=>bZ (x:=(p0,p1)) inj49 h
theorem K62_68:K_rrIn O68:=fun p0 p1 p2 r h=>(jump 48 62 6 (by decide) (by decide) _ _).trans (K62_62 p0 p1 p2 r h)
theorem K64_68:K_rrsizeOf O68:=fun p0 r h=>(jump 132 64 4 (by decide) (by decide) _ _).trans (K64_64 p0 r h)
theorem K65_68:K_rrtextMay O68:=fun p0 r h=>(jump 95 65 3 (by decide) (by decide) _ _).trans (K65_65 p0 r h)
theorem K66_68:K_rrcountMay O68:=fun p0 r h=>(jump 96 66 2 (by decide) (by decide) _ _).trans (K66_66 p0 r h)
theorem K63_68:K_rrfieldMay O68:=fun p0 r h=>(jump 93 63 5 (by decide) (by decide) _ _).trans (K63_63 p0 r h)
theorem K67_68:K_rrscoreAhead O68:=fun p0 p1 r h=>(jump 133 67 1 (by decide) (by decide) _ _).trans (K67_67 p0 p1 r h)
theorem O69_sound:SoundB Try.prog O69:=aV O68_sound (fun x r h=>cb (ν:=n94) (aW O68_sound) Try.func94 (by kernel_rfl) mixed (by kernel_rfl) (Nat.le_of_ble_eq_true (by kernel_rfl)) (r_rrValueFault O68 K62_68 K64_68 K65_68 K66_68 K63_68 K67_68 K68_68 x r h))
theorem K69_69:K_rrValueFault O69:=fun p0 r h=>bZ (x:=p0) inj20 h
theorem K62_69:K_rrIn O69:=fun p0 p1 p2 r h=>(jump 48 62 7 (by decide) (by decide) _ _).trans (K62_62 p0 p1 p2 r h)
theorem K63_69:K_rrfieldMay O69:=fun p0 r h=>(jump 93 63 6 (by decide) (by decide) _ _).trans (K63_63 p0 r h)
theorem O70_sound:SoundB Try.prog O70:=aV O69_sound (fun x r h=>cb (ν:=n73) (aW O69_sound) Try.func73 (by kernel_rfl) mixed (by kernel_rfl) (Nat.le_of_ble_eq_true (by kernel_rfl)) (r_rrStoreFault O69 K62_69 K63_69 K69_69 x r h))
theorem K70_70:K_rrStoreFault O70:=fun p0 r h=>bZ (x:=p0) inj51 h
theorem K62_70:K_rrIn O70:=fun p0 p1 p2 r h=>(jump 48 62 8 (by decide) (by decide) _ _).trans (K62_62 p0 p1 p2 r h)
theorem O71_sound:SoundB Try.prog O71:=aV O70_sound (fun x r h=>cb (ν:=n51) (aW O70_sound) Try.func51 (by kernel_rfl) mixed (by kernel_rfl) (Nat.le_of_ble_eq_true (by kernel_rfl)) (r_rrnumberMay O70 K62_70 x r h))
theorem K71_71:K_rrnumberMay O71:=fun p0 r h=>bZ (x:=p0) inj32 h
theorem K62_71:K_rrIn O71:=fun p0 p1 p2 r h=>(jump 48 62 9 (by decide) (by decide) _ _).trans (K62_62 p0 p1 p2 r h)
theorem K65_71:K_rrtextMay O71:=fun p0 r h=>(jump 95 65 6 (by decide) (by decide) _ _).trans (K65_65 p0 r h)
theorem K66_71:K_rrcountMay O71:=fun p0 r h=>(jump 96 66 5 (by decide) (by decide) _ _).trans (K66_66 p0 r h)
theorem O72_sound:SoundB Try.prog O72:=aV O71_sound (fun x r h=>cb (ν:=n74) (aW O71_sound) Try.func74 (by kernel_rfl) mixed (by kernel_rfl) (Nat.le_of_ble_eq_true (by kernel_rfl)) (r_rrReplyFault O71 K62_71 K65_71 K66_71 x r h))
theorem K72_72:K_rrReplyFault O72:=fun p0 r h=>bZ (x:=p0) inj55 h
theorem K70_72:K_rrStoreFault O72:=fun p0 r h=>(jump 73 70 2 (by decide) (by decide) _ _).trans (K70_70 p0 r h)
theorem K62_72:K_rrIn O72:=fun p0 p1 p2 r h=>(jump 48 62 10 (by decide) (by decide) _ _).trans (K62_62 p0 p1 p2 r h)
theorem K71_72:K_rrnumberMay O72:=fun p0 r h=>(jump 51 71 1 (by decide) (by decide) _ _).trans (K71_71 p0 r h)
theorem O73_sound:SoundB Try.prog O73:=aV O72_sound (fun x r h=>cb (ν:=n41) (aW O72_sound) Try.func41 (by kernel_rfl) mixed (by kernel_rfl) (Nat.le_of_ble_eq_true (by kernel_rfl)) (r_rrMachineFault O72 K70_72 K62_72 K71_72 K72_72 x r h))
theorem K73_73:K_rrMachineFault O73:=fun p0 r h=>bZ (x:=p0) inj56 h
theorem K58_73:K_rrscan_next O73:=fun p0 r h=>(jump 35 58 15 (by decide) (by decide) _ _).trans (K58_58 p0 r h)
theorem K60_73:K_rrscan_over O73:=fun p0 r h=>(jump 36 60 13 (by decide) (by decide) _ _).trans (K60_60 p0 r h)
theorem O74_sound:SoundB Try.prog O74:=aV O73_sound (fun x r h=>cb (ν:=n37) (aW O73_sound) Try.func37 (by kernel_rfl) mixed (by kernel_rfl) (Nat.le_of_ble_eq_true (by kernel_rfl)) (r_rrscan_str O73 K58_73 K60_73 x r h))
theorem K74_74:K_rrscan_str O74:=fun p0 r h=>bZ (x:=p0) inj58 h
theorem K58_74:K_rrscan_next O74:=fun p0 r h=>(jump 35 58 16 (by decide) (by decide) _ _).trans (K58_58 p0 r h)
theorem K60_74:K_rrscan_over O74:=fun p0 r h=>(jump 36 60 14 (by decide) (by decide) _ _).trans (K60_60 p0 r h)
theorem O75_sound:SoundB Try.prog O75:=aV O74_sound (fun x r h=>cb (ν:=n39) (aW O74_sound) Try.func39 (by kernel_rfl) mixed (by kernel_rfl) (Nat.le_of_ble_eq_true (by kernel_rfl)) (r_rrscan_strs O74 K58_74 K60_74 K74_74 x r h))
theorem K75_75:K_rrscan_strs O75:=fun p0 r h=>bZ (x:=p0) inj58 h
theorem K58_75:K_rrscan_next O75:=fun p0 r h=>(jump 35 58 17 (by decide) (by decide) _ _).trans (K58_58 p0 r h)
theorem K74_75:K_rrscan_str O75:=fun p0 r h=>(jump 37 74 1 (by decide) (by decide) _ _).trans (K74_74 p0 r h)
theorem K59_75:K_rrscan_long O75:=fun p0 r h=>(jump 34 59 16 (by decide) (by decide) _ _).trans (K59_59 p0 r h)
theorem K60_75:K_rrscan_over O75:=fun p0 r h=>(jump 36 60 15 (by decide) (by decide) _ _).trans (K60_60 p0 r h)
theorem O76_sound:SoundB Try.prog O76:=aV O75_sound (fun x r h=>cb (ν:=n38) (aW O75_sound) Try.func38 (by kernel_rfl) mixed (by kernel_rfl) (Nat.le_of_ble_eq_true (by kernel_rfl)) (r_rrscan_valueNext O75 K58_75 K74_75 K59_75 K75_75 K60_75 x r h))
theorem K76_76:K_rrscan_valueNext O76:=fun p0 r h=>bZ (x:=p0) inj58 h
theorem K59_76:K_rrscan_long O76:=fun p0 r h=>(jump 34 59 17 (by decide) (by decide) _ _).trans (K59_59 p0 r h)
theorem K58_76:K_rrscan_next O76:=fun p0 r h=>(jump 35 58 18 (by decide) (by decide) _ _).trans (K58_58 p0 r h)
theorem K61_76:K_rrscan_end O76:=fun p0 p1 r h=>(jump 40 61 15 (by decide) (by decide) _ _).trans (K61_61 p0 p1 r h)
theorem K73_76:K_rrMachineFault O76:=fun p0 r h=>(jump 41 73 3 (by decide) (by decide) _ _).trans (K73_73 p0 r h)
theorem K60_76:K_rrscan_over O76:=fun p0 r h=>(jump 36 60 16 (by decide) (by decide) _ _).trans (K60_60 p0 r h)
theorem K74_76:K_rrscan_str O76:=fun p0 r h=>(jump 37 74 2 (by decide) (by decide) _ _).trans (K74_74 p0 r h)
theorem K75_76:K_rrscan_strs O76:=fun p0 r h=>(jump 39 75 1 (by decide) (by decide) _ _).trans (K75_75 p0 r h)
theorem O77_sound:SoundB Try.prog O77:=aV O76_sound (fun x r h=>cb (ν:=n9) (aW O76_sound) Try.func9 (by kernel_rfl) mixed (by kernel_rfl) (Nat.le_of_ble_eq_true (by kernel_rfl)) (r_rrMachineOf O76 K59_76 K58_76 K61_76 K73_76 K60_76 K74_76 K76_76 K75_76 x r h))
theorem K77_77:K_rrMachineOf O77:=fun p0 r h=>bZ (x:=p0) inj1 h
theorem O78_sound:SoundB Try.prog O78:=aV O77_sound (fun x r h=>cb (ν:=n76) (aW O77_sound) Try.func76 (by kernel_rfl) mixed (by kernel_rfl) (Nat.le_of_ble_eq_true (by kernel_rfl)) (r_rlsameTexts O77 x.1 x.2 r h))
theorem inj78: ∀x y,a78 x=a78 y→x=y:=by
 rintro⟨ua1,ua2⟩ ⟨ub1,ub2⟩ h
 simp only [a78,Prod.mk.injEq,List.cons.injEq,D.v.injEq,V.sl.injEq,aZ,true_and,and_true] at h
 simp only [h]
theorem K78_78:K_rlsameTexts O78:=fun p0 p1 r h=>bZ (x:=(p0,p1)) inj78 h
theorem O79_sound:SoundB Try.prog O79:=aV O78_sound (fun x r h=>cb (ν:=n75) (aW O78_sound) Try.func75 (by kernel_rfl) mixed (by kernel_rfl) (Nat.le_of_ble_eq_true (by kernel_rfl)) (r_rlsameValue O78 K78_78 x.1 x.2 r h))
theorem inj79: ∀x y,a79 x=a79 y→x=y:=by
 rintro⟨⟨ua1,ua2,ua3,ua4,ua5,ua6⟩,⟨ua7,ua8,ua9,ua10,ua11,ua12⟩⟩ ⟨⟨ub1,ub2,ub3,ub4,ub5,ub6⟩,⟨ub7,ub8,ub9,ub10,ub11,ub12⟩⟩ h
 simp only [a79,Prod.mk.injEq,List.cons.injEq,D.v.injEq,D.agg.injEq,V.i.injEq,V.s.injEq,V.sl.injEq,aZ,GPair.map_inj,GScore.map_inj,true_and,and_true] at h
 simp only [h]
theorem K79_79:K_rlsameValue O79:=fun p0 p1 r h=>bZ (x:=(p0,p1)) inj79 h
theorem O80_sound:SoundB Try.prog O80:=aV O79_sound (fun x r h=>cb (ν:=n42) (aW O79_sound) Try.func42 (by kernel_rfl) mixed (by kernel_rfl) (Nat.le_of_ble_eq_true (by kernel_rfl)) (r_rlsameStore O79 K79_79 x.1 x.2 r h))
theorem inj80: ∀x y,a80 x=a80 y→x=y:=by
 rintro⟨⟨ua1,ua2⟩,⟨ua3,ua4⟩⟩ ⟨⟨ub1,ub2⟩,⟨ub3,ub4⟩⟩ h
 simp only [a80,Prod.mk.injEq,List.cons.injEq,D.v.injEq,D.agg.injEq,V.i.injEq,V.sl.injEq,GEntry.map_inj,true_and,and_true] at h
 simp only [h]
theorem K80_80:K_rlsameStore O80:=fun p0 p1 r h=>bZ (x:=(p0,p1)) inj80 h
theorem K78_80:K_rlsameTexts O80:=fun p0 p1 r h=>(jump 76 78 2 (by decide) (by decide) _ _).trans (K78_78 p0 p1 r h)
theorem O81_sound:SoundB Try.prog O81:=aV O80_sound (fun x r h=>cb (ν:=n43) (aW O80_sound) Try.func43 (by kernel_rfl) mixed (by kernel_rfl) (Nat.le_of_ble_eq_true (by kernel_rfl)) (r_rlsameReply O80 K78_80 x.1 x.2 r h))
theorem inj81: ∀x y,a81 x=a81 y→x=y:=by
 rintro⟨⟨ua1,ua2,ua3,ua4⟩,⟨ua5,ua6,ua7,ua8⟩⟩ ⟨⟨ub1,ub2,ub3,ub4⟩,⟨ub5,ub6,ub7,ub8⟩⟩ h
 simp only [a81,Prod.mk.injEq,List.cons.injEq,D.v.injEq,D.agg.injEq,V.i.injEq,V.s.injEq,V.sl.injEq,aZ,true_and,and_true] at h
 simp only [h]
theorem K81_81:K_rlsameReply O81:=fun p0 p1 r h=>bZ (x:=(p0,p1)) inj81 h
theorem K80_81:K_rlsameStore O81:=fun p0 p1 r h=>(jump 42 80 1 (by decide) (by decide) _ _).trans (K80_80 p0 p1 r h)
theorem O82_sound:SoundB Try.prog O82:=aV O81_sound (fun x r h=>cb (ν:=n10) (aW O81_sound) Try.func10 (by kernel_rfl) mixed (by kernel_rfl) (Nat.le_of_ble_eq_true (by kernel_rfl)) (r_rlsameMachine O81 K80_81 K81_81 x.1 x.2 r h))
theorem inj82: ∀x y,a82 x=a82 y→x=y:=by
 rintro⟨⟨⟨ua1,ua2⟩,ua3,ua4⟩,⟨⟨ua5,ua6⟩,ua7,ua8⟩⟩ ⟨⟨⟨ub1,ub2⟩,ub3,ub4⟩,⟨⟨ub5,ub6⟩,ub7,ub8⟩⟩ h
 simp only [a82,Prod.mk.injEq,List.cons.injEq,D.v.injEq,D.agg.injEq,V.i.injEq,V.sl.injEq,GEntry.map_inj,GClient.map_inj,true_and,and_true] at h
 simp only [h]
theorem K82_82:K_rlsameMachine O82:=fun p0 p1 r h=>bZ (x:=(p0,p1)) inj82 h
theorem K1_82:K_rloctets_z O82:=fun p0 r h=>(jump 8 1 81 (by decide) (by decide) _ _).trans (K1_1 p0 r h)
theorem K57_82:K_wire_Decode O82:=fun p0 r h=>(jump 7 57 25 (by decide) (by decide) _ _).trans (K57_57 p0 r h)
theorem K77_82:K_rrMachineOf O82:=fun p0 r h=>(jump 9 77 5 (by decide) (by decide) _ _).trans (K77_77 p0 r h)
theorem sem (rs:List (List V)) (h:eC Try.prog [22] rs):Mx.Sem Try.prog 3 (fD Try.prog [22] rs) [] (.v (.b true)) []:=by
 obtain⟨r0,_,rfl,a0,b0⟩:=eC.cons h
 obtain rfl:=eC.nil b0
 obtain⟨l0,j0,rfl,o0,q0⟩:=dB (n:=1) (m:=1) Try.underlying22 (by kernel_rfl) (by kernel_rfl) a0
 obtain⟨x0,rfl,p0⟩:=dU (f:=cE) (ok:=fun y=>((IntKind.u8).min≤y∧y≤(IntKind.u8).max)) (fun r hr=>by obtain⟨s,h1,h2⟩:=has_int Try.underlying5 (q0 r hr);exact⟨s,h1,h2⟩)
 rw [List.length_map] at o0
 simp only [fD,argD_slice Try.underlying22]
 exact cb (ν:=n3) (aW O82_sound) Try.func3 (by kernel_rfl) mixed (by kernel_rfl) (Nat.le_of_ble_eq_true (by kernel_rfl)) (r_rlWireDecodes O82 K1_82 K57_82 K77_82 K82_82 x0 true (WireDecodes_pure x0 ⟨o0,p0⟩))
end CWireDecodes
end Go.Proofs.Ytgcglmoogaldbaa
