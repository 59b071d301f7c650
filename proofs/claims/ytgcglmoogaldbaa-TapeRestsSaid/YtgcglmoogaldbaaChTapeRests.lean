/- The chain of contracts of the law TapeRests, over the functions that it reaches. -/
import Derived.Test.YtgcglmoogaldbaaTapeRestsZa
import Derived.Test.YtgcglmoogaldbaaTapeRestsZb
import Derived.Test.YtgcglmoogaldbaaTapeRestsZc
import Derived.Test.YtgcglmoogaldbaaTapeRestsZd
import Derived.Test.YtgcglmoogaldbaaTapeRestsD
import Derived.Test.YtgcglmoogaldbaaTapeRestsP
set_option linter.unusedSimpArgs false
set_option linter.unusedVariables false
set_option linter.constructorNameAsVariable false
set_option linter.unnecessarySimpa false
set_option maxRecDepth 100000
namespace Go.Proofs.Ytgcglmoogaldbaa
open Go Go.Mx Go.Proofs
namespace CTapeRests
theorem argD_slice {P:Program} {t e:TypeId} {x:V} (hu:P.underlying t=some (.slice e)):argD P t [x]= .v x:=by simp only [argD,hu]
theorem argD_str {P:Program} {t:TypeId} {x:V} (hu:P.underlying t=some .string):argD P t [x]= .v x:=by simp only [argD,hu]
def a1 (x:GLog):List D×bH:=([.agg [.v (.i .i64 x.fBase),.v (.i .i64 x.fBaseTerm),.v (.sl 10 (ah GItem.row x.fItems))]],[])
noncomputable def O1:aj:=aj.addF noC 15 a1 (fun x=>rrLogCopy_z x) (fun _ (r:GLog)=>(.agg [.v (.i .i64 r.fBase),.v (.i .i64 r.fBaseTerm),.v (.sl 10 (ah GItem.row r.fItems))],[]))
def a2 (x:GValue):List D×bH:=([.agg [.v (.i .i64 x.fKind),.v (.s x.fText),.v (.i .i64 x.fCount),.v (.sl 2 (ah GPair.row x.fPairs)),.v (.sl 1 (ah bY x.fItems)),.v (.sl 2 (ah GScore.row x.fScores))]],[])
noncomputable def O2:aj:=aj.addF O1 102 a2 (fun x=>rrValueCopy x) (fun _ (r:GValue)=>(.agg [.v (.i .i64 r.fKind),.v (.s r.fText),.v (.i .i64 r.fCount),.own 2 (ah GPair.row r.fPairs),.own 1 (ah bY r.fItems),.own 2 (ah GScore.row r.fScores)],[]))
def a3 (x:GStore):List D×bH:=([.agg [.v (.i .i64 x.fNow),.v (.sl 8 (ah GEntry.row x.fEntries))]],[])
noncomputable def O3:aj:=aj.addF O2 81 a3 (fun x=>rrStoreCopy x) (fun _ (r:GStore)=>(.agg [.v (.i .i64 r.fNow),.own 8 (ah GEntry.row r.fEntries)],[]))
def a4 (x:GReply):List D×bH:=([.agg [.v (.i .i64 x.fCode),.v (.s x.fText),.v (.i .i64 x.fN),.v (.sl 1 (ah bY x.fList))]],[])
noncomputable def O4:aj:=aj.addF O3 82 a4 (fun x=>rrreplyCopy x) (fun _ (r:GReply)=>(.agg [.v (.i .i64 r.fCode),.v (.s r.fText),.v (.i .i64 r.fN),.own 1 (ah bY r.fList)],[]))
def a5 (x:GMachine):List D×bH:=([.agg [.v (.i .i64 x.fStore.fNow),.v (.sl 8 (ah GEntry.row x.fStore.fEntries)),.v (.i .i64 x.fNext),.v (.sl 7 (ah GClient.row x.fClients))]],[])
noncomputable def O5:aj:=aj.addF O4 55 a5 (fun x=>rrMachineCopy_z x) (fun _ (r:GMachine)=>(.agg [.v (.i .i64 r.fStore.fNow),.v (.sl 8 (ah GEntry.row r.fStore.fEntries)),.v (.i .i64 r.fNext),.v (.sl 7 (ah GClient.row r.fClients))],[]))
def a6 (x:GSnap):List D×bH:=([.agg [.v (.i .i64 x.fIndex),.v (.i .i64 x.fTerm),.v (.i .i64 x.fMachine.fStore.fNow),.v (.sl 8 (ah GEntry.row x.fMachine.fStore.fEntries)),.v (.i .i64 x.fMachine.fNext),.v (.sl 7 (ah GClient.row x.fMachine.fClients))]],[])
noncomputable def O6:aj:=aj.addF O5 16 a6 (fun x=>rlsnaps_z x) (fun _ (r:GSnap)=>(.agg [.v (.i .i64 r.fIndex),.v (.i .i64 r.fTerm),.v (.i .i64 r.fMachine.fStore.fNow),.v (.sl 8 (ah GEntry.row r.fMachine.fStore.fEntries)),.v (.i .i64 r.fMachine.fNext),.v (.sl 7 (ah GClient.row r.fMachine.fClients))],[]))
def a7 (x:Int):List D×bH:=([.v (.i .i64 x)],[])
noncomputable def O7:aj:=aj.addF O6 97 a7 (fun x=>client_number x) (fun _ (r:Bool)=>(.v (.b r),[]))
def a8 (x:ByteArray):List D×bH:=([.v (.s x)],[])
noncomputable def O8:aj:=aj.addF O7 119 a8 (fun x=>value_field x) (fun _ (r:Bool)=>(.v (.b r),[]))
noncomputable def O9:aj:=aj.addF O8 115 a8 (fun x=>value_text x) (fun _ (r:Bool)=>(.v (.b r),[]))
noncomputable def O10:aj:=aj.addF O9 122 a7 (fun x=>value_count x) (fun _ (r:Bool)=>(.v (.b r),[]))
def a11 (x:GCommand):List D×bH:=([.agg [.v (.i .i64 x.fKind),.v (.s x.fKey),.v (.s x.fField),.v (.s x.fText),.v (.i .i64 x.fN)]],[])
noncomputable def O11:aj:=aj.addF O10 98 a11 (fun x=>vaCCommand x) (fun _ (r:Int)=>(.v (.i .i64 r),[]))
def a12 (x:GCall):List D×bH:=([.agg [.v (.i .i64 x.fClient),.v (.i .i64 x.fSeq),.v (.i .i64 x.fCommand.fKind),.v (.s x.fCommand.fKey),.v (.s x.fCommand.fField),.v (.s x.fCommand.fText),.v (.i .i64 x.fCommand.fN)]],[])
noncomputable def O12:aj:=aj.addF O11 77 a12 (fun x=>clCCall x) (fun _ (r:Int)=>(.v (.i .i64 r),[]))
def a13 (x:GItem):List D×bH:=([.agg [.v (.i .i64 x.fTerm),.v (.i .i64 x.fTime),.v (.b x.fNop),.v (.i .i64 x.fCall.fClient),.v (.i .i64 x.fCall.fSeq),.v (.i .i64 x.fCall.fCommand.fKind),.v (.s x.fCall.fCommand.fKey),.v (.s x.fCall.fCommand.fField),.v (.s x.fCall.fCommand.fText),.v (.i .i64 x.fCall.fCommand.fN)]],[])
noncomputable def O13:aj:=aj.addF O12 46 a13 (fun x=>wire_CheckItem x) (fun _ (r:Int)=>(.v (.i .i64 r),[]))
noncomputable def O14:aj:=aj.addF O13 53 a1 (fun x=>ledger_Check x) (fun _ (r:Int)=>(.v (.i .i64 r),[]))
noncomputable def O15:aj:=aj.addF O14 45 a7 (fun x=>tape_number x) (fun _ (r:Bool)=>(.v (.b r),[]))
noncomputable def O16:aj:=aj.addF O15 114 a2 (fun x=>value_elements x) (fun _ (r:Int)=>(.v (.i .i64 r),[]))
noncomputable def O17:aj:=aj.addF O16 116 a8 (fun x=>vaC_fn1 x) (fun _ (r:Bool)=>(.v (.b r),[]))
def a18 (x:(List ByteArray)):List D×bH:=([.v (.sl 1 (ah bY x)),.clo 116 []],[])
noncomputable def O18:aj:=aj.addF O17 131 a18 (fun x=>sISvaC_fn1 x) (fun _ (r:Int)=>(.v (.i .i64 r),[]))
noncomputable def O19:aj:=aj.addF O18 91 a18 (fun x=>sCSvaC_fn1 x) (fun _ (r:Bool)=>(.v (.b r),[]))
def a20 (x:GPair):List D×bH:=([.agg [.v (.s x.fField),.v (.s x.fText)]],[])
noncomputable def O20:aj:=aj.addF O19 118 a20 (fun x=>vaC_fn2 x) (fun _ (r:Bool)=>(.v (.b r),[]))
def a21 (x:(List GPair)):List D×bH:=([.v (.sl 2 (ah GPair.row x)),.clo 118 []],[])
noncomputable def O21:aj:=aj.addF O20 136 a21 (fun x=>sIPvaC_fn2 x) (fun _ (r:Int)=>(.v (.i .i64 r),[]))
noncomputable def O22:aj:=aj.addF O21 117 a21 (fun x=>sCPvaC_fn2 x) (fun _ (r:Bool)=>(.v (.b r),[]))
def a23 (x:GScore):List D×bH:=([.agg [.v (.s x.fMember),.v (.i .i64 x.fN)]],[])
noncomputable def O23:aj:=aj.addF O22 121 a23 (fun x=>vaC_fn3 x) (fun _ (r:Bool)=>(.v (.b r),[]))
def a24 (x:(List GScore)):List D×bH:=([.v (.sl 2 (ah GScore.row x)),.clo 121 []],[])
noncomputable def O24:aj:=aj.addF O23 137 a24 (fun x=>sIRvaC_fn3 x) (fun _ (r:Int)=>(.v (.i .i64 r),[]))
noncomputable def O25:aj:=aj.addF O24 120 a24 (fun x=>sCRvaC_fn3 x) (fun _ (r:Bool)=>(.v (.b r),[]))
noncomputable def O26:aj:=aj.addF O25 123 a23 (fun x=>vaC_fn4 x) (fun _ (r:Bool)=>(.v (.b r),[]))
def a27 (x:(List GScore)):List D×bH:=([.v (.sl 2 (ah GScore.row x)),.clo 123 []],[])
noncomputable def O27:aj:=aj.addF O26 137 a27 (fun x=>sIRvaC_fn4 x) (fun _ (r:Int)=>(.v (.i .i64 r),[]))
noncomputable def O28:aj:=aj.addF O27 120 a27 (fun x=>sCRvaC_fn4 x) (fun _ (r:Bool)=>(.v (.b r),[]))
def a29 (x:ByteArray×ByteArray):List D×bH:=([.v (.s x.1),.v (.s x.2)],[])
noncomputable def O29:aj:=aj.addF O28 144 a29 (fun x=>cmpstring x.1 x.2) (fun _ (r:Int)=>(.v (.i .i64 r),[]))
noncomputable def O30:aj:=aj.addF O29 140 a29 (fun x=>ibCompareString x.1 x.2) (fun _ (r:Int)=>(.v (.i .i64 r),[]))
noncomputable def O31:aj:=aj.addF O30 129 a29 (fun x=>strings_Compare x.1 x.2) (fun _ (r:Int)=>(.v (.i .i64 r),[]))
def a32 (x:GPair×GPair):List D×bH:=([.agg [.v (.s x.1.fField),.v (.s x.1.fText)],.agg [.v (.s x.2.fField),.v (.s x.2.fText)]],[])
noncomputable def O32:aj:=aj.addF O31 125 a32 (fun x=>value_byField x.1 x.2) (fun _ (r:Int)=>(.v (.i .i64 r),[]))
def a33 (x:(List GPair)):List D×bH:=([.v (.sl 2 (ah GPair.row x)),.clo 125 []],[])
noncomputable def O33:aj:=aj.addF O32 124 a33 (fun x=>value_rising_Pair_value_byField x) (fun _ (r:Bool)=>(.v (.b r),[]))
noncomputable def O34:aj:=aj.addF O33 143 a7 (fun x=>cmp_isNaN_int x) (fun _ (r:Bool)=>(.v (.b r),[]))
def a35 (x:Int×Int):List D×bH:=([.v (.i .i64 x.1),.v (.i .i64 x.2)],[])
noncomputable def O35:aj:=aj.addF O34 139 a35 (fun x=>cmp_Compare_int x.1 x.2) (fun _ (r:Int)=>(.v (.i .i64 r),[]))
def a36 (x:(List Int)):List D×bH:=([.v (.sl 1 (ah rowI x))],[])
noncomputable def O36:aj:=aj.addF O35 138 a36 (fun x=>cmp_Or_int x) (fun _ (r:Int)=>(.v (.i .i64 r),[]))
def a37 (x:GScore×GScore):List D×bH:=([.agg [.v (.s x.1.fMember),.v (.i .i64 x.1.fN)],.agg [.v (.s x.2.fMember),.v (.i .i64 x.2.fN)]],[])
noncomputable def O37:aj:=aj.addF O36 127 a37 (fun x=>value_byScore x.1 x.2) (fun _ (r:Int)=>(.v (.i .i64 r),[]))
def a38 (x:(List GScore)):List D×bH:=([.v (.sl 2 (ah GScore.row x)),.clo 127 []],[])
noncomputable def O38:aj:=aj.addF O37 126 a38 (fun x=>value_rising_Score_value_byScore x) (fun _ (r:Bool)=>(.v (.b r),[]))
def a39 (x:(List ByteArray)):List D×bH:=([.v (.sl 1 (ah bY x)),.clo 129 []],[])
noncomputable def O39:aj:=aj.addF O38 128 a39 (fun x=>value_rising_string_strings_Compare x) (fun _ (r:Bool)=>(.v (.b r),[]))
def a40 (x:GScore×ByteArray):List D×bH:=([.agg [.v (.s x.1.fMember),.v (.i .i64 x.1.fN)],.ptr 0 0],[[.v (.s x.2)]])
noncomputable def O40:aj:=aj.addF O39 141 a40 (fun x=>value_rank_fn1 x.1 x.2) (fun _ (r:Bool×ByteArray)=>(.v (.b r.1),[[.v (.s r.2)]]))
def a41 (x:(List GScore)×ByteArray):List D×bH:=([.v (.sl 2 (ah GScore.row x.1)),.clo 141 [.ptr 0 0]],[[.v (.s x.2)]])
noncomputable def O41:aj:=aj.addF O40 137 a41 (fun x=>sIRvalue_rank_fn1 x.1 x.2) (fun _ (r:Int×ByteArray)=>(.v (.i .i64 r.1),[[.v (.s r.2)]]))
def a42 (x:(List GScore)×ByteArray):List D×bH:=([.v (.sl 2 (ah GScore.row x.1)),.v (.s x.2)],[])
noncomputable def O42:aj:=aj.addF O41 130 a42 (fun x=>value_rank x.1 x.2) (fun _ (r:Int)=>(.v (.i .i64 r),[]))
noncomputable def O43:aj:=aj.addF O42 90 a2 (fun x=>vaC x) (fun _ (r:Int)=>(.v (.i .i64 r),[]))
noncomputable def O44:aj:=aj.addF O43 71 a3 (fun x=>store_Check x) (fun _ (r:Int)=>(.v (.i .i64 r),[]))
noncomputable def O45:aj:=aj.addF O44 92 a8 (fun x=>clCReply_fn1 x) (fun _ (r:Bool)=>(.v (.b r),[]))
def a46 (x:(List ByteArray)):List D×bH:=([.v (.sl 1 (ah bY x)),.clo 92 []],[])
noncomputable def O46:aj:=aj.addF O45 131 a46 (fun x=>sISclCReply_fn1 x) (fun _ (r:Int)=>(.v (.i .i64 r),[]))
noncomputable def O47:aj:=aj.addF O46 91 a46 (fun x=>sCSclCReply_fn1 x) (fun _ (r:Bool)=>(.v (.b r),[]))
noncomputable def O48:aj:=aj.addF O47 72 a4 (fun x=>clCReply x) (fun _ (r:Int)=>(.v (.i .i64 r),[]))
noncomputable def O49:aj:=aj.addF O48 33 a5 (fun x=>clC x) (fun _ (r:Int)=>(.v (.i .i64 r),[]))
noncomputable def O50:aj:=aj.addF O49 47 a6 (fun x=>tape_CheckSnap x) (fun _ (r:Int)=>(.v (.i .i64 r),[]))
def a51 (x:GLog×Int):List D×bH:=([.agg [.v (.i .i64 x.1.fBase),.v (.i .i64 x.1.fBaseTerm),.v (.sl 10 (ah GItem.row x.1.fItems))],.v (.i .i64 x.2)],[])
noncomputable def O51:aj:=aj.addF O50 100 a51 (fun x=>ledger_term x.1 x.2) (fun _ (r:Int×Int)=>(.tup [.v (.i .i64 r.1),.v (.i .i64 r.2)],[]))
noncomputable def O52:aj:=aj.addF O51 79 a51 (fun x=>ledger_Term x.1 x.2) (fun _ (r:Int×Int)=>(.tup [.v (.i .i64 r.1),.v (.i .i64 r.2)],[]))
def a53 (x:(List GItem)):List D×bH:=([.v (.sl 10 (ah GItem.row x))],[])
noncomputable def O53:aj:=aj.addF O52 101 a53 (fun x=>sKItem_Item x) (fun _ (r:(List GItem))=>(.own 10 (ah GItem.row r),[]))
noncomputable def O54:aj:=aj.addF O53 80 a51 (fun x=>ledger_Trim x.1 x.2) (fun _ (r:GLog×Int)=>(.tup [.agg [.v (.i .i64 r.1.fBase),.v (.i .i64 r.1.fBaseTerm),.v (.sl 10 (ah GItem.row r.1.fItems))],.v (.i .i64 r.2)],[]))
def a55 (x:GLog×GSnap):List D×bH:=([.agg [.v (.i .i64 x.1.fBase),.v (.i .i64 x.1.fBaseTerm),.v (.sl 10 (ah GItem.row x.1.fItems))],.agg [.v (.i .i64 x.2.fIndex),.v (.i .i64 x.2.fTerm),.v (.i .i64 x.2.fMachine.fStore.fNow),.v (.sl 8 (ah GEntry.row x.2.fMachine.fStore.fEntries)),.v (.i .i64 x.2.fMachine.fNext),.v (.sl 7 (ah GClient.row x.2.fMachine.fClients))]],[])
noncomputable def O55:aj:=aj.addF O54 54 a55 (fun x=>tape_rest x.1 x.2) (fun _ (r:GLog)=>(.agg [.v (.i .i64 r.fBase),.v (.i .i64 r.fBaseTerm),.v (.sl 10 (ah GItem.row r.fItems))],[]))
noncomputable def O56:aj:=aj.addF O55 14 a55 (fun x=>tape_Rest x.1 x.2) (fun _ (r:GLog×Int)=>(.tup [.agg [.v (.i .i64 r.1.fBase),.v (.i .i64 r.1.fBaseTerm),.v (.sl 10 (ah GItem.row r.1.fItems))],.v (.i .i64 r.2)],[]))
def a57 (x:Int×Int×Int):List D×bH:=([.v (.i .i64 x.1),.v (.i .i64 x.2.1),.v (.i .i64 x.2.2)],[])
noncomputable def O57:aj:=aj.addF O56 48 a57 (fun x=>rrIn x.1 x.2.1 x.2.2) (fun _ (r:Bool)=>(.v (.b r),[]))
noncomputable def O58:aj:=aj.addF O57 51 a7 (fun x=>rrnumberMay x) (fun _ (r:Bool)=>(.v (.b r),[]))
noncomputable def O59:aj:=aj.addF O58 93 a8 (fun x=>rrfieldMay x) (fun _ (r:Bool)=>(.v (.b r),[]))
noncomputable def O60:aj:=aj.addF O59 95 a8 (fun x=>rrtextMay x) (fun _ (r:Bool)=>(.v (.b r),[]))
noncomputable def O61:aj:=aj.addF O60 96 a7 (fun x=>rrcountMay x) (fun _ (r:Bool)=>(.v (.b r),[]))
noncomputable def O62:aj:=aj.addF O61 99 a11 (fun x=>rrCommandFault x) (fun _ (r:Int)=>(.v (.i .i64 r),[]))
noncomputable def O63:aj:=aj.addF O62 78 a12 (fun x=>rrCallFault x) (fun _ (r:Int)=>(.v (.i .i64 r),[]))
noncomputable def O64:aj:=aj.addF O63 52 a13 (fun x=>rrItemFault x) (fun _ (r:Int)=>(.v (.i .i64 r),[]))
noncomputable def O65:aj:=aj.addF O64 56 a1 (fun x=>rrLogFault x) (fun _ (r:Int)=>(.v (.i .i64 r),[]))
noncomputable def O66:aj:=aj.addF O65 132 a2 (fun x=>rrsizeOf x) (fun _ (r:Int)=>(.v (.i .i64 r),[]))
noncomputable def O67:aj:=aj.addF O66 133 a37 (fun x=>rrscoreAhead x.1 x.2) (fun _ (r:Bool)=>(.v (.b r),[]))
noncomputable def O68:aj:=aj.addF O67 134 a42 (fun x=>rrmemberAt x.1 x.2) (fun _ (r:Int)=>(.v (.i .i64 r),[]))
noncomputable def O69:aj:=aj.addF O68 94 a2 (fun x=>rrValueFault x) (fun _ (r:Int)=>(.v (.i .i64 r),[]))
noncomputable def O70:aj:=aj.addF O69 73 a3 (fun x=>rrStoreFault x) (fun _ (r:Int)=>(.v (.i .i64 r),[]))
noncomputable def O71:aj:=aj.addF O70 74 a4 (fun x=>rrReplyFault x) (fun _ (r:Int)=>(.v (.i .i64 r),[]))
noncomputable def O72:aj:=aj.addF O71 41 a5 (fun x=>rrMachineFault x) (fun _ (r:Int)=>(.v (.i .i64 r),[]))
noncomputable def O73:aj:=aj.addF O72 50 a6 (fun x=>rrSnapFault x) (fun _ (r:Int)=>(.v (.i .i64 r),[]))
noncomputable def O74:aj:=aj.addF O73 103 a1 (fun x=>rrlastOf x) (fun _ (r:Int)=>(.v (.i .i64 r),[]))
noncomputable def O75:aj:=aj.addF O74 83 a51 (fun x=>rrtermAt x.1 x.2) (fun _ (r:Int)=>(.v (.i .i64 r),[]))
noncomputable def O76:aj:=aj.addF O75 84 a51 (fun x=>rrTrimmed x.1 x.2) (fun _ (r:GLog×Int)=>(.tup [.agg [.v (.i .i64 r.1.fBase),.v (.i .i64 r.1.fBaseTerm),.v (.sl 10 (ah GItem.row r.1.fItems))],.v (.i .i64 r.2)],[]))
noncomputable def O77:aj:=aj.addF O76 57 a55 (fun x=>rrrested x.1 x.2) (fun _ (r:GLog)=>(.agg [.v (.i .i64 r.fBase),.v (.i .i64 r.fBaseTerm),.v (.sl 10 (ah GItem.row r.fItems))],[]))
noncomputable def O78:aj:=aj.addF O77 17 a55 (fun x=>rrRestOf x.1 x.2) (fun _ (r:GLog×Int)=>(.tup [.agg [.v (.i .i64 r.1.fBase),.v (.i .i64 r.1.fBaseTerm),.v (.sl 10 (ah GItem.row r.1.fItems))],.v (.i .i64 r.2)],[]))
def a79 (x:(List GItem)×(List GItem)):List D×bH:=([.v (.sl 10 (ah GItem.row x.1)),.v (.sl 10 (ah GItem.row x.2))],[])
noncomputable def O79:aj:=aj.addF O78 58 a79 (fun x=>rlsameItems x.1 x.2) (fun _ (r:Bool)=>(.v (.b r),[]))
def a80 (x:GLog×GLog):List D×bH:=([.agg [.v (.i .i64 x.1.fBase),.v (.i .i64 x.1.fBaseTerm),.v (.sl 10 (ah GItem.row x.1.fItems))],.agg [.v (.i .i64 x.2.fBase),.v (.i .i64 x.2.fBaseTerm),.v (.sl 10 (ah GItem.row x.2.fItems))]],[])
noncomputable def O80:aj:=aj.addF O79 18 a80 (fun x=>rlsameLog x.1 x.2) (fun _ (r:Bool)=>(.v (.b r),[]))
def FF:Nat→Nat
 |1=>15
 |2=>102
 |3=>81
 |4=>82
 |5=>55
 |6=>16
 |7=>97
 |8=>119
 |9=>115
 |10=>122
 |11=>98
 |12=>77
 |13=>46
 |14=>53
 |15=>45
 |16=>114
 |17=>116
 |18=>131
 |19=>91
 |20=>118
 |21=>136
 |22=>117
 |23=>121
 |24=>137
 |25=>120
 |26=>123
 |27=>137
 |28=>120
 |29=>144
 |30=>140
 |31=>129
 |32=>125
 |33=>124
 |34=>143
 |35=>139
 |36=>138
 |37=>127
 |38=>126
 |39=>128
 |40=>141
 |41=>137
 |42=>130
 |43=>90
 |44=>71
 |45=>92
 |46=>131
 |47=>91
 |48=>72
 |49=>33
 |50=>47
 |51=>100
 |52=>79
 |53=>101
 |54=>80
 |55=>54
 |56=>14
 |57=>48
 |58=>51
 |59=>93
 |60=>95
 |61=>96
 |62=>99
 |63=>78
 |64=>52
 |65=>56
 |66=>132
 |67=>133
 |68=>134
 |69=>94
 |70=>73
 |71=>74
 |72=>41
 |73=>50
 |74=>103
 |75=>83
 |76=>84
 |77=>57
 |78=>17
 |79=>58
 |80=>18
 |_=>0
noncomputable def OO:Nat→aj
 |0=>noC
 |1=>O1
 |2=>O2
 |3=>O3
 |4=>O4
 |5=>O5
 |6=>O6
 |7=>O7
 |8=>O8
 |9=>O9
 |10=>O10
 |11=>O11
 |12=>O12
 |13=>O13
 |14=>O14
 |15=>O15
 |16=>O16
 |17=>O17
 |18=>O18
 |19=>O19
 |20=>O20
 |21=>O21
 |22=>O22
 |23=>O23
 |24=>O24
 |25=>O25
 |26=>O26
 |27=>O27
 |28=>O28
 |29=>O29
 |30=>O30
 |31=>O31
 |32=>O32
 |33=>O33
 |34=>O34
 |35=>O35
 |36=>O36
 |37=>O37
 |38=>O38
 |39=>O39
 |40=>O40
 |41=>O41
 |42=>O42
 |43=>O43
 |44=>O44
 |45=>O45
 |46=>O46
 |47=>O47
 |48=>O48
 |49=>O49
 |50=>O50
 |51=>O51
 |52=>O52
 |53=>O53
 |54=>O54
 |55=>O55
 |56=>O56
 |57=>O57
 |58=>O58
 |59=>O59
 |60=>O60
 |61=>O61
 |62=>O62
 |63=>O63
 |64=>O64
 |65=>O65
 |66=>O66
 |67=>O67
 |68=>O68
 |69=>O69
 |70=>O70
 |71=>O71
 |72=>O72
 |73=>O73
 |74=>O74
 |75=>O75
 |76=>O76
 |77=>O77
 |78=>O78
 |79=>O79
 |80=>O80
 |_=>noC
theorem up {C:aj} {f f1:Nat} {X R:Type} {arg:X→List D×bH} {G:X→Option R} {res:X→R→D×bH} (h:f≠f1):(aj.addF C f1 arg G res) f=C f:=funext fun a=>funext fun S=>ac h a S
theorem step1: ∀n f,n<80→f≠FF (n+1)→OO (n+1) f=OO n f
 |0,f,_,h=>(up h:O1 f=noC f)
 |1,f,_,h=>(up h:O2 f=O1 f)
 |2,f,_,h=>(up h:O3 f=O2 f)
 |3,f,_,h=>(up h:O4 f=O3 f)
 |4,f,_,h=>(up h:O5 f=O4 f)
 |5,f,_,h=>(up h:O6 f=O5 f)
 |6,f,_,h=>(up h:O7 f=O6 f)
 |7,f,_,h=>(up h:O8 f=O7 f)
 |8,f,_,h=>(up h:O9 f=O8 f)
 |9,f,_,h=>(up h:O10 f=O9 f)
 |10,f,_,h=>(up h:O11 f=O10 f)
 |11,f,_,h=>(up h:O12 f=O11 f)
 |12,f,_,h=>(up h:O13 f=O12 f)
 |13,f,_,h=>(up h:O14 f=O13 f)
 |14,f,_,h=>(up h:O15 f=O14 f)
 |15,f,_,h=>(up h:O16 f=O15 f)
 |16,f,_,h=>(up h:O17 f=O16 f)
 |17,f,_,h=>(up h:O18 f=O17 f)
 |18,f,_,h=>(up h:O19 f=O18 f)
 |19,f,_,h=>(up h:O20 f=O19 f)
 |20,f,_,h=>(up h:O21 f=O20 f)
 |21,f,_,h=>(up h:O22 f=O21 f)
 |22,f,_,h=>(up h:O23 f=O22 f)
 |23,f,_,h=>(up h:O24 f=O23 f)
 |24,f,_,h=>(up h:O25 f=O24 f)
 |25,f,_,h=>(up h:O26 f=O25 f)
 |26,f,_,h=>(up h:O27 f=O26 f)
 |27,f,_,h=>(up h:O28 f=O27 f)
 |28,f,_,h=>(up h:O29 f=O28 f)
 |29,f,_,h=>(up h:O30 f=O29 f)
 |30,f,_,h=>(up h:O31 f=O30 f)
 |31,f,_,h=>(up h:O32 f=O31 f)
 |32,f,_,h=>(up h:O33 f=O32 f)
 |33,f,_,h=>(up h:O34 f=O33 f)
 |34,f,_,h=>(up h:O35 f=O34 f)
 |35,f,_,h=>(up h:O36 f=O35 f)
 |36,f,_,h=>(up h:O37 f=O36 f)
 |37,f,_,h=>(up h:O38 f=O37 f)
 |38,f,_,h=>(up h:O39 f=O38 f)
 |39,f,_,h=>(up h:O40 f=O39 f)
 |40,f,_,h=>(up h:O41 f=O40 f)
 |41,f,_,h=>(up h:O42 f=O41 f)
 |42,f,_,h=>(up h:O43 f=O42 f)
 |43,f,_,h=>(up h:O44 f=O43 f)
 |44,f,_,h=>(up h:O45 f=O44 f)
 |45,f,_,h=>(up h:O46 f=O45 f)
 |46,f,_,h=>(up h:O47 f=O46 f)
 |47,f,_,h=>(up h:O48 f=O47 f)
 |48,f,_,h=>(up h:O49 f=O48 f)
 |49,f,_,h=>(up h:O50 f=O49 f)
 |50,f,_,h=>(up h:O51 f=O50 f)
 |51,f,_,h=>(up h:O52 f=O51 f)
 |52,f,_,h=>(up h:O53 f=O52 f)
 |53,f,_,h=>(up h:O54 f=O53 f)
 |54,f,_,h=>(up h:O55 f=O54 f)
 |55,f,_,h=>(up h:O56 f=O55 f)
 |56,f,_,h=>(up h:O57 f=O56 f)
 |57,f,_,h=>(up h:O58 f=O57 f)
 |58,f,_,h=>(up h:O59 f=O58 f)
 |59,f,_,h=>(up h:O60 f=O59 f)
 |60,f,_,h=>(up h:O61 f=O60 f)
 |61,f,_,h=>(up h:O62 f=O61 f)
 |62,f,_,h=>(up h:O63 f=O62 f)
 |63,f,_,h=>(up h:O64 f=O63 f)
 |64,f,_,h=>(up h:O65 f=O64 f)
 |65,f,_,h=>(up h:O66 f=O65 f)
 |66,f,_,h=>(up h:O67 f=O66 f)
 |67,f,_,h=>(up h:O68 f=O67 f)
 |68,f,_,h=>(up h:O69 f=O68 f)
 |69,f,_,h=>(up h:O70 f=O69 f)
 |70,f,_,h=>(up h:O71 f=O70 f)
 |71,f,_,h=>(up h:O72 f=O71 f)
 |72,f,_,h=>(up h:O73 f=O72 f)
 |73,f,_,h=>(up h:O74 f=O73 f)
 |74,f,_,h=>(up h:O75 f=O74 f)
 |75,f,_,h=>(up h:O76 f=O75 f)
 |76,f,_,h=>(up h:O77 f=O76 f)
 |77,f,_,h=>(up h:O78 f=O77 f)
 |78,f,_,h=>(up h:O79 f=O78 f)
 |79,f,_,h=>(up h:O80 f=O79 f)
 |n+80,_,h,_=>absurd h (by omega)
theorem jump (f j:Nat): ∀d,j+d≤80→(∀m,m<d→f≠FF (j+m+1))→ ∀a S,OO (j+d) f a S=OO j f a S
 |0,_,_,_,_=>rfl
 |d+1,hd,h,a,S=>(congrFun (congrFun (step1 (j+d) f (by omega) (h d (Nat.lt_succ_self d))) a) S).trans (jump f j d (by omega) (fun m hm=>h m (Nat.lt_succ_of_lt hm)) a S)
theorem O1_sound:cj Try.prog O1:=aV (gF _) (fun x r h=>by
 obtain⟨d,S,h1,h2,h3⟩:=r_rrLogCopy_z noC x r h
 have h4:=Mx.Sem.frozen (cb (ν:=n15) (aW (gF _)) Try.func15 (by kernel_rfl) mixed (by kernel_rfl) (Nat.le_of_ble_eq_true (by kernel_rfl)) h1) h2
 obtain⟨e1,e2⟩:=Prod.mk.inj h3
 rw [e1] at h4;rw [e2] at h4;exact h4)
theorem inj1: ∀x y,a1 x=a1 y→x=y:=by
 rintro⟨ua1,ua2,ua3⟩ ⟨ub1,ub2,ub3⟩ h
 simp only [a1,Prod.mk.injEq,List.cons.injEq,D.v.injEq,D.agg.injEq,V.i.injEq,V.sl.injEq,GItem.map_inj,true_and,and_true] at h
 simp only [h]
theorem K1_1:K_rrLogCopy_z O1:=fun p0 r h=>bZ (x:=p0) inj1 h
theorem O2_sound:cj Try.prog O2:=aV O1_sound (fun x r h=>cb (ν:=n102) (aW O1_sound) Try.func102 (by kernel_rfl) mixed (by kernel_rfl) (Nat.le_of_ble_eq_true (by kernel_rfl)) (r_rrValueCopy O1 x r h))
theorem inj2: ∀x y,a2 x=a2 y→x=y:=by
 rintro⟨ua1,ua2,ua3,ua4,ua5,ua6⟩ ⟨ub1,ub2,ub3,ub4,ub5,ub6⟩ h
 simp only [a2,Prod.mk.injEq,List.cons.injEq,D.v.injEq,D.agg.injEq,V.i.injEq,V.s.injEq,V.sl.injEq,aZ,GPair.map_inj,GScore.map_inj,true_and,and_true] at h
 simp only [h]
theorem K2_2:K_rrValueCopy O2:=fun p0 r h=>bZ (x:=p0) inj2 h
theorem O3_sound:cj Try.prog O3:=aV O2_sound (fun x r h=>cb (ν:=n81) (aW O2_sound) Try.func81 (by kernel_rfl) mixed (by kernel_rfl) (Nat.le_of_ble_eq_true (by kernel_rfl)) (r_rrStoreCopy O2 K2_2 x r h))
theorem inj3: ∀x y,a3 x=a3 y→x=y:=by
 rintro⟨ua1,ua2⟩ ⟨ub1,ub2⟩ h
 simp only [a3,Prod.mk.injEq,List.cons.injEq,D.v.injEq,D.agg.injEq,V.i.injEq,V.sl.injEq,GEntry.map_inj,true_and,and_true] at h
 simp only [h]
theorem K3_3:K_rrStoreCopy O3:=fun p0 r h=>bZ (x:=p0) inj3 h
theorem O4_sound:cj Try.prog O4:=aV O3_sound (fun x r h=>cb (ν:=n82) (aW O3_sound) Try.func82 (by kernel_rfl) mixed (by kernel_rfl) (Nat.le_of_ble_eq_true (by kernel_rfl)) (r_rrreplyCopy O3 x r h))
theorem inj4: ∀x y,a4 x=a4 y→x=y:=by
 rintro⟨ua1,ua2,ua3,ua4⟩ ⟨ub1,ub2,ub3,ub4⟩ h
 simp only [a4,Prod.mk.injEq,List.cons.injEq,D.v.injEq,D.agg.injEq,V.i.injEq,V.s.injEq,V.sl.injEq,aZ,true_and,and_true] at h
 simp only [h]
theorem K4_4:K_rrreplyCopy O4:=fun p0 r h=>bZ (x:=p0) inj4 h
theorem K3_4:K_rrStoreCopy O4:=fun p0 r h=>(jump 81 3 1 (by decide) (by decide) _ _).trans (K3_3 p0 r h)
theorem O5_sound:cj Try.prog O5:=aV O4_sound (fun x r h=>by
 obtain⟨d,S,h1,h2,h3⟩:=r_rrMachineCopy_z O4 K3_4 K4_4 x r h
 have h4:=Mx.Sem.frozen (cb (ν:=n55) (aW O4_sound) Try.func55 (by kernel_rfl) mixed (by kernel_rfl) (Nat.le_of_ble_eq_true (by kernel_rfl)) h1) h2
 obtain⟨e1,e2⟩:=Prod.mk.inj h3
 rw [e1] at h4;rw [e2] at h4;exact h4)
theorem inj5: ∀x y,a5 x=a5 y→x=y:=by
 rintro⟨⟨ua1,ua2⟩,ua3,ua4⟩ ⟨⟨ub1,ub2⟩,ub3,ub4⟩ h
 simp only [a5,Prod.mk.injEq,List.cons.injEq,D.v.injEq,D.agg.injEq,V.i.injEq,V.sl.injEq,GEntry.map_inj,GClient.map_inj,true_and,and_true] at h
 simp only [h]
theorem K5_5:K_rrMachineCopy_z O5:=fun p0 r h=>bZ (x:=p0) inj5 h
theorem O6_sound:cj Try.prog O6:=aV O5_sound (fun x r h=>by
 obtain⟨d,S,h1,h2,h3⟩:=r_rlsnaps_z O5 K5_5 x r h
 have h4:=Mx.Sem.frozen (cb (ν:=n16) (aW O5_sound) Try.func16 (by kernel_rfl) mixed (by kernel_rfl) (Nat.le_of_ble_eq_true (by kernel_rfl)) h1) h2
 obtain⟨e1,e2⟩:=Prod.mk.inj h3
 rw [e1] at h4;rw [e2] at h4;exact h4)
theorem inj6: ∀x y,a6 x=a6 y→x=y:=by
 rintro⟨ua1,ua2,⟨⟨ua3,ua4⟩,ua5,ua6⟩⟩ ⟨ub1,ub2,⟨⟨ub3,ub4⟩,ub5,ub6⟩⟩ h
 simp only [a6,Prod.mk.injEq,List.cons.injEq,D.v.injEq,D.agg.injEq,V.i.injEq,V.sl.injEq,GEntry.map_inj,GClient.map_inj,true_and,and_true] at h
 simp only [h]
theorem K6_6:K_rlsnaps_z O6:=fun p0 r h=>bZ (x:=p0) inj6 h
theorem O7_sound:cj Try.prog O7:=aV O6_sound (fun x r h=>cb (ν:=n97) (aW O6_sound) Try.func97 (by kernel_rfl) mixed (by kernel_rfl) (Nat.le_of_ble_eq_true (by kernel_rfl)) (r_client_number O6 x r h))
theorem inj7: ∀x y,a7 x=a7 y→x=y:=by
 rintro ua1 ub1 h
 simp only [a7,Prod.mk.injEq,List.cons.injEq,D.v.injEq,V.i.injEq,true_and,and_true] at h
 exact h
theorem K7_7:K_client_number O7:=fun p0 r h=>bZ (x:=p0) inj7 h
theorem O8_sound:cj Try.prog O8:=aV O7_sound (fun x r h=>cb (ν:=n119) (aW O7_sound) Try.func119 (by kernel_rfl) mixed (by kernel_rfl) (Nat.le_of_ble_eq_true (by kernel_rfl)) (r_value_field O7 x r h))
theorem inj8: ∀x y,a8 x=a8 y→x=y:=by
 rintro ua1 ub1 h
 simp only [a8,Prod.mk.injEq,List.cons.injEq,D.v.injEq,V.s.injEq,and_true] at h
 exact h
theorem K8_8:K_value_field O8:=fun p0 r h=>bZ (x:=p0) inj8 h
theorem O9_sound:cj Try.prog O9:=aV O8_sound (fun x r h=>cb (ν:=n115) (aW O8_sound) Try.func115 (by kernel_rfl) mixed (by kernel_rfl) (Nat.le_of_ble_eq_true (by kernel_rfl)) (r_value_text O8 x r h))
theorem K9_9:K_value_text O9:=fun p0 r h=>bZ (x:=p0) inj8 h
theorem O10_sound:cj Try.prog O10:=aV O9_sound (fun x r h=>cb (ν:=n122) (aW O9_sound) Try.func122 (by kernel_rfl) mixed (by kernel_rfl) (Nat.le_of_ble_eq_true (by kernel_rfl)) (r_value_count O9 x r h))
theorem K10_10:K_value_count O10:=fun p0 r h=>bZ (x:=p0) inj7 h
theorem K8_10:K_value_field O10:=fun p0 r h=>(jump 119 8 2 (by decide) (by decide) _ _).trans (K8_8 p0 r h)
theorem K9_10:K_value_text O10:=fun p0 r h=>(jump 115 9 1 (by decide) (by decide) _ _).trans (K9_9 p0 r h)
theorem O11_sound:cj Try.prog O11:=aV O10_sound (fun x r h=>cb (ν:=n98) (aW O10_sound) Try.func98 (by kernel_rfl) mixed (by kernel_rfl) (Nat.le_of_ble_eq_true (by kernel_rfl)) (r_vaCCommand O10 K8_10 K9_10 K10_10 x r h))
theorem inj11: ∀x y,a11 x=a11 y→x=y:=by
 rintro⟨ua1,ua2,ua3,ua4,ua5⟩ ⟨ub1,ub2,ub3,ub4,ub5⟩ h
 simp only [a11,Prod.mk.injEq,List.cons.injEq,D.v.injEq,D.agg.injEq,V.i.injEq,V.s.injEq,true_and,and_true] at h
 simp only [h]
theorem K11_11:K_vaCCommand O11:=fun p0 r h=>bZ (x:=p0) inj11 h
theorem K7_11:K_client_number O11:=fun p0 r h=>(jump 97 7 4 (by decide) (by decide) _ _).trans (K7_7 p0 r h)
theorem O12_sound:cj Try.prog O12:=aV O11_sound (fun x r h=>cb (ν:=n77) (aW O11_sound) Try.func77 (by kernel_rfl) mixed (by kernel_rfl) (Nat.le_of_ble_eq_true (by kernel_rfl)) (r_clCCall O11 K7_11 K11_11 x r h))
theorem inj12: ∀x y,a12 x=a12 y→x=y:=by
 rintro⟨ua1,ua2,⟨ua3,ua4,ua5,ua6,ua7⟩⟩ ⟨ub1,ub2,⟨ub3,ub4,ub5,ub6,ub7⟩⟩ h
 simp only [a12,Prod.mk.injEq,List.cons.injEq,D.v.injEq,D.agg.injEq,V.i.injEq,V.s.injEq,true_and,and_true] at h
 simp only [h]
theorem K12_12:K_clCCall O12:=fun p0 r h=>bZ (x:=p0) inj12 h
theorem O13_sound:cj Try.prog O13:=aV O12_sound (fun x r h=>cb (ν:=n46) (aW O12_sound) Try.func46 (by kernel_rfl) mixed (by kernel_rfl) (Nat.le_of_ble_eq_true (by kernel_rfl)) (r_wire_CheckItem O12 K12_12 x r h))
theorem inj13: ∀x y,a13 x=a13 y→x=y:=by
 rintro⟨ua1,ua2,ua3,⟨ua4,ua5,⟨ua6,ua7,ua8,ua9,ua10⟩⟩⟩ ⟨ub1,ub2,ub3,⟨ub4,ub5,⟨ub6,ub7,ub8,ub9,ub10⟩⟩⟩ h
 simp only [a13,Prod.mk.injEq,List.cons.injEq,D.v.injEq,D.agg.injEq,V.i.injEq,V.s.injEq,V.b.injEq,true_and,and_true] at h
 simp only [h]
theorem K13_13:K_wire_CheckItem O13:=fun p0 r h=>bZ (x:=p0) inj13 h
theorem O14_sound:cj Try.prog O14:=aV O13_sound (fun x r h=>cb (ν:=n53) (aW O13_sound) Try.func53 (by kernel_rfl) mixed (by kernel_rfl) (Nat.le_of_ble_eq_true (by kernel_rfl)) (r_ledger_Check O13 K13_13 x r h))
theorem K14_14:K_ledger_Check O14:=fun p0 r h=>bZ (x:=p0) inj1 h
theorem O15_sound:cj Try.prog O15:=aV O14_sound (fun x r h=>cb (ν:=n45) (aW O14_sound) Try.func45 (by kernel_rfl) mixed (by kernel_rfl) (Nat.le_of_ble_eq_true (by kernel_rfl)) (r_tape_number O14 x r h))
theorem K15_15:K_tape_number O15:=fun p0 r h=>bZ (x:=p0) inj7 h
theorem O16_sound:cj Try.prog O16:=aV O15_sound (fun x r h=>cb (ν:=n114) (aW O15_sound) Try.func114 (by kernel_rfl) mixed (by kernel_rfl) (Nat.le_of_ble_eq_true (by kernel_rfl)) (r_value_elements O15 x r h))
theorem K16_16:K_value_elements O16:=fun p0 r h=>bZ (x:=p0) inj2 h
theorem K9_16:K_value_text O16:=fun p0 r h=>(jump 115 9 7 (by decide) (by decide) _ _).trans (K9_9 p0 r h)
theorem O17_sound:cj Try.prog O17:=aV O16_sound (fun x r h=>cb (ν:=n116) (aW O16_sound) Try.func116 (by kernel_rfl) mixed (by kernel_rfl) (Nat.le_of_ble_eq_true (by kernel_rfl)) (r_vaC_fn1 O16 K9_16 x r h))
theorem K17_17:K_vaC_fn1 O17:=fun p0 r h=>bZ (x:=p0) inj8 h
theorem O18_sound:cj Try.prog O18:=aV O17_sound (fun x r h=>cb (ν:=n131) (aW O17_sound) Try.func131 (by kernel_rfl) mixed (by kernel_rfl) (Nat.le_of_ble_eq_true (by kernel_rfl)) (r_sISvaC_fn1 O17 K17_17 x r h))
theorem inj18: ∀x y,a18 x=a18 y→x=y:=by
 rintro ua1 ub1 h
 simp only [a18,Prod.mk.injEq,List.cons.injEq,D.v.injEq,V.sl.injEq,aZ,true_and,and_true] at h
 exact h
theorem K18_18:K_sISvaC_fn1 O18:=fun p0 r h=>bZ (x:=p0) inj18 h
theorem O19_sound:cj Try.prog O19:=aV O18_sound (fun x r h=>cb (ν:=n91) (aW O18_sound) Try.func91 (by kernel_rfl) mixed (by kernel_rfl) (Nat.le_of_ble_eq_true (by kernel_rfl)) (r_sCSvaC_fn1 O18 K18_18 x r h))
theorem K19_19:K_sCSvaC_fn1 O19:=fun p0 r h=>bZ (x:=p0) inj18 h
theorem K8_19:K_value_field O19:=fun p0 r h=>(jump 119 8 11 (by decide) (by decide) _ _).trans (K8_8 p0 r h)
theorem K9_19:K_value_text O19:=fun p0 r h=>(jump 115 9 10 (by decide) (by decide) _ _).trans (K9_9 p0 r h)
theorem O20_sound:cj Try.prog O20:=aV O19_sound (fun x r h=>cb (ν:=n118) (aW O19_sound) Try.func118 (by kernel_rfl) mixed (by kernel_rfl) (Nat.le_of_ble_eq_true (by kernel_rfl)) (r_vaC_fn2 O19 K8_19 K9_19 x r h))
theorem inj20: ∀x y,a20 x=a20 y→x=y:=by
 rintro⟨ua1,ua2⟩ ⟨ub1,ub2⟩ h
 simp only [a20,Prod.mk.injEq,List.cons.injEq,D.v.injEq,D.agg.injEq,V.s.injEq,and_true] at h
 simp only [h]
theorem K20_20:K_vaC_fn2 O20:=fun p0 r h=>bZ (x:=p0) inj20 h
theorem O21_sound:cj Try.prog O21:=aV O20_sound (fun x r h=>cb (ν:=n136) (aW O20_sound) Try.func136 (by kernel_rfl) mixed (by kernel_rfl) (Nat.le_of_ble_eq_true (by kernel_rfl)) (r_sIPvaC_fn2 O20 K20_20 x r h))
theorem inj21: ∀x y,a21 x=a21 y→x=y:=by
 rintro ua1 ub1 h
 simp only [a21,Prod.mk.injEq,List.cons.injEq,D.v.injEq,V.sl.injEq,GPair.map_inj,true_and,and_true] at h
 exact h
theorem K21_21:K_sIPvaC_fn2 O21:=fun p0 r h=>bZ (x:=p0) inj21 h
theorem O22_sound:cj Try.prog O22:=aV O21_sound (fun x r h=>cb (ν:=n117) (aW O21_sound) Try.func117 (by kernel_rfl) mixed (by kernel_rfl) (Nat.le_of_ble_eq_true (by kernel_rfl)) (r_sCPvaC_fn2 O21 K21_21 x r h))
theorem K22_22:K_sCPvaC_fn2 O22:=fun p0 r h=>bZ (x:=p0) inj21 h
theorem K9_22:K_value_text O22:=fun p0 r h=>(jump 115 9 13 (by decide) (by decide) _ _).trans (K9_9 p0 r h)
theorem O23_sound:cj Try.prog O23:=aV O22_sound (fun x r h=>cb (ν:=n121) (aW O22_sound) Try.func121 (by kernel_rfl) mixed (by kernel_rfl) (Nat.le_of_ble_eq_true (by kernel_rfl)) (r_vaC_fn3 O22 K9_22 x r h))
theorem inj23: ∀x y,a23 x=a23 y→x=y:=by
 rintro⟨ua1,ua2⟩ ⟨ub1,ub2⟩ h
 simp only [a23,Prod.mk.injEq,List.cons.injEq,D.v.injEq,D.agg.injEq,V.i.injEq,V.s.injEq,true_and,and_true] at h
 simp only [h]
theorem K23_23:K_vaC_fn3 O23:=fun p0 r h=>bZ (x:=p0) inj23 h
theorem O24_sound:cj Try.prog O24:=aV O23_sound (fun x r h=>cb (ν:=n137) (aW O23_sound) Try.func137 (by kernel_rfl) mixed (by kernel_rfl) (Nat.le_of_ble_eq_true (by kernel_rfl)) (r_sIRvaC_fn3 O23 K23_23 x r h))
theorem inj24: ∀x y,a24 x=a24 y→x=y:=by
 rintro ua1 ub1 h
 simp only [a24,Prod.mk.injEq,List.cons.injEq,D.v.injEq,V.sl.injEq,GScore.map_inj,true_and,and_true] at h
 exact h
theorem K24_24:K_sIRvaC_fn3 O24:=fun p0 r h=>bZ (x:=p0) inj24 h
theorem O25_sound:cj Try.prog O25:=aV O24_sound (fun x r h=>cb (ν:=n120) (aW O24_sound) Try.func120 (by kernel_rfl) mixed (by kernel_rfl) (Nat.le_of_ble_eq_true (by kernel_rfl)) (r_sCRvaC_fn3 O24 K24_24 x r h))
theorem K25_25:K_sCRvaC_fn3 O25:=fun p0 r h=>bZ (x:=p0) inj24 h
theorem K10_25:K_value_count O25:=fun p0 r h=>(jump 122 10 15 (by decide) (by decide) _ _).trans (K10_10 p0 r h)
theorem O26_sound:cj Try.prog O26:=aV O25_sound (fun x r h=>cb (ν:=n123) (aW O25_sound) Try.func123 (by kernel_rfl) mixed (by kernel_rfl) (Nat.le_of_ble_eq_true (by kernel_rfl)) (r_vaC_fn4 O25 K10_25 x r h))
theorem K26_26:K_vaC_fn4 O26:=fun p0 r h=>bZ (x:=p0) inj23 h
theorem O27_sound:cj Try.prog O27:=aV O26_sound (fun x r h=>cb (ν:=n137) (aW O26_sound) Try.func137 (by kernel_rfl) mixed (by kernel_rfl) (Nat.le_of_ble_eq_true (by kernel_rfl)) (r_sIRvaC_fn4 O26 K26_26 x r h))
theorem inj27: ∀x y,a27 x=a27 y→x=y:=by
 rintro ua1 ub1 h
 simp only [a27,Prod.mk.injEq,List.cons.injEq,D.v.injEq,V.sl.injEq,GScore.map_inj,true_and,and_true] at h
 exact h
theorem K27_27:K_sIRvaC_fn4 O27:=fun p0 r h=>bZ (x:=p0) inj27 h
theorem O28_sound:cj Try.prog O28:=aV O27_sound (fun x r h=>cb (ν:=n120) (aW O27_sound) Try.func120 (by kernel_rfl) mixed (by kernel_rfl) (Nat.le_of_ble_eq_true (by kernel_rfl)) (r_sCRvaC_fn4 O27 K27_27 x r h))
theorem K28_28:K_sCRvaC_fn4 O28:=fun p0 r h=>bZ (x:=p0) inj27 h
theorem O29_sound:cj Try.prog O29:=aV O28_sound (fun x r h=>by
 obtain rfl:=Option.some.inj h
 exact sem_cmp Try.func144 (by kernel_rfl) (by kernel_rfl) (by kernel_rfl) (by kernel_rfl) x.1 x.2)
theorem inj29: ∀x y,a29 x=a29 y→x=y:=by
 rintro⟨ua1,ua2⟩ ⟨ub1,ub2⟩ h
 simp only [a29,Prod.mk.injEq,List.cons.injEq,D.v.injEq,V.s.injEq,and_true] at h
 simp only [h]
theorem K29_29:K_cmpstring O29:=fun p0 p1 r h=>bZ (x:=(p0,p1)) inj29 h
theorem O30_sound:cj Try.prog O30:=aV O29_sound (fun x r h=>cb (ν:=n140) (aW O29_sound) Try.func140 (by kernel_rfl) mixed (by kernel_rfl) (Nat.le_of_ble_eq_true (by kernel_rfl)) (r_ibCompareString O29 K29_29 x.1 x.2 r h))
theorem K30_30:K_ibCompareString O30:=fun p0 p1 r h=>bZ (x:=(p0,p1)) inj29 h
theorem O31_sound:cj Try.prog O31:=aV O30_sound (fun x r h=>cb (ν:=n129) (aW O30_sound) Try.func129 (by kernel_rfl) mixed (by kernel_rfl) (Nat.le_of_ble_eq_true (by kernel_rfl)) (r_strings_Compare O30 K30_30 x.1 x.2 r h))
theorem K31_31:K_strings_Compare O31:=fun p0 p1 r h=>bZ (x:=(p0,p1)) inj29 h
theorem O32_sound:cj Try.prog O32:=aV O31_sound (fun x r h=>cb (ν:=n125) (aW O31_sound) Try.func125 (by kernel_rfl) mixed (by kernel_rfl) (Nat.le_of_ble_eq_true (by kernel_rfl)) (r_value_byField O31 K31_31 x.1 x.2 r h))
theorem inj32: ∀x y,a32 x=a32 y→x=y:=by
 rintro⟨⟨ua1,ua2⟩,⟨ua3,ua4⟩⟩ ⟨⟨ub1,ub2⟩,⟨ub3,ub4⟩⟩ h
 simp only [a32,Prod.mk.injEq,List.cons.injEq,D.v.injEq,D.agg.injEq,V.s.injEq,and_true] at h
 simp only [h]
theorem K32_32:K_value_byField O32:=fun p0 p1 r h=>bZ (x:=(p0,p1)) inj32 h
theorem O33_sound:cj Try.prog O33:=aV O32_sound (fun x r h=>cb (ν:=n124) (aW O32_sound) Try.func124 (by kernel_rfl) mixed (by kernel_rfl) (Nat.le_of_ble_eq_true (by kernel_rfl)) (r_value_rising_Pair_value_byField O32 K32_32 x r h))
theorem inj33: ∀x y,a33 x=a33 y→x=y:=by
 rintro ua1 ub1 h
 simp only [a33,Prod.mk.injEq,List.cons.injEq,D.v.injEq,V.sl.injEq,GPair.map_inj,true_and,and_true] at h
 exact h
theorem K33_33:K_value_rising_Pair_value_byField O33:=fun p0 r h=>bZ (x:=p0) inj33 h
theorem O34_sound:cj Try.prog O34:=aV O33_sound (fun x r h=>cb (ν:=n143) (aW O33_sound) Try.func143 (by kernel_rfl) mixed (by kernel_rfl) (Nat.le_of_ble_eq_true (by kernel_rfl)) (r_cmp_isNaN_int O33 x r h))
theorem K34_34:K_cmp_isNaN_int O34:=fun p0 r h=>bZ (x:=p0) inj7 h
theorem O35_sound:cj Try.prog O35:=aV O34_sound (fun x r h=>cb (ν:=n139) (aW O34_sound) Try.func139 (by kernel_rfl) mixed (by kernel_rfl) (Nat.le_of_ble_eq_true (by kernel_rfl)) (r_cmp_Compare_int O34 K34_34 x.1 x.2 r h))
theorem inj35: ∀x y,a35 x=a35 y→x=y:=by
 rintro⟨ua1,ua2⟩ ⟨ub1,ub2⟩ h
 simp only [a35,Prod.mk.injEq,List.cons.injEq,D.v.injEq,V.i.injEq,true_and,and_true] at h
 simp only [h]
theorem K35_35:K_cmp_Compare_int O35:=fun p0 p1 r h=>bZ (x:=(p0,p1)) inj35 h
theorem O36_sound:cj Try.prog O36:=aV O35_sound (fun x r h=>cb (ν:=n138) (aW O35_sound) Try.func138 (by kernel_rfl) mixed (by kernel_rfl) (Nat.le_of_ble_eq_true (by kernel_rfl)) (r_cmp_Or_int O35 x r h))
theorem inj36: ∀x y,a36 x=a36 y→x=y:=by
 rintro ua1 ub1 h
 simp only [a36,Prod.mk.injEq,List.cons.injEq,D.v.injEq,V.sl.injEq,ba,true_and,and_true] at h
 exact h
theorem K36_36:K_cmp_Or_int O36:=fun p0 r h=>bZ (x:=p0) inj36 h
theorem K35_36:K_cmp_Compare_int O36:=fun p0 p1 r h=>(jump 139 35 1 (by decide) (by decide) _ _).trans (K35_35 p0 p1 r h)
theorem K31_36:K_strings_Compare O36:=fun p0 p1 r h=>(jump 129 31 5 (by decide) (by decide) _ _).trans (K31_31 p0 p1 r h)
theorem O37_sound:cj Try.prog O37:=aV O36_sound (fun x r h=>cb (ν:=n127) (aW O36_sound) Try.func127 (by kernel_rfl) mixed (by kernel_rfl) (Nat.le_of_ble_eq_true (by kernel_rfl)) (r_value_byScore O36 K35_36 K31_36 K36_36 x.1 x.2 r h))
theorem inj37: ∀x y,a37 x=a37 y→x=y:=by
 rintro⟨⟨ua1,ua2⟩,⟨ua3,ua4⟩⟩ ⟨⟨ub1,ub2⟩,⟨ub3,ub4⟩⟩ h
 simp only [a37,Prod.mk.injEq,List.cons.injEq,D.v.injEq,D.agg.injEq,V.i.injEq,V.s.injEq,true_and,and_true] at h
 simp only [h]
theorem K37_37:K_value_byScore O37:=fun p0 p1 r h=>bZ (x:=(p0,p1)) inj37 h
theorem O38_sound:cj Try.prog O38:=aV O37_sound (fun x r h=>cb (ν:=n126) (aW O37_sound) Try.func126 (by kernel_rfl) mixed (by kernel_rfl) (Nat.le_of_ble_eq_true (by kernel_rfl)) (r_value_rising_Score_value_byScore O37 K37_37 x r h))
theorem inj38: ∀x y,a38 x=a38 y→x=y:=by
 rintro ua1 ub1 h
 simp only [a38,Prod.mk.injEq,List.cons.injEq,D.v.injEq,V.sl.injEq,GScore.map_inj,true_and,and_true] at h
 exact h
theorem K38_38:K_value_rising_Score_value_byScore O38:=fun p0 r h=>bZ (x:=p0) inj38 h
theorem K31_38:K_strings_Compare O38:=fun p0 p1 r h=>(jump 129 31 7 (by decide) (by decide) _ _).trans (K31_31 p0 p1 r h)
theorem O39_sound:cj Try.prog O39:=aV O38_sound (fun x r h=>cb (ν:=n128) (aW O38_sound) Try.func128 (by kernel_rfl) mixed (by kernel_rfl) (Nat.le_of_ble_eq_true (by kernel_rfl)) (r_value_rising_string_strings_Compare O38 K31_38 x r h))
theorem inj39: ∀x y,a39 x=a39 y→x=y:=by
 rintro ua1 ub1 h
 simp only [a39,Prod.mk.injEq,List.cons.injEq,D.v.injEq,V.sl.injEq,aZ,true_and,and_true] at h
 exact h
theorem K39_39:K_value_rising_string_strings_Compare O39:=fun p0 r h=>bZ (x:=p0) inj39 h
theorem O40_sound:cj Try.prog O40:=aV O39_sound (fun x r h=>cb (ν:=n141) (aW O39_sound) Try.func141 (by kernel_rfl) mixed (by kernel_rfl) (Nat.le_of_ble_eq_true (by kernel_rfl)) (r_value_rank_fn1 O39 x.1 x.2 r h))
theorem inj40: ∀x y,a40 x=a40 y→x=y:=by
 rintro⟨⟨ua1,ua2⟩,ua3⟩ ⟨⟨ub1,ub2⟩,ub3⟩ h
 simp only [a40,Prod.mk.injEq,List.cons.injEq,D.v.injEq,D.agg.injEq,V.i.injEq,V.s.injEq,true_and,and_true] at h
 simp only [h]
theorem K40_40:K_value_rank_fn1 O40:=fun p0 p1 r h=>bZ (x:=(p0,p1)) inj40 h
theorem O41_sound:cj Try.prog O41:=aV O40_sound (fun x r h=>cb (ν:=n137) (aW O40_sound) Try.func137 (by kernel_rfl) mixed (by kernel_rfl) (Nat.le_of_ble_eq_true (by kernel_rfl)) (r_sIRvalue_rank_fn1 O40 K40_40 x.1 x.2 r h))
theorem inj41: ∀x y,a41 x=a41 y→x=y:=by
 rintro⟨ua1,ua2⟩ ⟨ub1,ub2⟩ h
 simp only [a41,Prod.mk.injEq,List.cons.injEq,D.v.injEq,V.s.injEq,V.sl.injEq,GScore.map_inj,true_and,and_true] at h
 simp only [h]
theorem K41_41:K_sIRvalue_rank_fn1 O41:=fun p0 p1 r h=>bZ (x:=(p0,p1)) inj41 h
theorem O42_sound:cj Try.prog O42:=aV O41_sound (fun x r h=>cb (ν:=n130) (aW O41_sound) Try.func130 (by kernel_rfl) mixed (by kernel_rfl) (Nat.le_of_ble_eq_true (by kernel_rfl)) (r_value_rank O41 K41_41 x.1 x.2 r h))
theorem inj42: ∀x y,a42 x=a42 y→x=y:=by
 rintro⟨ua1,ua2⟩ ⟨ub1,ub2⟩ h
 simp only [a42,Prod.mk.injEq,List.cons.injEq,D.v.injEq,V.s.injEq,V.sl.injEq,GScore.map_inj,true_and,and_true] at h
 simp only [h]
theorem K42_42:K_value_rank O42:=fun p0 p1 r h=>bZ (x:=(p0,p1)) inj42 h
theorem K16_42:K_value_elements O42:=fun p0 r h=>(jump 114 16 26 (by decide) (by decide) _ _).trans (K16_16 p0 r h)
theorem K9_42:K_value_text O42:=fun p0 r h=>(jump 115 9 33 (by decide) (by decide) _ _).trans (K9_9 p0 r h)
theorem K19_42:K_sCSvaC_fn1 O42:=fun p0 r h=>(jump 91 19 23 (by decide) (by decide) _ _).trans (K19_19 p0 r h)
theorem K22_42:K_sCPvaC_fn2 O42:=fun p0 r h=>(jump 117 22 20 (by decide) (by decide) _ _).trans (K22_22 p0 r h)
theorem K25_42:K_sCRvaC_fn3 O42:=fun p0 r h=>(jump 120 28 14 (by decide) (by decide) _ _).trans ((show O28 120 _ _=O27 120 _ _ from addF_other (by intro x hx;simp [a27] at hx)).trans ((jump 120 25 2 (by decide) (by decide) _ _).trans (K25_25 p0 r h)))
theorem K10_42:K_value_count O42:=fun p0 r h=>(jump 122 10 32 (by decide) (by decide) _ _).trans (K10_10 p0 r h)
theorem K28_42:K_sCRvaC_fn4 O42:=fun p0 r h=>(jump 120 28 14 (by decide) (by decide) _ _).trans (K28_28 p0 r h)
theorem K33_42:K_value_rising_Pair_value_byField O42:=fun p0 r h=>(jump 124 33 9 (by decide) (by decide) _ _).trans (K33_33 p0 r h)
theorem K38_42:K_value_rising_Score_value_byScore O42:=fun p0 r h=>(jump 126 38 4 (by decide) (by decide) _ _).trans (K38_38 p0 r h)
theorem K39_42:K_value_rising_string_strings_Compare O42:=fun p0 r h=>(jump 128 39 3 (by decide) (by decide) _ _).trans (K39_39 p0 r h)
theorem O43_sound:cj Try.prog O43:=aV O42_sound (fun x r h=>cb (ν:=n90) (aW O42_sound) Try.func90 (by kernel_rfl) mixed (by kernel_rfl) (Nat.le_of_ble_eq_true (by kernel_rfl)) (r_vaC O42 K16_42 K9_42 K19_42 K22_42 K25_42 K10_42 K28_42 K33_42 K38_42 K39_42 K42_42 x r h))
theorem K43_43:K_vaC O43:=fun p0 r h=>bZ (x:=p0) inj2 h
theorem O44_sound:cj Try.prog O44:=aV O43_sound (fun x r h=>cb (ν:=n71) (aW O43_sound) Try.func71 (by kernel_rfl) mixed (by kernel_rfl) (Nat.le_of_ble_eq_true (by kernel_rfl)) (r_store_Check O43 K43_43 x r h))
theorem K44_44:K_store_Check O44:=fun p0 r h=>bZ (x:=p0) inj3 h
theorem O45_sound:cj Try.prog O45:=aV O44_sound (fun x r h=>cb (ν:=n92) (aW O44_sound) Try.func92 (by kernel_rfl) mixed (by kernel_rfl) (Nat.le_of_ble_eq_true (by kernel_rfl)) (r_clCReply_fn1 O44 x r h))
theorem K45_45:K_clCReply_fn1 O45:=fun p0 r h=>bZ (x:=p0) inj8 h
theorem O46_sound:cj Try.prog O46:=aV O45_sound (fun x r h=>cb (ν:=n131) (aW O45_sound) Try.func131 (by kernel_rfl) mixed (by kernel_rfl) (Nat.le_of_ble_eq_true (by kernel_rfl)) (r_sISclCReply_fn1 O45 K45_45 x r h))
theorem inj46: ∀x y,a46 x=a46 y→x=y:=by
 rintro ua1 ub1 h
 simp only [a46,Prod.mk.injEq,List.cons.injEq,D.v.injEq,V.sl.injEq,aZ,true_and,and_true] at h
 exact h
theorem K46_46:K_sISclCReply_fn1 O46:=fun p0 r h=>bZ (x:=p0) inj46 h
theorem O47_sound:cj Try.prog O47:=aV O46_sound (fun x r h=>cb (ν:=n91) (aW O46_sound) Try.func91 (by kernel_rfl) mixed (by kernel_rfl) (Nat.le_of_ble_eq_true (by kernel_rfl)) (r_sCSclCReply_fn1 O46 K46_46 x r h))
theorem K47_47:K_sCSclCReply_fn1 O47:=fun p0 r h=>bZ (x:=p0) inj46 h
theorem O48_sound:cj Try.prog O48:=aV O47_sound (fun x r h=>cb (ν:=n72) (aW O47_sound) Try.func72 (by kernel_rfl) mixed (by kernel_rfl) (Nat.le_of_ble_eq_true (by kernel_rfl)) (r_clCReply O47 K47_47 x r h))
theorem K48_48:K_clCReply O48:=fun p0 r h=>bZ (x:=p0) inj4 h
theorem K44_48:K_store_Check O48:=fun p0 r h=>(jump 71 44 4 (by decide) (by decide) _ _).trans (K44_44 p0 r h)
theorem O49_sound:cj Try.prog O49:=aV O48_sound (fun x r h=>cb (ν:=n33) (aW O48_sound) Try.func33 (by kernel_rfl) mixed (by kernel_rfl) (Nat.le_of_ble_eq_true (by kernel_rfl)) (r_clC O48 K44_48 K48_48 x r h))
theorem K49_49:K_clC O49:=fun p0 r h=>bZ (x:=p0) inj5 h
theorem K15_49:K_tape_number O49:=fun p0 r h=>(jump 45 15 34 (by decide) (by decide) _ _).trans (K15_15 p0 r h)
theorem O50_sound:cj Try.prog O50:=aV O49_sound (fun x r h=>cb (ν:=n47) (aW O49_sound) Try.func47 (by kernel_rfl) mixed (by kernel_rfl) (Nat.le_of_ble_eq_true (by kernel_rfl)) (r_tape_CheckSnap O49 K15_49 K49_49 x r h))
theorem K50_50:K_tape_CheckSnap O50:=fun p0 r h=>bZ (x:=p0) inj6 h
theorem O51_sound:cj Try.prog O51:=aV O50_sound (fun x r h=>cb (ν:=n100) (aW O50_sound) Try.func100 (by kernel_rfl) mixed (by kernel_rfl) (Nat.le_of_ble_eq_true (by kernel_rfl)) (r_ledger_term O50 x.1 x.2 r h))
theorem inj51: ∀x y,a51 x=a51 y→x=y:=by
 rintro⟨⟨ua1,ua2,ua3⟩,ua4⟩ ⟨⟨ub1,ub2,ub3⟩,ub4⟩ h
 simp only [a51,Prod.mk.injEq,List.cons.injEq,D.v.injEq,D.agg.injEq,V.i.injEq,V.sl.injEq,GItem.map_inj,true_and,and_true] at h
 simp only [h]
theorem K51_51:K_ledger_term O51:=fun p0 p1 r h=>bZ (x:=(p0,p1)) inj51 h
theorem K14_51:K_ledger_Check O51:=fun p0 r h=>(jump 53 14 37 (by decide) (by decide) _ _).trans (K14_14 p0 r h)
theorem O52_sound:cj Try.prog O52:=aV O51_sound (fun x r h=>cb (ν:=n79) (aW O51_sound) Try.func79 (by kernel_rfl) mixed (by kernel_rfl) (Nat.le_of_ble_eq_true (by kernel_rfl)) (r_ledger_Term O51 K14_51 K51_51 x.1 x.2 r h))
theorem K52_52:K_ledger_Term O52:=fun p0 p1 r h=>bZ (x:=(p0,p1)) inj51 h
theorem O53_sound:cj Try.prog O53:=aV O52_sound (fun x r h=>sem_all (ν:=n101) (aW O52_sound) Try.func101 (by kernel_rfl) (Nat.le_of_ble_eq_true (by kernel_rfl)) (q_sKItem_Item _ x r h))
theorem inj53: ∀x y,a53 x=a53 y→x=y:=by
 rintro ua1 ub1 h
 simp only [a53,Prod.mk.injEq,List.cons.injEq,D.v.injEq,V.sl.injEq,GItem.map_inj,true_and,and_true] at h
 exact h
theorem K53_53:K_sKItem_Item O53:=fun p0 r h=>bZ (x:=p0) inj53 h
theorem K14_53:K_ledger_Check O53:=fun p0 r h=>(jump 53 14 39 (by decide) (by decide) _ _).trans (K14_14 p0 r h)
theorem K51_53:K_ledger_term O53:=fun p0 p1 r h=>(jump 100 51 2 (by decide) (by decide) _ _).trans (K51_51 p0 p1 r h)
theorem O54_sound:cj Try.prog O54:=aV O53_sound (fun x r h=>cb (ν:=n80) (aW O53_sound) Try.func80 (by kernel_rfl) mixed (by kernel_rfl) (Nat.le_of_ble_eq_true (by kernel_rfl)) (r_ledger_Trim O53 K14_53 K51_53 K53_53 x.1 x.2 r h))
theorem K54_54:K_ledger_Trim O54:=fun p0 p1 r h=>bZ (x:=(p0,p1)) inj51 h
theorem K52_54:K_ledger_Term O54:=fun p0 p1 r h=>(jump 79 52 2 (by decide) (by decide) _ _).trans (K52_52 p0 p1 r h)
theorem O55_sound:cj Try.prog O55:=aV O54_sound (fun x r h=>by
 obtain⟨d,S,h1,h2,h3⟩:=r_tape_rest O54 K52_54 K54_54 x.1 x.2 r h
 have h4:=Mx.Sem.frozen (cb (ν:=n54) (aW O54_sound) Try.func54 (by kernel_rfl) mixed (by kernel_rfl) (Nat.le_of_ble_eq_true (by kernel_rfl)) h1) h2
 obtain⟨e1,e2⟩:=Prod.mk.inj h3
 rw [e1] at h4;rw [e2] at h4;exact h4)
theorem inj55: ∀x y,a55 x=a55 y→x=y:=by
 rintro⟨⟨ua1,ua2,ua3⟩,⟨ua4,ua5,⟨⟨ua6,ua7⟩,ua8,ua9⟩⟩⟩ ⟨⟨ub1,ub2,ub3⟩,⟨ub4,ub5,⟨⟨ub6,ub7⟩,ub8,ub9⟩⟩⟩ h
 simp only [a55,Prod.mk.injEq,List.cons.injEq,D.v.injEq,D.agg.injEq,V.i.injEq,V.sl.injEq,GItem.map_inj,GEntry.map_inj,GClient.map_inj,true_and,and_true] at h
 simp only [h]
theorem K55_55:K_tape_rest O55:=fun p0 p1 r h=>bZ (x:=(p0,p1)) inj55 h
theorem K14_55:K_ledger_Check O55:=fun p0 r h=>(jump 53 14 41 (by decide) (by decide) _ _).trans (K14_14 p0 r h)
theorem K50_55:K_tape_CheckSnap O55:=fun p0 r h=>(jump 47 50 5 (by decide) (by decide) _ _).trans (K50_50 p0 r h)
theorem O56_sound:cj Try.prog O56:=aV O55_sound (fun x r h=>cb (ν:=n14) (aW O55_sound) Try.func14 (by kernel_rfl) mixed (by kernel_rfl) (Nat.le_of_ble_eq_true (by kernel_rfl)) (r_tape_Rest O55 K14_55 K50_55 K55_55 x.1 x.2 r h))
theorem K56_56:K_tape_Rest O56:=fun p0 p1 r h=>bZ (x:=(p0,p1)) inj55 h
theorem O57_sound:cj Try.prog O57:=aV O56_sound (fun x r h=>cb (ν:=n48) (aW O56_sound) Try.func48 (by kernel_rfl) mixed (by kernel_rfl) (Nat.le_of_ble_eq_true (by kernel_rfl)) (r_rrIn O56 x.1 x.2.1 x.2.2 r h))
theorem inj57: ∀x y,a57 x=a57 y→x=y:=by
 rintro⟨ua1,ua2,ua3⟩ ⟨ub1,ub2,ub3⟩ h
 simp only [a57,Prod.mk.injEq,List.cons.injEq,D.v.injEq,V.i.injEq,true_and,and_true] at h
 simp only [h]
theorem K57_57:K_rrIn O57:=fun p0 p1 p2 r h=>bZ (x:=(p0,p1,p2)) inj57 h
theorem O58_sound:cj Try.prog O58:=aV O57_sound (fun x r h=>cb (ν:=n51) (aW O57_sound) Try.func51 (by kernel_rfl) mixed (by kernel_rfl) (Nat.le_of_ble_eq_true (by kernel_rfl)) (r_rrnumberMay O57 K57_57 x r h))
theorem K58_58:K_rrnumberMay O58:=fun p0 r h=>bZ (x:=p0) inj7 h
theorem K57_58:K_rrIn O58:=fun p0 p1 p2 r h=>(jump 48 57 1 (by decide) (by decide) _ _).trans (K57_57 p0 p1 p2 r h)
theorem O59_sound:cj Try.prog O59:=aV O58_sound (fun x r h=>cb (ν:=n93) (aW O58_sound) Try.func93 (by kernel_rfl) mixed (by kernel_rfl) (Nat.le_of_ble_eq_true (by kernel_rfl)) (r_rrfieldMay O58 K57_58 x r h))
theorem K59_59:K_rrfieldMay O59:=fun p0 r h=>bZ (x:=p0) inj8 h
theorem O60_sound:cj Try.prog O60:=aV O59_sound (fun x r h=>cb (ν:=n95) (aW O59_sound) Try.func95 (by kernel_rfl) mixed (by kernel_rfl) (Nat.le_of_ble_eq_true (by kernel_rfl)) (r_rrtextMay O59 x r h))
theorem K60_60:K_rrtextMay O60:=fun p0 r h=>bZ (x:=p0) inj8 h
theorem K57_60:K_rrIn O60:=fun p0 p1 p2 r h=>(jump 48 57 3 (by decide) (by decide) _ _).trans (K57_57 p0 p1 p2 r h)
theorem O61_sound:cj Try.prog O61:=aV O60_sound (fun x r h=>cb (ν:=n96) (aW O60_sound) Try.func96 (by kernel_rfl) mixed (by kernel_rfl) (Nat.le_of_ble_eq_true (by kernel_rfl)) (r_rrcountMay O60 K57_60 x r h))
theorem K61_61:K_rrcountMay O61:=fun p0 r h=>bZ (x:=p0) inj7 h
theorem K57_61:K_rrIn O61:=fun p0 p1 p2 r h=>(jump 48 57 4 (by decide) (by decide) _ _).trans (K57_57 p0 p1 p2 r h)
theorem K59_61:K_rrfieldMay O61:=fun p0 r h=>(jump 93 59 2 (by decide) (by decide) _ _).trans (K59_59 p0 r h)
theorem K60_61:K_rrtextMay O61:=fun p0 r h=>(jump 95 60 1 (by decide) (by decide) _ _).trans (K60_60 p0 r h)
theorem O62_sound:cj Try.prog O62:=aV O61_sound (fun x r h=>cb (ν:=n99) (aW O61_sound) Try.func99 (by kernel_rfl) mixed (by kernel_rfl) (Nat.le_of_ble_eq_true (by kernel_rfl)) (r_rrCommandFault O61 K57_61 K59_61 K60_61 K61_61 x r h))
theorem K62_62:K_rrCommandFault O62:=fun p0 r h=>bZ (x:=p0) inj11 h
theorem K58_62:K_rrnumberMay O62:=fun p0 r h=>(jump 51 58 4 (by decide) (by decide) _ _).trans (K58_58 p0 r h)
theorem O63_sound:cj Try.prog O63:=aV O62_sound (fun x r h=>cb (ν:=n78) (aW O62_sound) Try.func78 (by kernel_rfl) mixed (by kernel_rfl) (Nat.le_of_ble_eq_true (by kernel_rfl)) (r_rrCallFault O62 K58_62 K62_62 x r h))
theorem K63_63:K_rrCallFault O63:=fun p0 r h=>bZ (x:=p0) inj12 h
theorem K58_63:K_rrnumberMay O63:=fun p0 r h=>(jump 51 58 5 (by decide) (by decide) _ _).trans (K58_58 p0 r h)
theorem K57_63:K_rrIn O63:=fun p0 p1 p2 r h=>(jump 48 57 6 (by decide) (by decide) _ _).trans (K57_57 p0 p1 p2 r h)
theorem O64_sound:cj Try.prog O64:=aV O63_sound (fun x r h=>cb (ν:=n52) (aW O63_sound) Try.func52 (by kernel_rfl) mixed (by kernel_rfl) (Nat.le_of_ble_eq_true (by kernel_rfl)) (r_rrItemFault O63 K58_63 K57_63 K63_63 x r h))
theorem K64_64:K_rrItemFault O64:=fun p0 r h=>bZ (x:=p0) inj13 h
theorem K57_64:K_rrIn O64:=fun p0 p1 p2 r h=>(jump 48 57 7 (by decide) (by decide) _ _).trans (K57_57 p0 p1 p2 r h)
theorem O65_sound:cj Try.prog O65:=aV O64_sound (fun x r h=>cb (ν:=n56) (aW O64_sound) Try.func56 (by kernel_rfl) mixed (by kernel_rfl) (Nat.le_of_ble_eq_true (by kernel_rfl)) (r_rrLogFault O64 K57_64 K64_64 x r h))
theorem K65_65:K_rrLogFault O65:=fun p0 r h=>bZ (x:=p0) inj1 h
theorem O66_sound:cj Try.prog O66:=aV O65_sound (fun x r h=>cb (ν:=n132) (aW O65_sound) Try.func132 (by kernel_rfl) mixed (by kernel_rfl) (Nat.le_of_ble_eq_true (by kernel_rfl)) (r_rrsizeOf O65 x r h))
theorem K66_66:K_rrsizeOf O66:=fun p0 r h=>bZ (x:=p0) inj2 h
theorem O67_sound:cj Try.prog O67:=aV O66_sound (fun x r h=>cb (ν:=n133) (aW O66_sound) Try.func133 (by kernel_rfl) mixed (by kernel_rfl) (Nat.le_of_ble_eq_true (by kernel_rfl)) (r_rrscoreAhead O66 x.1 x.2 r h))
theorem K67_67:K_rrscoreAhead O67:=fun p0 p1 r h=>bZ (x:=(p0,p1)) inj37 h
theorem O68_sound:cj Try.prog O68:=aV O67_sound (fun x r h=>cb (ν:=n134) (aW O67_sound) Try.func134 (by kernel_rfl) mixed (by kernel_rfl) (Nat.le_of_ble_eq_true (by kernel_rfl)) (r_rrmemberAt O67 x.1 x.2 r h))
theorem K68_68:K_rrmemberAt O68:=fun p0 p1 r h=>bZ (x:=(p0,p1)) inj42 h
theorem K57_68:K_rrIn O68:=fun p0 p1 p2 r h=>(jump 48 57 11 (by decide) (by decide) _ _).trans (K57_57 p0 p1 p2 r h)
theorem K66_68:K_rrsizeOf O68:=fun p0 r h=>(jump 132 66 2 (by decide) (by decide) _ _).trans (K66_66 p0 r h)
theorem K60_68:K_rrtextMay O68:=fun p0 r h=>(jump 95 60 8 (by decide) (by decide) _ _).trans (K60_60 p0 r h)
theorem K61_68:K_rrcountMay O68:=fun p0 r h=>(jump 96 61 7 (by decide) (by decide) _ _).trans (K61_61 p0 r h)
theorem K59_68:K_rrfieldMay O68:=fun p0 r h=>(jump 93 59 9 (by decide) (by decide) _ _).trans (K59_59 p0 r h)
theorem K67_68:K_rrscoreAhead O68:=fun p0 p1 r h=>(jump 133 67 1 (by decide) (by decide) _ _).trans (K67_67 p0 p1 r h)
theorem O69_sound:cj Try.prog O69:=aV O68_sound (fun x r h=>cb (ν:=n94) (aW O68_sound) Try.func94 (by kernel_rfl) mixed (by kernel_rfl) (Nat.le_of_ble_eq_true (by kernel_rfl)) (r_rrValueFault O68 K57_68 K66_68 K60_68 K61_68 K59_68 K67_68 K68_68 x r h))
theorem K69_69:K_rrValueFault O69:=fun p0 r h=>bZ (x:=p0) inj2 h
theorem K57_69:K_rrIn O69:=fun p0 p1 p2 r h=>(jump 48 57 12 (by decide) (by decide) _ _).trans (K57_57 p0 p1 p2 r h)
theorem K59_69:K_rrfieldMay O69:=fun p0 r h=>(jump 93 59 10 (by decide) (by decide) _ _).trans (K59_59 p0 r h)
theorem O70_sound:cj Try.prog O70:=aV O69_sound (fun x r h=>cb (ν:=n73) (aW O69_sound) Try.func73 (by kernel_rfl) mixed (by kernel_rfl) (Nat.le_of_ble_eq_true (by kernel_rfl)) (r_rrStoreFault O69 K57_69 K59_69 K69_69 x r h))
theorem K70_70:K_rrStoreFault O70:=fun p0 r h=>bZ (x:=p0) inj3 h
theorem K57_70:K_rrIn O70:=fun p0 p1 p2 r h=>(jump 48 57 13 (by decide) (by decide) _ _).trans (K57_57 p0 p1 p2 r h)
theorem K60_70:K_rrtextMay O70:=fun p0 r h=>(jump 95 60 10 (by decide) (by decide) _ _).trans (K60_60 p0 r h)
theorem K61_70:K_rrcountMay O70:=fun p0 r h=>(jump 96 61 9 (by decide) (by decide) _ _).trans (K61_61 p0 r h)
theorem O71_sound:cj Try.prog O71:=aV O70_sound (fun x r h=>cb (ν:=n74) (aW O70_sound) Try.func74 (by kernel_rfl) mixed (by kernel_rfl) (Nat.le_of_ble_eq_true (by kernel_rfl)) (r_rrReplyFault O70 K57_70 K60_70 K61_70 x r h))
theorem K71_71:K_rrReplyFault O71:=fun p0 r h=>bZ (x:=p0) inj4 h
theorem K70_71:K_rrStoreFault O71:=fun p0 r h=>(jump 73 70 1 (by decide) (by decide) _ _).trans (K70_70 p0 r h)
theorem K57_71:K_rrIn O71:=fun p0 p1 p2 r h=>(jump 48 57 14 (by decide) (by decide) _ _).trans (K57_57 p0 p1 p2 r h)
theorem K58_71:K_rrnumberMay O71:=fun p0 r h=>(jump 51 58 13 (by decide) (by decide) _ _).trans (K58_58 p0 r h)
theorem O72_sound:cj Try.prog O72:=aV O71_sound (fun x r h=>cb (ν:=n41) (aW O71_sound) Try.func41 (by kernel_rfl) mixed (by kernel_rfl) (Nat.le_of_ble_eq_true (by kernel_rfl)) (r_rrMachineFault O71 K70_71 K57_71 K58_71 K71_71 x r h))
theorem K72_72:K_rrMachineFault O72:=fun p0 r h=>bZ (x:=p0) inj5 h
theorem K58_72:K_rrnumberMay O72:=fun p0 r h=>(jump 51 58 14 (by decide) (by decide) _ _).trans (K58_58 p0 r h)
theorem O73_sound:cj Try.prog O73:=aV O72_sound (fun x r h=>cb (ν:=n50) (aW O72_sound) Try.func50 (by kernel_rfl) mixed (by kernel_rfl) (Nat.le_of_ble_eq_true (by kernel_rfl)) (r_rrSnapFault O72 K58_72 K72_72 x r h))
theorem K73_73:K_rrSnapFault O73:=fun p0 r h=>bZ (x:=p0) inj6 h
theorem O74_sound:cj Try.prog O74:=aV O73_sound (fun x r h=>cb (ν:=n103) (aW O73_sound) Try.func103 (by kernel_rfl) mixed (by kernel_rfl) (Nat.le_of_ble_eq_true (by kernel_rfl)) (r_rrlastOf O73 x r h))
theorem K74_74:K_rrlastOf O74:=fun p0 r h=>bZ (x:=p0) inj1 h
theorem O75_sound:cj Try.prog O75:=aV O74_sound (fun x r h=>cb (ν:=n83) (aW O74_sound) Try.func83 (by kernel_rfl) mixed (by kernel_rfl) (Nat.le_of_ble_eq_true (by kernel_rfl)) (r_rrtermAt O74 K74_74 x.1 x.2 r h))
theorem K75_75:K_rrtermAt O75:=fun p0 p1 r h=>bZ (x:=(p0,p1)) inj51 h
theorem K65_75:K_rrLogFault O75:=fun p0 r h=>(jump 56 65 10 (by decide) (by decide) _ _).trans (K65_65 p0 r h)
theorem K74_75:K_rrlastOf O75:=fun p0 r h=>(jump 103 74 1 (by decide) (by decide) _ _).trans (K74_74 p0 r h)
theorem O76_sound:cj Try.prog O76:=aV O75_sound (fun x r h=>cb (ν:=n84) (aW O75_sound) Try.func84 (by kernel_rfl) mixed (by kernel_rfl) (Nat.le_of_ble_eq_true (by kernel_rfl)) (r_rrTrimmed O75 K65_75 K75_75 K74_75 x.1 x.2 r h))
theorem K76_76:K_rrTrimmed O76:=fun p0 p1 r h=>bZ (x:=(p0,p1)) inj51 h
theorem K75_76:K_rrtermAt O76:=fun p0 p1 r h=>(jump 83 75 1 (by decide) (by decide) _ _).trans (K75_75 p0 p1 r h)
theorem O77_sound:cj Try.prog O77:=aV O76_sound (fun x r h=>by
 obtain⟨d,S,h1,h2,h3⟩:=r_rrrested O76 K75_76 K76_76 x.1 x.2 r h
 have h4:=Mx.Sem.frozen (cb (ν:=n57) (aW O76_sound) Try.func57 (by kernel_rfl) mixed (by kernel_rfl) (Nat.le_of_ble_eq_true (by kernel_rfl)) h1) h2
 obtain⟨e1,e2⟩:=Prod.mk.inj h3
 rw [e1] at h4;rw [e2] at h4;exact h4)
theorem K77_77:K_rrrested O77:=fun p0 p1 r h=>bZ (x:=(p0,p1)) inj55 h
theorem K65_77:K_rrLogFault O77:=fun p0 r h=>(jump 56 65 12 (by decide) (by decide) _ _).trans (K65_65 p0 r h)
theorem K73_77:K_rrSnapFault O77:=fun p0 r h=>(jump 50 73 4 (by decide) (by decide) _ _).trans (K73_73 p0 r h)
theorem O78_sound:cj Try.prog O78:=aV O77_sound (fun x r h=>cb (ν:=n17) (aW O77_sound) Try.func17 (by kernel_rfl) mixed (by kernel_rfl) (Nat.le_of_ble_eq_true (by kernel_rfl)) (r_rrRestOf O77 K65_77 K73_77 K77_77 x.1 x.2 r h))
theorem K78_78:K_rrRestOf O78:=fun p0 p1 r h=>bZ (x:=(p0,p1)) inj55 h
theorem O79_sound:cj Try.prog O79:=aV O78_sound (fun x r h=>cb (ν:=n58) (aW O78_sound) Try.func58 (by kernel_rfl) mixed (by kernel_rfl) (Nat.le_of_ble_eq_true (by kernel_rfl)) (r_rlsameItems O78 x.1 x.2 r h))
theorem inj79: ∀x y,a79 x=a79 y→x=y:=by
 rintro⟨ua1,ua2⟩ ⟨ub1,ub2⟩ h
 simp only [a79,Prod.mk.injEq,List.cons.injEq,D.v.injEq,V.sl.injEq,GItem.map_inj,true_and,and_true] at h
 simp only [h]
theorem K79_79:K_rlsameItems O79:=fun p0 p1 r h=>bZ (x:=(p0,p1)) inj79 h
theorem O80_sound:cj Try.prog O80:=aV O79_sound (fun x r h=>cb (ν:=n18) (aW O79_sound) Try.func18 (by kernel_rfl) mixed (by kernel_rfl) (Nat.le_of_ble_eq_true (by kernel_rfl)) (r_rlsameLog O79 K79_79 x.1 x.2 r h))
theorem inj80: ∀x y,a80 x=a80 y→x=y:=by
 rintro⟨⟨ua1,ua2,ua3⟩,⟨ua4,ua5,ua6⟩⟩ ⟨⟨ub1,ub2,ub3⟩,⟨ub4,ub5,ub6⟩⟩ h
 simp only [a80,Prod.mk.injEq,List.cons.injEq,D.v.injEq,D.agg.injEq,V.i.injEq,V.sl.injEq,GItem.map_inj,true_and,and_true] at h
 simp only [h]
theorem K80_80:K_rlsameLog O80:=fun p0 p1 r h=>bZ (x:=(p0,p1)) inj80 h
theorem K1_80:K_rrLogCopy_z O80:=fun p0 r h=>(jump 15 1 79 (by decide) (by decide) _ _).trans (K1_1 p0 r h)
theorem K6_80:K_rlsnaps_z O80:=fun p0 r h=>(jump 16 6 74 (by decide) (by decide) _ _).trans (K6_6 p0 r h)
theorem K56_80:K_tape_Rest O80:=fun p0 p1 r h=>(jump 14 56 24 (by decide) (by decide) _ _).trans (K56_56 p0 p1 r h)
theorem K78_80:K_rrRestOf O80:=fun p0 p1 r h=>(jump 17 78 2 (by decide) (by decide) _ _).trans (K78_78 p0 p1 r h)
theorem sem (rs:List (List V)) (h:eC Try.prog [50,42] rs):Mx.Sem Try.prog 5 (fD Try.prog [50,42] rs) [] (.v (.b true)) []:=by
 obtain⟨r0,_,rfl,a0,b0⟩:=eC.cons h
 obtain⟨r1,_,rfl,a1,b1⟩:=eC.cons b0
 obtain rfl:=eC.nil b1
 obtain⟨x0,rfl,o0⟩:=GLog.of50 a0
 obtain⟨x1,rfl,o1⟩:=GSnap.of42 a1
 simp only [fD,argD_struct Try.underlying50,argD_struct Try.underlying42]
 exact cb (ν:=n5) (aW O80_sound) Try.func5 (by kernel_rfl) mixed (by kernel_rfl) (Nat.le_of_ble_eq_true (by kernel_rfl)) (r_rlTapeRests O80 K1_80 K6_80 K56_80 K78_80 K80_80 x0 x1 true (TapeRests_pure x0 x1 o0 o1))
end CTapeRests
end Go.Proofs.Ytgcglmoogaldbaa
