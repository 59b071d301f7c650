/- The chain of contracts of the law TapeAppends, over the functions that it reaches. -/
import Derived.Test.YtgcglmoogaldbaaTapeAppendsZa
import Derived.Test.YtgcglmoogaldbaaTapeAppendsZb
import Derived.Test.YtgcglmoogaldbaaTapeAppendsZc
import Derived.Test.YtgcglmoogaldbaaTapeAppendsZd
import Derived.Test.YtgcglmoogaldbaaTapeAppendsD
import Derived.Test.YtgcglmoogaldbaaTapeAppendsP
set_option linter.unusedSimpArgs false
set_option linter.unusedVariables false
set_option linter.constructorNameAsVariable false
set_option linter.unnecessarySimpa false
set_option maxRecDepth 100000
noncomputable section
namespace Go.Proofs.Ytgcglmoogaldbaa
open Go Go.Mx Go.Proofs
namespace CTapeAppends
theorem VO {P:Program} {t e:TypeId} {x:V} (hu:P.underlying t=some (.slice e)):BQ P t [x]= .v x:=by simp only [BQ,hu]
theorem Y8 {P:Program} {t:TypeId} {x:V} (hu:P.underlying t=some .string):BQ P t [x]= .v x:=by simp only [BQ,hu]
def a1 (x:(List Int)):List D×bH:=([.v (.sl 1 (ah cE x))],[])
def O1:aj:=aj.addF noC 8 a1 (fun x=>sb x) (fun _ (r:(List Int))=>(.v (.sl 1 (ah cE r)),[]))
def a2 (x:iK):List D×bH:=([.agg (cGTape x)],[])
def O2:aj:=aj.addF O1 19 a2 (fun x=>sc x) (fun _ (r:iK)=>(.agg (cGTape r),[]))
def a3 (x:ad):List D×bH:=([.agg (cGValue x)],[])
def O3:aj:=aj.addF O2 102 a3 (fun x=>pF x) (fun _ (r:ad)=>(.agg [.I r.af,.v (.s r.gi),.I r.i8,.own 2 (ah iw.row r.iD),.own 1 (ah bY r.iG),.own 2 (ah ae.row r.cO)],[]))
def a4 (x:iE):List D×bH:=([.agg (cGStore x)],[])
def O4:aj:=aj.addF O3 81 a4 (fun x=>pC x) (fun _ (r:iE)=>(.agg [.I r.jv,.own 8 (ah hM.row r.im)],[]))
def a5 (x:iM):List D×bH:=([.agg (cGReply x)],[])
def O5:aj:=aj.addF O4 82 a5 (fun x=>pN x) (fun _ (r:iM)=>(.agg [.I r.ky,.v (.s r.gi),.I r.fN,.own 1 (ah bY r.jW)],[]))
def a6 (x:cc):List D×bH:=([.agg (cGMachine x)],[])
def O6:aj:=aj.addF O5 55 a6 (fun x=>mg x) (fun _ (r:cc)=>(.agg (cGMachine r),[]))
def a7 (x:jr):List D×bH:=([.agg (cGSnap x)],[])
def O7:aj:=aj.addF O6 16 a7 (fun x=>tK x) (fun _ (r:jr)=>(.agg (cGSnap r),[]))
def a8 (x:iu):List D×bH:=([.agg (cGRecord x)],[])
def O8:aj:=aj.addF O7 12 a8 (fun x=>qP x) (fun _ (r:iu)=>(.agg (cGRecord r),[]))
def O9:aj:=aj.addF O8 23 a1 (fun x=>oS x) (fun _ (r:(List Int))=>(.v (.sl 1 (ah cE r)),[]))
def O10:aj:=aj.addF O9 59 a2 (fun x=>tD x) (fun _ (r:iK×Bool)=>(.tup [.agg (cGTape r.1),.v (.b r.2)],[]))
def O11:aj:=aj.addF O10 44 a7 (fun x=>qY x) (fun _ (r:Bool)=>(.v (.b r),[]))
def a12 (x:Int):List D×bH:=([.I x],[])
def O12:aj:=aj.addF O11 45 a12 (fun x=>qW x) (fun _ (r:Bool)=>(.v (.b r),[]))
def O13:aj:=aj.addF O12 97 a12 (fun x=>oW x) (fun _ (r:Bool)=>(.v (.b r),[]))
def a14 (x:ByteArray):List D×bH:=([.v (.s x)],[])
def O14:aj:=aj.addF O13 119 a14 (fun x=>q5 x) (fun _ (r:Bool)=>(.v (.b r),[]))
def O15:aj:=aj.addF O14 115 a14 (fun x=>rO x) (fun _ (r:Bool)=>(.v (.b r),[]))
def O16:aj:=aj.addF O15 122 a12 (fun x=>qX x) (fun _ (r:Bool)=>(.v (.b r),[]))
def a17 (x:f5):List D×bH:=([.agg (cGCommand x)],[])
def O17:aj:=aj.addF O16 98 a17 (fun x=>uj x) (fun _ (r:Int)=>(.I r,[]))
def a18 (x:jB):List D×bH:=([.agg (cGCall x)],[])
def O18:aj:=aj.addF O17 77 a18 (fun x=>yr x) (fun _ (r:Int)=>(.I r,[]))
def a19 (x:iX):List D×bH:=([.agg (cGItem x)],[])
def O19:aj:=aj.addF O18 46 a19 (fun x=>pL x) (fun _ (r:Int)=>(.I r,[]))
def O20:aj:=aj.addF O19 114 a3 (fun x=>pM x) (fun _ (r:Int)=>(.I r,[]))
def O21:aj:=aj.addF O20 116 a14 (fun x=>wR x) (fun _ (r:Bool)=>(.v (.b r),[]))
def a22 (x:(List ByteArray)):List D×bH:=([.v (.sl 1 (ah bY x)),.clo 116 []],[])
def O22:aj:=aj.addF O21 131 a22 (fun x=>rV x) (fun _ (r:Int)=>(.I r,[]))
def O23:aj:=aj.addF O22 91 a22 (fun x=>qR x) (fun _ (r:Bool)=>(.v (.b r),[]))
def a24 (x:iw):List D×bH:=([.agg (cGPair x)],[])
def O24:aj:=aj.addF O23 118 a24 (fun x=>wW x) (fun _ (r:Bool)=>(.v (.b r),[]))
def a25 (x:(List iw)):List D×bH:=([.v (.sl 2 (ah iw.row x)),.clo 118 []],[])
def O25:aj:=aj.addF O24 136 a25 (fun x=>rP x) (fun _ (r:Int)=>(.I r,[]))
def O26:aj:=aj.addF O25 117 a25 (fun x=>qL x) (fun _ (r:Bool)=>(.v (.b r),[]))
def a27 (x:ae):List D×bH:=([.agg (cGScore x)],[])
def O27:aj:=aj.addF O26 121 a27 (fun x=>wL x) (fun _ (r:Bool)=>(.v (.b r),[]))
def a28 (x:(List ae)):List D×bH:=([.v (.sl 2 (ah ae.row x)),.clo 121 []],[])
def O28:aj:=aj.addF O27 137 a28 (fun x=>rN x) (fun _ (r:Int)=>(.I r,[]))
def O29:aj:=aj.addF O28 120 a28 (fun x=>qM x) (fun _ (r:Bool)=>(.v (.b r),[]))
def O30:aj:=aj.addF O29 123 a27 (fun x=>wH x) (fun _ (r:Bool)=>(.v (.b r),[]))
def a31 (x:(List ae)):List D×bH:=([.v (.sl 2 (ah ae.row x)),.clo 123 []],[])
def O31:aj:=aj.addF O30 137 a31 (fun x=>su x) (fun _ (r:Int)=>(.I r,[]))
def O32:aj:=aj.addF O31 120 a31 (fun x=>qQ x) (fun _ (r:Bool)=>(.v (.b r),[]))
def a33 (x:ByteArray×ByteArray):List D×bH:=([.v (.s x.1),.v (.s x.2)],[])
def O33:aj:=aj.addF O32 144 a33 (fun x=>y7 x.1 x.2) (fun _ (r:Int)=>(.I r,[]))
def O34:aj:=aj.addF O33 140 a33 (fun x=>oI x.1 x.2) (fun _ (r:Int)=>(.I r,[]))
def O35:aj:=aj.addF O34 129 a33 (fun x=>oJ x.1 x.2) (fun _ (r:Int)=>(.I r,[]))
def a36 (x:iw×iw):List D×bH:=([.agg (cGPair x.1),.agg (cGPair x.2)],[])
def O36:aj:=aj.addF O35 125 a36 (fun x=>qt x.1 x.2) (fun _ (r:Int)=>(.I r,[]))
def a37 (x:(List iw)):List D×bH:=([.v (.sl 2 (ah iw.row x)),.clo 125 []],[])
def O37:aj:=aj.addF O36 124 a37 (fun x=>jk x) (fun _ (r:Bool)=>(.v (.b r),[]))
def O38:aj:=aj.addF O37 143 a12 (fun x=>oQ x) (fun _ (r:Bool)=>(.v (.b r),[]))
def a39 (x:Int×Int):List D×bH:=([.I x.1,.I x.2],[])
def O39:aj:=aj.addF O38 139 a39 (fun x=>oE x.1 x.2) (fun _ (r:Int)=>(.I r,[]))
def a40 (x:(List Int)):List D×bH:=([.v (.sl 1 (ah u1 x))],[])
def O40:aj:=aj.addF O39 138 a40 (fun x=>qN x) (fun _ (r:Int)=>(.I r,[]))
def a41 (x:ae×ae):List D×bH:=([.agg (cGScore x.1),.agg (cGScore x.2)],[])
def O41:aj:=aj.addF O40 127 a41 (fun x=>nx x.1 x.2) (fun _ (r:Int)=>(.I r,[]))
def a42 (x:(List ae)):List D×bH:=([.v (.sl 2 (ah ae.row x)),.clo 127 []],[])
def O42:aj:=aj.addF O41 126 a42 (fun x=>jf x) (fun _ (r:Bool)=>(.v (.b r),[]))
def a43 (x:(List ByteArray)):List D×bH:=([.v (.sl 1 (ah bY x)),.clo 129 []],[])
def O43:aj:=aj.addF O42 128 a43 (fun x=>i4 x) (fun _ (r:Bool)=>(.v (.b r),[]))
def a44 (x:ae×ByteArray):List D×bH:=([.agg (cGScore x.1),.ptr 0 0],[[.v (.s x.2)]])
def O44:aj:=aj.addF O43 141 a44 (fun x=>nV x.1 x.2) (fun _ (r:Bool×ByteArray)=>(.v (.b r.1),[[.v (.s r.2)]]))
def a45 (x:(List ae)×ByteArray):List D×bH:=([.v (.sl 2 (ah ae.row x.1)),.clo 141 [.ptr 0 0]],[[.v (.s x.2)]])
def O45:aj:=aj.addF O44 137 a45 (fun x=>l5 x.1 x.2) (fun _ (r:Int×ByteArray)=>(.I r.1,[[.v (.s r.2)]]))
def a46 (x:(List ae)×ByteArray):List D×bH:=([.v (.sl 2 (ah ae.row x.1)),.v (.s x.2)],[])
def O46:aj:=aj.addF O45 130 a46 (fun x=>qO x.1 x.2) (fun _ (r:Int)=>(.I r,[]))
def O47:aj:=aj.addF O46 90 a3 (fun x=>vaC x) (fun _ (r:Int)=>(.I r,[]))
def O48:aj:=aj.addF O47 71 a4 (fun x=>py x) (fun _ (r:Int)=>(.I r,[]))
def O49:aj:=aj.addF O48 92 a14 (fun x=>pV x) (fun _ (r:Bool)=>(.v (.b r),[]))
def a50 (x:(List ByteArray)):List D×bH:=([.v (.sl 1 (ah bY x)),.clo 92 []],[])
def O50:aj:=aj.addF O49 131 a50 (fun x=>nc x) (fun _ (r:Int)=>(.I r,[]))
def O51:aj:=aj.addF O50 91 a50 (fun x=>mh x) (fun _ (r:Bool)=>(.v (.b r),[]))
def O52:aj:=aj.addF O51 72 a5 (fun x=>tU x) (fun _ (r:Int)=>(.I r,[]))
def O53:aj:=aj.addF O52 33 a6 (fun x=>clC x) (fun _ (r:Int)=>(.I r,[]))
def O54:aj:=aj.addF O53 47 a7 (fun x=>lM x) (fun _ (r:Int)=>(.I r,[]))
def O55:aj:=aj.addF O54 11 a8 (fun x=>ns x) (fun _ (r:Int)=>(.I r,[]))
def O56:aj:=aj.addF O55 62 a12 (fun x=>lj x) (fun _ (r:(List Int))=>(.v (.sl 1 (ah cE r)),[]))
def a57 (x:Int×bi):List D×bH:=([.ptr 0 0,.I x.1],[[.own 1 (ah cE x.2.fb)]])
def O57:aj:=aj.addF O56 105 a57 (fun x=>kP x.1 x.2) (fun _ (r:bi)=>(.tup [],[[.own 1 (ah cE r.fb)]]))
def O58:aj:=aj.addF O57 106 a57 (fun x=>ni x.1 x.2) (fun _ (r:bi)=>(.tup [],[[.own 1 (ah cE r.fb)]]))
def a59 (x:ByteArray×bi):List D×bH:=([.ptr 0 0,.v (.s x.1)],[[.own 1 (ah cE x.2.fb)]])
def O59:aj:=aj.addF O58 107 a59 (fun x=>qn x.1 x.2) (fun _ (r:bi)=>(.tup [],[[.own 1 (ah cE r.fb)]]))
def a60 (x:f5×bi):List D×bH:=([.ptr 0 0,.agg (cGCommand x.1)],[[.own 1 (ah cE x.2.fb)]])
def O60:aj:=aj.addF O59 142 a60 (fun x=>rS x.1 x.2) (fun _ (r:bi)=>(.tup [],[[.own 1 (ah cE r.fb)]]))
def a61 (x:jB×bi):List D×bH:=([.ptr 0 0,.agg (cGCall x.1)],[[.own 1 (ah cE x.2.fb)]])
def O61:aj:=aj.addF O60 135 a61 (fun x=>xw x.1 x.2) (fun _ (r:bi)=>(.tup [],[[.own 1 (ah cE r.fb)]]))
def a62 (x:iX×bi):List D×bH:=([.ptr 0 0,.agg (cGItem x.1)],[[.own 1 (ah cE x.2.fb)]])
def O62:aj:=aj.addF O61 104 a62 (fun x=>xo x.1 x.2) (fun _ (r:bi)=>(.tup [],[[.own 1 (ah cE r.fb)]]))
def O63:aj:=aj.addF O62 85 a19 (fun x=>lz x) (fun _ (r:(List Int)×Int)=>(.tup [.v (.sl 1 (ah cE r.1)),.I r.2],[]))
def a64 (x:(List ByteArray)×bi):List D×bH:=([.ptr 0 0,.v (.sl 1 (ah bY x.1))],[[.own 1 (ah cE x.2.fb)]])
def O64:aj:=aj.addF O63 109 a64 (fun x=>uw x.1 x.2) (fun _ (r:bi)=>(.tup [],[[.own 1 (ah cE r.fb)]]))
def a65 (x:ad×bi):List D×bH:=([.ptr 0 0,.agg (cGValue x.1)],[[.own 1 (ah cE x.2.fb)]])
def O65:aj:=aj.addF O64 108 a65 (fun x=>vH x.1 x.2) (fun _ (r:bi)=>(.tup [],[[.own 1 (ah cE r.fb)]]))
def O66:aj:=aj.addF O65 86 a6 (fun x=>oe x) (fun _ (r:(List Int)×Int)=>(.tup [.v (.sl 1 (ah cE r.1)),.I r.2],[]))
def a67 (x:Int):List D×bH:=([.own 0 [],.I x],[])
def O67:aj:=aj.addF O66 87 a67 (fun x=>ke x) (fun _ (r:Unit)=>(.own 1 [],[]))
def a68 (x:(List (List Int))):List D×bH:=([.v (.sl 1 (ah sR x))],[])
def O68:aj:=aj.addF O67 61 a68 (fun x=>jK x) (fun _ (r:(List Int))=>(.own 1 (ah cE r),[]))
def O69:aj:=aj.addF O68 60 a8 (fun x=>lI x) (fun _ (r:(List Int))=>(.v (.sl 1 (ah cE r)),[]))
def a70 (x:iK×iu):List D×bH:=([.agg (cGTape x.1),.agg (cGRecord x.2)],[])
def O70:aj:=aj.addF O69 20 a70 (fun x=>pO x.1 x.2) (fun _ (r:iK×Int)=>(.tup [.agg (cGTape r.1),.I r.2],[]))
def a71 (x:Int×Int×Int):List D×bH:=([.I x.1,.I x.2.1,.I x.2.2],[])
def O71:aj:=aj.addF O70 48 a71 (fun x=>Kw x.1 x.2.1 x.2.2) (fun _ (r:Bool)=>(.v (.b r),[]))
def O72:aj:=aj.addF O71 63 a2 (fun x=>tI x) (fun _ (r:Bool)=>(.v (.b r),[]))
def O73:aj:=aj.addF O72 49 a7 (fun x=>qV x) (fun _ (r:Bool)=>(.v (.b r),[]))
def O74:aj:=aj.addF O73 51 a12 (fun x=>qU x) (fun _ (r:Bool)=>(.v (.b r),[]))
def O75:aj:=aj.addF O74 93 a14 (fun x=>rK x) (fun _ (r:Bool)=>(.v (.b r),[]))
def O76:aj:=aj.addF O75 132 a3 (fun x=>wz x) (fun _ (r:Int)=>(.I r,[]))
def O77:aj:=aj.addF O76 95 a14 (fun x=>tG x) (fun _ (r:Bool)=>(.v (.b r),[]))
def O78:aj:=aj.addF O77 96 a12 (fun x=>sh x) (fun _ (r:Bool)=>(.v (.b r),[]))
def O79:aj:=aj.addF O78 133 a41 (fun x=>qf x.1 x.2) (fun _ (r:Bool)=>(.v (.b r),[]))
def O80:aj:=aj.addF O79 134 a46 (fun x=>qS x.1 x.2) (fun _ (r:Int)=>(.I r,[]))
def O81:aj:=aj.addF O80 94 a3 (fun x=>ou x) (fun _ (r:Int)=>(.I r,[]))
def O82:aj:=aj.addF O81 73 a4 (fun x=>oD x) (fun _ (r:Int)=>(.I r,[]))
def O83:aj:=aj.addF O82 74 a5 (fun x=>np x) (fun _ (r:Int)=>(.I r,[]))
def O84:aj:=aj.addF O83 41 a6 (fun x=>mP x) (fun _ (r:Int)=>(.I r,[]))
def O85:aj:=aj.addF O84 50 a7 (fun x=>pE x) (fun _ (r:Int)=>(.I r,[]))
def O86:aj:=aj.addF O85 99 a17 (fun x=>pB x) (fun _ (r:Int)=>(.I r,[]))
def O87:aj:=aj.addF O86 78 a18 (fun x=>sV x) (fun _ (r:Int)=>(.I r,[]))
def O88:aj:=aj.addF O87 52 a19 (fun x=>sL x) (fun _ (r:Int)=>(.I r,[]))
def O89:aj:=aj.addF O88 13 a8 (fun x=>nv x) (fun _ (r:Int)=>(.I r,[]))
def O90:aj:=aj.addF O89 66 a12 (fun x=>pG x) (fun _ (r:(List Int))=>(.own 1 (ah cE r),[]))
def a91 (x:(List Int)×(List Int)):List D×bH:=([.v (.sl 1 (ah cE x.1)),.v (.sl 1 (ah cE x.2))],[])
def O91:aj:=aj.addF O90 65 a91 (fun x=>je x.1 x.2) (fun _ (r:(List Int))=>(.own 1 (ah cE r),[]))
def O92:aj:=aj.addF O91 110 a12 (fun x=>lV x) (fun _ (r:(List Int))=>(.own 1 (ah cE r),[]))
def O93:aj:=aj.addF O92 111 a14 (fun x=>kd x) (fun _ (r:(List Int))=>(.own 1 (ah cE r),[]))
def O94:aj:=aj.addF O93 88 a19 (fun x=>pI x) (fun _ (r:(List Int))=>(.own 1 (ah cE r),[]))
def a95 (x:(List ByteArray)):List D×bH:=([.v (.sl 1 (ah bY x))],[])
def O95:aj:=aj.addF O94 113 a95 (fun x=>od x) (fun _ (r:(List Int))=>(.own 1 (ah cE r),[]))
def O96:aj:=aj.addF O95 112 a3 (fun x=>og x) (fun _ (r:(List Int))=>(.own 1 (ah cE r),[]))
def O97:aj:=aj.addF O96 89 a6 (fun x=>mN x) (fun _ (r:(List Int))=>(.own 1 (ah cE r),[]))
def O98:aj:=aj.addF O97 64 a8 (fun x=>lH x) (fun _ (r:(List Int))=>(.own 1 (ah cE r),[]))
def O99:aj:=aj.addF O98 21 a70 (fun x=>mO x.1 x.2) (fun _ (r:iK×Int)=>(.tup [.agg (cGTape r.1),.I r.2],[]))
def OE (x:iK×iK):List D×bH:=([.agg (cGTape x.1),.agg (cGTape x.2)],[])
def EY:aj:=aj.addF O99 22 OE (fun x=>pz x.1 x.2) (fun _ (r:Bool)=>(.v (.b r),[]))
def FF:Nat->Nat
 |1=>8
 |2=>19
 |3=>102
 |4=>81
 |5=>82
 |6=>55
 |7=>16
 |8=>12
 |9=>23
 |10=>59
 |11=>44
 |12=>45
 |13=>97
 |14=>119
 |15=>115
 |16=>122
 |17=>98
 |18=>77
 |19=>46
 |20=>114
 |21=>116
 |22=>131
 |23=>91
 |24=>118
 |25=>136
 |26=>117
 |27=>121
 |28=>137
 |29=>120
 |30=>123
 |31=>137
 |32=>120
 |33=>144
 |34=>140
 |35=>129
 |36=>125
 |37=>124
 |38=>143
 |39=>139
 |40=>138
 |41=>127
 |42=>126
 |43=>128
 |44=>141
 |45=>137
 |46=>130
 |47=>90
 |48=>71
 |49=>92
 |50=>131
 |51=>91
 |52=>72
 |53=>33
 |54=>47
 |55=>11
 |56=>62
 |57=>105
 |58=>106
 |59=>107
 |60=>142
 |61=>135
 |62=>104
 |63=>85
 |64=>109
 |65=>108
 |66=>86
 |67=>87
 |68=>61
 |69=>60
 |70=>20
 |71=>48
 |72=>63
 |73=>49
 |74=>51
 |75=>93
 |76=>132
 |77=>95
 |78=>96
 |79=>133
 |80=>134
 |81=>94
 |82=>73
 |83=>74
 |84=>41
 |85=>50
 |86=>99
 |87=>78
 |88=>52
 |89=>13
 |90=>66
 |91=>65
 |92=>110
 |93=>111
 |94=>88
 |95=>113
 |96=>112
 |97=>89
 |98=>64
 |99=>21
 |100=>22
 |_=>0
def OO:Nat->aj
 |0=>noC
 |1=>O1
 |2=>O2
 |3=>O3
 |4=>O4
 |5=>O5
 |6=>O6
 |7=>O7
 |8=>O8
 |9=>O9
 |10=>O10
 |11=>O11
 |12=>O12
 |13=>O13
 |14=>O14
 |15=>O15
 |16=>O16
 |17=>O17
 |18=>O18
 |19=>O19
 |20=>O20
 |21=>O21
 |22=>O22
 |23=>O23
 |24=>O24
 |25=>O25
 |26=>O26
 |27=>O27
 |28=>O28
 |29=>O29
 |30=>O30
 |31=>O31
 |32=>O32
 |33=>O33
 |34=>O34
 |35=>O35
 |36=>O36
 |37=>O37
 |38=>O38
 |39=>O39
 |40=>O40
 |41=>O41
 |42=>O42
 |43=>O43
 |44=>O44
 |45=>O45
 |46=>O46
 |47=>O47
 |48=>O48
 |49=>O49
 |50=>O50
 |51=>O51
 |52=>O52
 |53=>O53
 |54=>O54
 |55=>O55
 |56=>O56
 |57=>O57
 |58=>O58
 |59=>O59
 |60=>O60
 |61=>O61
 |62=>O62
 |63=>O63
 |64=>O64
 |65=>O65
 |66=>O66
 |67=>O67
 |68=>O68
 |69=>O69
 |70=>O70
 |71=>O71
 |72=>O72
 |73=>O73
 |74=>O74
 |75=>O75
 |76=>O76
 |77=>O77
 |78=>O78
 |79=>O79
 |80=>O80
 |81=>O81
 |82=>O82
 |83=>O83
 |84=>O84
 |85=>O85
 |86=>O86
 |87=>O87
 |88=>O88
 |89=>O89
 |90=>O90
 |91=>O91
 |92=>O92
 |93=>O93
 |94=>O94
 |95=>O95
 |96=>O96
 |97=>O97
 |98=>O98
 |99=>O99
 |100=>EY
 |_=>noC
theorem up {C:aj} {f f1:Nat} {X R:Type} {arg:X->List D×bH} {G:X->Option R} {res:X->R->D×bH} (h:f≠f1):(aj.addF C f1 arg G res) f=C f:=funext fun a=>funext fun S=>ac h a S
theorem qcm: ∀n f,n<100->f≠FF (n+1)->OO (n+1) f=OO n f
 |0,f,_,h=>(up h:O1 f=noC f)
 |1,f,_,h=>(up h:O2 f=O1 f)
 |2,f,_,h=>(up h:O3 f=O2 f)
 |3,f,_,h=>(up h:O4 f=O3 f)
 |4,f,_,h=>(up h:O5 f=O4 f)
 |5,f,_,h=>(up h:O6 f=O5 f)
 |6,f,_,h=>(up h:O7 f=O6 f)
 |7,f,_,h=>(up h:O8 f=O7 f)
 |8,f,_,h=>(up h:O9 f=O8 f)
 |9,f,_,h=>(up h:O10 f=O9 f)
 |10,f,_,h=>(up h:O11 f=O10 f)
 |11,f,_,h=>(up h:O12 f=O11 f)
 |12,f,_,h=>(up h:O13 f=O12 f)
 |13,f,_,h=>(up h:O14 f=O13 f)
 |14,f,_,h=>(up h:O15 f=O14 f)
 |15,f,_,h=>(up h:O16 f=O15 f)
 |16,f,_,h=>(up h:O17 f=O16 f)
 |17,f,_,h=>(up h:O18 f=O17 f)
 |18,f,_,h=>(up h:O19 f=O18 f)
 |19,f,_,h=>(up h:O20 f=O19 f)
 |20,f,_,h=>(up h:O21 f=O20 f)
 |21,f,_,h=>(up h:O22 f=O21 f)
 |22,f,_,h=>(up h:O23 f=O22 f)
 |23,f,_,h=>(up h:O24 f=O23 f)
 |24,f,_,h=>(up h:O25 f=O24 f)
 |25,f,_,h=>(up h:O26 f=O25 f)
 |26,f,_,h=>(up h:O27 f=O26 f)
 |27,f,_,h=>(up h:O28 f=O27 f)
 |28,f,_,h=>(up h:O29 f=O28 f)
 |29,f,_,h=>(up h:O30 f=O29 f)
 |30,f,_,h=>(up h:O31 f=O30 f)
 |31,f,_,h=>(up h:O32 f=O31 f)
 |32,f,_,h=>(up h:O33 f=O32 f)
 |33,f,_,h=>(up h:O34 f=O33 f)
 |34,f,_,h=>(up h:O35 f=O34 f)
 |35,f,_,h=>(up h:O36 f=O35 f)
 |36,f,_,h=>(up h:O37 f=O36 f)
 |37,f,_,h=>(up h:O38 f=O37 f)
 |38,f,_,h=>(up h:O39 f=O38 f)
 |39,f,_,h=>(up h:O40 f=O39 f)
 |40,f,_,h=>(up h:O41 f=O40 f)
 |41,f,_,h=>(up h:O42 f=O41 f)
 |42,f,_,h=>(up h:O43 f=O42 f)
 |43,f,_,h=>(up h:O44 f=O43 f)
 |44,f,_,h=>(up h:O45 f=O44 f)
 |45,f,_,h=>(up h:O46 f=O45 f)
 |46,f,_,h=>(up h:O47 f=O46 f)
 |47,f,_,h=>(up h:O48 f=O47 f)
 |48,f,_,h=>(up h:O49 f=O48 f)
 |49,f,_,h=>(up h:O50 f=O49 f)
 |50,f,_,h=>(up h:O51 f=O50 f)
 |51,f,_,h=>(up h:O52 f=O51 f)
 |52,f,_,h=>(up h:O53 f=O52 f)
 |53,f,_,h=>(up h:O54 f=O53 f)
 |54,f,_,h=>(up h:O55 f=O54 f)
 |55,f,_,h=>(up h:O56 f=O55 f)
 |56,f,_,h=>(up h:O57 f=O56 f)
 |57,f,_,h=>(up h:O58 f=O57 f)
 |58,f,_,h=>(up h:O59 f=O58 f)
 |59,f,_,h=>(up h:O60 f=O59 f)
 |60,f,_,h=>(up h:O61 f=O60 f)
 |61,f,_,h=>(up h:O62 f=O61 f)
 |62,f,_,h=>(up h:O63 f=O62 f)
 |63,f,_,h=>(up h:O64 f=O63 f)
 |64,f,_,h=>(up h:O65 f=O64 f)
 |65,f,_,h=>(up h:O66 f=O65 f)
 |66,f,_,h=>(up h:O67 f=O66 f)
 |67,f,_,h=>(up h:O68 f=O67 f)
 |68,f,_,h=>(up h:O69 f=O68 f)
 |69,f,_,h=>(up h:O70 f=O69 f)
 |70,f,_,h=>(up h:O71 f=O70 f)
 |71,f,_,h=>(up h:O72 f=O71 f)
 |72,f,_,h=>(up h:O73 f=O72 f)
 |73,f,_,h=>(up h:O74 f=O73 f)
 |74,f,_,h=>(up h:O75 f=O74 f)
 |75,f,_,h=>(up h:O76 f=O75 f)
 |76,f,_,h=>(up h:O77 f=O76 f)
 |77,f,_,h=>(up h:O78 f=O77 f)
 |78,f,_,h=>(up h:O79 f=O78 f)
 |79,f,_,h=>(up h:O80 f=O79 f)
 |80,f,_,h=>(up h:O81 f=O80 f)
 |81,f,_,h=>(up h:O82 f=O81 f)
 |82,f,_,h=>(up h:O83 f=O82 f)
 |83,f,_,h=>(up h:O84 f=O83 f)
 |84,f,_,h=>(up h:O85 f=O84 f)
 |85,f,_,h=>(up h:O86 f=O85 f)
 |86,f,_,h=>(up h:O87 f=O86 f)
 |87,f,_,h=>(up h:O88 f=O87 f)
 |88,f,_,h=>(up h:O89 f=O88 f)
 |89,f,_,h=>(up h:O90 f=O89 f)
 |90,f,_,h=>(up h:O91 f=O90 f)
 |91,f,_,h=>(up h:O92 f=O91 f)
 |92,f,_,h=>(up h:O93 f=O92 f)
 |93,f,_,h=>(up h:O94 f=O93 f)
 |94,f,_,h=>(up h:O95 f=O94 f)
 |95,f,_,h=>(up h:O96 f=O95 f)
 |96,f,_,h=>(up h:O97 f=O96 f)
 |97,f,_,h=>(up h:O98 f=O97 f)
 |98,f,_,h=>(up h:O99 f=O98 f)
 |99,f,_,h=>(up h:EY f=O99 f)
 |n+100,_,h,_=>absurd h (by omega)
theorem js (f j:Nat): ∀d,j+d<=100->(∀m,m<d->f≠FF (j+m+1))-> ∀a S,OO (j+d) f a S=OO j f a S
 |0,_,_,_,_=>rfl
 |d+1,hd,h,a,S=>(congrFun (congrFun (qcm (j+d) f (by omega) (h d (Nat.lt_succ_self d))) a) S).trans (js f j d (by omega) (fun m hm=>h m (Nat.lt_succ_of_lt hm)) a S)
theorem HS:iB Try.prog O1:=aV (gF _) (fun x r h=>by
 obtain⟨d,S,h1,h2,h3⟩:=Fz noC x r h
 have h4:=Mx.Sem.frozen (iQ (ν:=n8) (gF _) Try.func8 (by kernel_rfl) iR h1) h2
 obtain⟨e1,e2⟩:=Prod.mk.inj h3
 rw [e1] at h4;rw [e2] at h4;exact h4)
theorem YX: ∀x y,a1 x=a1 y->x=y:=by
 rintro ua1 ub1 h
 simp only [a1,RI,bc] at h
 exact h
theorem qde:ym O1:=fun p0 r h=>bZ (x:=p0) YX h
theorem HZ:iB Try.prog O2:=aV HS (fun x r h=>by
 obtain⟨d,S,h1,h2,h3⟩:=GE O1 qde x r h
 have h4:=Mx.Sem.frozen (iQ (ν:=n19) HS Try.func19 (by kernel_rfl) iR h1) h2
 obtain⟨e1,e2⟩:=Prod.mk.inj h3
 rw [e1] at h4;rw [e2] at h4;exact h4)
theorem Wi: ∀x y,a2 x=a2 y->x=y:=by
 rintro⟨ua1,ua2⟩ ⟨ub1,ub2⟩ h
 simp only [a2,RI,bc] at h
 simp only [h]
theorem qcT:wd O2:=fun p0 r h=>bZ (x:=p0) Wi h
theorem Gx:iB Try.prog O3:=aV HZ (fun x r h=>iQ (ν:=u3) HZ Try.func102 (by kernel_rfl) iR (Ch O2 x r h))
theorem KT: ∀x y,a3 x=a3 y->x=y:=by
 rintro⟨ua1,ua2,ua3,ua4,ua5,ua6⟩ ⟨ub1,ub2,ub3,ub4,ub5,ub6⟩ h
 simp only [a3,RI,aZ,iw.map_inj,ae.map_inj] at h
 simp only [h]
theorem qcR:uD O3:=fun p0 r h=>bZ (x:=p0) KT h
theorem HD:iB Try.prog O4:=aV Gx (fun x r h=>iQ (ν:=n81) Gx Try.func81 (by kernel_rfl) iR (Cj O3 qcR x r h))
theorem Ya: ∀x y,a4 x=a4 y->x=y:=by
 rintro⟨ua1,ua2⟩ ⟨ub1,ub2⟩ h
 simp only [a4,RI,hM.map_inj] at h
 simp only [h]
theorem qd4:uG O4:=fun p0 r h=>bZ (x:=p0) Ya h
theorem GG:iB Try.prog O5:=aV HD (fun x r h=>iQ (ν:=n82) HD Try.func82 (by kernel_rfl) iR (BZ O4 x r h))
theorem W1: ∀x y,a5 x=a5 y->x=y:=by
 rintro⟨ua1,ua2,ua3,ua4⟩ ⟨ub1,ub2,ub3,ub4⟩ h
 simp only [a5,RI,aZ] at h
 simp only [h]
theorem qdN:uP O5:=fun p0 r h=>bZ (x:=p0) W1 h
theorem qcH:uG O5:=fun p0 r h=>(js 81 4 1 (by decide) (by decide) _ _).trans (qd4 p0 r h)
theorem H4:iB Try.prog O6:=aV GG (fun x r h=>by
 obtain⟨d,S,h1,h2,h3⟩:=xY O5 qcH qdN x r h
 have h4:=Mx.Sem.frozen (iQ (ν:=n55) GG Try.func55 (by kernel_rfl) iR h1) h2
 obtain⟨e1,e2⟩:=Prod.mk.inj h3
 rw [e1] at h4;rw [e2] at h4;exact h4)
theorem MJ: ∀x y,a6 x=a6 y->x=y:=by
 rintro⟨⟨ua1,ua2⟩,ua3,ua4⟩ ⟨⟨ub1,ub2⟩,ub3,ub4⟩ h
 simp only [a6,RI,hM.map_inj,f7.map_inj] at h
 simp only [h]
theorem qdD:uz O6:=fun p0 r h=>bZ (x:=p0) MJ h
theorem Gv:iB Try.prog O7:=aV H4 (fun x r h=>by
 obtain⟨d,S,h1,h2,h3⟩:=He O6 qdD x r h
 have h4:=Mx.Sem.frozen (iQ (ν:=n16) H4 Try.func16 (by kernel_rfl) iR h1) h2
 obtain⟨e1,e2⟩:=Prod.mk.inj h3
 rw [e1] at h4;rw [e2] at h4;exact h4)
theorem NG: ∀x y,a7 x=a7 y->x=y:=by
 rintro⟨ua1,ua2,⟨⟨ua3,ua4⟩,ua5,ua6⟩⟩ ⟨ub1,ub2,⟨⟨ub3,ub4⟩,ub5,ub6⟩⟩ h
 simp only [a7,RI,hM.map_inj,f7.map_inj] at h
 simp only [h]
theorem qdT:zC O7:=fun p0 r h=>bZ (x:=p0) NG h
theorem GY:iB Try.prog O8:=aV Gv (fun x r h=>by
 obtain⟨d,S,h1,h2,h3⟩:=Fh O7 qdT x r h
 have h4:=Mx.Sem.frozen (iQ (ν:=n12) Gv Try.func12 (by kernel_rfl) iR h1) h2
 obtain⟨e1,e2⟩:=Prod.mk.inj h3
 rw [e1] at h4;rw [e2] at h4;exact h4)
theorem NC: ∀x y,a8 x=a8 y->x=y:=by
 rintro⟨ua1,ua2,ua3,ua4,⟨ua5,ua6,ua7,⟨ua8,ua9,⟨ua10,ua11,ua12,ua13,ua14⟩⟩⟩,⟨ua15,ua16,⟨⟨ua17,ua18⟩,ua19,ua20⟩⟩⟩ ⟨ub1,ub2,ub3,ub4,⟨ub5,ub6,ub7,⟨ub8,ub9,⟨ub10,ub11,ub12,ub13,ub14⟩⟩⟩,⟨ub15,ub16,⟨⟨ub17,ub18⟩,ub19,ub20⟩⟩⟩ h
 simp only [a8,RI,hM.map_inj,f7.map_inj] at h
 simp only [h]
theorem qcP:vr O8:=fun p0 r h=>bZ (x:=p0) NC h
theorem GT:iB Try.prog O9:=aV GY (fun x r h=>Mx.Sem.frozen (P8 (ν:=n23) (aW GY) Try.func23 (by kernel_rfl) (Nat.le_of_ble_eq_true (by kernel_rfl)) (Ai _ x r h)) rfl)
theorem qcM:vV O9:=fun p0 r h=>bZ (x:=p0) YX h
theorem CK:iB Try.prog O10:=aV GT (fun x r h=>iQ (ν:=n59) GT Try.func59 (by kernel_rfl) iR (H8 O9 qcM x r h))
theorem VS:wD O10:=fun p0 r h=>bZ (x:=p0) Wi h
theorem Eb:iB Try.prog O11:=aV CK (fun x r h=>iQ (ν:=n44) CK Try.func44 (by kernel_rfl) iR (CA O10 x r h))
theorem Yh:sC O11:=fun p0 r h=>bZ (x:=p0) NG h
theorem DJ:iB Try.prog O12:=aV Eb (fun x r h=>iQ (ν:=n45) Eb Try.func45 (by kernel_rfl) iR (B8 O11 x r h))
theorem xI: ∀x y,a12 x=a12 y->x=y:=by
 rintro ua1 ub1 h
 simp only [a12,RI] at h
 exact h
theorem MT:oZ O12:=fun p0 r h=>bZ (x:=p0) xI h
theorem CG:iB Try.prog O13:=aV DJ (fun x r h=>iQ (ν:=n97) DJ Try.func97 (by kernel_rfl) iR (z4 O12 x r h))
theorem Yi:tm O13:=fun p0 r h=>bZ (x:=p0) xI h
theorem D6:iB Try.prog O14:=aV CG (fun x r h=>iQ (ν:=OJ) CG Try.func119 (by kernel_rfl) iR (Cx O13 x r h))
theorem BA: ∀x y,a14 x=a14 y->x=y:=by
 rintro ua1 ub1 h
 simp only [a14,RI] at h
 exact h
theorem M4:pd O14:=fun p0 r h=>bZ (x:=p0) BA h
theorem Du:iB Try.prog O15:=aV D6 (fun x r h=>iQ (ν:=Qn) D6 Try.func115 (by kernel_rfl) iR (Fy O14 x r h))
theorem A5:kC O15:=fun p0 r h=>bZ (x:=p0) BA h
theorem C4:iB Try.prog O16:=aV Du (fun x r h=>iQ (ν:=P2) Du Try.func122 (by kernel_rfl) iR (Co O15 x r h))
theorem IW:oV O16:=fun p0 r h=>bZ (x:=p0) xI h
theorem Yg:pd O16:=fun p0 r h=>(js 119 14 2 (by decide) (by decide) _ _).trans (M4 p0 r h)
theorem Ye:kC O16:=fun p0 r h=>(js 115 15 1 (by decide) (by decide) _ _).trans (A5 p0 r h)
theorem Eu:iB Try.prog O17:=aV C4 (fun x r h=>iQ (ν:=n98) C4 Try.func98 (by kernel_rfl) iR (Fj O16 Yg Ye IW x r h))
theorem Q1: ∀x y,a17 x=a17 y->x=y:=by
 rintro⟨ua1,ua2,ua3,ua4,ua5⟩ ⟨ub1,ub2,ub3,ub4,ub5⟩ h
 simp only [a17,RI] at h
 simp only [h]
theorem Ve:xU O17:=fun p0 r h=>bZ (x:=p0) Q1 h
theorem Sj:tm O17:=fun p0 r h=>(js 97 13 4 (by decide) (by decide) _ _).trans (Yi p0 r h)
theorem Dg:iB Try.prog O18:=aV Eu (fun x r h=>iQ (ν:=n77) Eu Try.func77 (by kernel_rfl) iR (KX O17 Sj Ve x r h))
theorem QW: ∀x y,a18 x=a18 y->x=y:=by
 rintro⟨ua1,ua2,⟨ua3,ua4,ua5,ua6,ua7⟩⟩ ⟨ub1,ub2,⟨ub3,ub4,ub5,ub6,ub7⟩⟩ h
 simp only [a18,RI] at h
 simp only [h]
theorem Xf:Db O18:=fun p0 r h=>bZ (x:=p0) QW h
theorem Dr:iB Try.prog O19:=aV Dg (fun x r h=>iQ (ν:=n46) Dg Try.func46 (by kernel_rfl) iR (zk O18 Xf x r h))
theorem J3: ∀x y,a19 x=a19 y->x=y:=by
 rintro⟨ua1,ua2,ua3,⟨ua4,ua5,⟨ua6,ua7,ua8,ua9,ua10⟩⟩⟩ ⟨ub1,ub2,ub3,⟨ub4,ub5,⟨ub6,ub7,ub8,ub9,ub10⟩⟩⟩ h
 simp only [a19,RI] at h
 simp only [h]
theorem NO:oc O19:=fun p0 r h=>bZ (x:=p0) J3 h
theorem EC:iB Try.prog O20:=aV Dr (fun x r h=>iQ (ν:=LW) Dr Try.func114 (by kernel_rfl) iR (zc O19 x r h))
theorem S4:nR O20:=fun p0 r h=>bZ (x:=p0) KT h
theorem Sp:kC O20:=fun p0 r h=>(js 115 15 5 (by decide) (by decide) _ _).trans (A5 p0 r h)
theorem DA:iB Try.prog O21:=aV EC (fun x r h=>iQ (ν:=Om) EC Try.func116 (by kernel_rfl) iR (Ln O20 Sp x r h))
theorem Yf:zs O21:=fun p0 r h=>bZ (x:=p0) BA h
theorem Ev:iB Try.prog O22:=aV DA (fun x r h=>iQ (ν:=wY) DA Try.func131 (by kernel_rfl) iR (FB O21 Yf x r h))
theorem Rl: ∀x y,a22 x=a22 y->x=y:=by
 rintro ua1 ub1 h
 simp only [a22,RI,aZ] at h
 exact h
theorem UF:yl O22:=fun p0 r h=>bZ (x:=p0) Rl h
theorem Dt:iB Try.prog O23:=aV Ev (fun x r h=>iQ (ν:=n91) Ev Try.func91 (by kernel_rfl) iR (E7 O22 UF x r h))
theorem Vk:vB O23:=fun p0 r h=>bZ (x:=p0) Rl h
theorem WT:pd O23:=fun p0 r h=>(js 119 14 9 (by decide) (by decide) _ _).trans (M4 p0 r h)
theorem Xi:kC O23:=fun p0 r h=>(js 115 15 8 (by decide) (by decide) _ _).trans (A5 p0 r h)
theorem DZ:iB Try.prog O24:=aV Dt (fun x r h=>iQ (ν:=L3) Dt Try.func118 (by kernel_rfl) iR (La O23 WT Xi x r h))
theorem qaP: ∀x y,a24 x=a24 y->x=y:=by
 rintro⟨ua1,ua2⟩ ⟨ub1,ub2⟩ h
 simp only [a24,RI] at h
 simp only [h]
theorem SQ:zz O24:=fun p0 r h=>bZ (x:=p0) qaP h
theorem Dw:iB Try.prog O25:=aV DZ (fun x r h=>iQ (ν:=Cr) DZ Try.func136 (by kernel_rfl) iR (Fb O24 SQ x r h))
theorem QB: ∀x y,a25 x=a25 y->x=y:=by
 rintro ua1 ub1 h
 simp only [a25,RI,iw.map_inj] at h
 exact h
theorem SL:xB O25:=fun p0 r h=>bZ (x:=p0) QB h
theorem CE:iB Try.prog O26:=aV Dw (fun x r h=>iQ (ν:=Ok) Dw Try.func117 (by kernel_rfl) iR (FQ O25 SL x r h))
theorem TH:vm O26:=fun p0 r h=>bZ (x:=p0) QB h
theorem Yn:kC O26:=fun p0 r h=>(js 115 15 11 (by decide) (by decide) _ _).trans (A5 p0 r h)
theorem CU:iB Try.prog O27:=aV CE (fun x r h=>iQ (ν:=LM) CE Try.func121 (by kernel_rfl) iR (Lt O26 Yn x r h))
theorem Rj: ∀x y,a27 x=a27 y->x=y:=by
 rintro⟨ua1,ua2⟩ ⟨ub1,ub2⟩ h
 simp only [a27,RI] at h
 simp only [h]
theorem Vr:yV O27:=fun p0 r h=>bZ (x:=p0) Rj h
theorem DU:iB Try.prog O28:=aV CU (fun x r h=>iQ (ν:=uk) CU Try.func137 (by kernel_rfl) iR (Gl O27 Vr x r h))
theorem QU: ∀x y,a28 x=a28 y->x=y:=by
 rintro ua1 ub1 h
 simp only [a28,RI,ae.map_inj] at h
 exact h
theorem UC:yn O28:=fun p0 r h=>bZ (x:=p0) QU h
theorem EM:iB Try.prog O29:=aV DU (fun x r h=>iQ (ν:=GQ) DU Try.func120 (by kernel_rfl) iR (EX O28 UC x r h))
theorem XS:vw O29:=fun p0 r h=>bZ (x:=p0) QU h
theorem VG:oV O29:=fun p0 r h=>(js 122 16 13 (by decide) (by decide) _ _).trans (IW p0 r h)
theorem DH:iB Try.prog O30:=aV EM (fun x r h=>iQ (ν:=LL) EM Try.func123 (by kernel_rfl) iR (Lr O29 VG x r h))
theorem SS:yJ O30:=fun p0 r h=>bZ (x:=p0) Rj h
theorem DL:iB Try.prog O31:=aV DH (fun x r h=>iQ (ν:=uk) DH Try.func137 (by kernel_rfl) iR (EW O30 SS x r h))
theorem QI: ∀x y,a31 x=a31 y->x=y:=by
 rintro ua1 ub1 h
 simp only [a31,RI,ae.map_inj] at h
 exact h
theorem Sg:xZ O31:=fun p0 r h=>bZ (x:=p0) QI h
theorem KM:iB Try.prog O32:=aV DL (fun x r h=>iQ (ν:=GQ) DL Try.func120 (by kernel_rfl) iR (E6 O31 Sg x r h))
theorem Uf:vJ O32:=fun p0 r h=>bZ (x:=p0) QI h
theorem EI:iB Try.prog O33:=aV KM (fun x r h=>by
 obtain rfl:=Option.some.inj h
 exact Pi Try.func144 (by kernel_rfl) (by kernel_rfl) (by kernel_rfl) (by kernel_rfl) x.1 x.2)
theorem MU: ∀x y,a33 x=a33 y->x=y:=by
 rintro⟨ua1,ua2⟩ ⟨ub1,ub2⟩ h
 simp only [a33,RI] at h
 simp only [h]
theorem VT:zF O33:=fun p0 p1 r h=>bZ (x:=(p0,p1)) MU h
theorem D3:iB Try.prog O34:=aV EI (fun x r h=>iQ (ν:=Mj) EI Try.func140 (by kernel_rfl) iR (yq O33 VT x.1 x.2 r h))
theorem U9:uq O34:=fun p0 p1 r h=>bZ (x:=(p0,p1)) MU h
theorem Dv:iB Try.prog O35:=aV D3 (fun x r h=>iQ (ν:=NQ) D3 Try.func129 (by kernel_rfl) iR (xO O34 U9 x.1 x.2 r h))
theorem Ij:lg O35:=fun p0 p1 r h=>bZ (x:=(p0,p1)) MU h
theorem Ek:iB Try.prog O36:=aV Dv (fun x r h=>iQ (ν:=Ky) Dv Try.func125 (by kernel_rfl) iR (z9 O35 Ij x.1 x.2 r h))
theorem ZW: ∀x y,a36 x=a36 y->x=y:=by
 rintro⟨⟨ua1,ua2⟩,⟨ua3,ua4⟩⟩ ⟨⟨ub1,ub2⟩,⟨ub3,ub4⟩⟩ h
 simp only [a36,RI] at h
 simp only [h]
theorem RU:tl O36:=fun p0 p1 r h=>bZ (x:=(p0,p1)) ZW h
theorem EJ:iB Try.prog O37:=aV Ek (fun x r h=>iQ (ν:=A3) Ek Try.func124 (by kernel_rfl) iR (ra O36 RU x r h))
theorem qaH: ∀x y,a37 x=a37 y->x=y:=by
 rintro ua1 ub1 h
 simp only [a37,RI,iw.map_inj] at h
 exact h
theorem WH:ka O37:=fun p0 r h=>bZ (x:=p0) qaH h
theorem Dc:iB Try.prog O38:=aV EJ (fun x r h=>iQ (ν:=OU) EJ Try.func143 (by kernel_rfl) iR (z6 O37 x r h))
theorem Th:vQ O38:=fun p0 r h=>bZ (x:=p0) xI h
theorem C6:iB Try.prog O39:=aV Dc (fun x r h=>iQ (ν:=KV) Dc Try.func139 (by kernel_rfl) iR (yt O38 Th x.1 x.2 r h))
theorem YN: ∀x y,a39 x=a39 y->x=y:=by
 rintro⟨ua1,ua2⟩ ⟨ub1,ub2⟩ h
 simp only [a39,RI] at h
 simp only [h]
theorem Yk:ri O39:=fun p0 p1 r h=>bZ (x:=(p0,p1)) YN h
theorem En:iB Try.prog O40:=aV C6 (fun x r h=>iQ (ν:=Fl) C6 Try.func138 (by kernel_rfl) iR (Fe O39 x r h))
theorem Z4: ∀x y,a40 x=a40 y->x=y:=by
 rintro ua1 ub1 h
 simp only [a40,RI,ba] at h
 exact h
theorem SX:ya O40:=fun p0 r h=>bZ (x:=p0) Z4 h
theorem Rx:ri O40:=fun p0 p1 r h=>(js 139 39 1 (by decide) (by decide) _ _).trans (Yk p0 p1 r h)
theorem XW:lg O40:=fun p0 p1 r h=>(js 129 35 5 (by decide) (by decide) _ _).trans (Ij p0 p1 r h)
theorem De:iB Try.prog O41:=aV En (fun x r h=>iQ (ν:=IF) En Try.func127 (by kernel_rfl) iR (Af O40 Rx XW SX x.1 x.2 r h))
theorem Rg: ∀x y,a41 x=a41 y->x=y:=by
 rintro⟨⟨ua1,ua2⟩,⟨ua3,ua4⟩⟩ ⟨⟨ub1,ub2⟩,⟨ub3,ub4⟩⟩ h
 simp only [a41,RI] at h
 simp only [h]
theorem VB:sX O41:=fun p0 p1 r h=>bZ (x:=(p0,p1)) Rg h
theorem CR:iB Try.prog O42:=aV De (fun x r h=>iQ (ν:=Bm) De Try.func126 (by kernel_rfl) iR (qK O41 VB x r h))
theorem Zb: ∀x y,a42 x=a42 y->x=y:=by
 rintro ua1 ub1 h
 simp only [a42,RI,ae.map_inj] at h
 exact h
theorem TP:jZ O42:=fun p0 r h=>bZ (x:=p0) Zb h
theorem Ts:lg O42:=fun p0 p1 r h=>(js 129 35 7 (by decide) (by decide) _ _).trans (Ij p0 p1 r h)
theorem D5:iB Try.prog O43:=aV CR (fun x r h=>iQ (ν:=BF) CR Try.func128 (by kernel_rfl) iR (qi O42 Ts x r h))
theorem Y0: ∀x y,a43 x=a43 y->x=y:=by
 rintro ua1 ub1 h
 simp only [a43,RI,aZ] at h
 exact h
theorem XM:jO O43:=fun p0 r h=>bZ (x:=p0) Y0 h
theorem DR:iB Try.prog O44:=aV D5 (fun x r h=>iQ (ν:=KW) D5 Try.func141 (by kernel_rfl) iR (yP O43 x.1 x.2 r h))
theorem qcb: ∀x y,a44 x=a44 y->x=y:=by
 rintro⟨⟨ua1,ua2⟩,ua3⟩ ⟨⟨ub1,ub2⟩,ub3⟩ h
 simp only [a44,RI] at h
 simp only [h]
theorem X5:rL O44:=fun p0 p1 r h=>bZ (x:=(p0,p1)) qcb h
theorem CT:iB Try.prog O45:=aV DR (fun x r h=>iQ (ν:=uk) DR Try.func137 (by kernel_rfl) iR (w6 O44 X5 x.1 x.2 r h))
theorem qai: ∀x y,a45 x=a45 y->x=y:=by
 rintro⟨ua1,ua2⟩ ⟨ub1,ub2⟩ h
 simp only [a45,RI,ae.map_inj] at h
 simp only [h]
theorem Wc:tq O45:=fun p0 p1 r h=>bZ (x:=(p0,p1)) qai h
theorem DC:iB Try.prog O46:=aV CT (fun x r h=>iQ (ν:=Jh) CT Try.func130 (by kernel_rfl) iR (E5 O45 Wc x.1 x.2 r h))
theorem QQ: ∀x y,a46 x=a46 y->x=y:=by
 rintro⟨ua1,ua2⟩ ⟨ub1,ub2⟩ h
 simp only [a46,RI,ae.map_inj] at h
 simp only [h]
theorem RX:vA O46:=fun p0 p1 r h=>bZ (x:=(p0,p1)) QQ h
theorem Sz:nR O46:=fun p0 r h=>(js 114 20 26 (by decide) (by decide) _ _).trans (S4 p0 r h)
theorem Sr:kC O46:=fun p0 r h=>(js 115 15 31 (by decide) (by decide) _ _).trans (A5 p0 r h)
theorem Uq:vB O46:=fun p0 r h=>(js 91 23 23 (by decide) (by decide) _ _).trans (Vk p0 r h)
theorem WC:vm O46:=fun p0 r h=>(js 117 26 20 (by decide) (by decide) _ _).trans (TH p0 r h)
theorem Xw:vw O46:=fun p0 r h=>(js 120 32 14 (by decide) (by decide) _ _).trans ((show O32 120 _ _=O31 120 _ _ from I5 (by intro x hx;simp [a31] at hx)).trans ((js 120 29 2 (by decide) (by decide) _ _).trans (XS p0 r h)))
theorem TV:oV O46:=fun p0 r h=>(js 122 16 30 (by decide) (by decide) _ _).trans (IW p0 r h)
theorem X2:vJ O46:=fun p0 r h=>(js 120 32 14 (by decide) (by decide) _ _).trans (Uf p0 r h)
theorem TF:ka O46:=fun p0 r h=>(js 124 37 9 (by decide) (by decide) _ _).trans (WH p0 r h)
theorem T6:jZ O46:=fun p0 r h=>(js 126 42 4 (by decide) (by decide) _ _).trans (TP p0 r h)
theorem VH:jO O46:=fun p0 r h=>(js 128 43 3 (by decide) (by decide) _ _).trans (XM p0 r h)
theorem EK:iB Try.prog O47:=aV DC (fun x r h=>iQ (ν:=n90) DC Try.func90 (by kernel_rfl) iR (Yt O46 Sz Sr Uq WC Xw TV X2 TF T6 VH RX x r h))
theorem Wu:JD O47:=fun p0 r h=>bZ (x:=p0) KT h
theorem Et:iB Try.prog O48:=aV EK (fun x r h=>iQ (ν:=n71) EK Try.func71 (by kernel_rfl) iR (Cf O47 Wu x r h))
theorem WA:sB O48:=fun p0 r h=>bZ (x:=p0) Ya h
theorem Dz:iB Try.prog O49:=aV Et (fun x r h=>iQ (ν:=n92) Et Try.func92 (by kernel_rfl) iR (BJ O48 x r h))
theorem RE:uh O49:=fun p0 r h=>bZ (x:=p0) BA h
theorem EG:iB Try.prog O50:=aV Dz (fun x r h=>iQ (ν:=wY) Dz Try.func131 (by kernel_rfl) iR (xS O49 RE x r h))
theorem QG: ∀x y,a50 x=a50 y->x=y:=by
 rintro ua1 ub1 h
 simp only [a50,RI,aZ] at h
 exact h
theorem T8:uv O50:=fun p0 r h=>bZ (x:=p0) QG h
theorem CL:iB Try.prog O51:=aV EG (fun x r h=>iQ (ν:=n91) EG Try.func91 (by kernel_rfl) iR (xH O50 T8 x r h))
theorem U7:uo O51:=fun p0 r h=>bZ (x:=p0) QG h
theorem Eg:iB Try.prog O52:=aV CL (fun x r h=>iQ (ν:=n72) CL Try.func72 (by kernel_rfl) iR (Ii O51 U7 x r h))
theorem WY:vI O52:=fun p0 r h=>bZ (x:=p0) W1 h
theorem SM:sB O52:=fun p0 r h=>(js 71 48 4 (by decide) (by decide) _ _).trans (WA p0 r h)
theorem Ea:iB Try.prog O53:=aV Eg (fun x r h=>iQ (ν:=n33) Eg Try.func33 (by kernel_rfl) iR (qcj O52 SM WY x r h))
theorem Nm:Kr O53:=fun p0 r h=>bZ (x:=p0) MJ h
theorem Un:oZ O53:=fun p0 r h=>(js 45 12 41 (by decide) (by decide) _ _).trans (MT p0 r h)
theorem C1:iB Try.prog O54:=aV Ea (fun x r h=>iQ (ν:=n47) Ea Try.func47 (by kernel_rfl) iR (zr O53 Un Nm x r h))
theorem Tx:vd O54:=fun p0 r h=>bZ (x:=p0) NG h
theorem Vx:sC O54:=fun p0 r h=>(js 44 11 43 (by decide) (by decide) _ _).trans (Yh p0 r h)
theorem W6:oZ O54:=fun p0 r h=>(js 45 12 42 (by decide) (by decide) _ _).trans (MT p0 r h)
theorem Vf:oc O54:=fun p0 r h=>(js 46 19 35 (by decide) (by decide) _ _).trans (NO p0 r h)
theorem CZ:iB Try.prog O55:=aV C1 (fun x r h=>iQ (ν:=n11) C1 Try.func11 (by kernel_rfl) iR (Gi O54 Vx W6 Vf Tx x r h))
theorem Wx:vK O55:=fun p0 r h=>bZ (x:=p0) NC h
theorem CX:iB Try.prog O56:=aV CZ (fun x r h=>by
 obtain⟨d,S,h1,h2,h3⟩:=By O55 x r h
 have h4:=Mx.Sem.frozen (iQ (ν:=n62) CZ Try.func62 (by kernel_rfl) iR h1) h2
 obtain⟨e1,e2⟩:=Prod.mk.inj h3
 rw [e1] at h4;rw [e2] at h4;exact h4)
theorem Ny:pJ O56:=fun p0 r h=>bZ (x:=p0) xI h
theorem EF:iB Try.prog O57:=aV CX (fun x r h=>iQ (ν:=AY) CX Try.func105 (by kernel_rfl) iR (Jm O56 x.1 x.2 r h))
theorem QD: ∀x y,a57 x=a57 y->x=y:=by
 rintro⟨ua1,⟨ua2⟩⟩ ⟨ub1,⟨ub2⟩⟩ h
 simp only [a57,RI,bc] at h
 simp only [h]
theorem AN:kG O57:=fun p0 p1 r h=>bZ (x:=(p0,p1)) QD h
theorem Er:iB Try.prog O58:=aV EF (fun x r h=>iQ (ν:=Kz) EF Try.func106 (by kernel_rfl) iR (LJ O57 x.1 x.2 r h))
theorem y8:mw O58:=fun p0 p1 r h=>bZ (x:=(p0,p1)) QD h
theorem C9:iB Try.prog O59:=aV Er (fun x r h=>iQ (ν:=KG) Er Try.func107 (by kernel_rfl) iR (MI O58 y8 x.1 x.2 r h))
theorem ZP: ∀x y,a59 x=a59 y->x=y:=by
 rintro⟨ua1,⟨ua2⟩⟩ ⟨ub1,⟨ub2⟩⟩ h
 simp only [a59,RI,bc] at h
 simp only [h]
theorem Gp:nX O59:=fun p0 p1 r h=>bZ (x:=(p0,p1)) ZP h
theorem Vc:mw O59:=fun p0 p1 r h=>(js 106 58 1 (by decide) (by decide) _ _).trans (y8 p0 p1 r h)
theorem WR:kG O59:=fun p0 p1 r h=>(js 105 57 2 (by decide) (by decide) _ _).trans (AN p0 p1 r h)
theorem Dk:iB Try.prog O60:=aV C9 (fun x r h=>iQ (ν:=Jq) C9 Try.func142 (by kernel_rfl) iR (GW O59 Vc Gp WR x.1 x.2 r h))
theorem Y5: ∀x y,a60 x=a60 y->x=y:=by
 rintro⟨⟨ua1,ua2,ua3,ua4,ua5⟩,⟨ua6⟩⟩ ⟨⟨ub1,ub2,ub3,ub4,ub5⟩,⟨ub6⟩⟩ h
 simp only [a60,RI,bc] at h
 simp only [h]
theorem Ry:wF O60:=fun p0 p1 r h=>bZ (x:=(p0,p1)) Y5 h
theorem Vp:kG O60:=fun p0 p1 r h=>(js 105 57 3 (by decide) (by decide) _ _).trans (AN p0 p1 r h)
theorem DF:iB Try.prog O61:=aV Dk (fun x r h=>iQ (ν:=Cv) Dk Try.func135 (by kernel_rfl) iR (Mf O60 Vp Ry x.1 x.2 r h))
theorem qb4: ∀x y,a61 x=a61 y->x=y:=by
 rintro⟨⟨ua1,ua2,⟨ua3,ua4,ua5,ua6,ua7⟩⟩,⟨ua8⟩⟩ ⟨⟨ub1,ub2,⟨ub3,ub4,ub5,ub6,ub7⟩⟩,⟨ub8⟩⟩ h
 simp only [a61,RI,bc] at h
 simp only [h]
theorem Vw:GP O61:=fun p0 p1 r h=>bZ (x:=(p0,p1)) qb4 h
theorem T0:kG O61:=fun p0 p1 r h=>(js 105 57 4 (by decide) (by decide) _ _).trans (AN p0 p1 r h)
theorem WG:mw O61:=fun p0 p1 r h=>(js 106 58 3 (by decide) (by decide) _ _).trans (y8 p0 p1 r h)
theorem DV:iB Try.prog O62:=aV DF (fun x r h=>iQ (ν:=GM) DF Try.func104 (by kernel_rfl) iR (Nw O61 T0 WG Vw x.1 x.2 r h))
theorem qcz: ∀x y,a62 x=a62 y->x=y:=by
 rintro⟨⟨ua1,ua2,ua3,⟨ua4,ua5,⟨ua6,ua7,ua8,ua9,ua10⟩⟩⟩,⟨ua11⟩⟩ ⟨⟨ub1,ub2,ub3,⟨ub4,ub5,⟨ub6,ub7,ub8,ub9,ub10⟩⟩⟩,⟨ub11⟩⟩ h
 simp only [a62,RI,bc] at h
 simp only [h]
theorem VU:HO O62:=fun p0 p1 r h=>bZ (x:=(p0,p1)) qcz h
theorem S7:oc O62:=fun p0 r h=>(js 46 19 43 (by decide) (by decide) _ _).trans (NO p0 r h)
theorem DE:iB Try.prog O63:=aV DV (fun x r h=>iQ (ν:=n85) DV Try.func85 (by kernel_rfl) iR (yi O62 S7 VU x r h))
theorem RR:rg O63:=fun p0 r h=>bZ (x:=p0) J3 h
theorem R9:mw O63:=fun p0 p1 r h=>(js 106 58 5 (by decide) (by decide) _ _).trans (y8 p0 p1 r h)
theorem Tr:nX O63:=fun p0 p1 r h=>(js 107 59 4 (by decide) (by decide) _ _).trans (Gp p0 p1 r h)
theorem EE:iB Try.prog O64:=aV DE (fun x r h=>iQ (ν:=Cl) DE Try.func109 (by kernel_rfl) iR (KF O63 R9 Tr x.1 x.2 r h))
theorem Y4: ∀x y,a64 x=a64 y->x=y:=by
 rintro⟨ua1,⟨ua2⟩⟩ ⟨ub1,⟨ub2⟩⟩ h
 simp only [a64,RI,bc,aZ] at h
 simp only [h]
theorem L5:uX O64:=fun p0 p1 r h=>bZ (x:=(p0,p1)) Y4 h
theorem R4:mw O64:=fun p0 p1 r h=>(js 106 58 6 (by decide) (by decide) _ _).trans (y8 p0 p1 r h)
theorem Ta:nX O64:=fun p0 p1 r h=>(js 107 59 5 (by decide) (by decide) _ _).trans (Gp p0 p1 r h)
theorem Uc:kG O64:=fun p0 p1 r h=>(js 105 57 7 (by decide) (by decide) _ _).trans (AN p0 p1 r h)
theorem CF:iB Try.prog O65:=aV EE (fun x r h=>iQ (ν:=xK) EE Try.func108 (by kernel_rfl) iR (Ll O64 R4 Ta Uc L5 x.1 x.2 r h))
theorem qbX: ∀x y,a65 x=a65 y->x=y:=by
 rintro⟨⟨ua1,ua2,ua3,ua4,ua5,ua6⟩,⟨ua7⟩⟩ ⟨⟨ub1,ub2,ub3,ub4,ub5,ub6⟩,⟨ub7⟩⟩ h
 simp only [a65,RI,bc,aZ,iw.map_inj,ae.map_inj] at h
 simp only [h]
theorem Vh:zw O65:=fun p0 p1 r h=>bZ (x:=(p0,p1)) qbX h
theorem Xk:Kr O65:=fun p0 r h=>(js 33 53 12 (by decide) (by decide) _ _).trans (Nm p0 r h)
theorem Vb:kG O65:=fun p0 p1 r h=>(js 105 57 8 (by decide) (by decide) _ _).trans (AN p0 p1 r h)
theorem VZ:mw O65:=fun p0 p1 r h=>(js 106 58 7 (by decide) (by decide) _ _).trans (y8 p0 p1 r h)
theorem XI:nX O65:=fun p0 p1 r h=>(js 107 59 6 (by decide) (by decide) _ _).trans (Gp p0 p1 r h)
theorem XX:uX O65:=fun p0 p1 r h=>(js 109 64 1 (by decide) (by decide) _ _).trans (L5 p0 p1 r h)
theorem Lj:iB Try.prog O66:=aV CF (fun x r h=>iQ (ν:=n86) CF Try.func86 (by kernel_rfl) iR (BS O65 Xk Vb VZ XI Vh XX x r h))
theorem Wb:uM O66:=fun p0 r h=>bZ (x:=p0) MJ h
theorem Di:iB Try.prog O67:=aV Lj (fun x r h=>uY h)
theorem qcd: ∀x y,a67 x=a67 y->x=y:=by
 rintro ua1 ub1 h
 simp only [a67,RI] at h
 exact h
theorem TZ:qZ O67:=fun p0 r h=>bZ (x:=p0) qcd h
theorem Dp:iB Try.prog O68:=aV Di (fun x r h=>iQ (ν:=n61) Di Try.func61 (by kernel_rfl) iR (ul O67 TZ x r h))
theorem Z9: ∀x y,a68 x=a68 y->x=y:=by
 rintro ua1 ub1 h
 simp only [a68,RI,Ld] at h
 exact h
theorem Ns:lA O68:=fun p0 r h=>bZ (x:=p0) Z9 h
theorem Wm:pJ O68:=fun p0 r h=>(js 62 56 12 (by decide) (by decide) _ _).trans (Ny p0 r h)
theorem Sq:rg O68:=fun p0 r h=>(js 85 63 5 (by decide) (by decide) _ _).trans (RR p0 r h)
theorem V6:uM O68:=fun p0 r h=>(js 86 66 2 (by decide) (by decide) _ _).trans (Wb p0 r h)
theorem Df:iB Try.prog O69:=aV Dp (fun x r h=>by
 obtain⟨d,S,h1,h2,h3⟩:=zY O68 Wm Sq V6 Ns x r h
 have h4:=Mx.Sem.frozen (iQ (ν:=n60) Dp Try.func60 (by kernel_rfl) iR h1) h2
 obtain⟨e1,e2⟩:=Prod.mk.inj h3
 rw [e1] at h4;rw [e2] at h4;exact h4)
theorem RQ:v6 O69:=fun p0 r h=>bZ (x:=p0) NC h
theorem X4:wD O69:=fun p0 r h=>(js 59 10 59 (by decide) (by decide) _ _).trans (VS p0 r h)
theorem Vz:vK O69:=fun p0 r h=>(js 11 55 14 (by decide) (by decide) _ _).trans (Wx p0 r h)
theorem Wy:pJ O69:=fun p0 r h=>(js 62 56 13 (by decide) (by decide) _ _).trans (Ny p0 r h)
theorem Wn:lA O69:=fun p0 r h=>(js 61 68 1 (by decide) (by decide) _ _).trans (Ns p0 r h)
theorem Dn:iB Try.prog O70:=aV Df (fun x r h=>iQ (ν:=n20) Df Try.func20 (by kernel_rfl) iR (B2 O69 X4 Vz RQ Wy Wn x.1 x.2 r h))
theorem QT: ∀x y,a70 x=a70 y->x=y:=by
 rintro⟨⟨ua1,ua2⟩,⟨ua3,ua4,ua5,ua6,⟨ua7,ua8,ua9,⟨ua10,ua11,⟨ua12,ua13,ua14,ua15,ua16⟩⟩⟩,⟨ua17,ua18,⟨⟨ua19,ua20⟩,ua21,ua22⟩⟩⟩⟩ ⟨⟨ub1,ub2⟩,⟨ub3,ub4,ub5,ub6,⟨ub7,ub8,ub9,⟨ub10,ub11,⟨ub12,ub13,ub14,ub15,ub16⟩⟩⟩,⟨ub17,ub18,⟨⟨ub19,ub20⟩,ub21,ub22⟩⟩⟩⟩ h
 simp only [a70,RI,bc,hM.map_inj,f7.map_inj] at h
 simp only [h]
theorem WB:uK O70:=fun p0 p1 r h=>bZ (x:=(p0,p1)) QT h
theorem D0:iB Try.prog O71:=aV Dn (fun x r h=>iQ (ν:=n48) Dn Try.func48 (by kernel_rfl) iR (Yj O70 x.1 x.2.1 x.2.2 r h))
theorem Zx: ∀x y,a71 x=a71 y->x=y:=by
 rintro⟨ua1,ua2,ua3⟩ ⟨ub1,ub2,ub3⟩ h
 simp only [a71,RI] at h
 simp only [h]
theorem tR:kS O71:=fun p0 p1 p2 r h=>bZ (x:=(p0,p1,p2)) Zx h
theorem Dj:iB Try.prog O72:=aV D0 (fun x r h=>iQ (ν:=n63) D0 Try.func63 (by kernel_rfl) iR (Ha O71 tR x r h))
theorem Xe:wl O72:=fun p0 r h=>bZ (x:=p0) Wi h
theorem Eh:iB Try.prog O73:=aV Dj (fun x r h=>iQ (ν:=n49) Dj Try.func49 (by kernel_rfl) iR (Cy O72 x r h))
theorem Sd:sH O73:=fun p0 r h=>bZ (x:=p0) NG h
theorem TR:kS O73:=fun p0 p1 p2 r h=>(js 48 71 2 (by decide) (by decide) _ _).trans (tR p0 p1 p2 r h)
theorem DK:iB Try.prog O74:=aV Eh (fun x r h=>iQ (ν:=n51) Eh Try.func51 (by kernel_rfl) iR (B5 O73 TR x r h))
theorem AZ:kc O74:=fun p0 r h=>bZ (x:=p0) xI h
theorem TL:kS O74:=fun p0 p1 p2 r h=>(js 48 71 3 (by decide) (by decide) _ _).trans (tR p0 p1 p2 r h)
theorem D4:iB Try.prog O75:=aV DK (fun x r h=>iQ (ν:=n93) DK Try.func93 (by kernel_rfl) iR (FX O74 TL x r h))
theorem IR:kW O75:=fun p0 r h=>bZ (x:=p0) BA h
theorem Dd:iB Try.prog O76:=aV D4 (fun x r h=>iQ (ν:=LK) D4 Try.func132 (by kernel_rfl) iR (IY O75 x r h))
theorem R6:vF O76:=fun p0 r h=>bZ (x:=p0) KT h
theorem D8:iB Try.prog O77:=aV Dd (fun x r h=>iQ (ν:=n95) Dd Try.func95 (by kernel_rfl) iR (Hf O76 x r h))
theorem Ip:kM O77:=fun p0 r h=>bZ (x:=p0) BA h
theorem RL:kS O77:=fun p0 p1 p2 r h=>(js 48 71 6 (by decide) (by decide) _ _).trans (tR p0 p1 p2 r h)
theorem D1:iB Try.prog O78:=aV D8 (fun x r h=>iQ (ν:=n96) D8 Try.func96 (by kernel_rfl) iR (FP O77 RL x r h))
theorem IP:nl O78:=fun p0 r h=>bZ (x:=p0) xI h
theorem CN:iB Try.prog O79:=aV D1 (fun x r h=>iQ (ν:=Jp) D1 Try.func133 (by kernel_rfl) iR (Bp O78 x.1 x.2 r h))
theorem VA:rm O79:=fun p0 p1 r h=>bZ (x:=(p0,p1)) Rg h
theorem Ep:iB Try.prog O80:=aV CN (fun x r h=>iQ (ν:=FO) CN Try.func134 (by kernel_rfl) iR (Gg O79 x.1 x.2 r h))
theorem Xa:vu O80:=fun p0 p1 r h=>bZ (x:=(p0,p1)) QQ h
theorem RW:kS O80:=fun p0 p1 p2 r h=>(js 48 71 9 (by decide) (by decide) _ _).trans (tR p0 p1 p2 r h)
theorem We:vF O80:=fun p0 r h=>(js 132 76 4 (by decide) (by decide) _ _).trans (R6 p0 r h)
theorem Xy:kM O80:=fun p0 r h=>(js 95 77 3 (by decide) (by decide) _ _).trans (Ip p0 r h)
theorem Wh:nl O80:=fun p0 r h=>(js 96 78 2 (by decide) (by decide) _ _).trans (IP p0 r h)
theorem Tm:kW O80:=fun p0 r h=>(js 93 75 5 (by decide) (by decide) _ _).trans (IR p0 r h)
theorem Wa:rm O80:=fun p0 p1 r h=>(js 133 79 1 (by decide) (by decide) _ _).trans (VA p0 p1 r h)
theorem Ds:iB Try.prog O81:=aV Ep (fun x r h=>iQ (ν:=n94) Ep Try.func94 (by kernel_rfl) iR (Bv O80 RW We Xy Wh Tm Wa Xa x r h))
theorem WV:rj O81:=fun p0 r h=>bZ (x:=p0) KT h
theorem TB:kS O81:=fun p0 p1 p2 r h=>(js 48 71 10 (by decide) (by decide) _ _).trans (tR p0 p1 p2 r h)
theorem Xt:kW O81:=fun p0 r h=>(js 93 75 6 (by decide) (by decide) _ _).trans (IR p0 r h)
theorem DG:iB Try.prog O82:=aV Ds (fun x r h=>iQ (ν:=n73) Ds Try.func73 (by kernel_rfl) iR (AD O81 TB Xt WV x r h))
theorem R8:rD O82:=fun p0 r h=>bZ (x:=p0) Ya h
theorem S8:kS O82:=fun p0 p1 p2 r h=>(js 48 71 11 (by decide) (by decide) _ _).trans (tR p0 p1 p2 r h)
theorem Tp:kM O82:=fun p0 r h=>(js 95 77 5 (by decide) (by decide) _ _).trans (Ip p0 r h)
theorem Yl:nl O82:=fun p0 r h=>(js 96 78 4 (by decide) (by decide) _ _).trans (IP p0 r h)
theorem CW:iB Try.prog O83:=aV DG (fun x r h=>iQ (ν:=n74) DG Try.func74 (by kernel_rfl) iR (BK O82 S8 Tp Yl x r h))
theorem WQ:rz O83:=fun p0 r h=>bZ (x:=p0) W1 h
theorem V8:rD O83:=fun p0 r h=>(js 73 82 1 (by decide) (by decide) _ _).trans (R8 p0 r h)
theorem XP:kS O83:=fun p0 p1 p2 r h=>(js 48 71 12 (by decide) (by decide) _ _).trans (tR p0 p1 p2 r h)
theorem Ue:kc O83:=fun p0 r h=>(js 51 74 9 (by decide) (by decide) _ _).trans (AZ p0 r h)
theorem Ef:iB Try.prog O84:=aV CW (fun x r h=>iQ (ν:=n41) CW Try.func41 (by kernel_rfl) iR (zt O83 V8 XP Ue WQ x r h))
theorem T1:vj O84:=fun p0 r h=>bZ (x:=p0) MJ h
theorem Uk:kc O84:=fun p0 r h=>(js 51 74 10 (by decide) (by decide) _ _).trans (AZ p0 r h)
theorem C2:iB Try.prog O85:=aV Ef (fun x r h=>iQ (ν:=n50) Ef Try.func50 (by kernel_rfl) iR (B9 O84 Uk T1 x r h))
theorem XL:uL O85:=fun p0 r h=>bZ (x:=p0) NG h
theorem SY:kS O85:=fun p0 p1 p2 r h=>(js 48 71 14 (by decide) (by decide) _ _).trans (tR p0 p1 p2 r h)
theorem SG:kW O85:=fun p0 r h=>(js 93 75 10 (by decide) (by decide) _ _).trans (IR p0 r h)
theorem X0:kM O85:=fun p0 r h=>(js 95 77 8 (by decide) (by decide) _ _).trans (Ip p0 r h)
theorem Ug:nl O85:=fun p0 r h=>(js 96 78 7 (by decide) (by decide) _ _).trans (IP p0 r h)
theorem Ei:iB Try.prog O86:=aV C2 (fun x r h=>iQ (ν:=n99) C2 Try.func99 (by kernel_rfl) iR (zb O85 SY SG X0 Ug x r h))
theorem Wg:uZ O86:=fun p0 r h=>bZ (x:=p0) Q1 h
theorem Uv:kc O86:=fun p0 r h=>(js 51 74 12 (by decide) (by decide) _ _).trans (AZ p0 r h)
theorem DS:iB Try.prog O87:=aV Ei (fun x r h=>iQ (ν:=n78) Ei Try.func78 (by kernel_rfl) iR (B6 O86 Uv Wg x r h))
theorem Te:xe O87:=fun p0 r h=>bZ (x:=p0) QW h
theorem X1:kc O87:=fun p0 r h=>(js 51 74 13 (by decide) (by decide) _ _).trans (AZ p0 r h)
theorem TQ:kS O87:=fun p0 p1 p2 r h=>(js 48 71 16 (by decide) (by decide) _ _).trans (tR p0 p1 p2 r h)
theorem Ed:iB Try.prog O88:=aV DS (fun x r h=>iQ (ν:=n52) DS Try.func52 (by kernel_rfl) iR (Cm O87 X1 TQ Te x r h))
theorem US:xf O88:=fun p0 r h=>bZ (x:=p0) J3 h
theorem WM:kS O88:=fun p0 p1 p2 r h=>(js 48 71 17 (by decide) (by decide) _ _).trans (tR p0 p1 p2 r h)
theorem V7:sH O88:=fun p0 r h=>(js 49 73 15 (by decide) (by decide) _ _).trans (Sd p0 r h)
theorem S5:uL O88:=fun p0 r h=>(js 50 85 3 (by decide) (by decide) _ _).trans (XL p0 r h)
theorem X3:kc O88:=fun p0 r h=>(js 51 74 14 (by decide) (by decide) _ _).trans (AZ p0 r h)
theorem C0:iB Try.prog O89:=aV Ed (fun x r h=>iQ (ν:=n13) Ed Try.func13 (by kernel_rfl) iR (Ak O88 WM V7 S5 X3 US x r h))
theorem UN:sW O89:=fun p0 r h=>bZ (x:=p0) NC h
theorem Ej:iB Try.prog O90:=aV C0 (fun x r h=>iQ (ν:=n66) C0 Try.func66 (by kernel_rfl) iR (IZ O89 x r h))
theorem MK:ua O90:=fun p0 r h=>bZ (x:=p0) xI h
theorem DN:iB Try.prog O91:=aV Ej (fun x r h=>iQ (ν:=n65) Ej Try.func65 (by kernel_rfl) iR (IS O90 x.1 x.2 r h))
theorem qa2: ∀x y,a91 x=a91 y->x=y:=by
 rintro⟨ua1,ua2⟩ ⟨ub1,ub2⟩ h
 simp only [a91,RI,bc] at h
 simp only [h]
theorem xx:jS O91:=fun p0 p1 r h=>bZ (x:=(p0,p1)) qa2 h
theorem Dl:iB Try.prog O92:=aV DN (fun x r h=>iQ (ν:=HU) DN Try.func110 (by kernel_rfl) iR (Lg O91 x r h))
theorem Ji:pb O92:=fun p0 r h=>bZ (x:=p0) xI h
theorem SP:jS O92:=fun p0 p1 r h=>(js 65 91 1 (by decide) (by decide) _ _).trans (xx p0 p1 r h)
theorem CP:iB Try.prog O93:=aV Dl (fun x r h=>iQ (ν:=Ms) Dl Try.func111 (by kernel_rfl) iR (B1 O92 SP x r h))
theorem Gn:kb O93:=fun p0 r h=>bZ (x:=p0) BA h
theorem XU:pb O93:=fun p0 r h=>(js 110 92 1 (by decide) (by decide) _ _).trans (Ji p0 r h)
theorem Uu:jS O93:=fun p0 p1 r h=>(js 65 91 2 (by decide) (by decide) _ _).trans (xx p0 p1 r h)
theorem C7:iB Try.prog O94:=aV CP (fun x r h=>iQ (ν:=n88) CP Try.func88 (by kernel_rfl) iR (Cw O93 XU Uu Gn x r h))
theorem RN:uE O94:=fun p0 r h=>bZ (x:=p0) J3 h
theorem Xq:kb O94:=fun p0 r h=>(js 111 93 1 (by decide) (by decide) _ _).trans (Gn p0 r h)
theorem Wv:jS O94:=fun p0 p1 r h=>(js 65 91 3 (by decide) (by decide) _ _).trans (xx p0 p1 r h)
theorem DX:iB Try.prog O95:=aV C7 (fun x r h=>iQ (ν:=ES) C7 Try.func113 (by kernel_rfl) iR (CC O94 Xq Wv x r h))
theorem qaN: ∀x y,a95 x=a95 y->x=y:=by
 rintro ua1 ub1 h
 simp only [a95,RI,aZ] at h
 exact h
theorem Mu:qz O95:=fun p0 r h=>bZ (x:=p0) qaN h
theorem UY:kb O95:=fun p0 r h=>(js 111 93 2 (by decide) (by decide) _ _).trans (Gn p0 r h)
theorem Yq:pb O95:=fun p0 r h=>(js 110 92 3 (by decide) (by decide) _ _).trans (Ji p0 r h)
theorem SO:jS O95:=fun p0 p1 r h=>(js 65 91 4 (by decide) (by decide) _ _).trans (xx p0 p1 r h)
theorem CV:iB Try.prog O96:=aV DX (fun x r h=>iQ (ν:=yd) DX Try.func112 (by kernel_rfl) iR (As O95 UY Yq SO Mu x r h))
theorem WP:uf O96:=fun p0 r h=>bZ (x:=p0) KT h
theorem Tw:pb O96:=fun p0 r h=>(js 110 92 4 (by decide) (by decide) _ _).trans (Ji p0 r h)
theorem RA:jS O96:=fun p0 p1 r h=>(js 65 91 5 (by decide) (by decide) _ _).trans (xx p0 p1 r h)
theorem Tb:kb O96:=fun p0 r h=>(js 111 93 3 (by decide) (by decide) _ _).trans (Gn p0 r h)
theorem UK:qz O96:=fun p0 r h=>(js 113 95 1 (by decide) (by decide) _ _).trans (Mu p0 r h)
theorem DI:iB Try.prog O97:=aV CV (fun x r h=>iQ (ν:=n89) CV Try.func89 (by kernel_rfl) iR (yF O96 Tw RA Tb WP UK x r h))
theorem Vu:vh O97:=fun p0 r h=>bZ (x:=p0) MJ h
theorem SN:ua O97:=fun p0 r h=>(js 66 90 7 (by decide) (by decide) _ _).trans (MK p0 r h)
theorem VJ:jS O97:=fun p0 p1 r h=>(js 65 91 6 (by decide) (by decide) _ _).trans (xx p0 p1 r h)
theorem SD:uE O97:=fun p0 r h=>(js 88 94 3 (by decide) (by decide) _ _).trans (RN p0 r h)
theorem DB:iB Try.prog O98:=aV DI (fun x r h=>iQ (ν:=n64) DI Try.func64 (by kernel_rfl) iR (z5 O97 SN VJ SD Vu x r h))
theorem WF:v4 O98:=fun p0 r h=>bZ (x:=p0) NC h
theorem TE:wl O98:=fun p0 r h=>(js 63 72 26 (by decide) (by decide) _ _).trans (Xe p0 r h)
theorem So:sW O98:=fun p0 r h=>(js 13 89 9 (by decide) (by decide) _ _).trans (UN p0 r h)
theorem W0:ua O98:=fun p0 r h=>(js 66 90 8 (by decide) (by decide) _ _).trans (MK p0 r h)
theorem T7:jS O98:=fun p0 p1 r h=>(js 65 91 7 (by decide) (by decide) _ _).trans (xx p0 p1 r h)
theorem EL:iB Try.prog O99:=aV DB (fun x r h=>iQ (ν:=n21) DB Try.func21 (by kernel_rfl) iR (zg O98 TE So WF W0 T7 x.1 x.2 r h))
theorem Xx:sj O99:=fun p0 p1 r h=>bZ (x:=(p0,p1)) QT h
theorem Ik:iB Try.prog EY:=aV EL (fun x r h=>iQ (ν:=n22) EL Try.func22 (by kernel_rfl) iR (FW O99 x.1 x.2 r h))
theorem Yp: ∀x y,OE x=OE y->x=y:=by
 rintro⟨⟨ua1,ua2⟩,⟨ua3,ua4⟩⟩ ⟨⟨ub1,ub2⟩,⟨ub3,ub4⟩⟩ h
 simp only [OE,RI,bc] at h
 simp only [h]
theorem NB:vo EY:=fun p0 p1 r h=>bZ (x:=(p0,p1)) Yp h
theorem Ui:wd EY:=fun p0 r h=>(js 19 2 98 (by decide) (by decide) _ _).trans (qcT p0 r h)
theorem Xs:vr EY:=fun p0 r h=>(js 12 8 92 (by decide) (by decide) _ _).trans (qcP p0 r h)
theorem PZ:uK EY:=fun p0 p1 r h=>(js 20 70 30 (by decide) (by decide) _ _).trans (WB p0 p1 r h)
theorem OL:sj EY:=fun p0 p1 r h=>(js 21 99 1 (by decide) (by decide) _ _).trans (Xx p0 p1 r h)
theorem sem (rs:List (List V)) (h:eC Try.prog [58,44] rs):Mx.Sem Try.prog 6 (fD Try.prog [58,44] rs) [] (.v (.b true)) []:=by
 obtain⟨r0,_,rfl,a0,b0⟩:=eC.cons h
 obtain⟨r1,_,rfl,a1,b1⟩:=eC.cons b0
 obtain rfl:=eC.nil b1
 obtain⟨x0,rfl,o0⟩:=iK.of58 a0
 obtain⟨x1,rfl,o1⟩:=iu.of44 a1
 simp only [fD,zG Try.underlying58,zG Try.underlying44]
 exact iQ (ν:=n6) Ik Try.func6 (by kernel_rfl) iR (Ah EY Ui Xs PZ OL NB x0 x1 true (zm x0 x1 o0 o1))
end CTapeAppends
end Go.Proofs.Ytgcglmoogaldbaa
