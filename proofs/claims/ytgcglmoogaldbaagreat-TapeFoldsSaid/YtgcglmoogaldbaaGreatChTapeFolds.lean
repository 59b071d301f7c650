/- The chain of contracts of the law TapeFolds, over the functions that it reaches. -/
import Derived.Test.YtgcglmoogaldbaaGreatTapeFoldsZa
import Derived.Test.YtgcglmoogaldbaaGreatTapeFoldsZb
import Derived.Test.YtgcglmoogaldbaaGreatTapeFoldsZc
import Derived.Test.YtgcglmoogaldbaaGreatTapeFoldsZd
import Derived.Test.YtgcglmoogaldbaaGreatTapeFoldsZe
import Derived.Test.YtgcglmoogaldbaaGreatTapeFoldsD
import Derived.Test.YtgcglmoogaldbaaGreatTapeFoldsP
set_option linter.unusedSimpArgs false
set_option linter.unusedVariables false
set_option linter.constructorNameAsVariable false
set_option linter.unnecessarySimpa false
set_option maxRecDepth 100000
noncomputable section
namespace Go.Proofs.YtgcglmoogaldbaaGreat
open Go Go.Mx Go.Proofs
namespace CTapeFolds
theorem N0 {P:Program} {t e:TypeId} {x:V} (hu:P.underlying t=some (.slice e)):M0 P t [x]= .v x:=by simp only [M0,hu]
theorem qkK {P:Program} {t:TypeId} {x:V} (hu:P.underlying t=some .string):M0 P t [x]= .v x:=by simp only [M0,hu]
def a1 (x:ae):List D×bH:=([.agg (cGValue x)],[])
def O1:aj:=aj.addF noC 101 a1 (fun x=>re x) (fun _ (r:ae)=>(.agg [.I r.e5,.v (.s r.iq),.I r.iO,.own 2 (ah iC.row r.iz),.own 1 (ah bY r.af),.own 2 (ah f5.row r.f9)],[]))
def a2 (x:iJ):List D×bH:=([.agg (cGStore x)],[])
def O2:aj:=aj.addF O1 77 a2 (fun x=>po x) (fun _ (r:iJ)=>(.agg [.I r.iS,.own 8 (ah gi.row r.f6)],[]))
def a3 (x:iT):List D×bH:=([.agg (cGReply x)],[])
def O3:aj:=aj.addF O2 78 a3 (fun x=>pq x) (fun _ (r:iT)=>(.agg [.I r.j9,.v (.s r.iq),.I r.fN,.own 1 (ah bY r.jG)],[]))
def a4 (x:ad):List D×bH:=([.agg (cGMachine x)],[])
def O4:aj:=aj.addF O3 36 a4 (fun x=>my x) (fun _ (r:ad)=>(.agg (cGMachine r),[]))
def a5 (x:i4):List D×bH:=([.agg (cGSnap x)],[])
def O5:aj:=aj.addF O4 45 a5 (fun x=>v4 x) (fun _ (r:i4)=>(.agg (cGSnap r),[]))
def a6 (x:bi):List D×bH:=([.agg (cGRecord x)],[])
def O6:aj:=aj.addF O5 23 a6 (fun x=>uf x) (fun _ (r:bi)=>(.agg (cGRecord r),[]))
def a7 (x:(List bi)):List D×bH:=([.v (.sl 20 (ah bi.row x))],[])
def O7:aj:=aj.addF O6 10 a7 (fun x=>qS x) (fun _ (r:(List bi))=>(.v (.sl 20 (ah bi.row r)),[]))
def a8 (x:Unit):List D×bH:=([],[])
def O8:aj:=aj.addF O7 46 a8 (fun x=>wa) (fun _ (r:ad)=>(.agg [.I r.e7.iS,.own 8 (ah gi.row r.e7.f6),.I r.iI,.own 7 (ah cc.row r.cO)],[]))
def O9:aj:=aj.addF O8 24 a8 (fun x=>ze) (fun _ (r:iL)=>(.agg [.I r.iK,.I r.lS,.I r.iG.iB,.I r.iG.iK,.I r.iG.iy.e7.iS,.own 8 (ah gi.row r.iG.iy.e7.f6),.I r.iG.iy.iI,.own 7 (ah cc.row r.iG.iy.cO),.I r.jh.iD,.I r.jh.iw,.own 10 (ah iE.row r.jh.af)],[]))
def O10:aj:=aj.addF O9 123 a1 (fun x=>q5 x) (fun _ (r:Int)=>(.I r,[]))
def a11 (x:ByteArray):List D×bH:=([.v (.s x)],[])
def O11:aj:=aj.addF O10 121 a11 (fun x=>uM x) (fun _ (r:Bool)=>(.v (.b r),[]))
def O12:aj:=aj.addF O11 124 a11 (fun x=>zY x) (fun _ (r:Bool)=>(.v (.b r),[]))
def a13 (x:(List ByteArray)):List D×bH:=([.v (.sl 1 (ah bY x)),.clo 124 []],[])
def O13:aj:=aj.addF O12 137 a13 (fun x=>uh x) (fun _ (r:Int)=>(.I r,[]))
def O14:aj:=aj.addF O13 110 a13 (fun x=>sJ x) (fun _ (r:Bool)=>(.v (.b r),[]))
def O15:aj:=aj.addF O14 120 a11 (fun x=>td x) (fun _ (r:Bool)=>(.v (.b r),[]))
def a16 (x:iC):List D×bH:=([.agg (cGPair x)],[])
def O16:aj:=aj.addF O15 126 a16 (fun x=>zT x) (fun _ (r:Bool)=>(.v (.b r),[]))
def a17 (x:(List iC)):List D×bH:=([.v (.sl 2 (ah iC.row x)),.clo 126 []],[])
def O17:aj:=aj.addF O16 141 a17 (fun x=>uk x) (fun _ (r:Int)=>(.I r,[]))
def O18:aj:=aj.addF O17 125 a17 (fun x=>sU x) (fun _ (r:Bool)=>(.v (.b r),[]))
def a19 (x:f5):List D×bH:=([.agg (cGScore x)],[])
def O19:aj:=aj.addF O18 128 a19 (fun x=>Ab x) (fun _ (r:Bool)=>(.v (.b r),[]))
def a20 (x:(List f5)):List D×bH:=([.v (.sl 2 (ah f5.row x)),.clo 128 []],[])
def O20:aj:=aj.addF O19 142 a20 (fun x=>uF x) (fun _ (r:Int)=>(.I r,[]))
def O21:aj:=aj.addF O20 127 a20 (fun x=>sH x) (fun _ (r:Bool)=>(.v (.b r),[]))
def a22 (x:Int):List D×bH:=([.I x],[])
def O22:aj:=aj.addF O21 122 a22 (fun x=>tf x) (fun _ (r:Bool)=>(.v (.b r),[]))
def O23:aj:=aj.addF O22 129 a19 (fun x=>zU x) (fun _ (r:Bool)=>(.v (.b r),[]))
def a24 (x:(List f5)):List D×bH:=([.v (.sl 2 (ah f5.row x)),.clo 129 []],[])
def O24:aj:=aj.addF O23 142 a24 (fun x=>ud x) (fun _ (r:Int)=>(.I r,[]))
def O25:aj:=aj.addF O24 127 a24 (fun x=>sI x) (fun _ (r:Bool)=>(.v (.b r),[]))
def a26 (x:ByteArray×ByteArray):List D×bH:=([.v (.s x.1),.v (.s x.2)],[])
def O26:aj:=aj.addF O25 148 a26 (fun x=>B4 x.1 x.2) (fun _ (r:Int)=>(.I r,[]))
def O27:aj:=aj.addF O26 145 a26 (fun x=>pV x.1 x.2) (fun _ (r:Int)=>(.I r,[]))
def O28:aj:=aj.addF O27 135 a26 (fun x=>pU x.1 x.2) (fun _ (r:Int)=>(.I r,[]))
def a29 (x:iC×iC):List D×bH:=([.agg (cGPair x.1),.agg (cGPair x.2)],[])
def O29:aj:=aj.addF O28 131 a29 (fun x=>sn x.1 x.2) (fun _ (r:Int)=>(.I r,[]))
def a30 (x:(List iC)):List D×bH:=([.v (.sl 2 (ah iC.row x)),.clo 131 []],[])
def O30:aj:=aj.addF O29 130 a30 (fun x=>jn x) (fun _ (r:Bool)=>(.v (.b r),[]))
def O31:aj:=aj.addF O30 147 a22 (fun x=>qj x) (fun _ (r:Bool)=>(.v (.b r),[]))
def a32 (x:Int×Int):List D×bH:=([.I x.1,.I x.2],[])
def O32:aj:=aj.addF O31 144 a32 (fun x=>qd x.1 x.2) (fun _ (r:Int)=>(.I r,[]))
def a33 (x:(List Int)):List D×bH:=([.v (.sl 1 (ah xU x))],[])
def O33:aj:=aj.addF O32 143 a33 (fun x=>sO x) (fun _ (r:Int)=>(.I r,[]))
def a34 (x:f5×f5):List D×bH:=([.agg (cGScore x.1),.agg (cGScore x.2)],[])
def O34:aj:=aj.addF O33 133 a34 (fun x=>nX x.1 x.2) (fun _ (r:Int)=>(.I r,[]))
def a35 (x:(List f5)):List D×bH:=([.v (.sl 2 (ah f5.row x)),.clo 133 []],[])
def O35:aj:=aj.addF O34 132 a35 (fun x=>jj x) (fun _ (r:Bool)=>(.v (.b r),[]))
def a36 (x:(List ByteArray)):List D×bH:=([.v (.sl 1 (ah bY x)),.clo 135 []],[])
def O36:aj:=aj.addF O35 134 a36 (fun x=>jd x) (fun _ (r:Bool)=>(.v (.b r),[]))
def a37 (x:f5×ByteArray):List D×bH:=([.agg (cGScore x.1),.ptr 0 0],[[.v (.s x.2)]])
def O37:aj:=aj.addF O36 146 a37 (fun x=>pm x.1 x.2) (fun _ (r:Bool×ByteArray)=>(.v (.b r.1),[[.v (.s r.2)]]))
def a38 (x:(List f5)×ByteArray):List D×bH:=([.v (.sl 2 (ah f5.row x.1)),.clo 146 [.ptr 0 0]],[[.v (.s x.2)]])
def O38:aj:=aj.addF O37 142 a38 (fun x=>mq x.1 x.2) (fun _ (r:Int×ByteArray)=>(.I r.1,[[.v (.s r.2)]]))
def a39 (x:(List f5)×ByteArray):List D×bH:=([.v (.sl 2 (ah f5.row x.1)),.v (.s x.2)],[])
def O39:aj:=aj.addF O38 136 a39 (fun x=>sK x.1 x.2) (fun _ (r:Int)=>(.I r,[]))
def O40:aj:=aj.addF O39 109 a1 (fun x=>vaC x) (fun _ (r:Int)=>(.I r,[]))
def O41:aj:=aj.addF O40 94 a2 (fun x=>ri x) (fun _ (r:Int)=>(.I r,[]))
def O42:aj:=aj.addF O41 111 a11 (fun x=>rI x) (fun _ (r:Bool)=>(.v (.b r),[]))
def a43 (x:(List ByteArray)):List D×bH:=([.v (.sl 1 (ah bY x)),.clo 111 []],[])
def O43:aj:=aj.addF O42 137 a43 (fun x=>nA x) (fun _ (r:Int)=>(.I r,[]))
def O44:aj:=aj.addF O43 110 a43 (fun x=>mu x) (fun _ (r:Bool)=>(.v (.b r),[]))
def O45:aj:=aj.addF O44 95 a3 (fun x=>v9 x) (fun _ (r:Int)=>(.I r,[]))
def O46:aj:=aj.addF O45 55 a4 (fun x=>clC x) (fun _ (r:Int)=>(.I r,[]))
def a47 (x:Int×iu):List D×bH:=([.ptr 0 0,.I x.1],[[.own 1 (ah cE x.2.fb)]])
def O47:aj:=aj.addF O46 56 a47 (fun x=>ng x.1 x.2) (fun _ (r:iu)=>(.tup [],[[.own 1 (ah cE r.fb)]]))
def O48:aj:=aj.addF O47 57 a47 (fun x=>qE x.1 x.2) (fun _ (r:iu)=>(.tup [],[[.own 1 (ah cE r.fb)]]))
def a49 (x:ByteArray×iu):List D×bH:=([.ptr 0 0,.v (.s x.1)],[[.own 1 (ah cE x.2.fb)]])
def O49:aj:=aj.addF O48 58 a49 (fun x=>uo x.1 x.2) (fun _ (r:iu)=>(.tup [],[[.own 1 (ah cE r.fb)]]))
def a50 (x:(List ByteArray)×iu):List D×bH:=([.ptr 0 0,.v (.sl 1 (ah bY x.1))],[[.own 1 (ah cE x.2.fb)]])
def O50:aj:=aj.addF O49 60 a50 (fun x=>wK x.1 x.2) (fun _ (r:iu)=>(.tup [],[[.own 1 (ah cE r.fb)]]))
def a51 (x:ae×iu):List D×bH:=([.ptr 0 0,.agg (cGValue x.1)],[[.own 1 (ah cE x.2.fb)]])
def O51:aj:=aj.addF O50 59 a51 (fun x=>yd x.1 x.2) (fun _ (r:iu)=>(.tup [],[[.own 1 (ah cE r.fb)]]))
def O52:aj:=aj.addF O51 28 a4 (fun x=>rf x) (fun _ (r:(List Int)×Int)=>(.tup [.v (.sl 1 (ah cE r.1)),.I r.2],[]))
def a53 (x:(List Int)):List D×bH:=([.v (.sl 1 (ah cE x))],[])
def O53:aj:=aj.addF O52 40 a53 (fun x=>ol x) (fun _ (r:(List Int))=>(.v (.sl 1 (ah cE r)),[]))
def a54 (x:Int×f7):List D×bH:=([.ptr 0 0,.I x.1],[cGreader x.2])
def O54:aj:=aj.addF O53 96 a54 (fun x=>wn x.1 x.2) (fun _ (r:(List Int)×f7)=>(.v (.sl 1 (ah cE r.1)),[cGreader r.2]))
def a55 (x:f7):List D×bH:=([.ptr 0 0],[cGreader x])
def O55:aj:=aj.addF O54 61 a55 (fun x=>m9 x) (fun _ (r:Int×f7)=>(.I r.1,[cGreader r.2]))
def O56:aj:=aj.addF O55 67 a55 (fun x=>nM x) (fun _ (r:Int×f7)=>(.I r.1,[cGreader r.2]))
def O57:aj:=aj.addF O56 64 a55 (fun x=>uy x) (fun _ (r:ByteArray×f7)=>(.v (.s r.1),[cGreader r.2]))
def a58 (x:f7×ae):List D×bH:=([.ptr 1 0,.ptr 2 0],[cGreader x.1,[.I x.2.e5,.v (.s x.2.iq),.I x.2.iO,.own 2 (ah iC.row x.2.iz),.own 1 (ah bY x.2.af),.own 2 (ah f5.row x.2.f9)],[.ptr 0 0]])
def O58:aj:=aj.addF O57 97 a58 (fun x=>tl x.1 x.2) (fun _ (r:f7×ae)=>(.tup [],[cGreader r.1,[.I r.2.e5,.v (.s r.2.iq),.I r.2.iO,.own 2 (ah iC.row r.2.iz),.own 1 (ah bY r.2.af),.own 2 (ah f5.row r.2.f9)],[.ptr 0 0]]))
def a59 (x:f7×ae):List D×bH:=([.ptr 0 0,.clo 97 [.ptr 1 0,.ptr 2 0]],[cGreader x.1,[.I x.2.e5,.v (.s x.2.iq),.I x.2.iO,.own 2 (ah iC.row x.2.iz),.own 1 (ah bY x.2.af),.own 2 (ah f5.row x.2.f9)],[.ptr 0 0]])
def O59:aj:=aj.addF O58 62 a59 (fun x=>kD x.1 x.2) (fun _ (r:f7×ae)=>(.tup [],[cGreader r.1,[.I r.2.e5,.v (.s r.2.iq),.I r.2.iO,.own 2 (ah iC.row r.2.iz),.own 1 (ah bY r.2.af),.own 2 (ah f5.row r.2.f9)],[.ptr 0 0]]))
def a60 (x:f7×(List ByteArray)):List D×bH:=([.ptr 1 0,.ptr 2 0],[cGreader x.1,[.own 1 (ah bY x.2)],[.ptr 0 0]])
def O60:aj:=aj.addF O59 99 a60 (fun x=>ta x.1 x.2) (fun _ (r:f7×(List ByteArray))=>(.tup [],[cGreader r.1,[.own 1 (ah bY r.2)],[.ptr 0 0]]))
def a61 (x:f7×(List ByteArray)):List D×bH:=([.ptr 0 0,.clo 99 [.ptr 1 0,.ptr 2 0]],[cGreader x.1,[.own 1 (ah bY x.2)],[.ptr 0 0]])
def O61:aj:=aj.addF O60 62 a61 (fun x=>lK x.1 x.2) (fun _ (r:f7×(List ByteArray))=>(.tup [],[cGreader r.1,[.own 1 (ah bY r.2)],[.ptr 0 0]]))
def O62:aj:=aj.addF O61 68 a55 (fun x=>wN x) (fun _ (r:(List ByteArray)×f7)=>(.own 1 (ah bY r.1),[cGreader r.2]))
def O63:aj:=aj.addF O62 98 a58 (fun x=>sV x.1 x.2) (fun _ (r:f7×ae)=>(.tup [],[cGreader r.1,[.I r.2.e5,.v (.s r.2.iq),.I r.2.iO,.own 2 (ah iC.row r.2.iz),.own 1 (ah bY r.2.af),.own 2 (ah f5.row r.2.f9)],[.ptr 0 0]]))
def a64 (x:f7×ae):List D×bH:=([.ptr 0 0,.clo 98 [.ptr 1 0,.ptr 2 0]],[cGreader x.1,[.I x.2.e5,.v (.s x.2.iq),.I x.2.iO,.own 2 (ah iC.row x.2.iz),.own 1 (ah bY x.2.af),.own 2 (ah f5.row x.2.f9)],[.ptr 0 0]])
def O64:aj:=aj.addF O63 62 a64 (fun x=>kI x.1 x.2) (fun _ (r:f7×ae)=>(.tup [],[cGreader r.1,[.I r.2.e5,.v (.s r.2.iq),.I r.2.iO,.own 2 (ah iC.row r.2.iz),.own 1 (ah bY r.2.af),.own 2 (ah f5.row r.2.f9)],[.ptr 0 0]]))
def O65:aj:=aj.addF O64 65 a55 (fun x=>yc x) (fun _ (r:ae×f7)=>(.agg [.I r.1.e5,.v (.s r.1.iq),.I r.1.iO,.own 2 (ah iC.row r.1.iz),.own 1 (ah bY r.1.af),.own 2 (ah f5.row r.1.f9)],[cGreader r.2]))
def a66 (x:f7×ad):List D×bH:=([.ptr 1 0,.ptr 2 0],[cGreader x.1,[.I x.2.e7.iS,.own 8 (ah gi.row x.2.e7.f6),.I x.2.iI,.own 7 (ah cc.row x.2.cO)],[.ptr 0 0]])
def O66:aj:=aj.addF O65 63 a66 (fun x=>nC x.1 x.2) (fun _ (r:f7×ad)=>(.tup [],[cGreader r.1,[.I r.2.e7.iS,.own 8 (ah gi.row r.2.e7.f6),.I r.2.iI,.own 7 (ah cc.row r.2.cO)],[.ptr 0 0]]))
def a67 (x:f7×ad):List D×bH:=([.ptr 0 0,.clo 63 [.ptr 1 0,.ptr 2 0]],[cGreader x.1,[.I x.2.e7.iS,.own 8 (ah gi.row x.2.e7.f6),.I x.2.iI,.own 7 (ah cc.row x.2.cO)],[.ptr 0 0]])
def O67:aj:=aj.addF O66 62 a67 (fun x=>jT x.1 x.2) (fun _ (r:f7×ad)=>(.tup [],[cGreader r.1,[.I r.2.e7.iS,.own 8 (ah gi.row r.2.e7.f6),.I r.2.iI,.own 7 (ah cc.row r.2.cO)],[.ptr 0 0]]))
def a68 (x:f7×ad):List D×bH:=([.ptr 1 0,.ptr 2 0],[cGreader x.1,[.ptr 0 0],[.I x.2.e7.iS,.own 8 (ah gi.row x.2.e7.f6),.I x.2.iI,.own 7 (ah cc.row x.2.cO)]])
def O68:aj:=aj.addF O67 66 a68 (fun x=>nB x.1 x.2) (fun _ (r:f7×ad)=>(.tup [],[cGreader r.1,[.ptr 0 0],[.I r.2.e7.iS,.own 8 (ah gi.row r.2.e7.f6),.I r.2.iI,.own 7 (ah cc.row r.2.cO)]]))
def a69 (x:f7×ad):List D×bH:=([.ptr 0 0,.clo 66 [.ptr 1 0,.ptr 2 0]],[cGreader x.1,[.ptr 0 0],[.I x.2.e7.iS,.own 8 (ah gi.row x.2.e7.f6),.I x.2.iI,.own 7 (ah cc.row x.2.cO)]])
def O69:aj:=aj.addF O68 62 a69 (fun x=>jR x.1 x.2) (fun _ (r:f7×ad)=>(.tup [],[cGreader r.1,[.ptr 0 0],[.I r.2.e7.iS,.own 8 (ah gi.row r.2.e7.f6),.I r.2.iI,.own 7 (ah cc.row r.2.cO)]]))
def a70 (x:Bool×f7):List D×bH:=([.ptr 0 0,.v (.b x.1)],[cGreader x.2])
def O70:aj:=aj.addF O69 69 a70 (fun x=>Hi x.1 x.2) (fun _ (r:Int×f7)=>(.I r.1,[cGreader r.2]))
def O71:aj:=aj.addF O70 29 a53 (fun x=>qZ x) (fun _ (r:ad×Int)=>(.tup [.agg (cGMachine r.1),.I r.2],[]))
def a72 (x:(List iE)):List D×bH:=([.v (.sl 10 (ah iE.row x))],[])
def O72:aj:=aj.addF O71 30 a72 (fun x=>mN x) (fun _ (r:(List iE))=>(.own 10 (ah iE.row r),[]))
def O73:aj:=aj.addF O72 107 a22 (fun x=>qg x) (fun _ (r:Bool)=>(.v (.b r),[]))
def a74 (x:iA):List D×bH:=([.agg (cGCommand x)],[])
def O74:aj:=aj.addF O73 108 a74 (fun x=>wl x) (fun _ (r:Int)=>(.I r,[]))
def a75 (x:jM):List D×bH:=([.agg (cGCall x)],[])
def O75:aj:=aj.addF O74 91 a75 (fun x=>A6 x) (fun _ (r:Int)=>(.I r,[]))
def a76 (x:iE):List D×bH:=([.agg (cGItem x)],[])
def O76:aj:=aj.addF O75 49 a76 (fun x=>qL x) (fun _ (r:Int)=>(.I r,[]))
def a77 (x:iP):List D×bH:=([.agg (cGLog x)],[])
def O77:aj:=aj.addF O76 52 a77 (fun x=>lT x) (fun _ (r:Int)=>(.I r,[]))
def a78 (x:iP×Int):List D×bH:=([.agg (cGLog x.1),.I x.2],[])
def O78:aj:=aj.addF O77 93 a78 (fun x=>mM x.1 x.2) (fun _ (r:Int×Int)=>(.tup [.I r.1,.I r.2],[]))
def O79:aj:=aj.addF O78 53 a78 (fun x=>sY x.1 x.2) (fun _ (r:Int×Int)=>(.tup [.I r.1,.I r.2],[]))
def O80:aj:=aj.addF O79 54 a78 (fun x=>th x.1 x.2) (fun _ (r:iP×Int)=>(.tup [.agg (cGLog r.1),.I r.2],[]))
def a81 (x:iP×i4):List D×bH:=([.agg (cGLog x.1),.agg (cGSnap x.2)],[])
def O81:aj:=aj.addF O80 27 a81 (fun x=>ui x.1 x.2) (fun _ (r:iP)=>(.agg (cGLog r),[]))
def O82:aj:=aj.addF O81 47 a5 (fun x=>sW x) (fun _ (r:Bool)=>(.v (.b r),[]))
def O83:aj:=aj.addF O82 48 a22 (fun x=>tj x) (fun _ (r:Bool)=>(.v (.b r),[]))
def O84:aj:=aj.addF O83 50 a5 (fun x=>lZ x) (fun _ (r:Int)=>(.I r,[]))
def O85:aj:=aj.addF O84 25 a6 (fun x=>pJ x) (fun _ (r:Int)=>(.I r,[]))
def O86:aj:=aj.addF O85 92 a77 (fun x=>sX x) (fun _ (r:Int×Int)=>(.tup [.I r.1,.I r.2],[]))
def O87:aj:=aj.addF O86 51 a77 (fun x=>qM x) (fun _ (r:Int×Int×Int)=>(.tup [.I r.1,.I r.2.1,.I r.2.2],[]))
def a88 (x:iP×Int×iE):List D×bH:=([.agg (cGLog x.1),.I x.2.1,.agg (cGItem x.2.2)],[])
def O88:aj:=aj.addF O87 26 a88 (fun x=>um x.1 x.2.1 x.2.2) (fun _ (r:iP×Int)=>(.tup [.agg (cGLog r.1),.I r.2],[]))
def O89:aj:=aj.addF O88 11 a7 (fun x=>vY x) (fun _ (r:iL×Int)=>(.tup [.agg (cGDisk r.1),.I r.2],[]))
def O90:aj:=aj.addF O89 70 a8 (fun x=>qN) (fun _ (r:ad)=>(.agg [.I r.e7.iS,.own 8 (ah gi.row r.e7.f6),.I r.iI,.own 7 (ah cc.row r.cO)],[]))
def O91:aj:=aj.addF O90 31 a8 (fun x=>u9) (fun _ (r:iL)=>(.agg [.I r.iK,.I r.lS,.I r.iG.iB,.I r.iG.iK,.I r.iG.iy.e7.iS,.own 8 (ah gi.row r.iG.iy.e7.f6),.I r.iG.iy.iI,.own 7 (ah cc.row r.iG.iy.cO),.I r.jh.iD,.I r.jh.iw,.own 10 (ah iE.row r.jh.af)],[]))
def O92:aj:=aj.addF O91 36 a4 (fun x=>nU x) (fun _ (r:ad)=>(.agg [.I r.e7.iS,.own 8 (ah gi.row r.e7.f6),.I r.iI,.own 7 (ah cc.row r.cO)],[]))
def O93:aj:=aj.addF O92 37 a77 (fun x=>ux x) (fun _ (r:iP)=>(.agg [.I r.iD,.I r.iw,.own 10 (ah iE.row r.af)],[]))
def O94:aj:=aj.addF O93 33 a77 (fun x=>zj x) (fun _ (r:Int)=>(.I r,[]))
def O95:aj:=aj.addF O94 75 a78 (fun x=>qb x.1 x.2) (fun _ (r:Int)=>(.I r,[]))
def a96 (x:Int×Int×Int):List D×bH:=([.I x.1,.I x.2.1,.I x.2.2],[])
def O96:aj:=aj.addF O95 42 a96 (fun x=>Rk x.1 x.2.1 x.2.2) (fun _ (r:Bool)=>(.v (.b r),[]))
def O97:aj:=aj.addF O96 73 a22 (fun x=>tc x) (fun _ (r:Bool)=>(.v (.b r),[]))
def O98:aj:=aj.addF O97 116 a11 (fun x=>uv x) (fun _ (r:Bool)=>(.v (.b r),[]))
def O99:aj:=aj.addF O98 118 a11 (fun x=>v5 x) (fun _ (r:Bool)=>(.v (.b r),[]))
def Gr:aj:=aj.addF O99 119 a22 (fun x=>uD x) (fun _ (r:Bool)=>(.v (.b r),[]))
def Nd:aj:=aj.addF Gr 112 a74 (fun x=>rc x) (fun _ (r:Int)=>(.I r,[]))
def KX:aj:=aj.addF Nd 100 a75 (fun x=>u1 x) (fun _ (r:Int)=>(.I r,[]))
def L9:aj:=aj.addF KX 74 a76 (fun x=>vd x) (fun _ (r:Int)=>(.I r,[]))
def J3:aj:=aj.addF L9 34 a77 (fun x=>pz x) (fun _ (r:Int)=>(.I r,[]))
def Lq:aj:=aj.addF J3 76 a78 (fun x=>vX x.1 x.2) (fun _ (r:iP×Int)=>(.tup [.agg (cGLog r.1),.I r.2],[]))
def ND:aj:=aj.addF Lq 35 a81 (fun x=>u5 x.1 x.2) (fun _ (r:iP)=>(.agg (cGLog r),[]))
def OV:aj:=aj.addF ND 71 a5 (fun x=>sZ x) (fun _ (r:Bool)=>(.v (.b r),[]))
def Oj:aj:=aj.addF OV 138 a1 (fun x=>zo x) (fun _ (r:Int)=>(.I r,[]))
def Ox:aj:=aj.addF Oj 139 a34 (fun x=>rO x.1 x.2) (fun _ (r:Bool)=>(.v (.b r),[]))
def CI:aj:=aj.addF Ox 140 a39 (fun x=>sQ x.1 x.2) (fun _ (r:Int)=>(.I r,[]))
def Kn:aj:=aj.addF CI 117 a1 (fun x=>pL x) (fun _ (r:Int)=>(.I r,[]))
def GU:aj:=aj.addF Kn 105 a2 (fun x=>pI x) (fun _ (r:Int)=>(.I r,[]))
def GZ:aj:=aj.addF GU 106 a3 (fun x=>nR x) (fun _ (r:Int)=>(.I r,[]))
def MI:aj:=aj.addF GZ 90 a4 (fun x=>na x) (fun _ (r:Int)=>(.I r,[]))
def EX:aj:=aj.addF MI 72 a5 (fun x=>ra x) (fun _ (r:Int)=>(.I r,[]))
def Cr:aj:=aj.addF EX 32 a6 (fun x=>oq x) (fun _ (r:Int)=>(.I r,[]))
def NU:aj:=aj.addF Cr 12 a7 (fun x=>rL x) (fun _ (r:iL×Int)=>(.tup [.agg (cGDisk r.1),.I r.2],[]))
def VA (x:(List ByteArray)×(List ByteArray)):List D×bH:=([.v (.sl 1 (ah bY x.1)),.v (.sl 1 (ah bY x.2))],[])
def Oq:aj:=aj.addF NU 114 VA (fun x=>pp x.1 x.2) (fun _ (r:Bool)=>(.v (.b r),[]))
def Xb (x:ae×ae):List D×bH:=([.agg (cGValue x.1),.agg (cGValue x.2)],[])
def OE:aj:=aj.addF Oq 113 Xb (fun x=>qP x.1 x.2) (fun _ (r:Bool)=>(.v (.b r),[]))
def Wg (x:iJ×iJ):List D×bH:=([.agg (cGStore x.1),.agg (cGStore x.2)],[])
def Lt:aj:=aj.addF OE 102 Wg (fun x=>qO x.1 x.2) (fun _ (r:Bool)=>(.v (.b r),[]))
def Wp (x:iT×iT):List D×bH:=([.agg (cGReply x.1),.agg (cGReply x.2)],[])
def Mf:aj:=aj.addF Lt 103 Wp (fun x=>qV x.1 x.2) (fun _ (r:Bool)=>(.v (.b r),[]))
def Xv (x:ad×ad):List D×bH:=([.agg (cGMachine x.1),.agg (cGMachine x.2)],[])
def Nn:aj:=aj.addF Mf 79 Xv (fun x=>om x.1 x.2) (fun _ (r:Bool)=>(.v (.b r),[]))
def VR (x:i4×i4):List D×bH:=([.agg (cGSnap x.1),.agg (cGSnap x.2)],[])
def N1:aj:=aj.addF Nn 38 VR (fun x=>qX x.1 x.2) (fun _ (r:Bool)=>(.v (.b r),[]))
def Xo (x:(List iE)×(List iE)):List D×bH:=([.v (.sl 10 (ah iE.row x.1)),.v (.sl 10 (ah iE.row x.2))],[])
def OU:aj:=aj.addF N1 80 Xo (fun x=>qU x.1 x.2) (fun _ (r:Bool)=>(.v (.b r),[]))
def V4 (x:iP×iP):List D×bH:=([.agg (cGLog x.1),.agg (cGLog x.2)],[])
def Lz:aj:=aj.addF OU 39 V4 (fun x=>uK x.1 x.2) (fun _ (r:Bool)=>(.v (.b r),[]))
def X0 (x:iL×iL):List D×bH:=([.agg (cGDisk x.1),.agg (cGDisk x.2)],[])
def Mk:aj:=aj.addF Lz 13 X0 (fun x=>sN x.1 x.2) (fun _ (r:Bool)=>(.v (.b r),[]))
def X2 (x:bi×bi):List D×bH:=([.agg (cGRecord x.1),.agg (cGRecord x.2)],[])
def Od:aj:=aj.addF Mk 22 X2 (fun x=>pB x.1 x.2) (fun _ (r:Bool)=>(.v (.b r),[]))
def WE (x:(List bi)×(List bi)):List D×bH:=([.v (.sl 20 (ah bi.row x.1)),.v (.sl 20 (ah bi.row x.2))],[])
def JW:aj:=aj.addF Od 8 WE (fun x=>od x.1 x.2) (fun _ (r:Bool)=>(.v (.b r),[]))
def FF:Nat->Nat
 |1=>101
 |2=>77
 |3=>78
 |4=>36
 |5=>45
 |6=>23
 |7=>10
 |8=>46
 |9=>24
 |10=>123
 |11=>121
 |12=>124
 |13=>137
 |14=>110
 |15=>120
 |16=>126
 |17=>141
 |18=>125
 |19=>128
 |20=>142
 |21=>127
 |22=>122
 |23=>129
 |24=>142
 |25=>127
 |26=>148
 |27=>145
 |28=>135
 |29=>131
 |30=>130
 |31=>147
 |32=>144
 |33=>143
 |34=>133
 |35=>132
 |36=>134
 |37=>146
 |38=>142
 |39=>136
 |40=>109
 |41=>94
 |42=>111
 |43=>137
 |44=>110
 |45=>95
 |46=>55
 |47=>56
 |48=>57
 |49=>58
 |50=>60
 |51=>59
 |52=>28
 |53=>40
 |54=>96
 |55=>61
 |56=>67
 |57=>64
 |58=>97
 |59=>62
 |60=>99
 |61=>62
 |62=>68
 |63=>98
 |64=>62
 |65=>65
 |66=>63
 |67=>62
 |68=>66
 |69=>62
 |70=>69
 |71=>29
 |72=>30
 |73=>107
 |74=>108
 |75=>91
 |76=>49
 |77=>52
 |78=>93
 |79=>53
 |80=>54
 |81=>27
 |82=>47
 |83=>48
 |84=>50
 |85=>25
 |86=>92
 |87=>51
 |88=>26
 |89=>11
 |90=>70
 |91=>31
 |92=>36
 |93=>37
 |94=>33
 |95=>75
 |96=>42
 |97=>73
 |98=>116
 |99=>118
 |100=>119
 |101=>112
 |102=>100
 |103=>74
 |104=>34
 |105=>76
 |106=>35
 |107=>71
 |108=>138
 |109=>139
 |110=>140
 |111=>117
 |112=>105
 |113=>106
 |114=>90
 |115=>72
 |116=>32
 |117=>12
 |118=>114
 |119=>113
 |120=>102
 |121=>103
 |122=>79
 |123=>38
 |124=>80
 |125=>39
 |126=>13
 |127=>22
 |128=>8
 |_=>0
def OO:Nat->aj
 |0=>noC
 |1=>O1
 |2=>O2
 |3=>O3
 |4=>O4
 |5=>O5
 |6=>O6
 |7=>O7
 |8=>O8
 |9=>O9
 |10=>O10
 |11=>O11
 |12=>O12
 |13=>O13
 |14=>O14
 |15=>O15
 |16=>O16
 |17=>O17
 |18=>O18
 |19=>O19
 |20=>O20
 |21=>O21
 |22=>O22
 |23=>O23
 |24=>O24
 |25=>O25
 |26=>O26
 |27=>O27
 |28=>O28
 |29=>O29
 |30=>O30
 |31=>O31
 |32=>O32
 |33=>O33
 |34=>O34
 |35=>O35
 |36=>O36
 |37=>O37
 |38=>O38
 |39=>O39
 |40=>O40
 |41=>O41
 |42=>O42
 |43=>O43
 |44=>O44
 |45=>O45
 |46=>O46
 |47=>O47
 |48=>O48
 |49=>O49
 |50=>O50
 |51=>O51
 |52=>O52
 |53=>O53
 |54=>O54
 |55=>O55
 |56=>O56
 |57=>O57
 |58=>O58
 |59=>O59
 |60=>O60
 |61=>O61
 |62=>O62
 |63=>O63
 |64=>O64
 |65=>O65
 |66=>O66
 |67=>O67
 |68=>O68
 |69=>O69
 |70=>O70
 |71=>O71
 |72=>O72
 |73=>O73
 |74=>O74
 |75=>O75
 |76=>O76
 |77=>O77
 |78=>O78
 |79=>O79
 |80=>O80
 |81=>O81
 |82=>O82
 |83=>O83
 |84=>O84
 |85=>O85
 |86=>O86
 |87=>O87
 |88=>O88
 |89=>O89
 |90=>O90
 |91=>O91
 |92=>O92
 |93=>O93
 |94=>O94
 |95=>O95
 |96=>O96
 |97=>O97
 |98=>O98
 |99=>O99
 |100=>Gr
 |101=>Nd
 |102=>KX
 |103=>L9
 |104=>J3
 |105=>Lq
 |106=>ND
 |107=>OV
 |108=>Oj
 |109=>Ox
 |110=>CI
 |111=>Kn
 |112=>GU
 |113=>GZ
 |114=>MI
 |115=>EX
 |116=>Cr
 |117=>NU
 |118=>Oq
 |119=>OE
 |120=>Lt
 |121=>Mf
 |122=>Nn
 |123=>N1
 |124=>OU
 |125=>Lz
 |126=>Mk
 |127=>Od
 |128=>JW
 |_=>noC
theorem up {C:aj} {f f1:Nat} {X R:Type} {arg:X->List D×bH} {G:X->Option R} {res:X->R->D×bH} (h:f≠f1):(aj.addF C f1 arg G res) f=C f:=funext fun a=>funext fun S=>ac h a S
theorem qf2: ∀n f,n<128->f≠FF (n+1)->OO (n+1) f=OO n f
 |0,f,_,h=>(up h:O1 f=noC f)
 |1,f,_,h=>(up h:O2 f=O1 f)
 |2,f,_,h=>(up h:O3 f=O2 f)
 |3,f,_,h=>(up h:O4 f=O3 f)
 |4,f,_,h=>(up h:O5 f=O4 f)
 |5,f,_,h=>(up h:O6 f=O5 f)
 |6,f,_,h=>(up h:O7 f=O6 f)
 |7,f,_,h=>(up h:O8 f=O7 f)
 |8,f,_,h=>(up h:O9 f=O8 f)
 |9,f,_,h=>(up h:O10 f=O9 f)
 |10,f,_,h=>(up h:O11 f=O10 f)
 |11,f,_,h=>(up h:O12 f=O11 f)
 |12,f,_,h=>(up h:O13 f=O12 f)
 |13,f,_,h=>(up h:O14 f=O13 f)
 |14,f,_,h=>(up h:O15 f=O14 f)
 |15,f,_,h=>(up h:O16 f=O15 f)
 |16,f,_,h=>(up h:O17 f=O16 f)
 |17,f,_,h=>(up h:O18 f=O17 f)
 |18,f,_,h=>(up h:O19 f=O18 f)
 |19,f,_,h=>(up h:O20 f=O19 f)
 |20,f,_,h=>(up h:O21 f=O20 f)
 |21,f,_,h=>(up h:O22 f=O21 f)
 |22,f,_,h=>(up h:O23 f=O22 f)
 |23,f,_,h=>(up h:O24 f=O23 f)
 |24,f,_,h=>(up h:O25 f=O24 f)
 |25,f,_,h=>(up h:O26 f=O25 f)
 |26,f,_,h=>(up h:O27 f=O26 f)
 |27,f,_,h=>(up h:O28 f=O27 f)
 |28,f,_,h=>(up h:O29 f=O28 f)
 |29,f,_,h=>(up h:O30 f=O29 f)
 |30,f,_,h=>(up h:O31 f=O30 f)
 |31,f,_,h=>(up h:O32 f=O31 f)
 |32,f,_,h=>(up h:O33 f=O32 f)
 |33,f,_,h=>(up h:O34 f=O33 f)
 |34,f,_,h=>(up h:O35 f=O34 f)
 |35,f,_,h=>(up h:O36 f=O35 f)
 |36,f,_,h=>(up h:O37 f=O36 f)
 |37,f,_,h=>(up h:O38 f=O37 f)
 |38,f,_,h=>(up h:O39 f=O38 f)
 |39,f,_,h=>(up h:O40 f=O39 f)
 |40,f,_,h=>(up h:O41 f=O40 f)
 |41,f,_,h=>(up h:O42 f=O41 f)
 |42,f,_,h=>(up h:O43 f=O42 f)
 |43,f,_,h=>(up h:O44 f=O43 f)
 |44,f,_,h=>(up h:O45 f=O44 f)
 |45,f,_,h=>(up h:O46 f=O45 f)
 |46,f,_,h=>(up h:O47 f=O46 f)
 |47,f,_,h=>(up h:O48 f=O47 f)
 |48,f,_,h=>(up h:O49 f=O48 f)
 |49,f,_,h=>(up h:O50 f=O49 f)
 |50,f,_,h=>(up h:O51 f=O50 f)
 |51,f,_,h=>(up h:O52 f=O51 f)
 |52,f,_,h=>(up h:O53 f=O52 f)
 |53,f,_,h=>(up h:O54 f=O53 f)
 |54,f,_,h=>(up h:O55 f=O54 f)
 |55,f,_,h=>(up h:O56 f=O55 f)
 |56,f,_,h=>(up h:O57 f=O56 f)
 |57,f,_,h=>(up h:O58 f=O57 f)
 |58,f,_,h=>(up h:O59 f=O58 f)
 |59,f,_,h=>(up h:O60 f=O59 f)
 |60,f,_,h=>(up h:O61 f=O60 f)
 |61,f,_,h=>(up h:O62 f=O61 f)
 |62,f,_,h=>(up h:O63 f=O62 f)
 |63,f,_,h=>(up h:O64 f=O63 f)
 |64,f,_,h=>(up h:O65 f=O64 f)
 |65,f,_,h=>(up h:O66 f=O65 f)
 |66,f,_,h=>(up h:O67 f=O66 f)
 |67,f,_,h=>(up h:O68 f=O67 f)
 |68,f,_,h=>(up h:O69 f=O68 f)
 |69,f,_,h=>(up h:O70 f=O69 f)
 |70,f,_,h=>(up h:O71 f=O70 f)
 |71,f,_,h=>(up h:O72 f=O71 f)
 |72,f,_,h=>(up h:O73 f=O72 f)
 |73,f,_,h=>(up h:O74 f=O73 f)
 |74,f,_,h=>(up h:O75 f=O74 f)
 |75,f,_,h=>(up h:O76 f=O75 f)
 |76,f,_,h=>(up h:O77 f=O76 f)
 |77,f,_,h=>(up h:O78 f=O77 f)
 |78,f,_,h=>(up h:O79 f=O78 f)
 |79,f,_,h=>(up h:O80 f=O79 f)
 |80,f,_,h=>(up h:O81 f=O80 f)
 |81,f,_,h=>(up h:O82 f=O81 f)
 |82,f,_,h=>(up h:O83 f=O82 f)
 |83,f,_,h=>(up h:O84 f=O83 f)
 |84,f,_,h=>(up h:O85 f=O84 f)
 |85,f,_,h=>(up h:O86 f=O85 f)
 |86,f,_,h=>(up h:O87 f=O86 f)
 |87,f,_,h=>(up h:O88 f=O87 f)
 |88,f,_,h=>(up h:O89 f=O88 f)
 |89,f,_,h=>(up h:O90 f=O89 f)
 |90,f,_,h=>(up h:O91 f=O90 f)
 |91,f,_,h=>(up h:O92 f=O91 f)
 |92,f,_,h=>(up h:O93 f=O92 f)
 |93,f,_,h=>(up h:O94 f=O93 f)
 |94,f,_,h=>(up h:O95 f=O94 f)
 |95,f,_,h=>(up h:O96 f=O95 f)
 |96,f,_,h=>(up h:O97 f=O96 f)
 |97,f,_,h=>(up h:O98 f=O97 f)
 |98,f,_,h=>(up h:O99 f=O98 f)
 |99,f,_,h=>(up h:Gr f=O99 f)
 |100,f,_,h=>(up h:Nd f=Gr f)
 |101,f,_,h=>(up h:KX f=Nd f)
 |102,f,_,h=>(up h:L9 f=KX f)
 |103,f,_,h=>(up h:J3 f=L9 f)
 |104,f,_,h=>(up h:Lq f=J3 f)
 |105,f,_,h=>(up h:ND f=Lq f)
 |106,f,_,h=>(up h:OV f=ND f)
 |107,f,_,h=>(up h:Oj f=OV f)
 |108,f,_,h=>(up h:Ox f=Oj f)
 |109,f,_,h=>(up h:CI f=Ox f)
 |110,f,_,h=>(up h:Kn f=CI f)
 |111,f,_,h=>(up h:GU f=Kn f)
 |112,f,_,h=>(up h:GZ f=GU f)
 |113,f,_,h=>(up h:MI f=GZ f)
 |114,f,_,h=>(up h:EX f=MI f)
 |115,f,_,h=>(up h:Cr f=EX f)
 |116,f,_,h=>(up h:NU f=Cr f)
 |117,f,_,h=>(up h:Oq f=NU f)
 |118,f,_,h=>(up h:OE f=Oq f)
 |119,f,_,h=>(up h:Lt f=OE f)
 |120,f,_,h=>(up h:Mf f=Lt f)
 |121,f,_,h=>(up h:Nn f=Mf f)
 |122,f,_,h=>(up h:N1 f=Nn f)
 |123,f,_,h=>(up h:OU f=N1 f)
 |124,f,_,h=>(up h:Lz f=OU f)
 |125,f,_,h=>(up h:Mk f=Lz f)
 |126,f,_,h=>(up h:Od f=Mk f)
 |127,f,_,h=>(up h:JW f=Od f)
 |n+128,_,h,_=>absurd h (by omega)
theorem jg (f j:Nat): ∀d,j+d<=128->(∀m,m<d->f≠FF (j+m+1))-> ∀a S,OO (j+d) f a S=OO j f a S
 |0,_,_,_,_=>rfl
 |d+1,hd,h,a,S=>(congrFun (congrFun (qf2 (j+d) f (by omega) (h d (Nat.lt_succ_self d))) a) S).trans (jg f j d (by omega) (fun m hm=>h m (Nat.lt_succ_of_lt hm)) a S)
theorem Nh:iH Tryz.prog O1:=aV (gF _) (fun x r h=>iV (ν:=xA) (gF _) Tryz.func101 (by kernel_rfl) iU (G6 noC x r h))
theorem Up: ∀x y,a1 x=a1 y->x=y:=by
 rintro⟨ua1,ua2,ua3,ua4,ua5,ua6⟩ ⟨ub1,ub2,ub3,ub4,ub5,ub6⟩ h
 simp only [a1,RI,aZ,iC.map_inj,f5.map_inj] at h
 simp only [h]
theorem qmF:xc O1:=fun p0 r h=>bZ (x:=p0) Up h
theorem L4:iH Tryz.prog O2:=aV Nh (fun x r h=>iV (ν:=n77) Nh Tryz.func77 (by kernel_rfl) iU (FN O1 qmF x r h))
theorem qcN: ∀x y,a2 x=a2 y->x=y:=by
 rintro⟨ua1,ua2⟩ ⟨ub1,ub2⟩ h
 simp only [a2,RI,gi.map_inj] at h
 simp only [h]
theorem qhV:sc O2:=fun p0 r h=>bZ (x:=p0) qcN h
theorem MR:iH Tryz.prog O3:=aV L4 (fun x r h=>iV (ν:=n78) L4 Tryz.func78 (by kernel_rfl) iU (GK O2 x r h))
theorem qbB: ∀x y,a3 x=a3 y->x=y:=by
 rintro⟨ua1,ua2,ua3,ua4⟩ ⟨ub1,ub2,ub3,ub4⟩ h
 simp only [a3,RI,aZ] at h
 simp only [h]
theorem qiV:ql O3:=fun p0 r h=>bZ (x:=p0) qbB h
theorem qlz:sc O3:=fun p0 r h=>(jg 77 2 1 (by decide) (by decide) _ _).trans (qhV p0 r h)
theorem LW:iH Tryz.prog O4:=aV MR (fun x r h=>by
 obtain⟨d,S,h1,h2,h3⟩:=Be O3 qlz qiV x r h
 have h4:=Mx.Sem.frozen (iV (ν:=n36) MR Tryz.func36 (by kernel_rfl) iU h1) h2
 obtain⟨e1,e2⟩:=Prod.mk.inj h3
 rw [e1] at h4;rw [e2] at h4;exact h4)
theorem RR: ∀x y,a4 x=a4 y->x=y:=by
 rintro⟨⟨ua1,ua2⟩,ua3,ua4⟩ ⟨⟨ub1,ub2⟩,ub3,ub4⟩ h
 simp only [a4,RI,gi.map_inj,cc.map_inj] at h
 simp only [h]
theorem qmp:wO O4:=fun p0 r h=>bZ (x:=p0) RR h
theorem LZ:iH Tryz.prog O5:=aV LW (fun x r h=>by
 obtain⟨d,S,h1,h2,h3⟩:=LL O4 qmp x r h
 have h4:=Mx.Sem.frozen (iV (ν:=n45) LW Tryz.func45 (by kernel_rfl) iU h1) h2
 obtain⟨e1,e2⟩:=Prod.mk.inj h3
 rw [e1] at h4;rw [e2] at h4;exact h4)
theorem SQ: ∀x y,a5 x=a5 y->x=y:=by
 rintro⟨ua1,ua2,⟨⟨ua3,ua4⟩,ua5,ua6⟩⟩ ⟨ub1,ub2,⟨⟨ub3,ub4⟩,ub5,ub6⟩⟩ h
 simp only [a5,RI,gi.map_inj,cc.map_inj] at h
 simp only [h]
theorem qmK:Db O5:=fun p0 r h=>bZ (x:=p0) SQ h
theorem L5:iH Tryz.prog O6:=aV LZ (fun x r h=>by
 obtain⟨d,S,h1,h2,h3⟩:=Kg O5 qmK x r h
 have h4:=Mx.Sem.frozen (iV (ν:=n23) LZ Tryz.func23 (by kernel_rfl) iU h1) h2
 obtain⟨e1,e2⟩:=Prod.mk.inj h3
 rw [e1] at h4;rw [e2] at h4;exact h4)
theorem qaA: ∀x y,a6 x=a6 y->x=y:=by
 rintro⟨ua1,ua2,ua3,ua4,⟨ua5,ua6,ua7,⟨ua8,ua9,⟨ua10,ua11,ua12,ua13,ua14⟩⟩⟩,⟨ua15,ua16,⟨⟨ua17,ua18⟩,ua19,ua20⟩⟩⟩ ⟨ub1,ub2,ub3,ub4,⟨ub5,ub6,ub7,⟨ub8,ub9,⟨ub10,ub11,ub12,ub13,ub14⟩⟩⟩,⟨ub15,ub16,⟨⟨ub17,ub18⟩,ub19,ub20⟩⟩⟩ h
 simp only [a6,RI,gi.map_inj,cc.map_inj] at h
 simp only [h]
theorem qmL:yz O6:=fun p0 r h=>bZ (x:=p0) qaA h
theorem Nc:iH Tryz.prog O7:=aV L5 (fun x r h=>by
 obtain⟨d,S,h1,h2,h3⟩:=Ga O6 qmL x r h
 have h4:=Mx.Sem.frozen (iV (ν:=n10) L5 Tryz.func10 (by kernel_rfl) iU h1) h2
 obtain⟨e1,e2⟩:=Prod.mk.inj h3
 rw [e1] at h4;rw [e2] at h4;exact h4)
theorem qaW: ∀x y,a7 x=a7 y->x=y:=by
 rintro ua1 ub1 h
 simp only [a7,RI,bi.map_inj] at h
 exact h
theorem qlc:wX O7:=fun p0 r h=>bZ (x:=p0) qaW h
theorem MH:iH Tryz.prog O8:=aV Nc (fun x r h=>iV (ν:=n46) Nc Tryz.func46 (by kernel_rfl) iU (Lb O7 r h))
theorem WS: ∀x y,a8 x=a8 y->x=y:=fun _ _ _=>rfl
theorem qlB:By O8:=fun  r h=>bZ (x:=()) WS h
theorem Lm:iH Tryz.prog O9:=aV MH (fun x r h=>iV (ν:=n24) MH Tryz.func24 (by kernel_rfl) iU (OS O8 qlB r h))
theorem qlJ:AO O9:=fun  r h=>bZ (x:=()) WS h
theorem Hl:iH Tryz.prog O10:=aV Lm (fun x r h=>iV (ν:=Ro) Lm Tryz.func123 (by kernel_rfl) iU (CK O9 x r h))
theorem qes:pk O10:=fun p0 r h=>bZ (x:=p0) Up h
theorem JC:iH Tryz.prog O11:=aV Hl (fun x r h=>iV (ν:=Xx) Hl Tryz.func121 (by kernel_rfl) iU (Kt O10 x r h))
theorem HI: ∀x y,a11 x=a11 y->x=y:=by
 rintro ua1 ub1 h
 simp only [a11,RI] at h
 exact h
theorem Ej:lh O11:=fun p0 r h=>bZ (x:=p0) HI h
theorem Ht:iH Tryz.prog O12:=aV JC (fun x r h=>iV (ν:=Xz) JC Tryz.func124 (by kernel_rfl) iU (Qu O11 Ej x r h))
theorem qaY:B2 O12:=fun p0 r h=>bZ (x:=p0) HI h
theorem Iv:iH Tryz.prog O13:=aV Ht (fun x r h=>iV (ν:=Ah) Ht Tryz.func137 (by kernel_rfl) iU (JM O12 qaY x r h))
theorem Y1: ∀x y,a13 x=a13 y->x=y:=by
 rintro ua1 ub1 h
 simp only [a13,RI,aZ] at h
 exact h
theorem qax:Bq O13:=fun p0 r h=>bZ (x:=p0) Y1 h
theorem HD:iH Tryz.prog O14:=aV Iv (fun x r h=>iV (ν:=N2) Iv Tryz.func110 (by kernel_rfl) iU (KH O13 qax x r h))
theorem qb2:yE O14:=fun p0 r h=>bZ (x:=p0) Y1 h
theorem Jo:iH Tryz.prog O15:=aV HD (fun x r h=>iV (ν:=Vs) HD Tryz.func120 (by kernel_rfl) iU (GQ O14 x r h))
theorem Um:sh O15:=fun p0 r h=>bZ (x:=p0) HI h
theorem qaJ:lh O15:=fun p0 r h=>(jg 121 11 4 (by decide) (by decide) _ _).trans (Ej p0 r h)
theorem Jk:iH Tryz.prog O16:=aV Jo (fun x r h=>iV (ν:=Rw) Jo Tryz.func126 (by kernel_rfl) iU (QT O15 Um qaJ x r h))
theorem qk8: ∀x y,a16 x=a16 y->x=y:=by
 rintro⟨ua1,ua2⟩ ⟨ub1,ub2⟩ h
 simp only [a16,RI] at h
 simp only [h]
theorem qfc:Co O16:=fun p0 r h=>bZ (x:=p0) qk8 h
theorem HK:iH Tryz.prog O17:=aV Jk (fun x r h=>iV (ν:=FZ) Jk Tryz.func141 (by kernel_rfl) iU (Kl O16 qfc x r h))
theorem YK: ∀x y,a17 x=a17 y->x=y:=by
 rintro ua1 ub1 h
 simp only [a17,RI,iC.map_inj] at h
 exact h
theorem qdU:Bm O17:=fun p0 r h=>bZ (x:=p0) YK h
theorem I0:iH Tryz.prog O18:=aV HK (fun x r h=>iV (ν:=XL) HK Tryz.func125 (by kernel_rfl) iU (KT O17 qdU x r h))
theorem qcW:ym O18:=fun p0 r h=>bZ (x:=p0) YK h
theorem qeN:lh O18:=fun p0 r h=>(jg 121 11 7 (by decide) (by decide) _ _).trans (Ej p0 r h)
theorem IM:iH Tryz.prog O19:=aV I0 (fun x r h=>iV (ν:=QO) I0 Tryz.func128 (by kernel_rfl) iU (Qt O18 qeN x r h))
theorem Yu: ∀x y,a19 x=a19 y->x=y:=by
 rintro⟨ua1,ua2⟩ ⟨ub1,ub2⟩ h
 simp only [a19,RI] at h
 simp only [h]
theorem qbw:CC O19:=fun p0 r h=>bZ (x:=p0) Yu h
theorem HO:iH Tryz.prog O20:=aV IM (fun x r h=>iV (ν:=wD) IM Tryz.func142 (by kernel_rfl) iU (KS O19 qbw x r h))
theorem Y2: ∀x y,a20 x=a20 y->x=y:=by
 rintro ua1 ub1 h
 simp only [a20,RI,f5.map_inj] at h
 exact h
theorem qbK:BN O20:=fun p0 r h=>bZ (x:=p0) Y2 h
theorem HX:iH Tryz.prog O21:=aV HO (fun x r h=>iV (ν:=OY) HO Tryz.func127 (by kernel_rfl) iU (KF O20 qbK x r h))
theorem qb6:yg O21:=fun p0 r h=>bZ (x:=p0) Y2 h
theorem Hm:iH Tryz.prog O22:=aV HX (fun x r h=>iV (ν:=U9) HX Tryz.func122 (by kernel_rfl) iU (GL O21 x r h))
theorem IP: ∀x y,a22 x=a22 y->x=y:=by
 rintro ua1 ub1 h
 simp only [a22,RI] at h
 exact h
theorem OP:qi O22:=fun p0 r h=>bZ (x:=p0) IP h
theorem IZ:iH Tryz.prog O23:=aV Hm (fun x r h=>iV (ν:=Rc) Hm Tryz.func129 (by kernel_rfl) iU (Qw O22 OP x r h))
theorem qcy:BZ O23:=fun p0 r h=>bZ (x:=p0) Yu h
theorem In:iH Tryz.prog O24:=aV IZ (fun x r h=>iV (ν:=wD) IZ Tryz.func142 (by kernel_rfl) iU (JY O23 qcy x r h))
theorem YO: ∀x y,a24 x=a24 y->x=y:=by
 rintro ua1 ub1 h
 simp only [a24,RI,f5.map_inj] at h
 exact h
theorem qfh:Bl O24:=fun p0 r h=>bZ (x:=p0) YO h
theorem QV:iH Tryz.prog O25:=aV In (fun x r h=>iV (ν:=OY) In Tryz.func127 (by kernel_rfl) iU (KR O24 qfh x r h))
theorem qdF:yx O25:=fun p0 r h=>bZ (x:=p0) YO h
theorem HZ:iH Tryz.prog O26:=aV QV (fun x r h=>by
 obtain rfl:=Option.some.inj h
 exact VO Tryz.func148 (by kernel_rfl) (by kernel_rfl) (by kernel_rfl) (by kernel_rfl) x.1 x.2)
theorem Ul: ∀x y,a26 x=a26 y->x=y:=by
 rintro⟨ua1,ua2⟩ ⟨ub1,ub2⟩ h
 simp only [a26,RI] at h
 simp only [h]
theorem qc7:De O26:=fun p0 p1 r h=>bZ (x:=(p0,p1)) Ul h
theorem Ii:iH Tryz.prog O27:=aV HZ (fun x r h=>iV (ν:=Vi) HZ Tryz.func145 (by kernel_rfl) iU (Bo O26 qc7 x.1 x.2 r h))
theorem qbM:wT O27:=fun p0 p1 r h=>bZ (x:=(p0,p1)) Ul h
theorem Ie:iH Tryz.prog O28:=aV Ii (fun x r h=>iV (ν:=Ve) Ii Tryz.func135 (by kernel_rfl) iU (BA O27 qbM x.1 x.2 r h))
theorem Nr:li O28:=fun p0 p1 r h=>bZ (x:=(p0,p1)) Ul h
theorem HV:iH Tryz.prog O29:=aV Ie (fun x r h=>iV (ν:=QI) Ie Tryz.func131 (by kernel_rfl) iU (Dv O28 Nr x.1 x.2 r h))
theorem qjw: ∀x y,a29 x=a29 y->x=y:=by
 rintro⟨⟨ua1,ua2⟩,⟨ua3,ua4⟩⟩ ⟨⟨ub1,ub2⟩,⟨ub3,ub4⟩⟩ h
 simp only [a29,RI] at h
 simp only [h]
theorem qaZ:vr O29:=fun p0 p1 r h=>bZ (x:=(p0,p1)) qjw h
theorem HQ:iH Tryz.prog O30:=aV HV (fun x r h=>iV (ν:=D4) HV Tryz.func130 (by kernel_rfl) iU (tn O29 qaZ x r h))
theorem qji: ∀x y,a30 x=a30 y->x=y:=by
 rintro ua1 ub1 h
 simp only [a30,RI,iC.map_inj] at h
 exact h
theorem qe5:jY O30:=fun p0 r h=>bZ (x:=p0) qji h
theorem IH:iH Tryz.prog O31:=aV HQ (fun x r h=>iV (ν:=XP) HQ Tryz.func147 (by kernel_rfl) iU (Dn O30 x r h))
theorem qey:yM O31:=fun p0 r h=>bZ (x:=p0) IP h
theorem IY:iH Tryz.prog O32:=aV IH (fun x r h=>iV (ν:=Tt) IH Tryz.func144 (by kernel_rfl) iU (Ba O31 qey x.1 x.2 r h))
theorem qgq: ∀x y,a32 x=a32 y->x=y:=by
 rintro⟨ua1,ua2⟩ ⟨ub1,ub2⟩ h
 simp only [a32,RI] at h
 simp only [h]
theorem qal:tC O32:=fun p0 p1 r h=>bZ (x:=(p0,p1)) qgq h
theorem HW:iH Tryz.prog O33:=aV IY (fun x r h=>iV (ν:=Kp) IY Tryz.func143 (by kernel_rfl) iU (Lc O32 x r h))
theorem qkj: ∀x y,a33 x=a33 y->x=y:=by
 rintro ua1 ub1 h
 simp only [a33,RI,ba] at h
 exact h
theorem qen:BF O33:=fun p0 r h=>bZ (x:=p0) qkj h
theorem Zg:tC O33:=fun p0 p1 r h=>(jg 144 32 1 (by decide) (by decide) _ _).trans (qal p0 p1 r h)
theorem qbk:li O33:=fun p0 p1 r h=>(jg 135 28 5 (by decide) (by decide) _ _).trans (Nr p0 p1 r h)
theorem II:iH Tryz.prog O34:=aV HW (fun x r h=>iV (ν:=Og) HW Tryz.func133 (by kernel_rfl) iU (Dq O33 Zg qbk qen x.1 x.2 r h))
theorem YY: ∀x y,a34 x=a34 y->x=y:=by
 rintro⟨⟨ua1,ua2⟩,⟨ua3,ua4⟩⟩ ⟨⟨ub1,ub2⟩,⟨ub3,ub4⟩⟩ h
 simp only [a34,RI] at h
 simp only [h]
theorem qdO:vn O34:=fun p0 p1 r h=>bZ (x:=(p0,p1)) YY h
theorem Jr:iH Tryz.prog O35:=aV II (fun x r h=>iV (ν:=Er) II Tryz.func132 (by kernel_rfl) iU (sS O34 qdO x r h))
theorem qhj: ∀x y,a35 x=a35 y->x=y:=by
 rintro ua1 ub1 h
 simp only [a35,RI,f5.map_inj] at h
 exact h
theorem qda:jS O35:=fun p0 r h=>bZ (x:=p0) qhj h
theorem Z0:li O35:=fun p0 p1 r h=>(jg 135 28 7 (by decide) (by decide) _ _).trans (Nr p0 p1 r h)
theorem Jh:iH Tryz.prog O36:=aV Jr (fun x r h=>iV (ν:=Fs) Jr Tryz.func134 (by kernel_rfl) iU (rP O35 Z0 x r h))
theorem qjj: ∀x y,a36 x=a36 y->x=y:=by
 rintro ua1 ub1 h
 simp only [a36,RI,aZ] at h
 exact h
theorem qch:jL O36:=fun p0 r h=>bZ (x:=p0) qjj h
theorem Ib:iH Tryz.prog O37:=aV Jh (fun x r h=>iV (ν:=Q9) Jh Tryz.func146 (by kernel_rfl) iU (BR O36 x.1 x.2 r h))
theorem qgj: ∀x y,a37 x=a37 y->x=y:=by
 rintro⟨⟨ua1,ua2⟩,ua3⟩ ⟨⟨ub1,ub2⟩,ub3⟩ h
 simp only [a37,RI] at h
 simp only [h]
theorem qaH:uE O37:=fun p0 p1 r h=>bZ (x:=(p0,p1)) qgj h
theorem IT:iH Tryz.prog O38:=aV Ib (fun x r h=>iV (ν:=wD) Ib Tryz.func142 (by kernel_rfl) iU (Al O37 qaH x.1 x.2 r h))
theorem qh6: ∀x y,a38 x=a38 y->x=y:=by
 rintro⟨ua1,ua2⟩ ⟨ub1,ub2⟩ h
 simp only [a38,RI,f5.map_inj] at h
 simp only [h]
theorem qdM:vI O38:=fun p0 p1 r h=>bZ (x:=(p0,p1)) qh6 h
theorem Iz:iH Tryz.prog O39:=aV IT (fun x r h=>iV (ν:=QZ) IT Tryz.func136 (by kernel_rfl) iU (KV O38 qdM x.1 x.2 r h))
theorem X7: ∀x y,a39 x=a39 y->x=y:=by
 rintro⟨ua1,ua2⟩ ⟨ub1,ub2⟩ h
 simp only [a39,RI,f5.map_inj] at h
 simp only [h]
theorem qd8:yA O39:=fun p0 p1 r h=>bZ (x:=(p0,p1)) X7 h
theorem qfD:pk O39:=fun p0 r h=>(jg 123 10 29 (by decide) (by decide) _ _).trans (qes p0 r h)
theorem qaX:lh O39:=fun p0 r h=>(jg 121 11 28 (by decide) (by decide) _ _).trans (Ej p0 r h)
theorem qfp:yE O39:=fun p0 r h=>(jg 110 14 25 (by decide) (by decide) _ _).trans (qb2 p0 r h)
theorem qbP:ym O39:=fun p0 r h=>(jg 125 18 21 (by decide) (by decide) _ _).trans (qcW p0 r h)
theorem qbl:yg O39:=fun p0 r h=>(jg 127 25 14 (by decide) (by decide) _ _).trans ((show O25 127 _ _=O24 127 _ _ from yw (by intro x hx;simp [a24] at hx)).trans ((jg 127 21 3 (by decide) (by decide) _ _).trans (qb6 p0 r h)))
theorem qfo:qi O39:=fun p0 r h=>(jg 122 22 17 (by decide) (by decide) _ _).trans (OP p0 r h)
theorem qdE:yx O39:=fun p0 r h=>(jg 127 25 14 (by decide) (by decide) _ _).trans (qdF p0 r h)
theorem qct:jY O39:=fun p0 r h=>(jg 130 30 9 (by decide) (by decide) _ _).trans (qe5 p0 r h)
theorem qcx:jS O39:=fun p0 r h=>(jg 132 35 4 (by decide) (by decide) _ _).trans (qda p0 r h)
theorem qdX:jL O39:=fun p0 r h=>(jg 134 36 3 (by decide) (by decide) _ _).trans (qch p0 r h)
theorem IL:iH Tryz.prog O40:=aV Iz (fun x r h=>iV (ν:=vc) Iz Tryz.func109 (by kernel_rfl) iU (qh3 O39 qfD qaX qfp qbP qbl qfo qdE qct qcx qdX qd8 x r h))
theorem qeJ:PO O40:=fun p0 r h=>bZ (x:=p0) Up h
theorem HJ:iH Tryz.prog O41:=aV IL (fun x r h=>iV (ν:=n94) IL Tryz.func94 (by kernel_rfl) iU (FW O40 qeJ x r h))
theorem qfy:uR O41:=fun p0 r h=>bZ (x:=p0) qcN h
theorem Ho:iH Tryz.prog O42:=aV HJ (fun x r h=>iV (ν:=Vq) HJ Tryz.func111 (by kernel_rfl) iU (EU O41 x r h))
theorem qcw:wh O42:=fun p0 r h=>bZ (x:=p0) HI h
theorem JA:iH Tryz.prog O43:=aV Ho (fun x r h=>iV (ν:=Ah) Ho Tryz.func137 (by kernel_rfl) iU (BJ O42 qcw x r h))
theorem Yv: ∀x y,a43 x=a43 y->x=y:=by
 rintro ua1 ub1 h
 simp only [a43,RI,aZ] at h
 exact h
theorem qc1:wM O43:=fun p0 r h=>bZ (x:=p0) Yv h
theorem Ix:iH Tryz.prog O44:=aV JA (fun x r h=>iV (ν:=N2) JA Tryz.func110 (by kernel_rfl) iU (Bp O43 qc1 x r h))
theorem qae:wI O44:=fun p0 r h=>bZ (x:=p0) Yv h
theorem Iw:iH Tryz.prog O45:=aV Ix (fun x r h=>iV (ν:=n95) Ix Tryz.func95 (by kernel_rfl) iU (Pb O44 qae x r h))
theorem Y5:yl O45:=fun p0 r h=>bZ (x:=p0) qbB h
theorem qdy:uR O45:=fun p0 r h=>(jg 94 41 4 (by decide) (by decide) _ _).trans (qfy p0 r h)
theorem Jb:iH Tryz.prog O46:=aV Iw (fun x r h=>iV (ν:=n55) Iw Tryz.func55 (by kernel_rfl) iU (qkS O45 qdy Y5 x r h))
theorem OG:DV O46:=fun p0 r h=>bZ (x:=p0) RR h
theorem HU:iH Tryz.prog O47:=aV Jb (fun x r h=>iV (ν:=n56) Jb Tryz.func56 (by kernel_rfl) iU (OB O46 x.1 x.2 r h))
theorem X9: ∀x y,a47 x=a47 y->x=y:=by
 rintro⟨ua1,⟨ua2⟩⟩ ⟨ub1,⟨ub2⟩⟩ h
 simp only [a47,RI,bc] at h
 simp only [h]
theorem Ss:qW O47:=fun p0 p1 r h=>bZ (x:=(p0,p1)) X9 h
theorem Jz:iH Tryz.prog O48:=aV HU (fun x r h=>iV (ν:=n57) HU Tryz.func57 (by kernel_rfl) iU (QC O47 x.1 x.2 r h))
theorem JP:rz O48:=fun p0 p1 r h=>bZ (x:=(p0,p1)) X9 h
theorem Jj:iH Tryz.prog O49:=aV Jz (fun x r h=>iV (ν:=n58) Jz Tryz.func58 (by kernel_rfl) iU (Tw O48 JP x.1 x.2 r h))
theorem qj8: ∀x y,a49 x=a49 y->x=y:=by
 rintro⟨ua1,⟨ua2⟩⟩ ⟨ub1,⟨ub2⟩⟩ h
 simp only [a49,RI,bc] at h
 simp only [h]
theorem NG:rh O49:=fun p0 p1 r h=>bZ (x:=(p0,p1)) qj8 h
theorem qfu:rz O49:=fun p0 p1 r h=>(jg 57 48 1 (by decide) (by decide) _ _).trans (JP p0 p1 r h)
theorem HG:iH Tryz.prog O50:=aV Jj (fun x r h=>iV (ν:=n60) Jj Tryz.func60 (by kernel_rfl) iU (QP O49 qfu NG x.1 x.2 r h))
theorem qjr: ∀x y,a50 x=a50 y->x=y:=by
 rintro⟨ua1,⟨ua2⟩⟩ ⟨ub1,⟨ub2⟩⟩ h
 simp only [a50,RI,bc,aZ] at h
 simp only [h]
theorem R8:xF O50:=fun p0 p1 r h=>bZ (x:=(p0,p1)) qjr h
theorem qbq:rz O50:=fun p0 p1 r h=>(jg 57 48 2 (by decide) (by decide) _ _).trans (JP p0 p1 r h)
theorem qbs:rh O50:=fun p0 p1 r h=>(jg 58 49 1 (by decide) (by decide) _ _).trans (NG p0 p1 r h)
theorem qb0:qW O50:=fun p0 p1 r h=>(jg 56 47 3 (by decide) (by decide) _ _).trans (Ss p0 p1 r h)
theorem Jx:iH Tryz.prog O51:=aV HG (fun x r h=>iV (ν:=n59) HG Tryz.func59 (by kernel_rfl) iU (QG O50 qbq qbs qb0 R8 x.1 x.2 r h))
theorem qgr: ∀x y,a51 x=a51 y->x=y:=by
 rintro⟨⟨ua1,ua2,ua3,ua4,ua5,ua6⟩,⟨ua7⟩⟩ ⟨⟨ub1,ub2,ub3,ub4,ub5,ub6⟩,⟨ub7⟩⟩ h
 simp only [a51,RI,bc,aZ,iC.map_inj,f5.map_inj] at h
 simp only [h]
theorem qcL:Cu O51:=fun p0 p1 r h=>bZ (x:=(p0,p1)) qgr h
theorem qaE:DV O51:=fun p0 r h=>(jg 55 46 5 (by decide) (by decide) _ _).trans (OG p0 r h)
theorem qdo:qW O51:=fun p0 p1 r h=>(jg 56 47 4 (by decide) (by decide) _ _).trans (Ss p0 p1 r h)
theorem qau:rz O51:=fun p0 p1 r h=>(jg 57 48 3 (by decide) (by decide) _ _).trans (JP p0 p1 r h)
theorem qfx:rh O51:=fun p0 p1 r h=>(jg 58 49 2 (by decide) (by decide) _ _).trans (NG p0 p1 r h)
theorem qaG:xF O51:=fun p0 p1 r h=>(jg 60 50 1 (by decide) (by decide) _ _).trans (R8 p0 p1 r h)
theorem Jp:iH Tryz.prog O52:=aV Jx (fun x r h=>iV (ν:=n28) Jx Tryz.func28 (by kernel_rfl) iU (GB O51 qaE qdo qau qfx qcL qaG x r h))
theorem qdl:wV O52:=fun p0 r h=>bZ (x:=p0) RR h
theorem Iq:iH Tryz.prog O53:=aV Jp (fun x r h=>Mx.Sem.frozen (PL (ν:=n40) (aW Jp) Tryz.func40 (by kernel_rfl) (Nat.le_of_ble_eq_true (by kernel_rfl)) (Dw _ x r h)) rfl)
theorem YN: ∀x y,a53 x=a53 y->x=y:=by
 rintro ua1 ub1 h
 simp only [a53,RI,bc] at h
 exact h
theorem Zq:vo O53:=fun p0 r h=>bZ (x:=p0) YN h
theorem I7:iH Tryz.prog O54:=aV Iq (fun x r h=>by
 obtain⟨d,S,h1,h2,h3⟩:=Sc O53 x.1 x.2 r h
 have h4:=Mx.Sem.frozen (iV (ν:=n96) Iq Tryz.func96 (by kernel_rfl) iU h1) h2
 obtain⟨e1,e2⟩:=Prod.mk.inj h3
 rw [e1] at h4;rw [e2] at h4;exact h4)
theorem qhX: ∀x y,a54 x=a54 y->x=y:=by
 rintro⟨ua1,⟨ua2,ua3⟩⟩ ⟨ub1,⟨ub2,ub3⟩⟩ h
 simp only [a54,RI,bc] at h
 simp only [h]
theorem Ns:xP O54:=fun p0 p1 r h=>bZ (x:=(p0,p1)) qhX h
theorem If:iH Tryz.prog O55:=aV I7 (fun x r h=>iV (ν:=n61) I7 Tryz.func61 (by kernel_rfl) iU (OK O54 Ns x r h))
theorem LT: ∀x y,a55 x=a55 y->x=y:=by
 rintro⟨ua1,ua2⟩ ⟨ub1,ub2⟩ h
 simp only [a55,RI,bc] at h
 simp only [h]
theorem DN:m8 O55:=fun p0 r h=>bZ (x:=p0) LT h
theorem qdd:xP O55:=fun p0 p1 r h=>(jg 96 54 1 (by decide) (by decide) _ _).trans (Ns p0 p1 r h)
theorem Ji:iH Tryz.prog O56:=aV If (fun x r h=>iV (ν:=n67) If Tryz.func67 (by kernel_rfl) iU (Rl O55 qdd x r h))
theorem zc:lD O56:=fun p0 r h=>bZ (x:=p0) LT h
theorem qa6:xP O56:=fun p0 p1 r h=>(jg 96 54 2 (by decide) (by decide) _ _).trans (Ns p0 p1 r h)
theorem HA:iH Tryz.prog O57:=aV Ji (fun x r h=>iV (ν:=n64) Ji Tryz.func64 (by kernel_rfl) iU (SN O56 zc qa6 x r h))
theorem BT:pN O57:=fun p0 r h=>bZ (x:=p0) LT h
theorem JB:iH Tryz.prog O58:=aV HA (fun x r h=>iV (ν:=n97) HA Tryz.func97 (by kernel_rfl) iU (Gu O57 BT x.1 x.2 r h))
theorem YU: ∀x y,a58 x=a58 y->x=y:=by
 rintro⟨⟨ua1,ua2⟩,⟨ua3,ua4,ua5,ua6,ua7,ua8⟩⟩ ⟨⟨ub1,ub2⟩,⟨ub3,ub4,ub5,ub6,ub7,ub8⟩⟩ h
 simp only [a58,RI,bc,aZ,iC.map_inj,f5.map_inj] at h
 simp only [h]
theorem qdh:xk O58:=fun p0 p1 r h=>bZ (x:=(p0,p1)) YU h
theorem ZV:lD O58:=fun p0 r h=>(jg 67 56 2 (by decide) (by decide) _ _).trans (zc p0 r h)
theorem Hs:iH Tryz.prog O59:=aV JB (fun x r h=>iV (ν:=n62) JB Tryz.func62 (by kernel_rfl) iU (zr O58 ZV qdh x.1 x.2 r h))
theorem qje: ∀x y,a59 x=a59 y->x=y:=by
 rintro⟨⟨ua1,ua2⟩,⟨ua3,ua4,ua5,ua6,ua7,ua8⟩⟩ ⟨⟨ub1,ub2⟩,⟨ub3,ub4,ub5,ub6,ub7,ub8⟩⟩ h
 simp only [a59,RI,bc,aZ,iC.map_inj,f5.map_inj] at h
 simp only [h]
theorem qd1:q9 O59:=fun p0 p1 r h=>bZ (x:=(p0,p1)) qje h
theorem qcE:pN O59:=fun p0 r h=>(jg 64 57 2 (by decide) (by decide) _ _).trans (BT p0 r h)
theorem HS:iH Tryz.prog O60:=aV Hs (fun x r h=>iV (ν:=n99) Hs Tryz.func99 (by kernel_rfl) iU (Gk O59 qcE x.1 x.2 r h))
theorem qfF: ∀x y,a60 x=a60 y->x=y:=by
 rintro⟨⟨ua1,ua2⟩,ua3⟩ ⟨⟨ub1,ub2⟩,ub3⟩ h
 simp only [a60,RI,bc,aZ] at h
 simp only [h]
theorem ZQ:xq O60:=fun p0 p1 r h=>bZ (x:=(p0,p1)) qfF h
theorem ZX:lD O60:=fun p0 r h=>(jg 67 56 4 (by decide) (by decide) _ _).trans (zc p0 r h)
theorem Hk:iH Tryz.prog O61:=aV HS (fun x r h=>iV (ν:=n62) HS Tryz.func62 (by kernel_rfl) iU (zz O60 ZX ZQ x.1 x.2 r h))
theorem qjp: ∀x y,a61 x=a61 y->x=y:=by
 rintro⟨⟨ua1,ua2⟩,ua3⟩ ⟨⟨ub1,ub2⟩,ub3⟩ h
 simp only [a61,RI,bc,aZ] at h
 simp only [h]
theorem qbg:u6 O61:=fun p0 p1 r h=>bZ (x:=(p0,p1)) qjp h
theorem Hb:iH Tryz.prog O62:=aV Hk (fun x r h=>iV (ν:=n68) Hk Tryz.func68 (by kernel_rfl) iU (QR O61 qbg x r h))
theorem Td:xQ O62:=fun p0 r h=>bZ (x:=p0) LT h
theorem qe8:pN O62:=fun p0 r h=>(jg 64 57 5 (by decide) (by decide) _ _).trans (BT p0 r h)
theorem qel:m8 O62:=fun p0 r h=>(jg 61 55 7 (by decide) (by decide) _ _).trans (DN p0 r h)
theorem Jg:iH Tryz.prog O63:=aV Hb (fun x r h=>iV (ν:=n98) Hb Tryz.func98 (by kernel_rfl) iU (GD O62 qe8 qel x.1 x.2 r h))
theorem qeM:wW O63:=fun p0 p1 r h=>bZ (x:=(p0,p1)) YU h
theorem Zk:lD O63:=fun p0 r h=>(jg 67 56 7 (by decide) (by decide) _ _).trans (zc p0 r h)
theorem IU:iH Tryz.prog O64:=aV Jg (fun x r h=>iV (ν:=n62) Jg Tryz.func62 (by kernel_rfl) iU (zG O63 Zk qeM x.1 x.2 r h))
theorem qh4: ∀x y,a64 x=a64 y->x=y:=by
 rintro⟨⟨ua1,ua2⟩,⟨ua3,ua4,ua5,ua6,ua7,ua8⟩⟩ ⟨⟨ub1,ub2⟩,⟨ub3,ub4,ub5,ub6,ub7,ub8⟩⟩ h
 simp only [a64,RI,bc,aZ,iC.map_inj,f5.map_inj] at h
 simp only [h]
theorem qaF:u7 O64:=fun p0 p1 r h=>bZ (x:=(p0,p1)) qh4 h
theorem Y6:lD O64:=fun p0 r h=>(jg 67 56 8 (by decide) (by decide) _ _).trans (zc p0 r h)
theorem qe1:pN O64:=fun p0 r h=>(jg 64 57 7 (by decide) (by decide) _ _).trans (BT p0 r h)
theorem qbN:m8 O64:=fun p0 r h=>(jg 61 55 9 (by decide) (by decide) _ _).trans (DN p0 r h)
theorem qcr:q9 O64:=fun p0 p1 r h=>(show O64 62 _ _=O63 62 _ _ from yw (by intro x hx;simp [a64] at hx)).trans ((jg 62 61 2 (by decide) (by decide) _ _).trans ((show O61 62 _ _=O60 62 _ _ from yw (by intro x hx;simp [a61] at hx)).trans ((jg 62 59 1 (by decide) (by decide) _ _).trans (qd1 p0 p1 r h))))
theorem qej:xQ O64:=fun p0 r h=>(jg 68 62 2 (by decide) (by decide) _ _).trans (Td p0 r h)
theorem Ia:iH Tryz.prog O65:=aV IU (fun x r h=>iV (ν:=n65) IU Tryz.func65 (by kernel_rfl) iU (QB O64 Y6 qe1 qbN qcr qej qaF x r h))
theorem qci:I3 O65:=fun p0 r h=>bZ (x:=p0) LT h
theorem qb7:pN O65:=fun p0 r h=>(jg 64 57 8 (by decide) (by decide) _ _).trans (BT p0 r h)
theorem qd4:m8 O65:=fun p0 r h=>(jg 61 55 10 (by decide) (by decide) _ _).trans (DN p0 r h)
theorem Jt:iH Tryz.prog O66:=aV Ia (fun x r h=>iV (ν:=n63) Ia Tryz.func63 (by kernel_rfl) iU (A7 O65 qb7 qci qd4 x.1 x.2 r h))
theorem qge: ∀x y,a66 x=a66 y->x=y:=by
 rintro⟨⟨ua1,ua2⟩,⟨⟨ua3,ua4⟩,ua5,ua6⟩⟩ ⟨⟨ub1,ub2⟩,⟨⟨ub3,ub4⟩,ub5,ub6⟩⟩ h
 simp only [a66,RI,bc,gi.map_inj,cc.map_inj] at h
 simp only [h]
theorem qeV:tS O66:=fun p0 p1 r h=>bZ (x:=(p0,p1)) qge h
theorem qcQ:lD O66:=fun p0 r h=>(jg 67 56 10 (by decide) (by decide) _ _).trans (zc p0 r h)
theorem Iu:iH Tryz.prog O67:=aV Jt (fun x r h=>iV (ν:=n62) Jt Tryz.func62 (by kernel_rfl) iU (xg O66 qcQ qeV x.1 x.2 r h))
theorem qkW: ∀x y,a67 x=a67 y->x=y:=by
 rintro⟨⟨ua1,ua2⟩,⟨⟨ua3,ua4⟩,ua5,ua6⟩⟩ ⟨⟨ub1,ub2⟩,⟨⟨ub3,ub4⟩,ub5,ub6⟩⟩ h
 simp only [a67,RI,bc,gi.map_inj,cc.map_inj] at h
 simp only [h]
theorem qb4:ou O67:=fun p0 p1 r h=>bZ (x:=(p0,p1)) qkW h
theorem qbC:m8 O67:=fun p0 r h=>(jg 61 55 12 (by decide) (by decide) _ _).trans (DN p0 r h)
theorem qem:lD O67:=fun p0 r h=>(jg 67 56 11 (by decide) (by decide) _ _).trans (zc p0 r h)
theorem Zx:pN O67:=fun p0 r h=>(jg 64 57 10 (by decide) (by decide) _ _).trans (BT p0 r h)
theorem qcP:xQ O67:=fun p0 r h=>(jg 68 62 5 (by decide) (by decide) _ _).trans (Td p0 r h)
theorem IE:iH Tryz.prog O68:=aV Iu (fun x r h=>iV (ν:=n66) Iu Tryz.func66 (by kernel_rfl) iU (Bj O67 qbC qem Zx qcP x.1 x.2 r h))
theorem qfT: ∀x y,a68 x=a68 y->x=y:=by
 rintro⟨⟨ua1,ua2⟩,⟨⟨ua3,ua4⟩,ua5,ua6⟩⟩ ⟨⟨ub1,ub2⟩,⟨⟨ub3,ub4⟩,ub5,ub6⟩⟩ h
 simp only [a68,RI,bc,gi.map_inj,cc.map_inj] at h
 simp only [h]
theorem qeh:tL O68:=fun p0 p1 r h=>bZ (x:=(p0,p1)) qfT h
theorem qa0:lD O68:=fun p0 r h=>(jg 67 56 12 (by decide) (by decide) _ _).trans (zc p0 r h)
theorem Hu:iH Tryz.prog O69:=aV IE (fun x r h=>iV (ν:=n62) IE Tryz.func62 (by kernel_rfl) iU (w3 O68 qa0 qeh x.1 x.2 r h))
theorem qgQ: ∀x y,a69 x=a69 y->x=y:=by
 rintro⟨⟨ua1,ua2⟩,⟨⟨ua3,ua4⟩,ua5,ua6⟩⟩ ⟨⟨ub1,ub2⟩,⟨⟨ub3,ub4⟩,ub5,ub6⟩⟩ h
 simp only [a69,RI,bc,gi.map_inj,cc.map_inj] at h
 simp only [h]
theorem qfn:oj O69:=fun p0 p1 r h=>bZ (x:=(p0,p1)) qgQ h
theorem It:iH Tryz.prog O70:=aV Hu (fun x r h=>iV (ν:=n69) Hu Tryz.func69 (by kernel_rfl) iU (Wa O69 x.1 x.2 r h))
theorem qid: ∀x y,a70 x=a70 y->x=y:=by
 rintro⟨ua1,⟨ua2,ua3⟩⟩ ⟨ub1,⟨ub2,ub3⟩⟩ h
 simp only [a70,RI,bc] at h
 simp only [h]
theorem qcF:PB O70:=fun p0 p1 r h=>bZ (x:=(p0,p1)) qid h
theorem Y8:vo O70:=fun p0 r h=>(jg 40 53 17 (by decide) (by decide) _ _).trans (Zq p0 r h)
theorem qeE:m8 O70:=fun p0 r h=>(jg 61 55 15 (by decide) (by decide) _ _).trans (DN p0 r h)
theorem qfw:ou O70:=fun p0 p1 r h=>(jg 62 69 1 (by decide) (by decide) _ _).trans ((show O69 62 _ _=O68 62 _ _ from yw (by intro x hx;simp [a69] at hx)).trans ((jg 62 67 1 (by decide) (by decide) _ _).trans (qb4 p0 p1 r h)))
theorem qbL:oj O70:=fun p0 p1 r h=>(jg 62 69 1 (by decide) (by decide) _ _).trans (qfn p0 p1 r h)
theorem qeY:DV O70:=fun p0 r h=>(jg 55 46 24 (by decide) (by decide) _ _).trans (OG p0 r h)
theorem ID:iH Tryz.prog O71:=aV It (fun x r h=>iV (ν:=n29) It Tryz.func29 (by kernel_rfl) iU (Gp O70 Y8 qeE qfw qbL qcF qeY x r h))
theorem qeA:w5 O71:=fun p0 r h=>bZ (x:=p0) YN h
theorem Ha:iH Tryz.prog O72:=aV ID (fun x r h=>PL (ν:=n30) (aW ID) Tryz.func30 (by kernel_rfl) (Nat.le_of_ble_eq_true (by kernel_rfl)) (GJ _ x r h))
theorem qgP: ∀x y,a72 x=a72 y->x=y:=by
 rintro ua1 ub1 h
 simp only [a72,RI,iE.map_inj] at h
 exact h
theorem NT:og O72:=fun p0 r h=>bZ (x:=p0) qgP h
theorem IG:iH Tryz.prog O73:=aV Ha (fun x r h=>iV (ν:=Vp) Ha Tryz.func107 (by kernel_rfl) iU (Dt O72 x r h))
theorem qdu:vD O73:=fun p0 r h=>bZ (x:=p0) IP h
theorem qfl:sh O73:=fun p0 r h=>(jg 120 15 58 (by decide) (by decide) _ _).trans (Um p0 r h)
theorem qaO:lh O73:=fun p0 r h=>(jg 121 11 62 (by decide) (by decide) _ _).trans (Ej p0 r h)
theorem qeb:qi O73:=fun p0 r h=>(jg 122 22 51 (by decide) (by decide) _ _).trans (OP p0 r h)
theorem I9:iH Tryz.prog O74:=aV IG (fun x r h=>iV (ν:=xD) IG Tryz.func108 (by kernel_rfl) iU (JS O73 qfl qaO qeb x r h))
theorem YH: ∀x y,a74 x=a74 y->x=y:=by
 rintro⟨ua1,ua2,ua3,ua4,ua5⟩ ⟨ub1,ub2,ub3,ub4,ub5⟩ h
 simp only [a74,RI] at h
 simp only [h]
theorem qbV:Bc O74:=fun p0 r h=>bZ (x:=p0) YH h
theorem qdJ:vD O74:=fun p0 r h=>(jg 107 73 1 (by decide) (by decide) _ _).trans (qdu p0 r h)
theorem HR:iH Tryz.prog O75:=aV I9 (fun x r h=>iV (ν:=n91) I9 Tryz.func91 (by kernel_rfl) iU (Rz O74 qdJ qbV x r h))
theorem YW: ∀x y,a75 x=a75 y->x=y:=by
 rintro⟨ua1,ua2,⟨ua3,ua4,ua5,ua6,ua7⟩⟩ ⟨ub1,ub2,⟨ub3,ub4,ub5,ub6,ub7⟩⟩ h
 simp only [a75,RI] at h
 simp only [h]
theorem qbj:Ju O75:=fun p0 r h=>bZ (x:=p0) YW h
theorem Io:iH Tryz.prog O76:=aV HR (fun x r h=>iV (ν:=n49) HR Tryz.func49 (by kernel_rfl) iU (Cd O75 qbj x r h))
theorem Yf: ∀x y,a76 x=a76 y->x=y:=by
 rintro⟨ua1,ua2,ua3,⟨ua4,ua5,⟨ua6,ua7,ua8,ua9,ua10⟩⟩⟩ ⟨ub1,ub2,ub3,⟨ub4,ub5,⟨ub6,ub7,ub8,ub9,ub10⟩⟩⟩ h
 simp only [a76,RI] at h
 simp only [h]
theorem U5:m0 O76:=fun p0 r h=>bZ (x:=p0) Yf h
theorem IW:iH Tryz.prog O77:=aV Io (fun x r h=>iV (ν:=n52) Io Tryz.func52 (by kernel_rfl) iU (EW O76 U5 x r h))
theorem G9: ∀x y,a77 x=a77 y->x=y:=by
 rintro⟨ua1,ua2,ua3⟩ ⟨ub1,ub2,ub3⟩ h
 simp only [a77,RI,iE.map_inj] at h
 simp only [h]
theorem KM:kW O77:=fun p0 r h=>bZ (x:=p0) G9 h
theorem G8:iH Tryz.prog O78:=aV IW (fun x r h=>iV (ν:=n93) IW Tryz.func93 (by kernel_rfl) iU (Gw O77 x.1 x.2 r h))
theorem Mz: ∀x y,a78 x=a78 y->x=y:=by
 rintro⟨⟨ua1,ua2,ua3⟩,ua4⟩ ⟨⟨ub1,ub2,ub3⟩,ub4⟩ h
 simp only [a78,RI,iE.map_inj] at h
 simp only [h]
theorem Un:uO O78:=fun p0 p1 r h=>bZ (x:=(p0,p1)) Mz h
theorem qcn:kW O78:=fun p0 r h=>(jg 52 77 1 (by decide) (by decide) _ _).trans (KM p0 r h)
theorem HT:iH Tryz.prog O79:=aV G8 (fun x r h=>iV (ν:=n53) G8 Tryz.func53 (by kernel_rfl) iU (FU O78 qcn Un x.1 x.2 r h))
theorem qco:xa O79:=fun p0 p1 r h=>bZ (x:=(p0,p1)) Mz h
theorem qdS:kW O79:=fun p0 r h=>(jg 52 77 2 (by decide) (by decide) _ _).trans (KM p0 r h)
theorem ZN:uO O79:=fun p0 p1 r h=>(jg 93 78 1 (by decide) (by decide) _ _).trans (Un p0 p1 r h)
theorem qa3:og O79:=fun p0 r h=>(jg 30 72 7 (by decide) (by decide) _ _).trans (NT p0 r h)
theorem IN:iH Tryz.prog O80:=aV HT (fun x r h=>iV (ν:=n54) HT Tryz.func54 (by kernel_rfl) iU (GN O79 qdS ZN qa3 x.1 x.2 r h))
theorem qcX:Au O80:=fun p0 p1 r h=>bZ (x:=(p0,p1)) Mz h
theorem qa2:xa O80:=fun p0 p1 r h=>(jg 53 79 1 (by decide) (by decide) _ _).trans (qco p0 p1 r h)
theorem Hx:iH Tryz.prog O81:=aV IN (fun x r h=>by
 obtain⟨d,S,h1,h2,h3⟩:=M7 O80 qa2 qcX x.1 x.2 r h
 have h4:=Mx.Sem.frozen (iV (ν:=n27) IN Tryz.func27 (by kernel_rfl) iU h1) h2
 obtain⟨e1,e2⟩:=Prod.mk.inj h3
 rw [e1] at h4;rw [e2] at h4;exact h4)
theorem Y0: ∀x y,a81 x=a81 y->x=y:=by
 rintro⟨⟨ua1,ua2,ua3⟩,⟨ua4,ua5,⟨⟨ua6,ua7⟩,ua8,ua9⟩⟩⟩ ⟨⟨ub1,ub2,ub3⟩,⟨ub4,ub5,⟨⟨ub6,ub7⟩,ub8,ub9⟩⟩⟩ h
 simp only [a81,RI,iE.map_inj,gi.map_inj,cc.map_inj] at h
 simp only [h]
theorem qdN:tm O81:=fun p0 p1 r h=>bZ (x:=(p0,p1)) Y0 h
theorem Ig:iH Tryz.prog O82:=aV Hx (fun x r h=>iV (ν:=n47) Hx Tryz.func47 (by kernel_rfl) iU (GT O81 x r h))
theorem qew:uU O82:=fun p0 r h=>bZ (x:=p0) SQ h
theorem Jy:iH Tryz.prog O83:=aV Ig (fun x r h=>iV (ν:=n48) Ig Tryz.func48 (by kernel_rfl) iU (GA O82 x r h))
theorem Tn:sq O83:=fun p0 r h=>bZ (x:=p0) IP h
theorem qfq:DV O83:=fun p0 r h=>(jg 55 46 37 (by decide) (by decide) _ _).trans (OG p0 r h)
theorem Jq:iH Tryz.prog O84:=aV Jy (fun x r h=>iV (ν:=n50) Jy Tryz.func50 (by kernel_rfl) iU (BP O83 Tn qfq x r h))
theorem qcY:xT O84:=fun p0 r h=>bZ (x:=p0) SQ h
theorem qer:uU O84:=fun p0 r h=>(jg 47 82 2 (by decide) (by decide) _ _).trans (qew p0 r h)
theorem qbc:sq O84:=fun p0 r h=>(jg 48 83 1 (by decide) (by decide) _ _).trans (Tn p0 r h)
theorem qbH:m0 O84:=fun p0 r h=>(jg 49 76 8 (by decide) (by decide) _ _).trans (U5 p0 r h)
theorem Ir:iH Tryz.prog O85:=aV Jq (fun x r h=>iV (ν:=n25) Jq Tryz.func25 (by kernel_rfl) iU (JT O84 qer qbc qbH qcY x r h))
theorem qdK:vQ O85:=fun p0 r h=>bZ (x:=p0) qaA h
theorem Ic:iH Tryz.prog O86:=aV Ir (fun x r h=>iV (ν:=n92) Ir Tryz.func92 (by kernel_rfl) iU (Gz O85 x r h))
theorem qa1:Ay O86:=fun p0 r h=>bZ (x:=p0) G9 h
theorem qam:kW O86:=fun p0 r h=>(jg 52 77 9 (by decide) (by decide) _ _).trans (KM p0 r h)
theorem Is:iH Tryz.prog O87:=aV Ic (fun x r h=>iV (ν:=n51) Ic Tryz.func51 (by kernel_rfl) iU (GE O86 qam qa1 x r h))
theorem qc8:AC O87:=fun p0 r h=>bZ (x:=p0) G9 h
theorem qc2:og O87:=fun p0 r h=>(jg 30 72 15 (by decide) (by decide) _ _).trans (NT p0 r h)
theorem qaq:kW O87:=fun p0 r h=>(jg 52 77 10 (by decide) (by decide) _ _).trans (KM p0 r h)
theorem HP:iH Tryz.prog O88:=aV Is (fun x r h=>iV (ν:=n26) Is Tryz.func26 (by kernel_rfl) iU (MY O87 qc8 qc2 qaq x.1 x.2.1 x.2.2 r h))
theorem qgf: ∀x y,a88 x=a88 y->x=y:=by
 rintro⟨⟨ua1,ua2,ua3⟩,ua4,⟨ua5,ua6,ua7,⟨ua8,ua9,⟨ua10,ua11,ua12,ua13,ua14⟩⟩⟩⟩ ⟨⟨ub1,ub2,ub3⟩,ub4,⟨ub5,ub6,ub7,⟨ub8,ub9,⟨ub10,ub11,ub12,ub13,ub14⟩⟩⟩⟩ h
 simp only [a88,RI,iE.map_inj] at h
 simp only [h]
theorem qc9:zf O88:=fun p0 p1 p2 r h=>bZ (x:=(p0,p1,p2)) qgf h
theorem qgL:AO O88:=fun  r h=>(jg 24 9 79 (by decide) (by decide) _ _).trans (qlJ  r h)
theorem qak:wV O88:=fun p0 r h=>(jg 28 52 36 (by decide) (by decide) _ _).trans (qdl p0 r h)
theorem qaU:w5 O88:=fun p0 r h=>(jg 29 71 17 (by decide) (by decide) _ _).trans (qeA p0 r h)
theorem qcd:og O88:=fun p0 r h=>(jg 30 72 16 (by decide) (by decide) _ _).trans (NT p0 r h)
theorem ZU:tm O88:=fun p0 p1 r h=>(jg 27 81 7 (by decide) (by decide) _ _).trans (qdN p0 p1 r h)
theorem ZB:vQ O88:=fun p0 r h=>(jg 25 85 3 (by decide) (by decide) _ _).trans (qdK p0 r h)
theorem Jc:iH Tryz.prog O89:=aV HP (fun x r h=>iV (ν:=n11) HP Tryz.func11 (by kernel_rfl) iU (M5 O88 qgL qak qaU qcd ZU ZB qc9 x r h))
theorem qeR:zH O89:=fun p0 r h=>bZ (x:=p0) qaW h
theorem HF:iH Tryz.prog O90:=aV Jc (fun x r h=>iV (ν:=n70) Jc Tryz.func70 (by kernel_rfl) iU (BU O89 r h))
theorem qa9:xM O90:=fun  r h=>bZ (x:=()) WS h
theorem HC:iH Tryz.prog O91:=aV HF (fun x r h=>iV (ν:=n31) HF Tryz.func31 (by kernel_rfl) iU (FP O90 qa9 r h))
theorem qaM:w8 O91:=fun  r h=>bZ (x:=()) WS h
theorem qix:sc O91:=fun p0 r h=>(jg 77 2 89 (by decide) (by decide) _ _).trans (qhV p0 r h)
theorem qgt:ql O91:=fun p0 r h=>(jg 78 3 88 (by decide) (by decide) _ _).trans (qiV p0 r h)
theorem Jw:iH Tryz.prog O92:=aV HC (fun x r h=>iV (ν:=n36) HC Tryz.func36 (by kernel_rfl) iU (Dx O91 qix qgt x r h))
theorem Y9:vu O92:=fun p0 r h=>bZ (x:=p0) RR h
theorem Hv:iH Tryz.prog O93:=aV Jw (fun x r h=>iV (ν:=n37) Jw Tryz.func37 (by kernel_rfl) iU (M4 O92 x r h))
theorem qd6:zN O93:=fun p0 r h=>bZ (x:=p0) G9 h
theorem Js:iH Tryz.prog O94:=aV Hv (fun x r h=>iV (ν:=n33) Hv Tryz.func33 (by kernel_rfl) iU (OR O93 x r h))
theorem Ob:qK O94:=fun p0 r h=>bZ (x:=p0) G9 h
theorem H6:iH Tryz.prog O95:=aV Js (fun x r h=>iV (ν:=n75) Js Tryz.func75 (by kernel_rfl) iU (OW O94 Ob x.1 x.2 r h))
theorem Us:v8 O95:=fun p0 p1 r h=>bZ (x:=(p0,p1)) Mz h
theorem IX:iH Tryz.prog O96:=aV H6 (fun x r h=>iV (ν:=n42) H6 Tryz.func42 (by kernel_rfl) iU (qeW O95 x.1 x.2.1 x.2.2 r h))
theorem qkL: ∀x y,a96 x=a96 y->x=y:=by
 rintro⟨ua1,ua2,ua3⟩ ⟨ub1,ub2,ub3⟩ h
 simp only [a96,RI] at h
 simp only [h]
theorem wg:kF O96:=fun p0 p1 p2 r h=>bZ (x:=(p0,p1,p2)) qkL h
theorem Jv:iH Tryz.prog O97:=aV IX (fun x r h=>iV (ν:=n73) IX Tryz.func73 (by kernel_rfl) iU (Gy O96 wg x r h))
theorem EM:jZ O97:=fun p0 r h=>bZ (x:=p0) IP h
theorem Y4:kF O97:=fun p0 p1 p2 r h=>(jg 42 96 1 (by decide) (by decide) _ _).trans (wg p0 p1 p2 r h)
theorem Hq:iH Tryz.prog O98:=aV Jv (fun x r h=>iV (ν:=U7) Jv Tryz.func116 (by kernel_rfl) iU (KK O97 Y4 x r h))
theorem Of:ln O98:=fun p0 r h=>bZ (x:=p0) HI h
theorem HN:iH Tryz.prog O99:=aV Hq (fun x r h=>iV (ν:=Xs) Hq Tryz.func118 (by kernel_rfl) iU (Mv O98 x r h))
theorem NP:kN O99:=fun p0 r h=>bZ (x:=p0) HI h
theorem Y7:kF O99:=fun p0 p1 p2 r h=>(jg 42 96 3 (by decide) (by decide) _ _).trans (wg p0 p1 p2 r h)
theorem Ef:iH Tryz.prog Gr:=aV HN (fun x r h=>iV (ν:=Wk) HN Tryz.func119 (by kernel_rfl) iU (Kf O99 Y7 x r h))
theorem EY:pF Gr:=fun p0 r h=>bZ (x:=p0) IP h
theorem W0:kF Gr:=fun p0 p1 p2 r h=>(jg 42 96 4 (by decide) (by decide) _ _).trans (wg p0 p1 p2 r h)
theorem Wv:ln Gr:=fun p0 r h=>(jg 116 98 2 (by decide) (by decide) _ _).trans (Of p0 r h)
theorem Wx:kN Gr:=fun p0 r h=>(jg 118 99 1 (by decide) (by decide) _ _).trans (NP p0 r h)
theorem Ec:iH Tryz.prog Nd:=aV Ef (fun x r h=>iV (ν:=AS) Ef Tryz.func112 (by kernel_rfl) iU (Ch Gr W0 Wv Wx EY x r h))
theorem So:xJ Nd:=fun p0 r h=>bZ (x:=p0) YH h
theorem X1:jZ Nd:=fun p0 r h=>(jg 73 97 4 (by decide) (by decide) _ _).trans (EM p0 r h)
theorem DQ:iH Tryz.prog KX:=aV Ec (fun x r h=>iV (ν:=OL) Ec Tryz.func100 (by kernel_rfl) iU (G5 Nd X1 So x r h))
theorem TZ:Av KX:=fun p0 r h=>bZ (x:=p0) YW h
theorem Xn:jZ KX:=fun p0 r h=>(jg 73 97 5 (by decide) (by decide) _ _).trans (EM p0 r h)
theorem V5:kF KX:=fun p0 p1 p2 r h=>(jg 42 96 6 (by decide) (by decide) _ _).trans (wg p0 p1 p2 r h)
theorem Fw:iH Tryz.prog L9:=aV DQ (fun x r h=>iV (ν:=n74) DQ Tryz.func74 (by kernel_rfl) iU (Gb KX Xn V5 TZ x r h))
theorem LU:sg L9:=fun p0 r h=>bZ (x:=p0) Yf h
theorem XN:kF L9:=fun p0 p1 p2 r h=>(jg 42 96 7 (by decide) (by decide) _ _).trans (wg p0 p1 p2 r h)
theorem EG:iH Tryz.prog J3:=aV Fw (fun x r h=>iV (ν:=n34) Fw Tryz.func34 (by kernel_rfl) iU (KI L9 XN LU x r h))
theorem LG:tF J3:=fun p0 r h=>bZ (x:=p0) G9 h
theorem Vh:v8 J3:=fun p0 p1 r h=>(jg 75 95 9 (by decide) (by decide) _ _).trans (Us p0 p1 r h)
theorem XZ:qK J3:=fun p0 r h=>(jg 33 94 10 (by decide) (by decide) _ _).trans (Ob p0 r h)
theorem DU:iH Tryz.prog Lq:=aV EG (fun x r h=>iV (ν:=n76) EG Tryz.func76 (by kernel_rfl) iU (Mn J3 LG Vh XZ x.1 x.2 r h))
theorem T7:Di Lq:=fun p0 p1 r h=>bZ (x:=(p0,p1)) Mz h
theorem VN:v8 Lq:=fun p0 p1 r h=>(jg 75 95 10 (by decide) (by decide) _ _).trans (Us p0 p1 r h)
theorem EK:iH Tryz.prog ND:=aV DU (fun x r h=>by
 obtain⟨d,S,h1,h2,h3⟩:=OA Lq VN T7 x.1 x.2 r h
 have h4:=Mx.Sem.frozen (iV (ν:=n35) DU Tryz.func35 (by kernel_rfl) iU h1) h2
 obtain⟨e1,e2⟩:=Prod.mk.inj h3
 rw [e1] at h4;rw [e2] at h4;exact h4)
theorem UB:uH ND:=fun p0 p1 r h=>bZ (x:=(p0,p1)) Y0 h
theorem FD:iH Tryz.prog OV:=aV EK (fun x r h=>iV (ν:=n71) EK Tryz.func71 (by kernel_rfl) iU (FS ND x r h))
theorem Ud:uY OV:=fun p0 r h=>bZ (x:=p0) SQ h
theorem FB:iH Tryz.prog Oj:=aV FD (fun x r h=>iV (ν:=Rt) FD Tryz.func138 (by kernel_rfl) iU (OC OV x r h))
theorem UN:ye Oj:=fun p0 r h=>bZ (x:=p0) Up h
theorem EI:iH Tryz.prog Ox:=aV FB (fun x r h=>iV (ν:=Nv) FB Tryz.func139 (by kernel_rfl) iU (DL Oj x.1 x.2 r h))
theorem R7:tP Ox:=fun p0 p1 r h=>bZ (x:=(p0,p1)) YY h
theorem D5:iH Tryz.prog CI:=aV EI (fun x r h=>iV (ν:=Kc) EI Tryz.func140 (by kernel_rfl) iU (Kr Ox x.1 x.2 r h))
theorem S8:yF CI:=fun p0 p1 r h=>bZ (x:=(p0,p1)) X7 h
theorem XQ:kF CI:=fun p0 p1 p2 r h=>(jg 42 96 14 (by decide) (by decide) _ _).trans (wg p0 p1 p2 r h)
theorem Sb:ye CI:=fun p0 r h=>(jg 138 108 2 (by decide) (by decide) _ _).trans (UN p0 r h)
theorem WD:kN CI:=fun p0 r h=>(jg 118 99 11 (by decide) (by decide) _ _).trans (NP p0 r h)
theorem Sg:pF CI:=fun p0 r h=>(jg 119 100 10 (by decide) (by decide) _ _).trans (EY p0 r h)
theorem Wd:ln CI:=fun p0 r h=>(jg 116 98 12 (by decide) (by decide) _ _).trans (Of p0 r h)
theorem ST:tP CI:=fun p0 p1 r h=>(jg 139 109 1 (by decide) (by decide) _ _).trans (R7 p0 p1 r h)
theorem Ff:iH Tryz.prog Kn:=aV D5 (fun x r h=>iV (ν:=qt) D5 Tryz.func117 (by kernel_rfl) iU (EZ CI XQ Sb WD Sg Wd ST S8 x r h))
theorem Uj:tV Kn:=fun p0 r h=>bZ (x:=p0) Up h
theorem Wb:kF Kn:=fun p0 p1 p2 r h=>(jg 42 96 15 (by decide) (by decide) _ _).trans (wg p0 p1 p2 r h)
theorem Wt:ln Kn:=fun p0 r h=>(jg 116 98 13 (by decide) (by decide) _ _).trans (Of p0 r h)
theorem Fn:iH Tryz.prog GU:=aV Ff (fun x r h=>iV (ν:=y6) Ff Tryz.func105 (by kernel_rfl) iU (FC Kn Wb Wt Uj x r h))
theorem R6:tW GU:=fun p0 r h=>bZ (x:=p0) qcN h
theorem V0:kF GU:=fun p0 p1 p2 r h=>(jg 42 96 16 (by decide) (by decide) _ _).trans (wg p0 p1 p2 r h)
theorem W9:kN GU:=fun p0 r h=>(jg 118 99 13 (by decide) (by decide) _ _).trans (NP p0 r h)
theorem Sm:pF GU:=fun p0 r h=>(jg 119 100 12 (by decide) (by decide) _ _).trans (EY p0 r h)
theorem FJ:iH Tryz.prog GZ:=aV Fn (fun x r h=>iV (ν:=GM) Fn Tryz.func106 (by kernel_rfl) iU (Eh GU V0 W9 Sm x r h))
theorem TX:tY GZ:=fun p0 r h=>bZ (x:=p0) qbB h
theorem Uf:tW GZ:=fun p0 r h=>(jg 105 112 1 (by decide) (by decide) _ _).trans (R6 p0 r h)
theorem VC:kF GZ:=fun p0 p1 p2 r h=>(jg 42 96 17 (by decide) (by decide) _ _).trans (wg p0 p1 p2 r h)
theorem VQ:jZ GZ:=fun p0 r h=>(jg 73 97 16 (by decide) (by decide) _ _).trans (EM p0 r h)
theorem Ez:iH Tryz.prog MI:=aV FJ (fun x r h=>iV (ν:=n90) FJ Tryz.func90 (by kernel_rfl) iU (Cn GZ Uf VC VQ TX x r h))
theorem TF:xH MI:=fun p0 r h=>bZ (x:=p0) RR h
theorem VV:jZ MI:=fun p0 r h=>(jg 73 97 17 (by decide) (by decide) _ _).trans (EM p0 r h)
theorem DO:iH Tryz.prog EX:=aV Ez (fun x r h=>iV (ν:=n72) Ez Tryz.func72 (by kernel_rfl) iU (FT MI VV TF x r h))
theorem SH:AA EX:=fun p0 r h=>bZ (x:=p0) SQ h
theorem Vz:kF EX:=fun p0 p1 p2 r h=>(jg 42 96 19 (by decide) (by decide) _ _).trans (wg p0 p1 p2 r h)
theorem SD:uY EX:=fun p0 r h=>(jg 71 107 8 (by decide) (by decide) _ _).trans (Ud p0 r h)
theorem VU:jZ EX:=fun p0 r h=>(jg 73 97 18 (by decide) (by decide) _ _).trans (EM p0 r h)
theorem T2:sg EX:=fun p0 r h=>(jg 74 103 12 (by decide) (by decide) _ _).trans (LU p0 r h)
theorem DK:iH Tryz.prog Cr:=aV DO (fun x r h=>iV (ν:=n32) DO Tryz.func32 (by kernel_rfl) iU (Dz EX Vz SD SH VU T2 x r h))
theorem TL:vC Cr:=fun p0 r h=>bZ (x:=p0) qaA h
theorem XW:w8 Cr:=fun  r h=>(jg 31 91 25 (by decide) (by decide) _ _).trans (qaM  r h)
theorem WK:vu Cr:=fun p0 r h=>(jg 36 92 24 (by decide) (by decide) _ _).trans (Y9 p0 r h)
theorem WP:zN Cr:=fun p0 r h=>(jg 37 93 23 (by decide) (by decide) _ _).trans (qd6 p0 r h)
theorem Ta:uH Cr:=fun p0 p1 r h=>(jg 35 106 10 (by decide) (by decide) _ _).trans (UB p0 p1 r h)
theorem Vo:qK Cr:=fun p0 r h=>(jg 33 94 22 (by decide) (by decide) _ _).trans (Ob p0 r h)
theorem U4:tF Cr:=fun p0 r h=>(jg 34 104 12 (by decide) (by decide) _ _).trans (LG p0 r h)
theorem FM:iH Tryz.prog NU:=aV DK (fun x r h=>iV (ν:=n12) DK Tryz.func12 (by kernel_rfl) iU (EF Cr XW WK WP Ta TL Vo U4 x r h))
theorem Ua:wA NU:=fun p0 r h=>bZ (x:=p0) qaW h
theorem EH:iH Tryz.prog Oq:=aV FM (fun x r h=>iV (ν:=Gs) FM Tryz.func114 (by kernel_rfl) iU (GF NU x.1 x.2 r h))
theorem Zi: ∀x y,VA x=VA y->x=y:=by
 rintro⟨ua1,ua2⟩ ⟨ub1,ub2⟩ h
 simp only [VA,RI,aZ] at h
 simp only [h]
theorem LB:qe Oq:=fun p0 p1 r h=>bZ (x:=(p0,p1)) Zi h
theorem Ei:iH Tryz.prog OE:=aV EH (fun x r h=>iV (ν:=zL) EH Tryz.func113 (by kernel_rfl) iU (FR Oq LB x.1 x.2 r h))
theorem qaQ: ∀x y,Xb x=Xb y->x=y:=by
 rintro⟨⟨ua1,ua2,ua3,ua4,ua5,ua6⟩,⟨ua7,ua8,ua9,ua10,ua11,ua12⟩⟩ ⟨⟨ub1,ub2,ub3,ub4,ub5,ub6⟩,⟨ub7,ub8,ub9,ub10,ub11,ub12⟩⟩ h
 simp only [Xb,RI,aZ,iC.map_inj,f5.map_inj] at h
 simp only [h]
theorem UV:uN OE:=fun p0 p1 r h=>bZ (x:=(p0,p1)) qaQ h
theorem Fq:iH Tryz.prog Lt:=aV Ei (fun x r h=>iV (ν:=Ct) Ei Tryz.func102 (by kernel_rfl) iU (G4 OE UV x.1 x.2 r h))
theorem Zn: ∀x y,Wg x=Wg y->x=y:=by
 rintro⟨⟨ua1,ua2⟩,⟨ua3,ua4⟩⟩ ⟨⟨ub1,ub2⟩,⟨ub3,ub4⟩⟩ h
 simp only [Wg,RI,gi.map_inj] at h
 simp only [h]
theorem Uy:uZ Lt:=fun p0 p1 r h=>bZ (x:=(p0,p1)) Zn h
theorem TY:qe Lt:=fun p0 p1 r h=>(jg 114 118 2 (by decide) (by decide) _ _).trans (LB p0 p1 r h)
theorem D3:iH Tryz.prog Mf:=aV Fq (fun x r h=>iV (ν:=L3) Fq Tryz.func103 (by kernel_rfl) iU (GV Lt TY x.1 x.2 r h))
theorem qcR: ∀x y,Wp x=Wp y->x=y:=by
 rintro⟨⟨ua1,ua2,ua3,ua4⟩,⟨ua5,ua6,ua7,ua8⟩⟩ ⟨⟨ub1,ub2,ub3,ub4⟩,⟨ub5,ub6,ub7,ub8⟩⟩ h
 simp only [Wp,RI,aZ] at h
 simp only [h]
theorem Tu:uX Mf:=fun p0 p1 r h=>bZ (x:=(p0,p1)) qcR h
theorem SY:uZ Mf:=fun p0 p1 r h=>(jg 102 120 1 (by decide) (by decide) _ _).trans (Uy p0 p1 r h)
theorem D9:iH Tryz.prog Nn:=aV D3 (fun x r h=>iV (ν:=n79) D3 Tryz.func79 (by kernel_rfl) iU (Dl Mf SY Tu x.1 x.2 r h))
theorem qca: ∀x y,Xv x=Xv y->x=y:=by
 rintro⟨⟨⟨ua1,ua2⟩,ua3,ua4⟩,⟨⟨ua5,ua6⟩,ua7,ua8⟩⟩ ⟨⟨⟨ub1,ub2⟩,ub3,ub4⟩,⟨⟨ub5,ub6⟩,ub7,ub8⟩⟩ h
 simp only [Xv,RI,gi.map_inj,cc.map_inj] at h
 simp only [h]
theorem Se:vz Nn:=fun p0 p1 r h=>bZ (x:=(p0,p1)) qca h
theorem DM:iH Tryz.prog N1:=aV D9 (fun x r h=>iV (ν:=n38) D9 Tryz.func38 (by kernel_rfl) iU (Km Nn Se x.1 x.2 r h))
theorem qed: ∀x y,VR x=VR y->x=y:=by
 rintro⟨⟨ua1,ua2,⟨⟨ua3,ua4⟩,ua5,ua6⟩⟩,⟨ua7,ua8,⟨⟨ua9,ua10⟩,ua11,ua12⟩⟩⟩ ⟨⟨ub1,ub2,⟨⟨ub3,ub4⟩,ub5,ub6⟩⟩,⟨ub7,ub8,⟨⟨ub9,ub10⟩,ub11,ub12⟩⟩⟩ h
 simp only [VR,RI,gi.map_inj,cc.map_inj] at h
 simp only [h]
theorem LX:pu N1:=fun p0 p1 r h=>bZ (x:=(p0,p1)) qed h
theorem Ee:iH Tryz.prog OU:=aV DM (fun x r h=>iV (ν:=n80) DM Tryz.func80 (by kernel_rfl) iU (FX N1 x.1 x.2 r h))
theorem qdB: ∀x y,Xo x=Xo y->x=y:=by
 rintro⟨ua1,ua2⟩ ⟨ub1,ub2⟩ h
 simp only [Xo,RI,iE.map_inj] at h
 simp only [h]
theorem TO:w7 OU:=fun p0 p1 r h=>bZ (x:=(p0,p1)) qdB h
theorem Fc:iH Tryz.prog Lz:=aV Ee (fun x r h=>iV (ν:=n39) Ee Tryz.func39 (by kernel_rfl) iU (LI OU TO x.1 x.2 r h))
theorem qcb: ∀x y,V4 x=V4 y->x=y:=by
 rintro⟨⟨ua1,ua2,ua3⟩,⟨ua4,ua5,ua6⟩⟩ ⟨⟨ub1,ub2,ub3⟩,⟨ub4,ub5,ub6⟩⟩ h
 simp only [V4,RI,iE.map_inj] at h
 simp only [h]
theorem R9:zd Lz:=fun p0 p1 r h=>bZ (x:=(p0,p1)) qcb h
theorem Uc:pu Lz:=fun p0 p1 r h=>(jg 38 123 2 (by decide) (by decide) _ _).trans (LX p0 p1 r h)
theorem Ew:iH Tryz.prog Mk:=aV Fc (fun x r h=>iV (ν:=n13) Fc Tryz.func13 (by kernel_rfl) iU (KJ Lz Uc R9 x.1 x.2 r h))
theorem Z8: ∀x y,X0 x=X0 y->x=y:=by
 rintro⟨⟨ua1,ua2,⟨ua3,ua4,⟨⟨ua5,ua6⟩,ua7,ua8⟩⟩,⟨ua9,ua10,ua11⟩⟩,⟨ua12,ua13,⟨ua14,ua15,⟨⟨ua16,ua17⟩,ua18,ua19⟩⟩,⟨ua20,ua21,ua22⟩⟩⟩ ⟨⟨ub1,ub2,⟨ub3,ub4,⟨⟨ub5,ub6⟩,ub7,ub8⟩⟩,⟨ub9,ub10,ub11⟩⟩,⟨ub12,ub13,⟨ub14,ub15,⟨⟨ub16,ub17⟩,ub18,ub19⟩⟩,⟨ub20,ub21,ub22⟩⟩⟩ h
 simp only [X0,RI,iE.map_inj,gi.map_inj,cc.map_inj] at h
 simp only [h]
theorem TQ:vU Mk:=fun p0 p1 r h=>bZ (x:=(p0,p1)) Z8 h
theorem UI:pu Mk:=fun p0 p1 r h=>(jg 38 123 3 (by decide) (by decide) _ _).trans (LX p0 p1 r h)
theorem ED:iH Tryz.prog Od:=aV Ew (fun x r h=>iV (ν:=n22) Ew Tryz.func22 (by kernel_rfl) iU (FE Mk UI x.1 x.2 r h))
theorem qdp: ∀x y,X2 x=X2 y->x=y:=by
 rintro⟨⟨ua1,ua2,ua3,ua4,⟨ua5,ua6,ua7,⟨ua8,ua9,⟨ua10,ua11,ua12,ua13,ua14⟩⟩⟩,⟨ua15,ua16,⟨⟨ua17,ua18⟩,ua19,ua20⟩⟩⟩,⟨ua21,ua22,ua23,ua24,⟨ua25,ua26,ua27,⟨ua28,ua29,⟨ua30,ua31,ua32,ua33,ua34⟩⟩⟩,⟨ua35,ua36,⟨⟨ua37,ua38⟩,ua39,ua40⟩⟩⟩⟩ ⟨⟨ub1,ub2,ub3,ub4,⟨ub5,ub6,ub7,⟨ub8,ub9,⟨ub10,ub11,ub12,ub13,ub14⟩⟩⟩,⟨ub15,ub16,⟨⟨ub17,ub18⟩,ub19,ub20⟩⟩⟩,⟨ub21,ub22,ub23,ub24,⟨ub25,ub26,ub27,⟨ub28,ub29,⟨ub30,ub31,ub32,ub33,ub34⟩⟩⟩,⟨ub35,ub36,⟨⟨ub37,ub38⟩,ub39,ub40⟩⟩⟩⟩ h
 simp only [X2,RI,gi.map_inj,cc.map_inj] at h
 simp only [h]
theorem S6:wC Od:=fun p0 p1 r h=>bZ (x:=(p0,p1)) qdp h
theorem Ny:iH Tryz.prog JW:=aV ED (fun x r h=>iV (ν:=n8) ED Tryz.func8 (by kernel_rfl) iU (Ds Od S6 x.1 x.2 r h))
theorem qbe: ∀x y,WE x=WE y->x=y:=by
 rintro⟨ua1,ua2⟩ ⟨ub1,ub2⟩ h
 simp only [WE,RI,bi.map_inj] at h
 simp only [h]
theorem Th:vv JW:=fun p0 p1 r h=>bZ (x:=(p0,p1)) qbe h
theorem qdw:wX JW:=fun p0 r h=>(jg 10 7 121 (by decide) (by decide) _ _).trans (qlc p0 r h)
theorem WH:zH JW:=fun p0 r h=>(jg 11 89 39 (by decide) (by decide) _ _).trans (qeR p0 r h)
theorem R4:wA JW:=fun p0 r h=>(jg 12 117 11 (by decide) (by decide) _ _).trans (Ua p0 r h)
theorem U1:vU JW:=fun p0 p1 r h=>(jg 13 126 2 (by decide) (by decide) _ _).trans (TQ p0 p1 r h)
theorem sem (rs:List (List V)) (h:eC Tryz.prog [26] rs):Mx.Sem Tryz.prog 4 (fD Tryz.prog [26] rs) [] (.v (.b true)) []:=by
 obtain⟨r0,_,rfl,a0,b0⟩:=eC.cons h
 obtain rfl:=eC.nil b0
 obtain⟨l0,j0,rfl,o0,q0⟩:=dB (n:=20) (m:=216) Tryz.underlying26 (by kernel_rfl) (by kernel_rfl) a0
 obtain⟨x0,rfl,p0⟩:=dU (f:=bi.row) (ok:=fun y=>y.ok) (fun r hr=>bi.of62 (q0 r hr))
 rw [List.length_map] at o0
 simp only [fD,N0 Tryz.underlying26]
 exact iV (ν:=n4) Ny Tryz.func4 (by kernel_rfl) iU (Gt JW qdw WH R4 U1 Th x0 true (Fy x0 ⟨o0,p0⟩))
end CTapeFolds
end Go.Proofs.YtgcglmoogaldbaaGreat
