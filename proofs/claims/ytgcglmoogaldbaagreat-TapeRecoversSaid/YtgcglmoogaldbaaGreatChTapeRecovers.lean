/- The chain of contracts of the law TapeRecovers, over the functions that it reaches. -/
import Derived.Test.YtgcglmoogaldbaaGreatTapeRecoversZa
import Derived.Test.YtgcglmoogaldbaaGreatTapeRecoversZc
import Derived.Test.YtgcglmoogaldbaaGreatTapeRecoversZb
import Derived.Test.YtgcglmoogaldbaaGreatTapeRecoversZe
import Derived.Test.YtgcglmoogaldbaaGreatTapeRecoversZd
import Derived.Test.YtgcglmoogaldbaaGreatTapeRecoversD
import Derived.Test.YtgcglmoogaldbaaGreatTapeRecoversP
set_option linter.unusedSimpArgs false
set_option linter.unusedVariables false
set_option linter.constructorNameAsVariable false
set_option linter.unnecessarySimpa false
set_option maxRecDepth 100000
namespace Go.Proofs.YtgcglmoogaldbaaGreat
open Go Go.Mx Go.Proofs
namespace CTapeRecovers
theorem ZF {P:Program} {t e:TypeId} {x:V} (hu:P.underlying t=some (.slice e)):ET P t [x]= .v x:=by simp only [ET,hu]
theorem qgU {P:Program} {t:TypeId} {x:V} (hu:P.underlying t=some .string):ET P t [x]= .v x:=by simp only [ET,hu]
def a1 (x:(List Int)):List D×bH:=([.v (.sl 1 (ah cE x))],[])
noncomputable def O1:aj:=aj.addF noC 14 a1 (fun x=>uD x) (fun _ (r:(List Int))=>(.v (.sl 1 (ah cE r)),[]))
def a2 (x:iY):List D×bH:=([.agg [.v (.sl 1 (ah cE x.iW)),.v (.i .i64 x.iP)]],[])
noncomputable def O2:aj:=aj.addF O1 5 a2 (fun x=>vK x) (fun _ (r:iY)=>(.agg [.v (.sl 1 (ah cE r.iW)),.v (.i .i64 r.iP)],[]))
noncomputable def O3:aj:=aj.addF O2 40 a1 (fun x=>tz x) (fun _ (r:(List Int))=>(.own 1 (ah cE r),[]))
noncomputable def O4:aj:=aj.addF O3 15 a2 (fun x=>vM x) (fun _ (r:iY×Bool)=>(.tup [.agg [.v (.sl 1 (ah cE r.1.iW)),.v (.i .i64 r.1.iP)],.v (.b r.2)],[]))
noncomputable def O5:aj:=aj.addF O4 16 a1 (fun x=>kx x) (fun _ (r:Int)=>(.v (.i .i64 r),[]))
def a6 (x:i5):List D×bH:=([.agg [.v (.i .i64 x.iT),.v (.i .i64 x.iI),.v (.i .i64 x.iu.af.iL),.v (.sl 8 (ah ip.row x.iu.af.bi)),.v (.i .i64 x.iu.iG),.v (.sl 7 (ah gi.row x.iu.bz))]],[])
noncomputable def O6:aj:=aj.addF O5 47 a6 (fun x=>tp x) (fun _ (r:Bool)=>(.v (.b r),[]))
def a7 (x:Int):List D×bH:=([.v (.i .i64 x)],[])
noncomputable def O7:aj:=aj.addF O6 48 a7 (fun x=>tf x) (fun _ (r:Bool)=>(.v (.b r),[]))
noncomputable def O8:aj:=aj.addF O7 107 a7 (fun x=>qD x) (fun _ (r:Bool)=>(.v (.b r),[]))
def a9 (x:ByteArray):List D×bH:=([.v (.s x)],[])
noncomputable def O9:aj:=aj.addF O8 120 a9 (fun x=>tu x) (fun _ (r:Bool)=>(.v (.b r),[]))
noncomputable def O10:aj:=aj.addF O9 121 a9 (fun x=>uE x) (fun _ (r:Bool)=>(.v (.b r),[]))
noncomputable def O11:aj:=aj.addF O10 122 a7 (fun x=>tm x) (fun _ (r:Bool)=>(.v (.b r),[]))
def a12 (x:iB):List D×bH:=([.agg [.v (.i .i64 x.bt),.v (.s x.iU),.v (.s x.iE),.v (.s x.iq),.v (.i .i64 x.fN)]],[])
noncomputable def O12:aj:=aj.addF O11 108 a12 (fun x=>wc x) (fun _ (r:Int)=>(.v (.i .i64 r),[]))
def a13 (x:i8):List D×bH:=([.agg [.v (.i .i64 x.iO),.v (.i .i64 x.je),.v (.i .i64 x.ad.bt),.v (.s x.ad.iU),.v (.s x.ad.iE),.v (.s x.ad.iq),.v (.i .i64 x.ad.fN)]],[])
noncomputable def O13:aj:=aj.addF O12 91 a13 (fun x=>Bd x) (fun _ (r:Int)=>(.v (.i .i64 r),[]))
def a14 (x:iV):List D×bH:=([.agg [.v (.i .i64 x.iI),.v (.i .i64 x.iS),.v (.b x.jY),.v (.i .i64 x.cO.iO),.v (.i .i64 x.cO.je),.v (.i .i64 x.cO.ad.bt),.v (.s x.cO.ad.iU),.v (.s x.cO.ad.iE),.v (.s x.cO.ad.iq),.v (.i .i64 x.cO.ad.fN)]],[])
noncomputable def O14:aj:=aj.addF O13 49 a14 (fun x=>rm x) (fun _ (r:Int)=>(.v (.i .i64 r),[]))
def a15 (x:iy):List D×bH:=([.agg [.v (.i .i64 x.bt),.v (.s x.iq),.v (.i .i64 x.iF),.v (.sl 2 (ah iD.row x.iA)),.v (.sl 1 (ah bY x.iC)),.v (.sl 2 (ah im.row x.il))]],[])
noncomputable def O15:aj:=aj.addF O14 123 a15 (fun x=>rC x) (fun _ (r:Int)=>(.v (.i .i64 r),[]))
noncomputable def O16:aj:=aj.addF O15 124 a9 (fun x=>zD x) (fun _ (r:Bool)=>(.v (.b r),[]))
def a17 (x:(List ByteArray)):List D×bH:=([.v (.sl 1 (ah bY x)),.clo 124 []],[])
noncomputable def O17:aj:=aj.addF O16 137 a17 (fun x=>ur x) (fun _ (r:Int)=>(.v (.i .i64 r),[]))
noncomputable def O18:aj:=aj.addF O17 110 a17 (fun x=>sX x) (fun _ (r:Bool)=>(.v (.b r),[]))
def a19 (x:iD):List D×bH:=([.agg [.v (.s x.iE),.v (.s x.iq)]],[])
noncomputable def O19:aj:=aj.addF O18 126 a19 (fun x=>zp x) (fun _ (r:Bool)=>(.v (.b r),[]))
def a20 (x:(List iD)):List D×bH:=([.v (.sl 2 (ah iD.row x)),.clo 126 []],[])
noncomputable def O20:aj:=aj.addF O19 141 a20 (fun x=>uu x) (fun _ (r:Int)=>(.v (.i .i64 r),[]))
noncomputable def O21:aj:=aj.addF O20 125 a20 (fun x=>sW x) (fun _ (r:Bool)=>(.v (.b r),[]))
def a22 (x:im):List D×bH:=([.agg [.v (.s x.iZ),.v (.i .i64 x.fN)]],[])
noncomputable def O22:aj:=aj.addF O21 128 a22 (fun x=>zk x) (fun _ (r:Bool)=>(.v (.b r),[]))
def a23 (x:(List im)):List D×bH:=([.v (.sl 2 (ah im.row x)),.clo 128 []],[])
noncomputable def O23:aj:=aj.addF O22 142 a23 (fun x=>ul x) (fun _ (r:Int)=>(.v (.i .i64 r),[]))
noncomputable def O24:aj:=aj.addF O23 127 a23 (fun x=>sV x) (fun _ (r:Bool)=>(.v (.b r),[]))
noncomputable def O25:aj:=aj.addF O24 129 a22 (fun x=>zq x) (fun _ (r:Bool)=>(.v (.b r),[]))
def a26 (x:(List im)):List D×bH:=([.v (.sl 2 (ah im.row x)),.clo 129 []],[])
noncomputable def O26:aj:=aj.addF O25 142 a26 (fun x=>uF x) (fun _ (r:Int)=>(.v (.i .i64 r),[]))
noncomputable def O27:aj:=aj.addF O26 127 a26 (fun x=>ta x) (fun _ (r:Bool)=>(.v (.b r),[]))
def a28 (x:ByteArray×ByteArray):List D×bH:=([.v (.s x.1),.v (.s x.2)],[])
noncomputable def O28:aj:=aj.addF O27 148 a28 (fun x=>BP x.1 x.2) (fun _ (r:Int)=>(.v (.i .i64 r),[]))
noncomputable def O29:aj:=aj.addF O28 145 a28 (fun x=>qt x.1 x.2) (fun _ (r:Int)=>(.v (.i .i64 r),[]))
noncomputable def O30:aj:=aj.addF O29 135 a28 (fun x=>qp x.1 x.2) (fun _ (r:Int)=>(.v (.i .i64 r),[]))
def a31 (x:iD×iD):List D×bH:=([.agg [.v (.s x.1.iE),.v (.s x.1.iq)],.agg [.v (.s x.2.iE),.v (.s x.2.iq)]],[])
noncomputable def O31:aj:=aj.addF O30 131 a31 (fun x=>sB x.1 x.2) (fun _ (r:Int)=>(.v (.i .i64 r),[]))
def a32 (x:(List iD)):List D×bH:=([.v (.sl 2 (ah iD.row x)),.clo 131 []],[])
noncomputable def O32:aj:=aj.addF O31 130 a32 (fun x=>jy x) (fun _ (r:Bool)=>(.v (.b r),[]))
noncomputable def O33:aj:=aj.addF O32 147 a7 (fun x=>qF x) (fun _ (r:Bool)=>(.v (.b r),[]))
def a34 (x:Int×Int):List D×bH:=([.v (.i .i64 x.1),.v (.i .i64 x.2)],[])
noncomputable def O34:aj:=aj.addF O33 144 a34 (fun x=>qw x.1 x.2) (fun _ (r:Int)=>(.v (.i .i64 r),[]))
def a35 (x:(List Int)):List D×bH:=([.v (.sl 1 (ah xc x))],[])
noncomputable def O35:aj:=aj.addF O34 143 a35 (fun x=>te x) (fun _ (r:Int)=>(.v (.i .i64 r),[]))
def a36 (x:im×im):List D×bH:=([.agg [.v (.s x.1.iZ),.v (.i .i64 x.1.fN)],.agg [.v (.s x.2.iZ),.v (.i .i64 x.2.fN)]],[])
noncomputable def O36:aj:=aj.addF O35 133 a36 (fun x=>oS x.1 x.2) (fun _ (r:Int)=>(.v (.i .i64 r),[]))
def a37 (x:(List im)):List D×bH:=([.v (.sl 2 (ah im.row x)),.clo 133 []],[])
noncomputable def O37:aj:=aj.addF O36 132 a37 (fun x=>jv x) (fun _ (r:Bool)=>(.v (.b r),[]))
def a38 (x:(List ByteArray)):List D×bH:=([.v (.sl 1 (ah bY x)),.clo 135 []],[])
noncomputable def O38:aj:=aj.addF O37 134 a38 (fun x=>jk x) (fun _ (r:Bool)=>(.v (.b r),[]))
def a39 (x:im×ByteArray):List D×bH:=([.agg [.v (.s x.1.iZ),.v (.i .i64 x.1.fN)],.ptr 0 0],[[.v (.s x.2)]])
noncomputable def O39:aj:=aj.addF O38 146 a39 (fun x=>pP x.1 x.2) (fun _ (r:Bool×ByteArray)=>(.v (.b r.1),[[.v (.s r.2)]]))
def a40 (x:(List im)×ByteArray):List D×bH:=([.v (.sl 2 (ah im.row x.1)),.clo 146 [.ptr 0 0]],[[.v (.s x.2)]])
noncomputable def O40:aj:=aj.addF O39 142 a40 (fun x=>mN x.1 x.2) (fun _ (r:Int×ByteArray)=>(.v (.i .i64 r.1),[[.v (.s r.2)]]))
def a41 (x:(List im)×ByteArray):List D×bH:=([.v (.sl 2 (ah im.row x.1)),.v (.s x.2)],[])
noncomputable def O41:aj:=aj.addF O40 136 a41 (fun x=>tb x.1 x.2) (fun _ (r:Int)=>(.v (.i .i64 r),[]))
noncomputable def O42:aj:=aj.addF O41 109 a15 (fun x=>vaC x) (fun _ (r:Int)=>(.v (.i .i64 r),[]))
def a43 (x:iN):List D×bH:=([.agg [.v (.i .i64 x.iL),.v (.sl 8 (ah ip.row x.bi))]],[])
noncomputable def O43:aj:=aj.addF O42 94 a43 (fun x=>rn x) (fun _ (r:Int)=>(.v (.i .i64 r),[]))
noncomputable def O44:aj:=aj.addF O43 111 a9 (fun x=>rV x) (fun _ (r:Bool)=>(.v (.b r),[]))
def a45 (x:(List ByteArray)):List D×bH:=([.v (.sl 1 (ah bY x)),.clo 111 []],[])
noncomputable def O45:aj:=aj.addF O44 137 a45 (fun x=>ol x) (fun _ (r:Int)=>(.v (.i .i64 r),[]))
noncomputable def O46:aj:=aj.addF O45 110 a45 (fun x=>m9 x) (fun _ (r:Bool)=>(.v (.b r),[]))
def a47 (x:jf):List D×bH:=([.agg [.v (.i .i64 x.jW),.v (.s x.iq),.v (.i .i64 x.fN),.v (.sl 1 (ah bY x.jH))]],[])
noncomputable def O47:aj:=aj.addF O46 95 a47 (fun x=>wo x) (fun _ (r:Int)=>(.v (.i .i64 r),[]))
def a48 (x:iv):List D×bH:=([.agg [.v (.i .i64 x.af.iL),.v (.sl 8 (ah ip.row x.af.bi)),.v (.i .i64 x.iG),.v (.sl 7 (ah gi.row x.bz))]],[])
noncomputable def O48:aj:=aj.addF O47 55 a48 (fun x=>clC x) (fun _ (r:Int)=>(.v (.i .i64 r),[]))
noncomputable def O49:aj:=aj.addF O48 50 a6 (fun x=>nH x) (fun _ (r:Int)=>(.v (.i .i64 r),[]))
def a50 (x:iw):List D×bH:=([.agg [.v (.i .i64 x.bt),.v (.i .i64 x.iI),.v (.i .i64 x.lz),.v (.i .i64 x.iT),.v (.i .i64 x.iz.iI),.v (.i .i64 x.iz.iS),.v (.b x.iz.jY),.v (.i .i64 x.iz.cO.iO),.v (.i .i64 x.iz.cO.je),.v (.i .i64 x.iz.cO.ad.bt),.v (.s x.iz.cO.ad.iU),.v (.s x.iz.cO.ad.iE),.v (.s x.iz.cO.ad.iq),.v (.i .i64 x.iz.cO.ad.fN),.v (.i .i64 x.iH.iT),.v (.i .i64 x.iH.iI),.v (.i .i64 x.iH.iu.af.iL),.v (.sl 8 (ah ip.row x.iH.iu.af.bi)),.v (.i .i64 x.iH.iu.iG),.v (.sl 7 (ah gi.row x.iH.iu.bz))]],[])
noncomputable def O50:aj:=aj.addF O49 25 a50 (fun x=>mr x) (fun _ (r:Int)=>(.v (.i .i64 r),[]))
def a51 (x:Int×ir):List D×bH:=([.ptr 0 0,.v (.i .i64 x.1)],[[.v (.sl 1 (ah cE x.2.frest)),.v (.b x.2.fshort)]])
noncomputable def O51:aj:=aj.addF O50 96 a51 (fun x=>qW x.1 x.2) (fun _ (r:(List Int)×ir)=>(.v (.sl 1 (ah cE r.1)),[[.v (.sl 1 (ah cE r.2.frest)),.v (.b r.2.fshort)]]))
def a52 (x:ir):List D×bH:=([.ptr 0 0],[[.v (.sl 1 (ah cE x.frest)),.v (.b x.fshort)]])
noncomputable def O52:aj:=aj.addF O51 61 a52 (fun x=>kz x) (fun _ (r:Int×ir)=>(.v (.i .i64 r.1),[[.v (.sl 1 (ah cE r.2.frest)),.v (.b r.2.fshort)]]))
noncomputable def O53:aj:=aj.addF O52 67 a52 (fun x=>nn x) (fun _ (r:Int×ir)=>(.v (.i .i64 r.1),[[.v (.sl 1 (ah cE r.2.frest)),.v (.b r.2.fshort)]]))
noncomputable def O54:aj:=aj.addF O53 64 a52 (fun x=>qN x) (fun _ (r:ByteArray×ir)=>(.v (.s r.1),[[.v (.sl 1 (ah cE r.2.frest)),.v (.b r.2.fshort)]]))
noncomputable def O55:aj:=aj.addF O54 115 a52 (fun x=>uh x) (fun _ (r:iB×ir)=>(.agg [.v (.i .i64 r.1.bt),.v (.s r.1.iU),.v (.s r.1.iE),.v (.s r.1.iq),.v (.i .i64 r.1.fN)],[[.v (.sl 1 (ah cE r.2.frest)),.v (.b r.2.fshort)]]))
noncomputable def O56:aj:=aj.addF O55 104 a52 (fun x=>Bz x) (fun _ (r:i8×ir)=>(.agg [.v (.i .i64 r.1.iO),.v (.i .i64 r.1.je),.v (.i .i64 r.1.ad.bt),.v (.s r.1.ad.iU),.v (.s r.1.ad.iE),.v (.s r.1.ad.iq),.v (.i .i64 r.1.ad.fN)],[[.v (.sl 1 (ah cE r.2.frest)),.v (.b r.2.fshort)]]))
noncomputable def O57:aj:=aj.addF O56 81 a52 (fun x=>Ai x) (fun _ (r:iV×Bool×ir)=>(.tup [.agg [.v (.i .i64 r.1.iI),.v (.i .i64 r.1.iS),.v (.b r.1.jY),.v (.i .i64 r.1.cO.iO),.v (.i .i64 r.1.cO.je),.v (.i .i64 r.1.cO.ad.bt),.v (.s r.1.cO.ad.iU),.v (.s r.1.cO.ad.iE),.v (.s r.1.cO.ad.iq),.v (.i .i64 r.1.cO.ad.fN)],.v (.b r.2.1)],[[.v (.sl 1 (ah cE r.2.2.frest)),.v (.b r.2.2.fshort)]]))
def a58 (x:Bool×ir):List D×bH:=([.ptr 0 0,.v (.b x.1)],[[.v (.sl 1 (ah cE x.2.frest)),.v (.b x.2.fshort)]])
noncomputable def O58:aj:=aj.addF O57 69 a58 (fun x=>Ct x.1 x.2) (fun _ (r:Int×ir)=>(.v (.i .i64 r.1),[[.v (.sl 1 (ah cE r.2.frest)),.v (.b r.2.fshort)]]))
noncomputable def O59:aj:=aj.addF O58 41 a1 (fun x=>l5 x) (fun _ (r:iV×Int)=>(.tup [.agg [.v (.i .i64 r.1.iI),.v (.i .i64 r.1.iS),.v (.b r.1.jY),.v (.i .i64 r.1.cO.iO),.v (.i .i64 r.1.cO.je),.v (.i .i64 r.1.cO.ad.bt),.v (.s r.1.cO.ad.iU),.v (.s r.1.cO.ad.iE),.v (.s r.1.cO.ad.iq),.v (.i .i64 r.1.cO.ad.fN)],.v (.i .i64 r.2)],[]))
noncomputable def O60:aj:=aj.addF O59 40 a1 (fun x=>qK x) (fun _ (r:(List Int))=>(.v (.sl 1 (ah cE r)),[]))
def a61 (x:ir×iy):List D×bH:=([.ptr 1 0,.ptr 2 0],[[.v (.sl 1 (ah cE x.1.frest)),.v (.b x.1.fshort)],[.v (.i .i64 x.2.bt),.v (.s x.2.iq),.v (.i .i64 x.2.iF),.own 2 (ah iD.row x.2.iA),.own 1 (ah bY x.2.iC),.own 2 (ah im.row x.2.il)],[.ptr 0 0]])
noncomputable def O61:aj:=aj.addF O60 97 a61 (fun x=>tv x.1 x.2) (fun _ (r:ir×iy)=>(.tup [],[[.v (.sl 1 (ah cE r.1.frest)),.v (.b r.1.fshort)],[.v (.i .i64 r.2.bt),.v (.s r.2.iq),.v (.i .i64 r.2.iF),.own 2 (ah iD.row r.2.iA),.own 1 (ah bY r.2.iC),.own 2 (ah im.row r.2.il)],[.ptr 0 0]]))
def a62 (x:ir×iy):List D×bH:=([.ptr 0 0,.clo 97 [.ptr 1 0,.ptr 2 0]],[[.v (.sl 1 (ah cE x.1.frest)),.v (.b x.1.fshort)],[.v (.i .i64 x.2.bt),.v (.s x.2.iq),.v (.i .i64 x.2.iF),.own 2 (ah iD.row x.2.iA),.own 1 (ah bY x.2.iC),.own 2 (ah im.row x.2.il)],[.ptr 0 0]])
noncomputable def O62:aj:=aj.addF O61 62 a62 (fun x=>lj x.1 x.2) (fun _ (r:ir×iy)=>(.tup [],[[.v (.sl 1 (ah cE r.1.frest)),.v (.b r.1.fshort)],[.v (.i .i64 r.2.bt),.v (.s r.2.iq),.v (.i .i64 r.2.iF),.own 2 (ah iD.row r.2.iA),.own 1 (ah bY r.2.iC),.own 2 (ah im.row r.2.il)],[.ptr 0 0]]))
def a63 (x:ir×(List ByteArray)):List D×bH:=([.ptr 1 0,.ptr 2 0],[[.v (.sl 1 (ah cE x.1.frest)),.v (.b x.1.fshort)],[.own 1 (ah bY x.2)],[.ptr 0 0]])
noncomputable def O63:aj:=aj.addF O62 99 a63 (fun x=>ti x.1 x.2) (fun _ (r:ir×(List ByteArray))=>(.tup [],[[.v (.sl 1 (ah cE r.1.frest)),.v (.b r.1.fshort)],[.own 1 (ah bY r.2)],[.ptr 0 0]]))
def a64 (x:ir×(List ByteArray)):List D×bH:=([.ptr 0 0,.clo 99 [.ptr 1 0,.ptr 2 0]],[[.v (.sl 1 (ah cE x.1.frest)),.v (.b x.1.fshort)],[.own 1 (ah bY x.2)],[.ptr 0 0]])
noncomputable def O64:aj:=aj.addF O63 62 a64 (fun x=>mq x.1 x.2) (fun _ (r:ir×(List ByteArray))=>(.tup [],[[.v (.sl 1 (ah cE r.1.frest)),.v (.b r.1.fshort)],[.own 1 (ah bY r.2)],[.ptr 0 0]]))
noncomputable def O65:aj:=aj.addF O64 68 a52 (fun x=>wD x) (fun _ (r:(List ByteArray)×ir)=>(.own 1 (ah bY r.1),[[.v (.sl 1 (ah cE r.2.frest)),.v (.b r.2.fshort)]]))
noncomputable def O66:aj:=aj.addF O65 98 a61 (fun x=>tq x.1 x.2) (fun _ (r:ir×iy)=>(.tup [],[[.v (.sl 1 (ah cE r.1.frest)),.v (.b r.1.fshort)],[.v (.i .i64 r.2.bt),.v (.s r.2.iq),.v (.i .i64 r.2.iF),.own 2 (ah iD.row r.2.iA),.own 1 (ah bY r.2.iC),.own 2 (ah im.row r.2.il)],[.ptr 0 0]]))
def a67 (x:ir×iy):List D×bH:=([.ptr 0 0,.clo 98 [.ptr 1 0,.ptr 2 0]],[[.v (.sl 1 (ah cE x.1.frest)),.v (.b x.1.fshort)],[.v (.i .i64 x.2.bt),.v (.s x.2.iq),.v (.i .i64 x.2.iF),.own 2 (ah iD.row x.2.iA),.own 1 (ah bY x.2.iC),.own 2 (ah im.row x.2.il)],[.ptr 0 0]])
noncomputable def O67:aj:=aj.addF O66 62 a67 (fun x=>lg x.1 x.2) (fun _ (r:ir×iy)=>(.tup [],[[.v (.sl 1 (ah cE r.1.frest)),.v (.b r.1.fshort)],[.v (.i .i64 r.2.bt),.v (.s r.2.iq),.v (.i .i64 r.2.iF),.own 2 (ah iD.row r.2.iA),.own 1 (ah bY r.2.iC),.own 2 (ah im.row r.2.il)],[.ptr 0 0]]))
noncomputable def O68:aj:=aj.addF O67 65 a52 (fun x=>xH x) (fun _ (r:iy×ir)=>(.agg [.v (.i .i64 r.1.bt),.v (.s r.1.iq),.v (.i .i64 r.1.iF),.own 2 (ah iD.row r.1.iA),.own 1 (ah bY r.1.iC),.own 2 (ah im.row r.1.il)],[[.v (.sl 1 (ah cE r.2.frest)),.v (.b r.2.fshort)]]))
def a69 (x:ir×iv):List D×bH:=([.ptr 1 0,.ptr 2 0],[[.v (.sl 1 (ah cE x.1.frest)),.v (.b x.1.fshort)],[.v (.i .i64 x.2.af.iL),.own 8 (ah ip.row x.2.af.bi),.v (.i .i64 x.2.iG),.own 7 (ah gi.row x.2.bz)],[.ptr 0 0]])
noncomputable def O69:aj:=aj.addF O68 63 a69 (fun x=>oq x.1 x.2) (fun _ (r:ir×iv)=>(.tup [],[[.v (.sl 1 (ah cE r.1.frest)),.v (.b r.1.fshort)],[.v (.i .i64 r.2.af.iL),.own 8 (ah ip.row r.2.af.bi),.v (.i .i64 r.2.iG),.own 7 (ah gi.row r.2.bz)],[.ptr 0 0]]))
def a70 (x:ir×iv):List D×bH:=([.ptr 0 0,.clo 63 [.ptr 1 0,.ptr 2 0]],[[.v (.sl 1 (ah cE x.1.frest)),.v (.b x.1.fshort)],[.v (.i .i64 x.2.af.iL),.own 8 (ah ip.row x.2.af.bi),.v (.i .i64 x.2.iG),.own 7 (ah gi.row x.2.bz)],[.ptr 0 0]])
noncomputable def O70:aj:=aj.addF O69 62 a70 (fun x=>kv x.1 x.2) (fun _ (r:ir×iv)=>(.tup [],[[.v (.sl 1 (ah cE r.1.frest)),.v (.b r.1.fshort)],[.v (.i .i64 r.2.af.iL),.own 8 (ah ip.row r.2.af.bi),.v (.i .i64 r.2.iG),.own 7 (ah gi.row r.2.bz)],[.ptr 0 0]]))
def a71 (x:ir×iv):List D×bH:=([.ptr 1 0,.ptr 2 0],[[.v (.sl 1 (ah cE x.1.frest)),.v (.b x.1.fshort)],[.ptr 0 0],[.v (.i .i64 x.2.af.iL),.own 8 (ah ip.row x.2.af.bi),.v (.i .i64 x.2.iG),.own 7 (ah gi.row x.2.bz)]])
noncomputable def O71:aj:=aj.addF O70 66 a71 (fun x=>oc x.1 x.2) (fun _ (r:ir×iv)=>(.tup [],[[.v (.sl 1 (ah cE r.1.frest)),.v (.b r.1.fshort)],[.ptr 0 0],[.v (.i .i64 r.2.af.iL),.own 8 (ah ip.row r.2.af.bi),.v (.i .i64 r.2.iG),.own 7 (ah gi.row r.2.bz)]]))
def a72 (x:ir×iv):List D×bH:=([.ptr 0 0,.clo 66 [.ptr 1 0,.ptr 2 0]],[[.v (.sl 1 (ah cE x.1.frest)),.v (.b x.1.fshort)],[.ptr 0 0],[.v (.i .i64 x.2.af.iL),.own 8 (ah ip.row x.2.af.bi),.v (.i .i64 x.2.iG),.own 7 (ah gi.row x.2.bz)]])
noncomputable def O72:aj:=aj.addF O71 62 a72 (fun x=>kw x.1 x.2) (fun _ (r:ir×iv)=>(.tup [],[[.v (.sl 1 (ah cE r.1.frest)),.v (.b r.1.fshort)],[.ptr 0 0],[.v (.i .i64 r.2.af.iL),.own 8 (ah ip.row r.2.af.bi),.v (.i .i64 r.2.iG),.own 7 (ah gi.row r.2.bz)]]))
noncomputable def O73:aj:=aj.addF O72 29 a1 (fun x=>ns x) (fun _ (r:iv×Int)=>(.tup [.agg [.v (.i .i64 r.1.af.iL),.v (.sl 8 (ah ip.row r.1.af.bi)),.v (.i .i64 r.1.iG),.v (.sl 7 (ah gi.row r.1.bz))],.v (.i .i64 r.2)],[]))
noncomputable def O74:aj:=aj.addF O73 17 a1 (fun x=>kp x) (fun _ (r:iw×Bool)=>(.tup [.agg [.v (.i .i64 r.1.bt),.v (.i .i64 r.1.iI),.v (.i .i64 r.1.lz),.v (.i .i64 r.1.iT),.v (.i .i64 r.1.iz.iI),.v (.i .i64 r.1.iz.iS),.v (.b r.1.iz.jY),.v (.i .i64 r.1.iz.cO.iO),.v (.i .i64 r.1.iz.cO.je),.v (.i .i64 r.1.iz.cO.ad.bt),.v (.s r.1.iz.cO.ad.iU),.v (.s r.1.iz.cO.ad.iE),.v (.s r.1.iz.cO.ad.iq),.v (.i .i64 r.1.iz.cO.ad.fN),.v (.i .i64 r.1.iH.iT),.v (.i .i64 r.1.iH.iI),.v (.i .i64 r.1.iH.iu.af.iL),.v (.sl 8 (ah ip.row r.1.iH.iu.af.bi)),.v (.i .i64 r.1.iH.iu.iG),.v (.sl 7 (ah gi.row r.1.iH.iu.bz))],.v (.b r.2)],[]))
noncomputable def O75:aj:=aj.addF O74 6 a2 (fun x=>oL x) (fun _ (r:(List iw)×iY×Int)=>(.tup [.v (.sl 20 (ah iw.row r.1)),.agg [.v (.sl 1 (ah cE r.2.1.iW)),.v (.i .i64 r.2.1.iP)],.v (.i .i64 r.2.2)],[]))
def a76 (x:Int×Int×Int):List D×bH:=([.v (.i .i64 x.1),.v (.i .i64 x.2.1),.v (.i .i64 x.2.2)],[])
noncomputable def O76:aj:=aj.addF O75 42 a76 (fun x=>Ok x.1 x.2.1 x.2.2) (fun _ (r:Bool)=>(.v (.b r),[]))
noncomputable def O77:aj:=aj.addF O76 18 a2 (fun x=>vO x) (fun _ (r:Bool)=>(.v (.b r),[]))
def a78 (x:(List Int)):List D×bH:=([.v (.sl 1 (ah cE x)),.v (.sl 0 [])],[])
noncomputable def O78:aj:=aj.addF O77 21 a78 (fun x=>tC x) (fun _ (r:(List Int))=>(.own 1 (ah cE r),[]))
def a79 (x:(List Int)×Int):List D×bH:=([.v (.sl 1 (ah cE x.1)),.v (.i .i64 x.2)],[])
noncomputable def O79:aj:=aj.addF O78 19 a79 (fun x=>kF x.1 x.2) (fun _ (r:Int)=>(.v (.i .i64 r),[]))
noncomputable def O80:aj:=aj.addF O79 71 a6 (fun x=>tt x) (fun _ (r:Bool)=>(.v (.b r),[]))
noncomputable def O81:aj:=aj.addF O80 73 a7 (fun x=>tj x) (fun _ (r:Bool)=>(.v (.b r),[]))
noncomputable def O82:aj:=aj.addF O81 116 a9 (fun x=>um x) (fun _ (r:Bool)=>(.v (.b r),[]))
noncomputable def O83:aj:=aj.addF O82 138 a15 (fun x=>y9 x) (fun _ (r:Int)=>(.v (.i .i64 r),[]))
noncomputable def O84:aj:=aj.addF O83 118 a9 (fun x=>vL x) (fun _ (r:Bool)=>(.v (.b r),[]))
noncomputable def O85:aj:=aj.addF O84 119 a7 (fun x=>uv x) (fun _ (r:Bool)=>(.v (.b r),[]))
noncomputable def O86:aj:=aj.addF O85 139 a36 (fun x=>rY x.1 x.2) (fun _ (r:Bool)=>(.v (.b r),[]))
noncomputable def O87:aj:=aj.addF O86 140 a41 (fun x=>sY x.1 x.2) (fun _ (r:Int)=>(.v (.i .i64 r),[]))
noncomputable def O88:aj:=aj.addF O87 117 a15 (fun x=>qc x) (fun _ (r:Int)=>(.v (.i .i64 r),[]))
noncomputable def O89:aj:=aj.addF O88 105 a43 (fun x=>pZ x) (fun _ (r:Int)=>(.v (.i .i64 r),[]))
noncomputable def O90:aj:=aj.addF O89 106 a47 (fun x=>oK x) (fun _ (r:Int)=>(.v (.i .i64 r),[]))
noncomputable def O91:aj:=aj.addF O90 90 a48 (fun x=>mC x) (fun _ (r:Int)=>(.v (.i .i64 r),[]))
noncomputable def O92:aj:=aj.addF O91 72 a6 (fun x=>rD x) (fun _ (r:Int)=>(.v (.i .i64 r),[]))
noncomputable def O93:aj:=aj.addF O92 112 a12 (fun x=>rv x) (fun _ (r:Int)=>(.v (.i .i64 r),[]))
noncomputable def O94:aj:=aj.addF O93 100 a13 (fun x=>u1 x) (fun _ (r:Int)=>(.v (.i .i64 r),[]))
noncomputable def O95:aj:=aj.addF O94 74 a14 (fun x=>u2 x) (fun _ (r:Int)=>(.v (.i .i64 r),[]))
noncomputable def O96:aj:=aj.addF O95 32 a50 (fun x=>mA x) (fun _ (r:Int)=>(.v (.i .i64 r),[]))
def a97 (x:iK):List D×bH:=([.ptr 0 0],[[.v (.sl 1 (ah cE x.fb)),.v (.i .i64 x.fat)]])
noncomputable def O97:aj:=aj.addF O96 85 a97 (fun x=>jn x) (fun _ (r:Int×iK)=>(.v (.i .i64 r.1),[[.v (.sl 1 (ah cE r.2.fb)),.v (.i .i64 r.2.fat)]]))
noncomputable def O98:aj:=aj.addF O97 84 a97 (fun x=>js x) (fun _ (r:Int×iK)=>(.v (.i .i64 r.1),[[.v (.sl 1 (ah cE r.2.fb)),.v (.i .i64 r.2.fat)]]))
noncomputable def O99:aj:=aj.addF O98 86 a97 (fun x=>jt x) (fun _ (r:Bool×iK)=>(.v (.b r.1),[[.v (.sl 1 (ah cE r.2.fb)),.v (.i .i64 r.2.fat)]]))
noncomputable def ID:aj:=aj.addF O99 87 a97 (fun x=>jJ x) (fun _ (r:ByteArray×iK)=>(.v (.s r.1),[[.v (.sl 1 (ah cE r.2.fb)),.v (.i .i64 r.2.fat)]]))
noncomputable def KJ:aj:=aj.addF ID 82 a97 (fun x=>l7 x) (fun _ (r:iV×Bool×iK)=>(.tup [.agg [.v (.i .i64 r.1.iI),.v (.i .i64 r.1.iS),.v (.b r.1.jY),.v (.i .i64 r.1.cO.iO),.v (.i .i64 r.1.cO.je),.v (.i .i64 r.1.cO.ad.bt),.v (.s r.1.cO.ad.iU),.v (.s r.1.cO.ad.iE),.v (.s r.1.cO.ad.iq),.v (.i .i64 r.1.cO.ad.fN)],.v (.b r.2.1)],[[.v (.sl 1 (ah cE r.2.2.fb)),.v (.i .i64 r.2.2.fat)]]))
def Ue (x:Bool×iK):List D×bH:=([.ptr 0 0,.v (.b x.1)],[[.v (.sl 1 (ah cE x.2.fb)),.v (.i .i64 x.2.fat)]])
noncomputable def Ix:aj:=aj.addF KJ 83 Ue (fun x=>rE x.1 x.2) (fun _ (r:Int×iK)=>(.v (.i .i64 r.1),[[.v (.sl 1 (ah cE r.2.fb)),.v (.i .i64 r.2.fat)]]))
noncomputable def Fl:aj:=aj.addF Ix 43 a1 (fun x=>v7 x) (fun _ (r:iV×Int)=>(.tup [.agg [.v (.i .i64 r.1.iI),.v (.i .i64 r.1.iS),.v (.b r.1.jY),.v (.i .i64 r.1.cO.iO),.v (.i .i64 r.1.cO.je),.v (.i .i64 r.1.cO.ad.bt),.v (.s r.1.cO.ad.iU),.v (.s r.1.cO.ad.iE),.v (.s r.1.cO.ad.iq),.v (.i .i64 r.1.cO.ad.fN)],.v (.i .i64 r.2)],[]))
noncomputable def DQ:aj:=aj.addF Fl 89 a97 (fun x=>pV x) (fun _ (r:(List ByteArray)×iK)=>(.own 1 (ah bY r.1),[[.v (.sl 1 (ah cE r.2.fb)),.v (.i .i64 r.2.fat)]]))
noncomputable def AE:aj:=aj.addF DQ 88 a97 (fun x=>mm x) (fun _ (r:iy×iK)=>(.agg [.v (.i .i64 r.1.bt),.v (.s r.1.iq),.v (.i .i64 r.1.iF),.own 2 (ah iD.row r.1.iA),.own 1 (ah bY r.1.iC),.own 2 (ah im.row r.1.il)],[[.v (.sl 1 (ah cE r.2.fb)),.v (.i .i64 r.2.fat)]]))
noncomputable def Dy:aj:=aj.addF AE 44 a1 (fun x=>rq x) (fun _ (r:iv×Int)=>(.tup [.agg [.v (.i .i64 r.1.af.iL),.v (.sl 8 (ah ip.row r.1.af.bi)),.v (.i .i64 r.1.iG),.v (.sl 7 (ah gi.row r.1.bz))],.v (.i .i64 r.2)],[]))
noncomputable def E7:aj:=aj.addF Dy 20 a1 (fun x=>mp x) (fun _ (r:iw×Bool)=>(.tup [.agg [.v (.i .i64 r.1.bt),.v (.i .i64 r.1.iI),.v (.i .i64 r.1.lz),.v (.i .i64 r.1.iT),.v (.i .i64 r.1.iz.iI),.v (.i .i64 r.1.iz.iS),.v (.b r.1.iz.jY),.v (.i .i64 r.1.iz.cO.iO),.v (.i .i64 r.1.iz.cO.je),.v (.i .i64 r.1.iz.cO.ad.bt),.v (.s r.1.iz.cO.ad.iU),.v (.s r.1.iz.cO.ad.iE),.v (.s r.1.iz.cO.ad.iq),.v (.i .i64 r.1.iz.cO.ad.fN),.v (.i .i64 r.1.iH.iT),.v (.i .i64 r.1.iH.iI),.v (.i .i64 r.1.iH.iu.af.iL),.v (.sl 8 (ah ip.row r.1.iH.iu.af.bi)),.v (.i .i64 r.1.iH.iu.iG),.v (.sl 7 (ah gi.row r.1.iH.iu.bz))],.v (.b r.2)],[]))
noncomputable def L6:aj:=aj.addF E7 7 a2 (fun x=>m8 x) (fun _ (r:(List iw)×iY×Int)=>(.tup [.v (.sl 20 (ah iw.row r.1)),.agg [.v (.sl 1 (ah cE r.2.1.iW)),.v (.i .i64 r.2.1.iP)],.v (.i .i64 r.2.2)],[]))
def Tl (x:(List ByteArray)×(List ByteArray)):List D×bH:=([.v (.sl 1 (ah bY x.1)),.v (.sl 1 (ah bY x.2))],[])
noncomputable def Mg:aj:=aj.addF L6 114 Tl (fun x=>pU x.1 x.2) (fun _ (r:Bool)=>(.v (.b r),[]))
def Tv (x:iy×iy):List D×bH:=([.agg [.v (.i .i64 x.1.bt),.v (.s x.1.iq),.v (.i .i64 x.1.iF),.v (.sl 2 (ah iD.row x.1.iA)),.v (.sl 1 (ah bY x.1.iC)),.v (.sl 2 (ah im.row x.1.il))],.agg [.v (.i .i64 x.2.bt),.v (.s x.2.iq),.v (.i .i64 x.2.iF),.v (.sl 2 (ah iD.row x.2.iA)),.v (.sl 1 (ah bY x.2.iC)),.v (.sl 2 (ah im.row x.2.il))]],[])
noncomputable def MZ:aj:=aj.addF Mg 113 Tv (fun x=>rB x.1 x.2) (fun _ (r:Bool)=>(.v (.b r),[]))
def TU (x:iN×iN):List D×bH:=([.agg [.v (.i .i64 x.1.iL),.v (.sl 8 (ah ip.row x.1.bi))],.agg [.v (.i .i64 x.2.iL),.v (.sl 8 (ah ip.row x.2.bi))]],[])
noncomputable def Lx:aj:=aj.addF MZ 102 TU (fun x=>rF x.1 x.2) (fun _ (r:Bool)=>(.v (.b r),[]))
def T2 (x:jf×jf):List D×bH:=([.agg [.v (.i .i64 x.1.jW),.v (.s x.1.iq),.v (.i .i64 x.1.fN),.v (.sl 1 (ah bY x.1.jH))],.agg [.v (.i .i64 x.2.jW),.v (.s x.2.iq),.v (.i .i64 x.2.fN),.v (.sl 1 (ah bY x.2.jH))]],[])
noncomputable def JU:aj:=aj.addF Lx 103 T2 (fun x=>rA x.1 x.2) (fun _ (r:Bool)=>(.v (.b r),[]))
def SX (x:iv×iv):List D×bH:=([.agg [.v (.i .i64 x.1.af.iL),.v (.sl 8 (ah ip.row x.1.af.bi)),.v (.i .i64 x.1.iG),.v (.sl 7 (ah gi.row x.1.bz))],.agg [.v (.i .i64 x.2.af.iL),.v (.sl 8 (ah ip.row x.2.af.bi)),.v (.i .i64 x.2.iG),.v (.sl 7 (ah gi.row x.2.bz))]],[])
noncomputable def L9:aj:=aj.addF JU 79 SX (fun x=>oM x.1 x.2) (fun _ (r:Bool)=>(.v (.b r),[]))
def Ua (x:i5×i5):List D×bH:=([.agg [.v (.i .i64 x.1.iT),.v (.i .i64 x.1.iI),.v (.i .i64 x.1.iu.af.iL),.v (.sl 8 (ah ip.row x.1.iu.af.bi)),.v (.i .i64 x.1.iu.iG),.v (.sl 7 (ah gi.row x.1.iu.bz))],.agg [.v (.i .i64 x.2.iT),.v (.i .i64 x.2.iI),.v (.i .i64 x.2.iu.af.iL),.v (.sl 8 (ah ip.row x.2.iu.af.bi)),.v (.i .i64 x.2.iu.iG),.v (.sl 7 (ah gi.row x.2.iu.bz))]],[])
noncomputable def MF:aj:=aj.addF L9 38 Ua (fun x=>sP x.1 x.2) (fun _ (r:Bool)=>(.v (.b r),[]))
def Tk (x:iw×iw):List D×bH:=([.agg [.v (.i .i64 x.1.bt),.v (.i .i64 x.1.iI),.v (.i .i64 x.1.lz),.v (.i .i64 x.1.iT),.v (.i .i64 x.1.iz.iI),.v (.i .i64 x.1.iz.iS),.v (.b x.1.iz.jY),.v (.i .i64 x.1.iz.cO.iO),.v (.i .i64 x.1.iz.cO.je),.v (.i .i64 x.1.iz.cO.ad.bt),.v (.s x.1.iz.cO.ad.iU),.v (.s x.1.iz.cO.ad.iE),.v (.s x.1.iz.cO.ad.iq),.v (.i .i64 x.1.iz.cO.ad.fN),.v (.i .i64 x.1.iH.iT),.v (.i .i64 x.1.iH.iI),.v (.i .i64 x.1.iH.iu.af.iL),.v (.sl 8 (ah ip.row x.1.iH.iu.af.bi)),.v (.i .i64 x.1.iH.iu.iG),.v (.sl 7 (ah gi.row x.1.iH.iu.bz))],.agg [.v (.i .i64 x.2.bt),.v (.i .i64 x.2.iI),.v (.i .i64 x.2.lz),.v (.i .i64 x.2.iT),.v (.i .i64 x.2.iz.iI),.v (.i .i64 x.2.iz.iS),.v (.b x.2.iz.jY),.v (.i .i64 x.2.iz.cO.iO),.v (.i .i64 x.2.iz.cO.je),.v (.i .i64 x.2.iz.cO.ad.bt),.v (.s x.2.iz.cO.ad.iU),.v (.s x.2.iz.cO.ad.iE),.v (.s x.2.iz.cO.ad.iq),.v (.i .i64 x.2.iz.cO.ad.fN),.v (.i .i64 x.2.iH.iT),.v (.i .i64 x.2.iH.iI),.v (.i .i64 x.2.iH.iu.af.iL),.v (.sl 8 (ah ip.row x.2.iH.iu.af.bi)),.v (.i .i64 x.2.iH.iu.iG),.v (.sl 7 (ah gi.row x.2.iH.iu.bz))]],[])
noncomputable def M8:aj:=aj.addF MF 22 Tk (fun x=>qe x.1 x.2) (fun _ (r:Bool)=>(.v (.b r),[]))
def UH (x:(List iw)×(List iw)):List D×bH:=([.v (.sl 20 (ah iw.row x.1)),.v (.sl 20 (ah iw.row x.2))],[])
noncomputable def L5:aj:=aj.addF M8 8 UH (fun x=>oY x.1 x.2) (fun _ (r:Bool)=>(.v (.b r),[]))
def SG (x:iY×iY):List D×bH:=([.agg [.v (.sl 1 (ah cE x.1.iW)),.v (.i .i64 x.1.iP)],.agg [.v (.sl 1 (ah cE x.2.iW)),.v (.i .i64 x.2.iP)]],[])
noncomputable def JB:aj:=aj.addF L5 9 SG (fun x=>qb x.1 x.2) (fun _ (r:Bool)=>(.v (.b r),[]))
def FF:Nat->Nat
 |1=>14
 |2=>5
 |3=>40
 |4=>15
 |5=>16
 |6=>47
 |7=>48
 |8=>107
 |9=>120
 |10=>121
 |11=>122
 |12=>108
 |13=>91
 |14=>49
 |15=>123
 |16=>124
 |17=>137
 |18=>110
 |19=>126
 |20=>141
 |21=>125
 |22=>128
 |23=>142
 |24=>127
 |25=>129
 |26=>142
 |27=>127
 |28=>148
 |29=>145
 |30=>135
 |31=>131
 |32=>130
 |33=>147
 |34=>144
 |35=>143
 |36=>133
 |37=>132
 |38=>134
 |39=>146
 |40=>142
 |41=>136
 |42=>109
 |43=>94
 |44=>111
 |45=>137
 |46=>110
 |47=>95
 |48=>55
 |49=>50
 |50=>25
 |51=>96
 |52=>61
 |53=>67
 |54=>64
 |55=>115
 |56=>104
 |57=>81
 |58=>69
 |59=>41
 |60=>40
 |61=>97
 |62=>62
 |63=>99
 |64=>62
 |65=>68
 |66=>98
 |67=>62
 |68=>65
 |69=>63
 |70=>62
 |71=>66
 |72=>62
 |73=>29
 |74=>17
 |75=>6
 |76=>42
 |77=>18
 |78=>21
 |79=>19
 |80=>71
 |81=>73
 |82=>116
 |83=>138
 |84=>118
 |85=>119
 |86=>139
 |87=>140
 |88=>117
 |89=>105
 |90=>106
 |91=>90
 |92=>72
 |93=>112
 |94=>100
 |95=>74
 |96=>32
 |97=>85
 |98=>84
 |99=>86
 |100=>87
 |101=>82
 |102=>83
 |103=>43
 |104=>89
 |105=>88
 |106=>44
 |107=>20
 |108=>7
 |109=>114
 |110=>113
 |111=>102
 |112=>103
 |113=>79
 |114=>38
 |115=>22
 |116=>8
 |117=>9
 |_=>0
noncomputable def OO:Nat->aj
 |0=>noC
 |1=>O1
 |2=>O2
 |3=>O3
 |4=>O4
 |5=>O5
 |6=>O6
 |7=>O7
 |8=>O8
 |9=>O9
 |10=>O10
 |11=>O11
 |12=>O12
 |13=>O13
 |14=>O14
 |15=>O15
 |16=>O16
 |17=>O17
 |18=>O18
 |19=>O19
 |20=>O20
 |21=>O21
 |22=>O22
 |23=>O23
 |24=>O24
 |25=>O25
 |26=>O26
 |27=>O27
 |28=>O28
 |29=>O29
 |30=>O30
 |31=>O31
 |32=>O32
 |33=>O33
 |34=>O34
 |35=>O35
 |36=>O36
 |37=>O37
 |38=>O38
 |39=>O39
 |40=>O40
 |41=>O41
 |42=>O42
 |43=>O43
 |44=>O44
 |45=>O45
 |46=>O46
 |47=>O47
 |48=>O48
 |49=>O49
 |50=>O50
 |51=>O51
 |52=>O52
 |53=>O53
 |54=>O54
 |55=>O55
 |56=>O56
 |57=>O57
 |58=>O58
 |59=>O59
 |60=>O60
 |61=>O61
 |62=>O62
 |63=>O63
 |64=>O64
 |65=>O65
 |66=>O66
 |67=>O67
 |68=>O68
 |69=>O69
 |70=>O70
 |71=>O71
 |72=>O72
 |73=>O73
 |74=>O74
 |75=>O75
 |76=>O76
 |77=>O77
 |78=>O78
 |79=>O79
 |80=>O80
 |81=>O81
 |82=>O82
 |83=>O83
 |84=>O84
 |85=>O85
 |86=>O86
 |87=>O87
 |88=>O88
 |89=>O89
 |90=>O90
 |91=>O91
 |92=>O92
 |93=>O93
 |94=>O94
 |95=>O95
 |96=>O96
 |97=>O97
 |98=>O98
 |99=>O99
 |100=>ID
 |101=>KJ
 |102=>Ix
 |103=>Fl
 |104=>DQ
 |105=>AE
 |106=>Dy
 |107=>E7
 |108=>L6
 |109=>Mg
 |110=>MZ
 |111=>Lx
 |112=>JU
 |113=>L9
 |114=>MF
 |115=>M8
 |116=>L5
 |117=>JB
 |_=>noC
theorem up {C:aj} {f f1:Nat} {X R:Type} {arg:X->List D×bH} {G:X->Option R} {res:X->R->D×bH} (h:f≠f1):(aj.addF C f1 arg G res) f=C f:=funext fun a=>funext fun S=>ac h a S
theorem qgG: ∀n f,n<117->f≠FF (n+1)->OO (n+1) f=OO n f
 |0,f,_,h=>(up h:O1 f=noC f)
 |1,f,_,h=>(up h:O2 f=O1 f)
 |2,f,_,h=>(up h:O3 f=O2 f)
 |3,f,_,h=>(up h:O4 f=O3 f)
 |4,f,_,h=>(up h:O5 f=O4 f)
 |5,f,_,h=>(up h:O6 f=O5 f)
 |6,f,_,h=>(up h:O7 f=O6 f)
 |7,f,_,h=>(up h:O8 f=O7 f)
 |8,f,_,h=>(up h:O9 f=O8 f)
 |9,f,_,h=>(up h:O10 f=O9 f)
 |10,f,_,h=>(up h:O11 f=O10 f)
 |11,f,_,h=>(up h:O12 f=O11 f)
 |12,f,_,h=>(up h:O13 f=O12 f)
 |13,f,_,h=>(up h:O14 f=O13 f)
 |14,f,_,h=>(up h:O15 f=O14 f)
 |15,f,_,h=>(up h:O16 f=O15 f)
 |16,f,_,h=>(up h:O17 f=O16 f)
 |17,f,_,h=>(up h:O18 f=O17 f)
 |18,f,_,h=>(up h:O19 f=O18 f)
 |19,f,_,h=>(up h:O20 f=O19 f)
 |20,f,_,h=>(up h:O21 f=O20 f)
 |21,f,_,h=>(up h:O22 f=O21 f)
 |22,f,_,h=>(up h:O23 f=O22 f)
 |23,f,_,h=>(up h:O24 f=O23 f)
 |24,f,_,h=>(up h:O25 f=O24 f)
 |25,f,_,h=>(up h:O26 f=O25 f)
 |26,f,_,h=>(up h:O27 f=O26 f)
 |27,f,_,h=>(up h:O28 f=O27 f)
 |28,f,_,h=>(up h:O29 f=O28 f)
 |29,f,_,h=>(up h:O30 f=O29 f)
 |30,f,_,h=>(up h:O31 f=O30 f)
 |31,f,_,h=>(up h:O32 f=O31 f)
 |32,f,_,h=>(up h:O33 f=O32 f)
 |33,f,_,h=>(up h:O34 f=O33 f)
 |34,f,_,h=>(up h:O35 f=O34 f)
 |35,f,_,h=>(up h:O36 f=O35 f)
 |36,f,_,h=>(up h:O37 f=O36 f)
 |37,f,_,h=>(up h:O38 f=O37 f)
 |38,f,_,h=>(up h:O39 f=O38 f)
 |39,f,_,h=>(up h:O40 f=O39 f)
 |40,f,_,h=>(up h:O41 f=O40 f)
 |41,f,_,h=>(up h:O42 f=O41 f)
 |42,f,_,h=>(up h:O43 f=O42 f)
 |43,f,_,h=>(up h:O44 f=O43 f)
 |44,f,_,h=>(up h:O45 f=O44 f)
 |45,f,_,h=>(up h:O46 f=O45 f)
 |46,f,_,h=>(up h:O47 f=O46 f)
 |47,f,_,h=>(up h:O48 f=O47 f)
 |48,f,_,h=>(up h:O49 f=O48 f)
 |49,f,_,h=>(up h:O50 f=O49 f)
 |50,f,_,h=>(up h:O51 f=O50 f)
 |51,f,_,h=>(up h:O52 f=O51 f)
 |52,f,_,h=>(up h:O53 f=O52 f)
 |53,f,_,h=>(up h:O54 f=O53 f)
 |54,f,_,h=>(up h:O55 f=O54 f)
 |55,f,_,h=>(up h:O56 f=O55 f)
 |56,f,_,h=>(up h:O57 f=O56 f)
 |57,f,_,h=>(up h:O58 f=O57 f)
 |58,f,_,h=>(up h:O59 f=O58 f)
 |59,f,_,h=>(up h:O60 f=O59 f)
 |60,f,_,h=>(up h:O61 f=O60 f)
 |61,f,_,h=>(up h:O62 f=O61 f)
 |62,f,_,h=>(up h:O63 f=O62 f)
 |63,f,_,h=>(up h:O64 f=O63 f)
 |64,f,_,h=>(up h:O65 f=O64 f)
 |65,f,_,h=>(up h:O66 f=O65 f)
 |66,f,_,h=>(up h:O67 f=O66 f)
 |67,f,_,h=>(up h:O68 f=O67 f)
 |68,f,_,h=>(up h:O69 f=O68 f)
 |69,f,_,h=>(up h:O70 f=O69 f)
 |70,f,_,h=>(up h:O71 f=O70 f)
 |71,f,_,h=>(up h:O72 f=O71 f)
 |72,f,_,h=>(up h:O73 f=O72 f)
 |73,f,_,h=>(up h:O74 f=O73 f)
 |74,f,_,h=>(up h:O75 f=O74 f)
 |75,f,_,h=>(up h:O76 f=O75 f)
 |76,f,_,h=>(up h:O77 f=O76 f)
 |77,f,_,h=>(up h:O78 f=O77 f)
 |78,f,_,h=>(up h:O79 f=O78 f)
 |79,f,_,h=>(up h:O80 f=O79 f)
 |80,f,_,h=>(up h:O81 f=O80 f)
 |81,f,_,h=>(up h:O82 f=O81 f)
 |82,f,_,h=>(up h:O83 f=O82 f)
 |83,f,_,h=>(up h:O84 f=O83 f)
 |84,f,_,h=>(up h:O85 f=O84 f)
 |85,f,_,h=>(up h:O86 f=O85 f)
 |86,f,_,h=>(up h:O87 f=O86 f)
 |87,f,_,h=>(up h:O88 f=O87 f)
 |88,f,_,h=>(up h:O89 f=O88 f)
 |89,f,_,h=>(up h:O90 f=O89 f)
 |90,f,_,h=>(up h:O91 f=O90 f)
 |91,f,_,h=>(up h:O92 f=O91 f)
 |92,f,_,h=>(up h:O93 f=O92 f)
 |93,f,_,h=>(up h:O94 f=O93 f)
 |94,f,_,h=>(up h:O95 f=O94 f)
 |95,f,_,h=>(up h:O96 f=O95 f)
 |96,f,_,h=>(up h:O97 f=O96 f)
 |97,f,_,h=>(up h:O98 f=O97 f)
 |98,f,_,h=>(up h:O99 f=O98 f)
 |99,f,_,h=>(up h:ID f=O99 f)
 |100,f,_,h=>(up h:KJ f=ID f)
 |101,f,_,h=>(up h:Ix f=KJ f)
 |102,f,_,h=>(up h:Fl f=Ix f)
 |103,f,_,h=>(up h:DQ f=Fl f)
 |104,f,_,h=>(up h:AE f=DQ f)
 |105,f,_,h=>(up h:Dy f=AE f)
 |106,f,_,h=>(up h:E7 f=Dy f)
 |107,f,_,h=>(up h:L6 f=E7 f)
 |108,f,_,h=>(up h:Mg f=L6 f)
 |109,f,_,h=>(up h:MZ f=Mg f)
 |110,f,_,h=>(up h:Lx f=MZ f)
 |111,f,_,h=>(up h:JU f=Lx f)
 |112,f,_,h=>(up h:L9 f=JU f)
 |113,f,_,h=>(up h:MF f=L9 f)
 |114,f,_,h=>(up h:M8 f=MF f)
 |115,f,_,h=>(up h:L5 f=M8 f)
 |116,f,_,h=>(up h:JB f=L5 f)
 |n+117,_,h,_=>absurd h (by omega)
theorem jm (f j:Nat): ∀d,j+d<=117->(∀m,m<d->f≠FF (j+m+1))-> ∀a S,OO (j+d) f a S=OO j f a S
 |0,_,_,_,_=>rfl
 |d+1,hd,h,a,S=>(congrFun (congrFun (qgG (j+d) f (by omega) (h d (Nat.lt_succ_self d))) a) S).trans (jm f j d (by omega) (fun m hm=>h m (Nat.lt_succ_of_lt hm)) a S)
theorem KY:iQ Tryz.prog O1:=aV (gF _) (fun x r h=>by
 obtain⟨d,S,h1,h2,h3⟩:=I6 noC x r h
 have h4:=Mx.Sem.frozen (i6 (ν:=n14) (gF _) Tryz.func14 (by kernel_rfl) i7 h1) h2
 obtain⟨e1,e2⟩:=Prod.mk.inj h3
 rw [e1] at h4;rw [e2] at h4;exact h4)
theorem Fz: ∀x y,a1 x=a1 y->x=y:=by
 rintro ua1 ub1 h
 simp only [a1,RI,bc] at h
 exact h
theorem qid:Ay O1:=fun p0 r h=>bZ (x:=p0) Fz h
theorem KT:iQ Tryz.prog O2:=aV KY (fun x r h=>by
 obtain⟨d,S,h1,h2,h3⟩:=Kg O1 qid x r h
 have h4:=Mx.Sem.frozen (i6 (ν:=n5) KY Tryz.func5 (by kernel_rfl) i7 h1) h2
 obtain⟨e1,e2⟩:=Prod.mk.inj h3
 rw [e1] at h4;rw [e2] at h4;exact h4)
theorem RJ: ∀x y,a2 x=a2 y->x=y:=by
 rintro⟨ua1,ua2⟩ ⟨ub1,ub2⟩ h
 simp only [a2,RI,bc] at h
 simp only [h]
theorem qhk:zf O2:=fun p0 r h=>bZ (x:=p0) RJ h
theorem JS:iQ Tryz.prog O3:=aV KT (fun x r h=>Ob (ν:=n40) (aW KT) Tryz.func40 (by kernel_rfl) (Nat.le_of_ble_eq_true (by kernel_rfl)) (Fm _ x r h))
theorem qhh:zU O3:=fun p0 r h=>bZ (x:=p0) Fz h
theorem JW:iQ Tryz.prog O4:=aV JS (fun x r h=>i6 (ν:=n15) JS Tryz.func15 (by kernel_rfl) i7 (J5 O3 qhh x r h))
theorem qhi:y0 O4:=fun p0 r h=>bZ (x:=p0) RJ h
theorem KU:iQ Tryz.prog O5:=aV JW (fun x r h=>i6 (ν:=n16) JW Tryz.func16 (by kernel_rfl) i7 (Iu O4 x r h))
theorem qdC:rL O5:=fun p0 r h=>bZ (x:=p0) Fz h
theorem J4:iQ Tryz.prog O6:=aV KU (fun x r h=>i6 (ν:=n47) KU Tryz.func47 (by kernel_rfl) i7 (E1 O5 x r h))
theorem Ug: ∀x y,a6 x=a6 y->x=y:=by
 rintro⟨ua1,ua2,⟨⟨ua3,ua4⟩,ua5,ua6⟩⟩ ⟨ub1,ub2,⟨⟨ub3,ub4⟩,ub5,ub6⟩⟩ h
 simp only [a6,RI,ip.map_inj,gi.map_inj] at h
 simp only [h]
theorem qhN:uG O6:=fun p0 r h=>bZ (x:=p0) Ug h
theorem KD:iQ Tryz.prog O7:=aV J4 (fun x r h=>i6 (ν:=n48) J4 Tryz.func48 (by kernel_rfl) i7 (FK O6 x r h))
theorem Ov: ∀x y,a7 x=a7 y->x=y:=by
 rintro ua1 ub1 h
 simp only [a7,RI] at h
 exact h
theorem qfk:qG O7:=fun p0 r h=>bZ (x:=p0) Ov h
theorem Lb:iQ Tryz.prog O8:=aV KD (fun x r h=>i6 (ν:=Sy) KD Tryz.func107 (by kernel_rfl) i7 (CR O7 x r h))
theorem qhd:vr O8:=fun p0 r h=>bZ (x:=p0) Ov h
theorem KV:iQ Tryz.prog O9:=aV Lb (fun x r h=>i6 (ν:=Uc) Lb Tryz.func120 (by kernel_rfl) i7 (Fu O8 x r h))
theorem PD: ∀x y,a9 x=a9 y->x=y:=by
 rintro ua1 ub1 h
 simp only [a9,RI] at h
 exact h
theorem qev:qJ O9:=fun p0 r h=>bZ (x:=p0) PD h
theorem HM:iQ Tryz.prog O10:=aV KV (fun x r h=>i6 (ν:=UJ) KV Tryz.func121 (by kernel_rfl) i7 (Iv O9 x r h))
theorem C9:lc O10:=fun p0 r h=>bZ (x:=p0) PD h
theorem HA:iQ Tryz.prog O11:=aV HM (fun x r h=>i6 (ν:=Ut) HM Tryz.func122 (by kernel_rfl) i7 (FD O10 x r h))
theorem MB:qC O11:=fun p0 r h=>bZ (x:=p0) Ov h
theorem qgm:qJ O11:=fun p0 r h=>(jm 120 9 2 (by decide) (by decide) _ _).trans (qev p0 r h)
theorem X6:lc O11:=fun p0 r h=>(jm 121 10 1 (by decide) (by decide) _ _).trans (C9 p0 r h)
theorem Hk:iQ Tryz.prog O12:=aV HA (fun x r h=>i6 (ν:=xp) HA Tryz.func108 (by kernel_rfl) i7 (Jt O11 qgm X6 MB x r h))
theorem Vp: ∀x y,a12 x=a12 y->x=y:=by
 rintro⟨ua1,ua2,ua3,ua4,ua5⟩ ⟨ub1,ub2,ub3,ub4,ub5⟩ h
 simp only [a12,RI] at h
 simp only [h]
theorem Yj:AG O12:=fun p0 r h=>bZ (x:=p0) Vp h
theorem qdT:vr O12:=fun p0 r h=>(jm 107 8 4 (by decide) (by decide) _ _).trans (qhd p0 r h)
theorem Gr:iQ Tryz.prog O13:=aV Hk (fun x r h=>i6 (ν:=n91) Hk Tryz.func91 (by kernel_rfl) i7 (OA O12 qdT Yj x r h))
theorem Vj: ∀x y,a13 x=a13 y->x=y:=by
 rintro⟨ua1,ua2,⟨ua3,ua4,ua5,ua6,ua7⟩⟩ ⟨ub1,ub2,⟨ub3,ub4,ub5,ub6,ub7⟩⟩ h
 simp only [a13,RI] at h
 simp only [h]
theorem YQ:HE O13:=fun p0 r h=>bZ (x:=p0) Vj h
theorem FP:iQ Tryz.prog O14:=aV Gr (fun x r h=>i6 (ν:=n49) Gr Tryz.func49 (by kernel_rfl) i7 (BA O13 YQ x r h))
theorem VH: ∀x y,a14 x=a14 y->x=y:=by
 rintro⟨ua1,ua2,ua3,⟨ua4,ua5,⟨ua6,ua7,ua8,ua9,ua10⟩⟩⟩ ⟨ub1,ub2,ub3,⟨ub4,ub5,⟨ub6,ub7,ub8,ub9,ub10⟩⟩⟩ h
 simp only [a14,RI] at h
 simp only [h]
theorem RH:pt O14:=fun p0 r h=>bZ (x:=p0) VH h
theorem Hw:iQ Tryz.prog O15:=aV FP (fun x r h=>i6 (ν:=Ph) FP Tryz.func123 (by kernel_rfl) i7 (BH O14 x r h))
theorem NG: ∀x y,a15 x=a15 y->x=y:=by
 rintro⟨ua1,ua2,ua3,ua4,ua5,ua6⟩ ⟨ub1,ub2,ub3,ub4,ub5,ub6⟩ h
 simp only [a15,RI,aZ,iD.map_inj,im.map_inj] at h
 simp only [h]
theorem qaB:pr O15:=fun p0 r h=>bZ (x:=p0) NG h
theorem XQ:lc O15:=fun p0 r h=>(jm 121 10 5 (by decide) (by decide) _ _).trans (C9 p0 r h)
theorem HU:iQ Tryz.prog O16:=aV Hw (fun x r h=>i6 (ν:=Ub) Hw Tryz.func124 (by kernel_rfl) i7 (Ox O15 XQ x r h))
theorem We:Bu O16:=fun p0 r h=>bZ (x:=p0) PD h
theorem Ie:iQ Tryz.prog O17:=aV HU (fun x r h=>i6 (ν:=zH) HU Tryz.func137 (by kernel_rfl) i7 (JF O16 We x r h))
theorem VY: ∀x y,a17 x=a17 y->x=y:=by
 rintro ua1 ub1 h
 simp only [a17,RI,aZ] at h
 exact h
theorem WW:Bi O17:=fun p0 r h=>bZ (x:=p0) VY h
theorem G5:iQ Tryz.prog O18:=aV Ie (fun x r h=>i6 (ν:=Mr) Ie Tryz.func110 (by kernel_rfl) i7 (I5 O17 WW x r h))
theorem YS:xL O18:=fun p0 r h=>bZ (x:=p0) VY h
theorem qge:qJ O18:=fun p0 r h=>(jm 120 9 9 (by decide) (by decide) _ _).trans (qev p0 r h)
theorem ZZ:lc O18:=fun p0 r h=>(jm 121 10 8 (by decide) (by decide) _ _).trans (C9 p0 r h)
theorem Hb:iQ Tryz.prog O19:=aV G5 (fun x r h=>i6 (ν:=OY) G5 Tryz.func126 (by kernel_rfl) i7 (Pw O18 qge ZZ x r h))
theorem qdH: ∀x y,a19 x=a19 y->x=y:=by
 rintro⟨ua1,ua2⟩ ⟨ub1,ub2⟩ h
 simp only [a19,RI] at h
 simp only [h]
theorem qaT:Bx O19:=fun p0 r h=>bZ (x:=p0) qdH h
theorem Hl:iQ Tryz.prog O20:=aV Hb (fun x r h=>i6 (ν:=Fd) Hb Tryz.func141 (by kernel_rfl) i7 (IA O19 qaT x r h))
theorem VV: ∀x y,a20 x=a20 y->x=y:=by
 rintro ua1 ub1 h
 simp only [a20,RI,iD.map_inj] at h
 exact h
theorem qaO:AY O20:=fun p0 r h=>bZ (x:=p0) VV h
theorem Ik:iQ Tryz.prog O21:=aV Hl (fun x r h=>i6 (ν:=Tc) Hl Tryz.func125 (by kernel_rfl) i7 (Jh O20 qaO x r h))
theorem qbl:xG O21:=fun p0 r h=>bZ (x:=p0) VV h
theorem X7:lc O21:=fun p0 r h=>(jm 121 10 11 (by decide) (by decide) _ _).trans (C9 p0 r h)
theorem Gv:iQ Tryz.prog O22:=aV Ik (fun x r h=>i6 (ν:=Po) Ik Tryz.func128 (by kernel_rfl) i7 (Oq O21 X7 x r h))
theorem VL: ∀x y,a22 x=a22 y->x=y:=by
 rintro⟨ua1,ua2⟩ ⟨ub1,ub2⟩ h
 simp only [a22,RI] at h
 simp only [h]
theorem Wi:B7 O22:=fun p0 r h=>bZ (x:=p0) VL h
theorem FW:iQ Tryz.prog O23:=aV Gv (fun x r h=>i6 (ν:=wu) Gv Tryz.func142 (by kernel_rfl) i7 (Io O22 Wi x r h))
theorem Vb: ∀x y,a23 x=a23 y->x=y:=by
 rintro ua1 ub1 h
 simp only [a23,RI,im.map_inj] at h
 exact h
theorem qbM:AK O23:=fun p0 r h=>bZ (x:=p0) Vb h
theorem FO:iQ Tryz.prog O24:=aV FW (fun x r h=>i6 (ν:=MC) FW Tryz.func127 (by kernel_rfl) i7 (IP O23 qbM x r h))
theorem YX:xX O24:=fun p0 r h=>bZ (x:=p0) Vb h
theorem WQ:qC O24:=fun p0 r h=>(jm 122 11 13 (by decide) (by decide) _ _).trans (MB p0 r h)
theorem Hv:iQ Tryz.prog O25:=aV FO (fun x r h=>i6 (ν:=PB) FO Tryz.func129 (by kernel_rfl) i7 (OR O24 WQ x r h))
theorem XD:Ce O25:=fun p0 r h=>bZ (x:=p0) VL h
theorem HD:iQ Tryz.prog O26:=aV Hv (fun x r h=>i6 (ν:=wu) Hv Tryz.func142 (by kernel_rfl) i7 (IX O25 XD x r h))
theorem Vh: ∀x y,a26 x=a26 y->x=y:=by
 rintro ua1 ub1 h
 simp only [a26,RI,im.map_inj] at h
 exact h
theorem XK:AO O26:=fun p0 r h=>bZ (x:=p0) Vh h
theorem OK:iQ Tryz.prog O27:=aV HD (fun x r h=>i6 (ν:=MC) HD Tryz.func127 (by kernel_rfl) i7 (Jk O26 XK x r h))
theorem qaE:ye O27:=fun p0 r h=>bZ (x:=p0) Vh h
theorem HL:iQ Tryz.prog O28:=aV OK (fun x r h=>by
 obtain rfl:=Option.some.inj h
 exact TI Tryz.func148 (by kernel_rfl) (by kernel_rfl) (by kernel_rfl) (by kernel_rfl) x.1 x.2)
theorem QH: ∀x y,a28 x=a28 y->x=y:=by
 rintro⟨ua1,ua2⟩ ⟨ub1,ub2⟩ h
 simp only [a28,RI] at h
 simp only [h]
theorem Wq:Cw O28:=fun p0 p1 r h=>bZ (x:=(p0,p1)) QH h
theorem HY:iQ Tryz.prog O29:=aV HL (fun x r h=>i6 (ν:=TW) HL Tryz.func145 (by kernel_rfl) i7 (AC O28 Wq x.1 x.2 r h))
theorem Zp:wC O29:=fun p0 p1 r h=>bZ (x:=(p0,p1)) QH h
theorem GT:iQ Tryz.prog O30:=aV HY (fun x r h=>i6 (ν:=SY) HY Tryz.func135 (by kernel_rfl) i7 (Ax O29 Zp x.1 x.2 r h))
theorem Ml:lP O30:=fun p0 p1 r h=>bZ (x:=(p0,p1)) QH h
theorem He:iQ Tryz.prog O31:=aV GT (fun x r h=>i6 (ν:=Pf) GT Tryz.func131 (by kernel_rfl) i7 (CJ O30 Ml x.1 x.2 r h))
theorem qcs: ∀x y,a31 x=a31 y->x=y:=by
 rintro⟨⟨ua1,ua2⟩,⟨ua3,ua4⟩⟩ ⟨⟨ub1,ub2⟩,⟨ub3,ub4⟩⟩ h
 simp only [a31,RI] at h
 simp only [h]
theorem qbK:vv O31:=fun p0 p1 r h=>bZ (x:=(p0,p1)) qcs h
theorem GE:iQ Tryz.prog O32:=aV He (fun x r h=>i6 (ν:=EK) He Tryz.func130 (by kernel_rfl) i7 (tA O31 qbK x r h))
theorem qf1: ∀x y,a32 x=a32 y->x=y:=by
 rintro ua1 ub1 h
 simp only [a32,RI,iD.map_inj] at h
 exact h
theorem qag:kA O32:=fun p0 r h=>bZ (x:=p0) qf1 h
theorem Hr:iQ Tryz.prog O33:=aV GE (fun x r h=>i6 (ν:=T3) GE Tryz.func147 (by kernel_rfl) i7 (CF O32 x r h))
theorem qac:yk O33:=fun p0 r h=>bZ (x:=p0) Ov h
theorem FX:iQ Tryz.prog O34:=aV Hr (fun x r h=>i6 (ν:=PE) Hr Tryz.func144 (by kernel_rfl) i7 (Bh O33 qac x.1 x.2 r h))
theorem qeI: ∀x y,a34 x=a34 y->x=y:=by
 rintro⟨ua1,ua2⟩ ⟨ub1,ub2⟩ h
 simp only [a34,RI] at h
 simp only [h]
theorem Xs:ua O34:=fun p0 p1 r h=>bZ (x:=(p0,p1)) qeI h
theorem Gb:iQ Tryz.prog O35:=aV FX (fun x r h=>i6 (ν:=Jq) FX Tryz.func143 (by kernel_rfl) i7 (IB O34 x r h))
theorem qei: ∀x y,a35 x=a35 y->x=y:=by
 rintro ua1 ub1 h
 simp only [a35,RI,ba] at h
 exact h
theorem qcf:AI O35:=fun p0 r h=>bZ (x:=p0) qei h
theorem Ze:ua O35:=fun p0 p1 r h=>(jm 144 34 1 (by decide) (by decide) _ _).trans (Xs p0 p1 r h)
theorem qbS:lP O35:=fun p0 p1 r h=>(jm 135 30 5 (by decide) (by decide) _ _).trans (Ml p0 p1 r h)
theorem GB:iQ Tryz.prog O36:=aV Gb (fun x r h=>i6 (ν:=M9) Gb Tryz.func133 (by kernel_rfl) i7 (CP O35 Ze qbS qcf x.1 x.2 r h))
theorem VQ: ∀x y,a36 x=a36 y->x=y:=by
 rintro⟨⟨ua1,ua2⟩,⟨ua3,ua4⟩⟩ ⟨⟨ub1,ub2⟩,⟨ub3,ub4⟩⟩ h
 simp only [a36,RI] at h
 simp only [h]
theorem Zt:vk O36:=fun p0 p1 r h=>bZ (x:=(p0,p1)) VQ h
theorem Gz:iQ Tryz.prog O37:=aV GB (fun x r h=>i6 (ν:=D9) GB Tryz.func132 (by kernel_rfl) i7 (tc O36 Zt x r h))
theorem qdE: ∀x y,a37 x=a37 y->x=y:=by
 rintro ua1 ub1 h
 simp only [a37,RI,im.map_inj] at h
 exact h
theorem XX:kt O37:=fun p0 r h=>bZ (x:=p0) qdE h
theorem qbD:lP O37:=fun p0 p1 r h=>(jm 135 30 7 (by decide) (by decide) _ _).trans (Ml p0 p1 r h)
theorem FY:iQ Tryz.prog O38:=aV Gz (fun x r h=>i6 (ν:=EC) Gz Tryz.func134 (by kernel_rfl) i7 (rP O37 qbD x r h))
theorem qe1: ∀x y,a38 x=a38 y->x=y:=by
 rintro ua1 ub1 h
 simp only [a38,RI,aZ] at h
 exact h
theorem YV:j9 O38:=fun p0 r h=>bZ (x:=p0) qe1 h
theorem FQ:iQ Tryz.prog O39:=aV FY (fun x r h=>i6 (ν:=OL) FY Tryz.func146 (by kernel_rfl) i7 (Cb O38 x.1 x.2 r h))
theorem qft: ∀x y,a39 x=a39 y->x=y:=by
 rintro⟨⟨ua1,ua2⟩,ua3⟩ ⟨⟨ub1,ub2⟩,ub3⟩ h
 simp only [a39,RI] at h
 simp only [h]
theorem ZS:uz O39:=fun p0 p1 r h=>bZ (x:=(p0,p1)) qft h
theorem HP:iQ Tryz.prog O40:=aV FQ (fun x r h=>i6 (ν:=wu) FQ Tryz.func142 (by kernel_rfl) i7 (zP O39 ZS x.1 x.2 r h))
theorem qcQ: ∀x y,a40 x=a40 y->x=y:=by
 rintro⟨ua1,ua2⟩ ⟨ub1,ub2⟩ h
 simp only [a40,RI,im.map_inj] at h
 simp only [h]
theorem XW:vz O40:=fun p0 p1 r h=>bZ (x:=(p0,p1)) qcQ h
theorem Gy:iQ Tryz.prog O41:=aV HP (fun x r h=>i6 (ν:=Pc) HP Tryz.func136 (by kernel_rfl) i7 (I8 O40 XW x.1 x.2 r h))
theorem VB: ∀x y,a41 x=a41 y->x=y:=by
 rintro⟨ua1,ua2⟩ ⟨ub1,ub2⟩ h
 simp only [a41,RI,im.map_inj] at h
 simp only [h]
theorem Zj:yf O41:=fun p0 p1 r h=>bZ (x:=(p0,p1)) VB h
theorem Wv:pr O41:=fun p0 r h=>(jm 123 15 26 (by decide) (by decide) _ _).trans (qaB p0 r h)
theorem Xx:lc O41:=fun p0 r h=>(jm 121 10 31 (by decide) (by decide) _ _).trans (C9 p0 r h)
theorem XI:xL O41:=fun p0 r h=>(jm 110 18 23 (by decide) (by decide) _ _).trans (YS p0 r h)
theorem qch:xG O41:=fun p0 r h=>(jm 125 21 20 (by decide) (by decide) _ _).trans (qbl p0 r h)
theorem Xu:xX O41:=fun p0 r h=>(jm 127 27 14 (by decide) (by decide) _ _).trans ((show O27 127 _ _=O26 127 _ _ from xQ (by intro x hx;simp [a26] at hx)).trans ((jm 127 24 2 (by decide) (by decide) _ _).trans (YX p0 r h)))
theorem Y2:qC O41:=fun p0 r h=>(jm 122 11 30 (by decide) (by decide) _ _).trans (MB p0 r h)
theorem Y8:ye O41:=fun p0 r h=>(jm 127 27 14 (by decide) (by decide) _ _).trans (qaE p0 r h)
theorem qad:kA O41:=fun p0 r h=>(jm 130 32 9 (by decide) (by decide) _ _).trans (qag p0 r h)
theorem ZE:kt O41:=fun p0 r h=>(jm 132 37 4 (by decide) (by decide) _ _).trans (XX p0 r h)
theorem YO:j9 O41:=fun p0 r h=>(jm 134 38 3 (by decide) (by decide) _ _).trans (YV p0 r h)
theorem GQ:iQ Tryz.prog O42:=aV Gy (fun x r h=>i6 (ν:=u0) Gy Tryz.func109 (by kernel_rfl) i7 (qgk O41 Wv Xx XI qch Xu Y2 Y8 qad ZE YO Zj x r h))
theorem Wc:NW O42:=fun p0 r h=>bZ (x:=p0) NG h
theorem H4:iQ Tryz.prog O43:=aV GQ (fun x r h=>i6 (ν:=n94) GQ Tryz.func94 (by kernel_rfl) i7 (FA O42 Wc x r h))
theorem V0: ∀x y,a43 x=a43 y->x=y:=by
 rintro⟨ua1,ua2⟩ ⟨ub1,ub2⟩ h
 simp only [a43,RI,ip.map_inj] at h
 simp only [h]
theorem qaw:uP O43:=fun p0 r h=>bZ (x:=p0) V0 h
theorem Hg:iQ Tryz.prog O44:=aV H4 (fun x r h=>i6 (ν:=UE) H4 Tryz.func111 (by kernel_rfl) i7 (DU O43 x r h))
theorem YR:vU O44:=fun p0 r h=>bZ (x:=p0) PD h
theorem GJ:iQ Tryz.prog O45:=aV Hg (fun x r h=>i6 (ν:=zH) Hg Tryz.func137 (by kernel_rfl) i7 (At O44 YR x r h))
theorem Vr: ∀x y,a45 x=a45 y->x=y:=by
 rintro ua1 ub1 h
 simp only [a45,RI,aZ] at h
 exact h
theorem qci:wF O45:=fun p0 r h=>bZ (x:=p0) Vr h
theorem GF:iQ Tryz.prog O46:=aV GJ (fun x r h=>i6 (ν:=Mr) GJ Tryz.func110 (by kernel_rfl) i7 (AD O45 qci x r h))
theorem Wy:wy O46:=fun p0 r h=>bZ (x:=p0) Vr h
theorem FZ:iQ Tryz.prog O47:=aV GF (fun x r h=>i6 (ν:=n95) GF Tryz.func95 (by kernel_rfl) i7 (Ma O46 Wy x r h))
theorem VC: ∀x y,a47 x=a47 y->x=y:=by
 rintro⟨ua1,ua2,ua3,ua4⟩ ⟨ub1,ub2,ub3,ub4⟩ h
 simp only [a47,RI,aZ] at h
 simp only [h]
theorem X5:xJ O47:=fun p0 r h=>bZ (x:=p0) VC h
theorem Xm:uP O47:=fun p0 r h=>(jm 94 43 4 (by decide) (by decide) _ _).trans (qaw p0 r h)
theorem GK:iQ Tryz.prog O48:=aV FZ (fun x r h=>i6 (ν:=n55) FZ Tryz.func55 (by kernel_rfl) i7 (qd4 O47 Xm X5 x r h))
theorem VM: ∀x y,a48 x=a48 y->x=y:=by
 rintro⟨⟨ua1,ua2⟩,ua3,ua4⟩ ⟨⟨ub1,ub2⟩,ub3,ub4⟩ h
 simp only [a48,RI,ip.map_inj,gi.map_inj] at h
 simp only [h]
theorem Qj:N2 O48:=fun p0 r h=>bZ (x:=p0) VM h
theorem qc0:qG O48:=fun p0 r h=>(jm 48 7 41 (by decide) (by decide) _ _).trans (qfk p0 r h)
theorem HS:iQ Tryz.prog O49:=aV GK (fun x r h=>i6 (ν:=n50) GK Tryz.func50 (by kernel_rfl) i7 (Bm O48 qc0 Qj x r h))
theorem ZX:xu O49:=fun p0 r h=>bZ (x:=p0) Ug h
theorem qgT:uG O49:=fun p0 r h=>(jm 47 6 43 (by decide) (by decide) _ _).trans (qhN p0 r h)
theorem qeQ:qG O49:=fun p0 r h=>(jm 48 7 42 (by decide) (by decide) _ _).trans (qfk p0 r h)
theorem qbA:pt O49:=fun p0 r h=>(jm 49 14 35 (by decide) (by decide) _ _).trans (RH p0 r h)
theorem Gi:iQ Tryz.prog O50:=aV HS (fun x r h=>i6 (ν:=n25) HS Tryz.func25 (by kernel_rfl) i7 (Jo O49 qgT qeQ qbA ZX x r h))
theorem VN: ∀x y,a50 x=a50 y->x=y:=by
 rintro⟨ua1,ua2,ua3,ua4,⟨ua5,ua6,ua7,⟨ua8,ua9,⟨ua10,ua11,ua12,ua13,ua14⟩⟩⟩,⟨ua15,ua16,⟨⟨ua17,ua18⟩,ua19,ua20⟩⟩⟩ ⟨ub1,ub2,ub3,ub4,⟨ub5,ub6,ub7,⟨ub8,ub9,⟨ub10,ub11,ub12,ub13,ub14⟩⟩⟩,⟨ub15,ub16,⟨⟨ub17,ub18⟩,ub19,ub20⟩⟩⟩ h
 simp only [a50,RI,ip.map_inj,gi.map_inj] at h
 simp only [h]
theorem XB:xE O50:=fun p0 r h=>bZ (x:=p0) VN h
theorem Id:iQ Tryz.prog O51:=aV Gi (fun x r h=>by
 obtain⟨d,S,h1,h2,h3⟩:=Re O50 x.1 x.2 r h
 have h4:=Mx.Sem.frozen (i6 (ν:=n96) Gi Tryz.func96 (by kernel_rfl) i7 h1) h2
 obtain⟨e1,e2⟩:=Prod.mk.inj h3
 rw [e1] at h4;rw [e2] at h4;exact h4)
theorem qgD: ∀x y,a51 x=a51 y->x=y:=by
 rintro⟨ua1,⟨ua2,ua3⟩⟩ ⟨ub1,⟨ub2,ub3⟩⟩ h
 simp only [a51,RI,bc] at h
 simp only [h]
theorem M6:xB O51:=fun p0 p1 r h=>bZ (x:=(p0,p1)) qgD h
theorem Ij:iQ Tryz.prog O52:=aV Id (fun x r h=>i6 (ν:=n61) Id Tryz.func61 (by kernel_rfl) i7 (My O51 M6 x r h))
theorem Cr: ∀x y,a52 x=a52 y->x=y:=by
 rintro⟨ua1,ua2⟩ ⟨ub1,ub2⟩ h
 simp only [a52,RI,bc] at h
 simp only [h]
theorem yM:kC O52:=fun p0 r h=>bZ (x:=p0) Cr h
theorem Xn:xB O52:=fun p0 p1 r h=>(jm 96 51 1 (by decide) (by decide) _ _).trans (M6 p0 p1 r h)
theorem If:iQ Tryz.prog O53:=aV Ij (fun x r h=>i6 (ν:=n67) Ij Tryz.func67 (by kernel_rfl) i7 (Pn O52 Xn x r h))
theorem wX:kG O53:=fun p0 r h=>bZ (x:=p0) Cr h
theorem YT:xB O53:=fun p0 p1 r h=>(jm 96 51 2 (by decide) (by decide) _ _).trans (M6 p0 p1 r h)
theorem HR:iQ Tryz.prog O54:=aV If (fun x r h=>i6 (ν:=n64) If Tryz.func64 (by kernel_rfl) i7 (Rz O53 wX YT x r h))
theorem Af:oE O54:=fun p0 r h=>bZ (x:=p0) Cr h
theorem qal:kG O54:=fun p0 r h=>(jm 67 53 1 (by decide) (by decide) _ _).trans (wX p0 r h)
theorem qbj:kC O54:=fun p0 r h=>(jm 61 52 2 (by decide) (by decide) _ _).trans (yM p0 r h)
theorem H6:iQ Tryz.prog O55:=aV HR (fun x r h=>i6 (ν:=Pe) HR Tryz.func115 (by kernel_rfl) i7 (KZ O54 qal Af qbj x r h))
theorem WD:zi O55:=fun p0 r h=>bZ (x:=p0) Cr h
theorem Ys:kC O55:=fun p0 r h=>(jm 61 52 3 (by decide) (by decide) _ _).trans (yM p0 r h)
theorem H7:iQ Tryz.prog O56:=aV H6 (fun x r h=>i6 (ν:=IU) H6 Tryz.func104 (by kernel_rfl) i7 (Qp O55 Ys WD x r h))
theorem qbz:Ko O56:=fun p0 r h=>bZ (x:=p0) Cr h
theorem WX:kC O56:=fun p0 r h=>(jm 61 52 4 (by decide) (by decide) _ _).trans (yM p0 r h)
theorem ZV:kG O56:=fun p0 r h=>(jm 67 53 3 (by decide) (by decide) _ _).trans (wX p0 r h)
theorem Hy:iQ Tryz.prog O57:=aV H7 (fun x r h=>i6 (ν:=n81) H7 Tryz.func81 (by kernel_rfl) i7 (QK O56 WX ZV qbz x r h))
theorem qao:Ey O57:=fun p0 r h=>bZ (x:=p0) Cr h
theorem Ho:iQ Tryz.prog O58:=aV Hy (fun x r h=>i6 (ν:=n69) Hy Tryz.func69 (by kernel_rfl) i7 (UG O57 x.1 x.2 r h))
theorem qgF: ∀x y,a58 x=a58 y->x=y:=by
 rintro⟨ua1,⟨ua2,ua3⟩⟩ ⟨ub1,⟨ub2,ub3⟩⟩ h
 simp only [a58,RI,bc] at h
 simp only [h]
theorem P4:C1 O58:=fun p0 p1 r h=>bZ (x:=(p0,p1)) qgF h
theorem qbR:Ey O58:=fun p0 r h=>(jm 81 57 1 (by decide) (by decide) _ _).trans (qao p0 r h)
theorem Xl:pt O58:=fun p0 r h=>(jm 49 14 44 (by decide) (by decide) _ _).trans (RH p0 r h)
theorem Gn:iQ Tryz.prog O59:=aV Ho (fun x r h=>i6 (ν:=n41) Ho Tryz.func41 (by kernel_rfl) i7 (Be O58 qbR P4 Xl x r h))
theorem Yy:tM O59:=fun p0 r h=>bZ (x:=p0) Fz h
theorem GI:iQ Tryz.prog O60:=aV Gn (fun x r h=>Mx.Sem.frozen (Ob (ν:=n40) (aW Gn) Tryz.func40 (by kernel_rfl) (Nat.le_of_ble_eq_true (by kernel_rfl)) (CN _ x r h)) rfl)
theorem qb2:vd O60:=fun p0 r h=>bZ (x:=p0) Fz h
theorem qcb:oE O60:=fun p0 r h=>(jm 64 54 6 (by decide) (by decide) _ _).trans (Af p0 r h)
theorem Ge:iQ Tryz.prog O61:=aV GI (fun x r h=>i6 (ν:=n97) GI Tryz.func97 (by kernel_rfl) i7 (Fw O60 qcb x.1 x.2 r h))
theorem VD: ∀x y,a61 x=a61 y->x=y:=by
 rintro⟨⟨ua1,ua2⟩,⟨ua3,ua4,ua5,ua6,ua7,ua8⟩⟩ ⟨⟨ub1,ub2⟩,⟨ub3,ub4,ub5,ub6,ub7,ub8⟩⟩ h
 simp only [a61,RI,bc,aZ,iD.map_inj,im.map_inj] at h
 simp only [h]
theorem X2:wL O61:=fun p0 p1 r h=>bZ (x:=(p0,p1)) VD h
theorem qbf:kG O61:=fun p0 r h=>(jm 67 53 8 (by decide) (by decide) _ _).trans (wX p0 r h)
theorem G8:iQ Tryz.prog O62:=aV Ge (fun x r h=>i6 (ν:=n62) Ge Tryz.func62 (by kernel_rfl) i7 (yV O61 qbf X2 x.1 x.2 r h))
theorem qdt: ∀x y,a62 x=a62 y->x=y:=by
 rintro⟨⟨ua1,ua2⟩,⟨ua3,ua4,ua5,ua6,ua7,ua8⟩⟩ ⟨⟨ub1,ub2⟩,⟨ub3,ub4,ub5,ub6,ub7,ub8⟩⟩ h
 simp only [a62,RI,bc,aZ,iD.map_inj,im.map_inj] at h
 simp only [h]
theorem YB:rx O62:=fun p0 p1 r h=>bZ (x:=(p0,p1)) qdt h
theorem Xe:oE O62:=fun p0 r h=>(jm 64 54 8 (by decide) (by decide) _ _).trans (Af p0 r h)
theorem GU:iQ Tryz.prog O63:=aV G8 (fun x r h=>i6 (ν:=n99) G8 Tryz.func99 (by kernel_rfl) i7 (E2 O62 Xe x.1 x.2 r h))
theorem qcu: ∀x y,a63 x=a63 y->x=y:=by
 rintro⟨⟨ua1,ua2⟩,ua3⟩ ⟨⟨ub1,ub2⟩,ub3⟩ h
 simp only [a63,RI,bc,aZ] at h
 simp only [h]
theorem WZ:wK O63:=fun p0 p1 r h=>bZ (x:=(p0,p1)) qcu h
theorem qaY:kG O63:=fun p0 r h=>(jm 67 53 10 (by decide) (by decide) _ _).trans (wX p0 r h)
theorem GW:iQ Tryz.prog O64:=aV GU (fun x r h=>i6 (ν:=n62) GU Tryz.func62 (by kernel_rfl) i7 (yG O63 qaY WZ x.1 x.2 r h))
theorem qdK: ∀x y,a64 x=a64 y->x=y:=by
 rintro⟨⟨ua1,ua2⟩,ua3⟩ ⟨⟨ub1,ub2⟩,ub3⟩ h
 simp only [a64,RI,bc,aZ] at h
 simp only [h]
theorem Wm:u3 O64:=fun p0 p1 r h=>bZ (x:=(p0,p1)) qdK h
theorem G4:iQ Tryz.prog O65:=aV GW (fun x r h=>i6 (ν:=n68) GW Tryz.func68 (by kernel_rfl) i7 (OF O64 Wm x r h))
theorem Rt:xd O65:=fun p0 r h=>bZ (x:=p0) Cr h
theorem Y1:oE O65:=fun p0 r h=>(jm 64 54 11 (by decide) (by decide) _ _).trans (Af p0 r h)
theorem qbs:kC O65:=fun p0 r h=>(jm 61 52 13 (by decide) (by decide) _ _).trans (yM p0 r h)
theorem Hc:iQ Tryz.prog O66:=aV G4 (fun x r h=>i6 (ν:=n98) G4 Tryz.func98 (by kernel_rfl) i7 (Fs O65 Y1 qbs x.1 x.2 r h))
theorem ZA:wJ O66:=fun p0 p1 r h=>bZ (x:=(p0,p1)) VD h
theorem WA:kG O66:=fun p0 r h=>(jm 67 53 13 (by decide) (by decide) _ _).trans (wX p0 r h)
theorem HT:iQ Tryz.prog O67:=aV Hc (fun x r h=>i6 (ν:=n62) Hc Tryz.func62 (by kernel_rfl) i7 (yT O66 WA ZA x.1 x.2 r h))
theorem qfB: ∀x y,a67 x=a67 y->x=y:=by
 rintro⟨⟨ua1,ua2⟩,⟨ua3,ua4,ua5,ua6,ua7,ua8⟩⟩ ⟨⟨ub1,ub2⟩,⟨ub3,ub4,ub5,ub6,ub7,ub8⟩⟩ h
 simp only [a67,RI,bc,aZ,iD.map_inj,im.map_inj] at h
 simp only [h]
theorem YN:uY O67:=fun p0 p1 r h=>bZ (x:=(p0,p1)) qfB h
theorem qaj:kG O67:=fun p0 r h=>(jm 67 53 14 (by decide) (by decide) _ _).trans (wX p0 r h)
theorem WO:oE O67:=fun p0 r h=>(jm 64 54 13 (by decide) (by decide) _ _).trans (Af p0 r h)
theorem Zw:kC O67:=fun p0 r h=>(jm 61 52 15 (by decide) (by decide) _ _).trans (yM p0 r h)
theorem qbJ:rx O67:=fun p0 p1 r h=>(show O67 62 _ _=O66 62 _ _ from xQ (by intro x hx;simp [a67] at hx)).trans ((jm 62 64 2 (by decide) (by decide) _ _).trans ((show O64 62 _ _=O63 62 _ _ from xQ (by intro x hx;simp [a64] at hx)).trans ((jm 62 62 1 (by decide) (by decide) _ _).trans (YB p0 p1 r h))))
theorem ZW:xd O67:=fun p0 r h=>(jm 68 65 2 (by decide) (by decide) _ _).trans (Rt p0 r h)
theorem GX:iQ Tryz.prog O68:=aV HT (fun x r h=>i6 (ν:=n65) HT Tryz.func65 (by kernel_rfl) i7 (On O67 qaj WO Zw qbJ ZW YN x r h))
theorem WY:Hi O68:=fun p0 r h=>bZ (x:=p0) Cr h
theorem qaD:oE O68:=fun p0 r h=>(jm 64 54 14 (by decide) (by decide) _ _).trans (Af p0 r h)
theorem qbc:kC O68:=fun p0 r h=>(jm 61 52 16 (by decide) (by decide) _ _).trans (yM p0 r h)
theorem GZ:iQ Tryz.prog O69:=aV GX (fun x r h=>i6 (ν:=n63) GX Tryz.func63 (by kernel_rfl) i7 (AN O68 qaD WY qbc x.1 x.2 r h))
theorem qdi: ∀x y,a69 x=a69 y->x=y:=by
 rintro⟨⟨ua1,ua2⟩,⟨⟨ua3,ua4⟩,ua5,ua6⟩⟩ ⟨⟨ub1,ub2⟩,⟨⟨ub3,ub4⟩,ub5,ub6⟩⟩ h
 simp only [a69,RI,bc,ip.map_inj,gi.map_inj] at h
 simp only [h]
theorem ZU:tK O69:=fun p0 p1 r h=>bZ (x:=(p0,p1)) qdi h
theorem qcj:kG O69:=fun p0 r h=>(jm 67 53 16 (by decide) (by decide) _ _).trans (wX p0 r h)
theorem HO:iQ Tryz.prog O70:=aV GZ (fun x r h=>i6 (ν:=n62) GZ Tryz.func62 (by kernel_rfl) i7 (wY O69 qcj ZU x.1 x.2 r h))
theorem qcO: ∀x y,a70 x=a70 y->x=y:=by
 rintro⟨⟨ua1,ua2⟩,⟨⟨ua3,ua4⟩,ua5,ua6⟩⟩ ⟨⟨ub1,ub2⟩,⟨⟨ub3,ub4⟩,ub5,ub6⟩⟩ h
 simp only [a70,RI,bc,ip.map_inj,gi.map_inj] at h
 simp only [h]
theorem X9:oO O70:=fun p0 p1 r h=>bZ (x:=(p0,p1)) qcO h
theorem qax:kC O70:=fun p0 r h=>(jm 61 52 18 (by decide) (by decide) _ _).trans (yM p0 r h)
theorem XC:kG O70:=fun p0 r h=>(jm 67 53 17 (by decide) (by decide) _ _).trans (wX p0 r h)
theorem Z9:oE O70:=fun p0 r h=>(jm 64 54 16 (by decide) (by decide) _ _).trans (Af p0 r h)
theorem XY:xd O70:=fun p0 r h=>(jm 68 65 5 (by decide) (by decide) _ _).trans (Rt p0 r h)
theorem Hu:iQ Tryz.prog O71:=aV HO (fun x r h=>i6 (ν:=n66) HO Tryz.func66 (by kernel_rfl) i7 (Bj O70 qax XC Z9 XY x.1 x.2 r h))
theorem qd0: ∀x y,a71 x=a71 y->x=y:=by
 rintro⟨⟨ua1,ua2⟩,⟨⟨ua3,ua4⟩,ua5,ua6⟩⟩ ⟨⟨ub1,ub2⟩,⟨⟨ub3,ub4⟩,ub5,ub6⟩⟩ h
 simp only [a71,RI,bc,ip.map_inj,gi.map_inj] at h
 simp only [h]
theorem qaf:tW O71:=fun p0 p1 r h=>bZ (x:=(p0,p1)) qd0 h
theorem qaA:kG O71:=fun p0 r h=>(jm 67 53 18 (by decide) (by decide) _ _).trans (wX p0 r h)
theorem HN:iQ Tryz.prog O72:=aV Hu (fun x r h=>i6 (ν:=n62) Hu Tryz.func62 (by kernel_rfl) i7 (wN O71 qaA qaf x.1 x.2 r h))
theorem qgg: ∀x y,a72 x=a72 y->x=y:=by
 rintro⟨⟨ua1,ua2⟩,⟨⟨ua3,ua4⟩,ua5,ua6⟩⟩ ⟨⟨ub1,ub2⟩,⟨⟨ub3,ub4⟩,ub5,ub6⟩⟩ h
 simp only [a72,RI,bc,ip.map_inj,gi.map_inj] at h
 simp only [h]
theorem Yg:sC O72:=fun p0 p1 r h=>bZ (x:=(p0,p1)) qgg h
theorem qbL:vd O72:=fun p0 r h=>(jm 40 60 12 (by decide) (by decide) _ _).trans (qb2 p0 r h)
theorem WR:kC O72:=fun p0 r h=>(jm 61 52 20 (by decide) (by decide) _ _).trans (yM p0 r h)
theorem qa2:oO O72:=fun p0 p1 r h=>(show O72 62 _ _=O71 62 _ _ from xQ (by intro x hx;simp [a72] at hx)).trans ((jm 62 70 1 (by decide) (by decide) _ _).trans (X9 p0 p1 r h))
theorem Yq:C1 O72:=fun p0 p1 r h=>(jm 69 58 14 (by decide) (by decide) _ _).trans (P4 p0 p1 r h)
theorem XL:N2 O72:=fun p0 r h=>(jm 55 48 24 (by decide) (by decide) _ _).trans (Qj p0 r h)
theorem Ih:iQ Tryz.prog O73:=aV HN (fun x r h=>i6 (ν:=n29) HN Tryz.func29 (by kernel_rfl) i7 (E9 O72 qbL WR qa2 Yg Yq XL x r h))
theorem Zd:z8 O73:=fun p0 r h=>bZ (x:=p0) Fz h
theorem qe3:rL O73:=fun p0 r h=>(jm 16 5 68 (by decide) (by decide) _ _).trans (qdC p0 r h)
theorem Yi:xE O73:=fun p0 r h=>(jm 25 50 23 (by decide) (by decide) _ _).trans (XB p0 r h)
theorem qcl:tM O73:=fun p0 r h=>(jm 41 59 14 (by decide) (by decide) _ _).trans (Yy p0 r h)
theorem Hf:iQ Tryz.prog O74:=aV Ih (fun x r h=>i6 (ν:=n17) Ih Tryz.func17 (by kernel_rfl) i7 (Fh O73 qe3 Yi qcl Zd x r h))
theorem Za:wS O74:=fun p0 r h=>bZ (x:=p0) Fz h
theorem qg2:y0 O74:=fun p0 r h=>(jm 15 4 70 (by decide) (by decide) _ _).trans (qhi p0 r h)
theorem qfi:rL O74:=fun p0 r h=>(jm 16 5 69 (by decide) (by decide) _ _).trans (qdC p0 r h)
theorem G6:iQ Tryz.prog O75:=aV Hf (fun x r h=>i6 (ν:=n6) Hf Tryz.func6 (by kernel_rfl) i7 (Ev O74 qg2 qfi Za x r h))
theorem Zg:vX O75:=fun p0 r h=>bZ (x:=p0) RJ h
theorem HC:iQ Tryz.prog O76:=aV G6 (fun x r h=>i6 (ν:=n42) G6 Tryz.func42 (by kernel_rfl) i7 (qce O75 x.1 x.2.1 x.2.2 r h))
theorem qd1: ∀x y,a76 x=a76 y->x=y:=by
 rintro⟨ua1,ua2,ua3⟩ ⟨ub1,ub2,ub3⟩ h
 simp only [a76,RI] at h
 simp only [h]
theorem vf:kW O76:=fun p0 p1 p2 r h=>bZ (x:=(p0,p1,p2)) qd1 h
theorem Hn:iQ Tryz.prog O77:=aV HC (fun x r h=>i6 (ν:=n18) HC Tryz.func18 (by kernel_rfl) i7 (JZ O76 vf x r h))
theorem qab:yW O77:=fun p0 r h=>bZ (x:=p0) RJ h
theorem Gl:iQ Tryz.prog O78:=aV Hn (fun x r h=>i6 (ν:=n21) Hn Tryz.func21 (by kernel_rfl) i7 (L4 O77 x r h))
theorem qfE: ∀x y,a78 x=a78 y->x=y:=by
 rintro ua1 ub1 h
 simp only [a78,RI,bc] at h
 exact h
theorem XN:Ao O78:=fun p0 r h=>bZ (x:=p0) qfE h
theorem Gt:iQ Tryz.prog O79:=aV Gl (fun x r h=>i6 (ν:=n19) Gl Tryz.func19 (by kernel_rfl) i7 (Ed O78 x.1 x.2 r h))
theorem qcV: ∀x y,a79 x=a79 y->x=y:=by
 rintro⟨ua1,ua2⟩ ⟨ub1,ub2⟩ h
 simp only [a79,RI,bc] at h
 simp only [h]
theorem Ss:pu O79:=fun p0 p1 r h=>bZ (x:=(p0,p1)) qcV h
theorem GN:iQ Tryz.prog O80:=aV Gt (fun x r h=>i6 (ν:=n71) Gt Tryz.func71 (by kernel_rfl) i7 (FM O79 x r h))
theorem XT:uJ O80:=fun p0 r h=>bZ (x:=p0) Ug h
theorem WH:kW O80:=fun p0 p1 p2 r h=>(jm 42 76 4 (by decide) (by decide) _ _).trans (vf p0 p1 p2 r h)
theorem Gc:iQ Tryz.prog O81:=aV GN (fun x r h=>i6 (ν:=n73) GN Tryz.func73 (by kernel_rfl) i7 (Fk O80 WH x r h))
theorem Eh:kB O81:=fun p0 r h=>bZ (x:=p0) Ov h
theorem ZQ:kW O81:=fun p0 p1 p2 r h=>(jm 42 76 5 (by decide) (by decide) _ _).trans (vf p0 p1 p2 r h)
theorem GP:iQ Tryz.prog O82:=aV Gc (fun x r h=>i6 (ν:=Uo) Gc Tryz.func116 (by kernel_rfl) i7 (Ju O81 ZQ x r h))
theorem MU:lE O82:=fun p0 r h=>bZ (x:=p0) PD h
theorem Il:iQ Tryz.prog O83:=aV GP (fun x r h=>i6 (ν:=Pp) GP Tryz.func138 (by kernel_rfl) i7 (L7 O82 x r h))
theorem Wd:xT O83:=fun p0 r h=>bZ (x:=p0) NG h
theorem Ic:iQ Tryz.prog O84:=aV Il (fun x r h=>i6 (ν:=TP) Il Tryz.func118 (by kernel_rfl) i7 (Ka O83 x r h))
theorem L3:ln O84:=fun p0 r h=>bZ (x:=p0) PD h
theorem Wl:kW O84:=fun p0 p1 p2 r h=>(jm 42 76 8 (by decide) (by decide) _ _).trans (vf p0 p1 p2 r h)
theorem Gq:iQ Tryz.prog O85:=aV Ic (fun x r h=>i6 (ν:=T0) Ic Tryz.func119 (by kernel_rfl) i7 (IF O84 Wl x r h))
theorem M1:oz O85:=fun p0 r h=>bZ (x:=p0) Ov h
theorem H8:iQ Tryz.prog O86:=aV Gq (fun x r h=>i6 (ν:=M4) Gq Tryz.func139 (by kernel_rfl) i7 (EL O85 x.1 x.2 r h))
theorem Zz:tN O86:=fun p0 p1 r h=>bZ (x:=(p0,p1)) VQ h
theorem Ib:iQ Tryz.prog O87:=aV H8 (fun x r h=>i6 (ν:=Jf) H8 Tryz.func140 (by kernel_rfl) i7 (Jn O86 x.1 x.2 r h))
theorem qbB:xC O87:=fun p0 p1 r h=>bZ (x:=(p0,p1)) VB h
theorem qa7:kW O87:=fun p0 p1 p2 r h=>(jm 42 76 11 (by decide) (by decide) _ _).trans (vf p0 p1 p2 r h)
theorem qcd:xT O87:=fun p0 r h=>(jm 138 83 4 (by decide) (by decide) _ _).trans (Wd p0 r h)
theorem qaP:ln O87:=fun p0 r h=>(jm 118 84 3 (by decide) (by decide) _ _).trans (L3 p0 r h)
theorem qbu:oz O87:=fun p0 r h=>(jm 119 85 2 (by decide) (by decide) _ _).trans (M1 p0 r h)
theorem Ye:lE O87:=fun p0 r h=>(jm 116 82 5 (by decide) (by decide) _ _).trans (MU p0 r h)
theorem qap:tN O87:=fun p0 p1 r h=>(jm 139 86 1 (by decide) (by decide) _ _).trans (Zz p0 p1 r h)
theorem Hm:iQ Tryz.prog O88:=aV Ib (fun x r h=>i6 (ν:=qO) Ib Tryz.func117 (by kernel_rfl) i7 (De O87 qa7 qcd qaP qbu Ye qap qbB x r h))
theorem qbQ:tG O88:=fun p0 r h=>bZ (x:=p0) NG h
theorem qbq:kW O88:=fun p0 p1 p2 r h=>(jm 42 76 12 (by decide) (by decide) _ _).trans (vf p0 p1 p2 r h)
theorem YY:lE O88:=fun p0 r h=>(jm 116 82 6 (by decide) (by decide) _ _).trans (MU p0 r h)
theorem FU:iQ Tryz.prog O89:=aV Hm (fun x r h=>i6 (ν:=yy) Hm Tryz.func105 (by kernel_rfl) i7 (C4 O88 qbq YY qbQ x r h))
theorem XJ:tF O89:=fun p0 r h=>bZ (x:=p0) V0 h
theorem Ww:kW O89:=fun p0 p1 p2 r h=>(jm 42 76 13 (by decide) (by decide) _ _).trans (vf p0 p1 p2 r h)
theorem Y4:ln O89:=fun p0 r h=>(jm 118 84 5 (by decide) (by decide) _ _).trans (L3 p0 r h)
theorem qai:oz O89:=fun p0 r h=>(jm 119 85 4 (by decide) (by decide) _ _).trans (M1 p0 r h)
theorem GM:iQ Tryz.prog O90:=aV FU (fun x r h=>i6 (ν:=FB) FU Tryz.func106 (by kernel_rfl) i7 (DZ O89 Ww Y4 qai x r h))
theorem XO:tS O90:=fun p0 r h=>bZ (x:=p0) VC h
theorem Xr:tF O90:=fun p0 r h=>(jm 105 89 1 (by decide) (by decide) _ _).trans (XJ p0 r h)
theorem qa0:kW O90:=fun p0 p1 p2 r h=>(jm 42 76 14 (by decide) (by decide) _ _).trans (vf p0 p1 p2 r h)
theorem Zf:kB O90:=fun p0 r h=>(jm 73 81 9 (by decide) (by decide) _ _).trans (Eh p0 r h)
theorem GL:iQ Tryz.prog O91:=aV GM (fun x r h=>i6 (ν:=n90) GM Tryz.func90 (by kernel_rfl) i7 (BB O90 Xr qa0 Zf XO x r h))
theorem Sa:pE O91:=fun p0 r h=>bZ (x:=p0) VM h
theorem qbU:kB O91:=fun p0 r h=>(jm 73 81 10 (by decide) (by decide) _ _).trans (Eh p0 r h)
theorem Gu:iQ Tryz.prog O92:=aV GL (fun x r h=>i6 (ν:=n72) GL Tryz.func72 (by kernel_rfl) i7 (FI O91 qbU Sa x r h))
theorem qbr:wV O92:=fun p0 r h=>bZ (x:=p0) Ug h
theorem qae:kW O92:=fun p0 p1 p2 r h=>(jm 42 76 16 (by decide) (by decide) _ _).trans (vf p0 p1 p2 r h)
theorem Xw:lE O92:=fun p0 r h=>(jm 116 82 10 (by decide) (by decide) _ _).trans (MU p0 r h)
theorem qbk:ln O92:=fun p0 r h=>(jm 118 84 8 (by decide) (by decide) _ _).trans (L3 p0 r h)
theorem Y6:oz O92:=fun p0 r h=>(jm 119 85 7 (by decide) (by decide) _ _).trans (M1 p0 r h)
theorem Hx:iQ Tryz.prog O93:=aV Gu (fun x r h=>i6 (ν:=Ae) Gu Tryz.func112 (by kernel_rfl) i7 (Bn O92 qae Xw qbk Y6 x r h))
theorem qa4:xx O93:=fun p0 r h=>bZ (x:=p0) Vp h
theorem Xj:kB O93:=fun p0 r h=>(jm 73 81 12 (by decide) (by decide) _ _).trans (Eh p0 r h)
theorem GO:iQ Tryz.prog O94:=aV Hx (fun x r h=>i6 (ν:=MT) Hx Tryz.func100 (by kernel_rfl) i7 (FE O93 Xj qa4 x r h))
theorem qb1:zT O94:=fun p0 r h=>bZ (x:=p0) Vj h
theorem qa5:kB O94:=fun p0 r h=>(jm 73 81 13 (by decide) (by decide) _ _).trans (Eh p0 r h)
theorem WM:kW O94:=fun p0 p1 p2 r h=>(jm 42 76 18 (by decide) (by decide) _ _).trans (vf p0 p1 p2 r h)
theorem GS:iQ Tryz.prog O95:=aV GO (fun x r h=>i6 (ν:=n74) GO Tryz.func74 (by kernel_rfl) i7 (EU O94 qa5 WM qb1 x r h))
theorem Sc:sy O95:=fun p0 r h=>bZ (x:=p0) VH h
theorem YW:kW O95:=fun p0 p1 p2 r h=>(jm 42 76 19 (by decide) (by decide) _ _).trans (vf p0 p1 p2 r h)
theorem Zx:uJ O95:=fun p0 r h=>(jm 71 80 15 (by decide) (by decide) _ _).trans (XT p0 r h)
theorem Yh:wV O95:=fun p0 r h=>(jm 72 92 3 (by decide) (by decide) _ _).trans (qbr p0 r h)
theorem qck:kB O95:=fun p0 r h=>(jm 73 81 14 (by decide) (by decide) _ _).trans (Eh p0 r h)
theorem HQ:iQ Tryz.prog O96:=aV GS (fun x r h=>i6 (ν:=n32) GS Tryz.func32 (by kernel_rfl) i7 (CS O95 YW Zx Yh qck Sc x r h))
theorem V8:vq O96:=fun p0 r h=>bZ (x:=p0) VN h
theorem G7:iQ Tryz.prog O97:=aV HQ (fun x r h=>i6 (ν:=n85) HQ Tryz.func85 (by kernel_rfl) i7 (Fa O96 x r h))
theorem ED: ∀x y,a97 x=a97 y->x=y:=by
 rintro⟨ua1,ua2⟩ ⟨ub1,ub2⟩ h
 simp only [a97,RI,bc] at h
 simp only [h]
theorem BN:jZ O97:=fun p0 r h=>bZ (x:=p0) ED h
theorem Gs:iQ Tryz.prog O98:=aV G7 (fun x r h=>i6 (ν:=n84) G7 Tryz.func84 (by kernel_rfl) i7 (Ff O97 BN x r h))
theorem MK:lA O98:=fun p0 r h=>bZ (x:=p0) ED h
theorem FS:iQ Tryz.prog O99:=aV Gs (fun x r h=>i6 (ν:=n86) Gs Tryz.func86 (by kernel_rfl) i7 (EX O98 x r h))
theorem Da:jV O99:=fun p0 r h=>bZ (x:=p0) ED h
theorem qbn:jZ O99:=fun p0 r h=>(jm 85 97 2 (by decide) (by decide) _ _).trans (BN p0 r h)
theorem EG:iQ Tryz.prog ID:=aV FS (fun x r h=>i6 (ν:=n87) FS Tryz.func87 (by kernel_rfl) i7 (IM O99 qbn Da x r h))
theorem AX:kQ ID:=fun p0 r h=>bZ (x:=p0) ED h
theorem Ta:lA ID:=fun p0 r h=>(jm 84 98 2 (by decide) (by decide) _ _).trans (MK p0 r h)
theorem T6:jZ ID:=fun p0 r h=>(jm 85 97 3 (by decide) (by decide) _ _).trans (BN p0 r h)
theorem D8:iQ Tryz.prog KJ:=aV EG (fun x r h=>i6 (ν:=n82) EG Tryz.func82 (by kernel_rfl) i7 (Ar ID Ta T6 AX x r h))
theorem PQ:tR KJ:=fun p0 r h=>bZ (x:=p0) ED h
theorem SV:jV KJ:=fun p0 r h=>(jm 86 99 2 (by decide) (by decide) _ _).trans (Da p0 r h)
theorem EJ:iQ Tryz.prog Ix:=aV D8 (fun x r h=>i6 (ν:=n83) D8 Tryz.func83 (by kernel_rfl) i7 (IE KJ SV x.1 x.2 r h))
theorem W7: ∀x y,Ue x=Ue y->x=y:=by
 rintro⟨ua1,⟨ua2,ua3⟩⟩ ⟨ub1,⟨ub2,ub3⟩⟩ h
 simp only [Ue,RI,bc] at h
 simp only [h]
theorem JQ:vF Ix:=fun p0 p1 r h=>bZ (x:=(p0,p1)) W7 h
theorem R8:tR Ix:=fun p0 r h=>(jm 82 101 1 (by decide) (by decide) _ _).trans (PQ p0 r h)
theorem Tr:sy Ix:=fun p0 r h=>(jm 74 95 7 (by decide) (by decide) _ _).trans (Sc p0 r h)
theorem Ef:iQ Tryz.prog Fl:=aV EJ (fun x r h=>i6 (ν:=n43) EJ Tryz.func43 (by kernel_rfl) i7 (Mi Ix R8 JQ Tr x r h))
theorem Sn:Al Fl:=fun p0 r h=>bZ (x:=p0) Fz h
theorem SE:jZ Fl:=fun p0 r h=>(jm 85 97 6 (by decide) (by decide) _ _).trans (BN p0 r h)
theorem SI:jV Fl:=fun p0 r h=>(jm 86 99 4 (by decide) (by decide) _ _).trans (Da p0 r h)
theorem Qn:kQ Fl:=fun p0 r h=>(jm 87 100 3 (by decide) (by decide) _ _).trans (AX p0 r h)
theorem Ek:iQ Tryz.prog DQ:=aV Ef (fun x r h=>i6 (ν:=n89) Ef Tryz.func89 (by kernel_rfl) i7 (FH Fl SE SI Qn x r h))
theorem Lm:sr DQ:=fun p0 r h=>bZ (x:=p0) ED h
theorem UA:jZ DQ:=fun p0 r h=>(jm 85 97 7 (by decide) (by decide) _ _).trans (BN p0 r h)
theorem Sq:kQ DQ:=fun p0 r h=>(jm 87 100 4 (by decide) (by decide) _ _).trans (AX p0 r h)
theorem Sx:lA DQ:=fun p0 r h=>(jm 84 98 6 (by decide) (by decide) _ _).trans (MK p0 r h)
theorem Tw:jV DQ:=fun p0 r h=>(jm 86 99 5 (by decide) (by decide) _ _).trans (Da p0 r h)
theorem D7:iQ Tryz.prog AE:=aV Ek (fun x r h=>i6 (ν:=n88) Ek Tryz.func88 (by kernel_rfl) i7 (Ad DQ UA Sq Sx Lm Tw x r h))
theorem QC:sS AE:=fun p0 r h=>bZ (x:=p0) ED h
theorem SW:lA AE:=fun p0 r h=>(jm 84 98 7 (by decide) (by decide) _ _).trans (MK p0 r h)
theorem U4:jZ AE:=fun p0 r h=>(jm 85 97 8 (by decide) (by decide) _ _).trans (BN p0 r h)
theorem PO:vF AE:=fun p0 p1 r h=>(jm 83 102 3 (by decide) (by decide) _ _).trans (JQ p0 p1 r h)
theorem Tm:pE AE:=fun p0 r h=>(jm 90 91 14 (by decide) (by decide) _ _).trans (Sa p0 r h)
theorem UQ:jV AE:=fun p0 r h=>(jm 86 99 6 (by decide) (by decide) _ _).trans (Da p0 r h)
theorem Sh:kQ AE:=fun p0 r h=>(jm 87 100 5 (by decide) (by decide) _ _).trans (AX p0 r h)
theorem Sb:sr AE:=fun p0 r h=>(jm 89 104 1 (by decide) (by decide) _ _).trans (Lm p0 r h)
theorem DR:iQ Tryz.prog Dy:=aV D7 (fun x r h=>i6 (ν:=n44) D7 Tryz.func44 (by kernel_rfl) i7 (Fq AE SW U4 PO Tm UQ Sh QC Sb x r h))
theorem Ri:z7 Dy:=fun p0 r h=>bZ (x:=p0) Fz h
theorem TY:kW Dy:=fun p0 p1 p2 r h=>(jm 42 76 30 (by decide) (by decide) _ _).trans (vf p0 p1 p2 r h)
theorem Ts:pu Dy:=fun p0 p1 r h=>(jm 19 79 27 (by decide) (by decide) _ _).trans (Ss p0 p1 r h)
theorem SZ:vq Dy:=fun p0 r h=>(jm 32 96 10 (by decide) (by decide) _ _).trans (V8 p0 r h)
theorem Qz:Al Dy:=fun p0 r h=>(jm 43 103 3 (by decide) (by decide) _ _).trans (Sn p0 r h)
theorem Dj:iQ Tryz.prog E7:=aV DR (fun x r h=>i6 (ν:=n20) DR Tryz.func20 (by kernel_rfl) i7 (Ip Dy TY Ts SZ Qz Ri x r h))
theorem Rx:xF E7:=fun p0 r h=>bZ (x:=p0) Fz h
theorem UF:yW E7:=fun p0 r h=>(jm 18 77 30 (by decide) (by decide) _ _).trans (qab p0 r h)
theorem TX:Ao E7:=fun p0 r h=>(jm 21 78 29 (by decide) (by decide) _ _).trans (XN p0 r h)
theorem SJ:pu E7:=fun p0 p1 r h=>(jm 19 79 28 (by decide) (by decide) _ _).trans (Ss p0 p1 r h)
theorem Eb:iQ Tryz.prog L6:=aV Dj (fun x r h=>i6 (ν:=n7) Dj Tryz.func7 (by kernel_rfl) i7 (Au E7 UF TX SJ Rx x r h))
theorem RL:tI L6:=fun p0 r h=>bZ (x:=p0) RJ h
theorem Et:iQ Tryz.prog Mg:=aV Eb (fun x r h=>i6 (ν:=Fo) Eb Tryz.func114 (by kernel_rfl) i7 (Fe L6 x.1 x.2 r h))
theorem ZM: ∀x y,Tl x=Tl y->x=y:=by
 rintro⟨ua1,ua2⟩ ⟨ub1,ub2⟩ h
 simp only [Tl,RI,aZ] at h
 simp only [h]
theorem JJ:qL Mg:=fun p0 p1 r h=>bZ (x:=(p0,p1)) ZM h
theorem Dq:iQ Tryz.prog MZ:=aV Et (fun x r h=>i6 (ν:=yJ) Et Tryz.func113 (by kernel_rfl) i7 (EV Mg JJ x.1 x.2 r h))
theorem qak: ∀x y,Tv x=Tv y->x=y:=by
 rintro⟨⟨ua1,ua2,ua3,ua4,ua5,ua6⟩,⟨ua7,ua8,ua9,ua10,ua11,ua12⟩⟩ ⟨⟨ub1,ub2,ub3,ub4,ub5,ub6⟩,⟨ub7,ub8,ub9,ub10,ub11,ub12⟩⟩ h
 simp only [Tv,RI,aZ,iD.map_inj,im.map_inj] at h
 simp only [h]
theorem RS:uU MZ:=fun p0 p1 r h=>bZ (x:=(p0,p1)) qak h
theorem EI:iQ Tryz.prog Lx:=aV Dq (fun x r h=>i6 (ν:=BU) Dq Tryz.func102 (by kernel_rfl) i7 (Fb MZ RS x.1 x.2 r h))
theorem YP: ∀x y,TU x=TU y->x=y:=by
 rintro⟨⟨ua1,ua2⟩,⟨ua3,ua4⟩⟩ ⟨⟨ub1,ub2⟩,⟨ub3,ub4⟩⟩ h
 simp only [TU,RI,ip.map_inj] at h
 simp only [h]
theorem QO:uI Lx:=fun p0 p1 r h=>bZ (x:=(p0,p1)) YP h
theorem QY:qL Lx:=fun p0 p1 r h=>(jm 114 109 2 (by decide) (by decide) _ _).trans (JJ p0 p1 r h)
theorem EP:iQ Tryz.prog JU:=aV EI (fun x r h=>i6 (ν:=KR) EI Tryz.func103 (by kernel_rfl) i7 (Ft Lx QY x.1 x.2 r h))
theorem qbo: ∀x y,T2 x=T2 y->x=y:=by
 rintro⟨⟨ua1,ua2,ua3,ua4⟩,⟨ua5,ua6,ua7,ua8⟩⟩ ⟨⟨ub1,ub2,ub3,ub4⟩,⟨ub5,ub6,ub7,ub8⟩⟩ h
 simp only [T2,RI,aZ] at h
 simp only [h]
theorem Qc:uL JU:=fun p0 p1 r h=>bZ (x:=(p0,p1)) qbo h
theorem RF:uI JU:=fun p0 p1 r h=>(jm 102 111 1 (by decide) (by decide) _ _).trans (QO p0 p1 r h)
theorem DL:iQ Tryz.prog L9:=aV EP (fun x r h=>i6 (ν:=n79) EP Tryz.func79 (by kernel_rfl) i7 (CM JU RF Qc x.1 x.2 r h))
theorem qbx: ∀x y,SX x=SX y->x=y:=by
 rintro⟨⟨⟨ua1,ua2⟩,ua3,ua4⟩,⟨⟨ua5,ua6⟩,ua7,ua8⟩⟩ ⟨⟨⟨ub1,ub2⟩,ub3,ub4⟩,⟨⟨ub5,ub6⟩,ub7,ub8⟩⟩ h
 simp only [SX,RI,ip.map_inj,gi.map_inj] at h
 simp only [h]
theorem P9:vp L9:=fun p0 p1 r h=>bZ (x:=(p0,p1)) qbx h
theorem Dk:iQ Tryz.prog MF:=aV DL (fun x r h=>i6 (ν:=n38) DL Tryz.func38 (by kernel_rfl) i7 (IG L9 P9 x.1 x.2 r h))
theorem Xh: ∀x y,Ua x=Ua y->x=y:=by
 rintro⟨⟨ua1,ua2,⟨⟨ua3,ua4⟩,ua5,ua6⟩⟩,⟨ua7,ua8,⟨⟨ua9,ua10⟩,ua11,ua12⟩⟩⟩ ⟨⟨ub1,ub2,⟨⟨ub3,ub4⟩,ub5,ub6⟩⟩,⟨ub7,ub8,⟨⟨ub9,ub10⟩,ub11,ub12⟩⟩⟩ h
 simp only [Ua,RI,ip.map_inj,gi.map_inj] at h
 simp only [h]
theorem RX:xS MF:=fun p0 p1 r h=>bZ (x:=(p0,p1)) Xh h
theorem Ec:iQ Tryz.prog M8:=aV Dk (fun x r h=>i6 (ν:=n22) Dk Tryz.func22 (by kernel_rfl) i7 (C7 MF RX x.1 x.2 r h))
theorem Yt: ∀x y,Tk x=Tk y->x=y:=by
 rintro⟨⟨ua1,ua2,ua3,ua4,⟨ua5,ua6,ua7,⟨ua8,ua9,⟨ua10,ua11,ua12,ua13,ua14⟩⟩⟩,⟨ua15,ua16,⟨⟨ua17,ua18⟩,ua19,ua20⟩⟩⟩,⟨ua21,ua22,ua23,ua24,⟨ua25,ua26,ua27,⟨ua28,ua29,⟨ua30,ua31,ua32,ua33,ua34⟩⟩⟩,⟨ua35,ua36,⟨⟨ua37,ua38⟩,ua39,ua40⟩⟩⟩⟩ ⟨⟨ub1,ub2,ub3,ub4,⟨ub5,ub6,ub7,⟨ub8,ub9,⟨ub10,ub11,ub12,ub13,ub14⟩⟩⟩,⟨ub15,ub16,⟨⟨ub17,ub18⟩,ub19,ub20⟩⟩⟩,⟨ub21,ub22,ub23,ub24,⟨ub25,ub26,ub27,⟨ub28,ub29,⟨ub30,ub31,ub32,ub33,ub34⟩⟩⟩,⟨ub35,ub36,⟨⟨ub37,ub38⟩,ub39,ub40⟩⟩⟩⟩ h
 simp only [Tk,RI,ip.map_inj,gi.map_inj] at h
 simp only [h]
theorem Qe:vZ M8:=fun p0 p1 r h=>bZ (x:=(p0,p1)) Yt h
theorem EE:iQ Tryz.prog L5:=aV Ec (fun x r h=>i6 (ν:=n8) Ec Tryz.func8 (by kernel_rfl) i7 (CT M8 Qe x.1 x.2 r h))
theorem YM: ∀x y,UH x=UH y->x=y:=by
 rintro⟨ua1,ua2⟩ ⟨ub1,ub2⟩ h
 simp only [UH,RI,iw.map_inj] at h
 simp only [h]
theorem QS:sL L5:=fun p0 p1 r h=>bZ (x:=(p0,p1)) YM h
theorem Mm:iQ Tryz.prog JB:=aV EE (fun x r h=>i6 (ν:=n9) EE Tryz.func9 (by kernel_rfl) i7 (Jm L5 x.1 x.2 r h))
theorem WN: ∀x y,SG x=SG y->x=y:=by
 rintro⟨⟨ua1,ua2⟩,⟨ua3,ua4⟩⟩ ⟨⟨ub1,ub2⟩,⟨ub3,ub4⟩⟩ h
 simp only [SG,RI,bc] at h
 simp only [h]
theorem QV:xN JB:=fun p0 p1 r h=>bZ (x:=(p0,p1)) WN h
theorem XR:zf JB:=fun p0 r h=>(jm 5 2 115 (by decide) (by decide) _ _).trans (qhk p0 r h)
theorem T5:vX JB:=fun p0 r h=>(jm 6 75 42 (by decide) (by decide) _ _).trans (Zg p0 r h)
theorem RE:tI JB:=fun p0 r h=>(jm 7 108 9 (by decide) (by decide) _ _).trans (RL p0 r h)
theorem Sd:sL JB:=fun p0 p1 r h=>(jm 8 116 1 (by decide) (by decide) _ _).trans (QS p0 p1 r h)
theorem sem (rs:List (List V)) (h:eC Tryz.prog [24] rs):Mx.Sem Tryz.prog 3 (fD Tryz.prog [24] rs) [] (.v (.b true)) []:=by
 obtain⟨r0,_,rfl,a0,b0⟩:=eC.cons h
 obtain rfl:=eC.nil b0
 obtain⟨x0,rfl,o0⟩:=iY.of24 a0
 simp only [fD,JX Tryz.underlying24]
 exact i6 (ν:=n3) Mm Tryz.func3 (by kernel_rfl) i7 (B3 JB XR T5 RE Sd QV x0 true (AR x0 o0))
end CTapeRecovers
end Go.Proofs.YtgcglmoogaldbaaGreat
