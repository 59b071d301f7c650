/- What the functions that the law TapeRecovers reaches compute, as plain functions; no condition. -/
import Derived.Test.YtgcglmoogaldbaaGreatWTy
set_option linter.unusedSimpArgs false
set_option linter.unusedVariables false
set_option linter.constructorNameAsVariable false
set_option linter.unnecessarySimpa false
namespace Go.Proofs.YtgcglmoogaldbaaGreat
open Go Go.Mx Go.Proofs
noncomputable section
def uD (p0:List Int):Option (List Int):=
 bif dh p0.length 1 then
  some p0
 else
 none
def Ay (C:aj):Prop:=∀(p0:List Int) (r:(List Int)),uD p0=some r->C 14 [.v (.sl 1 (ah cE p0))] []=some (.v (.sl 1 (ah cE r)),[])
def vK (p0:iY):Option iY:=
 oB (uD p0.iW) fun x1=>
 some (iY.mk x1 p0.iP)
def zf (C:aj):Prop:=∀(p0:iY) (r:iY),vK p0=some r->C 5 [.agg [.v (.sl 1 (ah cE p0.iW)),.v (.i .i64 p0.iP)]] []=some (.agg [.v (.sl 1 (ah cE r.iW)),.v (.i .i64 r.iP)],[])
def tz (p0:List Int):Option (List Int):=bif dh p0.length 1 then some p0 else none
def zU (C:aj):Prop:=∀(p0:List Int) (r:(List Int)),tz p0=some r->C 40 [.v (.sl 1 (ah cE p0))] []=some (.own 1 (ah cE r),[])
def mT (p0:iY):Bool:=
 bif decide (p0.iP<0) then
  true
 else
 bif decide ((p0.iW.length:Int)<p0.iP) then
  true
 else
 decide (400000<(p0.iW.length:Int))
def vM (p0:iY):Option (iY×Bool):=
 bif (mT p0) then
  some ((iY.mk [] 0),false)
 else
 oB (tz p0.iW) fun x1=>
 some ((iY.mk x1 p0.iP),true)
def y0 (C:aj):Prop:=∀(p0:iY) (r:iY×Bool),vM p0=some r->C 15 [.agg [.v (.sl 1 (ah cE p0.iW)),.v (.i .i64 p0.iP)]] []=some (.tup [.agg [.v (.sl 1 (ah cE r.1.iW)),.v (.i .i64 r.1.iP)],.v (.b r.2)],[])
def kx (p0:List Int):Option Int:=
 oB (idx p0 0) fun x1=>
 oB (idx p0 1) fun x2=>
 oB (idx p0 2) fun x3=>
 some (IntKind.i64.wrap (BitVec.ofInt IntKind.i64.bits (IntKind.i64.wrap (BitVec.ofInt IntKind.i64.bits (IntKind.i64.wrap ((IntKind.i64.wrap x1)*2 ^ (min (16:Int).toNat IntKind.i64.bits)))|||BitVec.ofInt IntKind.i64.bits (IntKind.i64.wrap ((IntKind.i64.wrap x2)*2 ^ (min (8:Int).toNat IntKind.i64.bits)))).toNat)|||BitVec.ofInt IntKind.i64.bits (IntKind.i64.wrap x3)).toNat)
def rL (C:aj):Prop:=∀(p0:List Int) (r:Int),kx p0=some r->C 16 [.v (.sl 1 (ah cE p0))] []=some (.v (.i .i64 r),[])
def qW (p0:Int) (p1:ir):Option ((List Int)×ir):=
 bif p1.fshort then
  some ([],(ir.mk p1.frest true))
 else
 bif decide ((p1.frest.length:Int)<p0) then
  some ([],(ir.mk p1.frest true))
 else
 bif nB 0 p0 (p1.frest.length:Int) then
  bif nB p0 (p1.frest.length:Int) (p1.frest.length:Int) then
   some ((dm p1.frest 0 p0),(ir.mk (dm p1.frest p0 (p1.frest.length:Int)) false))
  else
  none
 else
 none
def xB (C:aj):Prop:=∀(p0:Int) (p1:ir) (r:(List Int)×ir),qW p0 p1=some r->C 96 [.ptr 0 0,.v (.i .i64 p0)] [[.v (.sl 1 (ah cE p1.frest)),.v (.b p1.fshort)]]=some (.v (.sl 1 (ah cE r.1)),[[.v (.sl 1 (ah cE r.2.frest)),.v (.b r.2.fshort)]])
def qy (p1:List Int) (p2:Int) (p4:ir) (s:Int×Int):Option ((Int×Int)⊕Int):=
 match s with
 |(p0,p3)=>
  bif decide (p3<p2) then
   oB (idx p1 p3) fun x1=>
   some (.inl ((IntKind.u64.wrap (BitVec.ofInt IntKind.u64.bits (IntKind.u64.wrap (p0*2 ^ (min (8:Int).toNat IntKind.u64.bits)))|||BitVec.ofInt IntKind.u64.bits (IntKind.u64.wrap x1)).toNat),(IntKind.i64.wrap (p3+1))))
  else
  some (.inr p0)
def kz (p0:ir):Option (Int×ir):=
 oB (qW 8 p0) fun (x1,x2)=>
 oB (cM (qy x1 (x1.length:Int) x2) (0,0)) fun x3=>
 some ((IntKind.i64.wrap (IntKind.u64.wrap (x3-4611686018427387904))),x2)
def kC (C:aj):Prop:=∀(p0:ir) (r:Int×ir),kz p0=some r->C 61 [.ptr 0 0] [[.v (.sl 1 (ah cE p0.frest)),.v (.b p0.fshort)]]=some (.v (.i .i64 r.1),[[.v (.sl 1 (ah cE r.2.frest)),.v (.b r.2.fshort)]])
def tD (p0:List Int) (p1:Int) (p2:ir) (s:Unit):Option (Unit⊕(Int⊕Unit)):=
 match s with
 |_=>
  bif decide (0<p1) then
   oB (idx p0 0) fun x1=>
   some (.inr (.inl (IntKind.i64.wrap x1)))
  else
  some (.inr (.inr ()))
def nn (p0:ir):Option (Int×ir):=
 oB (qW 1 p0) fun (x1,x2)=>
 oB (cM (tD x1 (x1.length:Int) x2) ()) fun
 | .inl x3=>
  some (x3,x2)
 | .inr _=>
  some (0,x2)
def kG (C:aj):Prop:=∀(p0:ir) (r:Int×ir),nn p0=some r->C 67 [.ptr 0 0] [[.v (.sl 1 (ah cE p0.frest)),.v (.b p0.fshort)]]=some (.v (.i .i64 r.1),[[.v (.sl 1 (ah cE r.2.frest)),.v (.b r.2.fshort)]])
def qN (p0:ir):Option (ByteArray×ir):=
 oB (nn p0) fun (x1,x2)=>
 oB (qW x1 x2) fun (x3,x4)=>
 bif vE x3 then
  some ((FC x3),x4)
 else
 none
def oE (C:aj):Prop:=∀(p0:ir) (r:ByteArray×ir),qN p0=some r->C 64 [.ptr 0 0] [[.v (.sl 1 (ah cE p0.frest)),.v (.b p0.fshort)]]=some (.v (.s r.1),[[.v (.sl 1 (ah cE r.2.frest)),.v (.b r.2.fshort)]])
def uh (p0:ir):Option (iB×ir):=
 oB (nn p0) fun (x1,x2)=>
 oB (qN x2) fun (x3,x4)=>
 oB (qN x4) fun (x5,x6)=>
 oB (qN x6) fun (x7,x8)=>
 oB (kz x8) fun (x9,x10)=>
 some ((iB.mk x1 x3 x5 x7 x9),x10)
def zi (C:aj):Prop:=∀(p0:ir) (r:iB×ir),uh p0=some r->C 115 [.ptr 0 0] [[.v (.sl 1 (ah cE p0.frest)),.v (.b p0.fshort)]]=some (.agg [.v (.i .i64 r.1.bt),.v (.s r.1.iU),.v (.s r.1.iE),.v (.s r.1.iq),.v (.i .i64 r.1.fN)],[[.v (.sl 1 (ah cE r.2.frest)),.v (.b r.2.fshort)]])
def pX (p0:Bool) (p1:ir) (p2:Int):Option (ir×i8):=
 bif p0 then
  oB (kz p1) fun (x1,x2)=>
  oB (uh x2) fun (x3,x4)=>
  some (x4,(i8.mk p2 x1 x3))
 else
 some (p1,(i8.mk p2 0 (iB.mk 0 ByteArray.empty ByteArray.empty ByteArray.empty 0)))
def Bz (p0:ir):Option (i8×ir):=
 oB (kz p0) fun (x1,x2)=>
 oB (pX (!(x1==0)) x2 x1) fun (x3,x4)=>
 some (x4,x3)
def Ko (C:aj):Prop:=∀(p0:ir) (r:i8×ir),Bz p0=some r->C 104 [.ptr 0 0] [[.v (.sl 1 (ah cE p0.frest)),.v (.b p0.fshort)]]=some (.agg [.v (.i .i64 r.1.iO),.v (.i .i64 r.1.je),.v (.i .i64 r.1.ad.bt),.v (.s r.1.ad.iU),.v (.s r.1.ad.iE),.v (.s r.1.ad.iq),.v (.i .i64 r.1.ad.fN)],[[.v (.sl 1 (ah cE r.2.frest)),.v (.b r.2.fshort)]])
def Ai (p0:ir):Option (iV×Bool×ir):=
 oB (kz p0) fun (x1,x2)=>
 oB (kz x2) fun (x3,x4)=>
 oB (nn x4) fun (x5,x6)=>
 bif (x5==0) then
  oB (Bz x6) fun (x7,x8)=>
  some ((iV.mk x1 x3 false x7),true,x8)
 else
 bif (x5==1) then
  some ((iV.mk x1 x3 true (i8.mk 0 0 (iB.mk 0 ByteArray.empty ByteArray.empty ByteArray.empty 0))),true,x6)
 else
 some ((iV.mk x1 x3 false (i8.mk 0 0 (iB.mk 0 ByteArray.empty ByteArray.empty ByteArray.empty 0))),false,x6)
def Ey (C:aj):Prop:=∀(p0:ir) (r:iV×Bool×ir),Ai p0=some r->C 81 [.ptr 0 0] [[.v (.sl 1 (ah cE p0.frest)),.v (.b p0.fshort)]]=some (.tup [.agg [.v (.i .i64 r.1.iI),.v (.i .i64 r.1.iS),.v (.b r.1.jY),.v (.i .i64 r.1.cO.iO),.v (.i .i64 r.1.cO.je),.v (.i .i64 r.1.cO.ad.bt),.v (.s r.1.cO.ad.iU),.v (.s r.1.cO.ad.iE),.v (.s r.1.cO.ad.iq),.v (.i .i64 r.1.cO.ad.fN)],.v (.b r.2.1)],[[.v (.sl 1 (ah cE r.2.2.frest)),.v (.b r.2.2.fshort)]])
def Ct (p0:Bool) (p1:ir):Option (Int×ir):=
 bif p1.fshort then
  some (9,p1)
 else
 bif p0 then
  bif decide (0<(p1.frest.length:Int)) then
   some (8,(ir.mk p1.frest false))
  else
  some (0,(ir.mk p1.frest false))
 else
 some (8,(ir.mk p1.frest false))
def C1 (C:aj):Prop:=∀(p0:Bool) (p1:ir) (r:Int×ir),Ct p0 p1=some r->C 69 [.ptr 0 0,.v (.b p0)] [[.v (.sl 1 (ah cE p1.frest)),.v (.b p1.fshort)]]=some (.v (.i .i64 r.1),[[.v (.sl 1 (ah cE r.2.frest)),.v (.b r.2.fshort)]])
def qD (p0:Int):Option Bool:=
 bif decide (1<=p0) then
  some (decide (p0<=1048576))
 else
 some false
def lZ (p0:Int):Bool:=(decide (1<=p0)&&decide (p0<=1048576))
theorem yt (p0:Int):qD p0=some (lZ p0):=by
 simp only [qD,lZ]
 cases decide (1<=p0)<;>rfl
def vr (C:aj):Prop:=∀(p0:Int) (r:Bool),qD p0=some r->C 107 [.v (.i .i64 p0)] []=some (.v (.b r),[])
def tu (p0:ByteArray):Option Bool:=
 bif decide (1<=(p0.size:Int)) then
  some (decide ((p0.size:Int)<=12))
 else
 some false
def jc (p0:ByteArray):Bool:=(decide (1<=(p0.size:Int))&&decide ((p0.size:Int)<=12))
theorem uN (p0:ByteArray):tu p0=some (jc p0):=by
 simp only [tu,jc]
 cases decide (1<=(p0.size:Int))<;>rfl
def qJ (C:aj):Prop:=∀(p0:ByteArray) (r:Bool),tu p0=some r->C 120 [.v (.s p0)] []=some (.v (.b r),[])
def uE (p0:ByteArray):Option Bool:=
 some (decide ((p0.size:Int)<=20))
def jd (p0:ByteArray):Bool:=decide ((p0.size:Int)<=20)
theorem mw (p0:ByteArray):uE p0=some (jd p0):=by
 simp only [uE,jd]
def lc (C:aj):Prop:=∀(p0:ByteArray) (r:Bool),uE p0=some r->C 121 [.v (.s p0)] []=some (.v (.b r),[])
def tm (p0:Int):Option Bool:=
 bif decide ((-1099511627776)<=p0) then
  some (decide (p0<=1099511627776))
 else
 some false
def jA (p0:Int):Bool:=(decide ((-1099511627776)<=p0)&&decide (p0<=1099511627776))
theorem wW (p0:Int):tm p0=some (jA p0):=by
 simp only [tm,jA]
 cases decide ((-1099511627776)<=p0)<;>rfl
def qC (C:aj):Prop:=∀(p0:Int) (r:Bool),tm p0=some r->C 122 [.v (.i .i64 p0)] []=some (.v (.b r),[])
def pk (p0:iB) (p1:Bool) (p2:Int) (p3:ByteArray):iB:=
 bif p1 then
  (iB.mk p2 ByteArray.empty ByteArray.empty ByteArray.empty 0)
 else
 (iB.mk p2 p3 ByteArray.empty ByteArray.empty 0)
def pj (p0:iB) (p1:Int) (p2:Bool) (p3:ByteArray):iB:=
 bif p2 then
  (iB.mk p1 p3 ByteArray.empty p0.iq p0.fN)
 else
 (pk p0 (p1==22) p1 p3)
def pi (p0:iB) (p1:Int) (p2:Bool) (p3:ByteArray):iB:=
 bif p2 then
  (iB.mk p1 p3 p0.iE p0.iq 0)
 else
 bif (p1==5) then
  (iB.mk p1 p3 p0.iE ByteArray.empty 0)
 else
 bif (p1==6) then
  (iB.mk p1 p3 p0.iE ByteArray.empty 0)
 else
 (pj p0 p1 (p1==14) p3)
def uc (p0:iB) (p1:Int) (p2:ByteArray):iB:=
 bif (p1==11) then
  (iB.mk p1 p2 ByteArray.empty p0.iq 0)
 else
 bif (p1==12) then
  (iB.mk p1 p2 ByteArray.empty p0.iq 0)
 else
 bif (p1==13) then
  (iB.mk p1 p2 ByteArray.empty p0.iq 0)
 else
 bif (p1==15) then
  (iB.mk p1 p2 ByteArray.empty p0.iq 0)
 else
 bif (p1==16) then
  (iB.mk p1 p2 ByteArray.empty p0.iq 0)
 else
 bif (p1==3) then
  (iB.mk p1 p2 ByteArray.empty ByteArray.empty p0.fN)
 else
 bif (p1==20) then
  (iB.mk p1 p2 ByteArray.empty ByteArray.empty p0.fN)
 else
 (pi p0 p1 (p1==4) p2)
def jF (p0:iB) (p1:Int) (p2:ByteArray):iB:=
 bif (p1==1) then
  (iB.mk p1 p2 ByteArray.empty p0.iq 0)
 else
 bif (p1==7) then
  (iB.mk p1 p2 ByteArray.empty p0.iq 0)
 else
 bif (p1==8) then
  (iB.mk p1 p2 ByteArray.empty p0.iq 0)
 else
 uc p0 p1 p2
def qf (p0:iB) (p1:iB):Bool:=
 bif (jc p0.iU) then
  bif decide (4<=p0.bt) then
   bif decide (p0.bt<=6) then
    bif (jc p0.iE) then
     (!(jd p0.iq))
    else
    true
   else
   (!(jd p0.iq))
  else
  (!(jd p0.iq))
 else
 true
def ne (p0:iB) (p1:iB):Bool:=
 bif (p0.bt==22) then
  bif decide (4<=p0.bt) then
   bif decide (p0.bt<=6) then
    bif (jc p0.iE) then
     (!(jd p0.iq))
    else
    true
   else
   (!(jd p0.iq))
  else
  (!(jd p0.iq))
 else
 qf p0 p1
def vw (p0:iB):Int:=
 bif (p0.bt==(jF p0 p0.bt p0.iU).bt) then
  bif cY p0.iU ((jF p0 p0.bt p0.iU).iU) then
   bif cY p0.iE ((jF p0 p0.bt p0.iU).iE) then
    bif cY p0.iq ((jF p0 p0.bt p0.iU).iq) then
     bif (p0.fN==(jF p0 p0.bt p0.iU).fN) then
      bif (ne p0 (jF p0 p0.bt p0.iU)) then
       1
      else
      bif (jA p0.fN) then
       0
      else
      2
     else
     8
    else
    8
   else
   8
  else
  8
 else
 8
def rO (p0:iB):Int:=
 bif decide (p0.bt<1) then
  3
 else
 bif decide (22<p0.bt) then
  3
 else
 vw p0
def wc (p0:iB):Option Int:=some (rO p0)
theorem Jv (p0:iB):wc p0=some (rO p0):=rfl
def AG (C:aj):Prop:=∀(p0:iB) (r:Int),wc p0=some r->C 108 [.agg [.v (.i .i64 p0.bt),.v (.s p0.iU),.v (.s p0.iE),.v (.s p0.iq),.v (.i .i64 p0.fN)]] []=some (.v (.i .i64 r),[])
def vB (p0:i8):Int:=
 bif (p0.je==0) then
  bif (p0.ad.bt==0) then
   bif cY p0.ad.iU ByteArray.empty then
    bif cY p0.ad.iE ByteArray.empty then
     bif cY p0.ad.iq ByteArray.empty then
      bif (p0.ad.fN==0) then
       0
      else
      8
     else
     8
    else
    8
   else
   8
  else
  8
 else
 8
def ux (p0:i8):Int:=
 bif (p0.iO==0) then
  vB p0
 else
 bif (lZ p0.iO) then
  bif (lZ p0.je) then
   (rO p0.ad)
  else
  2
 else
 2
def Bd (p0:i8):Option Int:=some (ux p0)
theorem Oe (p0:i8):Bd p0=some (ux p0):=rfl
def HE (C:aj):Prop:=∀(p0:i8) (r:Int),Bd p0=some r->C 91 [.agg [.v (.i .i64 p0.iO),.v (.i .i64 p0.je),.v (.i .i64 p0.ad.bt),.v (.s p0.ad.iU),.v (.s p0.ad.iE),.v (.s p0.ad.iq),.v (.i .i64 p0.ad.fN)]] []=some (.v (.i .i64 r),[])
def ku (p0:iV):Bool:=
 bif decide (p0.iI<1) then
  true
 else
 bif decide (1048576<p0.iI) then
  true
 else
 bif decide (p0.iS<0) then
  true
 else
 decide (1073741824<p0.iS)
def pp (p0:iV):Int:=
 bif (p0.cO.iO==0) then
  bif (p0.cO.je==0) then
   bif (p0.cO.ad.bt==0) then
    bif cY p0.cO.ad.iU ByteArray.empty then
     bif cY p0.cO.ad.iE ByteArray.empty then
      bif cY p0.cO.ad.iq ByteArray.empty then
       bif (p0.cO.ad.fN==0) then
        0
       else
       8
      else
      8
     else
     8
    else
    8
   else
   8
  else
  8
 else
 8
def kh (p0:iV):Int:=
 bif (ku p0) then
  2
 else
 bif p0.jY then
  pp p0
 else
 (ux p0.cO)
def rm (p0:iV):Option Int:=some (kh p0)
theorem xk (p0:iV):rm p0=some (kh p0):=rfl
def pt (C:aj):Prop:=∀(p0:iV) (r:Int),rm p0=some r->C 49 [.agg [.v (.i .i64 p0.iI),.v (.i .i64 p0.iS),.v (.b p0.jY),.v (.i .i64 p0.cO.iO),.v (.i .i64 p0.cO.je),.v (.i .i64 p0.cO.ad.bt),.v (.s p0.cO.ad.iU),.v (.s p0.cO.ad.iE),.v (.s p0.cO.ad.iq),.v (.i .i64 p0.cO.ad.fN)]] []=some (.v (.i .i64 r),[])
def l5 (p0:List Int):Option (iV×Int):=
 bif decide (20000<(p0.length:Int)) then
  some ((iV.mk 0 0 false (i8.mk 0 0 (iB.mk 0 ByteArray.empty ByteArray.empty ByteArray.empty 0))),1)
 else
 oB (Ai (ir.mk p0 false)) fun (x1,x2,x3)=>
 oB (Ct x2 x3) fun (x4,x5)=>
 bif (x4==0) then
  bif ((kh x1)==0) then
   some (x1,0)
  else
  some ((iV.mk 0 0 false (i8.mk 0 0 (iB.mk 0 ByteArray.empty ByteArray.empty ByteArray.empty 0))),(kh x1))
 else
 some ((iV.mk 0 0 false (i8.mk 0 0 (iB.mk 0 ByteArray.empty ByteArray.empty ByteArray.empty 0))),x4)
def tM (C:aj):Prop:=∀(p0:List Int) (r:iV×Int),l5 p0=some r->C 41 [.v (.sl 1 (ah cE p0))] []=some (.tup [.agg [.v (.i .i64 r.1.iI),.v (.i .i64 r.1.iS),.v (.b r.1.jY),.v (.i .i64 r.1.cO.iO),.v (.i .i64 r.1.cO.je),.v (.i .i64 r.1.cO.ad.bt),.v (.s r.1.cO.ad.iU),.v (.s r.1.cO.ad.iE),.v (.s r.1.cO.ad.iq),.v (.i .i64 r.1.cO.ad.fN)],.v (.i .i64 r.2)],[])
def qK (p0:List Int):Option (List Int):=bif dh p0.length 1 then some p0 else none
def vd (C:aj):Prop:=∀(p0:List Int) (r:(List Int)),qK p0=some r->C 40 [.v (.sl 1 (ah cE p0))] []=some (.v (.sl 1 (ah cE r)),[])
def tv (p0:ir) (p1:iy):Option (ir×iy):=
 oB (qN p0) fun (x1,x2)=>
 oB (qN x2) fun (x3,x4)=>
 bif dh (p1.iA.length+1) 32 then
  some (x4,(iy.mk p1.bt p1.iq p1.iF (p1.iA++ [(iD.mk x1 x3)]) p1.iC p1.il))
 else
 none
def wL (C:aj):Prop:=∀(p0:ir) (p1:iy) (r:ir×iy),tv p0 p1=some r->C 97 [.ptr 1 0,.ptr 2 0] [[.v (.sl 1 (ah cE p0.frest)),.v (.b p0.fshort)],[.v (.i .i64 p1.bt),.v (.s p1.iq),.v (.i .i64 p1.iF),.own 2 (ah iD.row p1.iA),.own 1 (ah bY p1.iC),.own 2 (ah im.row p1.il)],[.ptr 0 0]]=some (.tup [],[[.v (.sl 1 (ah cE r.1.frest)),.v (.b r.1.fshort)],[.v (.i .i64 r.2.bt),.v (.s r.2.iq),.v (.i .i64 r.2.iF),.own 2 (ah iD.row r.2.iA),.own 1 (ah bY r.2.iC),.own 2 (ah im.row r.2.il)],[.ptr 0 0]])
def kl  (s:Int×ir×iy):Option ((Int×ir×iy)⊕(ir×iy)):=
 match s with
 |(p0,p1,p2)=>
  bif decide (0<p0) then
   bif p1.fshort then
    some (.inr (p1,p2))
   else
   oB (tv (ir.mk p1.frest false) p2) fun (x1,x2)=>
   some (.inl ((IntKind.i64.wrap (p0-1)),x1,x2))
  else
  some (.inr (p1,p2))
def lj (p0:ir) (p1:iy):Option (ir×iy):=
 oB (nn p0) fun (x1,x2)=>
 oB (cM (kl) (x1,x2,p1)) fun (x3,x4)=>
 some (x3,x4)
def rx (C:aj):Prop:=∀(p0:ir) (p1:iy) (r:ir×iy),lj p0 p1=some r->C 62 [.ptr 0 0,.clo 97 [.ptr 1 0,.ptr 2 0]] [[.v (.sl 1 (ah cE p0.frest)),.v (.b p0.fshort)],[.v (.i .i64 p1.bt),.v (.s p1.iq),.v (.i .i64 p1.iF),.own 2 (ah iD.row p1.iA),.own 1 (ah bY p1.iC),.own 2 (ah im.row p1.il)],[.ptr 0 0]]=some (.tup [],[[.v (.sl 1 (ah cE r.1.frest)),.v (.b r.1.fshort)],[.v (.i .i64 r.2.bt),.v (.s r.2.iq),.v (.i .i64 r.2.iF),.own 2 (ah iD.row r.2.iA),.own 1 (ah bY r.2.iC),.own 2 (ah im.row r.2.il)],[.ptr 0 0]])
def ti (p0:ir) (p1:List ByteArray):Option (ir×(List ByteArray)):=
 oB (qN p0) fun (x1,x2)=>
 bif dh (p1.length+1) 16 then
  some (x2,(p1++ [x1]))
 else
 none
def wK (C:aj):Prop:=∀(p0:ir) (p1:List ByteArray) (r:ir×(List ByteArray)),ti p0 p1=some r->C 99 [.ptr 1 0,.ptr 2 0] [[.v (.sl 1 (ah cE p0.frest)),.v (.b p0.fshort)],[.own 1 (ah bY p1)],[.ptr 0 0]]=some (.tup [],[[.v (.sl 1 (ah cE r.1.frest)),.v (.b r.1.fshort)],[.own 1 (ah bY r.2)],[.ptr 0 0]])
def kf  (s:Int×ir×(List ByteArray)):Option ((Int×ir×(List ByteArray))⊕(ir×(List ByteArray))):=
 match s with
 |(p0,p1,p2)=>
  bif decide (0<p0) then
   bif p1.fshort then
    some (.inr (p1,p2))
   else
   oB (ti (ir.mk p1.frest false) p2) fun (x1,x2)=>
   some (.inl ((IntKind.i64.wrap (p0-1)),x1,x2))
  else
  some (.inr (p1,p2))
def mq (p0:ir) (p1:List ByteArray):Option (ir×(List ByteArray)):=
 oB (nn p0) fun (x1,x2)=>
 oB (cM (kf) (x1,x2,p1)) fun (x3,x4)=>
 some (x3,x4)
def u3 (C:aj):Prop:=∀(p0:ir) (p1:List ByteArray) (r:ir×(List ByteArray)),mq p0 p1=some r->C 62 [.ptr 0 0,.clo 99 [.ptr 1 0,.ptr 2 0]] [[.v (.sl 1 (ah cE p0.frest)),.v (.b p0.fshort)],[.own 1 (ah bY p1)],[.ptr 0 0]]=some (.tup [],[[.v (.sl 1 (ah cE r.1.frest)),.v (.b r.1.fshort)],[.own 1 (ah bY r.2)],[.ptr 0 0]])
def wD (p0:ir):Option ((List ByteArray)×ir):=
 oB (mq p0 []) fun (x1,x2)=>
 some (x2,x1)
def xd (C:aj):Prop:=∀(p0:ir) (r:(List ByteArray)×ir),wD p0=some r->C 68 [.ptr 0 0] [[.v (.sl 1 (ah cE p0.frest)),.v (.b p0.fshort)]]=some (.own 1 (ah bY r.1),[[.v (.sl 1 (ah cE r.2.frest)),.v (.b r.2.fshort)]])
def tq (p0:ir) (p1:iy):Option (ir×iy):=
 oB (qN p0) fun (x1,x2)=>
 oB (kz x2) fun (x3,x4)=>
 bif dh (p1.il.length+1) 24 then
  some (x4,(iy.mk p1.bt p1.iq p1.iF p1.iA p1.iC (p1.il++ [(im.mk x1 x3)])))
 else
 none
def wJ (C:aj):Prop:=∀(p0:ir) (p1:iy) (r:ir×iy),tq p0 p1=some r->C 98 [.ptr 1 0,.ptr 2 0] [[.v (.sl 1 (ah cE p0.frest)),.v (.b p0.fshort)],[.v (.i .i64 p1.bt),.v (.s p1.iq),.v (.i .i64 p1.iF),.own 2 (ah iD.row p1.iA),.own 1 (ah bY p1.iC),.own 2 (ah im.row p1.il)],[.ptr 0 0]]=some (.tup [],[[.v (.sl 1 (ah cE r.1.frest)),.v (.b r.1.fshort)],[.v (.i .i64 r.2.bt),.v (.s r.2.iq),.v (.i .i64 r.2.iF),.own 2 (ah iD.row r.2.iA),.own 1 (ah bY r.2.iC),.own 2 (ah im.row r.2.il)],[.ptr 0 0]])
def km  (s:Int×ir×iy):Option ((Int×ir×iy)⊕(ir×iy)):=
 match s with
 |(p0,p1,p2)=>
  bif decide (0<p0) then
   bif p1.fshort then
    some (.inr (p1,p2))
   else
   oB (tq (ir.mk p1.frest false) p2) fun (x1,x2)=>
   some (.inl ((IntKind.i64.wrap (p0-1)),x1,x2))
  else
  some (.inr (p1,p2))
def lg (p0:ir) (p1:iy):Option (ir×iy):=
 oB (nn p0) fun (x1,x2)=>
 oB (cM (km) (x1,x2,p1)) fun (x3,x4)=>
 some (x3,x4)
def uY (C:aj):Prop:=∀(p0:ir) (p1:iy) (r:ir×iy),lg p0 p1=some r->C 62 [.ptr 0 0,.clo 98 [.ptr 1 0,.ptr 2 0]] [[.v (.sl 1 (ah cE p0.frest)),.v (.b p0.fshort)],[.v (.i .i64 p1.bt),.v (.s p1.iq),.v (.i .i64 p1.iF),.own 2 (ah iD.row p1.iA),.own 1 (ah bY p1.iC),.own 2 (ah im.row p1.il)],[.ptr 0 0]]=some (.tup [],[[.v (.sl 1 (ah cE r.1.frest)),.v (.b r.1.fshort)],[.v (.i .i64 r.2.bt),.v (.s r.2.iq),.v (.i .i64 r.2.iF),.own 2 (ah iD.row r.2.iA),.own 1 (ah bY r.2.iC),.own 2 (ah im.row r.2.il)],[.ptr 0 0]])
def xH (p0:ir):Option (iy×ir):=
 oB (nn p0) fun (x1,x2)=>
 oB (qN x2) fun (x3,x4)=>
 oB (kz x4) fun (x5,x6)=>
 oB (lj x6 (iy.mk x1 x3 x5 [] [] [])) fun (x7,x8)=>
 oB (wD x7) fun (x9,x10)=>
 oB (lg x10 (iy.mk x8.bt x8.iq x8.iF x8.iA x9 x8.il)) fun (x11,x12)=>
 some (x12,x11)
def Hi (C:aj):Prop:=∀(p0:ir) (r:iy×ir),xH p0=some r->C 65 [.ptr 0 0] [[.v (.sl 1 (ah cE p0.frest)),.v (.b p0.fshort)]]=some (.agg [.v (.i .i64 r.1.bt),.v (.s r.1.iq),.v (.i .i64 r.1.iF),.own 2 (ah iD.row r.1.iA),.own 1 (ah bY r.1.iC),.own 2 (ah im.row r.1.il)],[[.v (.sl 1 (ah cE r.2.frest)),.v (.b r.2.fshort)]])
def oq (p0:ir) (p1:iv):Option (ir×iv):=
 oB (qN p0) fun (x1,x2)=>
 oB (xH x2) fun (x3,x4)=>
 oB (kz x4) fun (x5,x6)=>
 bif dh (p1.af.bi.length+1) 128 then
  some (x6,(iv.mk (iN.mk p1.af.iL (p1.af.bi++ [(ip.mk x1 x3 x5)])) p1.iG p1.bz))
 else
 none
def tK (C:aj):Prop:=∀(p0:ir) (p1:iv) (r:ir×iv),oq p0 p1=some r->C 63 [.ptr 1 0,.ptr 2 0] [[.v (.sl 1 (ah cE p0.frest)),.v (.b p0.fshort)],[.v (.i .i64 p1.af.iL),.own 8 (ah ip.row p1.af.bi),.v (.i .i64 p1.iG),.own 7 (ah gi.row p1.bz)],[.ptr 0 0]]=some (.tup [],[[.v (.sl 1 (ah cE r.1.frest)),.v (.b r.1.fshort)],[.v (.i .i64 r.2.af.iL),.own 8 (ah ip.row r.2.af.bi),.v (.i .i64 r.2.iG),.own 7 (ah gi.row r.2.bz)],[.ptr 0 0]])
def jI  (s:Int×ir×iv):Option ((Int×ir×iv)⊕(ir×iv)):=
 match s with
 |(p0,p1,p2)=>
  bif decide (0<p0) then
   bif p1.fshort then
    some (.inr (p1,p2))
   else
   oB (oq (ir.mk p1.frest false) p2) fun (x1,x2)=>
   some (.inl ((IntKind.i64.wrap (p0-1)),x1,x2))
  else
  some (.inr (p1,p2))
def kv (p0:ir) (p1:iv):Option (ir×iv):=
 oB (nn p0) fun (x1,x2)=>
 oB (cM (jI) (x1,x2,p1)) fun (x3,x4)=>
 some (x3,x4)
def oO (C:aj):Prop:=∀(p0:ir) (p1:iv) (r:ir×iv),kv p0 p1=some r->C 62 [.ptr 0 0,.clo 63 [.ptr 1 0,.ptr 2 0]] [[.v (.sl 1 (ah cE p0.frest)),.v (.b p0.fshort)],[.v (.i .i64 p1.af.iL),.own 8 (ah ip.row p1.af.bi),.v (.i .i64 p1.iG),.own 7 (ah gi.row p1.bz)],[.ptr 0 0]]=some (.tup [],[[.v (.sl 1 (ah cE r.1.frest)),.v (.b r.1.fshort)],[.v (.i .i64 r.2.af.iL),.own 8 (ah ip.row r.2.af.bi),.v (.i .i64 r.2.iG),.own 7 (ah gi.row r.2.bz)],[.ptr 0 0]])
def sR (p0:ir) (p1:iv) (x1:Int) (x2:ir):Option (ir×iv):=
 oB (kz x2) fun (x3,x4)=>
 oB (kz x4) fun (x5,x6)=>
 oB (nn x6) fun (x7,x8)=>
 oB (qN x8) fun (x9,x10)=>
 oB (kz x10) fun (x11,x12)=>
 oB (wD x12) fun (x13,x14)=>
 bif dh (p1.bz.length+1) 80 then
  some (x14,(iv.mk p1.af p1.iG (p1.bz++ [(gi.mk x1 x3 x5 (jf.mk x7 x9 x11 x13))])))
 else
 none
def oc (p0:ir) (p1:iv):Option (ir×iv):=
 oB (kz p0) fun (x1,x2)=>
 sR p0 p1 x1 x2
def tW (C:aj):Prop:=∀(p0:ir) (p1:iv) (r:ir×iv),oc p0 p1=some r->C 66 [.ptr 1 0,.ptr 2 0] [[.v (.sl 1 (ah cE p0.frest)),.v (.b p0.fshort)],[.ptr 0 0],[.v (.i .i64 p1.af.iL),.own 8 (ah ip.row p1.af.bi),.v (.i .i64 p1.iG),.own 7 (ah gi.row p1.bz)]]=some (.tup [],[[.v (.sl 1 (ah cE r.1.frest)),.v (.b r.1.fshort)],[.ptr 0 0],[.v (.i .i64 r.2.af.iL),.own 8 (ah ip.row r.2.af.bi),.v (.i .i64 r.2.iG),.own 7 (ah gi.row r.2.bz)]])
def jK  (s:Int×ir×iv):Option ((Int×ir×iv)⊕(ir×iv)):=
 match s with
 |(p0,p1,p2)=>
  bif decide (0<p0) then
   bif p1.fshort then
    some (.inr (p1,p2))
   else
   oB (oc (ir.mk p1.frest false) p2) fun (x1,x2)=>
   some (.inl ((IntKind.i64.wrap (p0-1)),x1,x2))
  else
  some (.inr (p1,p2))
def kw (p0:ir) (p1:iv):Option (ir×iv):=
 oB (nn p0) fun (x1,x2)=>
 oB (cM (jK) (x1,x2,p1)) fun (x3,x4)=>
 some (x3,x4)
def sC (C:aj):Prop:=∀(p0:ir) (p1:iv) (r:ir×iv),kw p0 p1=some r->C 62 [.ptr 0 0,.clo 66 [.ptr 1 0,.ptr 2 0]] [[.v (.sl 1 (ah cE p0.frest)),.v (.b p0.fshort)],[.ptr 0 0],[.v (.i .i64 p1.af.iL),.own 8 (ah ip.row p1.af.bi),.v (.i .i64 p1.iG),.own 7 (ah gi.row p1.bz)]]=some (.tup [],[[.v (.sl 1 (ah cE r.1.frest)),.v (.b r.1.fshort)],[.ptr 0 0],[.v (.i .i64 r.2.af.iL),.own 8 (ah ip.row r.2.af.bi),.v (.i .i64 r.2.iG),.own 7 (ah gi.row r.2.bz)]])
def lp (p0:iy):Int:=
 (IntKind.i64.wrap ((IntKind.i64.wrap ((p0.iA.length:Int)+(p0.iC.length:Int)))+(p0.il.length:Int)))
def rC (p0:iy):Option Int:=some (lp p0)
theorem xm (p0:iy):rC p0=some (lp p0):=rfl
def pr (C:aj):Prop:=∀(p0:iy) (r:Int),rC p0=some r->C 123 [.agg [.v (.i .i64 p0.bt),.v (.s p0.iq),.v (.i .i64 p0.iF),.v (.sl 2 (ah iD.row p0.iA)),.v (.sl 1 (ah bY p0.iC)),.v (.sl 2 (ah im.row p0.il))]] []=some (.v (.i .i64 r),[])
def zD (p0:ByteArray):Option Bool:=
 some (!(jd p0))
def mo (p0:ByteArray):Bool:=(!(jd p0))
theorem OG (p0:ByteArray):zD p0=some (mo p0):=by
 simp only [zD,mo]
def Bu (C:aj):Prop:=∀(p0:ByteArray) (r:Bool),zD p0=some r->C 124 [.v (.s p0)] []=some (.v (.b r),[])
def ou (p0:List ByteArray) (p1:Int) (s:Int):Option (Int⊕(Int⊕Unit)):=
 match s with
 |p2=>
  bif decide (p2<p1) then
   oB (idx p0 p2) fun x1=>
   bif (mo x1) then
    some (.inr (.inl p2))
   else
   some (.inl (IntKind.i64.wrap (p2+1)))
  else
  some (.inr (.inr ()))
def ur (p0:List ByteArray):Option Int:=
 oB (cM (ou p0 (p0.length:Int)) 0) fun
 | .inl x1=>
  some x1
 | .inr _=>
  some (-1)
def Bi (C:aj):Prop:=∀(p0:List ByteArray) (r:Int),ur p0=some r->C 137 [.v (.sl 1 (ah bY p0)),.clo 124 []] []=some (.v (.i .i64 r),[])
def sX (p0:List ByteArray):Option Bool:=
 oB (ur p0) fun x1=>
 some (decide (0<=x1))
def xL (C:aj):Prop:=∀(p0:List ByteArray) (r:Bool),sX p0=some r->C 110 [.v (.sl 1 (ah bY p0)),.clo 124 []] []=some (.v (.b r),[])
def zp (p0:iD):Option Bool:=
 bif (jc p0.iE) then
  some (!(jd p0.iq))
 else
 some true
def nA (p0:iD):Bool:=(bif (jc p0.iE) then (!(jd p0.iq)) else true)
theorem PC (p0:iD):zp p0=some (nA p0):=by
 simp only [zp,nA]
 cases (jc p0.iE)<;>rfl
def Bx (C:aj):Prop:=∀(p0:iD) (r:Bool),zp p0=some r->C 126 [.agg [.v (.s p0.iE),.v (.s p0.iq)]] []=some (.v (.b r),[])
def oh (p0:List iD) (p1:Int) (s:Int):Option (Int⊕(Int⊕Unit)):=
 match s with
 |p2=>
  bif decide (p2<p1) then
   oB (idx p0 p2) fun x1=>
   bif (nA x1) then
    some (.inr (.inl p2))
   else
   some (.inl (IntKind.i64.wrap (p2+1)))
  else
  some (.inr (.inr ()))
def uu (p0:List iD):Option Int:=
 oB (cM (oh p0 (p0.length:Int)) 0) fun
 | .inl x1=>
  some x1
 | .inr _=>
  some (-1)
def AY (C:aj):Prop:=∀(p0:List iD) (r:Int),uu p0=some r->C 141 [.v (.sl 2 (ah iD.row p0)),.clo 126 []] []=some (.v (.i .i64 r),[])
def sW (p0:List iD):Option Bool:=
 oB (uu p0) fun x1=>
 some (decide (0<=x1))
def xG (C:aj):Prop:=∀(p0:List iD) (r:Bool),sW p0=some r->C 125 [.v (.sl 2 (ah iD.row p0)),.clo 126 []] []=some (.v (.b r),[])
def zk (p0:im):Option Bool:=
 some (!(jd p0.iZ))
def ny (p0:im):Bool:=(!(jd p0.iZ))
theorem OZ (p0:im):zk p0=some (ny p0):=by
 simp only [zk,ny]
def B7 (C:aj):Prop:=∀(p0:im) (r:Bool),zk p0=some r->C 128 [.agg [.v (.s p0.iZ),.v (.i .i64 p0.fN)]] []=some (.v (.b r),[])
def oe (p0:List im) (p1:Int) (s:Int):Option (Int⊕(Int⊕Unit)):=
 match s with
 |p2=>
  bif decide (p2<p1) then
   oB (idx p0 p2) fun x1=>
   bif (ny x1) then
    some (.inr (.inl p2))
   else
   some (.inl (IntKind.i64.wrap (p2+1)))
  else
  some (.inr (.inr ()))
def ul (p0:List im):Option Int:=
 oB (cM (oe p0 (p0.length:Int)) 0) fun
 | .inl x1=>
  some x1
 | .inr _=>
  some (-1)
def AK (C:aj):Prop:=∀(p0:List im) (r:Int),ul p0=some r->C 142 [.v (.sl 2 (ah im.row p0)),.clo 128 []] []=some (.v (.i .i64 r),[])
def sV (p0:List im):Option Bool:=
 oB (ul p0) fun x1=>
 some (decide (0<=x1))
def xX (C:aj):Prop:=∀(p0:List im) (r:Bool),sV p0=some r->C 127 [.v (.sl 2 (ah im.row p0)),.clo 128 []] []=some (.v (.b r),[])
def zq (p0:im):Option Bool:=
 some (!(jA p0.fN))
def nC (p0:im):Bool:=(!(jA p0.fN))
theorem OD (p0:im):zq p0=some (nC p0):=by
 simp only [zq,nC]
def Ce (C:aj):Prop:=∀(p0:im) (r:Bool),zq p0=some r->C 129 [.agg [.v (.s p0.iZ),.v (.i .i64 p0.fN)]] []=some (.v (.b r),[])
def oj (p0:List im) (p1:Int) (s:Int):Option (Int⊕(Int⊕Unit)):=
 match s with
 |p2=>
  bif decide (p2<p1) then
   oB (idx p0 p2) fun x1=>
   bif (nC x1) then
    some (.inr (.inl p2))
   else
   some (.inl (IntKind.i64.wrap (p2+1)))
  else
  some (.inr (.inr ()))
def uF (p0:List im):Option Int:=
 oB (cM (oj p0 (p0.length:Int)) 0) fun
 | .inl x1=>
  some x1
 | .inr _=>
  some (-1)
def AO (C:aj):Prop:=∀(p0:List im) (r:Int),uF p0=some r->C 142 [.v (.sl 2 (ah im.row p0)),.clo 129 []] []=some (.v (.i .i64 r),[])
def ta (p0:List im):Option Bool:=
 oB (uF p0) fun x1=>
 some (decide (0<=x1))
def ye (C:aj):Prop:=∀(p0:List im) (r:Bool),ta p0=some r->C 127 [.v (.sl 2 (ah im.row p0)),.clo 129 []] []=some (.v (.b r),[])
def BP (a b:ByteArray):Option Int:=some (Xp a b)
def CB (a b:ByteArray):Int:=Xp a b
theorem Lt (a b:ByteArray):BP a b=some (CB a b):=rfl
def Cw (C:aj):Prop:=∀(p0:ByteArray) (p1:ByteArray) (r:Int),BP p0 p1=some r->C 148 [.v (.s p0),.v (.s p1)] []=some (.v (.i .i64 r),[])
def q7 (p0:ByteArray) (p1:ByteArray):Int:=
 (CB p0 p1)
def qt (p0:ByteArray) (p1:ByteArray):Option Int:=some (q7 p0 p1)
theorem Bf (p0:ByteArray) (p1:ByteArray):qt p0 p1=some (q7 p0 p1):=rfl
def wC (C:aj):Prop:=∀(p0:ByteArray) (p1:ByteArray) (r:Int),qt p0 p1=some r->C 145 [.v (.s p0),.v (.s p1)] []=some (.v (.i .i64 r),[])
def kE (p0:ByteArray) (p1:ByteArray):Int:=
 (q7 p0 p1)
def qp (p0:ByteArray) (p1:ByteArray):Option Int:=some (kE p0 p1)
theorem tV (p0:ByteArray) (p1:ByteArray):qp p0 p1=some (kE p0 p1):=rfl
def lP (C:aj):Prop:=∀(p0:ByteArray) (p1:ByteArray) (r:Int),qp p0 p1=some r->C 135 [.v (.s p0),.v (.s p1)] []=some (.v (.i .i64 r),[])
def qm (p0:iD) (p1:iD):Int:=
 (kE p0.iE p1.iE)
def sB (p0:iD) (p1:iD):Option Int:=some (qm p0 p1)
theorem CQ (p0:iD) (p1:iD):sB p0 p1=some (qm p0 p1):=rfl
def vv (C:aj):Prop:=∀(p0:iD) (p1:iD) (r:Int),sB p0 p1=some r->C 131 [.agg [.v (.s p0.iE),.v (.s p0.iq)],.agg [.v (.s p1.iE),.v (.s p1.iq)]] []=some (.v (.i .i64 r),[])
def jx (p0:List iD) (s:Int):Option (Int⊕(Unit⊕Unit)):=
 match s with
 |p1=>
  bif decide (p1<(p0.length:Int)) then
   oB (idx p0 (IntKind.i64.wrap (p1-1))) fun x1=>
   oB (idx p0 p1) fun x2=>
   bif decide (0<=(qm x1 x2)) then
    some (.inr (.inl ()))
   else
   some (.inl (IntKind.i64.wrap (p1+1)))
  else
  some (.inr (.inr ()))
def jy (p0:List iD):Option Bool:=
 oB (cM (jx p0) 1) fun
 | .inl _=>
  some false
 | .inr _=>
  some true
def kA (C:aj):Prop:=∀(p0:List iD) (r:Bool),jy p0=some r->C 130 [.v (.sl 2 (ah iD.row p0)),.clo 131 []] []=some (.v (.b r),[])
def qF (p0:Int):Option Bool:=
 some false
def og (p0:Int):Bool:=false
theorem yl (p0:Int):qF p0=some (og p0):=by
 simp only [qF,og]
def yk (C:aj):Prop:=∀(p0:Int) (r:Bool),qF p0=some r->C 147 [.v (.i .i64 p0)] []=some (.v (.b r),[])
def mU (p0:Int) (p1:Int):Int:=
 bif (og p0) then
  bif (og p1) then
   0
  else
  (-1)
 else
 bif (og p1) then
  1
 else
 bif decide (p0<p1) then
  (-1)
 else
 bif decide (p1<p0) then
  1
 else
 0
def qw (p0:Int) (p1:Int):Option Int:=some (mU p0 p1)
theorem AV (p0:Int) (p1:Int):qw p0 p1=some (mU p0 p1):=rfl
def ua (C:aj):Prop:=∀(p0:Int) (p1:Int) (r:Int),qw p0 p1=some r->C 144 [.v (.i .i64 p0),.v (.i .i64 p1)] []=some (.v (.i .i64 r),[])
def od (p0:List Int) (p1:Int) (s:Int):Option (Int⊕(Int⊕Unit)):=
 match s with
 |p2=>
  bif decide (p2<p1) then
   oB (idx p0 p2) fun x1=>
   bif (x1==0) then
    some (.inl (IntKind.i64.wrap (p2+1)))
   else
   some (.inr (.inl x1))
  else
  some (.inr (.inr ()))
def te (p0:List Int):Option Int:=
 oB (cM (od p0 (p0.length:Int)) 0) fun
 | .inl x1=>
  some x1
 | .inr _=>
  some 0
def AI (C:aj):Prop:=∀(p0:List Int) (r:Int),te p0=some r->C 143 [.v (.sl 1 (ah xc p0))] []=some (.v (.i .i64 r),[])
def oS (p0:im) (p1:im):Option Int:=
 oB (te [(mU p0.fN p1.fN),(kE p0.iZ p1.iZ)]) fun x1=>
 some x1
def vk (C:aj):Prop:=∀(p0:im) (p1:im) (r:Int),oS p0 p1=some r->C 133 [.agg [.v (.s p0.iZ),.v (.i .i64 p0.fN)],.agg [.v (.s p1.iZ),.v (.i .i64 p1.fN)]] []=some (.v (.i .i64 r),[])
def ju (p0:List im) (s:Int):Option (Int⊕(Unit⊕Unit)):=
 match s with
 |p1=>
  bif decide (p1<(p0.length:Int)) then
   oB (idx p0 (IntKind.i64.wrap (p1-1))) fun x1=>
   oB (idx p0 p1) fun x2=>
   oB (oS x1 x2) fun x3=>
   bif decide (0<=x3) then
    some (.inr (.inl ()))
   else
   some (.inl (IntKind.i64.wrap (p1+1)))
  else
  some (.inr (.inr ()))
def jv (p0:List im):Option Bool:=
 oB (cM (ju p0) 1) fun
 | .inl _=>
  some false
 | .inr _=>
  some true
def kt (C:aj):Prop:=∀(p0:List im) (r:Bool),jv p0=some r->C 132 [.v (.sl 2 (ah im.row p0)),.clo 133 []] []=some (.v (.b r),[])
def jh (p0:List ByteArray) (s:Int):Option (Int⊕(Unit⊕Unit)):=
 match s with
 |p1=>
  bif decide (p1<(p0.length:Int)) then
   oB (idx p0 (IntKind.i64.wrap (p1-1))) fun x1=>
   oB (idx p0 p1) fun x2=>
   bif decide (0<=(kE x1 x2)) then
    some (.inr (.inl ()))
   else
   some (.inl (IntKind.i64.wrap (p1+1)))
  else
  some (.inr (.inr ()))
def jk (p0:List ByteArray):Option Bool:=
 oB (cM (jh p0) 1) fun
 | .inl _=>
  some false
 | .inr _=>
  some true
def j9 (C:aj):Prop:=∀(p0:List ByteArray) (r:Bool),jk p0=some r->C 134 [.v (.sl 1 (ah bY p0)),.clo 135 []] []=some (.v (.b r),[])
def pP (p0:im) (p1:ByteArray):Option (Bool×ByteArray):=
 some (cY p0.iZ p1,p1)
def uz (C:aj):Prop:=∀(p0:im) (p1:ByteArray) (r:Bool×ByteArray),pP p0 p1=some r->C 146 [.agg [.v (.s p0.iZ),.v (.i .i64 p0.fN)],.ptr 0 0] [[.v (.s p1)]]=some (.v (.b r.1),[[.v (.s r.2)]])
def kP (p0:List im) (p1:Int) (s:Int×ByteArray):Option ((Int×ByteArray)⊕((Int×ByteArray)⊕ByteArray)):=
 match s with
 |(p2,p3)=>
  bif decide (p2<p1) then
   oB (idx p0 p2) fun x1=>
   oB (pP x1 p3) fun (x2,x3)=>
   bif x2 then
    some (.inr (.inl (p2,x3)))
   else
   some (.inl ((IntKind.i64.wrap (p2+1)),x3))
  else
  some (.inr (.inr p3))
def mN (p0:List im) (p1:ByteArray):Option (Int×ByteArray):=
 oB (cM (kP p0 (p0.length:Int)) (0,p1)) fun
 | .inl (x1,x2)=>
  some (x1,x2)
 | .inr x1=>
  some ((-1),x1)
def vz (C:aj):Prop:=∀(p0:List im) (p1:ByteArray) (r:Int×ByteArray),mN p0 p1=some r->C 142 [.v (.sl 2 (ah im.row p0)),.clo 146 [.ptr 0 0]] [[.v (.s p1)]]=some (.v (.i .i64 r.1),[[.v (.s r.2)]])
def tb (p0:List im) (p1:ByteArray):Option Int:=
 oB (mN p0 p1) fun (x1,x2)=>
 some x1
def yf (C:aj):Prop:=∀(p0:List im) (p1:ByteArray) (r:Int),tb p0 p1=some r->C 136 [.v (.sl 2 (ah im.row p0)),.v (.s p1)] []=some (.v (.i .i64 r),[])
def tQ (p0:iy) (p1:Bool):iy:=
 bif p1 then
  (iy.mk p0.bt p0.iq p0.iF p0.iA p0.iC [])
 else
 (iy.mk p0.bt p0.iq p0.iF p0.iA [] p0.il)
def tY (p0:iy) (p1:Int) (p2:Bool):iy:=
 bif p2 then
  (iy.mk p0.bt p0.iq p0.iF [] p0.iC p0.il)
 else
 (tQ p0 (p1==6))
def tU (p0:iy) (p1:Int) (p2:Bool):iy:=
 bif p2 then
  (iy.mk p0.bt p0.iq 0 p0.iA p0.iC p0.il)
 else
 (tY p0 p1 (p1==3))
def jU (p0:iy) (p1:Int) (p2:Bool):iy:=
 bif p2 then
  (iy.mk p0.bt ByteArray.empty p0.iF p0.iA p0.iC p0.il)
 else
 (tU p0 p1 (p1==2))
def rI (p0:iy) (p1:iy):Bool:=
 bif cY p1.iq ByteArray.empty then
  bif (p1.iF==0) then
   decide (0<(lp p1))
  else
  true
 else
 true
def qg (p0:iy) (p1:iy):Bool:=
 bif decide (3<=p0.bt) then
  bif decide ((lp p0)<1) then
   true
  else
  decide (20<(lp p0))
 else
 false
def xZ (p0:iy) (p1:iy):Option Bool:=
 oB (jy p0.iA) fun x1=>
 bif x1 then
  oB (jv p0.il) fun x2=>
  bif x2 then
   bif (p0.bt==5) then
    oB (jk p0.iC) fun x3=>
    some x3
   else
   some true
  else
  some false
 else
 some false
def wj (p0:iy) (p2:List im) (p3:Int) (p5:iy) (s:Bool×Int):Option ((Bool×Int)⊕Bool):=
 match s with
 |(p1,p4)=>
  bif decide (p4<p3) then
   oB (idx p2 p4) fun x1=>
   bif p1 then
    bif nB 0 p4 (p0.il.length:Int) then
     oB (tb (dm p0.il 0 p4) x1.iZ) fun x2=>
     some (.inl (decide (x2<0),(IntKind.i64.wrap (p4+1))))
    else
    none
   else
   some (.inl (false,(IntKind.i64.wrap (p4+1))))
  else
  some (.inr p1)
def Mq (p0:iy) (x1:Bool) (x2:Bool) (x3:Bool):Option Int:=
 bif x3 then
  some 1
 else
 bif (jA p0.iF) then
  oB (ta p0.il) fun x4=>
  bif x4 then
   some 2
  else
  oB (xZ p0 (jU p0 p0.bt (p0.bt==1))) fun x5=>
  oB (cM (wj p0 p0.il (p0.il.length:Int) (jU p0 p0.bt (p0.bt==1))) (x5,0)) fun x6=>
  bif x6 then
   some 0
  else
  some 10
 else
 some 2
def Bw (p0:iy):Option Int:=
 bif (qg p0 (jU p0 p0.bt (p0.bt==1))) then
  some 1
 else
 bif (jd p0.iq) then
  oB (sX p0.iC) fun x1=>
  bif x1 then
   some 1
  else
  oB (sW p0.iA) fun x2=>
  bif x2 then
   some 1
  else
  oB (sV p0.il) fun x3=>
  Mq p0 x1 x2 x3
 else
 some 1
def vaC (p0:iy):Option Int:=
 bif decide (p0.bt<1) then
  some 3
 else
 bif decide (6<p0.bt) then
  some 3
 else
 bif (rI p0 (jU p0 p0.bt (p0.bt==1))) then
  some 8
 else
 Bw p0
def NW (C:aj):Prop:=∀(p0:iy) (r:Int),vaC p0=some r->C 109 [.agg [.v (.i .i64 p0.bt),.v (.s p0.iq),.v (.i .i64 p0.iF),.v (.sl 2 (ah iD.row p0.iA)),.v (.sl 1 (ah bY p0.iC)),.v (.sl 2 (ah im.row p0.il))]] []=some (.v (.i .i64 r),[])
def lX (p0:iN):Bool:=
 bif decide (p0.iL<0) then
  true
 else
 bif decide (1073741824<p0.iL) then
  true
 else
 decide (12<(p0.bi.length:Int))
def ni (p0:iN) (p1:Int) (p2:List ip) (p3:Int) (p4:ip):Option Bool:=
 bif decide ((p4.iU.size:Int)<1) then
  some true
 else
 bif decide (12<(p4.iU.size:Int)) then
  some true
 else
 oB (vaC p4.iJ) fun x1=>
 bif (x1==0) then
  bif decide (0<p1) then
   oB (idx p0.bi (IntKind.i64.wrap (p1-1))) fun x2=>
   some (!rR x2.iU p4.iU)
  else
  some false
 else
 some true
def l8 (p0:iN) (p1:List ip) (p2:Int) (p3:Int) (p4:ip):Bool:=
 bif (p4.jQ==0) then
  false
 else
 bif decide (p4.jQ<=p0.iL) then
  true
 else
 decide (1073741824<p4.jQ)
def nv (p0:iN) (p1:List ip) (p2:Int) (s:Int):Option (Int⊕(ip⊕Unit)):=
 match s with
 |p3=>
  bif decide (p3<p2) then
   oB (idx p1 p3) fun x1=>
   oB (ni p0 p3 p1 p2 x1) fun x2=>
   bif x2 then
    some (.inr (.inl x1))
   else
   bif (l8 p0 p1 p2 p3 x1) then
    some (.inr (.inl x1))
   else
   some (.inl (IntKind.i64.wrap (p3+1)))
  else
  some (.inr (.inr ()))
def rn (p0:iN):Option Int:=
 bif (lX p0) then
  some 13
 else
 oB (cM (nv p0 p0.bi (p0.bi.length:Int)) 0) fun
 | .inl x1=>
  some 13
 | .inr _=>
  some 0
def uP (C:aj):Prop:=∀(p0:iN) (r:Int),rn p0=some r->C 94 [.agg [.v (.i .i64 p0.iL),.v (.sl 8 (ah ip.row p0.bi))]] []=some (.v (.i .i64 r),[])
def rV (p0:ByteArray):Option Bool:=
 some (decide (20<(p0.size:Int)))
def kg (p0:ByteArray):Bool:=decide (20<(p0.size:Int))
theorem Ee (p0:ByteArray):rV p0=some (kg p0):=by
 simp only [rV,kg]
def vU (C:aj):Prop:=∀(p0:ByteArray) (r:Bool),rV p0=some r->C 111 [.v (.s p0)] []=some (.v (.b r),[])
def ll (p0:List ByteArray) (p1:Int) (s:Int):Option (Int⊕(Int⊕Unit)):=
 match s with
 |p2=>
  bif decide (p2<p1) then
   oB (idx p0 p2) fun x1=>
   bif (kg x1) then
    some (.inr (.inl p2))
   else
   some (.inl (IntKind.i64.wrap (p2+1)))
  else
  some (.inr (.inr ()))
def ol (p0:List ByteArray):Option Int:=
 oB (cM (ll p0 (p0.length:Int)) 0) fun
 | .inl x1=>
  some x1
 | .inr _=>
  some (-1)
def wF (C:aj):Prop:=∀(p0:List ByteArray) (r:Int),ol p0=some r->C 137 [.v (.sl 1 (ah bY p0)),.clo 111 []] []=some (.v (.i .i64 r),[])
def m9 (p0:List ByteArray):Option Bool:=
 oB (ol p0) fun x1=>
 some (decide (0<=x1))
def wy (C:aj):Prop:=∀(p0:List ByteArray) (r:Bool),m9 p0=some r->C 110 [.v (.sl 1 (ah bY p0)),.clo 111 []] []=some (.v (.b r),[])
def yS (p0:jf):Option Int:=
 bif decide (13<p0.jW) then
  some 3
 else
 bif decide (20<(p0.iq.size:Int)) then
  some 1
 else
 bif decide (20<(p0.jH.length:Int)) then
  some 1
 else
 oB (m9 p0.jH) fun x1=>
 bif x1 then
  some 1
 else
 bif decide (p0.fN<(-1099511627776)) then
  some 2
 else
 bif decide (1099511627776<p0.fN) then
  some 2
 else
 some 0
def wo (p0:jf):Option Int:=
 bif decide (p0.jW<0) then
  some 3
 else
 yS p0
def xJ (C:aj):Prop:=∀(p0:jf) (r:Int),wo p0=some r->C 95 [.agg [.v (.i .i64 p0.jW),.v (.s p0.iq),.v (.i .i64 p0.fN),.v (.sl 1 (ah bY p0.jH))]] []=some (.v (.i .i64 r),[])
def xa (p0:iv):Option Bool:=
 oB (rn p0.af) fun x1=>
 bif (x1==0) then
  bif decide (p0.iG<1) then
   some true
  else
  bif decide (1048577<p0.iG) then
   some true
  else
  some (decide (4<(p0.bz.length:Int)))
 else
 some true
def u9 (p0:iv) (p1:Int) (p2:List gi) (p3:Int) (p4:gi):Option Bool:=
 bif decide (p4.fId<1) then
  some true
 else
 bif decide (p0.iG<=p4.fId) then
  some true
 else
 bif decide (0<p1) then
  oB (idx p0.bz (IntKind.i64.wrap (p1-1))) fun x1=>
  some (decide (p4.fId<=x1.fId))
 else
 some false
def uZ (p0:iv) (p1:List gi) (p2:Int) (p3:Int) (p4:gi):Option Bool:=
 bif decide (p4.je<0) then
  some true
 else
 bif decide (1048576<p4.je) then
  some true
 else
 bif decide (p4.iS<0) then
  some true
 else
 bif decide (p0.af.iL<p4.iS) then
  some true
 else
 oB (wo p4.iX) fun x1=>
 some (!(x1==0))
def xy (p0:iv) (p1:List gi) (p2:Int) (s:Int):Option (Int⊕(gi⊕Unit)):=
 match s with
 |p3=>
  bif decide (p3<p2) then
   oB (idx p1 p3) fun x1=>
   oB (u9 p0 p3 p1 p2 x1) fun x2=>
   bif x2 then
    some (.inr (.inl x1))
   else
   oB (uZ p0 p1 p2 p3 x1) fun x3=>
   bif x3 then
    some (.inr (.inl x1))
   else
   some (.inl (IntKind.i64.wrap (p3+1)))
  else
  some (.inr (.inr ()))
def clC (p0:iv):Option Int:=
 oB (xa p0) fun x1=>
 bif x1 then
  some 13
 else
 oB (cM (xy p0 p0.bz (p0.bz.length:Int)) 0) fun
 | .inl x2=>
  some 13
 | .inr _=>
  some 0
def N2 (C:aj):Prop:=∀(p0:iv) (r:Int),clC p0=some r->C 55 [.agg [.v (.i .i64 p0.af.iL),.v (.sl 8 (ah ip.row p0.af.bi)),.v (.i .i64 p0.iG),.v (.sl 7 (ah gi.row p0.bz))]] []=some (.v (.i .i64 r),[])
def vP (p0:List Int) (x1:List Int) (x2:Int) (x3:ir):Option (iv×Int):=
 oB (kv x3 (iv.mk (iN.mk x2 []) 0 [])) fun (x4,x5)=>
 oB (kz x4) fun (x6,x7)=>
 oB (kw x7 (iv.mk x5.af x6 x5.bz)) fun (x8,x9)=>
 oB (Ct true x8) fun (x10,x11)=>
 bif (x10==0) then
  oB (clC x9) fun x12=>
  bif (x12==0) then
   some (x9,0)
  else
  some ((iv.mk (iN.mk 0 []) 0 []),x12)
 else
 some ((iv.mk (iN.mk 0 []) 0 []),x10)
def ns (p0:List Int):Option (iv×Int):=
 bif decide (20000<(p0.length:Int)) then
  some ((iv.mk (iN.mk 0 []) 0 []),1)
 else
 oB (qK p0) fun x1=>
 oB (kz (ir.mk x1 false)) fun (x2,x3)=>
 vP p0 x1 x2 x3
def z8 (C:aj):Prop:=∀(p0:List Int) (r:iv×Int),ns p0=some r->C 29 [.v (.sl 1 (ah cE p0))] []=some (.tup [.agg [.v (.i .i64 r.1.af.iL),.v (.sl 8 (ah ip.row r.1.af.bi)),.v (.i .i64 r.1.iG),.v (.sl 7 (ah gi.row r.1.bz))],.v (.i .i64 r.2)],[])
def lW (p0:i5) (p1:iv):Bool:=
 bif (p0.iT==0) then
  bif (p0.iI==0) then
   bif (p1.iG==0) then
    bif ((p1.bz.length:Int)==0) then
     bif (p1.af.iL==0) then
      ((p1.af.bi.length:Int)==0)
     else
     false
    else
    false
   else
   false
  else
  false
 else
 false
def tp (p0:i5):Option Bool:=
 some (lW p0 p0.iu)
def nr (p0:i5):Bool:=(lW p0 p0.iu)
theorem uR (p0:i5):tp p0=some (nr p0):=by
 simp only [tp,nr]
def uG (C:aj):Prop:=∀(p0:i5) (r:Bool),tp p0=some r->C 47 [.agg [.v (.i .i64 p0.iT),.v (.i .i64 p0.iI),.v (.i .i64 p0.iu.af.iL),.v (.sl 8 (ah ip.row p0.iu.af.bi)),.v (.i .i64 p0.iu.iG),.v (.sl 7 (ah gi.row p0.iu.bz))]] []=some (.v (.b r),[])
def tf (p0:Int):Option Bool:=
 bif decide (1<=p0) then
  some (decide (p0<=1048576))
 else
 some false
def oZ (p0:Int):Bool:=(decide (1<=p0)&&decide (p0<=1048576))
theorem uM (p0:Int):tf p0=some (oZ p0):=by
 simp only [tf,oZ]
 cases decide (1<=p0)<;>rfl
def qG (C:aj):Prop:=∀(p0:Int) (r:Bool),tf p0=some r->C 48 [.v (.i .i64 p0)] []=some (.v (.b r),[])
def nH (p0:i5):Option Int:=
 bif (oZ p0.iT) then
  bif (oZ p0.iI) then
   oB (clC p0.iu) fun x1=>
   some x1
  else
  some 2
 else
 some 2
def xu (C:aj):Prop:=∀(p0:i5) (r:Int),nH p0=some r->C 50 [.agg [.v (.i .i64 p0.iT),.v (.i .i64 p0.iI),.v (.i .i64 p0.iu.af.iL),.v (.sl 8 (ah ip.row p0.iu.af.bi)),.v (.i .i64 p0.iu.iG),.v (.sl 7 (ah gi.row p0.iu.bz))]] []=some (.v (.i .i64 r),[])
def qQ (p0:iw):Bool:=
 bif (p0.iz.cO.je==0) then
  bif (p0.iz.cO.ad.bt==0) then
   bif cY p0.iz.cO.ad.iU ByteArray.empty then
    bif cY p0.iz.cO.ad.iE ByteArray.empty then
     bif cY p0.iz.cO.ad.iq ByteArray.empty then
      bif (p0.iz.cO.ad.fN==0) then
       bif (p0.bt==3) then
        false
       else
       (!(nr p0.iH))
      else
      true
     else
     true
    else
    true
   else
   true
  else
  true
 else
 true
def qX (p0:iw):Bool:=
 bif (p0.iz.cO.je==0) then
  bif (p0.iz.cO.ad.bt==0) then
   bif cY p0.iz.cO.ad.iU ByteArray.empty then
    bif cY p0.iz.cO.ad.iE ByteArray.empty then
     bif cY p0.iz.cO.ad.iq ByteArray.empty then
      bif (p0.iz.cO.ad.fN==0) then
       bif (p0.bt==3) then
        false
       else
       (!(nr p0.iH))
      else
      true
     else
     true
    else
    true
   else
   true
  else
  true
 else
 true
def qP (p0:iw):Bool:=
 bif (p0.bt==2) then
  bif (p0.bt==3) then
   false
  else
  (!(nr p0.iH))
 else
 bif (p0.iT==0) then
  bif (p0.iz.iI==0) then
   bif (p0.iz.iS==0) then
    bif p0.iz.jY then
     true
    else
    bif (p0.iz.cO.iO==0) then
     qX p0
    else
    true
   else
   true
  else
  true
 else
 true
def qU (p0:iw):Bool:=
 bif (p0.bt==2) then
  bif (p0.bt==3) then
   false
  else
  (!(nr p0.iH))
 else
 bif (p0.iT==0) then
  bif (p0.iz.iI==0) then
   bif (p0.iz.iS==0) then
    bif p0.iz.jY then
     true
    else
    bif (p0.iz.cO.iO==0) then
     qQ p0
    else
    true
   else
   true
  else
  true
 else
 true
def mn (p0:iw):Bool:=
 bif (p0.bt==1) then
  qU p0
 else
 bif (p0.iI==0) then
  bif (p0.lz==0) then
   qP p0
  else
  true
 else
 true
def mj (p0:iw):Bool:=
 bif (oZ p0.iI) then
  bif decide (p0.lz<(-1)) then
   true
  else
  decide (3<=p0.lz)
 else
 true
def wU (p0:iw):Option Int:=
 bif decide (3<p0.bt) then
  some 3
 else
 bif (mn p0) then
  some 8
 else
 bif (p0.bt==1) then
  bif (mj p0) then
   some 2
  else
  some 0
 else
 bif (p0.bt==2) then
  bif (oZ p0.iT) then
   some (kh p0.iz)
  else
  some 2
 else
 oB (nH p0.iH) fun x1=>
 some x1
def mr (p0:iw):Option Int:=
 bif decide (p0.bt<1) then
  some 3
 else
 wU p0
def xE (C:aj):Prop:=∀(p0:iw) (r:Int),mr p0=some r->C 25 [.agg [.v (.i .i64 p0.bt),.v (.i .i64 p0.iI),.v (.i .i64 p0.lz),.v (.i .i64 p0.iT),.v (.i .i64 p0.iz.iI),.v (.i .i64 p0.iz.iS),.v (.b p0.iz.jY),.v (.i .i64 p0.iz.cO.iO),.v (.i .i64 p0.iz.cO.je),.v (.i .i64 p0.iz.cO.ad.bt),.v (.s p0.iz.cO.ad.iU),.v (.s p0.iz.cO.ad.iE),.v (.s p0.iz.cO.ad.iq),.v (.i .i64 p0.iz.cO.ad.fN),.v (.i .i64 p0.iH.iT),.v (.i .i64 p0.iH.iI),.v (.i .i64 p0.iH.iu.af.iL),.v (.sl 8 (ah ip.row p0.iH.iu.af.bi)),.v (.i .i64 p0.iH.iu.iG),.v (.sl 7 (ah gi.row p0.iH.iu.bz))]] []=some (.v (.i .i64 r),[])
def yZ (p0:List Int) (x1:Int):Option (iw×Bool):=
 oB (kx (dm p0 1 (p0.length:Int))) fun x2=>
 bif nB 4 (p0.length:Int) (p0.length:Int) then
  oB (kx (dm p0 4 (p0.length:Int))) fun x3=>
  bif nB 7 (p0.length:Int) (p0.length:Int) then
   oB (ns (dm p0 7 (p0.length:Int))) fun (x4,x5)=>
   bif (x5==0) then
    oB (mr (iw.mk 3 0 0 0 (iV.mk 0 0 false (i8.mk 0 0 (iB.mk 0 ByteArray.empty ByteArray.empty ByteArray.empty 0))) (i5.mk x2 x3 x4))) fun x6=>
    some ((iw.mk 3 0 0 0 (iV.mk 0 0 false (i8.mk 0 0 (iB.mk 0 ByteArray.empty ByteArray.empty ByteArray.empty 0))) (i5.mk x2 x3 x4)),(x6==0))
   else
   some ((iw.mk 3 0 0 0 (iV.mk 0 0 false (i8.mk 0 0 (iB.mk 0 ByteArray.empty ByteArray.empty ByteArray.empty 0))) (i5.mk x2 x3 x4)),false)
  else
  none
 else
 none
def v8 (p0:List Int) (x1:Int):Option (iw×Bool):=
 bif nB 1 (p0.length:Int) (p0.length:Int) then
  oB (kx (dm p0 1 (p0.length:Int))) fun x2=>
  bif nB 4 (p0.length:Int) (p0.length:Int) then
   oB (l5 (dm p0 4 (p0.length:Int))) fun (x3,x4)=>
   bif (x4==0) then
    oB (mr (iw.mk 2 0 0 x2 x3 (i5.mk 0 0 (iv.mk (iN.mk 0 []) 0 [])))) fun x5=>
    some ((iw.mk 2 0 0 x2 x3 (i5.mk 0 0 (iv.mk (iN.mk 0 []) 0 []))),(x5==0))
   else
   some ((iw.mk 2 0 0 x2 x3 (i5.mk 0 0 (iv.mk (iN.mk 0 []) 0 []))),false)
  else
  none
 else
 none
def yP (p0:List Int) (x1:Int):Option (iw×Bool):=
 oB (kx (dm p0 1 (p0.length:Int))) fun x2=>
 bif nB 4 (p0.length:Int) (p0.length:Int) then
  oB (kx (dm p0 4 (p0.length:Int))) fun x3=>
  bif nB 7 (p0.length:Int) (p0.length:Int) then
   oB (ns (dm p0 7 (p0.length:Int))) fun (x4,x5)=>
   bif (x5==0) then
    oB (mr (iw.mk 3 0 0 0 (iV.mk 0 0 false (i8.mk 0 0 (iB.mk 0 ByteArray.empty ByteArray.empty ByteArray.empty 0))) (i5.mk x2 x3 x4))) fun x6=>
    some ((iw.mk 3 0 0 0 (iV.mk 0 0 false (i8.mk 0 0 (iB.mk 0 ByteArray.empty ByteArray.empty ByteArray.empty 0))) (i5.mk x2 x3 x4)),(x6==0))
   else
   some ((iw.mk 3 0 0 0 (iV.mk 0 0 false (i8.mk 0 0 (iB.mk 0 ByteArray.empty ByteArray.empty ByteArray.empty 0))) (i5.mk x2 x3 x4)),false)
  else
  none
 else
 none
def rG (p0:List Int) (x1:Int):Option (iw×Bool):=
 bif (x1==2) then
  v8 p0 x1
 else
 bif decide (7<(p0.length:Int)) then
  bif (x1==3) then
   bif nB 1 (p0.length:Int) (p0.length:Int) then
    yZ p0 x1
   else
   none
  else
  some ((iw.mk 0 0 0 0 (iV.mk 0 0 false (i8.mk 0 0 (iB.mk 0 ByteArray.empty ByteArray.empty ByteArray.empty 0))) (i5.mk 0 0 (iv.mk (iN.mk 0 []) 0 []))),false)
 else
 some ((iw.mk 0 0 0 0 (iV.mk 0 0 false (i8.mk 0 0 (iB.mk 0 ByteArray.empty ByteArray.empty ByteArray.empty 0))) (i5.mk 0 0 (iv.mk (iN.mk 0 []) 0 []))),false)
def wg (p0:List Int) (x1:Int):Option (iw×Bool):=
 bif nB 1 (p0.length:Int) (p0.length:Int) then
  oB (kx (dm p0 1 (p0.length:Int))) fun x2=>
  oB (idx p0 4) fun x3=>
  oB (mr (iw.mk 1 x2 (IntKind.i64.wrap ((IntKind.i64.wrap x3)-1)) 0 (iV.mk 0 0 false (i8.mk 0 0 (iB.mk 0 ByteArray.empty ByteArray.empty ByteArray.empty 0))) (i5.mk 0 0 (iv.mk (iN.mk 0 []) 0 [])))) fun x4=>
  some ((iw.mk 1 x2 (IntKind.i64.wrap ((IntKind.i64.wrap x3)-1)) 0 (iV.mk 0 0 false (i8.mk 0 0 (iB.mk 0 ByteArray.empty ByteArray.empty ByteArray.empty 0))) (i5.mk 0 0 (iv.mk (iN.mk 0 []) 0 []))),(x4==0))
 else
 none
def v9 (p0:List Int) (x1:Int):Option (iw×Bool):=
 oB (kx (dm p0 1 (p0.length:Int))) fun x2=>
 bif nB 4 (p0.length:Int) (p0.length:Int) then
  oB (kx (dm p0 4 (p0.length:Int))) fun x3=>
  bif nB 7 (p0.length:Int) (p0.length:Int) then
   oB (ns (dm p0 7 (p0.length:Int))) fun (x4,x5)=>
   bif (x5==0) then
    oB (mr (iw.mk 3 0 0 0 (iV.mk 0 0 false (i8.mk 0 0 (iB.mk 0 ByteArray.empty ByteArray.empty ByteArray.empty 0))) (i5.mk x2 x3 x4))) fun x6=>
    some ((iw.mk 3 0 0 0 (iV.mk 0 0 false (i8.mk 0 0 (iB.mk 0 ByteArray.empty ByteArray.empty ByteArray.empty 0))) (i5.mk x2 x3 x4)),(x6==0))
   else
   some ((iw.mk 3 0 0 0 (iV.mk 0 0 false (i8.mk 0 0 (iB.mk 0 ByteArray.empty ByteArray.empty ByteArray.empty 0))) (i5.mk x2 x3 x4)),false)
  else
  none
 else
 none
def wk (p0:List Int) (x1:Int):Option (iw×Bool):=
 bif nB 1 (p0.length:Int) (p0.length:Int) then
  oB (kx (dm p0 1 (p0.length:Int))) fun x2=>
  bif nB 4 (p0.length:Int) (p0.length:Int) then
   oB (l5 (dm p0 4 (p0.length:Int))) fun (x3,x4)=>
   bif (x4==0) then
    oB (mr (iw.mk 2 0 0 x2 x3 (i5.mk 0 0 (iv.mk (iN.mk 0 []) 0 [])))) fun x5=>
    some ((iw.mk 2 0 0 x2 x3 (i5.mk 0 0 (iv.mk (iN.mk 0 []) 0 []))),(x5==0))
   else
   some ((iw.mk 2 0 0 x2 x3 (i5.mk 0 0 (iv.mk (iN.mk 0 []) 0 []))),false)
  else
  none
 else
 none
def yU (p0:List Int) (x1:Int):Option (iw×Bool):=
 oB (kx (dm p0 1 (p0.length:Int))) fun x2=>
 bif nB 4 (p0.length:Int) (p0.length:Int) then
  oB (kx (dm p0 4 (p0.length:Int))) fun x3=>
  bif nB 7 (p0.length:Int) (p0.length:Int) then
   oB (ns (dm p0 7 (p0.length:Int))) fun (x4,x5)=>
   bif (x5==0) then
    oB (mr (iw.mk 3 0 0 0 (iV.mk 0 0 false (i8.mk 0 0 (iB.mk 0 ByteArray.empty ByteArray.empty ByteArray.empty 0))) (i5.mk x2 x3 x4))) fun x6=>
    some ((iw.mk 3 0 0 0 (iV.mk 0 0 false (i8.mk 0 0 (iB.mk 0 ByteArray.empty ByteArray.empty ByteArray.empty 0))) (i5.mk x2 x3 x4)),(x6==0))
   else
   some ((iw.mk 3 0 0 0 (iV.mk 0 0 false (i8.mk 0 0 (iB.mk 0 ByteArray.empty ByteArray.empty ByteArray.empty 0))) (i5.mk x2 x3 x4)),false)
  else
  none
 else
 none
def nI (p0:List Int):Option (iw×Bool):=
 oB (idx p0 0) fun x1=>
 bif (x1==2) then
  wk p0 x1
 else
 bif decide (7<(p0.length:Int)) then
  bif (x1==3) then
   bif nB 1 (p0.length:Int) (p0.length:Int) then
    v9 p0 x1
   else
   none
  else
  some ((iw.mk 0 0 0 0 (iV.mk 0 0 false (i8.mk 0 0 (iB.mk 0 ByteArray.empty ByteArray.empty ByteArray.empty 0))) (i5.mk 0 0 (iv.mk (iN.mk 0 []) 0 []))),false)
 else
 some ((iw.mk 0 0 0 0 (iV.mk 0 0 false (i8.mk 0 0 (iB.mk 0 ByteArray.empty ByteArray.empty ByteArray.empty 0))) (i5.mk 0 0 (iv.mk (iN.mk 0 []) 0 []))),false)
def pC (p0:List Int):Option (iw×Bool):=
 oB (idx p0 0) fun x1=>
 bif (x1==1) then
  wg p0 x1
 else
 bif decide (4<(p0.length:Int)) then
  rG p0 x1
 else
 bif decide (7<(p0.length:Int)) then
  bif (x1==3) then
   bif nB 1 (p0.length:Int) (p0.length:Int) then
    yP p0 x1
   else
   none
  else
  some ((iw.mk 0 0 0 0 (iV.mk 0 0 false (i8.mk 0 0 (iB.mk 0 ByteArray.empty ByteArray.empty ByteArray.empty 0))) (i5.mk 0 0 (iv.mk (iN.mk 0 []) 0 []))),false)
 else
 some ((iw.mk 0 0 0 0 (iV.mk 0 0 false (i8.mk 0 0 (iB.mk 0 ByteArray.empty ByteArray.empty ByteArray.empty 0))) (i5.mk 0 0 (iv.mk (iN.mk 0 []) 0 []))),false)
def kp (p0:List Int):Option (iw×Bool):=
 bif ((p0.length:Int)==5) then
  pC p0
 else
 bif decide (4<(p0.length:Int)) then
  nI p0
 else
 bif decide (7<(p0.length:Int)) then
  oB (idx p0 0) fun x1=>
  bif (x1==3) then
   bif nB 1 (p0.length:Int) (p0.length:Int) then
    yU p0 x1
   else
   none
  else
  some ((iw.mk 0 0 0 0 (iV.mk 0 0 false (i8.mk 0 0 (iB.mk 0 ByteArray.empty ByteArray.empty ByteArray.empty 0))) (i5.mk 0 0 (iv.mk (iN.mk 0 []) 0 []))),false)
 else
 some ((iw.mk 0 0 0 0 (iV.mk 0 0 false (i8.mk 0 0 (iB.mk 0 ByteArray.empty ByteArray.empty ByteArray.empty 0))) (i5.mk 0 0 (iv.mk (iN.mk 0 []) 0 []))),false)
def wS (C:aj):Prop:=∀(p0:List Int) (r:iw×Bool),kp p0=some r->C 17 [.v (.sl 1 (ah cE p0))] []=some (.tup [.agg [.v (.i .i64 r.1.bt),.v (.i .i64 r.1.iI),.v (.i .i64 r.1.lz),.v (.i .i64 r.1.iT),.v (.i .i64 r.1.iz.iI),.v (.i .i64 r.1.iz.iS),.v (.b r.1.iz.jY),.v (.i .i64 r.1.iz.cO.iO),.v (.i .i64 r.1.iz.cO.je),.v (.i .i64 r.1.iz.cO.ad.bt),.v (.s r.1.iz.cO.ad.iU),.v (.s r.1.iz.cO.ad.iE),.v (.s r.1.iz.cO.ad.iq),.v (.i .i64 r.1.iz.cO.ad.fN),.v (.i .i64 r.1.iH.iT),.v (.i .i64 r.1.iH.iI),.v (.i .i64 r.1.iH.iu.af.iL),.v (.sl 8 (ah ip.row r.1.iH.iu.af.bi)),.v (.i .i64 r.1.iH.iu.iG),.v (.sl 7 (ah gi.row r.1.iH.iu.bz))],.v (.b r.2)],[])
def mE (p2:iY) (p0:List iw) (p1:Int):Option (((List iw)×Int)⊕(((List iw)×Int)⊕((List iw)×Int×iw))):=
 bif nB p1 (p2.iW.length:Int) (p2.iW.length:Int) then
  oB (kx (dm p2.iW p1 (p2.iW.length:Int))) fun x1=>
  bif decide ((p2.iW.length:Int)<(IntKind.i64.wrap ((IntKind.i64.wrap (p1+3))+x1))) then
   some (.inr (.inl (p0,p1)))
  else
  bif nB (IntKind.i64.wrap (p1+3)) (IntKind.i64.wrap ((IntKind.i64.wrap (p1+3))+x1)) (p2.iW.length:Int) then
   oB (kp (dm p2.iW (IntKind.i64.wrap (p1+3)) (IntKind.i64.wrap ((IntKind.i64.wrap (p1+3))+x1)))) fun (x2,x3)=>
   bif x3 then
    bif dh (p0.length+1) 216 then
     some (.inl ((p0++ [x2]),(IntKind.i64.wrap (p1+(IntKind.i64.wrap (3+x1))))))
    else
    none
   else
   some (.inr (.inr (p0,p1,x2)))
  else
  none
 else
 none
def kn (p2:iY) (s:(List iw)×Int):Option (((List iw)×Int)⊕(((List iw)×Int)⊕((List iw)×Int×iw))):=
 match s with
 |(p0,p1)=>
  bif decide ((IntKind.i64.wrap (p1+3))<=(p2.iW.length:Int)) then
   mE p2 p0 p1
  else
  some (.inr (.inl (p0,p1)))
def oL (p0:iY):Option ((List iw)×iY×Int):=
 oB (vM p0) fun (x1,x2)=>
 bif x2 then
  oB (cM (kn x1) ([],0)) fun
  | .inl (x3,x4)=>
   bif nB 0 x4 (x1.iW.length:Int) then
    some (x3,(iY.mk (dm x1.iW 0 x4) (if x4<x1.iP then x4 else x1.iP)),0)
   else
   none
  | .inr (x3,x4,x5)=>
   bif nB 0 x4 (x1.iW.length:Int) then
    some (x3,(iY.mk (dm x1.iW 0 x4) (if x4<x1.iP then x4 else x1.iP)),0)
   else
   none
 else
 some ([],(iY.mk [] 0),13)
def vX (C:aj):Prop:=∀(p0:iY) (r:(List iw)×iY×Int),oL p0=some r->C 6 [.agg [.v (.sl 1 (ah cE p0.iW)),.v (.i .i64 p0.iP)]] []=some (.tup [.v (.sl 20 (ah iw.row r.1)),.agg [.v (.sl 1 (ah cE r.2.1.iW)),.v (.i .i64 r.2.1.iP)],.v (.i .i64 r.2.2)],[])
def Ok (p0:Int) (p1:Int) (p2:Int):Option Bool:=
 bif decide (p1<=p0) then
  some (decide (p0<=p2))
 else
 some false
def jj (p0:Int) (p1:Int) (p2:Int):Bool:=(decide (p1<=p0)&&decide (p0<=p2))
theorem oU (p0:Int) (p1:Int) (p2:Int):Ok p0 p1 p2=some (jj p0 p1 p2):=by
 simp only [Ok,jj]
 cases decide (p1<=p0)<;>rfl
def kW (C:aj):Prop:=∀(p0:Int) (p1:Int) (p2:Int) (r:Bool),Ok p0 p1 p2=some r->C 42 [.v (.i .i64 p0),.v (.i .i64 p1),.v (.i .i64 p2)] []=some (.v (.b r),[])
def vO (p0:iY):Option Bool:=
 bif decide ((p0.iW.length:Int)<=400000) then
  some (decide (0<=p0.iP)&&decide (p0.iP<=(p0.iW.length:Int)))
 else
 some false
def ry (p0:iY):Bool:=(decide ((p0.iW.length:Int)<=400000)&&(decide (0<=p0.iP)&&decide (p0.iP<=(p0.iW.length:Int))))
theorem J8 (p0:iY):vO p0=some (ry p0):=by
 simp only [vO,ry]
 cases decide ((p0.iW.length:Int)<=400000)<;>rfl
def yW (C:aj):Prop:=∀(p0:iY) (r:Bool),vO p0=some r->C 18 [.agg [.v (.sl 1 (ah cE p0.iW)),.v (.i .i64 p0.iP)]] []=some (.v (.b r),[])
def kF (p0:List Int) (p1:Int):Option Int:=
 oB (idx p0 p1) fun x1=>
 oB (idx p0 (IntKind.i64.wrap (p1+1))) fun x2=>
 oB (idx p0 (IntKind.i64.wrap (p1+2))) fun x3=>
 some (IntKind.i64.wrap ((IntKind.i64.wrap ((IntKind.i64.wrap (65536*(IntKind.i64.wrap x1)))+(IntKind.i64.wrap (256*(IntKind.i64.wrap x2)))))+(IntKind.i64.wrap x3)))
def pu (C:aj):Prop:=∀(p0:List Int) (p1:Int) (r:Int),kF p0 p1=some r->C 19 [.v (.sl 1 (ah cE p0)),.v (.i .i64 p1)] []=some (.v (.i .i64 r),[])
def lV (p0:i5):Bool:=
 bif (p0.iT==0) then
  bif (p0.iI==0) then
   bif (p0.iu.iG==0) then
    bif (p0.iu.af.iL==0) then
     bif ((p0.iu.af.bi.length:Int)==0) then
      ((p0.iu.bz.length:Int)==0)
     else
     false
    else
    false
   else
   false
  else
  false
 else
 false
def tt (p0:i5):Option Bool:=
 some (lV p0)
def np (p0:i5):Bool:=(lV p0)
theorem uS (p0:i5):tt p0=some (np p0):=by
 simp only [tt,np]
def uJ (C:aj):Prop:=∀(p0:i5) (r:Bool),tt p0=some r->C 71 [.agg [.v (.i .i64 p0.iT),.v (.i .i64 p0.iI),.v (.i .i64 p0.iu.af.iL),.v (.sl 8 (ah ip.row p0.iu.af.bi)),.v (.i .i64 p0.iu.iG),.v (.sl 7 (ah gi.row p0.iu.bz))]] []=some (.v (.b r),[])
def tj (p0:Int):Option Bool:=
 some (decide (1<=p0)&&decide (p0<=1048576))
def jz (p0:Int):Bool:=(decide (1<=p0)&&decide (p0<=1048576))
theorem nu (p0:Int):tj p0=some (jz p0):=by
 simp only [tj,jz]
def kB (C:aj):Prop:=∀(p0:Int) (r:Bool),tj p0=some r->C 73 [.v (.i .i64 p0)] []=some (.v (.b r),[])
def um (p0:ByteArray):Option Bool:=
 some (decide (1<=(p0.size:Int))&&decide ((p0.size:Int)<=12))
def la (p0:ByteArray):Bool:=(decide (1<=(p0.size:Int))&&decide ((p0.size:Int)<=12))
theorem tT (p0:ByteArray):um p0=some (la p0):=by
 simp only [um,la]
def lE (C:aj):Prop:=∀(p0:ByteArray) (r:Bool),um p0=some r->C 116 [.v (.s p0)] []=some (.v (.b r),[])
def nF (p0:iy):Int:=
 (IntKind.i64.wrap ((IntKind.i64.wrap ((p0.iA.length:Int)+(p0.iC.length:Int)))+(p0.il.length:Int)))
def y9 (p0:iy):Option Int:=some (nF p0)
theorem MA (p0:iy):y9 p0=some (nF p0):=rfl
def xT (C:aj):Prop:=∀(p0:iy) (r:Int),y9 p0=some r->C 138 [.agg [.v (.i .i64 p0.bt),.v (.s p0.iq),.v (.i .i64 p0.iF),.v (.sl 2 (ah iD.row p0.iA)),.v (.sl 1 (ah bY p0.iC)),.v (.sl 2 (ah im.row p0.il))]] []=some (.v (.i .i64 r),[])
def vL (p0:ByteArray):Option Bool:=
 some (decide ((p0.size:Int)<=20))
def jg (p0:ByteArray):Bool:=decide ((p0.size:Int)<=20)
theorem mJ (p0:ByteArray):vL p0=some (jg p0):=by
 simp only [vL,jg]
def ln (C:aj):Prop:=∀(p0:ByteArray) (r:Bool),vL p0=some r->C 118 [.v (.s p0)] []=some (.v (.b r),[])
def uv (p0:Int):Option Bool:=
 some (decide ((-1099511627776)<=p0)&&decide (p0<=1099511627776))
def kN (p0:Int):Bool:=(decide ((-1099511627776)<=p0)&&decide (p0<=1099511627776))
theorem tP (p0:Int):uv p0=some (kN p0):=by
 simp only [uv,kN]
def oz (C:aj):Prop:=∀(p0:Int) (r:Bool),uv p0=some r->C 119 [.v (.i .i64 p0)] []=some (.v (.b r),[])
def rY (p0:im) (p1:im):Option Bool:=
 bif (p0.fN==p1.fN) then
  some (rR p0.iZ p1.iZ)
 else
 some (decide (p0.fN<p1.fN))
def jS (p0:im) (p1:im):Bool:=(bif (p0.fN==p1.fN) then rR p0.iZ p1.iZ else decide (p0.fN<p1.fN))
theorem Dz (p0:im) (p1:im):rY p0 p1=some (jS p0 p1):=by
 simp only [rY,jS]
 cases (p0.fN==p1.fN)<;>rfl
def tN (C:aj):Prop:=∀(p0:im) (p1:im) (r:Bool),rY p0 p1=some r->C 139 [.agg [.v (.s p0.iZ),.v (.i .i64 p0.fN)],.agg [.v (.s p1.iZ),.v (.i .i64 p1.fN)]] []=some (.v (.b r),[])
def oi (p0:List im) (p1:ByteArray) (s:Int):Option (Int⊕(Int⊕Unit)):=
 match s with
 |p2=>
  bif decide (p2<(p0.length:Int)) then
   oB (idx p0 p2) fun x1=>
   bif cY x1.iZ p1 then
    some (.inr (.inl p2))
   else
   some (.inl (IntKind.i64.wrap (p2+1)))
  else
  some (.inr (.inr ()))
def sY (p0:List im) (p1:ByteArray):Option Int:=
 oB (cM (oi p0 p1) 0) fun
 | .inl x1=>
  some x1
 | .inr _=>
  some (-1)
def xC (C:aj):Prop:=∀(p0:List im) (p1:ByteArray) (r:Int),sY p0 p1=some r->C 140 [.v (.sl 2 (ah im.row p0)),.v (.s p1)] []=some (.v (.i .i64 r),[])
def pA (p0:iy):Bool:=
 bif (p0.iF==0) then
  bif (p0.bt==3) then
   bif (p0.bt==6) then
    false
   else
   decide (0<(p0.il.length:Int))
  else
  bif decide (0<(p0.iA.length:Int)) then
   true
  else
  bif (p0.bt==6) then
   false
  else
  decide (0<(p0.il.length:Int))
 else
 true
def pG (p0:iy):Bool:=
 bif (p0.iF==0) then
  bif (p0.bt==3) then
   bif (p0.bt==6) then
    false
   else
   decide (0<(p0.il.length:Int))
  else
  bif decide (0<(p0.iA.length:Int)) then
   true
  else
  bif (p0.bt==6) then
   false
  else
  decide (0<(p0.il.length:Int))
 else
 true
def pN (p0:iy):Bool:=
 bif cY p0.iq ByteArray.empty then
  bif (p0.bt==2) then
   bif (p0.bt==3) then
    bif (p0.bt==6) then
     false
    else
    decide (0<(p0.il.length:Int))
   else
   bif decide (0<(p0.iA.length:Int)) then
    true
   else
   bif (p0.bt==6) then
    false
   else
   decide (0<(p0.il.length:Int))
  else
  pG p0
 else
 true
def mB (p0:iy):Bool:=
 bif (p0.bt==1) then
  bif (p0.bt==2) then
   bif (p0.bt==3) then
    bif (p0.bt==6) then
     false
    else
    decide (0<(p0.il.length:Int))
   else
   bif decide (0<(p0.iA.length:Int)) then
    true
   else
   bif (p0.bt==6) then
    false
   else
   decide (0<(p0.il.length:Int))
  else
  pA p0
 else
 pN p0
def kq (p0:iy):Bool:=
 bif decide (3<=p0.bt) then
  bif decide (1<=(nF p0)) then
   bif decide ((nF p0)<=20) then
    (!(jg p0.iq))
   else
   true
  else
  true
 else
 (!(jg p0.iq))
def kT (p0:iy) (s:Int):Option (Int⊕(Unit⊕Unit)):=
 match s with
 |p1=>
  bif decide (p1<(p0.iC.length:Int)) then
   oB (idx p0.iC p1) fun x1=>
   bif (jg x1) then
    some (.inl (IntKind.i64.wrap (p1+1)))
   else
   some (.inr (.inl ()))
  else
  some (.inr (.inr ()))
def lJ (p0:iy) (s:Int):Option (Int⊕(Unit⊕Unit)):=
 match s with
 |p1=>
  bif decide (p1<(p0.iA.length:Int)) then
   oB (idx p0.iA p1) fun x1=>
   bif (la x1.iE) then
    bif (jg x1.iq) then
     some (.inl (IntKind.i64.wrap (p1+1)))
    else
    some (.inr (.inl ()))
   else
   some (.inr (.inl ()))
  else
  some (.inr (.inr ()))
def lT (p0:iy) (s:Int):Option (Int⊕(Unit⊕Unit)):=
 match s with
 |p1=>
  bif decide (p1<(p0.il.length:Int)) then
   oB (idx p0.il p1) fun x1=>
   bif (jg x1.iZ) then
    some (.inl (IntKind.i64.wrap (p1+1)))
   else
   some (.inr (.inl ()))
  else
  some (.inr (.inr ()))
def lK (p0:iy) (s:Int):Option (Int⊕(Unit⊕Unit)):=
 match s with
 |p1=>
  bif decide (p1<(p0.il.length:Int)) then
   oB (idx p0.il p1) fun x1=>
   bif (kN x1.fN) then
    some (.inl (IntKind.i64.wrap (p1+1)))
   else
   some (.inr (.inl ()))
  else
  some (.inr (.inr ()))
def lD (p0:iy) (s:Int):Option (Int⊕(Unit⊕Unit)):=
 match s with
 |p1=>
  bif decide (p1<(p0.iA.length:Int)) then
   oB (idx p0.iA (IntKind.i64.wrap (p1-1))) fun x1=>
   oB (idx p0.iA p1) fun x2=>
   bif rR x1.iE x2.iE then
    some (.inl (IntKind.i64.wrap (p1+1)))
   else
   some (.inr (.inl ()))
  else
  some (.inr (.inr ()))
def j0 (p0:iy) (s:Int):Option (Int⊕(Unit⊕Unit)):=
 match s with
 |p1=>
  bif decide (p1<(p0.iC.length:Int)) then
   bif (p0.bt==5) then
    oB (idx p0.iC (IntKind.i64.wrap (p1-1))) fun x1=>
    oB (idx p0.iC p1) fun x2=>
    bif rR x1 x2 then
     some (.inl (IntKind.i64.wrap (p1+1)))
    else
    some (.inr (.inl ()))
   else
   some (.inr (.inr ()))
  else
  some (.inr (.inr ()))
def ld (p0:iy) (s:Int):Option (Int⊕(Unit⊕Unit)):=
 match s with
 |p1=>
  bif decide (p1<(p0.il.length:Int)) then
   oB (idx p0.il (IntKind.i64.wrap (p1-1))) fun x1=>
   oB (idx p0.il p1) fun x2=>
   bif (jS x1 x2) then
    bif nB 0 p1 (p0.il.length:Int) then
     oB (sY (dm p0.il 0 p1) x2.iZ) fun x3=>
     bif decide (0<=x3) then
      some (.inr (.inl ()))
     else
     some (.inl (IntKind.i64.wrap (p1+1)))
    else
    none
   else
   some (.inr (.inl ()))
  else
  some (.inr (.inr ()))
def nQ (p0:iy) (p1:Bool):Bool:=
 bif decide (0<(p0.iA.length:Int)) then
  true
 else
 bif p1 then
  bif (p0.bt==6) then
   false
  else
  decide (0<(p0.il.length:Int))
 else
 bif decide (0<(p0.iC.length:Int)) then
  true
 else
 bif (p0.bt==6) then
  false
 else
 decide (0<(p0.il.length:Int))
def nT (p0:iy) (p1:Bool):Bool:=
 bif decide (0<(p0.iA.length:Int)) then
  true
 else
 bif p1 then
  bif (p0.bt==6) then
   false
  else
  decide (0<(p0.il.length:Int))
 else
 bif decide (0<(p0.iC.length:Int)) then
  true
 else
 bif (p0.bt==6) then
  false
 else
 decide (0<(p0.il.length:Int))
def nX (p0:iy) (p1:Bool):Bool:=
 bif (p0.iF==0) then
  bif (p0.bt==3) then
   bif p1 then
    bif (p0.bt==6) then
     false
    else
    decide (0<(p0.il.length:Int))
   else
   bif decide (0<(p0.iC.length:Int)) then
    true
   else
   bif (p0.bt==6) then
    false
   else
   decide (0<(p0.il.length:Int))
  else
  nT p0 p1
 else
 true
def nU (p0:iy) (p1:Bool):Bool:=
 bif decide (0<(p0.iA.length:Int)) then
  true
 else
 bif p1 then
  bif (p0.bt==6) then
   false
  else
  decide (0<(p0.il.length:Int))
 else
 bif decide (0<(p0.iC.length:Int)) then
  true
 else
 bif (p0.bt==6) then
  false
 else
 decide (0<(p0.il.length:Int))
def nV (p0:iy) (p1:Bool):Bool:=
 bif decide (0<(p0.iA.length:Int)) then
  true
 else
 bif p1 then
  bif (p0.bt==6) then
   false
  else
  decide (0<(p0.il.length:Int))
 else
 bif decide (0<(p0.iC.length:Int)) then
  true
 else
 bif (p0.bt==6) then
  false
 else
 decide (0<(p0.il.length:Int))
def nY (p0:iy) (p1:Bool):Bool:=
 bif (p0.iF==0) then
  bif (p0.bt==3) then
   bif p1 then
    bif (p0.bt==6) then
     false
    else
    decide (0<(p0.il.length:Int))
   else
   bif decide (0<(p0.iC.length:Int)) then
    true
   else
   bif (p0.bt==6) then
    false
   else
   decide (0<(p0.il.length:Int))
  else
  nV p0 p1
 else
 true
def nR (p0:iy) (p1:Bool):Bool:=
 bif cY p0.iq ByteArray.empty then
  bif (p0.bt==2) then
   bif (p0.bt==3) then
    bif p1 then
     bif (p0.bt==6) then
      false
     else
     decide (0<(p0.il.length:Int))
    else
    bif decide (0<(p0.iC.length:Int)) then
     true
    else
    bif (p0.bt==6) then
     false
    else
    decide (0<(p0.il.length:Int))
   else
   nU p0 p1
  else
  nY p0 p1
 else
 true
def lU (p0:iy) (p1:Bool):Bool:=
 bif (p0.bt==1) then
  bif (p0.bt==2) then
   bif (p0.bt==3) then
    bif p1 then
     bif (p0.bt==6) then
      false
     else
     decide (0<(p0.il.length:Int))
    else
    bif decide (0<(p0.iC.length:Int)) then
     true
    else
    bif (p0.bt==6) then
     false
    else
    decide (0<(p0.il.length:Int))
   else
   nQ p0 p1
  else
  nX p0 p1
 else
 nR p0 p1
def sH (p0:iy):Option Int:=
 oB (cM (ld p0) 1) fun
 | .inl _=>
  some 10
 | .inr _=>
  some 0
def vo (p0:iy):Option Int:=
 oB (cM (j0 p0) 1) fun
 | .inl _=>
  some 10
 | .inr _=>
  sH p0
def vt (p0:iy):Option Int:=
 oB (cM (lD p0) 1) fun
 | .inl _=>
  some 10
 | .inr _=>
  vo p0
def vg (p0:iy):Option Int:=
 bif (kN p0.iF) then
  oB (cM (lK p0) 0) fun
  | .inl _=>
   some 2
  | .inr _=>
   vt p0
 else
 some 2
def vn (p0:iy):Option Int:=
 oB (cM (lT p0) 0) fun
 | .inl _=>
  some 1
 | .inr _=>
  vg p0
def qv (p0:iy):Option Int:=
 oB (cM (lJ p0) 0) fun
 | .inl _=>
  some 1
 | .inr _=>
  vn p0
def ve (p0:iy):Option Int:=
 oB (cM (ld p0) 1) fun
 | .inl _=>
  some 10
 | .inr _=>
  some 0
def yr (p0:iy):Option Int:=
 oB (cM (j0 p0) 1) fun
 | .inl _=>
  some 10
 | .inr _=>
  ve p0
def ym (p0:iy):Option Int:=
 oB (cM (lD p0) 1) fun
 | .inl _=>
  some 10
 | .inr _=>
  yr p0
def yp (p0:iy):Option Int:=
 bif (kN p0.iF) then
  oB (cM (lK p0) 0) fun
  | .inl _=>
   some 2
  | .inr _=>
   ym p0
 else
 some 2
def xl (p0:iy):Option Int:=
 oB (cM (lT p0) 0) fun
 | .inl _=>
  some 1
 | .inr _=>
  yp p0
def uB (p0:iy):Option Int:=
 oB (cM (lJ p0) 0) fun
 | .inl _=>
  some 1
 | .inr _=>
  xl p0
def ui (p0:iy):Option Int:=
 bif (mB p0) then
  some 8
 else
 bif (kq p0) then
  some 1
 else
 oB (cM (kT p0) 0) fun
 | .inl _=>
  some 1
 | .inr _=>
  qv p0
def qc (p0:iy):Option Int:=
 bif decide (1<=p0.bt) then
  bif decide (p0.bt<=6) then
   bif (p0.bt==4) then
    ui p0
   else
   bif (lU p0 (p0.bt==5)) then
    some 8
   else
   bif (kq p0) then
    some 1
   else
   oB (cM (kT p0) 0) fun
   | .inl _=>
    some 1
   | .inr _=>
    uB p0
  else
  some 3
 else
 some 3
def tG (C:aj):Prop:=∀(p0:iy) (r:Int),qc p0=some r->C 117 [.agg [.v (.i .i64 p0.bt),.v (.s p0.iq),.v (.i .i64 p0.iF),.v (.sl 2 (ah iD.row p0.iA)),.v (.sl 1 (ah bY p0.iC)),.v (.sl 2 (ah im.row p0.il))]] []=some (.v (.i .i64 r),[])
def lq (p0:iN):Bool:=
 bif decide (0<=p0.iL) then
  bif decide (p0.iL<=1073741824) then
   decide (12<(p0.bi.length:Int))
  else
  true
 else
 true
def mF (p0:iN) (p1:Int) (p2:ip):Option Bool:=
 bif (la p2.iU) then
  oB (qc p2.iJ) fun x1=>
  bif (x1==0) then
   bif decide (0<p1) then
    oB (idx p0.bi (IntKind.i64.wrap (p1-1))) fun x2=>
    some (!rR x2.iU p2.iU)
   else
   some false
  else
  some true
 else
 some true
def lH (p0:iN) (p1:Int) (p2:ip):Bool:=
 bif (p2.jQ==0) then
  false
 else
 bif decide (0<=p2.jQ) then
  bif decide (p2.jQ<=1073741824) then
   decide (p2.jQ<=p0.iL)
  else
  true
 else
 true
def mX (p0:iN) (s:Int):Option (Int⊕(ip⊕Unit)):=
 match s with
 |p1=>
  bif decide (p1<(p0.bi.length:Int)) then
   oB (idx p0.bi p1) fun x1=>
   oB (mF p0 p1 x1) fun x2=>
   bif x2 then
    some (.inr (.inl x1))
   else
   bif (lH p0 p1 x1) then
    some (.inr (.inl x1))
   else
   some (.inl (IntKind.i64.wrap (p1+1)))
  else
  some (.inr (.inr ()))
def pZ (p0:iN):Option Int:=
 bif (lq p0) then
  some 13
 else
 oB (cM (mX p0) 0) fun
 | .inl x1=>
  some 13
 | .inr _=>
  some 0
def tF (C:aj):Prop:=∀(p0:iN) (r:Int),pZ p0=some r->C 105 [.agg [.v (.i .i64 p0.iL),.v (.sl 8 (ah ip.row p0.bi))]] []=some (.v (.i .i64 r),[])
def mV (p0:jf) (s:Int):Option (Int⊕(Unit⊕Unit)):=
 match s with
 |p1=>
  bif decide (p1<(p0.jH.length:Int)) then
   oB (idx p0.jH p1) fun x1=>
   bif (jg x1) then
    some (.inl (IntKind.i64.wrap (p1+1)))
   else
   some (.inr (.inl ()))
  else
  some (.inr (.inr ()))
def oK (p0:jf):Option Int:=
 bif decide (0<=p0.jW) then
  bif decide (p0.jW<=13) then
   bif (jg p0.iq) then
    bif decide (20<(p0.jH.length:Int)) then
     some 1
    else
    oB (cM (mV p0) 0) fun
    | .inl _=>
     some 1
    | .inr _=>
     bif (kN p0.fN) then
      some 0
     else
     some 2
   else
   some 1
  else
  some 3
 else
 some 3
def tS (C:aj):Prop:=∀(p0:jf) (r:Int),oK p0=some r->C 106 [.agg [.v (.i .i64 p0.jW),.v (.s p0.iq),.v (.i .i64 p0.fN),.v (.sl 1 (ah bY p0.jH))]] []=some (.v (.i .i64 r),[])
def mI (p0:iv):Option Bool:=
 oB (pZ p0.af) fun x1=>
 bif (x1==0) then
  bif decide (1<=p0.iG) then
   bif decide (p0.iG<=1048577) then
    some (decide (4<(p0.bz.length:Int)))
   else
   some true
  else
  some true
 else
 some true
def nP (p0:iv) (p1:Int) (p2:gi):Option Bool:=
 oB (idx p0.bz (IntKind.i64.wrap (p1-1))) fun x1=>
 bif decide (p2.fId<=x1.fId) then
  some true
 else
 bif decide (0<=p2.je) then
  bif decide (p2.je<=1048576) then
   bif decide (0<=p2.iS) then
    bif decide (p2.iS<=p0.af.iL) then
     oB (oK p2.iX) fun x2=>
     some (!(x2==0))
    else
    some true
   else
   some true
  else
  some true
 else
 some true
def nZ (p0:iv) (p1:Int) (p2:gi):Option Bool:=
 bif decide (p0.iG<=p2.fId) then
  some true
 else
 bif decide (0<p1) then
  nP p0 p1 p2
 else
 bif decide (0<=p2.je) then
  bif decide (p2.je<=1048576) then
   bif decide (0<=p2.iS) then
    bif decide (p2.iS<=p0.af.iL) then
     oB (oK p2.iX) fun x1=>
     some (!(x1==0))
    else
    some true
   else
   some true
  else
  some true
 else
 some true
def lB (p0:iv) (p1:Int) (p2:gi):Option Bool:=
 bif (jz p2.fId) then
  nZ p0 p1 p2
 else
 some true
def lY (p0:iv) (s:Int):Option (Int⊕(gi⊕Unit)):=
 match s with
 |p1=>
  bif decide (p1<(p0.bz.length:Int)) then
   oB (idx p0.bz p1) fun x1=>
   oB (lB p0 p1 x1) fun x2=>
   bif x2 then
    some (.inr (.inl x1))
   else
   some (.inl (IntKind.i64.wrap (p1+1)))
  else
  some (.inr (.inr ()))
def mC (p0:iv):Option Int:=
 oB (mI p0) fun x1=>
 bif x1 then
  some 13
 else
 oB (cM (lY p0) 0) fun
 | .inl x2=>
  some 13
 | .inr _=>
  some 0
def pE (C:aj):Prop:=∀(p0:iv) (r:Int),mC p0=some r->C 90 [.agg [.v (.i .i64 p0.af.iL),.v (.sl 8 (ah ip.row p0.af.bi)),.v (.i .i64 p0.iG),.v (.sl 7 (ah gi.row p0.bz))]] []=some (.v (.i .i64 r),[])
def rD (p0:i5):Option Int:=
 bif (jz p0.iT) then
  bif (jz p0.iI) then
   oB (mC p0.iu) fun x1=>
   some x1
  else
  some 2
 else
 some 2
def wV (C:aj):Prop:=∀(p0:i5) (r:Int),rD p0=some r->C 72 [.agg [.v (.i .i64 p0.iT),.v (.i .i64 p0.iI),.v (.i .i64 p0.iu.af.iL),.v (.sl 8 (ah ip.row p0.iu.af.bi)),.v (.i .i64 p0.iu.iG),.v (.sl 7 (ah gi.row p0.iu.bz))]] []=some (.v (.i .i64 r),[])
def jo (p0:iB):Bool:=
 bif (p0.bt==1) then
  true
 else
 bif (p0.bt==4) then
  true
 else
 bif (p0.bt==7) then
  true
 else
 bif (p0.bt==8) then
  true
 else
 (decide (11<=p0.bt)&&decide (p0.bt<=16))
def kr (p0:iB) (p1:Bool) (p2:Bool):Bool:=
 bif (p0.bt==3) then
  true
 else
 bif (p0.bt==14) then
  true
 else
 (p0.bt==20)
def nW (p0:iB) (p1:Bool) (p2:Bool) (p3:Bool) (p4:Bool):Bool:=
 bif cY p0.iE ByteArray.empty then
  bif p3 then
   bif p4 then
    false
   else
   (!cY p0.iU ByteArray.empty)
  else
  bif (p0.fN==0) then
   bif p4 then
    false
   else
   (!cY p0.iU ByteArray.empty)
  else
  true
 else
 true
def nS (p0:iB) (p1:Bool) (p2:Bool) (p3:Bool) (p4:Bool):Bool:=
 bif cY p0.iE ByteArray.empty then
  bif p3 then
   bif p4 then
    false
   else
   (!cY p0.iU ByteArray.empty)
  else
  bif (p0.fN==0) then
   bif p4 then
    false
   else
   (!cY p0.iU ByteArray.empty)
  else
  true
 else
 true
def nO (p0:iB) (p1:Bool) (p2:Bool) (p3:Bool) (p4:Bool):Bool:=
 bif cY p0.iq ByteArray.empty then
  bif p2 then
   bif p3 then
    bif p4 then
     false
    else
    (!cY p0.iU ByteArray.empty)
   else
   bif (p0.fN==0) then
    bif p4 then
     false
    else
    (!cY p0.iU ByteArray.empty)
   else
   true
  else
  nS p0 p1 p2 p3 p4
 else
 true
def lQ (p0:iB) (p1:Bool) (p2:Bool) (p3:Bool) (p4:Bool):Bool:=
 bif p1 then
  bif p2 then
   bif p3 then
    bif p4 then
     false
    else
    (!cY p0.iU ByteArray.empty)
   else
   bif (p0.fN==0) then
    bif p4 then
     false
    else
    (!cY p0.iU ByteArray.empty)
   else
   true
  else
  nW p0 p1 p2 p3 p4
 else
 nO p0 p1 p2 p3 p4
def lI (p0:iB) (p1:Bool) (p2:Bool):Bool:=
 bif p2 then
  bif (la p0.iU) then
   bif p1 then
    bif (la p0.iE) then
     (!(jg p0.iq))
    else
    true
   else
   (!(jg p0.iq))
  else
  true
 else
 bif p1 then
  bif (la p0.iE) then
   (!(jg p0.iq))
  else
  true
 else
 (!(jg p0.iq))
def nx (p0:iB):Int:=
 bif decide (1<=p0.bt) then
  bif decide (p0.bt<=22) then
   bif (lQ p0 (jo p0) (decide (4<=p0.bt)&&decide (p0.bt<=6)) (kr p0 (jo p0) (decide (4<=p0.bt)&&decide (p0.bt<=6))) (!(p0.bt==22))) then
    8
   else
   bif (lI p0 (decide (4<=p0.bt)&&decide (p0.bt<=6)) (!(p0.bt==22))) then
    1
   else
   bif (kN p0.fN) then
    0
   else
   2
  else
  3
 else
 3
def rv (p0:iB):Option Int:=some (nx p0)
theorem B2 (p0:iB):rv p0=some (nx p0):=rfl
def xx (C:aj):Prop:=∀(p0:iB) (r:Int),rv p0=some r->C 112 [.agg [.v (.i .i64 p0.bt),.v (.s p0.iU),.v (.s p0.iE),.v (.s p0.iq),.v (.i .i64 p0.fN)]] []=some (.v (.i .i64 r),[])
def uA (p0:i8):Int:=
 bif (p0.je==0) then
  bif (p0.ad.bt==0) then
   bif cY p0.ad.iU ByteArray.empty then
    bif cY p0.ad.iE ByteArray.empty then
     bif cY p0.ad.iq ByteArray.empty then
      bif (p0.ad.fN==0) then
       0
      else
      8
     else
     8
    else
    8
   else
   8
  else
  8
 else
 8
def qx (p0:i8):Int:=
 bif (p0.iO==0) then
  uA p0
 else
 bif (jz p0.iO) then
  bif (jz p0.je) then
   (nx p0.ad)
  else
  2
 else
 2
def u1 (p0:i8):Option Int:=some (qx p0)
theorem Fi (p0:i8):u1 p0=some (qx p0):=rfl
def zT (C:aj):Prop:=∀(p0:i8) (r:Int),u1 p0=some r->C 100 [.agg [.v (.i .i64 p0.iO),.v (.i .i64 p0.je),.v (.i .i64 p0.ad.bt),.v (.s p0.ad.iU),.v (.s p0.ad.iE),.v (.s p0.ad.iq),.v (.i .i64 p0.ad.fN)]] []=some (.v (.i .i64 r),[])
def un (p0:iV):Int:=
 bif (p0.cO.iO==0) then
  bif (p0.cO.je==0) then
   bif (p0.cO.ad.bt==0) then
    bif cY p0.cO.ad.iU ByteArray.empty then
     bif cY p0.cO.ad.iE ByteArray.empty then
      bif cY p0.cO.ad.iq ByteArray.empty then
       bif (p0.cO.ad.fN==0) then
        0
       else
       8
      else
      8
     else
     8
    else
    8
   else
   8
  else
  8
 else
 8
def oR (p0:iV):Int:=
 bif (jz p0.iI) then
  bif decide (0<=p0.iS) then
   bif decide (p0.iS<=1073741824) then
    bif p0.jY then
     un p0
    else
    (qx p0.cO)
   else
   2
  else
  2
 else
 2
def u2 (p0:iV):Option Int:=some (oR p0)
theorem zY (p0:iV):u2 p0=some (oR p0):=rfl
def sy (C:aj):Prop:=∀(p0:iV) (r:Int),u2 p0=some r->C 74 [.agg [.v (.i .i64 p0.iI),.v (.i .i64 p0.iS),.v (.b p0.jY),.v (.i .i64 p0.cO.iO),.v (.i .i64 p0.cO.je),.v (.i .i64 p0.cO.ad.bt),.v (.s p0.cO.ad.iU),.v (.s p0.cO.ad.iE),.v (.s p0.cO.ad.iq),.v (.i .i64 p0.cO.ad.fN)]] []=some (.v (.i .i64 r),[])
def oN (p0:iw):Bool:=
 bif (p0.iz.cO.je==0) then
  bif (p0.iz.cO.ad.bt==0) then
   bif cY p0.iz.cO.ad.iU ByteArray.empty then
    bif cY p0.iz.cO.ad.iE ByteArray.empty then
     bif cY p0.iz.cO.ad.iq ByteArray.empty then
      bif (p0.iz.cO.ad.fN==0) then
       bif (p0.bt==3) then
        false
       else
       (!(np p0.iH))
      else
      true
     else
     true
    else
    true
   else
   true
  else
  true
 else
 true
def oT (p0:iw):Bool:=
 bif (p0.iz.cO.je==0) then
  bif (p0.iz.cO.ad.bt==0) then
   bif cY p0.iz.cO.ad.iU ByteArray.empty then
    bif cY p0.iz.cO.ad.iE ByteArray.empty then
     bif cY p0.iz.cO.ad.iq ByteArray.empty then
      bif (p0.iz.cO.ad.fN==0) then
       bif (p0.bt==3) then
        false
       else
       (!(np p0.iH))
      else
      true
     else
     true
    else
    true
   else
   true
  else
  true
 else
 true
def oV (p0:iw):Bool:=
 bif (p0.bt==2) then
  bif (p0.bt==3) then
   false
  else
  (!(np p0.iH))
 else
 bif (p0.iT==0) then
  bif (p0.iz.iI==0) then
   bif (p0.iz.iS==0) then
    bif p0.iz.jY then
     true
    else
    bif (p0.iz.cO.iO==0) then
     oT p0
    else
    true
   else
   true
  else
  true
 else
 true
def oP (p0:iw):Bool:=
 bif (p0.bt==2) then
  bif (p0.bt==3) then
   false
  else
  (!(np p0.iH))
 else
 bif (p0.iT==0) then
  bif (p0.iz.iI==0) then
   bif (p0.iz.iS==0) then
    bif p0.iz.jY then
     true
    else
    bif (p0.iz.cO.iO==0) then
     oN p0
    else
    true
   else
   true
  else
  true
 else
 true
def kD (p0:iw):Bool:=
 bif (p0.bt==1) then
  oP p0
 else
 bif (p0.iI==0) then
  bif (p0.lz==0) then
   oV p0
  else
  true
 else
 true
def ug (p0:iw):Option Int:=
 bif (p0.bt==3) then
  oB (rD p0.iH) fun x1=>
  some x1
 else
 bif (p0.bt==1) then
  bif (jz p0.iI) then
   bif decide ((-1)<=p0.lz) then
    bif decide (p0.lz<=2) then
     some 0
    else
    some 2
   else
   some 2
  else
  some 2
 else
 bif (jz p0.iT) then
  some (oR p0.iz)
 else
 some 2
def mA (p0:iw):Option Int:=
 bif decide (1<=p0.bt) then
  bif decide (p0.bt<=3) then
   bif (kD p0) then
    some 8
   else
   ug p0
  else
  some 3
 else
 some 3
def vq (C:aj):Prop:=∀(p0:iw) (r:Int),mA p0=some r->C 32 [.agg [.v (.i .i64 p0.bt),.v (.i .i64 p0.iI),.v (.i .i64 p0.lz),.v (.i .i64 p0.iT),.v (.i .i64 p0.iz.iI),.v (.i .i64 p0.iz.iS),.v (.b p0.iz.jY),.v (.i .i64 p0.iz.cO.iO),.v (.i .i64 p0.iz.cO.je),.v (.i .i64 p0.iz.cO.ad.bt),.v (.s p0.iz.cO.ad.iU),.v (.s p0.iz.cO.ad.iE),.v (.s p0.iz.cO.ad.iq),.v (.i .i64 p0.iz.cO.ad.fN),.v (.i .i64 p0.iH.iT),.v (.i .i64 p0.iH.iI),.v (.i .i64 p0.iH.iu.af.iL),.v (.sl 8 (ah ip.row p0.iH.iu.af.bi)),.v (.i .i64 p0.iH.iu.iG),.v (.sl 7 (ah gi.row p0.iH.iu.bz))]] []=some (.v (.i .i64 r),[])
def jn (p0:iK):Option (Int×iK):=
 bif decide ((p0.fb.length:Int)<(IntKind.i64.wrap (p0.fat+1))) then
  some (0,(iK.mk p0.fb (IntKind.i64.wrap (p0.fat+1))))
 else
 oB (idx p0.fb (IntKind.i64.wrap ((IntKind.i64.wrap (p0.fat+1))-1))) fun x1=>
 some ((IntKind.i64.wrap x1),(iK.mk p0.fb (IntKind.i64.wrap (p0.fat+1))))
def jZ (C:aj):Prop:=∀(p0:iK) (r:Int×iK),jn p0=some r->C 85 [.ptr 0 0] [[.v (.sl 1 (ah cE p0.fb)),.v (.i .i64 p0.fat)]]=some (.v (.i .i64 r.1),[[.v (.sl 1 (ah cE r.2.fb)),.v (.i .i64 r.2.fat)]])
def kK  (s:Int×Int×iK):Option ((Int×Int×iK)⊕(Int×iK)):=
 match s with
 |(p0,p1,p2)=>
  bif decide (p1<8) then
   oB (jn p2) fun (x1,x2)=>
   some (.inl ((IntKind.i64.wrap ((IntKind.i64.wrap (p0*256))+x1)),(IntKind.i64.wrap (p1+1)),x2))
  else
  some (.inr (p0,p2))
def js (p0:iK):Option (Int×iK):=
 oB (cM (kK) (0,0,p0)) fun (x1,x2)=>
 some ((IntKind.i64.wrap (x1-4611686018427387904)),x2)
def lA (C:aj):Prop:=∀(p0:iK) (r:Int×iK),js p0=some r->C 84 [.ptr 0 0] [[.v (.sl 1 (ah cE p0.fb)),.v (.i .i64 p0.fat)]]=some (.v (.i .i64 r.1),[[.v (.sl 1 (ah cE r.2.fb)),.v (.i .i64 r.2.fat)]])
def jt (p0:iK):Option (Bool×iK):=
 some (decide ((p0.fb.length:Int)<p0.fat),p0)
def jV (C:aj):Prop:=∀(p0:iK) (r:Bool×iK),jt p0=some r->C 86 [.ptr 0 0] [[.v (.sl 1 (ah cE p0.fb)),.v (.i .i64 p0.fat)]]=some (.v (.b r.1),[[.v (.sl 1 (ah cE r.2.fb)),.v (.i .i64 r.2.fat)]])
def ky (p0:Int) (s:(List Int)×Int×iK):Option (((List Int)×Int×iK)⊕((List Int)×iK)):=
 match s with
 |(p1,p2,p3)=>
  bif decide (p2<p0) then
   oB (jt p3) fun (x1,x2)=>
   bif x1 then
    some (.inr (p1,x2))
   else
   oB (jn x2) fun (x3,x4)=>
   bif dh (p1.length+1) 1 then
    some (.inl ((p1++ [(IntKind.u8.wrap x3)]),(IntKind.i64.wrap (p2+1)),x4))
   else
   none
  else
  some (.inr (p1,p3))
def jJ (p0:iK):Option (ByteArray×iK):=
 oB (jn p0) fun (x1,x2)=>
 oB (cM (ky x1) ([],0,x2)) fun (x3,x4)=>
 bif vE x3 then
  some ((FC x3),x4)
 else
 none
def kQ (C:aj):Prop:=∀(p0:iK) (r:ByteArray×iK),jJ p0=some r->C 87 [.ptr 0 0] [[.v (.sl 1 (ah cE p0.fb)),.v (.i .i64 p0.fat)]]=some (.v (.s r.1),[[.v (.sl 1 (ah cE r.2.fb)),.v (.i .i64 r.2.fat)]])
def ae (p0:Int) (p1:Bool) (p2:iK) (p3:Int) (p4:Int):iV:=
 bif p1 then
  (iV.mk p3 p4 true (i8.mk 0 0 (iB.mk 0 ByteArray.empty ByteArray.empty ByteArray.empty 0)))
 else
 (iV.mk p3 p4 false (i8.mk 0 0 (iB.mk 0 ByteArray.empty ByteArray.empty ByteArray.empty 0)))
def sU (p0:iK) (x1:Int) (x2:iK) (x3:Int) (x4:iK) (x5:Int) (x6:iK) (x7:Int) (x8:iK):Option (iV×Bool×iK):=
 bif (x7==0) then
  some ((iV.mk ((ae x5 (x5==1) x6 x1 x3).iI) ((ae x5 (x5==1) x6 x1 x3).iS) ((ae x5 (x5==1) x6 x1 x3).jY) (i8.mk x7 ((ae x5 (x5==1) x6 x1 x3).cO.je) ((ae x5 (x5==1) x6 x1 x3).cO.ad))),true,x8)
 else
 oB (js x8) fun (x9,x10)=>
 oB (jn x10) fun (x11,x12)=>
 oB (jJ x12) fun (x13,x14)=>
 oB (jJ x14) fun (x15,x16)=>
 oB (jJ x16) fun (x17,x18)=>
 oB (js x18) fun (x19,x20)=>
 some ((iV.mk ((ae x5 (x5==1) x6 x1 x3).iI) ((ae x5 (x5==1) x6 x1 x3).iS) ((ae x5 (x5==1) x6 x1 x3).jY) (i8.mk x7 x9 (iB.mk x11 x13 x15 x17 x19))),true,x20)
def l7 (p0:iK):Option (iV×Bool×iK):=
 oB (js p0) fun (x1,x2)=>
 oB (js x2) fun (x3,x4)=>
 oB (jn x4) fun (x5,x6)=>
 bif (x5==0) then
  oB (js x6) fun (x7,x8)=>
  sU p0 x1 x2 x3 x4 x5 x6 x7 x8
 else
 some ((ae x5 (x5==1) x6 x1 x3),(x5==1),x6)
def tR (C:aj):Prop:=∀(p0:iK) (r:iV×Bool×iK),l7 p0=some r->C 82 [.ptr 0 0] [[.v (.sl 1 (ah cE p0.fb)),.v (.i .i64 p0.fat)]]=some (.tup [.agg [.v (.i .i64 r.1.iI),.v (.i .i64 r.1.iS),.v (.b r.1.jY),.v (.i .i64 r.1.cO.iO),.v (.i .i64 r.1.cO.je),.v (.i .i64 r.1.cO.ad.bt),.v (.s r.1.cO.ad.iU),.v (.s r.1.cO.ad.iE),.v (.s r.1.cO.ad.iq),.v (.i .i64 r.1.cO.ad.fN)],.v (.b r.2.1)],[[.v (.sl 1 (ah cE r.2.2.fb)),.v (.i .i64 r.2.2.fat)]])
def rE (p0:Bool) (p1:iK):Option (Int×iK):=
 oB (jt p1) fun (x1,x2)=>
 bif x1 then
  some (9,x2)
 else
 bif p0 then
  bif decide (x2.fat<(x2.fb.length:Int)) then
   some (8,x2)
  else
  some (0,x2)
 else
 some (8,x2)
def vF (C:aj):Prop:=∀(p0:Bool) (p1:iK) (r:Int×iK),rE p0 p1=some r->C 83 [.ptr 0 0,.v (.b p0)] [[.v (.sl 1 (ah cE p1.fb)),.v (.i .i64 p1.fat)]]=some (.v (.i .i64 r.1),[[.v (.sl 1 (ah cE r.2.fb)),.v (.i .i64 r.2.fat)]])
def mW (p0:Int) (p1:Bool) (p2:iK) (p3:iV):Int:=
 bif p1 then
  (oR p3)
 else
 p0
def v7 (p0:List Int):Option (iV×Int):=
 bif decide (20000<(p0.length:Int)) then
  some ((iV.mk 0 0 false (i8.mk 0 0 (iB.mk 0 ByteArray.empty ByteArray.empty ByteArray.empty 0))),1)
 else
 oB (l7 (iK.mk p0 0)) fun (x1,x2,x3)=>
 oB (rE x2 x3) fun (x4,x5)=>
 bif ((mW x4 (x4==0) x5 x1)==0) then
  some (x1,0)
 else
 some ((iV.mk 0 0 false (i8.mk 0 0 (iB.mk 0 ByteArray.empty ByteArray.empty ByteArray.empty 0))),(mW x4 (x4==0) x5 x1))
def Al (C:aj):Prop:=∀(p0:List Int) (r:iV×Int),v7 p0=some r->C 43 [.v (.sl 1 (ah cE p0))] []=some (.tup [.agg [.v (.i .i64 r.1.iI),.v (.i .i64 r.1.iS),.v (.b r.1.jY),.v (.i .i64 r.1.cO.iO),.v (.i .i64 r.1.cO.je),.v (.i .i64 r.1.cO.ad.bt),.v (.s r.1.cO.ad.iU),.v (.s r.1.cO.ad.iE),.v (.s r.1.cO.ad.iq),.v (.i .i64 r.1.cO.ad.fN)],.v (.i .i64 r.2)],[])
def ml (p0:Int) (s:(List ByteArray)×Int×iK):Option (((List ByteArray)×Int×iK)⊕((List ByteArray)×iK)):=
 match s with
 |(p1,p2,p3)=>
  bif decide (p2<p0) then
   oB (jt p3) fun (x1,x2)=>
   bif x1 then
    some (.inr (p1,x2))
   else
   oB (jJ x2) fun (x3,x4)=>
   bif dh (p1.length+1) 16 then
    some (.inl ((p1++ [x3]),(IntKind.i64.wrap (p2+1)),x4))
   else
   none
  else
  some (.inr (p1,p3))
def pV (p0:iK):Option ((List ByteArray)×iK):=
 oB (jn p0) fun (x1,x2)=>
 oB (cM (ml x1) ([],0,x2)) fun (x3,x4)=>
 some (x3,x4)
def sr (C:aj):Prop:=∀(p0:iK) (r:(List ByteArray)×iK),pV p0=some r->C 89 [.ptr 0 0] [[.v (.sl 1 (ah cE p0.fb)),.v (.i .i64 p0.fat)]]=some (.own 1 (ah bY r.1),[[.v (.sl 1 (ah cE r.2.fb)),.v (.i .i64 r.2.fat)]])
def ka (p0:Int) (s:Int×iK×iy):Option ((Int×iK×iy)⊕(iK×iy)):=
 match s with
 |(p1,p2,p3)=>
  bif decide (p1<p0) then
   oB (jt p2) fun (x1,x2)=>
   bif x1 then
    some (.inr (x2,p3))
   else
   oB (jJ x2) fun (x3,x4)=>
   oB (jJ x4) fun (x5,x6)=>
   bif dh (p3.iA.length+1) 32 then
    some (.inl ((IntKind.i64.wrap (p1+1)),x6,(iy.mk p3.bt p3.iq p3.iF (p3.iA++ [(iD.mk x3 x5)]) p3.iC p3.il)))
   else
   none
  else
  some (.inr (p2,p3))
def kb (p0:Int) (s:Int×iK×iy):Option ((Int×iK×iy)⊕(iK×iy)):=
 match s with
 |(p1,p2,p3)=>
  bif decide (p1<p0) then
   oB (jt p2) fun (x1,x2)=>
   bif x1 then
    some (.inr (x2,p3))
   else
   oB (jJ x2) fun (x3,x4)=>
   oB (js x4) fun (x5,x6)=>
   bif dh (p3.il.length+1) 24 then
    some (.inl ((IntKind.i64.wrap (p1+1)),x6,(iy.mk p3.bt p3.iq p3.iF p3.iA p3.iC (p3.il++ [(im.mk x3 x5)]))))
   else
   none
  else
  some (.inr (p2,p3))
def si (p0:iK) (x1:Int) (x2:iK) (x3:ByteArray) (x4:iK) (x5:Int) (x6:iK) (x7:Int) (x8:iK) (x9:iK) (x10:iy):Option (iy×iK):=
 oB (pV x9) fun (x11,x12)=>
 oB (jn x12) fun (x13,x14)=>
 oB (cM (kb x13) (0,x14,(iy.mk x10.bt x10.iq x10.iF x10.iA x11 x10.il))) fun (x15,x16)=>
 some (x16,x15)
def mm (p0:iK):Option (iy×iK):=
 oB (jn p0) fun (x1,x2)=>
 oB (jJ x2) fun (x3,x4)=>
 oB (js x4) fun (x5,x6)=>
 oB (jn x6) fun (x7,x8)=>
 oB (cM (ka x7) (0,x8,(iy.mk x1 x3 x5 [] [] []))) fun (x9,x10)=>
 si p0 x1 x2 x3 x4 x5 x6 x7 x8 x9 x10
def sS (C:aj):Prop:=∀(p0:iK) (r:iy×iK),mm p0=some r->C 88 [.ptr 0 0] [[.v (.sl 1 (ah cE p0.fb)),.v (.i .i64 p0.fat)]]=some (.agg [.v (.i .i64 r.1.bt),.v (.s r.1.iq),.v (.i .i64 r.1.iF),.own 2 (ah iD.row r.1.iA),.own 1 (ah bY r.1.iC),.own 2 (ah im.row r.1.il)],[[.v (.sl 1 (ah cE r.2.fb)),.v (.i .i64 r.2.fat)]])
def lk (p0:Int) (s:Int×iK×iv):Option ((Int×iK×iv)⊕(iK×iv)):=
 match s with
 |(p1,p2,p3)=>
  bif decide (p1<p0) then
   oB (jt p2) fun (x1,x2)=>
   bif x1 then
    some (.inr (x2,p3))
   else
   oB (jJ x2) fun (x3,x4)=>
   oB (mm x4) fun (x5,x6)=>
   oB (js x6) fun (x7,x8)=>
   bif dh (p3.af.bi.length+1) 128 then
    some (.inl ((IntKind.i64.wrap (p1+1)),x8,(iv.mk (iN.mk p3.af.iL (p3.af.bi++ [(ip.mk x3 x5 x7)])) p3.iG p3.bz)))
   else
   none
  else
  some (.inr (p2,p3))
def sk (p0:Int) (p1:Int) (p2:iK) (p3:iv) (x1:Bool) (x2:iK) (x3:Int) (x4:iK):Option ((Int×iK×iv)⊕(iK×iv)):=
 oB (js x4) fun (x5,x6)=>
 oB (js x6) fun (x7,x8)=>
 oB (jn x8) fun (x9,x10)=>
 oB (jJ x10) fun (x11,x12)=>
 oB (js x12) fun (x13,x14)=>
 oB (pV x14) fun (x15,x16)=>
 bif dh (p3.bz.length+1) 80 then
  some (.inl ((IntKind.i64.wrap (p1+1)),x16,(iv.mk p3.af p3.iG (p3.bz++ [(gi.mk x3 x5 x7 (jf.mk x9 x11 x13 x15))]))))
 else
 none
def lm (p0:Int) (s:Int×iK×iv):Option ((Int×iK×iv)⊕(iK×iv)):=
 match s with
 |(p1,p2,p3)=>
  bif decide (p1<p0) then
   oB (jt p2) fun (x1,x2)=>
   bif x1 then
    some (.inr (x2,p3))
   else
   oB (js x2) fun (x3,x4)=>
   sk p0 p1 p2 p3 x1 x2 x3 x4
  else
  some (.inr (p2,p3))
def po (p0:Int) (p1:Bool) (p2:iK) (p3:iv):Option Int:=
 bif p1 then
  oB (mC p3) fun x1=>
  some x1
 else
 some p0
def wh (p0:List Int) (x1:Int) (x2:iK) (x3:Int) (x4:iK) (x5:iK) (x6:iv) (x7:Int) (x8:iK) (x9:Int) (x10:iK) (x11:iK) (x12:iv):Option (iv×Int):=
 oB (rE true x11) fun (x13,x14)=>
 oB (po x13 (x13==0) x14 x12) fun x15=>
 bif (x15==0) then
  some (x12,0)
 else
 some ((iv.mk (iN.mk 0 []) 0 []),x15)
def vV (p0:List Int) (x1:Int) (x2:iK) (x3:Int) (x4:iK) (x5:iK) (x6:iv):Option (iv×Int):=
 oB (js x5) fun (x7,x8)=>
 oB (jn x8) fun (x9,x10)=>
 oB (cM (lm x9) (0,x10,(iv.mk x6.af x7 x6.bz))) fun (x11,x12)=>
 wh p0 x1 x2 x3 x4 x5 x6 x7 x8 x9 x10 x11 x12
def rq (p0:List Int):Option (iv×Int):=
 bif decide (20000<(p0.length:Int)) then
  some ((iv.mk (iN.mk 0 []) 0 []),1)
 else
 oB (js (iK.mk p0 0)) fun (x1,x2)=>
 oB (jn x2) fun (x3,x4)=>
 oB (cM (lk x3) (0,x4,(iv.mk (iN.mk x1 []) 0 []))) fun (x5,x6)=>
 vV p0 x1 x2 x3 x4 x5 x6
def z7 (C:aj):Prop:=∀(p0:List Int) (r:iv×Int),rq p0=some r->C 44 [.v (.sl 1 (ah cE p0))] []=some (.tup [.agg [.v (.i .i64 r.1.af.iL),.v (.sl 8 (ah ip.row r.1.af.bi)),.v (.i .i64 r.1.iG),.v (.sl 7 (ah gi.row r.1.bz))],.v (.i .i64 r.2)],[])
def uK (p0:List Int) (x1:Int):Option (iw×Bool):=
 bif decide ((p0.length:Int)<8) then
  some ((iw.mk (IntKind.i64.wrap x1) 0 0 0 (iV.mk 0 0 false (i8.mk 0 0 (iB.mk 0 ByteArray.empty ByteArray.empty ByteArray.empty 0))) (i5.mk 0 0 (iv.mk (iN.mk 0 []) 0 []))),false)
 else
 bif nB 7 (p0.length:Int) (p0.length:Int) then
  oB (rq (dm p0 7 (p0.length:Int))) fun (x2,x3)=>
  oB (kF p0 1) fun x4=>
  oB (kF p0 4) fun x5=>
  bif (x3==0) then
   oB (mA (iw.mk (IntKind.i64.wrap x1) 0 0 0 (iV.mk 0 0 false (i8.mk 0 0 (iB.mk 0 ByteArray.empty ByteArray.empty ByteArray.empty 0))) (i5.mk x4 x5 x2))) fun x6=>
   some ((iw.mk (IntKind.i64.wrap x1) 0 0 0 (iV.mk 0 0 false (i8.mk 0 0 (iB.mk 0 ByteArray.empty ByteArray.empty ByteArray.empty 0))) (i5.mk x4 x5 x2)),(x6==0))
  else
  some ((iw.mk (IntKind.i64.wrap x1) 0 0 0 (iV.mk 0 0 false (i8.mk 0 0 (iB.mk 0 ByteArray.empty ByteArray.empty ByteArray.empty 0))) (i5.mk x4 x5 x2)),false)
 else
 none
def sx (p0:List Int) (x1:Int):Option (iw×Bool):=
 bif ((IntKind.i64.wrap x1)==2) then
  bif nB 4 (p0.length:Int) (p0.length:Int) then
   oB (v7 (dm p0 4 (p0.length:Int))) fun (x2,x3)=>
   oB (kF p0 1) fun x4=>
   bif (x3==0) then
    oB (mA (iw.mk (IntKind.i64.wrap x1) 0 0 x4 x2 (i5.mk 0 0 (iv.mk (iN.mk 0 []) 0 [])))) fun x5=>
    some ((iw.mk (IntKind.i64.wrap x1) 0 0 x4 x2 (i5.mk 0 0 (iv.mk (iN.mk 0 []) 0 []))),(x5==0))
   else
   some ((iw.mk (IntKind.i64.wrap x1) 0 0 x4 x2 (i5.mk 0 0 (iv.mk (iN.mk 0 []) 0 []))),false)
  else
  none
 else
 uK p0 x1
def nq (p0:List Int) (x1:Int):Option (iw×Bool):=
 bif decide (1<=(IntKind.i64.wrap x1)) then
  bif decide ((IntKind.i64.wrap x1)<=3) then
   bif ((IntKind.i64.wrap x1)==1) then
    oB (kF p0 1) fun x2=>
    oB (idx p0 4) fun x3=>
    bif ((p0.length:Int)==5) then
     oB (mA (iw.mk (IntKind.i64.wrap x1) x2 (IntKind.i64.wrap ((IntKind.i64.wrap x3)-1)) 0 (iV.mk 0 0 false (i8.mk 0 0 (iB.mk 0 ByteArray.empty ByteArray.empty ByteArray.empty 0))) (i5.mk 0 0 (iv.mk (iN.mk 0 []) 0 [])))) fun x4=>
     some ((iw.mk (IntKind.i64.wrap x1) x2 (IntKind.i64.wrap ((IntKind.i64.wrap x3)-1)) 0 (iV.mk 0 0 false (i8.mk 0 0 (iB.mk 0 ByteArray.empty ByteArray.empty ByteArray.empty 0))) (i5.mk 0 0 (iv.mk (iN.mk 0 []) 0 []))),(x4==0))
    else
    some ((iw.mk (IntKind.i64.wrap x1) x2 (IntKind.i64.wrap ((IntKind.i64.wrap x3)-1)) 0 (iV.mk 0 0 false (i8.mk 0 0 (iB.mk 0 ByteArray.empty ByteArray.empty ByteArray.empty 0))) (i5.mk 0 0 (iv.mk (iN.mk 0 []) 0 []))),false)
   else
   sx p0 x1
  else
  some ((iw.mk 0 0 0 0 (iV.mk 0 0 false (i8.mk 0 0 (iB.mk 0 ByteArray.empty ByteArray.empty ByteArray.empty 0))) (i5.mk 0 0 (iv.mk (iN.mk 0 []) 0 []))),false)
 else
 some ((iw.mk 0 0 0 0 (iV.mk 0 0 false (i8.mk 0 0 (iB.mk 0 ByteArray.empty ByteArray.empty ByteArray.empty 0))) (i5.mk 0 0 (iv.mk (iN.mk 0 []) 0 []))),false)
def mp (p0:List Int):Option (iw×Bool):=
 bif decide ((p0.length:Int)<5) then
  some ((iw.mk 0 0 0 0 (iV.mk 0 0 false (i8.mk 0 0 (iB.mk 0 ByteArray.empty ByteArray.empty ByteArray.empty 0))) (i5.mk 0 0 (iv.mk (iN.mk 0 []) 0 []))),false)
 else
 oB (idx p0 0) fun x1=>
 nq p0 x1
def xF (C:aj):Prop:=∀(p0:List Int) (r:iw×Bool),mp p0=some r->C 20 [.v (.sl 1 (ah cE p0))] []=some (.tup [.agg [.v (.i .i64 r.1.bt),.v (.i .i64 r.1.iI),.v (.i .i64 r.1.lz),.v (.i .i64 r.1.iT),.v (.i .i64 r.1.iz.iI),.v (.i .i64 r.1.iz.iS),.v (.b r.1.iz.jY),.v (.i .i64 r.1.iz.cO.iO),.v (.i .i64 r.1.iz.cO.je),.v (.i .i64 r.1.iz.cO.ad.bt),.v (.s r.1.iz.cO.ad.iU),.v (.s r.1.iz.cO.ad.iE),.v (.s r.1.iz.cO.ad.iq),.v (.i .i64 r.1.iz.cO.ad.fN),.v (.i .i64 r.1.iH.iT),.v (.i .i64 r.1.iH.iI),.v (.i .i64 r.1.iH.iu.af.iL),.v (.sl 8 (ah ip.row r.1.iH.iu.af.bi)),.v (.i .i64 r.1.iH.iu.iG),.v (.sl 7 (ah gi.row r.1.iH.iu.bz))],.v (.b r.2)],[])
def qA (p0:List Int) (s:(List Int)×Int):Option (((List Int)×Int)⊕(List Int)):=
 match s with
 |(p1,p2)=>
  bif decide (p2<(p0.length:Int)) then
   oB (idx p0 p2) fun x1=>
   bif dh (p1.length+1) 1 then
    some (.inl ((p1++ [x1]),(IntKind.i64.wrap (p2+1))))
   else
   none
  else
  some (.inr p1)
def wZ (p0:List Int) (s:Unit):Option (Unit⊕Unit):=
 match s with
 |_=>
  some (.inr ())
def tC (p0:List Int):Option (List Int):=
 oB (cM (qA p0) ([],0)) fun x1=>
 oB (cM (wZ x1) ()) fun _=>
 some x1
def Ao (C:aj):Prop:=∀(p0:List Int) (r:(List Int)),tC p0=some r->C 21 [.v (.sl 1 (ah cE p0)),.v (.sl 0 [])] []=some (.own 1 (ah cE r),[])
def jN (p0:iY) (s:(List iw)×Int):Option (((List iw)×Int)⊕(((List iw)×Int)⊕((List iw)×Int×iw))):=
 match s with
 |(p1,p2)=>
  bif decide ((IntKind.i64.wrap (p2+3))<=(p0.iW.length:Int)) then
   oB (kF p0.iW p2) fun x1=>
   bif decide ((p0.iW.length:Int)<(IntKind.i64.wrap ((IntKind.i64.wrap (p2+3))+x1))) then
    some (.inr (.inl (p1,p2)))
   else
   bif nB (IntKind.i64.wrap (p2+3)) (IntKind.i64.wrap ((IntKind.i64.wrap (p2+3))+x1)) (p0.iW.length:Int) then
    oB (mp (dm p0.iW (IntKind.i64.wrap (p2+3)) (IntKind.i64.wrap ((IntKind.i64.wrap (p2+3))+x1)))) fun (x2,x3)=>
    bif x3 then
     bif dh (p1.length+1) 216 then
      some (.inl ((p1++ [x2]),(IntKind.i64.wrap ((IntKind.i64.wrap (p2+3))+x1))))
     else
     none
    else
    some (.inr (.inr (p1,p2,x2)))
   else
   none
  else
  some (.inr (.inl (p1,p2)))
def kX (p0:iY) (p1:List iw) (p2:Int) (p3:Int) (p4:Bool):Int:=
 bif p4 then
  p2
 else
 p3
def kH (p0:iY) (p1:List iw) (p2:Int) (p3:Int) (p4:Bool) (p5:iw):Int:=
 bif p4 then
  p2
 else
 p3
def td (p0:iY) (x1:List iw) (x2:Int):Option ((List iw)×iY×Int):=
 bif nB 0 x2 (p0.iW.length:Int) then
  oB (tC (dm p0.iW 0 x2)) fun x3=>
  some (x1,(iY.mk x3 (kX p0 x1 x2 p0.iP (decide (x2<p0.iP)))),0)
 else
 none
def sQ (p0:iY) (x1:List iw) (x2:Int) (x3:iw):Option ((List iw)×iY×Int):=
 bif nB 0 x2 (p0.iW.length:Int) then
  oB (tC (dm p0.iW 0 x2)) fun x4=>
  some (x1,(iY.mk x4 (kH p0 x1 x2 p0.iP (decide (x2<p0.iP)) x3)),0)
 else
 none
def m8 (p0:iY):Option ((List iw)×iY×Int):=
 bif (ry p0) then
  oB (cM (jN p0) ([],0)) fun
  | .inl (x1,x2)=>
   td p0 x1 x2
  | .inr (x1,x2,x3)=>
   sQ p0 x1 x2 x3
 else
 some ([],(iY.mk [] 0),13)
def tI (C:aj):Prop:=∀(p0:iY) (r:(List iw)×iY×Int),m8 p0=some r->C 7 [.agg [.v (.sl 1 (ah cE p0.iW)),.v (.i .i64 p0.iP)]] []=some (.tup [.v (.sl 20 (ah iw.row r.1)),.agg [.v (.sl 1 (ah cE r.2.1.iW)),.v (.i .i64 r.2.1.iP)],.v (.i .i64 r.2.2)],[])
def pw (p0:List ByteArray) (p1:List ByteArray) (s:Int):Option (Int⊕(Unit⊕Unit)):=
 match s with
 |p2=>
  bif decide (p2<(p0.length:Int)) then
   oB (idx p0 p2) fun x1=>
   oB (idx p1 p2) fun x2=>
   bif cY x1 x2 then
    some (.inl (IntKind.i64.wrap (p2+1)))
   else
   some (.inr (.inl ()))
  else
  some (.inr (.inr ()))
def pU (p0:List ByteArray) (p1:List ByteArray):Option Bool:=
 bif ((p0.length:Int)==(p1.length:Int)) then
  oB (cM (pw p0 p1) 0) fun
  | .inl _=>
   some false
  | .inr _=>
   some true
 else
 some false
def qL (C:aj):Prop:=∀(p0:List ByteArray) (p1:List ByteArray) (r:Bool),pU p0 p1=some r->C 114 [.v (.sl 1 (ah bY p0)),.v (.sl 1 (ah bY p1))] []=some (.v (.b r),[])
def oD (p0:iy) (p1:iy):Option Bool:=
 bif (p0.bt==p1.bt) then
  bif cY p0.iq p1.iq then
   bif (p0.iF==p1.iF) then
    bif ((p0.iA.length:Int)==(p1.iA.length:Int)) then
     bif ((p0.il.length:Int)==(p1.il.length:Int)) then
      oB (pU p0.iC p1.iC) fun x1=>
      some (!x1)
     else
     some true
    else
    some true
   else
   some true
  else
  some true
 else
 some true
def pS (p0:iy) (p1:iy) (s:Int):Option (Int⊕(Unit⊕Unit)):=
 match s with
 |p2=>
  bif decide (p2<(p0.iA.length:Int)) then
   oB (idx p0.iA p2) fun x1=>
   oB (idx p1.iA p2) fun x2=>
   bif cY x1.iE x2.iE then
    bif cY x1.iq x2.iq then
     some (.inl (IntKind.i64.wrap (p2+1)))
    else
    some (.inr (.inl ()))
   else
   some (.inr (.inl ()))
  else
  some (.inr (.inr ()))
def pq (p0:iy) (p1:iy) (s:Int):Option (Int⊕(Unit⊕Unit)):=
 match s with
 |p2=>
  bif decide (p2<(p0.il.length:Int)) then
   oB (idx p0.il p2) fun x1=>
   oB (idx p1.il p2) fun x2=>
   bif cY x1.iZ x2.iZ then
    bif (x1.fN==x2.fN) then
     some (.inl (IntKind.i64.wrap (p2+1)))
    else
    some (.inr (.inl ()))
   else
   some (.inr (.inl ()))
  else
  some (.inr (.inr ()))
def wb (p0:iy) (p1:iy) (x1:Bool):Option Bool:=
 oB (cM (pq p0 p1) 0) fun
 | .inl _=>
  some false
 | .inr _=>
  some true
def rB (p0:iy) (p1:iy):Option Bool:=
 oB (oD p0 p1) fun x1=>
 bif x1 then
  some false
 else
 oB (cM (pS p0 p1) 0) fun
 | .inl _=>
  some false
 | .inr _=>
  wb p0 p1 x1
def uU (C:aj):Prop:=∀(p0:iy) (p1:iy) (r:Bool),rB p0 p1=some r->C 113 [.agg [.v (.i .i64 p0.bt),.v (.s p0.iq),.v (.i .i64 p0.iF),.v (.sl 2 (ah iD.row p0.iA)),.v (.sl 1 (ah bY p0.iC)),.v (.sl 2 (ah im.row p0.il))],.agg [.v (.i .i64 p1.bt),.v (.s p1.iq),.v (.i .i64 p1.iF),.v (.sl 2 (ah iD.row p1.iA)),.v (.sl 1 (ah bY p1.iC)),.v (.sl 2 (ah im.row p1.il))]] []=some (.v (.b r),[])
def ng (p0:iN) (p1:iN) (p2:Int) (p3:ip) (p4:ip):Option Bool:=
 bif cY p3.iU p4.iU then
  bif (p3.jQ==p4.jQ) then
   oB (rB p3.iJ p4.iJ) fun x1=>
   some (!x1)
  else
  some true
 else
 some true
def pI (p0:iN) (p1:iN) (s:Int):Option (Int⊕((ip×ip)⊕Unit)):=
 match s with
 |p2=>
  bif decide (p2<(p0.bi.length:Int)) then
   oB (idx p0.bi p2) fun x1=>
   oB (idx p1.bi p2) fun x2=>
   oB (ng p0 p1 p2 x1 x2) fun x3=>
   bif x3 then
    some (.inr (.inl (x1,x2)))
   else
   some (.inl (IntKind.i64.wrap (p2+1)))
  else
  some (.inr (.inr ()))
def rF (p0:iN) (p1:iN):Option Bool:=
 bif (p0.iL==p1.iL) then
  bif ((p0.bi.length:Int)==(p1.bi.length:Int)) then
   oB (cM (pI p0 p1) 0) fun
   | .inl (x1,x2)=>
    some false
   | .inr _=>
    some true
  else
  some false
 else
 some false
def uI (C:aj):Prop:=∀(p0:iN) (p1:iN) (r:Bool),rF p0 p1=some r->C 102 [.agg [.v (.i .i64 p0.iL),.v (.sl 8 (ah ip.row p0.bi))],.agg [.v (.i .i64 p1.iL),.v (.sl 8 (ah ip.row p1.bi))]] []=some (.v (.b r),[])
def qZ (p0:jf) (p1:jf):Option Bool:=
 bif (p0.jW==p1.jW) then
  bif cY p0.iq p1.iq then
   bif (p0.fN==p1.fN) then
    oB (pU p0.jH p1.jH) fun x1=>
    some x1
   else
   some false
  else
  some false
 else
 some false
def rA (p0:jf) (p1:jf):Option Bool:=
 oB (qZ p0 p1) fun x1=>
 some x1
def uL (C:aj):Prop:=∀(p0:jf) (p1:jf) (r:Bool),rA p0 p1=some r->C 103 [.agg [.v (.i .i64 p0.jW),.v (.s p0.iq),.v (.i .i64 p0.fN),.v (.sl 1 (ah bY p0.jH))],.agg [.v (.i .i64 p1.jW),.v (.s p1.iq),.v (.i .i64 p1.fN),.v (.sl 1 (ah bY p1.jH))]] []=some (.v (.b r),[])
def nc (p0:iv) (p1:iv):Option Bool:=
 bif (p0.iG==p1.iG) then
  oB (rF p0.af p1.af) fun x1=>
  bif x1 then
   some (!((p0.bz.length:Int)==(p1.bz.length:Int)))
  else
  some true
 else
 some true
def mi (p0:iv) (p1:iv) (p2:Int) (p3:gi) (p4:gi):Option Bool:=
 bif (p3.fId==p4.fId) then
  bif (p3.je==p4.je) then
   bif (p3.iS==p4.iS) then
    oB (rA p3.iX p4.iX) fun x1=>
    some (!x1)
   else
   some true
  else
  some true
 else
 some true
def nJ (p0:iv) (p1:iv) (s:Int):Option (Int⊕((gi×gi)⊕Unit)):=
 match s with
 |p2=>
  bif decide (p2<(p0.bz.length:Int)) then
   oB (idx p0.bz p2) fun x1=>
   oB (idx p1.bz p2) fun x2=>
   oB (mi p0 p1 p2 x1 x2) fun x3=>
   bif x3 then
    some (.inr (.inl (x1,x2)))
   else
   some (.inl (IntKind.i64.wrap (p2+1)))
  else
  some (.inr (.inr ()))
def oM (p0:iv) (p1:iv):Option Bool:=
 oB (nc p0 p1) fun x1=>
 bif x1 then
  some false
 else
 oB (cM (nJ p0 p1) 0) fun
 | .inl (x2,x3)=>
  some false
 | .inr _=>
  some true
def vp (C:aj):Prop:=∀(p0:iv) (p1:iv) (r:Bool),oM p0 p1=some r->C 79 [.agg [.v (.i .i64 p0.af.iL),.v (.sl 8 (ah ip.row p0.af.bi)),.v (.i .i64 p0.iG),.v (.sl 7 (ah gi.row p0.bz))],.agg [.v (.i .i64 p1.af.iL),.v (.sl 8 (ah ip.row p1.af.bi)),.v (.i .i64 p1.iG),.v (.sl 7 (ah gi.row p1.bz))]] []=some (.v (.b r),[])
def rT (p0:i5) (p1:i5):Option Bool:=
 bif (p0.iT==p1.iT) then
  bif (p0.iI==p1.iI) then
   oB (oM p0.iu p1.iu) fun x1=>
   some x1
  else
  some false
 else
 some false
def sP (p0:i5) (p1:i5):Option Bool:=
 oB (rT p0 p1) fun x1=>
 some x1
def xS (C:aj):Prop:=∀(p0:i5) (p1:i5) (r:Bool),sP p0 p1=some r->C 38 [.agg [.v (.i .i64 p0.iT),.v (.i .i64 p0.iI),.v (.i .i64 p0.iu.af.iL),.v (.sl 8 (ah ip.row p0.iu.af.bi)),.v (.i .i64 p0.iu.iG),.v (.sl 7 (ah gi.row p0.iu.bz))],.agg [.v (.i .i64 p1.iT),.v (.i .i64 p1.iI),.v (.i .i64 p1.iu.af.iL),.v (.sl 8 (ah ip.row p1.iu.af.bi)),.v (.i .i64 p1.iu.iG),.v (.sl 7 (ah gi.row p1.iu.bz))]] []=some (.v (.b r),[])
def qR (p0:iw) (p1:iw):Option Bool:=
 bif (p0.iz.cO.je==p1.iz.cO.je) then
  bif (p0.iz.cO.ad.bt==p1.iz.cO.ad.bt) then
   bif cY p0.iz.cO.ad.iU p1.iz.cO.ad.iU then
    bif cY p0.iz.cO.ad.iE p1.iz.cO.ad.iE then
     bif cY p0.iz.cO.ad.iq p1.iz.cO.ad.iq then
      bif (p0.iz.cO.ad.fN==p1.iz.cO.ad.fN) then
       oB (sP p0.iH p1.iH) fun x1=>
       some x1
      else
      some false
     else
     some false
    else
    some false
   else
   some false
  else
  some false
 else
 some false
def qT (p0:iw) (p1:iw):Option Bool:=
 bif (p0.iI==p1.iI) then
  bif (p0.lz==p1.lz) then
   bif (p0.iT==p1.iT) then
    bif (p0.iz.iI==p1.iz.iI) then
     bif (p0.iz.iS==p1.iz.iS) then
      bif (p0.iz.jY==p1.iz.jY) then
       bif (p0.iz.cO.iO==p1.iz.cO.iO) then
        qR p0 p1
       else
       some false
      else
      some false
     else
     some false
    else
    some false
   else
   some false
  else
  some false
 else
 some false
def qj (p0:iw) (p1:iw):Option Bool:=
 bif (p0.bt==p1.bt) then
  qT p0 p1
 else
 some false
def qe (p0:iw) (p1:iw):Option Bool:=
 oB (qj p0 p1) fun x1=>
 some x1
def vZ (C:aj):Prop:=∀(p0:iw) (p1:iw) (r:Bool),qe p0 p1=some r->C 22 [.agg [.v (.i .i64 p0.bt),.v (.i .i64 p0.iI),.v (.i .i64 p0.lz),.v (.i .i64 p0.iT),.v (.i .i64 p0.iz.iI),.v (.i .i64 p0.iz.iS),.v (.b p0.iz.jY),.v (.i .i64 p0.iz.cO.iO),.v (.i .i64 p0.iz.cO.je),.v (.i .i64 p0.iz.cO.ad.bt),.v (.s p0.iz.cO.ad.iU),.v (.s p0.iz.cO.ad.iE),.v (.s p0.iz.cO.ad.iq),.v (.i .i64 p0.iz.cO.ad.fN),.v (.i .i64 p0.iH.iT),.v (.i .i64 p0.iH.iI),.v (.i .i64 p0.iH.iu.af.iL),.v (.sl 8 (ah ip.row p0.iH.iu.af.bi)),.v (.i .i64 p0.iH.iu.iG),.v (.sl 7 (ah gi.row p0.iH.iu.bz))],.agg [.v (.i .i64 p1.bt),.v (.i .i64 p1.iI),.v (.i .i64 p1.lz),.v (.i .i64 p1.iT),.v (.i .i64 p1.iz.iI),.v (.i .i64 p1.iz.iS),.v (.b p1.iz.jY),.v (.i .i64 p1.iz.cO.iO),.v (.i .i64 p1.iz.cO.je),.v (.i .i64 p1.iz.cO.ad.bt),.v (.s p1.iz.cO.ad.iU),.v (.s p1.iz.cO.ad.iE),.v (.s p1.iz.cO.ad.iq),.v (.i .i64 p1.iz.cO.ad.fN),.v (.i .i64 p1.iH.iT),.v (.i .i64 p1.iH.iI),.v (.i .i64 p1.iH.iu.af.iL),.v (.sl 8 (ah ip.row p1.iH.iu.af.bi)),.v (.i .i64 p1.iH.iu.iG),.v (.sl 7 (ah gi.row p1.iH.iu.bz))]] []=some (.v (.b r),[])
def nK (p0:List iw) (p1:List iw) (s:Int):Option (Int⊕(Unit⊕Unit)):=
 match s with
 |p2=>
  bif decide (p2<(p0.length:Int)) then
   oB (idx p0 p2) fun x1=>
   oB (idx p1 p2) fun x2=>
   oB (qe x1 x2) fun x3=>
   bif x3 then
    some (.inl (IntKind.i64.wrap (p2+1)))
   else
   some (.inr (.inl ()))
  else
  some (.inr (.inr ()))
def oY (p0:List iw) (p1:List iw):Option Bool:=
 bif ((p0.length:Int)==(p1.length:Int)) then
  oB (cM (nK p0 p1) 0) fun
  | .inl _=>
   some false
  | .inr _=>
   some true
 else
 some false
def sL (C:aj):Prop:=∀(p0:List iw) (p1:List iw) (r:Bool),oY p0 p1=some r->C 8 [.v (.sl 20 (ah iw.row p0)),.v (.sl 20 (ah iw.row p1))] []=some (.v (.b r),[])
def qb (p0:iY) (p1:iY):Option Bool:=
 bif (p0.iP==p1.iP) then
  bif vE p0.iW then
   bif vE p1.iW then
    some (cY (FC p0.iW) (FC p1.iW))
   else
   none
  else
  none
 else
 some false
def xN (C:aj):Prop:=∀(p0:iY) (p1:iY) (r:Bool),qb p0 p1=some r->C 9 [.agg [.v (.sl 1 (ah cE p0.iW)),.v (.i .i64 p0.iP)],.agg [.v (.sl 1 (ah cE p1.iW)),.v (.i .i64 p1.iP)]] []=some (.v (.b r),[])
def oJ (p0:iY) (p1:List iw) (p2:Int) (p3:List iw) (p4:Int) (p5:iY) (p6:iY) (p7:iY):Option Bool:=
 bif (p2==p4) then
  oB (oY p1 p3) fun x1=>
  bif x1 then
   oB (qb p6 p7) fun x2=>
   bif x2 then
    oB (qb p5 p0) fun x3=>
    some x3
   else
   some false
  else
  some false
 else
 some false
def tH (p0:iY):Option Bool:=
 oB (vK p0) fun x1=>
 oB (oL x1) fun (x2,x3,x4)=>
 oB (m8 p0) fun (x5,x6,x7)=>
 oB (oJ p0 x2 x4 x5 x7 x1 x3 x6) fun x8=>
 some x8
end
end Go.Proofs.YtgcglmoogaldbaaGreat
