/- What the functions that the law TapeAppends reaches compute, as plain functions; no condition. -/
import Derived.Test.YtgcglmoogaldbaaWTy
set_option linter.unusedSimpArgs false
set_option linter.unusedVariables false
set_option linter.constructorNameAsVariable false
set_option linter.unnecessarySimpa false
noncomputable section
namespace Go.Proofs.Ytgcglmoogaldbaa
open Go Go.Mx Go.Proofs
def sb (p0:List Int):Option (List Int):=
 bif dh p0.length 1 then
  some p0
 else
 none
def ym (C:aj):Prop:=∀(p0:List Int) (r:(List Int)),sb p0=some r->C 8 [.v (.sl 1 (ah cE p0))] []=some (.v (.sl 1 (ah cE r)),[])
def sc (p0:iK):Option iK:=
 oB (sb p0.j9) fun x1=>
 some (iK.mk x1 p0.kg)
def wd (C:aj):Prop:=∀(p0:iK) (r:iK),sc p0=some r->C 19 [.agg (cGTape p0)] []=some (.agg (cGTape r),[])
def mB (p0:ad) (s:Int×ad):Option ((Int×ad)⊕ad):=
 match s with
 |(p1,p2)=>
  bif decide (p1<(p0.iD.length:Int)) then
   oB (idx p0.iD p1) fun x1=>
   bif dh (p2.iD.length+1) 32 then
    some (.inl ((IntKind.i64.wrap (p1+1)),(ad.mk p2.af p2.gi p2.i8 (p2.iD++ [x1]) p2.iG p2.cO)))
   else
   none
  else
  some (.inr p2)
def mJ (p0:ad) (s:Int×ad):Option ((Int×ad)⊕ad):=
 match s with
 |(p1,p2)=>
  bif decide (p1<(p0.iG.length:Int)) then
   oB (idx p0.iG p1) fun x1=>
   bif dh (p2.iG.length+1) 16 then
    some (.inl ((IntKind.i64.wrap (p1+1)),(ad.mk p2.af p2.gi p2.i8 p2.iD (p2.iG++ [x1]) p2.cO)))
   else
   none
  else
  some (.inr p2)
def mF (p0:ad) (s:Int×ad):Option ((Int×ad)⊕ad):=
 match s with
 |(p1,p2)=>
  bif decide (p1<(p0.cO.length:Int)) then
   oB (idx p0.cO p1) fun x1=>
   bif dh (p2.cO.length+1) 24 then
    some (.inl ((IntKind.i64.wrap (p1+1)),(ad.mk p2.af p2.gi p2.i8 p2.iD p2.iG (p2.cO++ [x1]))))
   else
   none
  else
  some (.inr p2)
def tS (p0:ad) (x1:ad):Option ad:=
 oB (cM (mJ p0) (0,x1)) fun x2=>
 oB (cM (mF p0) (0,x2)) fun x3=>
 some x3
def pF (p0:ad):Option ad:=
 oB (cM (mB p0) (0,(ad.mk p0.af p0.gi p0.i8 [] [] []))) fun x1=>
 tS p0 x1
def uD (C:aj):Prop:=∀(p0:ad) (r:ad),pF p0=some r->C 102 [.agg (cGValue p0)] []=some (.agg [.I r.af,.v (.s r.gi),.I r.i8,.own 2 (ah iw.row r.iD),.own 1 (ah bY r.iG),.own 2 (ah ae.row r.cO)],[])
def mC (p0:iE) (s:Int×iE):Option ((Int×iE)⊕iE):=
 match s with
 |(p1,p2)=>
  bif decide (p1<(p0.im.length:Int)) then
   oB (idx p0.im p1) fun x1=>
   oB (pF x1.jG) fun x2=>
   bif dh (p2.im.length+1) 128 then
    some (.inl ((IntKind.i64.wrap (p1+1)),(iE.mk p2.jv (p2.im++ [(hM.mk x1.jj x2 x1.km)]))))
   else
   none
  else
  some (.inr p2)
def pC (p0:iE):Option iE:=
 oB (cM (mC p0) (0,(iE.mk p0.jv []))) fun x1=>
 some x1
def uG (C:aj):Prop:=∀(p0:iE) (r:iE),pC p0=some r->C 81 [.agg (cGStore p0)] []=some (.agg [.I r.jv,.own 8 (ah hM.row r.im)],[])
def mI (p0:iM) (s:Int×iM):Option ((Int×iM)⊕iM):=
 match s with
 |(p1,p2)=>
  bif decide (p1<(p0.jW.length:Int)) then
   oB (idx p0.jW p1) fun x1=>
   bif dh (p2.jW.length+1) 16 then
    some (.inl ((IntKind.i64.wrap (p1+1)),(iM.mk p2.ky p2.gi p2.fN (p2.jW++ [x1]))))
   else
   none
  else
  some (.inr p2)
def pN (p0:iM):Option iM:=
 oB (cM (mI p0) (0,(iM.mk p0.ky p0.gi p0.fN []))) fun x1=>
 some x1
def uP (C:aj):Prop:=∀(p0:iM) (r:iM),pN p0=some r->C 82 [.agg (cGReply p0)] []=some (.agg [.I r.ky,.v (.s r.gi),.I r.fN,.own 1 (ah bY r.jW)],[])
def kQ (p0:cc) (s:Int×cc):Option ((Int×cc)⊕cc):=
 match s with
 |(p1,p2)=>
  bif decide (p1<(p0.ir.length:Int)) then
   oB (idx p0.ir p1) fun x1=>
   oB (pN x1.jd) fun x2=>
   bif dh (p2.ir.length+1) 80 then
    some (.inl ((IntKind.i64.wrap (p1+1)),(cc.mk p2.iA p2.ji (p2.ir++ [(f7.mk x1.fId x1.jT x1.i6 x2)]))))
   else
   none
  else
  some (.inr p2)
def mg (p0:cc):Option cc:=
 oB (pC p0.iA) fun x1=>
 oB (cM (kQ p0) (0,(cc.mk x1 p0.ji []))) fun x2=>
 some x2
def uz (C:aj):Prop:=∀(p0:cc) (r:cc),mg p0=some r->C 55 [.agg (cGMachine p0)] []=some (.agg (cGMachine r),[])
def tK (p0:jr):Option jr:=
 oB (mg p0.iC) fun x1=>
 some (jr.mk p0.jg p0.iO x1)
def zC (C:aj):Prop:=∀(p0:jr) (r:jr),tK p0=some r->C 16 [.agg (cGSnap p0)] []=some (.agg (cGSnap r),[])
def qP (p0:iu):Option iu:=
 oB (tK p0.iS) fun x1=>
 some (iu.mk p0.af p0.iO p0.qu p0.jg p0.iN x1)
def vr (C:aj):Prop:=∀(p0:iu) (r:iu),qP p0=some r->C 12 [.agg (cGRecord p0)] []=some (.agg (cGRecord r),[])
def oS (p0:List Int):Option (List Int):=bif dh p0.length 1 then some p0 else none
def vV (C:aj):Prop:=∀(p0:List Int) (r:(List Int)),oS p0=some r->C 23 [.v (.sl 1 (ah cE p0))] []=some (.v (.sl 1 (ah cE r)),[])
def ma (p0:iK):Bool:=
 bif decide (p0.kg<0) then
  true
 else
 bif decide ((p0.j9.length:Int)<p0.kg) then
  true
 else
 decide (400000<(p0.j9.length:Int))
def tD (p0:iK):Option (iK×Bool):=
 bif (ma p0) then
  some ((iK.mk [] 0),false)
 else
 oB (oS p0.j9) fun x1=>
 some ((iK.mk x1 p0.kg),true)
def wD (C:aj):Prop:=∀(p0:iK) (r:iK×Bool),tD p0=some r->C 59 [.agg (cGTape p0)] []=some (.tup [.agg (cGTape r.1),.v (.b r.2)],[])
def lq (p0:jr) (p1:cc):Bool:=
 bif (p0.jg==0) then
  bif (p0.iO==0) then
   bif (p1.ji==0) then
    bif ((p1.ir.length:Int)==0) then
     bif (p1.iA.jv==0) then
      ((p1.iA.im.length:Int)==0)
     else
     false
    else
    false
   else
   false
  else
  false
 else
 false
def qY (p0:jr):Option Bool:=
 some (lq p0 p0.iC)
def mr (p0:jr):Bool:=(lq p0 p0.iC)
theorem sJ (p0:jr):qY p0=some (mr p0):=by
 simp only [qY,mr]
def sC (C:aj):Prop:=∀(p0:jr) (r:Bool),qY p0=some r->C 44 [.agg (cGSnap p0)] []=some (.v (.b r),[])
def qW (p0:Int):Option Bool:=
 bif decide (1<=p0) then
  some (decide (p0<=1048576))
 else
 some false
def ju (p0:Int):Bool:=(decide (1<=p0)&&decide (p0<=1048576))
theorem sy (p0:Int):qW p0=some (ju p0):=by
 simp only [qW,ju]
 cases decide (1<=p0)<;>rfl
def oZ (C:aj):Prop:=∀(p0:Int) (r:Bool),qW p0=some r->C 45 [.I p0] []=some (.v (.b r),[])
def oW (p0:Int):Option Bool:=
 bif decide (1<=p0) then
  some (decide (p0<=1048576))
 else
 some false
def lv (p0:Int):Bool:=(decide (1<=p0)&&decide (p0<=1048576))
theorem vP (p0:Int):oW p0=some (lv p0):=by
 simp only [oW,lv]
 cases decide (1<=p0)<;>rfl
def tm (C:aj):Prop:=∀(p0:Int) (r:Bool),oW p0=some r->C 97 [.I p0] []=some (.v (.b r),[])
def q5 (p0:ByteArray):Option Bool:=
 bif decide (1<=(p0.size:Int)) then
  some (decide ((p0.size:Int)<=12))
 else
 some false
def iI (p0:ByteArray):Bool:=(decide (1<=(p0.size:Int))&&decide ((p0.size:Int)<=12))
theorem sF (p0:ByteArray):q5 p0=some (iI p0):=by
 simp only [q5,iI]
 cases decide (1<=(p0.size:Int))<;>rfl
def pd (C:aj):Prop:=∀(p0:ByteArray) (r:Bool),q5 p0=some r->C 119 [.v (.s p0)] []=some (.v (.b r),[])
def rO (p0:ByteArray):Option Bool:=
 some (decide ((p0.size:Int)<=20))
def iJ (p0:ByteArray):Bool:=decide ((p0.size:Int)<=20)
theorem lG (p0:ByteArray):rO p0=some (iJ p0):=by
 simp only [rO,iJ]
def kC (C:aj):Prop:=∀(p0:ByteArray) (r:Bool),rO p0=some r->C 115 [.v (.s p0)] []=some (.v (.b r),[])
def qX (p0:Int):Option Bool:=
 bif decide ((-1099511627776)<=p0) then
  some (decide (p0<=1099511627776))
 else
 some false
def i7 (p0:Int):Bool:=(decide ((-1099511627776)<=p0)&&decide (p0<=1099511627776))
theorem uI (p0:Int):qX p0=some (i7 p0):=by
 simp only [qX,i7]
 cases decide ((-1099511627776)<=p0)<;>rfl
def oV (C:aj):Prop:=∀(p0:Int) (r:Bool),qX p0=some r->C 122 [.I p0] []=some (.v (.b r),[])
def nN (p0:f5) (p1:Bool) (p2:Int) (p3:ByteArray):f5:=
 bif p1 then
  (f5.mk p2 ByteArray.empty ByteArray.empty ByteArray.empty 0)
 else
 (f5.mk p2 p3 ByteArray.empty ByteArray.empty 0)
def nJ (p0:f5) (p1:Int) (p2:Bool) (p3:ByteArray):f5:=
 bif p2 then
  (f5.mk p1 p3 ByteArray.empty p0.gi p0.fN)
 else
 (nN p0 (p1==22) p1 p3)
def nF (p0:f5) (p1:Int) (p2:Bool) (p3:ByteArray):f5:=
 bif p2 then
  (f5.mk p1 p3 p0.iv p0.gi 0)
 else
 bif (p1==5) then
  (f5.mk p1 p3 p0.iv ByteArray.empty 0)
 else
 bif (p1==6) then
  (f5.mk p1 p3 p0.iv ByteArray.empty 0)
 else
 (nJ p0 p1 (p1==14) p3)
def rI (p0:f5) (p1:Int) (p2:ByteArray):f5:=
 bif (p1==11) then
  (f5.mk p1 p2 ByteArray.empty p0.gi 0)
 else
 bif (p1==12) then
  (f5.mk p1 p2 ByteArray.empty p0.gi 0)
 else
 bif (p1==13) then
  (f5.mk p1 p2 ByteArray.empty p0.gi 0)
 else
 bif (p1==15) then
  (f5.mk p1 p2 ByteArray.empty p0.gi 0)
 else
 bif (p1==16) then
  (f5.mk p1 p2 ByteArray.empty p0.gi 0)
 else
 bif (p1==3) then
  (f5.mk p1 p2 ByteArray.empty ByteArray.empty p0.fN)
 else
 bif (p1==20) then
  (f5.mk p1 p2 ByteArray.empty ByteArray.empty p0.fN)
 else
 (nF p0 p1 (p1==4) p2)
def jw (p0:f5) (p1:Int) (p2:ByteArray):f5:=
 bif (p1==1) then
  (f5.mk p1 p2 ByteArray.empty p0.gi 0)
 else
 bif (p1==7) then
  (f5.mk p1 p2 ByteArray.empty p0.gi 0)
 else
 bif (p1==8) then
  (f5.mk p1 p2 ByteArray.empty p0.gi 0)
 else
 rI p0 p1 p2
def ov (p0:f5) (p1:f5):Bool:=
 bif (iI p0.jj) then
  bif decide (4<=p0.af) then
   bif decide (p0.af<=6) then
    bif (iI p0.iv) then
     (!(iJ p0.gi))
    else
    true
   else
   (!(iJ p0.gi))
  else
  (!(iJ p0.gi))
 else
 true
def mn (p0:f5) (p1:f5):Bool:=
 bif (p0.af==22) then
  bif decide (4<=p0.af) then
   bif decide (p0.af<=6) then
    bif (iI p0.iv) then
     (!(iJ p0.gi))
    else
    true
   else
   (!(iJ p0.gi))
  else
  (!(iJ p0.gi))
 else
 ov p0 p1
def th (p0:f5):Int:=
 bif (p0.af==(jw p0 p0.af p0.jj).af) then
  bif cY p0.jj ((jw p0 p0.af p0.jj).jj) then
   bif cY p0.iv ((jw p0 p0.af p0.jj).iv) then
    bif cY p0.gi ((jw p0 p0.af p0.jj).gi) then
     bif (p0.fN==(jw p0 p0.af p0.jj).fN) then
      bif (mn p0 (jw p0 p0.af p0.jj)) then
       1
      else
      bif (i7 p0.fN) then
       0
      else
      2
     else
     8
    else
    8
   else
   8
  else
  8
 else
 8
def pW (p0:f5):Int:=
 bif decide (p0.af<1) then
  3
 else
 bif decide (22<p0.af) then
  3
 else
 th p0
def uj (p0:f5):Option Int:=some (pW p0)
theorem Fx (p0:f5):uj p0=some (pW p0):=rfl
def xU (C:aj):Prop:=∀(p0:f5) (r:Int),uj p0=some r->C 98 [.agg (cGCommand p0)] []=some (.I r,[])
def tw (p0:jB):Int:=
 bif (p0.jT==0) then
  bif (p0.bt.af==0) then
   bif cY p0.bt.jj ByteArray.empty then
    bif cY p0.bt.iv ByteArray.empty then
     bif cY p0.bt.gi ByteArray.empty then
      bif (p0.bt.fN==0) then
       0
      else
      8
     else
     8
    else
    8
   else
   8
  else
  8
 else
 8
def rU (p0:jB):Int:=
 bif (p0.iP==0) then
  tw p0
 else
 bif (lv p0.iP) then
  bif (lv p0.jT) then
   (pW p0.bt)
  else
  2
 else
 2
def yr (p0:jB):Option Int:=some (rU p0)
theorem L0 (p0:jB):yr p0=some (rU p0):=rfl
def Db (C:aj):Prop:=∀(p0:jB) (r:Int),yr p0=some r->C 77 [.agg (cGCall p0)] []=some (.I r,[])
def j0 (p0:iX):Bool:=
 bif decide (p0.iO<1) then
  true
 else
 bif decide (1048576<p0.iO) then
  true
 else
 bif decide (p0.i6<0) then
  true
 else
 decide (1073741824<p0.i6)
def nK (p0:iX):Int:=
 bif (p0.iz.iP==0) then
  bif (p0.iz.jT==0) then
   bif (p0.iz.bt.af==0) then
    bif cY p0.iz.bt.jj ByteArray.empty then
     bif cY p0.iz.bt.iv ByteArray.empty then
      bif cY p0.iz.bt.gi ByteArray.empty then
       bif (p0.iz.bt.fN==0) then
        0
       else
       8
      else
      8
     else
     8
    else
    8
   else
   8
  else
  8
 else
 8
def jn (p0:iX):Int:=
 bif (j0 p0) then
  2
 else
 bif p0.tj then
  nK p0
 else
 (rU p0.iz)
def pL (p0:iX):Option Int:=some (jn p0)
theorem vf (p0:iX):pL p0=some (jn p0):=rfl
def oc (C:aj):Prop:=∀(p0:iX) (r:Int),pL p0=some r->C 46 [.agg (cGItem p0)] []=some (.I r,[])
def kN (p0:ad):Int:=
 (IntKind.i64.wrap ((IntKind.i64.wrap ((p0.iD.length:Int)+(p0.iG.length:Int)))+(p0.cO.length:Int)))
def pM (p0:ad):Option Int:=some (kN p0)
theorem u2 (p0:ad):pM p0=some (kN p0):=rfl
def nR (C:aj):Prop:=∀(p0:ad) (r:Int),pM p0=some r->C 114 [.agg (cGValue p0)] []=some (.I r,[])
def wR (p0:ByteArray):Option Bool:=
 some (!(iJ p0))
def lp (p0:ByteArray):Bool:=(!(iJ p0))
theorem Lk (p0:ByteArray):wR p0=some (lp p0):=by
 simp only [wR,lp]
def zs (C:aj):Prop:=∀(p0:ByteArray) (r:Bool),wR p0=some r->C 116 [.v (.s p0)] []=some (.v (.b r),[])
def m7 (p0:List ByteArray) (p1:Int) (s:Int):Option (Int⊕(Int⊕Unit)):=
 match s with
 |p2=>
  bif decide (p2<p1) then
   oB (idx p0 p2) fun x1=>
   bif (lp x1) then
    some (.inr (.inl p2))
   else
   some (.inl (IntKind.i64.wrap (p2+1)))
  else
  some (.inr (.inr ()))
def rV (p0:List ByteArray):Option Int:=
 oB (cM (m7 p0 (p0.length:Int)) 0) fun
 | .inl x1=>
  some x1
 | .inr _=>
  some (-1)
def yl (C:aj):Prop:=∀(p0:List ByteArray) (r:Int),rV p0=some r->C 131 [.v (.sl 1 (ah bY p0)),.clo 116 []] []=some (.I r,[])
def qR (p0:List ByteArray):Option Bool:=
 oB (rV p0) fun x1=>
 some (decide (0<=x1))
def vB (C:aj):Prop:=∀(p0:List ByteArray) (r:Bool),qR p0=some r->C 91 [.v (.sl 1 (ah bY p0)),.clo 116 []] []=some (.v (.b r),[])
def wW (p0:iw):Option Bool:=
 bif (iI p0.iv) then
  some (!(iJ p0.gi))
 else
 some true
def lW (p0:iw):Bool:=(bif (iI p0.iv) then (!(iJ p0.gi)) else true)
theorem KK (p0:iw):wW p0=some (lW p0):=by
 simp only [wW,lW]
 cases (iI p0.iv)<;>rfl
def zz (C:aj):Prop:=∀(p0:iw) (r:Bool),wW p0=some r->C 118 [.agg (cGPair p0)] []=some (.v (.b r),[])
def nf (p0:List iw) (p1:Int) (s:Int):Option (Int⊕(Int⊕Unit)):=
 match s with
 |p2=>
  bif decide (p2<p1) then
   oB (idx p0 p2) fun x1=>
   bif (lW x1) then
    some (.inr (.inl p2))
   else
   some (.inl (IntKind.i64.wrap (p2+1)))
  else
  some (.inr (.inr ()))
def rP (p0:List iw):Option Int:=
 oB (cM (nf p0 (p0.length:Int)) 0) fun
 | .inl x1=>
  some x1
 | .inr _=>
  some (-1)
def xB (C:aj):Prop:=∀(p0:List iw) (r:Int),rP p0=some r->C 136 [.v (.sl 2 (ah iw.row p0)),.clo 118 []] []=some (.I r,[])
def qL (p0:List iw):Option Bool:=
 oB (rP p0) fun x1=>
 some (decide (0<=x1))
def vm (C:aj):Prop:=∀(p0:List iw) (r:Bool),qL p0=some r->C 117 [.v (.sl 2 (ah iw.row p0)),.clo 118 []] []=some (.v (.b r),[])
def wL (p0:ae):Option Bool:=
 some (!(iJ p0.iU))
def md (p0:ae):Bool:=(!(iJ p0.iU))
theorem Lm (p0:ae):wL p0=some (md p0):=by
 simp only [wL,md]
def yV (C:aj):Prop:=∀(p0:ae) (r:Bool),wL p0=some r->C 121 [.agg (cGScore p0)] []=some (.v (.b r),[])
def ne (p0:List ae) (p1:Int) (s:Int):Option (Int⊕(Int⊕Unit)):=
 match s with
 |p2=>
  bif decide (p2<p1) then
   oB (idx p0 p2) fun x1=>
   bif (md x1) then
    some (.inr (.inl p2))
   else
   some (.inl (IntKind.i64.wrap (p2+1)))
  else
  some (.inr (.inr ()))
def rN (p0:List ae):Option Int:=
 oB (cM (ne p0 (p0.length:Int)) 0) fun
 | .inl x1=>
  some x1
 | .inr _=>
  some (-1)
def yn (C:aj):Prop:=∀(p0:List ae) (r:Int),rN p0=some r->C 137 [.v (.sl 2 (ah ae.row p0)),.clo 121 []] []=some (.I r,[])
def qM (p0:List ae):Option Bool:=
 oB (rN p0) fun x1=>
 some (decide (0<=x1))
def vw (C:aj):Prop:=∀(p0:List ae) (r:Bool),qM p0=some r->C 120 [.v (.sl 2 (ah ae.row p0)),.clo 121 []] []=some (.v (.b r),[])
def wH (p0:ae):Option Bool:=
 some (!(i7 p0.fN))
def lY (p0:ae):Bool:=(!(i7 p0.fN))
theorem KU (p0:ae):wH p0=some (lY p0):=by
 simp only [wH,lY]
def yJ (C:aj):Prop:=∀(p0:ae) (r:Bool),wH p0=some r->C 123 [.agg (cGScore p0)] []=some (.v (.b r),[])
def m9 (p0:List ae) (p1:Int) (s:Int):Option (Int⊕(Int⊕Unit)):=
 match s with
 |p2=>
  bif decide (p2<p1) then
   oB (idx p0 p2) fun x1=>
   bif (lY x1) then
    some (.inr (.inl p2))
   else
   some (.inl (IntKind.i64.wrap (p2+1)))
  else
  some (.inr (.inr ()))
def su (p0:List ae):Option Int:=
 oB (cM (m9 p0 (p0.length:Int)) 0) fun
 | .inl x1=>
  some x1
 | .inr _=>
  some (-1)
def xZ (C:aj):Prop:=∀(p0:List ae) (r:Int),su p0=some r->C 137 [.v (.sl 2 (ah ae.row p0)),.clo 123 []] []=some (.I r,[])
def qQ (p0:List ae):Option Bool:=
 oB (su p0) fun x1=>
 some (decide (0<=x1))
def vJ (C:aj):Prop:=∀(p0:List ae) (r:Bool),qQ p0=some r->C 120 [.v (.sl 2 (ah ae.row p0)),.clo 123 []] []=some (.v (.b r),[])
def y7 (a b:ByteArray):Option Int:=some (V2 a b)
def zV (a b:ByteArray):Int:=V2 a b
theorem HE (a b:ByteArray):y7 a b=some (zV a b):=rfl
def zF (C:aj):Prop:=∀(p0:ByteArray) (p1:ByteArray) (r:Int),y7 p0 p1=some r->C 144 [.v (.s p0),.v (.s p1)] []=some (.I r,[])
def pn (p0:ByteArray) (p1:ByteArray):Int:=
 (zV p0 p1)
def oI (p0:ByteArray) (p1:ByteArray):Option Int:=some (pn p0 p1)
theorem xE (p0:ByteArray) (p1:ByteArray):oI p0 p1=some (pn p0 p1):=rfl
def uq (C:aj):Prop:=∀(p0:ByteArray) (p1:ByteArray) (r:Int),oI p0 p1=some r->C 140 [.v (.s p0),.v (.s p1)] []=some (.I r,[])
def kh (p0:ByteArray) (p1:ByteArray):Int:=
 (pn p0 p1)
def oJ (p0:ByteArray) (p1:ByteArray):Option Int:=some (kh p0 p1)
theorem rx (p0:ByteArray) (p1:ByteArray):oJ p0 p1=some (kh p0 p1):=rfl
def lg (C:aj):Prop:=∀(p0:ByteArray) (p1:ByteArray) (r:Int),oJ p0 p1=some r->C 129 [.v (.s p0),.v (.s p1)] []=some (.I r,[])
def oG (p0:iw) (p1:iw):Int:=
 (kh p0.iv p1.iv)
def qt (p0:iw) (p1:iw):Option Int:=some (oG p0 p1)
theorem Aj (p0:iw) (p1:iw):qt p0 p1=some (oG p0 p1):=rfl
def tl (C:aj):Prop:=∀(p0:iw) (p1:iw) (r:Int),qt p0 p1=some r->C 125 [.agg (cGPair p0),.agg (cGPair p1)] []=some (.I r,[])
def jh (p0:List iw) (s:Int):Option (Int⊕(Unit⊕Unit)):=
 match s with
 |p1=>
  bif decide (p1<(p0.length:Int)) then
   oB (idx p0 (IntKind.i64.wrap (p1-1))) fun x1=>
   oB (idx p0 p1) fun x2=>
   bif decide (0<=(oG x1 x2)) then
    some (.inr (.inl ()))
   else
   some (.inl (IntKind.i64.wrap (p1+1)))
  else
  some (.inr (.inr ()))
def jk (p0:List iw):Option Bool:=
 oB (cM (jh p0) 1) fun
 | .inl _=>
  some false
 | .inr _=>
  some true
def ka (C:aj):Prop:=∀(p0:List iw) (r:Bool),jk p0=some r->C 124 [.v (.sl 2 (ah iw.row p0)),.clo 125 []] []=some (.v (.b r),[])
def oQ (p0:Int):Option Bool:=
 some false
def nb (p0:Int):Bool:=false
theorem v8 (p0:Int):oQ p0=some (nb p0):=by
 simp only [oQ,nb]
def vQ (C:aj):Prop:=∀(p0:Int) (r:Bool),oQ p0=some r->C 143 [.I p0] []=some (.v (.b r),[])
def me (p0:Int) (p1:Int):Int:=
 bif (nb p0) then
  bif (nb p1) then
   0
  else
  (-1)
 else
 bif (nb p1) then
  1
 else
 bif decide (p0<p1) then
  (-1)
 else
 bif decide (p1<p0) then
  1
 else
 0
def oE (p0:Int) (p1:Int):Option Int:=some (me p0 p1)
theorem yf (p0:Int) (p1:Int):oE p0 p1=some (me p0 p1):=rfl
def ri (C:aj):Prop:=∀(p0:Int) (p1:Int) (r:Int),oE p0 p1=some r->C 139 [.I p0,.I p1] []=some (.I r,[])
def m8 (p0:List Int) (p1:Int) (s:Int):Option (Int⊕(Int⊕Unit)):=
 match s with
 |p2=>
  bif decide (p2<p1) then
   oB (idx p0 p2) fun x1=>
   bif (x1==0) then
    some (.inl (IntKind.i64.wrap (p2+1)))
   else
   some (.inr (.inl x1))
  else
  some (.inr (.inr ()))
def qN (p0:List Int):Option Int:=
 oB (cM (m8 p0 (p0.length:Int)) 0) fun
 | .inl x1=>
  some x1
 | .inr _=>
  some 0
def ya (C:aj):Prop:=∀(p0:List Int) (r:Int),qN p0=some r->C 138 [.v (.sl 1 (ah u1 p0))] []=some (.I r,[])
def nx (p0:ae) (p1:ae):Option Int:=
 oB (qN [(me p0.fN p1.fN),(kh p0.iU p1.iU)]) fun x1=>
 some x1
def sX (C:aj):Prop:=∀(p0:ae) (p1:ae) (r:Int),nx p0 p1=some r->C 127 [.agg (cGScore p0),.agg (cGScore p1)] []=some (.I r,[])
def jc (p0:List ae) (s:Int):Option (Int⊕(Unit⊕Unit)):=
 match s with
 |p1=>
  bif decide (p1<(p0.length:Int)) then
   oB (idx p0 (IntKind.i64.wrap (p1-1))) fun x1=>
   oB (idx p0 p1) fun x2=>
   oB (nx x1 x2) fun x3=>
   bif decide (0<=x3) then
    some (.inr (.inl ()))
   else
   some (.inl (IntKind.i64.wrap (p1+1)))
  else
  some (.inr (.inr ()))
def jf (p0:List ae):Option Bool:=
 oB (cM (jc p0) 1) fun
 | .inl _=>
  some false
 | .inr _=>
  some true
def jZ (C:aj):Prop:=∀(p0:List ae) (r:Bool),jf p0=some r->C 126 [.v (.sl 2 (ah ae.row p0)),.clo 127 []] []=some (.v (.b r),[])
def iY (p0:List ByteArray) (s:Int):Option (Int⊕(Unit⊕Unit)):=
 match s with
 |p1=>
  bif decide (p1<(p0.length:Int)) then
   oB (idx p0 (IntKind.i64.wrap (p1-1))) fun x1=>
   oB (idx p0 p1) fun x2=>
   bif decide (0<=(kh x1 x2)) then
    some (.inr (.inl ()))
   else
   some (.inl (IntKind.i64.wrap (p1+1)))
  else
  some (.inr (.inr ()))
def i4 (p0:List ByteArray):Option Bool:=
 oB (cM (iY p0) 1) fun
 | .inl _=>
  some false
 | .inr _=>
  some true
def jO (C:aj):Prop:=∀(p0:List ByteArray) (r:Bool),i4 p0=some r->C 128 [.v (.sl 1 (ah bY p0)),.clo 129 []] []=some (.v (.b r),[])
def nV (p0:ae) (p1:ByteArray):Option (Bool×ByteArray):=
 some (cY p0.iU p1,p1)
def rL (C:aj):Prop:=∀(p0:ae) (p1:ByteArray) (r:Bool×ByteArray),nV p0 p1=some r->C 141 [.agg (cGScore p0),.ptr 0 0] [[.v (.s p1)]]=some (.v (.b r.1),[[.v (.s r.2)]])
def kq (p0:List ae) (p1:Int) (s:Int×ByteArray):Option ((Int×ByteArray)⊕((Int×ByteArray)⊕ByteArray)):=
 match s with
 |(p2,p3)=>
  bif decide (p2<p1) then
   oB (idx p0 p2) fun x1=>
   oB (nV x1 p3) fun (x2,x3)=>
   bif x2 then
    some (.inr (.inl (p2,x3)))
   else
   some (.inl ((IntKind.i64.wrap (p2+1)),x3))
  else
  some (.inr (.inr p3))
def l5 (p0:List ae) (p1:ByteArray):Option (Int×ByteArray):=
 oB (cM (kq p0 (p0.length:Int)) (0,p1)) fun
 | .inl (x1,x2)=>
  some (x1,x2)
 | .inr x1=>
  some ((-1),x1)
def tq (C:aj):Prop:=∀(p0:List ae) (p1:ByteArray) (r:Int×ByteArray),l5 p0 p1=some r->C 137 [.v (.sl 2 (ah ae.row p0)),.clo 141 [.ptr 0 0]] [[.v (.s p1)]]=some (.I r.1,[[.v (.s r.2)]])
def qO (p0:List ae) (p1:ByteArray):Option Int:=
 oB (l5 p0 p1) fun (x1,x2)=>
 some x1
def vA (C:aj):Prop:=∀(p0:List ae) (p1:ByteArray) (r:Int),qO p0 p1=some r->C 130 [.v (.sl 2 (ah ae.row p0)),.v (.s p1)] []=some (.I r,[])
def rc (p0:ad) (p1:Bool):ad:=
 bif p1 then
  (ad.mk p0.af p0.gi p0.i8 p0.iD p0.iG [])
 else
 (ad.mk p0.af p0.gi p0.i8 p0.iD [] p0.cO)
def rb (p0:ad) (p1:Int) (p2:Bool):ad:=
 bif p2 then
  (ad.mk p0.af p0.gi p0.i8 [] p0.iG p0.cO)
 else
 (rc p0 (p1==6))
def rh (p0:ad) (p1:Int) (p2:Bool):ad:=
 bif p2 then
  (ad.mk p0.af p0.gi 0 p0.iD p0.iG p0.cO)
 else
 (rb p0 p1 (p1==3))
def jI (p0:ad) (p1:Int) (p2:Bool):ad:=
 bif p2 then
  (ad.mk p0.af ByteArray.empty p0.i8 p0.iD p0.iG p0.cO)
 else
 (rh p0 p1 (p1==2))
def pU (p0:ad) (p1:ad):Bool:=
 bif cY p1.gi ByteArray.empty then
  bif (p1.i8==0) then
   decide (0<(kN p1))
  else
  true
 else
 true
def oq (p0:ad) (p1:ad):Bool:=
 bif decide (3<=p0.af) then
  bif decide ((kN p0)<1) then
   true
  else
  decide (20<(kN p0))
 else
 false
def vE (p0:ad) (p1:ad):Option Bool:=
 oB (jk p0.iD) fun x1=>
 bif x1 then
  oB (jf p0.cO) fun x2=>
  bif x2 then
   bif (p0.af==5) then
    oB (i4 p0.iG) fun x3=>
    some x3
   else
   some true
  else
  some false
 else
 some false
def tO (p0:ad) (p2:List ae) (p3:Int) (p5:ad) (s:Bool×Int):Option ((Bool×Int)⊕Bool):=
 match s with
 |(p1,p4)=>
  bif decide (p4<p3) then
   oB (idx p2 p4) fun x1=>
   bif p1 then
    bif IA 0 p4 (p0.cO.length:Int) then
     oB (qO (dm p0.cO 0 p4) x1.iU) fun x2=>
     some (.inl (decide (x2<0),(IntKind.i64.wrap (p4+1))))
    else
    none
   else
   some (.inl (false,(IntKind.i64.wrap (p4+1))))
  else
  some (.inr p1)
def Iq (p0:ad) (x1:Bool) (x2:Bool) (x3:Bool):Option Int:=
 bif x3 then
  some 1
 else
 bif (i7 p0.i8) then
  oB (qQ p0.cO) fun x4=>
  bif x4 then
   some 2
  else
  oB (vE p0 (jI p0 p0.af (p0.af==1))) fun x5=>
  oB (cM (tO p0 p0.cO (p0.cO.length:Int) (jI p0 p0.af (p0.af==1))) (x5,0)) fun x6=>
  bif x6 then
   some 0
  else
  some 10
 else
 some 2
def zp (p0:ad):Option Int:=
 bif (oq p0 (jI p0 p0.af (p0.af==1))) then
  some 1
 else
 bif (iJ p0.gi) then
  oB (qR p0.iG) fun x1=>
  bif x1 then
   some 1
  else
  oB (qL p0.iD) fun x2=>
  bif x2 then
   some 1
  else
  oB (qM p0.cO) fun x3=>
  Iq p0 x1 x2 x3
 else
 some 1
def vaC (p0:ad):Option Int:=
 bif decide (p0.af<1) then
  some 3
 else
 bif decide (6<p0.af) then
  some 3
 else
 bif (pU p0 (jI p0 p0.af (p0.af==1))) then
  some 8
 else
 zp p0
def JD (C:aj):Prop:=∀(p0:ad) (r:Int),vaC p0=some r->C 90 [.agg (cGValue p0)] []=some (.I r,[])
def lu (p0:iE):Bool:=
 bif decide (p0.jv<0) then
  true
 else
 bif decide (1073741824<p0.jv) then
  true
 else
 decide (12<(p0.im.length:Int))
def mm (p0:iE) (p1:Int) (p2:List hM) (p3:Int) (p4:hM):Option Bool:=
 bif decide ((p4.jj.size:Int)<1) then
  some true
 else
 bif decide (12<(p4.jj.size:Int)) then
  some true
 else
 oB (vaC p4.jG) fun x1=>
 bif (x1==0) then
  bif decide (0<p1) then
   oB (idx p0.im (IntKind.i64.wrap (p1-1))) fun x2=>
   some (!pT x2.jj p4.jj)
  else
  some false
 else
 some true
def lB (p0:iE) (p1:List hM) (p2:Int) (p3:Int) (p4:hM):Bool:=
 bif (p4.km==0) then
  false
 else
 bif decide (p4.km<=p0.jv) then
  true
 else
 decide (1073741824<p4.km)
def mA (p0:iE) (p1:List hM) (p2:Int) (s:Int):Option (Int⊕(hM⊕Unit)):=
 match s with
 |p3=>
  bif decide (p3<p2) then
   oB (idx p1 p3) fun x1=>
   oB (mm p0 p3 p1 p2 x1) fun x2=>
   bif x2 then
    some (.inr (.inl x1))
   else
   bif (lB p0 p1 p2 p3 x1) then
    some (.inr (.inl x1))
   else
   some (.inl (IntKind.i64.wrap (p3+1)))
  else
  some (.inr (.inr ()))
def py (p0:iE):Option Int:=
 bif (lu p0) then
  some 13
 else
 oB (cM (mA p0 p0.im (p0.im.length:Int)) 0) fun
 | .inl x1=>
  some 13
 | .inr _=>
  some 0
def sB (C:aj):Prop:=∀(p0:iE) (r:Int),py p0=some r->C 71 [.agg (cGStore p0)] []=some (.I r,[])
def pV (p0:ByteArray):Option Bool:=
 some (decide (20<(p0.size:Int)))
def jM (p0:ByteArray):Bool:=decide (20<(p0.size:Int))
theorem BM (p0:ByteArray):pV p0=some (jM p0):=by
 simp only [pV,jM]
def uh (C:aj):Prop:=∀(p0:ByteArray) (r:Bool),pV p0=some r->C 92 [.v (.s p0)] []=some (.v (.b r),[])
def kO (p0:List ByteArray) (p1:Int) (s:Int):Option (Int⊕(Int⊕Unit)):=
 match s with
 |p2=>
  bif decide (p2<p1) then
   oB (idx p0 p2) fun x1=>
   bif (jM x1) then
    some (.inr (.inl p2))
   else
   some (.inl (IntKind.i64.wrap (p2+1)))
  else
  some (.inr (.inr ()))
def nc (p0:List ByteArray):Option Int:=
 oB (cM (kO p0 (p0.length:Int)) 0) fun
 | .inl x1=>
  some x1
 | .inr _=>
  some (-1)
def uv (C:aj):Prop:=∀(p0:List ByteArray) (r:Int),nc p0=some r->C 131 [.v (.sl 1 (ah bY p0)),.clo 92 []] []=some (.I r,[])
def mh (p0:List ByteArray):Option Bool:=
 oB (nc p0) fun x1=>
 some (decide (0<=x1))
def uo (C:aj):Prop:=∀(p0:List ByteArray) (r:Bool),mh p0=some r->C 91 [.v (.sl 1 (ah bY p0)),.clo 92 []] []=some (.v (.b r),[])
def wh (p0:iM):Option Int:=
 bif decide (13<p0.ky) then
  some 3
 else
 bif decide (20<(p0.gi.size:Int)) then
  some 1
 else
 bif decide (20<(p0.jW.length:Int)) then
  some 1
 else
 oB (mh p0.jW) fun x1=>
 bif x1 then
  some 1
 else
 bif decide (p0.fN<(-1099511627776)) then
  some 2
 else
 bif decide (1099511627776<p0.fN) then
  some 2
 else
 some 0
def tU (p0:iM):Option Int:=
 bif decide (p0.ky<0) then
  some 3
 else
 wh p0
def vI (C:aj):Prop:=∀(p0:iM) (r:Int),tU p0=some r->C 72 [.agg (cGReply p0)] []=some (.I r,[])
def vi (p0:cc):Option Bool:=
 oB (py p0.iA) fun x1=>
 bif (x1==0) then
  bif decide (p0.ji<1) then
   some true
  else
  bif decide (1048577<p0.ji) then
   some true
  else
  some (decide (4<(p0.ir.length:Int)))
 else
 some true
def sM (p0:cc) (p1:Int) (p2:List f7) (p3:Int) (p4:f7):Option Bool:=
 bif decide (p4.fId<1) then
  some true
 else
 bif decide (p0.ji<=p4.fId) then
  some true
 else
 bif decide (0<p1) then
  oB (idx p0.ir (IntKind.i64.wrap (p1-1))) fun x1=>
  some (decide (p4.fId<=x1.fId))
 else
 some false
def sU (p0:cc) (p1:List f7) (p2:Int) (p3:Int) (p4:f7):Option Bool:=
 bif decide (p4.jT<0) then
  some true
 else
 bif decide (1048576<p4.jT) then
  some true
 else
 bif decide (p4.i6<0) then
  some true
 else
 bif decide (p0.iA.jv<p4.i6) then
  some true
 else
 oB (tU p4.jd) fun x1=>
 some (!(x1==0))
def uV (p0:cc) (p1:List f7) (p2:Int) (s:Int):Option (Int⊕(f7⊕Unit)):=
 match s with
 |p3=>
  bif decide (p3<p2) then
   oB (idx p1 p3) fun x1=>
   oB (sM p0 p3 p1 p2 x1) fun x2=>
   bif x2 then
    some (.inr (.inl x1))
   else
   oB (sU p0 p1 p2 p3 x1) fun x3=>
   bif x3 then
    some (.inr (.inl x1))
   else
   some (.inl (IntKind.i64.wrap (p3+1)))
  else
  some (.inr (.inr ()))
def clC (p0:cc):Option Int:=
 oB (vi p0) fun x1=>
 bif x1 then
  some 13
 else
 oB (cM (uV p0 p0.ir (p0.ir.length:Int)) 0) fun
 | .inl x2=>
  some 13
 | .inr _=>
  some 0
def Kr (C:aj):Prop:=∀(p0:cc) (r:Int),clC p0=some r->C 33 [.agg (cGMachine p0)] []=some (.I r,[])
def lM (p0:jr):Option Int:=
 bif (ju p0.jg) then
  bif (ju p0.iO) then
   oB (clC p0.iC) fun x1=>
   some x1
  else
  some 2
 else
 some 2
def vd (C:aj):Prop:=∀(p0:jr) (r:Int),lM p0=some r->C 47 [.agg (cGSnap p0)] []=some (.I r,[])
def ph (p0:iu):Bool:=
 bif (p0.iN.iz.jT==0) then
  bif (p0.iN.iz.bt.af==0) then
   bif cY p0.iN.iz.bt.jj ByteArray.empty then
    bif cY p0.iN.iz.bt.iv ByteArray.empty then
     bif cY p0.iN.iz.bt.gi ByteArray.empty then
      bif (p0.iN.iz.bt.fN==0) then
       bif (p0.af==3) then
        false
       else
       (!(mr p0.iS))
      else
      true
     else
     true
    else
    true
   else
   true
  else
  true
 else
 true
def pe (p0:iu):Bool:=
 bif (p0.iN.iz.jT==0) then
  bif (p0.iN.iz.bt.af==0) then
   bif cY p0.iN.iz.bt.jj ByteArray.empty then
    bif cY p0.iN.iz.bt.iv ByteArray.empty then
     bif cY p0.iN.iz.bt.gi ByteArray.empty then
      bif (p0.iN.iz.bt.fN==0) then
       bif (p0.af==3) then
        false
       else
       (!(mr p0.iS))
      else
      true
     else
     true
    else
    true
   else
   true
  else
  true
 else
 true
def pf (p0:iu):Bool:=
 bif (p0.af==2) then
  bif (p0.af==3) then
   false
  else
  (!(mr p0.iS))
 else
 bif (p0.jg==0) then
  bif (p0.iN.iO==0) then
   bif (p0.iN.i6==0) then
    bif p0.iN.tj then
     true
    else
    bif (p0.iN.iz.iP==0) then
     pe p0
    else
    true
   else
   true
  else
  true
 else
 true
def pi (p0:iu):Bool:=
 bif (p0.af==2) then
  bif (p0.af==3) then
   false
  else
  (!(mr p0.iS))
 else
 bif (p0.jg==0) then
  bif (p0.iN.iO==0) then
   bif (p0.iN.i6==0) then
    bif p0.iN.tj then
     true
    else
    bif (p0.iN.iz.iP==0) then
     ph p0
    else
    true
   else
   true
  else
  true
 else
 true
def lD (p0:iu):Bool:=
 bif (p0.af==1) then
  pi p0
 else
 bif (p0.iO==0) then
  bif (p0.qu==0) then
   pf p0
  else
  true
 else
 true
def kF (p0:iu):Bool:=
 bif (ju p0.iO) then
  bif decide (p0.qu<(-1)) then
   true
  else
  decide (3<=p0.qu)
 else
 true
def sx (p0:iu):Option Int:=
 bif decide (3<p0.af) then
  some 3
 else
 bif (lD p0) then
  some 8
 else
 bif (p0.af==1) then
  bif (kF p0) then
   some 2
  else
  some 0
 else
 bif (p0.af==2) then
  bif (ju p0.jg) then
   some (jn p0.iN)
  else
  some 2
 else
 oB (lM p0.iS) fun x1=>
 some x1
def ns (p0:iu):Option Int:=
 bif decide (p0.af<1) then
  some 3
 else
 sx p0
def vK (C:aj):Prop:=∀(p0:iu) (r:Int),ns p0=some r->C 11 [.agg (cGRecord p0)] []=some (.I r,[])
def lj (p0:Int):Option (List Int):=
 some [(IntKind.u8.wrap (Int.fdiv p0 (2 ^ (min (16:Int).toNat IntKind.i64.bits)))),(IntKind.u8.wrap (Int.fdiv p0 (2 ^ (min (8:Int).toNat IntKind.i64.bits)))),(IntKind.u8.wrap p0)]
def pJ (C:aj):Prop:=∀(p0:Int) (r:(List Int)),lj p0=some r->C 62 [.I p0] []=some (.v (.sl 1 (ah cE r)),[])
def nA (p0:Int) (s:Int×bi):Option ((Int×bi)⊕bi):=
 match s with
 |(p1,p2)=>
  bif decide (0<=p1) then
   bif dh (p2.fb.length+1) 1 then
    some (.inl ((IntKind.i64.wrap (p1-8)),(bi.mk (p2.fb++ [(IntKind.u8.wrap (Int.fdiv p0 (2 ^ (min (p1:Int).toNat IntKind.u64.bits))))]))))
   else
   none
  else
  some (.inr p2)
def kP (p0:Int) (p1:bi):Option bi:=
 oB (cM (nA (IntKind.u64.wrap (IntKind.i64.wrap (p0+4611686018427387904)))) (56,p1)) fun x1=>
 some x1
def kG (C:aj):Prop:=∀(p0:Int) (p1:bi) (r:bi),kP p0 p1=some r->C 105 [.ptr 0 0,.I p0] [[.own 1 (ah cE p1.fb)]]=some (.tup [],[[.own 1 (ah cE r.fb)]])
def ni (p0:Int) (p1:bi):Option bi:=
 bif dh (p1.fb.length+1) 1 then
  some (bi.mk (p1.fb++ [(IntKind.u8.wrap p0)]))
 else
 none
def mw (C:aj):Prop:=∀(p0:Int) (p1:bi) (r:bi),ni p0 p1=some r->C 106 [.ptr 0 0,.I p0] [[.own 1 (ah cE p1.fb)]]=some (.tup [],[[.own 1 (ah cE r.fb)]])
def qn (p0:ByteArray) (p1:bi):Option bi:=
 oB (ni (p0.size:Int) p1) fun x1=>
 bif dh (x1.fb.length+(byL p0).length) 1 then
  some (bi.mk (x1.fb++(byL p0)))
 else
 none
def nX (C:aj):Prop:=∀(p0:ByteArray) (p1:bi) (r:bi),qn p0 p1=some r->C 107 [.ptr 0 0,.v (.s p0)] [[.own 1 (ah cE p1.fb)]]=some (.tup [],[[.own 1 (ah cE r.fb)]])
def rS (p0:f5) (p1:bi):Option bi:=
 oB (ni p0.af p1) fun x1=>
 oB (qn p0.jj x1) fun x2=>
 oB (qn p0.iv x2) fun x3=>
 oB (qn p0.gi x3) fun x4=>
 oB (kP p0.fN x4) fun x5=>
 some x5
def wF (C:aj):Prop:=∀(p0:f5) (p1:bi) (r:bi),rS p0 p1=some r->C 142 [.ptr 0 0,.agg (cGCommand p0)] [[.own 1 (ah cE p1.fb)]]=some (.tup [],[[.own 1 (ah cE r.fb)]])
def sK (p0:jB) (p1:Bool) (p2:bi):Option bi:=
 bif p1 then
  oB (kP p0.jT p2) fun x1=>
  oB (rS p0.bt x1) fun x2=>
  some x2
 else
 some p2
def xw (p0:jB) (p1:bi):Option bi:=
 oB (kP p0.iP p1) fun x1=>
 oB (sK p0 (decide (0<p0.iP)) x1) fun x2=>
 some x2
def GP (C:aj):Prop:=∀(p0:jB) (p1:bi) (r:bi),xw p0 p1=some r->C 135 [.ptr 0 0,.agg (cGCall p0)] [[.own 1 (ah cE p1.fb)]]=some (.tup [],[[.own 1 (ah cE r.fb)]])
def xo (p0:iX) (p1:bi):Option bi:=
 oB (kP p0.iO p1) fun x1=>
 oB (kP p0.i6 x1) fun x2=>
 bif p0.tj then
  oB (ni 1 x2) fun x3=>
  some x3
 else
 oB (ni 0 x2) fun x3=>
 oB (xw p0.iz x3) fun x4=>
 some x4
def HO (C:aj):Prop:=∀(p0:iX) (p1:bi) (r:bi),xo p0 p1=some r->C 104 [.ptr 0 0,.agg (cGItem p0)] [[.own 1 (ah cE p1.fb)]]=some (.tup [],[[.own 1 (ah cE r.fb)]])
def lz (p0:iX):Option ((List Int)×Int):=
 bif ((jn p0)==0) then
  oB (xo p0 (bi.mk [])) fun x1=>
  some (x1.fb,0)
 else
 some ([],(jn p0))
def rg (C:aj):Prop:=∀(p0:iX) (r:(List Int)×Int),lz p0=some r->C 85 [.agg (cGItem p0)] []=some (.tup [.v (.sl 1 (ah cE r.1)),.I r.2],[])
def pS (p0:List ByteArray) (p1:Int) (s:Int×bi):Option ((Int×bi)⊕bi):=
 match s with
 |(p2,p3)=>
  bif decide (p2<p1) then
   oB (idx p0 p2) fun x1=>
   oB (qn x1 p3) fun x2=>
   some (.inl ((IntKind.i64.wrap (p2+1)),x2))
  else
  some (.inr p3)
def uw (p0:List ByteArray) (p1:bi):Option bi:=
 oB (ni (p0.length:Int) p1) fun x1=>
 oB (cM (pS p0 (p0.length:Int)) (0,x1)) fun x2=>
 some x2
def uX (C:aj):Prop:=∀(p0:List ByteArray) (p1:bi) (r:bi),uw p0 p1=some r->C 109 [.ptr 0 0,.v (.sl 1 (ah bY p0))] [[.own 1 (ah cE p1.fb)]]=some (.tup [],[[.own 1 (ah cE r.fb)]])
def qj (p0:ad) (p1:List iw) (p2:Int) (s:Int×bi):Option ((Int×bi)⊕bi):=
 match s with
 |(p3,p4)=>
  bif decide (p3<p2) then
   oB (idx p1 p3) fun x1=>
   oB (qn x1.iv p4) fun x2=>
   oB (qn x1.gi x2) fun x3=>
   some (.inl ((IntKind.i64.wrap (p3+1)),x3))
  else
  some (.inr p4)
def ql (p0:List ae) (p1:Int) (s:Int×bi):Option ((Int×bi)⊕bi):=
 match s with
 |(p2,p3)=>
  bif decide (p2<p1) then
   oB (idx p0 p2) fun x1=>
   oB (qn x1.iU p3) fun x2=>
   oB (kP x1.fN x2) fun x3=>
   some (.inl ((IntKind.i64.wrap (p2+1)),x3))
  else
  some (.inr p3)
def xm (p0:ad) (p1:bi) (x1:bi) (x2:bi) (x3:bi) (x4:bi) (x5:bi):Option bi:=
 oB (uw p0.iG x5) fun x6=>
 oB (ni (p0.cO.length:Int) x6) fun x7=>
 oB (cM (ql p0.cO (p0.cO.length:Int)) (0,x7)) fun x8=>
 some x8
def vH (p0:ad) (p1:bi):Option bi:=
 oB (ni p0.af p1) fun x1=>
 oB (qn p0.gi x1) fun x2=>
 oB (kP p0.i8 x2) fun x3=>
 oB (ni (p0.iD.length:Int) x3) fun x4=>
 oB (cM (qj p0 p0.iD (p0.iD.length:Int)) (0,x4)) fun x5=>
 xm p0 p1 x1 x2 x3 x4 x5
def zw (C:aj):Prop:=∀(p0:ad) (p1:bi) (r:bi),vH p0 p1=some r->C 108 [.ptr 0 0,.agg (cGValue p0)] [[.own 1 (ah cE p1.fb)]]=some (.tup [],[[.own 1 (ah cE r.fb)]])
def mE (p0:cc) (p1:List hM) (p2:Int) (s:Int×bi):Option ((Int×bi)⊕bi):=
 match s with
 |(p3,p4)=>
  bif decide (p3<p2) then
   oB (idx p1 p3) fun x1=>
   oB (qn x1.jj p4) fun x2=>
   oB (vH x1.jG x2) fun x3=>
   oB (kP x1.km x3) fun x4=>
   some (.inl ((IntKind.i64.wrap (p3+1)),x4))
  else
  some (.inr p4)
def qo (p0:List f7) (p1:Int) (p2:Int) (p3:bi) (x1:f7):Option ((Int×bi)⊕bi):=
 oB (kP x1.fId p3) fun x2=>
 oB (kP x1.jT x2) fun x3=>
 oB (kP x1.i6 x3) fun x4=>
 oB (ni x1.jd.ky x4) fun x5=>
 oB (qn x1.jd.gi x5) fun x6=>
 oB (kP x1.jd.fN x6) fun x7=>
 oB (uw x1.jd.jW x7) fun x8=>
 some (.inl ((IntKind.i64.wrap (p2+1)),x8))
def mH (p0:List f7) (p1:Int) (s:Int×bi):Option ((Int×bi)⊕bi):=
 match s with
 |(p2,p3)=>
  bif decide (p2<p1) then
   oB (idx p0 p2) fun x1=>
   qo p0 p1 p2 p3 x1
  else
  some (.inr p3)
def tL (p0:cc) (x1:Int) (x2:bi) (x3:bi) (x4:bi):Option ((List Int)×Int):=
 oB (kP p0.ji x4) fun x5=>
 oB (ni (p0.ir.length:Int) x5) fun x6=>
 oB (cM (mH p0.ir (p0.ir.length:Int)) (0,x6)) fun x7=>
 some (x7.fb,0)
def oe (p0:cc):Option ((List Int)×Int):=
 oB (clC p0) fun x1=>
 bif (x1==0) then
  oB (kP p0.iA.jv (bi.mk [])) fun x2=>
  oB (ni (p0.iA.im.length:Int) x2) fun x3=>
  oB (cM (mE p0 p0.iA.im (p0.iA.im.length:Int)) (0,x3)) fun x4=>
  tL p0 x1 x2 x3 x4
 else
 some ([],x1)
def uM (C:aj):Prop:=∀(p0:cc) (r:(List Int)×Int),oe p0=some r->C 86 [.agg (cGMachine p0)] []=some (.tup [.v (.sl 1 (ah cE r.1)),.I r.2],[])
def ke (p0:Int):Option Unit:=bif decide (0<=p0)&&decide (p0<=140737488355328) then some () else none
def qZ (C:aj):Prop:=∀(p0:Int) (r:Unit),ke p0=some r->C 87 [.own 0 [],.I p0] []=some (.own 1 [],[])
def jL (p0:List (List Int)) (p2:Int) (s:Int×Int):Option ((Int×Int)⊕Int):=
 match s with
 |(p1,p3)=>
  bif decide (p3<p2) then
   oB (idx p0 p3) fun x1=>
   bif decide ((IntKind.i64.wrap (p1+(x1.length:Int)))<0) then
    none
   else
   some (.inl ((IntKind.i64.wrap (p1+(x1.length:Int))),(IntKind.i64.wrap (p3+1))))
  else
  some (.inr p1)
def jx (p0:List (List Int)) (p2:Int) (s:(List Int)×Int):Option (((List Int)×Int)⊕(List Int)):=
 match s with
 |(p1,p3)=>
  bif decide (p3<p2) then
   oB (idx p0 p3) fun x1=>
   bif dh (p1.length+x1.length) 1 then
    some (.inl ((p1++x1),(IntKind.i64.wrap (p3+1))))
   else
   none
  else
  some (.inr p1)
def mM (p0:List (List Int)) (x1:Int):Option (List Int):=
 oB (ke x1) fun _=>
 oB (cM (jx p0 (p0.length:Int)) ([],0)) fun x2=>
 some x2
def jK (p0:List (List Int)):Option (List Int):=
 oB (cM (jL p0 (p0.length:Int)) (0,0)) fun x1=>
 mM p0 x1
def lA (C:aj):Prop:=∀(p0:List (List Int)) (r:(List Int)),jK p0=some r->C 61 [.v (.sl 1 (ah sR p0))] []=some (.own 1 (ah cE r),[])
def rX (p0:iu):Option (List Int):=
 oB (lz p0.iN) fun (x1,x2)=>
 oB (lj p0.jg) fun x3=>
 bif dh (1+x3.length) 1 then
  bif dh ((x3.length+1)+x1.length) 1 then
   some ((2::x3)++x1)
  else
  none
 else
 none
def pQ (p0:iu):Option (List Int):=
 bif (p0.af==2) then
  rX p0
 else
 oB (oe p0.iS.iC) fun (x1,x2)=>
 oB (lj p0.iS.jg) fun x3=>
 oB (lj p0.iS.iO) fun x4=>
 oB (jK [[3],x3,x4,x1]) fun x5=>
 some x5
def lI (p0:iu):Option (List Int):=
 bif (p0.af==1) then
  oB (lj p0.iO) fun x1=>
  bif dh (1+x1.length) 1 then
   bif dh ((x1.length+1)+1) 1 then
    some ((1::x1)++ [(IntKind.u8.wrap (IntKind.i64.wrap (p0.qu+1)))])
   else
   none
  else
  none
 else
 pQ p0
def v6 (C:aj):Prop:=∀(p0:iu) (r:(List Int)),lI p0=some r->C 60 [.agg (cGRecord p0)] []=some (.v (.sl 1 (ah cE r)),[])
def tZ (p0:iK) (p1:iu) (x1:iK) (x2:Bool):Option (iK×Int):=
 bif x2 then
  oB (ns p1) fun x3=>
  bif (x3==0) then
   oB (lI p1) fun x4=>
   bif decide (400000<(IntKind.i64.wrap ((IntKind.i64.wrap ((x1.j9.length:Int)+3))+(x4.length:Int)))) then
    some ((iK.mk [] 0),6)
   else
   oB (lj (x4.length:Int)) fun x5=>
   oB (jK [x1.j9,x5,x4]) fun x6=>
   some ((iK.mk x6 x1.kg),0)
  else
  some ((iK.mk [] 0),x3)
 else
 some ((iK.mk [] 0),13)
def pO (p0:iK) (p1:iu):Option (iK×Int):=
 oB (tD p0) fun (x1,x2)=>
 tZ p0 p1 x1 x2
def uK (C:aj):Prop:=∀(p0:iK) (p1:iu) (r:iK×Int),pO p0 p1=some r->C 20 [.agg (cGTape p0),.agg (cGRecord p1)] []=some (.tup [.agg (cGTape r.1),.I r.2],[])
def Kw (p0:Int) (p1:Int) (p2:Int):Option Bool:=
 bif decide (p1<=p0) then
  some (decide (p0<=p2))
 else
 some false
def i9 (p0:Int) (p1:Int) (p2:Int):Bool:=(decide (p1<=p0)&&decide (p0<=p2))
theorem nQ (p0:Int) (p1:Int) (p2:Int):Kw p0 p1 p2=some (i9 p0 p1 p2):=by
 simp only [Kw,i9]
 cases decide (p1<=p0)<;>rfl
def kS (C:aj):Prop:=∀(p0:Int) (p1:Int) (p2:Int) (r:Bool),Kw p0 p1 p2=some r->C 48 [.I p0,.I p1,.I p2] []=some (.v (.b r),[])
def tI (p0:iK):Option Bool:=
 bif decide ((p0.j9.length:Int)<=400000) then
  some (decide (0<=p0.kg)&&decide (p0.kg<=(p0.j9.length:Int)))
 else
 some false
def pH (p0:iK):Bool:=(decide ((p0.j9.length:Int)<=400000)&&(decide (0<=p0.kg)&&decide (p0.kg<=(p0.j9.length:Int))))
theorem GI (p0:iK):tI p0=some (pH p0):=by
 simp only [tI,pH]
 cases decide ((p0.j9.length:Int)<=400000)<;>rfl
def wl (C:aj):Prop:=∀(p0:iK) (r:Bool),tI p0=some r->C 63 [.agg (cGTape p0)] []=some (.v (.b r),[])
def lm (p0:jr):Bool:=
 bif (p0.jg==0) then
  bif (p0.iO==0) then
   bif (p0.iC.ji==0) then
    bif (p0.iC.iA.jv==0) then
     bif ((p0.iC.iA.im.length:Int)==0) then
      ((p0.iC.ir.length:Int)==0)
     else
     false
    else
    false
   else
   false
  else
  false
 else
 false
def qV (p0:jr):Option Bool:=
 some (lm p0)
def mu (p0:jr):Bool:=(lm p0)
theorem sD (p0:jr):qV p0=some (mu p0):=by
 simp only [qV,mu]
def sH (C:aj):Prop:=∀(p0:jr) (r:Bool),qV p0=some r->C 49 [.agg (cGSnap p0)] []=some (.v (.b r),[])
def qU (p0:Int):Option Bool:=
 some (decide (1<=p0)&&decide (p0<=1048576))
def jl (p0:Int):Bool:=(decide (1<=p0)&&decide (p0<=1048576))
theorem mq (p0:Int):qU p0=some (jl p0):=by
 simp only [qU,jl]
def kc (C:aj):Prop:=∀(p0:Int) (r:Bool),qU p0=some r->C 51 [.I p0] []=some (.v (.b r),[])
def rK (p0:ByteArray):Option Bool:=
 some (decide (1<=(p0.size:Int))&&decide ((p0.size:Int)<=12))
def kz (p0:ByteArray):Bool:=(decide (1<=(p0.size:Int))&&decide ((p0.size:Int)<=12))
theorem rk (p0:ByteArray):rK p0=some (kz p0):=by
 simp only [rK,kz]
def kW (C:aj):Prop:=∀(p0:ByteArray) (r:Bool),rK p0=some r->C 93 [.v (.s p0)] []=some (.v (.b r),[])
def mK (p0:ad):Int:=
 (IntKind.i64.wrap ((IntKind.i64.wrap ((p0.iD.length:Int)+(p0.iG.length:Int)))+(p0.cO.length:Int)))
def wz (p0:ad):Option Int:=some (mK p0)
theorem Iz (p0:ad):wz p0=some (mK p0):=rfl
def vF (C:aj):Prop:=∀(p0:ad) (r:Int),wz p0=some r->C 132 [.agg (cGValue p0)] []=some (.I r,[])
def tG (p0:ByteArray):Option Bool:=
 some (decide ((p0.size:Int)<=20))
def iV (p0:ByteArray):Bool:=decide ((p0.size:Int)<=20)
theorem lO (p0:ByteArray):tG p0=some (iV p0):=by
 simp only [tG,iV]
def kM (C:aj):Prop:=∀(p0:ByteArray) (r:Bool),tG p0=some r->C 95 [.v (.s p0)] []=some (.v (.b r),[])
def sh (p0:Int):Option Bool:=
 some (decide ((-1099511627776)<=p0)&&decide (p0<=1099511627776))
def kp (p0:Int):Bool:=(decide ((-1099511627776)<=p0)&&decide (p0<=1099511627776))
theorem rn (p0:Int):sh p0=some (kp p0):=by
 simp only [sh,kp]
def nl (C:aj):Prop:=∀(p0:Int) (r:Bool),sh p0=some r->C 96 [.I p0] []=some (.v (.b r),[])
def qf (p0:ae) (p1:ae):Option Bool:=
 bif (p0.fN==p1.fN) then
  some (pT p0.iU p1.iU)
 else
 some (decide (p0.fN<p1.fN))
def jH (p0:ae) (p1:ae):Bool:=(bif (p0.fN==p1.fN) then pT p0.iU p1.iU else decide (p0.fN<p1.fN))
theorem Ay (p0:ae) (p1:ae):qf p0 p1=some (jH p0 p1):=by
 simp only [qf,jH]
 cases (p0.fN==p1.fN)<;>rfl
def rm (C:aj):Prop:=∀(p0:ae) (p1:ae) (r:Bool),qf p0 p1=some r->C 133 [.agg (cGScore p0),.agg (cGScore p1)] []=some (.v (.b r),[])
def na (p0:List ae) (p1:ByteArray) (s:Int):Option (Int⊕(Int⊕Unit)):=
 match s with
 |p2=>
  bif decide (p2<(p0.length:Int)) then
   oB (idx p0 p2) fun x1=>
   bif cY x1.iU p1 then
    some (.inr (.inl p2))
   else
   some (.inl (IntKind.i64.wrap (p2+1)))
  else
  some (.inr (.inr ()))
def qS (p0:List ae) (p1:ByteArray):Option Int:=
 oB (cM (na p0 p1) 0) fun
 | .inl x1=>
  some x1
 | .inr _=>
  some (-1)
def vu (C:aj):Prop:=∀(p0:List ae) (p1:ByteArray) (r:Int),qS p0 p1=some r->C 134 [.v (.sl 2 (ah ae.row p0)),.v (.s p1)] []=some (.I r,[])
def nT (p0:ad):Bool:=
 bif (p0.i8==0) then
  bif (p0.af==3) then
   bif (p0.af==6) then
    false
   else
   decide (0<(p0.cO.length:Int))
  else
  bif decide (0<(p0.iD.length:Int)) then
   true
  else
  bif (p0.af==6) then
   false
  else
  decide (0<(p0.cO.length:Int))
 else
 true
def nU (p0:ad):Bool:=
 bif (p0.i8==0) then
  bif (p0.af==3) then
   bif (p0.af==6) then
    false
   else
   decide (0<(p0.cO.length:Int))
  else
  bif decide (0<(p0.iD.length:Int)) then
   true
  else
  bif (p0.af==6) then
   false
  else
  decide (0<(p0.cO.length:Int))
 else
 true
def nY (p0:ad):Bool:=
 bif cY p0.gi ByteArray.empty then
  bif (p0.af==2) then
   bif (p0.af==3) then
    bif (p0.af==6) then
     false
    else
    decide (0<(p0.cO.length:Int))
   else
   bif decide (0<(p0.iD.length:Int)) then
    true
   else
   bif (p0.af==6) then
    false
   else
   decide (0<(p0.cO.length:Int))
  else
  nU p0
 else
 true
def lJ (p0:ad):Bool:=
 bif (p0.af==1) then
  bif (p0.af==2) then
   bif (p0.af==3) then
    bif (p0.af==6) then
     false
    else
    decide (0<(p0.cO.length:Int))
   else
   bif decide (0<(p0.iD.length:Int)) then
    true
   else
   bif (p0.af==6) then
    false
   else
   decide (0<(p0.cO.length:Int))
  else
  nT p0
 else
 nY p0
def jV (p0:ad):Bool:=
 bif decide (3<=p0.af) then
  bif decide (1<=(mK p0)) then
   bif decide ((mK p0)<=20) then
    (!(iV p0.gi))
   else
   true
  else
  true
 else
 (!(iV p0.gi))
def kv (p0:ad) (s:Int):Option (Int⊕(Unit⊕Unit)):=
 match s with
 |p1=>
  bif decide (p1<(p0.iG.length:Int)) then
   oB (idx p0.iG p1) fun x1=>
   bif (iV x1) then
    some (.inl (IntKind.i64.wrap (p1+1)))
   else
   some (.inr (.inl ()))
  else
  some (.inr (.inr ()))
def kZ (p0:ad) (s:Int):Option (Int⊕(Unit⊕Unit)):=
 match s with
 |p1=>
  bif decide (p1<(p0.iD.length:Int)) then
   oB (idx p0.iD p1) fun x1=>
   bif (kz x1.iv) then
    bif (iV x1.gi) then
     some (.inl (IntKind.i64.wrap (p1+1)))
    else
    some (.inr (.inl ()))
   else
   some (.inr (.inl ()))
  else
  some (.inr (.inr ()))
def lh (p0:ad) (s:Int):Option (Int⊕(Unit⊕Unit)):=
 match s with
 |p1=>
  bif decide (p1<(p0.cO.length:Int)) then
   oB (idx p0.cO p1) fun x1=>
   bif (iV x1.iU) then
    some (.inl (IntKind.i64.wrap (p1+1)))
   else
   some (.inr (.inl ()))
  else
  some (.inr (.inr ()))
def kV (p0:ad) (s:Int):Option (Int⊕(Unit⊕Unit)):=
 match s with
 |p1=>
  bif decide (p1<(p0.cO.length:Int)) then
   oB (idx p0.cO p1) fun x1=>
   bif (kp x1.fN) then
    some (.inl (IntKind.i64.wrap (p1+1)))
   else
   some (.inr (.inl ()))
  else
  some (.inr (.inr ()))
def ll (p0:ad) (s:Int):Option (Int⊕(Unit⊕Unit)):=
 match s with
 |p1=>
  bif decide (p1<(p0.iD.length:Int)) then
   oB (idx p0.iD (IntKind.i64.wrap (p1-1))) fun x1=>
   oB (idx p0.iD p1) fun x2=>
   bif pT x1.iv x2.iv then
    some (.inl (IntKind.i64.wrap (p1+1)))
   else
   some (.inr (.inl ()))
  else
  some (.inr (.inr ()))
def jN (p0:ad) (s:Int):Option (Int⊕(Unit⊕Unit)):=
 match s with
 |p1=>
  bif decide (p1<(p0.iG.length:Int)) then
   bif (p0.af==5) then
    oB (idx p0.iG (IntKind.i64.wrap (p1-1))) fun x1=>
    oB (idx p0.iG p1) fun x2=>
    bif pT x1 x2 then
     some (.inl (IntKind.i64.wrap (p1+1)))
    else
    some (.inr (.inl ()))
   else
   some (.inr (.inr ()))
  else
  some (.inr (.inr ()))
def kK (p0:ad) (s:Int):Option (Int⊕(Unit⊕Unit)):=
 match s with
 |p1=>
  bif decide (p1<(p0.cO.length:Int)) then
   oB (idx p0.cO (IntKind.i64.wrap (p1-1))) fun x1=>
   oB (idx p0.cO p1) fun x2=>
   bif (jH x1 x2) then
    bif IA 0 p1 (p0.cO.length:Int) then
     oB (qS (dm p0.cO 0 p1) x2.iU) fun x3=>
     bif decide (0<=x3) then
      some (.inr (.inl ()))
     else
     some (.inl (IntKind.i64.wrap (p1+1)))
    else
    none
   else
   some (.inr (.inl ()))
  else
  some (.inr (.inr ()))
def mV (p0:ad) (p1:Bool):Bool:=
 bif decide (0<(p0.iD.length:Int)) then
  true
 else
 bif p1 then
  bif (p0.af==6) then
   false
  else
  decide (0<(p0.cO.length:Int))
 else
 bif decide (0<(p0.iG.length:Int)) then
  true
 else
 bif (p0.af==6) then
  false
 else
 decide (0<(p0.cO.length:Int))
def m4 (p0:ad) (p1:Bool):Bool:=
 bif decide (0<(p0.iD.length:Int)) then
  true
 else
 bif p1 then
  bif (p0.af==6) then
   false
  else
  decide (0<(p0.cO.length:Int))
 else
 bif decide (0<(p0.iG.length:Int)) then
  true
 else
 bif (p0.af==6) then
  false
 else
 decide (0<(p0.cO.length:Int))
def m3 (p0:ad) (p1:Bool):Bool:=
 bif (p0.i8==0) then
  bif (p0.af==3) then
   bif p1 then
    bif (p0.af==6) then
     false
    else
    decide (0<(p0.cO.length:Int))
   else
   bif decide (0<(p0.iG.length:Int)) then
    true
   else
   bif (p0.af==6) then
    false
   else
   decide (0<(p0.cO.length:Int))
  else
  m4 p0 p1
 else
 true
def mY (p0:ad) (p1:Bool):Bool:=
 bif decide (0<(p0.iD.length:Int)) then
  true
 else
 bif p1 then
  bif (p0.af==6) then
   false
  else
  decide (0<(p0.cO.length:Int))
 else
 bif decide (0<(p0.iG.length:Int)) then
  true
 else
 bif (p0.af==6) then
  false
 else
 decide (0<(p0.cO.length:Int))
def mU (p0:ad) (p1:Bool):Bool:=
 bif decide (0<(p0.iD.length:Int)) then
  true
 else
 bif p1 then
  bif (p0.af==6) then
   false
  else
  decide (0<(p0.cO.length:Int))
 else
 bif decide (0<(p0.iG.length:Int)) then
  true
 else
 bif (p0.af==6) then
  false
 else
 decide (0<(p0.cO.length:Int))
def m5 (p0:ad) (p1:Bool):Bool:=
 bif (p0.i8==0) then
  bif (p0.af==3) then
   bif p1 then
    bif (p0.af==6) then
     false
    else
    decide (0<(p0.cO.length:Int))
   else
   bif decide (0<(p0.iG.length:Int)) then
    true
   else
   bif (p0.af==6) then
    false
   else
   decide (0<(p0.cO.length:Int))
  else
  mU p0 p1
 else
 true
def mZ (p0:ad) (p1:Bool):Bool:=
 bif cY p0.gi ByteArray.empty then
  bif (p0.af==2) then
   bif (p0.af==3) then
    bif p1 then
     bif (p0.af==6) then
      false
     else
     decide (0<(p0.cO.length:Int))
    else
    bif decide (0<(p0.iG.length:Int)) then
     true
    else
    bif (p0.af==6) then
     false
    else
    decide (0<(p0.cO.length:Int))
   else
   mY p0 p1
  else
  m5 p0 p1
 else
 true
def kX (p0:ad) (p1:Bool):Bool:=
 bif (p0.af==1) then
  bif (p0.af==2) then
   bif (p0.af==3) then
    bif p1 then
     bif (p0.af==6) then
      false
     else
     decide (0<(p0.cO.length:Int))
    else
    bif decide (0<(p0.iG.length:Int)) then
     true
    else
    bif (p0.af==6) then
     false
    else
    decide (0<(p0.cO.length:Int))
   else
   mV p0 p1
  else
  m3 p0 p1
 else
 mZ p0 p1
def td (p0:ad):Option Int:=
 oB (cM (kK p0) 1) fun
 | .inl _=>
  some 10
 | .inr _=>
  some 0
def tb (p0:ad):Option Int:=
 oB (cM (jN p0) 1) fun
 | .inl _=>
  some 10
 | .inr _=>
  td p0
def ta (p0:ad):Option Int:=
 oB (cM (ll p0) 1) fun
 | .inl _=>
  some 10
 | .inr _=>
  tb p0
def ti (p0:ad):Option Int:=
 bif (kp p0.i8) then
  oB (cM (kV p0) 0) fun
  | .inl _=>
   some 2
  | .inr _=>
   ta p0
 else
 some 2
def tn (p0:ad):Option Int:=
 oB (cM (lh p0) 0) fun
 | .inl _=>
  some 1
 | .inr _=>
  ti p0
def oO (p0:ad):Option Int:=
 oB (cM (kZ p0) 0) fun
 | .inl _=>
  some 1
 | .inr _=>
  tn p0
def vW (p0:ad):Option Int:=
 oB (cM (kK p0) 1) fun
 | .inl _=>
  some 10
 | .inr _=>
  some 0
def vU (p0:ad):Option Int:=
 oB (cM (jN p0) 1) fun
 | .inl _=>
  some 10
 | .inr _=>
  vW p0
def vZ (p0:ad):Option Int:=
 oB (cM (ll p0) 1) fun
 | .inl _=>
  some 10
 | .inr _=>
  vU p0
def vN (p0:ad):Option Int:=
 bif (kp p0.i8) then
  oB (cM (kV p0) 0) fun
  | .inl _=>
   some 2
  | .inr _=>
   vZ p0
 else
 some 2
def uT (p0:ad):Option Int:=
 oB (cM (lh p0) 0) fun
 | .inl _=>
  some 1
 | .inr _=>
  vN p0
def sa (p0:ad):Option Int:=
 oB (cM (kZ p0) 0) fun
 | .inl _=>
  some 1
 | .inr _=>
  uT p0
def sn (p0:ad):Option Int:=
 bif (lJ p0) then
  some 8
 else
 bif (jV p0) then
  some 1
 else
 oB (cM (kv p0) 0) fun
 | .inl _=>
  some 1
 | .inr _=>
  oO p0
def ou (p0:ad):Option Int:=
 bif decide (1<=p0.af) then
  bif decide (p0.af<=6) then
   bif (p0.af==4) then
    sn p0
   else
   bif (kX p0 (p0.af==5)) then
    some 8
   else
   bif (jV p0) then
    some 1
   else
   oB (cM (kv p0) 0) fun
   | .inl _=>
    some 1
   | .inr _=>
    sa p0
  else
  some 3
 else
 some 3
def rj (C:aj):Prop:=∀(p0:ad) (r:Int),ou p0=some r->C 94 [.agg (cGValue p0)] []=some (.I r,[])
def kL (p0:iE):Bool:=
 bif decide (0<=p0.jv) then
  bif decide (p0.jv<=1073741824) then
   decide (12<(p0.im.length:Int))
  else
  true
 else
 true
def lK (p0:iE) (p1:Int) (p2:hM):Option Bool:=
 bif (kz p2.jj) then
  oB (ou p2.jG) fun x1=>
  bif (x1==0) then
   bif decide (0<p1) then
    oB (idx p0.im (IntKind.i64.wrap (p1-1))) fun x2=>
    some (!pT x2.jj p2.jj)
   else
   some false
  else
  some true
 else
 some true
def lk (p0:iE) (p1:Int) (p2:hM):Bool:=
 bif (p2.km==0) then
  false
 else
 bif decide (0<=p2.km) then
  bif decide (p2.km<=1073741824) then
   decide (p2.km<=p0.jv)
  else
  true
 else
 true
def lU (p0:iE) (s:Int):Option (Int⊕(hM⊕Unit)):=
 match s with
 |p1=>
  bif decide (p1<(p0.im.length:Int)) then
   oB (idx p0.im p1) fun x1=>
   oB (lK p0 p1 x1) fun x2=>
   bif x2 then
    some (.inr (.inl x1))
   else
   bif (lk p0 p1 x1) then
    some (.inr (.inl x1))
   else
   some (.inl (IntKind.i64.wrap (p1+1)))
  else
  some (.inr (.inr ()))
def oD (p0:iE):Option Int:=
 bif (kL p0) then
  some 13
 else
 oB (cM (lU p0) 0) fun
 | .inl x1=>
  some 13
 | .inr _=>
  some 0
def rD (C:aj):Prop:=∀(p0:iE) (r:Int),oD p0=some r->C 73 [.agg (cGStore p0)] []=some (.I r,[])
def lS (p0:iM) (s:Int):Option (Int⊕(Unit⊕Unit)):=
 match s with
 |p1=>
  bif decide (p1<(p0.jW.length:Int)) then
   oB (idx p0.jW p1) fun x1=>
   bif (iV x1) then
    some (.inl (IntKind.i64.wrap (p1+1)))
   else
   some (.inr (.inl ()))
  else
  some (.inr (.inr ()))
def np (p0:iM):Option Int:=
 bif decide (0<=p0.ky) then
  bif decide (p0.ky<=13) then
   bif (iV p0.gi) then
    bif decide (20<(p0.jW.length:Int)) then
     some 1
    else
    oB (cM (lS p0) 0) fun
    | .inl _=>
     some 1
    | .inr _=>
     bif (kp p0.fN) then
      some 0
     else
     some 2
   else
   some 1
  else
  some 3
 else
 some 3
def rz (C:aj):Prop:=∀(p0:iM) (r:Int),np p0=some r->C 74 [.agg (cGReply p0)] []=some (.I r,[])
def lL (p0:cc):Option Bool:=
 oB (oD p0.iA) fun x1=>
 bif (x1==0) then
  bif decide (1<=p0.ji) then
   bif decide (p0.ji<=1048577) then
    some (decide (4<(p0.ir.length:Int)))
   else
   some true
  else
  some true
 else
 some true
def m0 (p0:cc) (p1:Int) (p2:f7):Option Bool:=
 oB (idx p0.ir (IntKind.i64.wrap (p1-1))) fun x1=>
 bif decide (p2.fId<=x1.fId) then
  some true
 else
 bif decide (0<=p2.jT) then
  bif decide (p2.jT<=1048576) then
   bif decide (0<=p2.i6) then
    bif decide (p2.i6<=p0.iA.jv) then
     oB (np p2.jd) fun x2=>
     some (!(x2==0))
    else
    some true
   else
   some true
  else
  some true
 else
 some true
def m6 (p0:cc) (p1:Int) (p2:f7):Option Bool:=
 bif decide (p0.ji<=p2.fId) then
  some true
 else
 bif decide (0<p1) then
  m0 p0 p1 p2
 else
 bif decide (0<=p2.jT) then
  bif decide (p2.jT<=1048576) then
   bif decide (0<=p2.i6) then
    bif decide (p2.i6<=p0.iA.jv) then
     oB (np p2.jd) fun x1=>
     some (!(x1==0))
    else
    some true
   else
   some true
  else
  some true
 else
 some true
def lc (p0:cc) (p1:Int) (p2:f7):Option Bool:=
 bif (jl p2.fId) then
  m6 p0 p1 p2
 else
 some true
def lr (p0:cc) (s:Int):Option (Int⊕(f7⊕Unit)):=
 match s with
 |p1=>
  bif decide (p1<(p0.ir.length:Int)) then
   oB (idx p0.ir p1) fun x1=>
   oB (lc p0 p1 x1) fun x2=>
   bif x2 then
    some (.inr (.inl x1))
   else
   some (.inl (IntKind.i64.wrap (p1+1)))
  else
  some (.inr (.inr ()))
def mP (p0:cc):Option Int:=
 oB (lL p0) fun x1=>
 bif x1 then
  some 13
 else
 oB (cM (lr p0) 0) fun
 | .inl x2=>
  some 13
 | .inr _=>
  some 0
def vj (C:aj):Prop:=∀(p0:cc) (r:Int),mP p0=some r->C 41 [.agg (cGMachine p0)] []=some (.I r,[])
def pE (p0:jr):Option Int:=
 bif (jl p0.jg) then
  bif (jl p0.iO) then
   oB (mP p0.iC) fun x1=>
   some x1
  else
  some 2
 else
 some 2
def uL (C:aj):Prop:=∀(p0:jr) (r:Int),pE p0=some r->C 50 [.agg (cGSnap p0)] []=some (.I r,[])
def i5 (p0:f5):Bool:=
 bif (p0.af==1) then
  true
 else
 bif (p0.af==4) then
  true
 else
 bif (p0.af==7) then
  true
 else
 bif (p0.af==8) then
  true
 else
 (decide (11<=p0.af)&&decide (p0.af<=16))
def jY (p0:f5) (p1:Bool) (p2:Bool):Bool:=
 bif (p0.af==3) then
  true
 else
 bif (p0.af==14) then
  true
 else
 (p0.af==20)
def mT (p0:f5) (p1:Bool) (p2:Bool) (p3:Bool) (p4:Bool):Bool:=
 bif cY p0.iv ByteArray.empty then
  bif p3 then
   bif p4 then
    false
   else
   (!cY p0.jj ByteArray.empty)
  else
  bif (p0.fN==0) then
   bif p4 then
    false
   else
   (!cY p0.jj ByteArray.empty)
  else
  true
 else
 true
def mS (p0:f5) (p1:Bool) (p2:Bool) (p3:Bool) (p4:Bool):Bool:=
 bif cY p0.iv ByteArray.empty then
  bif p3 then
   bif p4 then
    false
   else
   (!cY p0.jj ByteArray.empty)
  else
  bif (p0.fN==0) then
   bif p4 then
    false
   else
   (!cY p0.jj ByteArray.empty)
  else
  true
 else
 true
def mW (p0:f5) (p1:Bool) (p2:Bool) (p3:Bool) (p4:Bool):Bool:=
 bif cY p0.gi ByteArray.empty then
  bif p2 then
   bif p3 then
    bif p4 then
     false
    else
    (!cY p0.jj ByteArray.empty)
   else
   bif (p0.fN==0) then
    bif p4 then
     false
    else
    (!cY p0.jj ByteArray.empty)
   else
   true
  else
  mS p0 p1 p2 p3 p4
 else
 true
def kU (p0:f5) (p1:Bool) (p2:Bool) (p3:Bool) (p4:Bool):Bool:=
 bif p1 then
  bif p2 then
   bif p3 then
    bif p4 then
     false
    else
    (!cY p0.jj ByteArray.empty)
   else
   bif (p0.fN==0) then
    bif p4 then
     false
    else
    (!cY p0.jj ByteArray.empty)
   else
   true
  else
  mT p0 p1 p2 p3 p4
 else
 mW p0 p1 p2 p3 p4
def lf (p0:f5) (p1:Bool) (p2:Bool):Bool:=
 bif p2 then
  bif (kz p0.jj) then
   bif p1 then
    bif (kz p0.iv) then
     (!(iV p0.gi))
    else
    true
   else
   (!(iV p0.gi))
  else
  true
 else
 bif p1 then
  bif (kz p0.iv) then
   (!(iV p0.gi))
  else
  true
 else
 (!(iV p0.gi))
def mD (p0:f5):Int:=
 bif decide (1<=p0.af) then
  bif decide (p0.af<=22) then
   bif (kU p0 (i5 p0) (decide (4<=p0.af)&&decide (p0.af<=6)) (jY p0 (i5 p0) (decide (4<=p0.af)&&decide (p0.af<=6))) (!(p0.af==22))) then
    8
   else
   bif (lf p0 (decide (4<=p0.af)&&decide (p0.af<=6)) (!(p0.af==22))) then
    1
   else
   bif (kp p0.fN) then
    0
   else
   2
  else
  3
 else
 3
def pB (p0:f5):Option Int:=some (mD p0)
theorem yK (p0:f5):pB p0=some (mD p0):=rfl
def uZ (C:aj):Prop:=∀(p0:f5) (r:Int),pB p0=some r->C 99 [.agg (cGCommand p0)] []=some (.I r,[])
def rT (p0:jB):Int:=
 bif (p0.jT==0) then
  bif (p0.bt.af==0) then
   bif cY p0.bt.jj ByteArray.empty then
    bif cY p0.bt.iv ByteArray.empty then
     bif cY p0.bt.gi ByteArray.empty then
      bif (p0.bt.fN==0) then
       0
      else
      8
     else
     8
    else
    8
   else
   8
  else
  8
 else
 8
def oT (p0:jB):Int:=
 bif (p0.iP==0) then
  rT p0
 else
 bif (jl p0.iP) then
  bif (jl p0.jT) then
   (mD p0.bt)
  else
  2
 else
 2
def sV (p0:jB):Option Int:=some (oT p0)
theorem Ca (p0:jB):sV p0=some (oT p0):=rfl
def xe (C:aj):Prop:=∀(p0:jB) (r:Int),sV p0=some r->C 78 [.agg (cGCall p0)] []=some (.I r,[])
def rW (p0:iX):Int:=
 bif (p0.iz.iP==0) then
  bif (p0.iz.jT==0) then
   bif (p0.iz.bt.af==0) then
    bif cY p0.iz.bt.jj ByteArray.empty then
     bif cY p0.iz.bt.iv ByteArray.empty then
      bif cY p0.iz.bt.gi ByteArray.empty then
       bif (p0.iz.bt.fN==0) then
        0
       else
       8
      else
      8
     else
     8
    else
    8
   else
   8
  else
  8
 else
 8
def oR (p0:iX):Int:=
 bif (jl p0.iO) then
  bif decide (0<=p0.i6) then
   bif decide (p0.i6<=1073741824) then
    bif p0.tj then
     rW p0
    else
    (oT p0.iz)
   else
   2
  else
  2
 else
 2
def sL (p0:iX):Option Int:=some (oR p0)
theorem Ce (p0:iX):sL p0=some (oR p0):=rfl
def xf (C:aj):Prop:=∀(p0:iX) (r:Int),sL p0=some r->C 52 [.agg (cGItem p0)] []=some (.I r,[])
def nE (p0:iu):Bool:=
 bif (p0.iN.iz.jT==0) then
  bif (p0.iN.iz.bt.af==0) then
   bif cY p0.iN.iz.bt.jj ByteArray.empty then
    bif cY p0.iN.iz.bt.iv ByteArray.empty then
     bif cY p0.iN.iz.bt.gi ByteArray.empty then
      bif (p0.iN.iz.bt.fN==0) then
       bif (p0.af==3) then
        false
       else
       (!(mu p0.iS))
      else
      true
     else
     true
    else
    true
   else
   true
  else
  true
 else
 true
def nu (p0:iu):Bool:=
 bif (p0.iN.iz.jT==0) then
  bif (p0.iN.iz.bt.af==0) then
   bif cY p0.iN.iz.bt.jj ByteArray.empty then
    bif cY p0.iN.iz.bt.iv ByteArray.empty then
     bif cY p0.iN.iz.bt.gi ByteArray.empty then
      bif (p0.iN.iz.bt.fN==0) then
       bif (p0.af==3) then
        false
       else
       (!(mu p0.iS))
      else
      true
     else
     true
    else
    true
   else
   true
  else
  true
 else
 true
def ny (p0:iu):Bool:=
 bif (p0.af==2) then
  bif (p0.af==3) then
   false
  else
  (!(mu p0.iS))
 else
 bif (p0.jg==0) then
  bif (p0.iN.iO==0) then
   bif (p0.iN.i6==0) then
    bif p0.iN.tj then
     true
    else
    bif (p0.iN.iz.iP==0) then
     nu p0
    else
    true
   else
   true
  else
  true
 else
 true
def nC (p0:iu):Bool:=
 bif (p0.af==2) then
  bif (p0.af==3) then
   false
  else
  (!(mu p0.iS))
 else
 bif (p0.jg==0) then
  bif (p0.iN.iO==0) then
   bif (p0.iN.i6==0) then
    bif p0.iN.tj then
     true
    else
    bif (p0.iN.iz.iP==0) then
     nE p0
    else
    true
   else
   true
  else
  true
 else
 true
def kf (p0:iu):Bool:=
 bif (p0.af==1) then
  nC p0
 else
 bif (p0.iO==0) then
  bif (p0.qu==0) then
   ny p0
  else
  true
 else
 true
def rM (p0:iu):Option Int:=
 bif (p0.af==3) then
  oB (pE p0.iS) fun x1=>
  some x1
 else
 bif (p0.af==1) then
  bif (jl p0.iO) then
   bif decide ((-1)<=p0.qu) then
    bif decide (p0.qu<=2) then
     some 0
    else
    some 2
   else
   some 2
  else
  some 2
 else
 bif (jl p0.jg) then
  some (oR p0.iN)
 else
 some 2
def nv (p0:iu):Option Int:=
 bif decide (1<=p0.af) then
  bif decide (p0.af<=3) then
   bif (kf p0) then
    some 8
   else
   rM p0
  else
  some 3
 else
 some 3
def sW (C:aj):Prop:=∀(p0:iu) (r:Int),nv p0=some r->C 13 [.agg (cGRecord p0)] []=some (.I r,[])
def pG (p0:Int):Option (List Int):=
 some [(IntKind.u8.wrap (IntKind.i64.wrap (Int.tdiv p0 65536))),(IntKind.u8.wrap (Int.tmod (IntKind.i64.wrap (Int.tdiv p0 256)) 256)),(IntKind.u8.wrap (Int.tmod p0 256))]
def ua (C:aj):Prop:=∀(p0:Int) (r:(List Int)),pG p0=some r->C 66 [.I p0] []=some (.own 1 (ah cE r),[])
def oX (p0:List Int) (p1:List Int) (s:(List Int)×Int):Option (((List Int)×Int)⊕(List Int)):=
 match s with
 |(p2,p3)=>
  bif decide (p3<(p0.length:Int)) then
   oB (idx p0 p3) fun x1=>
   bif dh (p2.length+1) 1 then
    some (.inl ((p2++ [x1]),(IntKind.i64.wrap (p3+1))))
   else
   none
  else
  some (.inr p2)
def oU (p0:List Int) (s:(List Int)×Int):Option (((List Int)×Int)⊕(List Int)):=
 match s with
 |(p1,p2)=>
  bif decide (p2<(p0.length:Int)) then
   oB (idx p0 p2) fun x1=>
   bif dh (p1.length+1) 1 then
    some (.inl ((p1++ [x1]),(IntKind.i64.wrap (p2+1))))
   else
   none
  else
  some (.inr p1)
def je (p0:List Int) (p1:List Int):Option (List Int):=
 oB (cM (oX p0 p1) ([],0)) fun x1=>
 oB (cM (oU p1) (x1,0)) fun x2=>
 some x2
def jS (C:aj):Prop:=∀(p0:List Int) (p1:List Int) (r:(List Int)),je p0 p1=some r->C 65 [.v (.sl 1 (ah cE p0)),.v (.sl 1 (ah cE p1))] []=some (.own 1 (ah cE r),[])
def oh  (s:Int×(List Int)×Int):Option ((Int×(List Int)×Int)⊕(List Int)):=
 match s with
 |(p0,p1,p2)=>
  bif decide (0<=p2) then
   bif ltB p2 (p1.length:Int) then
    oB (idx p1 p2) fun x1=>
    some (.inl ((IntKind.i64.wrap (Int.tdiv p0 256)),(ud p1 p2 (IntKind.u8.wrap (Int.tmod p0 256))),(IntKind.i64.wrap (p2-1))))
   else
   none
  else
  some (.inr p1)
def lV (p0:Int):Option (List Int):=
 oB (cM (oh) ((IntKind.i64.wrap (p0+4611686018427387904)),(List.replicate (8:Int).toNat 0),7)) fun x1=>
 some x1
def pb (C:aj):Prop:=∀(p0:Int) (r:(List Int)),lV p0=some r->C 110 [.I p0] []=some (.own 1 (ah cE r),[])
def kd (p0:ByteArray):Option (List Int):=
 oB (je [(IntKind.u8.wrap (p0.size:Int))] (byL p0)) fun x1=>
 some x1
def kb (C:aj):Prop:=∀(p0:ByteArray) (r:(List Int)),kd p0=some r->C 111 [.v (.s p0)] []=some (.own 1 (ah cE r),[])
def ue (p0:iX) (x1:List Int) (x2:List Int) (x3:List Int) (x4:List Int) (x5:List Int) (x6:List Int) (x7:List Int) (x8:List Int):Option (List Int):=
 oB (je (x7++ [(IntKind.u8.wrap p0.iz.bt.af)]) x8) fun x9=>
 oB (kd p0.iz.bt.iv) fun x10=>
 oB (je x9 x10) fun x11=>
 oB (kd p0.iz.bt.gi) fun x12=>
 oB (je x11 x12) fun x13=>
 oB (lV p0.iz.bt.fN) fun x14=>
 oB (je x13 x14) fun x15=>
 some x15
def tQ (p0:iX) (x1:List Int) (x2:List Int) (x3:List Int):Option (List Int):=
 oB (lV p0.iz.iP) fun x4=>
 oB (je (x3++ [0]) x4) fun x5=>
 bif (p0.iz.iP==0) then
  some x5
 else
 oB (lV p0.iz.jT) fun x6=>
 oB (je x5 x6) fun x7=>
 bif dh (x7.length+1) 1 then
  oB (kd p0.iz.bt.jj) fun x8=>
  ue p0 x1 x2 x3 x4 x5 x6 x7 x8
 else
 none
def pI (p0:iX):Option (List Int):=
 oB (lV p0.iO) fun x1=>
 oB (lV p0.i6) fun x2=>
 oB (je x1 x2) fun x3=>
 bif p0.tj then
  bif dh (x3.length+1) 1 then
   some (x3++ [1])
  else
  none
 else
 bif dh (x3.length+1) 1 then
  tQ p0 x1 x2 x3
 else
 none
def uE (C:aj):Prop:=∀(p0:iX) (r:(List Int)),pI p0=some r->C 88 [.agg (cGItem p0)] []=some (.own 1 (ah cE r),[])
def mz (p0:List ByteArray) (s:(List Int)×Int):Option (((List Int)×Int)⊕(List Int)):=
 match s with
 |(p1,p2)=>
  bif decide (p2<(p0.length:Int)) then
   oB (idx p0 p2) fun x1=>
   oB (kd x1) fun x2=>
   oB (je p1 x2) fun x3=>
   some (.inl (x3,(IntKind.i64.wrap (p2+1))))
  else
  some (.inr p1)
def od (p0:List ByteArray):Option (List Int):=
 oB (cM (mz p0) ([(IntKind.u8.wrap (p0.length:Int))],0)) fun x1=>
 some x1
def qz (C:aj):Prop:=∀(p0:List ByteArray) (r:(List Int)),od p0=some r->C 113 [.v (.sl 1 (ah bY p0))] []=some (.own 1 (ah cE r),[])
def l9 (p0:ad) (s:(List Int)×Int):Option (((List Int)×Int)⊕(List Int)):=
 match s with
 |(p1,p2)=>
  bif decide (p2<(p0.iD.length:Int)) then
   oB (idx p0.iD p2) fun x1=>
   oB (kd x1.iv) fun x2=>
   oB (je p1 x2) fun x3=>
   oB (kd x1.gi) fun x4=>
   oB (je x3 x4) fun x5=>
   some (.inl (x5,(IntKind.i64.wrap (p2+1))))
  else
  some (.inr p1)
def lZ (p0:ad) (s:(List Int)×Int):Option (((List Int)×Int)⊕(List Int)):=
 match s with
 |(p1,p2)=>
  bif decide (p2<(p0.cO.length:Int)) then
   oB (idx p0.cO p2) fun x1=>
   oB (kd x1.iU) fun x2=>
   oB (je p1 x2) fun x3=>
   oB (lV x1.fN) fun x4=>
   oB (je x3 x4) fun x5=>
   some (.inl (x5,(IntKind.i64.wrap (p2+1))))
  else
  some (.inr p1)
def tf (p0:ad) (x1:List Int) (x2:List Int) (x3:List Int) (x4:List Int):Option (List Int):=
 oB (od p0.iG) fun x5=>
 oB (je x4 x5) fun x6=>
 bif dh (x6.length+1) 1 then
  oB (cM (lZ p0) ((x6++ [(IntKind.u8.wrap (p0.cO.length:Int))]),0)) fun x7=>
  some x7
 else
 none
def og (p0:ad):Option (List Int):=
 oB (kd p0.gi) fun x1=>
 bif dh (1+x1.length) 1 then
  oB (lV p0.i8) fun x2=>
  oB (je ((IntKind.u8.wrap p0.af)::x1) x2) fun x3=>
  bif dh (x3.length+1) 1 then
   oB (cM (l9 p0) ((x3++ [(IntKind.u8.wrap (p0.iD.length:Int))]),0)) fun x4=>
   tf p0 x1 x2 x3 x4
  else
  none
 else
 none
def uf (C:aj):Prop:=∀(p0:ad) (r:(List Int)),og p0=some r->C 112 [.agg (cGValue p0)] []=some (.own 1 (ah cE r),[])
def oz (p0:cc) (p1:List Int) (p2:Int):Option (((List Int)×Int)⊕(List Int)):=
 oB (idx p0.iA.im p2) fun x1=>
 oB (kd x1.jj) fun x2=>
 oB (je p1 x2) fun x3=>
 oB (og x1.jG) fun x4=>
 oB (je x3 x4) fun x5=>
 oB (lV x1.km) fun x6=>
 oB (je x5 x6) fun x7=>
 some (.inl (x7,(IntKind.i64.wrap (p2+1))))
def ln (p0:cc) (s:(List Int)×Int):Option (((List Int)×Int)⊕(List Int)):=
 match s with
 |(p1,p2)=>
  bif decide (p2<(p0.iA.im.length:Int)) then
   oz p0 p1 p2
  else
  some (.inr p1)
def om (p0:cc) (p1:List Int) (p2:Int) (x1:f7) (x2:List Int) (x3:List Int) (x4:List Int) (x5:List Int) (x6:List Int) (x7:List Int):Option (((List Int)×Int)⊕(List Int)):=
 bif dh (x7.length+1) 1 then
  oB (kd x1.jd.gi) fun x8=>
  oB (je (x7++ [(IntKind.u8.wrap x1.jd.ky)]) x8) fun x9=>
  oB (lV x1.jd.fN) fun x10=>
  oB (je x9 x10) fun x11=>
  oB (od x1.jd.jW) fun x12=>
  oB (je x11 x12) fun x13=>
  some (.inl (x13,(IntKind.i64.wrap (p2+1))))
 else
 none
def oA (p0:cc) (p1:List Int) (p2:Int):Option (((List Int)×Int)⊕(List Int)):=
 oB (idx p0.ir p2) fun x1=>
 oB (lV x1.fId) fun x2=>
 oB (je p1 x2) fun x3=>
 oB (lV x1.jT) fun x4=>
 oB (je x3 x4) fun x5=>
 oB (lV x1.i6) fun x6=>
 oB (je x5 x6) fun x7=>
 om p0 p1 p2 x1 x2 x3 x4 x5 x6 x7
def ls (p0:cc) (s:(List Int)×Int):Option (((List Int)×Int)⊕(List Int)):=
 match s with
 |(p1,p2)=>
  bif decide (p2<(p0.ir.length:Int)) then
   oA p0 p1 p2
  else
  some (.inr p1)
def ry (p0:cc) (x1:List Int) (x2:List Int):Option (List Int):=
 oB (lV p0.ji) fun x3=>
 oB (je x2 x3) fun x4=>
 bif dh (x4.length+1) 1 then
  oB (cM (ls p0) ((x4++ [(IntKind.u8.wrap (p0.ir.length:Int))]),0)) fun x5=>
  some x5
 else
 none
def mN (p0:cc):Option (List Int):=
 oB (lV p0.iA.jv) fun x1=>
 bif dh (x1.length+1) 1 then
  oB (cM (ln p0) ((x1++ [(IntKind.u8.wrap (p0.iA.im.length:Int))]),0)) fun x2=>
  ry p0 x1 x2
 else
 none
def vh (C:aj):Prop:=∀(p0:cc) (r:(List Int)),mN p0=some r->C 89 [.agg (cGMachine p0)] []=some (.own 1 (ah cE r),[])
def sm (p0:iu):Option (List Int):=
 oB (pG p0.iS.jg) fun x1=>
 oB (je [3] x1) fun x2=>
 oB (pG p0.iS.iO) fun x3=>
 oB (je x2 x3) fun x4=>
 oB (mN p0.iS.iC) fun x5=>
 oB (je x4 x5) fun x6=>
 some x6
def qg (p0:iu):Option (List Int):=
 bif (p0.af==2) then
  oB (pG p0.jg) fun x1=>
  oB (je [2] x1) fun x2=>
  oB (pI p0.iN) fun x3=>
  oB (je x2 x3) fun x4=>
  some x4
 else
 sm p0
def lH (p0:iu):Option (List Int):=
 bif (p0.af==1) then
  oB (pG p0.iO) fun x1=>
  oB (je [1] x1) fun x2=>
  bif dh (x2.length+1) 1 then
   some (x2++ [(IntKind.u8.wrap (IntKind.i64.wrap (p0.qu+1)))])
  else
  none
 else
 qg p0
def v4 (C:aj):Prop:=∀(p0:iu) (r:(List Int)),lH p0=some r->C 64 [.agg (cGRecord p0)] []=some (.own 1 (ah cE r),[])
def re (p0:iK) (p1:iu):Option (iK×Int):=
 oB (nv p1) fun x1=>
 bif (x1==0) then
  oB (lH p1) fun x2=>
  oB (pG (x2.length:Int)) fun x3=>
  oB (je x3 x2) fun x4=>
  bif decide (400000<(IntKind.i64.wrap ((p0.j9.length:Int)+(x4.length:Int)))) then
   some ((iK.mk [] 0),6)
  else
  oB (je p0.j9 x4) fun x5=>
  some ((iK.mk x5 p0.kg),0)
 else
 some ((iK.mk [] 0),x1)
def mO (p0:iK) (p1:iu):Option (iK×Int):=
 bif (pH p0) then
  re p0 p1
 else
 some ((iK.mk [] 0),13)
def sj (C:aj):Prop:=∀(p0:iK) (p1:iu) (r:iK×Int),mO p0 p1=some r->C 21 [.agg (cGTape p0),.agg (cGRecord p1)] []=some (.tup [.agg (cGTape r.1),.I r.2],[])
def pz (p0:iK) (p1:iK):Option Bool:=
 bif (p0.kg==p1.kg) then
  bif oi p0.j9 then
   bif oi p1.j9 then
    some (cY (Pq p0.j9) (Pq p1.j9))
   else
   none
  else
  none
 else
 some false
def vo (C:aj):Prop:=∀(p0:iK) (p1:iK) (r:Bool),pz p0 p1=some r->C 22 [.agg (cGTape p0),.agg (cGTape p1)] []=some (.v (.b r),[])
def nL (p0:iK) (p1:Int) (p2:Int) (p3:iK) (p4:iK) (p5:iK):Option Bool:=
 bif (p1==p2) then
  oB (pz p4 p5) fun x1=>
  bif x1 then
   oB (pz p3 p0) fun x2=>
   some x2
  else
  some false
 else
 some false
def sE (p0:iK) (p1:iu):Option Bool:=
 oB (sc p0) fun x1=>
 oB (qP p1) fun x2=>
 oB (pO x1 x2) fun (x3,x4)=>
 oB (mO p0 p1) fun (x5,x6)=>
 oB (nL p0 x4 x6 x1 x3 x5) fun x7=>
 some x7
end Go.Proofs.Ytgcglmoogaldbaa
