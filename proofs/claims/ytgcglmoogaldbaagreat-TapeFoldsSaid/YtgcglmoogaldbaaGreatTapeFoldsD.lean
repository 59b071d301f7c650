/- What the functions that the law TapeFolds reaches compute, as plain functions; no condition. -/
import Derived.Test.YtgcglmoogaldbaaGreatWTy
set_option linter.unusedSimpArgs false
set_option linter.unusedVariables false
set_option linter.constructorNameAsVariable false
set_option linter.unnecessarySimpa false
noncomputable section
namespace Go.Proofs.YtgcglmoogaldbaaGreat
open Go Go.Mx Go.Proofs
def mP (p0:ae) (s:Int×ae):Option ((Int×ae)⊕ae):=
 match s with
 |(p1,p2)=>
  bif decide (p1<(p0.iz.length:Int)) then
   oB (idx p0.iz p1) fun x1=>
   bif dh (p2.iz.length+1) 32 then
    some (.inl ((IntKind.i64.wrap (p1+1)),(ae.mk p2.e5 p2.iq p2.iO (p2.iz++ [x1]) p2.af p2.f9)))
   else
   none
  else
  some (.inr p2)
def mW (p0:ae) (s:Int×ae):Option ((Int×ae)⊕ae):=
 match s with
 |(p1,p2)=>
  bif decide (p1<(p0.af.length:Int)) then
   oB (idx p0.af p1) fun x1=>
   bif dh (p2.af.length+1) 16 then
    some (.inl ((IntKind.i64.wrap (p1+1)),(ae.mk p2.e5 p2.iq p2.iO p2.iz (p2.af++ [x1]) p2.f9)))
   else
   none
  else
  some (.inr p2)
def mX (p0:ae) (s:Int×ae):Option ((Int×ae)⊕ae):=
 match s with
 |(p1,p2)=>
  bif decide (p1<(p0.f9.length:Int)) then
   oB (idx p0.f9 p1) fun x1=>
   bif dh (p2.f9.length+1) 24 then
    some (.inl ((IntKind.i64.wrap (p1+1)),(ae.mk p2.e5 p2.iq p2.iO p2.iz p2.af (p2.f9++ [x1]))))
   else
   none
  else
  some (.inr p2)
def wb (p0:ae) (x1:ae):Option ae:=
 oB (cM (mW p0) (0,x1)) fun x2=>
 oB (cM (mX p0) (0,x2)) fun x3=>
 some x3
def re (p0:ae):Option ae:=
 oB (cM (mP p0) (0,(ae.mk p0.e5 p0.iq p0.iO [] [] []))) fun x1=>
 wb p0 x1
def xc (C:aj):Prop:=∀(p0:ae) (r:ae),re p0=some r->C 101 [.agg (cGValue p0)] []=some (.agg [.I r.e5,.v (.s r.iq),.I r.iO,.own 2 (ah iC.row r.iz),.own 1 (ah bY r.af),.own 2 (ah f5.row r.f9)],[])
def mR (p0:iJ) (s:Int×iJ):Option ((Int×iJ)⊕iJ):=
 match s with
 |(p1,p2)=>
  bif decide (p1<(p0.f6.length:Int)) then
   oB (idx p0.f6 p1) fun x1=>
   oB (re x1.jt) fun x2=>
   bif dh (p2.f6.length+1) 128 then
    some (.inl ((IntKind.i64.wrap (p1+1)),(iJ.mk p2.iS (p2.f6++ [(gi.mk x1.jm x2 x1.jX)]))))
   else
   none
  else
  some (.inr p2)
def po (p0:iJ):Option iJ:=
 oB (cM (mR p0) (0,(iJ.mk p0.iS []))) fun x1=>
 some x1
def sc (C:aj):Prop:=∀(p0:iJ) (r:iJ),po p0=some r->C 77 [.agg (cGStore p0)] []=some (.agg [.I r.iS,.own 8 (ah gi.row r.f6)],[])
def mS (p0:iT) (s:Int×iT):Option ((Int×iT)⊕iT):=
 match s with
 |(p1,p2)=>
  bif decide (p1<(p0.jG.length:Int)) then
   oB (idx p0.jG p1) fun x1=>
   bif dh (p2.jG.length+1) 16 then
    some (.inl ((IntKind.i64.wrap (p1+1)),(iT.mk p2.j9 p2.iq p2.fN (p2.jG++ [x1]))))
   else
   none
  else
  some (.inr p2)
def pq (p0:iT):Option iT:=
 oB (cM (mS p0) (0,(iT.mk p0.j9 p0.iq p0.fN []))) fun x1=>
 some x1
def ql (C:aj):Prop:=∀(p0:iT) (r:iT),pq p0=some r->C 78 [.agg (cGReply p0)] []=some (.agg [.I r.j9,.v (.s r.iq),.I r.fN,.own 1 (ah bY r.jG)],[])
def kJ (p0:ad) (s:Int×ad):Option ((Int×ad)⊕ad):=
 match s with
 |(p1,p2)=>
  bif decide (p1<(p0.cO.length:Int)) then
   oB (idx p0.cO p1) fun x1=>
   oB (pq x1.i5) fun x2=>
   bif dh (p2.cO.length+1) 80 then
    some (.inl ((IntKind.i64.wrap (p1+1)),(ad.mk p2.e7 p2.iI (p2.cO++ [(cc.mk x1.fId x1.jQ x1.iZ x2)]))))
   else
   none
  else
  some (.inr p2)
def my (p0:ad):Option ad:=
 oB (po p0.e7) fun x1=>
 oB (cM (kJ p0) (0,(ad.mk x1 p0.iI []))) fun x2=>
 some x2
def wO (C:aj):Prop:=∀(p0:ad) (r:ad),my p0=some r->C 36 [.agg (cGMachine p0)] []=some (.agg (cGMachine r),[])
def v4 (p0:i4):Option i4:=
 oB (my p0.iy) fun x1=>
 some (i4.mk p0.iB p0.iK x1)
def Db (C:aj):Prop:=∀(p0:i4) (r:i4),v4 p0=some r->C 45 [.agg (cGSnap p0)] []=some (.agg (cGSnap r),[])
def uf (p0:bi):Option bi:=
 oB (v4 p0.iG) fun x1=>
 some (bi.mk p0.e5 p0.iK p0.lS p0.iB p0.iR x1)
def yz (C:aj):Prop:=∀(p0:bi) (r:bi),uf p0=some r->C 23 [.agg (cGRecord p0)] []=some (.agg (cGRecord r),[])
def mT (p0:List bi) (s:(List bi)×Int):Option (((List bi)×Int)⊕(List bi)):=
 match s with
 |(p1,p2)=>
  bif decide (p2<(p0.length:Int)) then
   oB (idx p0 p2) fun x1=>
   oB (uf x1) fun x2=>
   bif dh (p1.length+1) 216 then
    some (.inl ((p1++ [x2]),(IntKind.i64.wrap (p2+1))))
   else
   none
  else
  some (.inr p1)
def qS (p0:List bi):Option (List bi):=
 oB (cM (mT p0) ([],0)) fun x1=>
 some x1
def wX (C:aj):Prop:=∀(p0:List bi) (r:(List bi)),qS p0=some r->C 10 [.v (.sl 20 (ah bi.row p0))] []=some (.v (.sl 20 (ah bi.row r)),[])
def vL:ad:=
 (ad.mk (iJ.mk 0 []) 1 [])
def wa:Option ad:=some (vL)
theorem Ku:wa=some (vL):=rfl
def By (C:aj):Prop:=∀(r:ad),wa=some r->C 46 [] []=some (.agg [.I r.e7.iS,.own 8 (ah gi.row r.e7.f6),.I r.iI,.own 7 (ah cc.row r.cO)],[])
def sL:iL:=
 (iL.mk 0 (-1) (i4.mk 0 0 (vL)) (iP.mk 0 0 []))
def ze:Option iL:=some (sL)
theorem OQ:ze=some (sL):=rfl
def AO (C:aj):Prop:=∀(r:iL),ze=some r->C 24 [] []=some (.agg [.I r.iK,.I r.lS,.I r.iG.iB,.I r.iG.iK,.I r.iG.iy.e7.iS,.own 8 (ah gi.row r.iG.iy.e7.f6),.I r.iG.iy.iI,.own 7 (ah cc.row r.iG.iy.cO),.I r.jh.iD,.I r.jh.iw,.own 10 (ah iE.row r.jh.af)],[])
def lv (p0:i4) (p1:ad):Bool:=
 bif (p0.iB==0) then
  bif (p0.iK==0) then
   bif (p1.iI==0) then
    bif ((p1.cO.length:Int)==0) then
     bif (p1.e7.iS==0) then
      ((p1.e7.f6.length:Int)==0)
     else
     false
    else
    false
   else
   false
  else
  false
 else
 false
def sW (p0:i4):Option Bool:=
 some (lv p0 p0.iy)
def mL (p0:i4):Bool:=(lv p0 p0.iy)
theorem uW (p0:i4):sW p0=some (mL p0):=by
 simp only [sW,mL]
def uU (C:aj):Prop:=∀(p0:i4) (r:Bool),sW p0=some r->C 47 [.agg (cGSnap p0)] []=some (.v (.b r),[])
def tj (p0:Int):Option Bool:=
 bif decide (1<=p0) then
  some (decide (p0<=1048576))
 else
 some false
def kx (p0:Int):Bool:=(decide (1<=p0)&&decide (p0<=1048576))
theorem uS (p0:Int):tj p0=some (kx p0):=by
 simp only [tj,kx]
 cases decide (1<=p0)<;>rfl
def sq (C:aj):Prop:=∀(p0:Int) (r:Bool),tj p0=some r->C 48 [.I p0] []=some (.v (.b r),[])
def qg (p0:Int):Option Bool:=
 bif decide (1<=p0) then
  some (decide (p0<=1048576))
 else
 some false
def lF (p0:Int):Bool:=(decide (1<=p0)&&decide (p0<=1048576))
theorem yQ (p0:Int):qg p0=some (lF p0):=by
 simp only [qg,lF]
 cases decide (1<=p0)<;>rfl
def vD (C:aj):Prop:=∀(p0:Int) (r:Bool),qg p0=some r->C 107 [.I p0] []=some (.v (.b r),[])
def td (p0:ByteArray):Option Bool:=
 bif decide (1<=(p0.size:Int)) then
  some (decide ((p0.size:Int)<=12))
 else
 some false
def iW (p0:ByteArray):Bool:=(decide (1<=(p0.size:Int))&&decide ((p0.size:Int)<=12))
theorem uT (p0:ByteArray):td p0=some (iW p0):=by
 simp only [td,iW]
 cases decide (1<=(p0.size:Int))<;>rfl
def sh (C:aj):Prop:=∀(p0:ByteArray) (r:Bool),td p0=some r->C 120 [.v (.s p0)] []=some (.v (.b r),[])
def uM (p0:ByteArray):Option Bool:=
 some (decide ((p0.size:Int)<=20))
def iX (p0:ByteArray):Bool:=decide ((p0.size:Int)<=20)
theorem lR (p0:ByteArray):uM p0=some (iX p0):=by
 simp only [uM,iX]
def lh (C:aj):Prop:=∀(p0:ByteArray) (r:Bool),uM p0=some r->C 121 [.v (.s p0)] []=some (.v (.b r),[])
def tf (p0:Int):Option Bool:=
 bif decide ((-1099511627776)<=p0) then
  some (decide (p0<=1099511627776))
 else
 some false
def jf (p0:Int):Bool:=(decide ((-1099511627776)<=p0)&&decide (p0<=1099511627776))
theorem xd (p0:Int):tf p0=some (jf p0):=by
 simp only [tf,jf]
 cases decide ((-1099511627776)<=p0)<;>rfl
def qi (C:aj):Prop:=∀(p0:Int) (r:Bool),tf p0=some r->C 122 [.I p0] []=some (.v (.b r),[])
def oG (p0:iA) (p1:Bool) (p2:Int) (p3:ByteArray):iA:=
 bif p1 then
  (iA.mk p2 ByteArray.empty ByteArray.empty ByteArray.empty 0)
 else
 (iA.mk p2 p3 ByteArray.empty ByteArray.empty 0)
def oF (p0:iA) (p1:Int) (p2:Bool) (p3:ByteArray):iA:=
 bif p2 then
  (iA.mk p1 p3 ByteArray.empty p0.iq p0.fN)
 else
 (oG p0 (p1==22) p1 p3)
def oI (p0:iA) (p1:Int) (p2:Bool) (p3:ByteArray):iA:=
 bif p2 then
  (iA.mk p1 p3 p0.iN p0.iq 0)
 else
 bif (p1==5) then
  (iA.mk p1 p3 p0.iN ByteArray.empty 0)
 else
 bif (p1==6) then
  (iA.mk p1 p3 p0.iN ByteArray.empty 0)
 else
 (oF p0 p1 (p1==14) p3)
def uc (p0:iA) (p1:Int) (p2:ByteArray):iA:=
 bif (p1==11) then
  (iA.mk p1 p2 ByteArray.empty p0.iq 0)
 else
 bif (p1==12) then
  (iA.mk p1 p2 ByteArray.empty p0.iq 0)
 else
 bif (p1==13) then
  (iA.mk p1 p2 ByteArray.empty p0.iq 0)
 else
 bif (p1==15) then
  (iA.mk p1 p2 ByteArray.empty p0.iq 0)
 else
 bif (p1==16) then
  (iA.mk p1 p2 ByteArray.empty p0.iq 0)
 else
 bif (p1==3) then
  (iA.mk p1 p2 ByteArray.empty ByteArray.empty p0.fN)
 else
 bif (p1==20) then
  (iA.mk p1 p2 ByteArray.empty ByteArray.empty p0.fN)
 else
 (oI p0 p1 (p1==4) p2)
def ju (p0:iA) (p1:Int) (p2:ByteArray):iA:=
 bif (p1==1) then
  (iA.mk p1 p2 ByteArray.empty p0.iq 0)
 else
 bif (p1==7) then
  (iA.mk p1 p2 ByteArray.empty p0.iq 0)
 else
 bif (p1==8) then
  (iA.mk p1 p2 ByteArray.empty p0.iq 0)
 else
 uc p0 p1 p2
def pv (p0:iA) (p1:iA):Bool:=
 bif (iW p0.jm) then
  bif decide (4<=p0.e5) then
   bif decide (p0.e5<=6) then
    bif (iW p0.iN) then
     (!(iX p0.iq))
    else
    true
   else
   (!(iX p0.iq))
  else
  (!(iX p0.iq))
 else
 true
def mC (p0:iA) (p1:iA):Bool:=
 bif (p0.e5==22) then
  bif decide (4<=p0.e5) then
   bif decide (p0.e5<=6) then
    bif (iW p0.iN) then
     (!(iX p0.iq))
    else
    true
   else
   (!(iX p0.iq))
  else
  (!(iX p0.iq))
 else
 pv p0 p1
def vt (p0:iA):Int:=
 bif (p0.e5==(ju p0 p0.e5 p0.jm).e5) then
  bif cY p0.jm ((ju p0 p0.e5 p0.jm).jm) then
   bif cY p0.iN ((ju p0 p0.e5 p0.jm).iN) then
    bif cY p0.iq ((ju p0 p0.e5 p0.jm).iq) then
     bif (p0.fN==(ju p0 p0.e5 p0.jm).fN) then
      bif (mC p0 (ju p0 p0.e5 p0.jm)) then
       1
      else
      bif (jf p0.fN) then
       0
      else
      2
     else
     8
    else
    8
   else
   8
  else
  8
 else
 8
def rA (p0:iA):Int:=
 bif decide (p0.e5<1) then
  3
 else
 bif decide (22<p0.e5) then
  3
 else
 vt p0
def wl (p0:iA):Option Int:=some (rA p0)
theorem J7 (p0:iA):wl p0=some (rA p0):=rfl
def Bc (C:aj):Prop:=∀(p0:iA) (r:Int),wl p0=some r->C 108 [.agg (cGCommand p0)] []=some (.I r,[])
def vO (p0:jM):Int:=
 bif (p0.jQ==0) then
  bif (p0.ir.e5==0) then
   bif cY p0.ir.jm ByteArray.empty then
    bif cY p0.ir.iN ByteArray.empty then
     bif cY p0.ir.iq ByteArray.empty then
      bif (p0.ir.fN==0) then
       0
      else
      8
     else
     8
    else
    8
   else
   8
  else
  8
 else
 8
def uI (p0:jM):Int:=
 bif (p0.jv==0) then
  vO p0
 else
 bif (lF p0.jv) then
  bif (lF p0.jQ) then
   (rA p0.ir)
  else
  2
 else
 2
def A6 (p0:jM):Option Int:=some (uI p0)
theorem RJ (p0:jM):A6 p0=some (uI p0):=rfl
def Ju (C:aj):Prop:=∀(p0:jM) (r:Int),A6 p0=some r->C 91 [.agg (cGCall p0)] []=some (.I r,[])
def jU (p0:iE):Bool:=
 bif decide (p0.iK<1) then
  true
 else
 bif decide (1048576<p0.iK) then
  true
 else
 bif decide (p0.iZ<0) then
  true
 else
 decide (1073741824<p0.iZ)
def oJ (p0:iE):Int:=
 bif (p0.iQ.jv==0) then
  bif (p0.iQ.jQ==0) then
   bif (p0.iQ.ir.e5==0) then
    bif cY p0.iQ.ir.jm ByteArray.empty then
     bif cY p0.iQ.ir.iN ByteArray.empty then
      bif cY p0.iQ.ir.iq ByteArray.empty then
       bif (p0.iQ.ir.fN==0) then
        0
       else
       8
      else
      8
     else
     8
    else
    8
   else
   8
  else
  8
 else
 8
def jl (p0:iE):Int:=
 bif (jU p0) then
  2
 else
 bif p0.wF then
  oJ p0
 else
 (uI p0.iQ)
def qL (p0:iE):Option Int:=some (jl p0)
theorem xE (p0:iE):qL p0=some (jl p0):=rfl
def m0 (C:aj):Prop:=∀(p0:iE) (r:Int),qL p0=some r->C 49 [.agg (cGItem p0)] []=some (.I r,[])
def kM (p0:ae):Int:=
 (IntKind.i64.wrap ((IntKind.i64.wrap ((p0.iz.length:Int)+(p0.af.length:Int)))+(p0.f9.length:Int)))
def q5 (p0:ae):Option Int:=some (kM p0)
theorem xz (p0:ae):q5 p0=some (kM p0):=rfl
def pk (C:aj):Prop:=∀(p0:ae) (r:Int),q5 p0=some r->C 123 [.agg (cGValue p0)] []=some (.I r,[])
def zY (p0:ByteArray):Option Bool:=
 some (!(iX p0))
def lA (p0:ByteArray):Bool:=(!(iX p0))
theorem Ri (p0:ByteArray):zY p0=some (lA p0):=by
 simp only [zY,lA]
def B2 (C:aj):Prop:=∀(p0:ByteArray) (r:Bool),zY p0=some r->C 124 [.v (.s p0)] []=some (.v (.b r),[])
def nF (p0:List ByteArray) (p1:Int) (s:Int):Option (Int⊕(Int⊕Unit)):=
 match s with
 |p2=>
  bif decide (p2<p1) then
   oB (idx p0 p2) fun x1=>
   bif (lA x1) then
    some (.inr (.inl p2))
   else
   some (.inl (IntKind.i64.wrap (p2+1)))
  else
  some (.inr (.inr ()))
def uh (p0:List ByteArray):Option Int:=
 oB (cM (nF p0 (p0.length:Int)) 0) fun
 | .inl x1=>
  some x1
 | .inr _=>
  some (-1)
def Bq (C:aj):Prop:=∀(p0:List ByteArray) (r:Int),uh p0=some r->C 137 [.v (.sl 1 (ah bY p0)),.clo 124 []] []=some (.I r,[])
def sJ (p0:List ByteArray):Option Bool:=
 oB (uh p0) fun x1=>
 some (decide (0<=x1))
def yE (C:aj):Prop:=∀(p0:List ByteArray) (r:Bool),sJ p0=some r->C 110 [.v (.sl 1 (ah bY p0)),.clo 124 []] []=some (.v (.b r),[])
def zT (p0:iC):Option Bool:=
 bif (iW p0.iN) then
  some (!(iX p0.iq))
 else
 some true
def l9 (p0:iC):Bool:=(bif (iW p0.iN) then (!(iX p0.iq)) else true)
theorem QL (p0:iC):zT p0=some (l9 p0):=by
 simp only [zT,l9]
 cases (iW p0.iN)<;>rfl
def Co (C:aj):Prop:=∀(p0:iC) (r:Bool),zT p0=some r->C 126 [.agg (cGPair p0)] []=some (.v (.b r),[])
def nG (p0:List iC) (p1:Int) (s:Int):Option (Int⊕(Int⊕Unit)):=
 match s with
 |p2=>
  bif decide (p2<p1) then
   oB (idx p0 p2) fun x1=>
   bif (l9 x1) then
    some (.inr (.inl p2))
   else
   some (.inl (IntKind.i64.wrap (p2+1)))
  else
  some (.inr (.inr ()))
def uk (p0:List iC):Option Int:=
 oB (cM (nG p0 (p0.length:Int)) 0) fun
 | .inl x1=>
  some x1
 | .inr _=>
  some (-1)
def Bm (C:aj):Prop:=∀(p0:List iC) (r:Int),uk p0=some r->C 141 [.v (.sl 2 (ah iC.row p0)),.clo 126 []] []=some (.I r,[])
def sU (p0:List iC):Option Bool:=
 oB (uk p0) fun x1=>
 some (decide (0<=x1))
def ym (C:aj):Prop:=∀(p0:List iC) (r:Bool),sU p0=some r->C 125 [.v (.sl 2 (ah iC.row p0)),.clo 126 []] []=some (.v (.b r),[])
def Ab (p0:f5):Option Bool:=
 some (!(iX p0.i6))
def ma (p0:f5):Bool:=(!(iX p0.i6))
theorem RA (p0:f5):Ab p0=some (ma p0):=by
 simp only [Ab,ma]
def CC (C:aj):Prop:=∀(p0:f5) (r:Bool),Ab p0=some r->C 128 [.agg (cGScore p0)] []=some (.v (.b r),[])
def nD (p0:List f5) (p1:Int) (s:Int):Option (Int⊕(Int⊕Unit)):=
 match s with
 |p2=>
  bif decide (p2<p1) then
   oB (idx p0 p2) fun x1=>
   bif (ma x1) then
    some (.inr (.inl p2))
   else
   some (.inl (IntKind.i64.wrap (p2+1)))
  else
  some (.inr (.inr ()))
def uF (p0:List f5):Option Int:=
 oB (cM (nD p0 (p0.length:Int)) 0) fun
 | .inl x1=>
  some x1
 | .inr _=>
  some (-1)
def BN (C:aj):Prop:=∀(p0:List f5) (r:Int),uF p0=some r->C 142 [.v (.sl 2 (ah f5.row p0)),.clo 128 []] []=some (.I r,[])
def sH (p0:List f5):Option Bool:=
 oB (uF p0) fun x1=>
 some (decide (0<=x1))
def yg (C:aj):Prop:=∀(p0:List f5) (r:Bool),sH p0=some r->C 127 [.v (.sl 2 (ah f5.row p0)),.clo 128 []] []=some (.v (.b r),[])
def zU (p0:f5):Option Bool:=
 some (!(jf p0.fN))
def ml (p0:f5):Bool:=(!(jf p0.fN))
theorem Q6 (p0:f5):zU p0=some (ml p0):=by
 simp only [zU,ml]
def BZ (C:aj):Prop:=∀(p0:f5) (r:Bool),zU p0=some r->C 129 [.agg (cGScore p0)] []=some (.v (.b r),[])
def nE (p0:List f5) (p1:Int) (s:Int):Option (Int⊕(Int⊕Unit)):=
 match s with
 |p2=>
  bif decide (p2<p1) then
   oB (idx p0 p2) fun x1=>
   bif (ml x1) then
    some (.inr (.inl p2))
   else
   some (.inl (IntKind.i64.wrap (p2+1)))
  else
  some (.inr (.inr ()))
def ud (p0:List f5):Option Int:=
 oB (cM (nE p0 (p0.length:Int)) 0) fun
 | .inl x1=>
  some x1
 | .inr _=>
  some (-1)
def Bl (C:aj):Prop:=∀(p0:List f5) (r:Int),ud p0=some r->C 142 [.v (.sl 2 (ah f5.row p0)),.clo 129 []] []=some (.I r,[])
def sI (p0:List f5):Option Bool:=
 oB (ud p0) fun x1=>
 some (decide (0<=x1))
def yx (C:aj):Prop:=∀(p0:List f5) (r:Bool),sI p0=some r->C 127 [.v (.sl 2 (ah f5.row p0)),.clo 129 []] []=some (.v (.b r),[])
def B4 (a b:ByteArray):Option Int:=some (Zf a b)
def Dg (a b:ByteArray):Int:=Zf a b
theorem LD (a b:ByteArray):B4 a b=some (Dg a b):=rfl
def De (C:aj):Prop:=∀(p0:ByteArray) (p1:ByteArray) (r:Int),B4 p0 p1=some r->C 148 [.v (.s p0),.v (.s p1)] []=some (.I r,[])
def qD (p0:ByteArray) (p1:ByteArray):Int:=
 (Dg p0 p1)
def pV (p0:ByteArray) (p1:ByteArray):Option Int:=some (qD p0 p1)
theorem Bu (p0:ByteArray) (p1:ByteArray):pV p0 p1=some (qD p0 p1):=rfl
def wT (C:aj):Prop:=∀(p0:ByteArray) (p1:ByteArray) (r:Int),pV p0 p1=some r->C 145 [.v (.s p0),.v (.s p1)] []=some (.I r,[])
def kb (p0:ByteArray) (p1:ByteArray):Int:=
 (qD p0 p1)
def pU (p0:ByteArray) (p1:ByteArray):Option Int:=some (kb p0 p1)
theorem tQ (p0:ByteArray) (p1:ByteArray):pU p0 p1=some (kb p0 p1):=rfl
def li (C:aj):Prop:=∀(p0:ByteArray) (p1:ByteArray) (r:Int),pU p0 p1=some r->C 135 [.v (.s p0),.v (.s p1)] []=some (.I r,[])
def qc (p0:iC) (p1:iC):Int:=
 (kb p0.iN p1.iN)
def sn (p0:iC) (p1:iC):Option Int:=some (qc p0 p1)
theorem Du (p0:iC) (p1:iC):sn p0 p1=some (qc p0 p1):=rfl
def vr (C:aj):Prop:=∀(p0:iC) (p1:iC) (r:Int),sn p0 p1=some r->C 131 [.agg (cGPair p0),.agg (cGPair p1)] []=some (.I r,[])
def jk (p0:List iC) (s:Int):Option (Int⊕(Unit⊕Unit)):=
 match s with
 |p1=>
  bif decide (p1<(p0.length:Int)) then
   oB (idx p0 (IntKind.i64.wrap (p1-1))) fun x1=>
   oB (idx p0 p1) fun x2=>
   bif decide (0<=(qc x1 x2)) then
    some (.inr (.inl ()))
   else
   some (.inl (IntKind.i64.wrap (p1+1)))
  else
  some (.inr (.inr ()))
def jn (p0:List iC):Option Bool:=
 oB (cM (jk p0) 1) fun
 | .inl _=>
  some false
 | .inr _=>
  some true
def jY (C:aj):Prop:=∀(p0:List iC) (r:Bool),jn p0=some r->C 130 [.v (.sl 2 (ah iC.row p0)),.clo 131 []] []=some (.v (.b r),[])
def qj (p0:Int):Option Bool:=
 some false
def nH (p0:Int):Bool:=false
theorem yL (p0:Int):qj p0=some (nH p0):=by
 simp only [qj,nH]
def yM (C:aj):Prop:=∀(p0:Int) (r:Bool),qj p0=some r->C 147 [.I p0] []=some (.v (.b r),[])
def mi (p0:Int) (p1:Int):Int:=
 bif (nH p0) then
  bif (nH p1) then
   0
  else
  (-1)
 else
 bif (nH p1) then
  1
 else
 bif decide (p0<p1) then
  (-1)
 else
 bif decide (p1<p0) then
  1
 else
 0
def qd (p0:Int) (p1:Int):Option Int:=some (mi p0 p1)
theorem Bz (p0:Int) (p1:Int):qd p0 p1=some (mi p0 p1):=rfl
def tC (C:aj):Prop:=∀(p0:Int) (p1:Int) (r:Int),qd p0 p1=some r->C 144 [.I p0,.I p1] []=some (.I r,[])
def nI (p0:List Int) (p1:Int) (s:Int):Option (Int⊕(Int⊕Unit)):=
 match s with
 |p2=>
  bif decide (p2<p1) then
   oB (idx p0 p2) fun x1=>
   bif (x1==0) then
    some (.inl (IntKind.i64.wrap (p2+1)))
   else
   some (.inr (.inl x1))
  else
  some (.inr (.inr ()))
def sO (p0:List Int):Option Int:=
 oB (cM (nI p0 (p0.length:Int)) 0) fun
 | .inl x1=>
  some x1
 | .inr _=>
  some 0
def BF (C:aj):Prop:=∀(p0:List Int) (r:Int),sO p0=some r->C 143 [.v (.sl 1 (ah xU p0))] []=some (.I r,[])
def nX (p0:f5) (p1:f5):Option Int:=
 oB (sO [(mi p0.fN p1.fN),(kb p0.i6 p1.i6)]) fun x1=>
 some x1
def vn (C:aj):Prop:=∀(p0:f5) (p1:f5) (r:Int),nX p0 p1=some r->C 133 [.agg (cGScore p0),.agg (cGScore p1)] []=some (.I r,[])
def ji (p0:List f5) (s:Int):Option (Int⊕(Unit⊕Unit)):=
 match s with
 |p1=>
  bif decide (p1<(p0.length:Int)) then
   oB (idx p0 (IntKind.i64.wrap (p1-1))) fun x1=>
   oB (idx p0 p1) fun x2=>
   oB (nX x1 x2) fun x3=>
   bif decide (0<=x3) then
    some (.inr (.inl ()))
   else
   some (.inl (IntKind.i64.wrap (p1+1)))
  else
  some (.inr (.inr ()))
def jj (p0:List f5):Option Bool:=
 oB (cM (ji p0) 1) fun
 | .inl _=>
  some false
 | .inr _=>
  some true
def jS (C:aj):Prop:=∀(p0:List f5) (r:Bool),jj p0=some r->C 132 [.v (.sl 2 (ah f5.row p0)),.clo 133 []] []=some (.v (.b r),[])
def i9 (p0:List ByteArray) (s:Int):Option (Int⊕(Unit⊕Unit)):=
 match s with
 |p1=>
  bif decide (p1<(p0.length:Int)) then
   oB (idx p0 (IntKind.i64.wrap (p1-1))) fun x1=>
   oB (idx p0 p1) fun x2=>
   bif decide (0<=(kb x1 x2)) then
    some (.inr (.inl ()))
   else
   some (.inl (IntKind.i64.wrap (p1+1)))
  else
  some (.inr (.inr ()))
def jd (p0:List ByteArray):Option Bool:=
 oB (cM (i9 p0) 1) fun
 | .inl _=>
  some false
 | .inr _=>
  some true
def jL (C:aj):Prop:=∀(p0:List ByteArray) (r:Bool),jd p0=some r->C 134 [.v (.sl 1 (ah bY p0)),.clo 135 []] []=some (.v (.b r),[])
def pm (p0:f5) (p1:ByteArray):Option (Bool×ByteArray):=
 some (cY p0.i6 p1,p1)
def uE (C:aj):Prop:=∀(p0:f5) (p1:ByteArray) (r:Bool×ByteArray),pm p0 p1=some r->C 146 [.agg (cGScore p0),.ptr 0 0] [[.v (.s p1)]]=some (.v (.b r.1),[[.v (.s r.2)]])
def ko (p0:List f5) (p1:Int) (s:Int×ByteArray):Option ((Int×ByteArray)⊕((Int×ByteArray)⊕ByteArray)):=
 match s with
 |(p2,p3)=>
  bif decide (p2<p1) then
   oB (idx p0 p2) fun x1=>
   oB (pm x1 p3) fun (x2,x3)=>
   bif x2 then
    some (.inr (.inl (p2,x3)))
   else
   some (.inl ((IntKind.i64.wrap (p2+1)),x3))
  else
  some (.inr (.inr p3))
def mq (p0:List f5) (p1:ByteArray):Option (Int×ByteArray):=
 oB (cM (ko p0 (p0.length:Int)) (0,p1)) fun
 | .inl (x1,x2)=>
  some (x1,x2)
 | .inr x1=>
  some ((-1),x1)
def vI (C:aj):Prop:=∀(p0:List f5) (p1:ByteArray) (r:Int×ByteArray),mq p0 p1=some r->C 142 [.v (.sl 2 (ah f5.row p0)),.clo 146 [.ptr 0 0]] [[.v (.s p1)]]=some (.I r.1,[[.v (.s r.2)]])
def sK (p0:List f5) (p1:ByteArray):Option Int:=
 oB (mq p0 p1) fun (x1,x2)=>
 some x1
def yA (C:aj):Prop:=∀(p0:List f5) (p1:ByteArray) (r:Int),sK p0 p1=some r->C 136 [.v (.sl 2 (ah f5.row p0)),.v (.s p1)] []=some (.I r,[])
def tM (p0:ae) (p1:Bool):ae:=
 bif p1 then
  (ae.mk p0.e5 p0.iq p0.iO p0.iz p0.af [])
 else
 (ae.mk p0.e5 p0.iq p0.iO p0.iz [] p0.f9)
def tG (p0:ae) (p1:Int) (p2:Bool):ae:=
 bif p2 then
  (ae.mk p0.e5 p0.iq p0.iO [] p0.af p0.f9)
 else
 (tM p0 (p1==6))
def tz (p0:ae) (p1:Int) (p2:Bool):ae:=
 bif p2 then
  (ae.mk p0.e5 p0.iq 0 p0.iz p0.af p0.f9)
 else
 (tG p0 p1 (p1==3))
def jC (p0:ae) (p1:Int) (p2:Bool):ae:=
 bif p2 then
  (ae.mk p0.e5 ByteArray.empty p0.iO p0.iz p0.af p0.f9)
 else
 (tz p0 p1 (p1==2))
def rm (p0:ae) (p1:ae):Bool:=
 bif cY p1.iq ByteArray.empty then
  bif (p1.iO==0) then
   decide (0<(kM p1))
  else
  true
 else
 true
def px (p0:ae) (p1:ae):Bool:=
 bif decide (3<=p0.e5) then
  bif decide ((kM p0)<1) then
   true
  else
  decide (20<(kM p0))
 else
 false
def yu (p0:ae) (p1:ae):Option Bool:=
 oB (jn p0.iz) fun x1=>
 bif x1 then
  oB (jj p0.f9) fun x2=>
  bif x2 then
   bif (p0.e5==5) then
    oB (jd p0.af) fun x3=>
    some x3
   else
   some true
  else
  some false
 else
 some false
def wc (p0:ae) (p2:List f5) (p3:Int) (p5:ae) (s:Bool×Int):Option ((Bool×Int)⊕Bool):=
 match s with
 |(p1,p4)=>
  bif decide (p4<p3) then
   oB (idx p2 p4) fun x1=>
   bif p1 then
    bif yo 0 p4 (p0.f9.length:Int) then
     oB (sK (dm p0.f9 0 p4) x1.i6) fun x2=>
     some (.inl (decide (x2<0),(IntKind.i64.wrap (p4+1))))
    else
    none
   else
   some (.inl (false,(IntKind.i64.wrap (p4+1))))
  else
  some (.inr p1)
def NS (p0:ae) (x1:Bool) (x2:Bool) (x3:Bool):Option Int:=
 bif x3 then
  some 1
 else
 bif (jf p0.iO) then
  oB (sI p0.f9) fun x4=>
  bif x4 then
   some 2
  else
  oB (yu p0 (jC p0 p0.e5 (p0.e5==1))) fun x5=>
  oB (cM (wc p0 p0.f9 (p0.f9.length:Int) (jC p0 p0.e5 (p0.e5==1))) (x5,0)) fun x6=>
  bif x6 then
   some 0
  else
  some 10
 else
 some 2
def BV (p0:ae):Option Int:=
 bif (px p0 (jC p0 p0.e5 (p0.e5==1))) then
  some 1
 else
 bif (iX p0.iq) then
  oB (sJ p0.af) fun x1=>
  bif x1 then
   some 1
  else
  oB (sU p0.iz) fun x2=>
  bif x2 then
   some 1
  else
  oB (sH p0.f9) fun x3=>
  NS p0 x1 x2 x3
 else
 some 1
def vaC (p0:ae):Option Int:=
 bif decide (p0.e5<1) then
  some 3
 else
 bif decide (6<p0.e5) then
  some 3
 else
 bif (rm p0 (jC p0 p0.e5 (p0.e5==1))) then
  some 8
 else
 BV p0
def PO (C:aj):Prop:=∀(p0:ae) (r:Int),vaC p0=some r->C 109 [.agg (cGValue p0)] []=some (.I r,[])
def lz (p0:iJ):Bool:=
 bif decide (p0.iS<0) then
  true
 else
 bif decide (1073741824<p0.iS) then
  true
 else
 decide (12<(p0.f6.length:Int))
def mE (p0:iJ) (p1:Int) (p2:List gi) (p3:Int) (p4:gi):Option Bool:=
 bif decide ((p4.jm.size:Int)<1) then
  some true
 else
 bif decide (12<(p4.jm.size:Int)) then
  some true
 else
 oB (vaC p4.jt) fun x1=>
 bif (x1==0) then
  bif decide (0<p1) then
   oB (idx p0.f6 (IntKind.i64.wrap (p1-1))) fun x2=>
   some (!rR x2.jm p4.jm)
  else
  some false
 else
 some true
def lI (p0:iJ) (p1:List gi) (p2:Int) (p3:Int) (p4:gi):Bool:=
 bif (p4.jX==0) then
  false
 else
 bif decide (p4.jX<=p0.iS) then
  true
 else
 decide (1073741824<p4.jX)
def mV (p0:iJ) (p1:List gi) (p2:Int) (s:Int):Option (Int⊕(gi⊕Unit)):=
 match s with
 |p3=>
  bif decide (p3<p2) then
   oB (idx p1 p3) fun x1=>
   oB (mE p0 p3 p1 p2 x1) fun x2=>
   bif x2 then
    some (.inr (.inl x1))
   else
   bif (lI p0 p1 p2 p3 x1) then
    some (.inr (.inl x1))
   else
   some (.inl (IntKind.i64.wrap (p3+1)))
  else
  some (.inr (.inr ()))
def ri (p0:iJ):Option Int:=
 bif (lz p0) then
  some 13
 else
 oB (cM (mV p0 p0.f6 (p0.f6.length:Int)) 0) fun
 | .inl x1=>
  some 13
 | .inr _=>
  some 0
def uR (C:aj):Prop:=∀(p0:iJ) (r:Int),ri p0=some r->C 94 [.agg (cGStore p0)] []=some (.I r,[])
def rI (p0:ByteArray):Option Bool:=
 some (decide (20<(p0.size:Int)))
def jF (p0:ByteArray):Bool:=decide (20<(p0.size:Int))
theorem D7 (p0:ByteArray):rI p0=some (jF p0):=by
 simp only [rI,jF]
def wh (C:aj):Prop:=∀(p0:ByteArray) (r:Bool),rI p0=some r->C 111 [.v (.s p0)] []=some (.v (.b r),[])
def kL (p0:List ByteArray) (p1:Int) (s:Int):Option (Int⊕(Int⊕Unit)):=
 match s with
 |p2=>
  bif decide (p2<p1) then
   oB (idx p0 p2) fun x1=>
   bif (jF x1) then
    some (.inr (.inl p2))
   else
   some (.inl (IntKind.i64.wrap (p2+1)))
  else
  some (.inr (.inr ()))
def nA (p0:List ByteArray):Option Int:=
 oB (cM (kL p0 (p0.length:Int)) 0) fun
 | .inl x1=>
  some x1
 | .inr _=>
  some (-1)
def wM (C:aj):Prop:=∀(p0:List ByteArray) (r:Int),nA p0=some r->C 137 [.v (.sl 1 (ah bY p0)),.clo 111 []] []=some (.I r,[])
def mu (p0:List ByteArray):Option Bool:=
 oB (nA p0) fun x1=>
 some (decide (0<=x1))
def wI (C:aj):Prop:=∀(p0:List ByteArray) (r:Bool),mu p0=some r->C 110 [.v (.sl 1 (ah bY p0)),.clo 111 []] []=some (.v (.b r),[])
def zn (p0:iT):Option Int:=
 bif decide (13<p0.j9) then
  some 3
 else
 bif decide (20<(p0.iq.size:Int)) then
  some 1
 else
 bif decide (20<(p0.jG.length:Int)) then
  some 1
 else
 oB (mu p0.jG) fun x1=>
 bif x1 then
  some 1
 else
 bif decide (p0.fN<(-1099511627776)) then
  some 2
 else
 bif decide (1099511627776<p0.fN) then
  some 2
 else
 some 0
def v9 (p0:iT):Option Int:=
 bif decide (p0.j9<0) then
  some 3
 else
 zn p0
def yl (C:aj):Prop:=∀(p0:iT) (r:Int),v9 p0=some r->C 95 [.agg (cGReply p0)] []=some (.I r,[])
def xy (p0:ad):Option Bool:=
 oB (ri p0.e7) fun x1=>
 bif (x1==0) then
  bif decide (p0.iI<1) then
   some true
  else
  bif decide (1048577<p0.iI) then
   some true
  else
  some (decide (4<(p0.cO.length:Int)))
 else
 some true
def u3 (p0:ad) (p1:Int) (p2:List cc) (p3:Int) (p4:cc):Option Bool:=
 bif decide (p4.fId<1) then
  some true
 else
 bif decide (p0.iI<=p4.fId) then
  some true
 else
 bif decide (0<p1) then
  oB (idx p0.cO (IntKind.i64.wrap (p1-1))) fun x1=>
  some (decide (p4.fId<=x1.fId))
 else
 some false
def u4 (p0:ad) (p1:List cc) (p2:Int) (p3:Int) (p4:cc):Option Bool:=
 bif decide (p4.jQ<0) then
  some true
 else
 bif decide (1048576<p4.jQ) then
  some true
 else
 bif decide (p4.iZ<0) then
  some true
 else
 bif decide (p0.e7.iS<p4.iZ) then
  some true
 else
 oB (v9 p4.i5) fun x1=>
 some (!(x1==0))
def xt (p0:ad) (p1:List cc) (p2:Int) (s:Int):Option (Int⊕(cc⊕Unit)):=
 match s with
 |p3=>
  bif decide (p3<p2) then
   oB (idx p1 p3) fun x1=>
   oB (u3 p0 p3 p1 p2 x1) fun x2=>
   bif x2 then
    some (.inr (.inl x1))
   else
   oB (u4 p0 p1 p2 p3 x1) fun x3=>
   bif x3 then
    some (.inr (.inl x1))
   else
   some (.inl (IntKind.i64.wrap (p3+1)))
  else
  some (.inr (.inr ()))
def clC (p0:ad):Option Int:=
 oB (xy p0) fun x1=>
 bif x1 then
  some 13
 else
 oB (cM (xt p0 p0.cO (p0.cO.length:Int)) 0) fun
 | .inl x2=>
  some 13
 | .inr _=>
  some 0
def DV (C:aj):Prop:=∀(p0:ad) (r:Int),clC p0=some r->C 55 [.agg (cGMachine p0)] []=some (.I r,[])
def lZ (p0:i4):Option Int:=
 bif (kx p0.iB) then
  bif (kx p0.iK) then
   oB (clC p0.iy) fun x1=>
   some x1
  else
  some 2
 else
 some 2
def xT (C:aj):Prop:=∀(p0:i4) (r:Int),lZ p0=some r->C 50 [.agg (cGSnap p0)] []=some (.I r,[])
def qq (p0:bi):Bool:=
 bif (p0.iR.iQ.jQ==0) then
  bif (p0.iR.iQ.ir.e5==0) then
   bif cY p0.iR.iQ.ir.jm ByteArray.empty then
    bif cY p0.iR.iQ.ir.iN ByteArray.empty then
     bif cY p0.iR.iQ.ir.iq ByteArray.empty then
      bif (p0.iR.iQ.ir.fN==0) then
       bif (p0.e5==3) then
        false
       else
       (!(mL p0.iG))
      else
      true
     else
     true
    else
    true
   else
   true
  else
  true
 else
 true
def qv (p0:bi):Bool:=
 bif (p0.iR.iQ.jQ==0) then
  bif (p0.iR.iQ.ir.e5==0) then
   bif cY p0.iR.iQ.ir.jm ByteArray.empty then
    bif cY p0.iR.iQ.ir.iN ByteArray.empty then
     bif cY p0.iR.iQ.ir.iq ByteArray.empty then
      bif (p0.iR.iQ.ir.fN==0) then
       bif (p0.e5==3) then
        false
       else
       (!(mL p0.iG))
      else
      true
     else
     true
    else
    true
   else
   true
  else
  true
 else
 true
def qs (p0:bi):Bool:=
 bif (p0.e5==2) then
  bif (p0.e5==3) then
   false
  else
  (!(mL p0.iG))
 else
 bif (p0.iB==0) then
  bif (p0.iR.iK==0) then
   bif (p0.iR.iZ==0) then
    bif p0.iR.wF then
     true
    else
    bif (p0.iR.iQ.jv==0) then
     qv p0
    else
    true
   else
   true
  else
  true
 else
 true
def qx (p0:bi):Bool:=
 bif (p0.e5==2) then
  bif (p0.e5==3) then
   false
  else
  (!(mL p0.iG))
 else
 bif (p0.iB==0) then
  bif (p0.iR.iK==0) then
   bif (p0.iR.iZ==0) then
    bif p0.iR.wF then
     true
    else
    bif (p0.iR.iQ.jv==0) then
     qq p0
    else
    true
   else
   true
  else
  true
 else
 true
def kG (p0:bi):Bool:=
 bif (p0.e5==1) then
  qx p0
 else
 bif (p0.iK==0) then
  bif (p0.lS==0) then
   qs p0
  else
  true
 else
 true
def lJ (p0:bi):Bool:=
 bif (kx p0.iK) then
  bif decide (p0.lS<(-1)) then
   true
  else
  decide (3<=p0.lS)
 else
 true
def uV (p0:bi):Option Int:=
 bif decide (3<p0.e5) then
  some 3
 else
 bif (kG p0) then
  some 8
 else
 bif (p0.e5==1) then
  bif (lJ p0) then
   some 2
  else
  some 0
 else
 bif (p0.e5==2) then
  bif (kx p0.iB) then
   some (jl p0.iR)
  else
  some 2
 else
 oB (lZ p0.iG) fun x1=>
 some x1
def pJ (p0:bi):Option Int:=
 bif decide (p0.e5<1) then
  some 3
 else
 uV p0
def vQ (C:aj):Prop:=∀(p0:bi) (r:Int),pJ p0=some r->C 25 [.agg (cGRecord p0)] []=some (.I r,[])
def oV (p0:iP):Bool:=
 bif decide (p0.iw<0) then
  true
 else
 bif decide (1048576<p0.iw) then
  true
 else
 bif (p0.iD==0) then
  bif (p0.iw==0) then
   bif decide (200<(p0.af.length:Int)) then
    true
   else
   decide ((IntKind.i64.wrap (1048576-(p0.af.length:Int)))<p0.iD)
  else
  true
 else
 bif (p0.iw==0) then
  true
 else
 bif decide (200<(p0.af.length:Int)) then
  true
 else
 decide ((IntKind.i64.wrap (1048576-(p0.af.length:Int)))<p0.iD)
def kO (p0:iP):Bool:=
 bif decide (p0.iD<0) then
  true
 else
 oV p0
def km (p0:Int) (p1:Int) (p2:List iE) (p3:Int) (p4:Int) (p5:iE):Bool:=
 bif ((jl p5)==0) then
  bif decide (p5.iK<p0) then
   true
  else
  decide (p5.iZ<p1)
 else
 true
def lg (p2:List iE) (p3:Int) (s:Int×Int×Int):Option ((Int×Int×Int)⊕(iE⊕Unit)):=
 match s with
 |(p0,p1,p4)=>
  bif decide (p4<p3) then
   oB (idx p2 p4) fun x1=>
   bif (km p0 p1 p2 p3 p4 x1) then
    some (.inr (.inl x1))
   else
   some (.inl (x1.iK,x1.iZ,(IntKind.i64.wrap (p4+1))))
  else
  some (.inr (.inr ()))
def lT (p0:iP):Option Int:=
 bif (kO p0) then
  some 13
 else
 oB (cM (lg p0.af (p0.af.length:Int)) (p0.iw,0,0)) fun
 | .inl x1=>
  some 13
 | .inr _=>
  some 0
def kW (C:aj):Prop:=∀(p0:iP) (r:Int),lT p0=some r->C 52 [.agg (cGLog p0)] []=some (.I r,[])
def sX (p0:iP):Option (Int×Int):=
 bif decide (0<(p0.af.length:Int)) then
  oB (idx p0.af (IntKind.i64.wrap ((p0.af.length:Int)-1))) fun x1=>
  some ((IntKind.i64.wrap (p0.iD+(p0.af.length:Int))),x1.iK)
 else
 some (p0.iD,p0.iw)
def Ay (C:aj):Prop:=∀(p0:iP) (r:Int×Int),sX p0=some r->C 92 [.agg (cGLog p0)] []=some (.tup [.I r.1,.I r.2],[])
def qM (p0:iP):Option (Int×Int×Int):=
 oB (lT p0) fun x1=>
 bif (x1==0) then
  oB (sX p0) fun (x2,x3)=>
  some (x2,x3,0)
 else
 some (0,0,x1)
def AC (C:aj):Prop:=∀(p0:iP) (r:Int×Int×Int),qM p0=some r->C 51 [.agg (cGLog p0)] []=some (.tup [.I r.1,.I r.2.1,.I r.2.2],[])
def mN (p0:List iE):Option (List iE):=bif dh p0.length 104 then some p0 else none
def og (C:aj):Prop:=∀(p0:List iE) (r:(List iE)),mN p0=some r->C 30 [.v (.sl 10 (ah iE.row p0))] []=some (.own 10 (ah iE.row r),[])
def yD (p0:iP) (p1:Int) (p2:iE) (x1:Int) (x2:Int) (x3:Int):Option (iP×Int):=
 bif decide (p1<=p0.iD) then
  some (p0,0)
 else
 bif decide ((IntKind.i64.wrap (x1+1))<p1) then
  some (p0,10)
 else
 bif yo 0 (IntKind.i64.wrap ((IntKind.i64.wrap (p1-p0.iD))-1)) (p0.af.length:Int) then
  oB (mN (dm p0.af 0 (IntKind.i64.wrap ((IntKind.i64.wrap (p1-p0.iD))-1)))) fun x4=>
  bif dh (x4.length+1) 104 then
   oB (lT (iP.mk p0.iD p0.iw (x4++ [p2]))) fun x5=>
   bif (x5==0) then
    some ((iP.mk p0.iD p0.iw (x4++ [p2])),0)
   else
   some (p0,10)
  else
  none
 else
 none
def um (p0:iP) (p1:Int) (p2:iE):Option (iP×Int):=
 oB (qM p0) fun (x1,x2,x3)=>
 yD p0 p1 p2 x1 x2 x3
def zf (C:aj):Prop:=∀(p0:iP) (p1:Int) (p2:iE) (r:iP×Int),um p0 p1 p2=some r->C 26 [.agg (cGLog p0),.I p1,.agg (cGItem p2)] []=some (.tup [.agg (cGLog r.1),.I r.2],[])
def mM (p0:iP) (p1:Int):Option (Int×Int):=
 bif decide (p1<p0.iD) then
  some (0,11)
 else
 bif (p1==p0.iD) then
  some (p0.iw,0)
 else
 bif decide ((p0.af.length:Int)<(IntKind.i64.wrap (p1-p0.iD))) then
  some (0,5)
 else
 oB (idx p0.af (IntKind.i64.wrap ((IntKind.i64.wrap (p1-p0.iD))-1))) fun x1=>
 some (x1.iK,0)
def uO (C:aj):Prop:=∀(p0:iP) (p1:Int) (r:Int×Int),mM p0 p1=some r->C 93 [.agg (cGLog p0),.I p1] []=some (.tup [.I r.1,.I r.2],[])
def sY (p0:iP) (p1:Int):Option (Int×Int):=
 oB (lT p0) fun x1=>
 bif (x1==0) then
  bif decide (p1<0) then
   some (0,2)
  else
  bif decide (1048576<p1) then
   some (0,2)
  else
  oB (mM p0 p1) fun (x2,x3)=>
  some (x2,x3)
 else
 some (0,x1)
def xa (C:aj):Prop:=∀(p0:iP) (p1:Int) (r:Int×Int),sY p0 p1=some r->C 53 [.agg (cGLog p0),.I p1] []=some (.tup [.I r.1,.I r.2],[])
def th (p0:iP) (p1:Int):Option (iP×Int):=
 oB (lT p0) fun x1=>
 bif (x1==0) then
  oB (mM p0 p1) fun (x2,x3)=>
  bif (x3==0) then
   bif yo (IntKind.i64.wrap (p1-p0.iD)) (p0.af.length:Int) (p0.af.length:Int) then
    oB (mN (dm p0.af (IntKind.i64.wrap (p1-p0.iD)) (p0.af.length:Int))) fun x4=>
    some ((iP.mk p1 x2 x4),0)
   else
   none
  else
  some ((iP.mk 0 0 []),x3)
 else
 some ((iP.mk 0 0 []),x1)
def Au (C:aj):Prop:=∀(p0:iP) (p1:Int) (r:iP×Int),th p0 p1=some r->C 54 [.agg (cGLog p0),.I p1] []=some (.tup [.agg (cGLog r.1),.I r.2],[])
def ui (p0:iP) (p1:i4):Option iP:=
 oB (sY p0 p1.iB) fun (x1,x2)=>
 bif (x2==0) then
  bif (x1==p1.iK) then
   oB (th p0 p1.iB) fun (x3,x4)=>
   some x3
  else
  some (iP.mk p1.iB p1.iK [])
 else
 some (iP.mk p1.iB p1.iK [])
def tm (C:aj):Prop:=∀(p0:iP) (p1:i4) (r:iP),ui p0 p1=some r->C 27 [.agg (cGLog p0),.agg (cGSnap p1)] []=some (.agg (cGLog r),[])
def oA (p0:Int) (s:Int×iu):Option ((Int×iu)⊕iu):=
 match s with
 |(p1,p2)=>
  bif decide (0<=p1) then
   bif dh (p2.fb.length+1) 1 then
    some (.inl ((IntKind.i64.wrap (p1-8)),(iu.mk (p2.fb++ [(IntKind.u8.wrap (Int.fdiv p0 (2 ^ (min (p1:Int).toNat IntKind.u64.bits))))]))))
   else
   none
  else
  some (.inr p2)
def ng (p0:Int) (p1:iu):Option iu:=
 oB (cM (oA (IntKind.u64.wrap (IntKind.i64.wrap (p0+4611686018427387904)))) (56,p1)) fun x1=>
 some x1
def qW (C:aj):Prop:=∀(p0:Int) (p1:iu) (r:iu),ng p0 p1=some r->C 56 [.ptr 0 0,.I p0] [[.own 1 (ah cE p1.fb)]]=some (.tup [],[[.own 1 (ah cE r.fb)]])
def qE (p0:Int) (p1:iu):Option iu:=
 bif dh (p1.fb.length+1) 1 then
  some (iu.mk (p1.fb++ [(IntKind.u8.wrap p0)]))
 else
 none
def rz (C:aj):Prop:=∀(p0:Int) (p1:iu) (r:iu),qE p0 p1=some r->C 57 [.ptr 0 0,.I p0] [[.own 1 (ah cE p1.fb)]]=some (.tup [],[[.own 1 (ah cE r.fb)]])
def uo (p0:ByteArray) (p1:iu):Option iu:=
 oB (qE (p0.size:Int) p1) fun x1=>
 bif dh (x1.fb.length+(byL p0).length) 1 then
  some (iu.mk (x1.fb++(byL p0)))
 else
 none
def rh (C:aj):Prop:=∀(p0:ByteArray) (p1:iu) (r:iu),uo p0 p1=some r->C 58 [.ptr 0 0,.v (.s p0)] [[.own 1 (ah cE p1.fb)]]=some (.tup [],[[.own 1 (ah cE r.fb)]])
def rK (p0:List ByteArray) (p1:Int) (s:Int×iu):Option ((Int×iu)⊕iu):=
 match s with
 |(p2,p3)=>
  bif decide (p2<p1) then
   oB (idx p0 p2) fun x1=>
   oB (uo x1 p3) fun x2=>
   some (.inl ((IntKind.i64.wrap (p2+1)),x2))
  else
  some (.inr p3)
def wK (p0:List ByteArray) (p1:iu):Option iu:=
 oB (qE (p0.length:Int) p1) fun x1=>
 oB (cM (rK p0 (p0.length:Int)) (0,x1)) fun x2=>
 some x2
def xF (C:aj):Prop:=∀(p0:List ByteArray) (p1:iu) (r:iu),wK p0 p1=some r->C 60 [.ptr 0 0,.v (.sl 1 (ah bY p0))] [[.own 1 (ah cE p1.fb)]]=some (.tup [],[[.own 1 (ah cE r.fb)]])
def rB (p0:ae) (p1:List iC) (p2:Int) (s:Int×iu):Option ((Int×iu)⊕iu):=
 match s with
 |(p3,p4)=>
  bif decide (p3<p2) then
   oB (idx p1 p3) fun x1=>
   oB (uo x1.iN p4) fun x2=>
   oB (uo x1.iq x2) fun x3=>
   some (.inl ((IntKind.i64.wrap (p3+1)),x3))
  else
  some (.inr p4)
def rj (p0:List f5) (p1:Int) (s:Int×iu):Option ((Int×iu)⊕iu):=
 match s with
 |(p2,p3)=>
  bif decide (p2<p1) then
   oB (idx p0 p2) fun x1=>
   oB (uo x1.i6 p3) fun x2=>
   oB (ng x1.fN x2) fun x3=>
   some (.inl ((IntKind.i64.wrap (p2+1)),x3))
  else
  some (.inr p3)
def AW (p0:ae) (p1:iu) (x1:iu) (x2:iu) (x3:iu) (x4:iu) (x5:iu):Option iu:=
 oB (wK p0.af x5) fun x6=>
 oB (qE (p0.f9.length:Int) x6) fun x7=>
 oB (cM (rj p0.f9 (p0.f9.length:Int)) (0,x7)) fun x8=>
 some x8
def yd (p0:ae) (p1:iu):Option iu:=
 oB (qE p0.e5 p1) fun x1=>
 oB (uo p0.iq x1) fun x2=>
 oB (ng p0.iO x2) fun x3=>
 oB (qE (p0.iz.length:Int) x3) fun x4=>
 oB (cM (rB p0 p0.iz (p0.iz.length:Int)) (0,x4)) fun x5=>
 AW p0 p1 x1 x2 x3 x4 x5
def Cu (C:aj):Prop:=∀(p0:ae) (p1:iu) (r:iu),yd p0 p1=some r->C 59 [.ptr 0 0,.agg (cGValue p0)] [[.own 1 (ah cE p1.fb)]]=some (.tup [],[[.own 1 (ah cE r.fb)]])
def mZ (p0:ad) (p1:List gi) (p2:Int) (s:Int×iu):Option ((Int×iu)⊕iu):=
 match s with
 |(p3,p4)=>
  bif decide (p3<p2) then
   oB (idx p1 p3) fun x1=>
   oB (uo x1.jm p4) fun x2=>
   oB (yd x1.jt x2) fun x3=>
   oB (ng x1.jX x3) fun x4=>
   some (.inl ((IntKind.i64.wrap (p3+1)),x4))
  else
  some (.inr p4)
def rW (p0:List cc) (p1:Int) (p2:Int) (p3:iu) (x1:cc):Option ((Int×iu)⊕iu):=
 oB (ng x1.fId p3) fun x2=>
 oB (ng x1.jQ x2) fun x3=>
 oB (ng x1.iZ x3) fun x4=>
 oB (qE x1.i5.j9 x4) fun x5=>
 oB (uo x1.i5.iq x5) fun x6=>
 oB (ng x1.i5.fN x6) fun x7=>
 oB (wK x1.i5.jG x7) fun x8=>
 some (.inl ((IntKind.i64.wrap (p2+1)),x8))
def m4 (p0:List cc) (p1:Int) (s:Int×iu):Option ((Int×iu)⊕iu):=
 match s with
 |(p2,p3)=>
  bif decide (p2<p1) then
   oB (idx p0 p2) fun x1=>
   rW p0 p1 p2 p3 x1
  else
  some (.inr p3)
def wv (p0:ad) (x1:Int) (x2:iu) (x3:iu) (x4:iu):Option ((List Int)×Int):=
 oB (ng p0.iI x4) fun x5=>
 oB (qE (p0.cO.length:Int) x5) fun x6=>
 oB (cM (m4 p0.cO (p0.cO.length:Int)) (0,x6)) fun x7=>
 some (x7.fb,0)
def rf (p0:ad):Option ((List Int)×Int):=
 oB (clC p0) fun x1=>
 bif (x1==0) then
  oB (ng p0.e7.iS (iu.mk [])) fun x2=>
  oB (qE (p0.e7.f6.length:Int) x2) fun x3=>
  oB (cM (mZ p0 p0.e7.f6 (p0.e7.f6.length:Int)) (0,x3)) fun x4=>
  wv p0 x1 x2 x3 x4
 else
 some ([],x1)
def wV (C:aj):Prop:=∀(p0:ad) (r:(List Int)×Int),rf p0=some r->C 28 [.agg (cGMachine p0)] []=some (.tup [.v (.sl 1 (ah cE r.1)),.I r.2],[])
def ol (p0:List Int):Option (List Int):=bif dh p0.length 1 then some p0 else none
def vo (C:aj):Prop:=∀(p0:List Int) (r:(List Int)),ol p0=some r->C 40 [.v (.sl 1 (ah cE p0))] []=some (.v (.sl 1 (ah cE r)),[])
def wn (p0:Int) (p1:f7):Option ((List Int)×f7):=
 bif p1.fshort then
  some ([],(f7.mk p1.frest true))
 else
 bif decide ((p1.frest.length:Int)<p0) then
  some ([],(f7.mk p1.frest true))
 else
 bif yo 0 p0 (p1.frest.length:Int) then
  bif yo p0 (p1.frest.length:Int) (p1.frest.length:Int) then
   some ((dm p1.frest 0 p0),(f7.mk (dm p1.frest p0 (p1.frest.length:Int)) false))
  else
  none
 else
 none
def xP (C:aj):Prop:=∀(p0:Int) (p1:f7) (r:(List Int)×f7),wn p0 p1=some r->C 96 [.ptr 0 0,.I p0] [cGreader p1]=some (.v (.sl 1 (ah cE r.1)),[cGreader r.2])
def qp (p1:List Int) (p2:Int) (p4:f7) (s:Int×Int):Option ((Int×Int)⊕Int):=
 match s with
 |(p0,p3)=>
  bif decide (p3<p2) then
   oB (idx p1 p3) fun x1=>
   some (.inl ((IntKind.u64.wrap (BitVec.ofInt IntKind.u64.bits (IntKind.u64.wrap (p0*2 ^ (min (8:Int).toNat IntKind.u64.bits)))|||BitVec.ofInt IntKind.u64.bits (IntKind.u64.wrap x1)).toNat),(IntKind.i64.wrap (p3+1))))
  else
  some (.inr p0)
def m9 (p0:f7):Option (Int×f7):=
 oB (wn 8 p0) fun (x1,x2)=>
 oB (cM (qp x1 (x1.length:Int) x2) (0,0)) fun x3=>
 some ((IntKind.i64.wrap (IntKind.u64.wrap (x3-4611686018427387904))),x2)
def m8 (C:aj):Prop:=∀(p0:f7) (r:Int×f7),m9 p0=some r->C 61 [.ptr 0 0] [cGreader p0]=some (.I r.1,[cGreader r.2])
def vJ (p0:List Int) (p1:Int) (p2:f7) (s:Unit):Option (Unit⊕(Int⊕Unit)):=
 match s with
 |_=>
  bif decide (0<p1) then
   oB (idx p0 0) fun x1=>
   some (.inr (.inl (IntKind.i64.wrap x1)))
  else
  some (.inr (.inr ()))
def nM (p0:f7):Option (Int×f7):=
 oB (wn 1 p0) fun (x1,x2)=>
 oB (cM (vJ x1 (x1.length:Int) x2) ()) fun
 | .inl x3=>
  some (x3,x2)
 | .inr _=>
  some (0,x2)
def lD (C:aj):Prop:=∀(p0:f7) (r:Int×f7),nM p0=some r->C 67 [.ptr 0 0] [cGreader p0]=some (.I r.1,[cGreader r.2])
def uy (p0:f7):Option (ByteArray×f7):=
 oB (nM p0) fun (x1,x2)=>
 oB (wn x1 x2) fun (x3,x4)=>
 bif SA x3 then
  some ((Tz x3),x4)
 else
 none
def pN (C:aj):Prop:=∀(p0:f7) (r:ByteArray×f7),uy p0=some r->C 64 [.ptr 0 0] [cGreader p0]=some (.v (.s r.1),[cGreader r.2])
def tl (p0:f7) (p1:ae):Option (f7×ae):=
 oB (uy p0) fun (x1,x2)=>
 oB (uy x2) fun (x3,x4)=>
 bif dh (p1.iz.length+1) 32 then
  some (x4,(ae.mk p1.e5 p1.iq p1.iO (p1.iz++ [(iC.mk x1 x3)]) p1.af p1.f9))
 else
 none
def xk (C:aj):Prop:=∀(p0:f7) (p1:ae) (r:f7×ae),tl p0 p1=some r->C 97 [.ptr 1 0,.ptr 2 0] [cGreader p0,[.I p1.e5,.v (.s p1.iq),.I p1.iO,.own 2 (ah iC.row p1.iz),.own 1 (ah bY p1.af),.own 2 (ah f5.row p1.f9)],[.ptr 0 0]]=some (.tup [],[cGreader r.1,[.I r.2.e5,.v (.s r.2.iq),.I r.2.iO,.own 2 (ah iC.row r.2.iz),.own 1 (ah bY r.2.af),.own 2 (ah f5.row r.2.f9)],[.ptr 0 0]])
def kg  (s:Int×f7×ae):Option ((Int×f7×ae)⊕(f7×ae)):=
 match s with
 |(p0,p1,p2)=>
  bif decide (0<p0) then
   bif p1.fshort then
    some (.inr (p1,p2))
   else
   oB (tl (f7.mk p1.frest false) p2) fun (x1,x2)=>
   some (.inl ((IntKind.i64.wrap (p0-1)),x1,x2))
  else
  some (.inr (p1,p2))
def kD (p0:f7) (p1:ae):Option (f7×ae):=
 oB (nM p0) fun (x1,x2)=>
 oB (cM (kg) (x1,x2,p1)) fun (x3,x4)=>
 some (x3,x4)
def q9 (C:aj):Prop:=∀(p0:f7) (p1:ae) (r:f7×ae),kD p0 p1=some r->C 62 [.ptr 0 0,.clo 97 [.ptr 1 0,.ptr 2 0]] [cGreader p0,[.I p1.e5,.v (.s p1.iq),.I p1.iO,.own 2 (ah iC.row p1.iz),.own 1 (ah bY p1.af),.own 2 (ah f5.row p1.f9)],[.ptr 0 0]]=some (.tup [],[cGreader r.1,[.I r.2.e5,.v (.s r.2.iq),.I r.2.iO,.own 2 (ah iC.row r.2.iz),.own 1 (ah bY r.2.af),.own 2 (ah f5.row r.2.f9)],[.ptr 0 0]])
def ta (p0:f7) (p1:List ByteArray):Option (f7×(List ByteArray)):=
 oB (uy p0) fun (x1,x2)=>
 bif dh (p1.length+1) 16 then
  some (x2,(p1++ [x1]))
 else
 none
def xq (C:aj):Prop:=∀(p0:f7) (p1:List ByteArray) (r:f7×(List ByteArray)),ta p0 p1=some r->C 99 [.ptr 1 0,.ptr 2 0] [cGreader p0,[.own 1 (ah bY p1)],[.ptr 0 0]]=some (.tup [],[cGreader r.1,[.own 1 (ah bY r.2)],[.ptr 0 0]])
def kd  (s:Int×f7×(List ByteArray)):Option ((Int×f7×(List ByteArray))⊕(f7×(List ByteArray))):=
 match s with
 |(p0,p1,p2)=>
  bif decide (0<p0) then
   bif p1.fshort then
    some (.inr (p1,p2))
   else
   oB (ta (f7.mk p1.frest false) p2) fun (x1,x2)=>
   some (.inl ((IntKind.i64.wrap (p0-1)),x1,x2))
  else
  some (.inr (p1,p2))
def lK (p0:f7) (p1:List ByteArray):Option (f7×(List ByteArray)):=
 oB (nM p0) fun (x1,x2)=>
 oB (cM (kd) (x1,x2,p1)) fun (x3,x4)=>
 some (x3,x4)
def u6 (C:aj):Prop:=∀(p0:f7) (p1:List ByteArray) (r:f7×(List ByteArray)),lK p0 p1=some r->C 62 [.ptr 0 0,.clo 99 [.ptr 1 0,.ptr 2 0]] [cGreader p0,[.own 1 (ah bY p1)],[.ptr 0 0]]=some (.tup [],[cGreader r.1,[.own 1 (ah bY r.2)],[.ptr 0 0]])
def wN (p0:f7):Option ((List ByteArray)×f7):=
 oB (lK p0 []) fun (x1,x2)=>
 some (x2,x1)
def xQ (C:aj):Prop:=∀(p0:f7) (r:(List ByteArray)×f7),wN p0=some r->C 68 [.ptr 0 0] [cGreader p0]=some (.own 1 (ah bY r.1),[cGreader r.2])
def sV (p0:f7) (p1:ae):Option (f7×ae):=
 oB (uy p0) fun (x1,x2)=>
 oB (m9 x2) fun (x3,x4)=>
 bif dh (p1.f9.length+1) 24 then
  some (x4,(ae.mk p1.e5 p1.iq p1.iO p1.iz p1.af (p1.f9++ [(f5.mk x1 x3)])))
 else
 none
def wW (C:aj):Prop:=∀(p0:f7) (p1:ae) (r:f7×ae),sV p0 p1=some r->C 98 [.ptr 1 0,.ptr 2 0] [cGreader p0,[.I p1.e5,.v (.s p1.iq),.I p1.iO,.own 2 (ah iC.row p1.iz),.own 1 (ah bY p1.af),.own 2 (ah f5.row p1.f9)],[.ptr 0 0]]=some (.tup [],[cGreader r.1,[.I r.2.e5,.v (.s r.2.iq),.I r.2.iO,.own 2 (ah iC.row r.2.iz),.own 1 (ah bY r.2.af),.own 2 (ah f5.row r.2.f9)],[.ptr 0 0]])
def ke  (s:Int×f7×ae):Option ((Int×f7×ae)⊕(f7×ae)):=
 match s with
 |(p0,p1,p2)=>
  bif decide (0<p0) then
   bif p1.fshort then
    some (.inr (p1,p2))
   else
   oB (sV (f7.mk p1.frest false) p2) fun (x1,x2)=>
   some (.inl ((IntKind.i64.wrap (p0-1)),x1,x2))
  else
  some (.inr (p1,p2))
def kI (p0:f7) (p1:ae):Option (f7×ae):=
 oB (nM p0) fun (x1,x2)=>
 oB (cM (ke) (x1,x2,p1)) fun (x3,x4)=>
 some (x3,x4)
def u7 (C:aj):Prop:=∀(p0:f7) (p1:ae) (r:f7×ae),kI p0 p1=some r->C 62 [.ptr 0 0,.clo 98 [.ptr 1 0,.ptr 2 0]] [cGreader p0,[.I p1.e5,.v (.s p1.iq),.I p1.iO,.own 2 (ah iC.row p1.iz),.own 1 (ah bY p1.af),.own 2 (ah f5.row p1.f9)],[.ptr 0 0]]=some (.tup [],[cGreader r.1,[.I r.2.e5,.v (.s r.2.iq),.I r.2.iO,.own 2 (ah iC.row r.2.iz),.own 1 (ah bY r.2.af),.own 2 (ah f5.row r.2.f9)],[.ptr 0 0]])
def yc (p0:f7):Option (ae×f7):=
 oB (nM p0) fun (x1,x2)=>
 oB (uy x2) fun (x3,x4)=>
 oB (m9 x4) fun (x5,x6)=>
 oB (kD x6 (ae.mk x1 x3 x5 [] [] [])) fun (x7,x8)=>
 oB (wN x7) fun (x9,x10)=>
 oB (kI x10 (ae.mk x8.e5 x8.iq x8.iO x8.iz x9 x8.f9)) fun (x11,x12)=>
 some (x12,x11)
def I3 (C:aj):Prop:=∀(p0:f7) (r:ae×f7),yc p0=some r->C 65 [.ptr 0 0] [cGreader p0]=some (.agg [.I r.1.e5,.v (.s r.1.iq),.I r.1.iO,.own 2 (ah iC.row r.1.iz),.own 1 (ah bY r.1.af),.own 2 (ah f5.row r.1.f9)],[cGreader r.2])
def nC (p0:f7) (p1:ad):Option (f7×ad):=
 oB (uy p0) fun (x1,x2)=>
 oB (yc x2) fun (x3,x4)=>
 oB (m9 x4) fun (x5,x6)=>
 bif dh (p1.e7.f6.length+1) 128 then
  some (x6,(ad.mk (iJ.mk p1.e7.iS (p1.e7.f6++ [(gi.mk x1 x3 x5)])) p1.iI p1.cO))
 else
 none
def tS (C:aj):Prop:=∀(p0:f7) (p1:ad) (r:f7×ad),nC p0 p1=some r->C 63 [.ptr 1 0,.ptr 2 0] [cGreader p0,[.I p1.e7.iS,.own 8 (ah gi.row p1.e7.f6),.I p1.iI,.own 7 (ah cc.row p1.cO)],[.ptr 0 0]]=some (.tup [],[cGreader r.1,[.I r.2.e7.iS,.own 8 (ah gi.row r.2.e7.f6),.I r.2.iI,.own 7 (ah cc.row r.2.cO)],[.ptr 0 0]])
def jJ  (s:Int×f7×ad):Option ((Int×f7×ad)⊕(f7×ad)):=
 match s with
 |(p0,p1,p2)=>
  bif decide (0<p0) then
   bif p1.fshort then
    some (.inr (p1,p2))
   else
   oB (nC (f7.mk p1.frest false) p2) fun (x1,x2)=>
   some (.inl ((IntKind.i64.wrap (p0-1)),x1,x2))
  else
  some (.inr (p1,p2))
def jT (p0:f7) (p1:ad):Option (f7×ad):=
 oB (nM p0) fun (x1,x2)=>
 oB (cM (jJ) (x1,x2,p1)) fun (x3,x4)=>
 some (x3,x4)
def ou (C:aj):Prop:=∀(p0:f7) (p1:ad) (r:f7×ad),jT p0 p1=some r->C 62 [.ptr 0 0,.clo 63 [.ptr 1 0,.ptr 2 0]] [cGreader p0,[.I p1.e7.iS,.own 8 (ah gi.row p1.e7.f6),.I p1.iI,.own 7 (ah cc.row p1.cO)],[.ptr 0 0]]=some (.tup [],[cGreader r.1,[.I r.2.e7.iS,.own 8 (ah gi.row r.2.e7.f6),.I r.2.iI,.own 7 (ah cc.row r.2.cO)],[.ptr 0 0]])
def sP (p0:f7) (p1:ad) (x1:Int) (x2:f7):Option (f7×ad):=
 oB (m9 x2) fun (x3,x4)=>
 oB (m9 x4) fun (x5,x6)=>
 oB (nM x6) fun (x7,x8)=>
 oB (uy x8) fun (x9,x10)=>
 oB (m9 x10) fun (x11,x12)=>
 oB (wN x12) fun (x13,x14)=>
 bif dh (p1.cO.length+1) 80 then
  some (x14,(ad.mk p1.e7 p1.iI (p1.cO++ [(cc.mk x1 x3 x5 (iT.mk x7 x9 x11 x13))])))
 else
 none
def nB (p0:f7) (p1:ad):Option (f7×ad):=
 oB (m9 p0) fun (x1,x2)=>
 sP p0 p1 x1 x2
def tL (C:aj):Prop:=∀(p0:f7) (p1:ad) (r:f7×ad),nB p0 p1=some r->C 66 [.ptr 1 0,.ptr 2 0] [cGreader p0,[.ptr 0 0],[.I p1.e7.iS,.own 8 (ah gi.row p1.e7.f6),.I p1.iI,.own 7 (ah cc.row p1.cO)]]=some (.tup [],[cGreader r.1,[.ptr 0 0],[.I r.2.e7.iS,.own 8 (ah gi.row r.2.e7.f6),.I r.2.iI,.own 7 (ah cc.row r.2.cO)]])
def jK  (s:Int×f7×ad):Option ((Int×f7×ad)⊕(f7×ad)):=
 match s with
 |(p0,p1,p2)=>
  bif decide (0<p0) then
   bif p1.fshort then
    some (.inr (p1,p2))
   else
   oB (nB (f7.mk p1.frest false) p2) fun (x1,x2)=>
   some (.inl ((IntKind.i64.wrap (p0-1)),x1,x2))
  else
  some (.inr (p1,p2))
def jR (p0:f7) (p1:ad):Option (f7×ad):=
 oB (nM p0) fun (x1,x2)=>
 oB (cM (jK) (x1,x2,p1)) fun (x3,x4)=>
 some (x3,x4)
def oj (C:aj):Prop:=∀(p0:f7) (p1:ad) (r:f7×ad),jR p0 p1=some r->C 62 [.ptr 0 0,.clo 66 [.ptr 1 0,.ptr 2 0]] [cGreader p0,[.ptr 0 0],[.I p1.e7.iS,.own 8 (ah gi.row p1.e7.f6),.I p1.iI,.own 7 (ah cc.row p1.cO)]]=some (.tup [],[cGreader r.1,[.ptr 0 0],[.I r.2.e7.iS,.own 8 (ah gi.row r.2.e7.f6),.I r.2.iI,.own 7 (ah cc.row r.2.cO)]])
def Hi (p0:Bool) (p1:f7):Option (Int×f7):=
 bif p1.fshort then
  some (9,p1)
 else
 bif p0 then
  bif decide (0<(p1.frest.length:Int)) then
   some (8,(f7.mk p1.frest false))
  else
  some (0,(f7.mk p1.frest false))
 else
 some (8,(f7.mk p1.frest false))
def PB (C:aj):Prop:=∀(p0:Bool) (p1:f7) (r:Int×f7),Hi p0 p1=some r->C 69 [.ptr 0 0,.v (.b p0)] [cGreader p1]=some (.I r.1,[cGreader r.2])
def wy (p0:List Int) (x1:List Int) (x2:Int) (x3:f7):Option (ad×Int):=
 oB (jT x3 (ad.mk (iJ.mk x2 []) 0 [])) fun (x4,x5)=>
 oB (m9 x4) fun (x6,x7)=>
 oB (jR x7 (ad.mk x5.e7 x6 x5.cO)) fun (x8,x9)=>
 oB (Hi true x8) fun (x10,x11)=>
 bif (x10==0) then
  oB (clC x9) fun x12=>
  bif (x12==0) then
   some (x9,0)
  else
  some ((ad.mk (iJ.mk 0 []) 0 []),x12)
 else
 some ((ad.mk (iJ.mk 0 []) 0 []),x10)
def qZ (p0:List Int):Option (ad×Int):=
 bif decide (20000<(p0.length:Int)) then
  some ((ad.mk (iJ.mk 0 []) 0 []),1)
 else
 oB (ol p0) fun x1=>
 oB (m9 (f7.mk x1 false)) fun (x2,x3)=>
 wy p0 x1 x2 x3
def w5 (C:aj):Prop:=∀(p0:List Int) (r:ad×Int),qZ p0=some r->C 29 [.v (.sl 1 (ah cE p0))] []=some (.tup [.agg (cGMachine r.1),.I r.2],[])
def pM (p0:List bi) (p1:Int) (p2:Int) (p3:Bool) (p4:iL) (p5:bi):Option iL:=
 bif p3 then
  oB (ui p4.jh p5.iG) fun x1=>
  some (iL.mk p4.iK p4.lS p5.iG x1)
 else
 some p4
def pG (p0:List bi) (p1:Int) (p2:Int) (p3:Bool) (p4:iL) (p5:bi):Option iL:=
 bif p3 then
  oB (pM p0 p1 p2 (decide (p4.iG.iB<p5.iG.iB)) p4 p5) fun x1=>
  some x1
 else
 some p4
def tI (p0:List bi) (p1:Int) (p2:Int) (p3:iL) (x1:bi):Option ((Int×iL)⊕((Int×iL×bi×iP)⊕((Int×iL×bi)⊕iL))):=
 oB (pJ x1) fun x2=>
 bif (x2==0) then
  bif (x1.e5==1) then
   some (.inl ((IntKind.i64.wrap (p2+1)),(iL.mk x1.iK x1.lS p3.iG p3.jh)))
  else
  bif (x1.e5==2) then
   oB (um p3.jh x1.iB x1.iR) fun (x3,x4)=>
   bif (x4==0) then
    some (.inl ((IntKind.i64.wrap (p2+1)),(iL.mk p3.iK p3.lS p3.iG x3)))
   else
   some (.inr (.inl (x4,p3,x1,x3)))
  else
  oB (pG p0 p1 p2 (x1.e5==3) p3 x1) fun x3=>
  some (.inl ((IntKind.i64.wrap (p2+1)),x3))
 else
 some (.inr (.inr (.inl (x2,p3,x1))))
def lr (p0:List bi) (p1:Int) (s:Int×iL):Option ((Int×iL)⊕((Int×iL×bi×iP)⊕((Int×iL×bi)⊕iL))):=
 match s with
 |(p2,p3)=>
  bif decide (p2<p1) then
   oB (idx p0 p2) fun x1=>
   tI p0 p1 p2 p3 x1
  else
  some (.inr (.inr (.inr p3)))
def yp (p0:List bi) (x1:iL):Option (iL×Int):=
 oB (rf x1.iG.iy) fun (x2,x3)=>
 oB (qZ x2) fun (x4,x5)=>
 oB (mN x1.jh.af) fun x6=>
 some ((iL.mk x1.iK x1.lS (i4.mk x1.iG.iB x1.iG.iK x4) (iP.mk x1.jh.iD x1.jh.iw x6)),0)
def vY (p0:List bi):Option (iL×Int):=
 oB (cM (lr p0 (p0.length:Int)) (0,(sL))) fun
 | .inl (x1,x2,x3,x4)=>
  some ((iL.mk 0 0 (i4.mk 0 0 (ad.mk (iJ.mk 0 []) 0 [])) (iP.mk 0 0 [])),x1)
 | .inr (.inl (x1,x2,x3))=>
  some ((iL.mk 0 0 (i4.mk 0 0 (ad.mk (iJ.mk 0 []) 0 [])) (iP.mk 0 0 [])),x1)
 | .inr (.inr x1)=>
  yp p0 x1
def zH (C:aj):Prop:=∀(p0:List bi) (r:iL×Int),vY p0=some r->C 11 [.v (.sl 20 (ah bi.row p0))] []=some (.tup [.agg (cGDisk r.1),.I r.2],[])
def rM:ad:=
 (ad.mk (iJ.mk 0 []) 1 [])
def qN:Option ad:=some (rM)
theorem CD:qN=some (rM):=rfl
def xM (C:aj):Prop:=∀(r:ad),qN=some r->C 70 [] []=some (.agg [.I r.e7.iS,.own 8 (ah gi.row r.e7.f6),.I r.iI,.own 7 (ah cc.row r.cO)],[])
def sd:iL:=
 (iL.mk 0 (-1) (i4.mk 0 0 (rM)) (iP.mk 0 0 []))
def u9:Option iL:=some (sd)
theorem GW:u9=some (sd):=rfl
def w8 (C:aj):Prop:=∀(r:iL),u9=some r->C 31 [] []=some (.agg [.I r.iK,.I r.lS,.I r.iG.iB,.I r.iG.iK,.I r.iG.iy.e7.iS,.own 8 (ah gi.row r.iG.iy.e7.f6),.I r.iG.iy.iI,.own 7 (ah cc.row r.iG.iy.cO),.I r.jh.iD,.I r.jh.iw,.own 10 (ah iE.row r.jh.af)],[])
def Rk (p0:Int) (p1:Int) (p2:Int):Option Bool:=
 bif decide (p1<=p0) then
  some (decide (p0<=p2))
 else
 some false
def jc (p0:Int) (p1:Int) (p2:Int):Bool:=(decide (p1<=p0)&&decide (p0<=p2))
theorem oc (p0:Int) (p1:Int) (p2:Int):Rk p0 p1 p2=some (jc p0 p1 p2):=by
 simp only [Rk,jc]
 cases decide (p1<=p0)<;>rfl
def kF (C:aj):Prop:=∀(p0:Int) (p1:Int) (p2:Int) (r:Bool),Rk p0 p1 p2=some r->C 42 [.I p0,.I p1,.I p2] []=some (.v (.b r),[])
def lE (p0:i4):Bool:=
 bif (p0.iB==0) then
  bif (p0.iK==0) then
   bif (p0.iy.iI==0) then
    bif (p0.iy.e7.iS==0) then
     bif ((p0.iy.e7.f6.length:Int)==0) then
      ((p0.iy.cO.length:Int)==0)
     else
     false
    else
    false
   else
   false
  else
  false
 else
 false
def sZ (p0:i4):Option Bool:=
 some (lE p0)
def mK (p0:i4):Bool:=(lE p0)
theorem uP (p0:i4):sZ p0=some (mK p0):=by
 simp only [sZ,mK]
def uY (C:aj):Prop:=∀(p0:i4) (r:Bool),sZ p0=some r->C 71 [.agg (cGSnap p0)] []=some (.v (.b r),[])
def tc (p0:Int):Option Bool:=
 some (decide (1<=p0)&&decide (p0<=1048576))
def jo (p0:Int):Bool:=(decide (1<=p0)&&decide (p0<=1048576))
theorem mO (p0:Int):tc p0=some (jo p0):=by
 simp only [tc,jo]
def jZ (C:aj):Prop:=∀(p0:Int) (r:Bool),tc p0=some r->C 73 [.I p0] []=some (.v (.b r),[])
def uv (p0:ByteArray):Option Bool:=
 some (decide (1<=(p0.size:Int))&&decide ((p0.size:Int)<=12))
def kA (p0:ByteArray):Bool:=(decide (1<=(p0.size:Int))&&decide ((p0.size:Int)<=12))
theorem tR (p0:ByteArray):uv p0=some (kA p0):=by
 simp only [uv,kA]
def ln (C:aj):Prop:=∀(p0:ByteArray) (r:Bool),uv p0=some r->C 116 [.v (.s p0)] []=some (.v (.b r),[])
def nh (p0:ae):Int:=
 (IntKind.i64.wrap ((IntKind.i64.wrap ((p0.iz.length:Int)+(p0.af.length:Int)))+(p0.f9.length:Int)))
def zo (p0:ae):Option Int:=some (nh p0)
theorem No (p0:ae):zo p0=some (nh p0):=rfl
def ye (C:aj):Prop:=∀(p0:ae) (r:Int),zo p0=some r->C 138 [.agg (cGValue p0)] []=some (.I r,[])
def v5 (p0:ByteArray):Option Bool:=
 some (decide ((p0.size:Int)<=20))
def i7 (p0:ByteArray):Bool:=decide ((p0.size:Int)<=20)
theorem lY (p0:ByteArray):v5 p0=some (i7 p0):=by
 simp only [v5,i7]
def kN (C:aj):Prop:=∀(p0:ByteArray) (r:Bool),v5 p0=some r->C 118 [.v (.s p0)] []=some (.v (.b r),[])
def uD (p0:Int):Option Bool:=
 some (decide ((-1099511627776)<=p0)&&decide (p0<=1099511627776))
def kp (p0:Int):Bool:=(decide ((-1099511627776)<=p0)&&decide (p0<=1099511627776))
theorem tD (p0:Int):uD p0=some (kp p0):=by
 simp only [uD,kp]
def pF (C:aj):Prop:=∀(p0:Int) (r:Bool),uD p0=some r->C 119 [.I p0] []=some (.v (.b r),[])
def rO (p0:f5) (p1:f5):Option Bool:=
 bif (p0.fN==p1.fN) then
  some (rR p0.i6 p1.i6)
 else
 some (decide (p0.fN<p1.fN))
def jA (p0:f5) (p1:f5):Bool:=(bif (p0.fN==p1.fN) then rR p0.i6 p1.i6 else decide (p0.fN<p1.fN))
theorem DZ (p0:f5) (p1:f5):rO p0 p1=some (jA p0 p1):=by
 simp only [rO,jA]
 cases (p0.fN==p1.fN)<;>rfl
def tP (C:aj):Prop:=∀(p0:f5) (p1:f5) (r:Bool),rO p0 p1=some r->C 139 [.agg (cGScore p0),.agg (cGScore p1)] []=some (.v (.b r),[])
def nz (p0:List f5) (p1:ByteArray) (s:Int):Option (Int⊕(Int⊕Unit)):=
 match s with
 |p2=>
  bif decide (p2<(p0.length:Int)) then
   oB (idx p0 p2) fun x1=>
   bif cY x1.i6 p1 then
    some (.inr (.inl p2))
   else
   some (.inl (IntKind.i64.wrap (p2+1)))
  else
  some (.inr (.inr ()))
def sQ (p0:List f5) (p1:ByteArray):Option Int:=
 oB (cM (nz p0 p1) 0) fun
 | .inl x1=>
  some x1
 | .inr _=>
  some (-1)
def yF (C:aj):Prop:=∀(p0:List f5) (p1:ByteArray) (r:Int),sQ p0 p1=some r->C 140 [.v (.sl 2 (ah f5.row p0)),.v (.s p1)] []=some (.I r,[])
def pd (p0:ae):Bool:=
 bif (p0.iO==0) then
  bif (p0.e5==3) then
   bif (p0.e5==6) then
    false
   else
   decide (0<(p0.f9.length:Int))
  else
  bif decide (0<(p0.iz.length:Int)) then
   true
  else
  bif (p0.e5==6) then
   false
  else
  decide (0<(p0.f9.length:Int))
 else
 true
def pn (p0:ae):Bool:=
 bif (p0.iO==0) then
  bif (p0.e5==3) then
   bif (p0.e5==6) then
    false
   else
   decide (0<(p0.f9.length:Int))
  else
  bif decide (0<(p0.iz.length:Int)) then
   true
  else
  bif (p0.e5==6) then
   false
  else
  decide (0<(p0.f9.length:Int))
 else
 true
def oT (p0:ae):Bool:=
 bif cY p0.iq ByteArray.empty then
  bif (p0.e5==2) then
   bif (p0.e5==3) then
    bif (p0.e5==6) then
     false
    else
    decide (0<(p0.f9.length:Int))
   else
   bif decide (0<(p0.iz.length:Int)) then
    true
   else
   bif (p0.e5==6) then
    false
   else
   decide (0<(p0.f9.length:Int))
  else
  pn p0
 else
 true
def lW (p0:ae):Bool:=
 bif (p0.e5==1) then
  bif (p0.e5==2) then
   bif (p0.e5==3) then
    bif (p0.e5==6) then
     false
    else
    decide (0<(p0.f9.length:Int))
   else
   bif decide (0<(p0.iz.length:Int)) then
    true
   else
   bif (p0.e5==6) then
    false
   else
   decide (0<(p0.f9.length:Int))
  else
  pd p0
 else
 oT p0
def jP (p0:ae):Bool:=
 bif decide (3<=p0.e5) then
  bif decide (1<=(nh p0)) then
   bif decide ((nh p0)<=20) then
    (!(i7 p0.iq))
   else
   true
  else
  true
 else
 (!(i7 p0.iq))
def kv (p0:ae) (s:Int):Option (Int⊕(Unit⊕Unit)):=
 match s with
 |p1=>
  bif decide (p1<(p0.af.length:Int)) then
   oB (idx p0.af p1) fun x1=>
   bif (i7 x1) then
    some (.inl (IntKind.i64.wrap (p1+1)))
   else
   some (.inr (.inl ()))
  else
  some (.inr (.inr ()))
def lk (p0:ae) (s:Int):Option (Int⊕(Unit⊕Unit)):=
 match s with
 |p1=>
  bif decide (p1<(p0.iz.length:Int)) then
   oB (idx p0.iz p1) fun x1=>
   bif (kA x1.iN) then
    bif (i7 x1.iq) then
     some (.inl (IntKind.i64.wrap (p1+1)))
    else
    some (.inr (.inl ()))
   else
   some (.inr (.inl ()))
  else
  some (.inr (.inr ()))
def kX (p0:ae) (s:Int):Option (Int⊕(Unit⊕Unit)):=
 match s with
 |p1=>
  bif decide (p1<(p0.f9.length:Int)) then
   oB (idx p0.f9 p1) fun x1=>
   bif (i7 x1.i6) then
    some (.inl (IntKind.i64.wrap (p1+1)))
   else
   some (.inr (.inl ()))
  else
  some (.inr (.inr ()))
def kY (p0:ae) (s:Int):Option (Int⊕(Unit⊕Unit)):=
 match s with
 |p1=>
  bif decide (p1<(p0.f9.length:Int)) then
   oB (idx p0.f9 p1) fun x1=>
   bif (kp x1.fN) then
    some (.inl (IntKind.i64.wrap (p1+1)))
   else
   some (.inr (.inl ()))
  else
  some (.inr (.inr ()))
def kZ (p0:ae) (s:Int):Option (Int⊕(Unit⊕Unit)):=
 match s with
 |p1=>
  bif decide (p1<(p0.iz.length:Int)) then
   oB (idx p0.iz (IntKind.i64.wrap (p1-1))) fun x1=>
   oB (idx p0.iz p1) fun x2=>
   bif rR x1.iN x2.iN then
    some (.inl (IntKind.i64.wrap (p1+1)))
   else
   some (.inr (.inl ()))
  else
  some (.inr (.inr ()))
def jH (p0:ae) (s:Int):Option (Int⊕(Unit⊕Unit)):=
 match s with
 |p1=>
  bif decide (p1<(p0.af.length:Int)) then
   bif (p0.e5==5) then
    oB (idx p0.af (IntKind.i64.wrap (p1-1))) fun x1=>
    oB (idx p0.af p1) fun x2=>
    bif rR x1 x2 then
     some (.inl (IntKind.i64.wrap (p1+1)))
    else
    some (.inr (.inl ()))
   else
   some (.inr (.inr ()))
  else
  some (.inr (.inr ()))
def kB (p0:ae) (s:Int):Option (Int⊕(Unit⊕Unit)):=
 match s with
 |p1=>
  bif decide (p1<(p0.f9.length:Int)) then
   oB (idx p0.f9 (IntKind.i64.wrap (p1-1))) fun x1=>
   oB (idx p0.f9 p1) fun x2=>
   bif (jA x1 x2) then
    bif yo 0 p1 (p0.f9.length:Int) then
     oB (sQ (dm p0.f9 0 p1) x2.i6) fun x3=>
     bif decide (0<=x3) then
      some (.inr (.inl ()))
     else
     some (.inl (IntKind.i64.wrap (p1+1)))
    else
    none
   else
   some (.inr (.inl ()))
  else
  some (.inr (.inr ()))
def nk (p0:ae) (p1:Bool):Bool:=
 bif decide (0<(p0.iz.length:Int)) then
  true
 else
 bif p1 then
  bif (p0.e5==6) then
   false
  else
  decide (0<(p0.f9.length:Int))
 else
 bif decide (0<(p0.af.length:Int)) then
  true
 else
 bif (p0.e5==6) then
  false
 else
 decide (0<(p0.f9.length:Int))
def nu (p0:ae) (p1:Bool):Bool:=
 bif decide (0<(p0.iz.length:Int)) then
  true
 else
 bif p1 then
  bif (p0.e5==6) then
   false
  else
  decide (0<(p0.f9.length:Int))
 else
 bif decide (0<(p0.af.length:Int)) then
  true
 else
 bif (p0.e5==6) then
  false
 else
 decide (0<(p0.f9.length:Int))
def ny (p0:ae) (p1:Bool):Bool:=
 bif (p0.iO==0) then
  bif (p0.e5==3) then
   bif p1 then
    bif (p0.e5==6) then
     false
    else
    decide (0<(p0.f9.length:Int))
   else
   bif decide (0<(p0.af.length:Int)) then
    true
   else
   bif (p0.e5==6) then
    false
   else
   decide (0<(p0.f9.length:Int))
  else
  nu p0 p1
 else
 true
def nx (p0:ae) (p1:Bool):Bool:=
 bif decide (0<(p0.iz.length:Int)) then
  true
 else
 bif p1 then
  bif (p0.e5==6) then
   false
  else
  decide (0<(p0.f9.length:Int))
 else
 bif decide (0<(p0.af.length:Int)) then
  true
 else
 bif (p0.e5==6) then
  false
 else
 decide (0<(p0.f9.length:Int))
def nr (p0:ae) (p1:Bool):Bool:=
 bif decide (0<(p0.iz.length:Int)) then
  true
 else
 bif p1 then
  bif (p0.e5==6) then
   false
  else
  decide (0<(p0.f9.length:Int))
 else
 bif decide (0<(p0.af.length:Int)) then
  true
 else
 bif (p0.e5==6) then
  false
 else
 decide (0<(p0.f9.length:Int))
def nq (p0:ae) (p1:Bool):Bool:=
 bif (p0.iO==0) then
  bif (p0.e5==3) then
   bif p1 then
    bif (p0.e5==6) then
     false
    else
    decide (0<(p0.f9.length:Int))
   else
   bif decide (0<(p0.af.length:Int)) then
    true
   else
   bif (p0.e5==6) then
    false
   else
   decide (0<(p0.f9.length:Int))
  else
  nr p0 p1
 else
 true
def np (p0:ae) (p1:Bool):Bool:=
 bif cY p0.iq ByteArray.empty then
  bif (p0.e5==2) then
   bif (p0.e5==3) then
    bif p1 then
     bif (p0.e5==6) then
      false
     else
     decide (0<(p0.f9.length:Int))
    else
    bif decide (0<(p0.af.length:Int)) then
     true
    else
    bif (p0.e5==6) then
     false
    else
    decide (0<(p0.f9.length:Int))
   else
   nx p0 p1
  else
  nq p0 p1
 else
 true
def lj (p0:ae) (p1:Bool):Bool:=
 bif (p0.e5==1) then
  bif (p0.e5==2) then
   bif (p0.e5==3) then
    bif p1 then
     bif (p0.e5==6) then
      false
     else
     decide (0<(p0.f9.length:Int))
    else
    bif decide (0<(p0.af.length:Int)) then
     true
    else
    bif (p0.e5==6) then
     false
    else
    decide (0<(p0.f9.length:Int))
   else
   nk p0 p1
  else
  ny p0 p1
 else
 np p0 p1
def vF (p0:ae):Option Int:=
 oB (cM (kB p0) 1) fun
 | .inl _=>
  some 10
 | .inr _=>
  some 0
def vm (p0:ae):Option Int:=
 oB (cM (jH p0) 1) fun
 | .inl _=>
  some 10
 | .inr _=>
  vF p0
def vw (p0:ae):Option Int:=
 oB (cM (kZ p0) 1) fun
 | .inl _=>
  some 10
 | .inr _=>
  vm p0
def vB (p0:ae):Option Int:=
 bif (kp p0.iO) then
  oB (cM (kY p0) 0) fun
  | .inl _=>
   some 2
  | .inr _=>
   vw p0
 else
 some 2
def vp (p0:ae):Option Int:=
 oB (cM (kX p0) 0) fun
 | .inl _=>
  some 1
 | .inr _=>
  vB p0
def pS (p0:ae):Option Int:=
 oB (cM (lk p0) 0) fun
 | .inl _=>
  some 1
 | .inr _=>
  vp p0
def yS (p0:ae):Option Int:=
 oB (cM (kB p0) 1) fun
 | .inl _=>
  some 10
 | .inr _=>
  some 0
def yK (p0:ae):Option Int:=
 oB (cM (jH p0) 1) fun
 | .inl _=>
  some 10
 | .inr _=>
  yS p0
def yN (p0:ae):Option Int:=
 oB (cM (kZ p0) 1) fun
 | .inl _=>
  some 10
 | .inr _=>
  yK p0
def yI (p0:ae):Option Int:=
 bif (kp p0.iO) then
  oB (cM (kY p0) 0) fun
  | .inl _=>
   some 2
  | .inr _=>
   yN p0
 else
 some 2
def xw (p0:ae):Option Int:=
 oB (cM (kX p0) 0) fun
 | .inl _=>
  some 1
 | .inr _=>
  yI p0
def uu (p0:ae):Option Int:=
 oB (cM (lk p0) 0) fun
 | .inl _=>
  some 1
 | .inr _=>
  xw p0
def uA (p0:ae):Option Int:=
 bif (lW p0) then
  some 8
 else
 bif (jP p0) then
  some 1
 else
 oB (cM (kv p0) 0) fun
 | .inl _=>
  some 1
 | .inr _=>
  pS p0
def pL (p0:ae):Option Int:=
 bif decide (1<=p0.e5) then
  bif decide (p0.e5<=6) then
   bif (p0.e5==4) then
    uA p0
   else
   bif (lj p0 (p0.e5==5)) then
    some 8
   else
   bif (jP p0) then
    some 1
   else
   oB (cM (kv p0) 0) fun
   | .inl _=>
    some 1
   | .inr _=>
    uu p0
  else
  some 3
 else
 some 3
def tV (C:aj):Prop:=∀(p0:ae) (r:Int),pL p0=some r->C 117 [.agg (cGValue p0)] []=some (.I r,[])
def kK (p0:iJ):Bool:=
 bif decide (0<=p0.iS) then
  bif decide (p0.iS<=1073741824) then
   decide (12<(p0.f6.length:Int))
  else
  true
 else
 true
def lU (p0:iJ) (p1:Int) (p2:gi):Option Bool:=
 bif (kA p2.jm) then
  oB (pL p2.jt) fun x1=>
  bif (x1==0) then
   bif decide (0<p1) then
    oB (idx p0.f6 (IntKind.i64.wrap (p1-1))) fun x2=>
    some (!rR x2.jm p2.jm)
   else
   some false
  else
  some true
 else
 some true
def lm (p0:iJ) (p1:Int) (p2:gi):Bool:=
 bif (p2.jX==0) then
  false
 else
 bif decide (0<=p2.jX) then
  bif decide (p2.jX<=1073741824) then
   decide (p2.jX<=p0.iS)
  else
  true
 else
 true
def mm (p0:iJ) (s:Int):Option (Int⊕(gi⊕Unit)):=
 match s with
 |p1=>
  bif decide (p1<(p0.f6.length:Int)) then
   oB (idx p0.f6 p1) fun x1=>
   oB (lU p0 p1 x1) fun x2=>
   bif x2 then
    some (.inr (.inl x1))
   else
   bif (lm p0 p1 x1) then
    some (.inr (.inl x1))
   else
   some (.inl (IntKind.i64.wrap (p1+1)))
  else
  some (.inr (.inr ()))
def pI (p0:iJ):Option Int:=
 bif (kK p0) then
  some 13
 else
 oB (cM (mm p0) 0) fun
 | .inl x1=>
  some 13
 | .inr _=>
  some 0
def tW (C:aj):Prop:=∀(p0:iJ) (r:Int),pI p0=some r->C 105 [.agg (cGStore p0)] []=some (.I r,[])
def mf (p0:iT) (s:Int):Option (Int⊕(Unit⊕Unit)):=
 match s with
 |p1=>
  bif decide (p1<(p0.jG.length:Int)) then
   oB (idx p0.jG p1) fun x1=>
   bif (i7 x1) then
    some (.inl (IntKind.i64.wrap (p1+1)))
   else
   some (.inr (.inl ()))
  else
  some (.inr (.inr ()))
def nR (p0:iT):Option Int:=
 bif decide (0<=p0.j9) then
  bif decide (p0.j9<=13) then
   bif (i7 p0.iq) then
    bif decide (20<(p0.jG.length:Int)) then
     some 1
    else
    oB (cM (mf p0) 0) fun
    | .inl _=>
     some 1
    | .inr _=>
     bif (kp p0.fN) then
      some 0
     else
     some 2
   else
   some 1
  else
  some 3
 else
 some 3
def tY (C:aj):Prop:=∀(p0:iT) (r:Int),nR p0=some r->C 106 [.agg (cGReply p0)] []=some (.I r,[])
def lX (p0:ad):Option Bool:=
 oB (pI p0.e7) fun x1=>
 bif (x1==0) then
  bif decide (1<=p0.iI) then
   bif decide (p0.iI<=1048577) then
    some (decide (4<(p0.cO.length:Int)))
   else
   some true
  else
  some true
 else
 some true
def ns (p0:ad) (p1:Int) (p2:cc):Option Bool:=
 oB (idx p0.cO (IntKind.i64.wrap (p1-1))) fun x1=>
 bif decide (p2.fId<=x1.fId) then
  some true
 else
 bif decide (0<=p2.jQ) then
  bif decide (p2.jQ<=1048576) then
   bif decide (0<=p2.iZ) then
    bif decide (p2.iZ<=p0.e7.iS) then
     oB (nR p2.i5) fun x2=>
     some (!(x2==0))
    else
    some true
   else
   some true
  else
  some true
 else
 some true
def nm (p0:ad) (p1:Int) (p2:cc):Option Bool:=
 bif decide (p0.iI<=p2.fId) then
  some true
 else
 bif decide (0<p1) then
  ns p0 p1 p2
 else
 bif decide (0<=p2.jQ) then
  bif decide (p2.jQ<=1048576) then
   bif decide (0<=p2.iZ) then
    bif decide (p2.iZ<=p0.e7.iS) then
     oB (nR p2.i5) fun x1=>
     some (!(x1==0))
    else
    some true
   else
   some true
  else
  some true
 else
 some true
def ll (p0:ad) (p1:Int) (p2:cc):Option Bool:=
 bif (jo p2.fId) then
  nm p0 p1 p2
 else
 some true
def lB (p0:ad) (s:Int):Option (Int⊕(cc⊕Unit)):=
 match s with
 |p1=>
  bif decide (p1<(p0.cO.length:Int)) then
   oB (idx p0.cO p1) fun x1=>
   oB (ll p0 p1 x1) fun x2=>
   bif x2 then
    some (.inr (.inl x1))
   else
   some (.inl (IntKind.i64.wrap (p1+1)))
  else
  some (.inr (.inr ()))
def na (p0:ad):Option Int:=
 oB (lX p0) fun x1=>
 bif x1 then
  some 13
 else
 oB (cM (lB p0) 0) fun
 | .inl x2=>
  some 13
 | .inr _=>
  some 0
def xH (C:aj):Prop:=∀(p0:ad) (r:Int),na p0=some r->C 90 [.agg (cGMachine p0)] []=some (.I r,[])
def ra (p0:i4):Option Int:=
 bif (jo p0.iB) then
  bif (jo p0.iK) then
   oB (na p0.iy) fun x1=>
   some x1
  else
  some 2
 else
 some 2
def AA (C:aj):Prop:=∀(p0:i4) (r:Int),ra p0=some r->C 72 [.agg (cGSnap p0)] []=some (.I r,[])
def je (p0:iA):Bool:=
 bif (p0.e5==1) then
  true
 else
 bif (p0.e5==4) then
  true
 else
 bif (p0.e5==7) then
  true
 else
 bif (p0.e5==8) then
  true
 else
 (decide (11<=p0.e5)&&decide (p0.e5<=16))
def jV (p0:iA) (p1:Bool) (p2:Bool):Bool:=
 bif (p0.e5==3) then
  true
 else
 bif (p0.e5==14) then
  true
 else
 (p0.e5==20)
def nl (p0:iA) (p1:Bool) (p2:Bool) (p3:Bool) (p4:Bool):Bool:=
 bif cY p0.iN ByteArray.empty then
  bif p3 then
   bif p4 then
    false
   else
   (!cY p0.jm ByteArray.empty)
  else
  bif (p0.fN==0) then
   bif p4 then
    false
   else
   (!cY p0.jm ByteArray.empty)
  else
  true
 else
 true
def nn (p0:iA) (p1:Bool) (p2:Bool) (p3:Bool) (p4:Bool):Bool:=
 bif cY p0.iN ByteArray.empty then
  bif p3 then
   bif p4 then
    false
   else
   (!cY p0.jm ByteArray.empty)
  else
  bif (p0.fN==0) then
   bif p4 then
    false
   else
   (!cY p0.jm ByteArray.empty)
  else
  true
 else
 true
def nv (p0:iA) (p1:Bool) (p2:Bool) (p3:Bool) (p4:Bool):Bool:=
 bif cY p0.iq ByteArray.empty then
  bif p2 then
   bif p3 then
    bif p4 then
     false
    else
    (!cY p0.jm ByteArray.empty)
   else
   bif (p0.fN==0) then
    bif p4 then
     false
    else
    (!cY p0.jm ByteArray.empty)
   else
   true
  else
  nn p0 p1 p2 p3 p4
 else
 true
def ls (p0:iA) (p1:Bool) (p2:Bool) (p3:Bool) (p4:Bool):Bool:=
 bif p1 then
  bif p2 then
   bif p3 then
    bif p4 then
     false
    else
    (!cY p0.jm ByteArray.empty)
   else
   bif (p0.fN==0) then
    bif p4 then
     false
    else
    (!cY p0.jm ByteArray.empty)
   else
   true
  else
  nl p0 p1 p2 p3 p4
 else
 nv p0 p1 p2 p3 p4
def lf (p0:iA) (p1:Bool) (p2:Bool):Bool:=
 bif p2 then
  bif (kA p0.jm) then
   bif p1 then
    bif (kA p0.iN) then
     (!(i7 p0.iq))
    else
    true
   else
   (!(i7 p0.iq))
  else
  true
 else
 bif p1 then
  bif (kA p0.iN) then
   (!(i7 p0.iq))
  else
  true
 else
 (!(i7 p0.iq))
def mQ (p0:iA):Int:=
 bif decide (1<=p0.e5) then
  bif decide (p0.e5<=22) then
   bif (ls p0 (je p0) (decide (4<=p0.e5)&&decide (p0.e5<=6)) (jV p0 (je p0) (decide (4<=p0.e5)&&decide (p0.e5<=6))) (!(p0.e5==22))) then
    8
   else
   bif (lf p0 (decide (4<=p0.e5)&&decide (p0.e5<=6)) (!(p0.e5==22))) then
    1
   else
   bif (kp p0.fN) then
    0
   else
   2
  else
  3
 else
 3
def rc (p0:iA):Option Int:=some (mQ p0)
theorem Ci (p0:iA):rc p0=some (mQ p0):=rfl
def xJ (C:aj):Prop:=∀(p0:iA) (r:Int),rc p0=some r->C 112 [.agg (cGCommand p0)] []=some (.I r,[])
def uj (p0:jM):Int:=
 bif (p0.jQ==0) then
  bif (p0.ir.e5==0) then
   bif cY p0.ir.jm ByteArray.empty then
    bif cY p0.ir.iN ByteArray.empty then
     bif cY p0.ir.iq ByteArray.empty then
      bif (p0.ir.fN==0) then
       0
      else
      8
     else
     8
    else
    8
   else
   8
  else
  8
 else
 8
def qk (p0:jM):Int:=
 bif (p0.jv==0) then
  uj p0
 else
 bif (jo p0.jv) then
  bif (jo p0.jQ) then
   (mQ p0.ir)
  else
  2
 else
 2
def u1 (p0:jM):Option Int:=some (qk p0)
theorem GP (p0:jM):u1 p0=some (qk p0):=rfl
def Av (C:aj):Prop:=∀(p0:jM) (r:Int),u1 p0=some r->C 100 [.agg (cGCall p0)] []=some (.I r,[])
def ul (p0:iE):Int:=
 bif (p0.iQ.jv==0) then
  bif (p0.iQ.jQ==0) then
   bif (p0.iQ.ir.e5==0) then
    bif cY p0.iQ.ir.jm ByteArray.empty then
     bif cY p0.iQ.ir.iN ByteArray.empty then
      bif cY p0.iQ.ir.iq ByteArray.empty then
       bif (p0.iQ.ir.fN==0) then
        0
       else
       8
      else
      8
     else
     8
    else
    8
   else
   8
  else
  8
 else
 8
def oz (p0:iE):Int:=
 bif (jo p0.iK) then
  bif decide (0<=p0.iZ) then
   bif decide (p0.iZ<=1073741824) then
    bif p0.wF then
     ul p0
    else
    (qk p0.iQ)
   else
   2
  else
  2
 else
 2
def vd (p0:iE):Option Int:=some (oz p0)
theorem Ar (p0:iE):vd p0=some (oz p0):=rfl
def sg (C:aj):Prop:=∀(p0:iE) (r:Int),vd p0=some r->C 74 [.agg (cGItem p0)] []=some (.I r,[])
def nY (p0:bi):Bool:=
 bif (p0.iR.iQ.jQ==0) then
  bif (p0.iR.iQ.ir.e5==0) then
   bif cY p0.iR.iQ.ir.jm ByteArray.empty then
    bif cY p0.iR.iQ.ir.iN ByteArray.empty then
     bif cY p0.iR.iQ.ir.iq ByteArray.empty then
      bif (p0.iR.iQ.ir.fN==0) then
       bif (p0.e5==3) then
        false
       else
       (!(mK p0.iG))
      else
      true
     else
     true
    else
    true
   else
   true
  else
  true
 else
 true
def oi (p0:bi):Bool:=
 bif (p0.iR.iQ.jQ==0) then
  bif (p0.iR.iQ.ir.e5==0) then
   bif cY p0.iR.iQ.ir.jm ByteArray.empty then
    bif cY p0.iR.iQ.ir.iN ByteArray.empty then
     bif cY p0.iR.iQ.ir.iq ByteArray.empty then
      bif (p0.iR.iQ.ir.fN==0) then
       bif (p0.e5==3) then
        false
       else
       (!(mK p0.iG))
      else
      true
     else
     true
    else
    true
   else
   true
  else
  true
 else
 true
def nW (p0:bi):Bool:=
 bif (p0.e5==2) then
  bif (p0.e5==3) then
   false
  else
  (!(mK p0.iG))
 else
 bif (p0.iB==0) then
  bif (p0.iR.iK==0) then
   bif (p0.iR.iZ==0) then
    bif p0.iR.wF then
     true
    else
    bif (p0.iR.iQ.jv==0) then
     oi p0
    else
    true
   else
   true
  else
  true
 else
 true
def oh (p0:bi):Bool:=
 bif (p0.e5==2) then
  bif (p0.e5==3) then
   false
  else
  (!(mK p0.iG))
 else
 bif (p0.iB==0) then
  bif (p0.iR.iK==0) then
   bif (p0.iR.iZ==0) then
    bif p0.iR.wF then
     true
    else
    bif (p0.iR.iQ.jv==0) then
     nY p0
    else
    true
   else
   true
  else
  true
 else
 true
def ka (p0:bi):Bool:=
 bif (p0.e5==1) then
  oh p0
 else
 bif (p0.iK==0) then
  bif (p0.lS==0) then
   nW p0
  else
  true
 else
 true
def uB (p0:bi):Option Int:=
 bif (p0.e5==3) then
  oB (ra p0.iG) fun x1=>
  some x1
 else
 bif (p0.e5==1) then
  bif (jo p0.iK) then
   bif decide ((-1)<=p0.lS) then
    bif decide (p0.lS<=2) then
     some 0
    else
    some 2
   else
   some 2
  else
  some 2
 else
 bif (jo p0.iB) then
  some (oz p0.iR)
 else
 some 2
def oq (p0:bi):Option Int:=
 bif decide (1<=p0.e5) then
  bif decide (p0.e5<=3) then
   bif (ka p0) then
    some 8
   else
   uB p0
  else
  some 3
 else
 some 3
def vC (C:aj):Prop:=∀(p0:bi) (r:Int),oq p0=some r->C 32 [.agg (cGRecord p0)] []=some (.I r,[])
def mw (p0:iP):Int:=
 (IntKind.i64.wrap (p0.iD+(p0.af.length:Int)))
def zj (p0:iP):Option Int:=some (mw p0)
theorem AT (p0:iP):zj p0=some (mw p0):=rfl
def qK (C:aj):Prop:=∀(p0:iP) (r:Int),zj p0=some r->C 33 [.agg (cGLog p0)] []=some (.I r,[])
def qr (p0:iP):Bool:=
 bif decide (0<=p0.iw) then
  bif decide (p0.iw<=1048576) then
   bif (p0.iD==0) then
    bif (p0.iw==0) then
     bif decide (200<(p0.af.length:Int)) then
      true
     else
     decide (1048576<(IntKind.i64.wrap (p0.iD+(p0.af.length:Int))))
    else
    true
   else
   bif (p0.iw==0) then
    true
   else
   bif decide (200<(p0.af.length:Int)) then
    true
   else
   decide (1048576<(IntKind.i64.wrap (p0.iD+(p0.af.length:Int))))
  else
  true
 else
 true
def lO (p0:iP):Bool:=
 bif decide (0<=p0.iD) then
  bif decide (p0.iD<=1048576) then
   qr p0
  else
  true
 else
 true
def sG (p0:iP) (p1:Int):Option (Int⊕(Unit⊕Unit)):=
 oB (idx p0.af p1) fun x1=>
 bif ((oz x1)==0) then
  bif decide (x1.iK<p0.iw) then
   some (.inr (.inl ()))
  else
  bif decide (0<p1) then
   oB (idx p0.af (IntKind.i64.wrap (p1-1))) fun x2=>
   bif decide (x1.iK<x2.iK) then
    some (.inr (.inl ()))
   else
   bif decide (x1.iZ<x2.iZ) then
    some (.inr (.inl ()))
   else
   some (.inl (IntKind.i64.wrap (p1+1)))
  else
  some (.inl (IntKind.i64.wrap (p1+1)))
 else
 some (.inr (.inl ()))
def mt (p0:iP) (s:Int):Option (Int⊕(Unit⊕Unit)):=
 match s with
 |p1=>
  bif decide (p1<(p0.af.length:Int)) then
   sG p0 p1
  else
  some (.inr (.inr ()))
def pz (p0:iP):Option Int:=
 bif (lO p0) then
  some 13
 else
 oB (cM (mt p0) 0) fun
 | .inl _=>
  some 13
 | .inr _=>
  some 0
def tF (C:aj):Prop:=∀(p0:iP) (r:Int),pz p0=some r->C 34 [.agg (cGLog p0)] []=some (.I r,[])
def qb (p0:iP) (p1:Int):Option Int:=
 bif decide (p1<p0.iD) then
  some (-1)
 else
 bif decide ((mw p0)<p1) then
  some (-2)
 else
 bif (p1==p0.iD) then
  some p0.iw
 else
 oB (idx p0.af (IntKind.i64.wrap ((IntKind.i64.wrap (p1-p0.iD))-1))) fun x1=>
 some x1.iK
def v8 (C:aj):Prop:=∀(p0:iP) (p1:Int) (r:Int),qb p0 p1=some r->C 75 [.agg (cGLog p0),.I p1] []=some (.I r,[])
def oR (p0:iP) (s:Int×iP):Option ((Int×iP)⊕iP):=
 match s with
 |(p1,p2)=>
  bif decide (p1<=(mw p0)) then
   oB (idx p0.af (IntKind.i64.wrap ((IntKind.i64.wrap (p1-p0.iD))-1))) fun x1=>
   bif dh (p2.af.length+1) 104 then
    some (.inl ((IntKind.i64.wrap (p1+1)),(iP.mk p2.iD p2.iw (p2.af++ [x1]))))
   else
   none
  else
  some (.inr p2)
def vX (p0:iP) (p1:Int):Option (iP×Int):=
 oB (pz p0) fun x1=>
 bif (x1==0) then
  oB (qb p0 p1) fun x2=>
  bif (x2==(-1)) then
   some ((iP.mk 0 0 []),11)
  else
  bif (x2==(-2)) then
   some ((iP.mk 0 0 []),5)
  else
  oB (cM (oR p0) ((IntKind.i64.wrap (p1+1)),(iP.mk p1 x2 []))) fun x3=>
  some (x3,0)
 else
 some ((iP.mk 0 0 []),x1)
def Di (C:aj):Prop:=∀(p0:iP) (p1:Int) (r:iP×Int),vX p0 p1=some r->C 76 [.agg (cGLog p0),.I p1] []=some (.tup [.agg (cGLog r.1),.I r.2],[])
def u5 (p0:iP) (p1:i4):Option iP:=
 oB (qb p0 p1.iB) fun x1=>
 bif (x1==p1.iK) then
  oB (vX p0 p1.iB) fun (x2,x3)=>
  some x2
 else
 some (iP.mk p1.iB p1.iK [])
def uH (C:aj):Prop:=∀(p0:iP) (p1:i4) (r:iP),u5 p0 p1=some r->C 35 [.agg (cGLog p0),.agg (cGSnap p1)] []=some (.agg (cGLog r),[])
def lP (p0:ad) (s:Int×ad):Option ((Int×ad)⊕ad):=
 match s with
 |(p1,p2)=>
  bif decide (p1<(p0.cO.length:Int)) then
   oB (idx p0.cO p1) fun x1=>
   oB (pq x1.i5) fun x2=>
   bif dh (p2.cO.length+1) 80 then
    some (.inl ((IntKind.i64.wrap (p1+1)),(ad.mk p2.e7 p2.iI (p2.cO++ [(cc.mk x1.fId x1.jQ x1.iZ x2)]))))
   else
   none
  else
  some (.inr p2)
def nU (p0:ad):Option ad:=
 oB (po p0.e7) fun x1=>
 oB (cM (lP p0) (0,(ad.mk x1 p0.iI []))) fun x2=>
 some x2
def vu (C:aj):Prop:=∀(p0:ad) (r:ad),nU p0=some r->C 36 [.agg (cGMachine p0)] []=some (.agg [.I r.e7.iS,.own 8 (ah gi.row r.e7.f6),.I r.iI,.own 7 (ah cc.row r.cO)],[])
def oS (p0:iP) (s:Int×iP):Option ((Int×iP)⊕iP):=
 match s with
 |(p1,p2)=>
  bif decide (p1<(p0.af.length:Int)) then
   oB (idx p0.af p1) fun x1=>
   bif dh (p2.af.length+1) 104 then
    some (.inl ((IntKind.i64.wrap (p1+1)),(iP.mk p2.iD p2.iw (p2.af++ [x1]))))
   else
   none
  else
  some (.inr p2)
def ux (p0:iP):Option iP:=
 oB (cM (oS p0) (0,(iP.mk p0.iD p0.iw []))) fun x1=>
 some x1
def zN (C:aj):Prop:=∀(p0:iP) (r:iP),ux p0=some r->C 37 [.agg (cGLog p0)] []=some (.agg [.I r.iD,.I r.iw,.own 10 (ah iE.row r.af)],[])
def im (p0:List bi) (p1:Int) (p2:Bool) (p3:iL) (p4:bi):iL:=
 bif p2 then
  (iL.mk p4.iK p4.lS p3.iG p3.jh)
 else
 p3
def kr (p0:List bi) (p1:Int) (p3:iL) (p4:bi) (s:Int×iP):Option ((Int×iP)⊕iP):=
 match s with
 |(p2,p5)=>
  bif decide (p2<p4.iB) then
   oB (idx p3.jh.af (IntKind.i64.wrap ((IntKind.i64.wrap (p2-p3.jh.iD))-1))) fun x1=>
   bif dh (p5.af.length+1) 104 then
    some (.inl ((IntKind.i64.wrap (p2+1)),(iP.mk p5.iD p5.iw (p5.af++ [x1]))))
   else
   none
  else
  some (.inr p5)
def pr (p0:List bi) (p1:Int) (p2:Bool) (p3:Int) (p4:Int) (p5:Int) (p6:Int) (p7:Int) (p8:List gi) (p9:Int) (p10:List cc) (p11:Int) (p12:Int) (p13:List iE) (p14:bi):Option iL:=
 bif p2 then
  oB (u5 (iP.mk p11 p12 p13) p14.iG) fun x1=>
  some (iL.mk p3 p4 p14.iG x1)
 else
 some (iL.mk p3 p4 (i4.mk p5 p6 (ad.mk (iJ.mk p7 p8) p9 p10)) (iP.mk p11 p12 p13))
def kV (p0:List bi) (p1:Int) (p2:Bool) (p3:iL) (p4:bi):Option iL:=
 bif p2 then
  oB (u5 p3.jh p4.iG) fun x1=>
  some (iL.mk p3.iK p3.lS p4.iG x1)
 else
 some p3
def qJ (p0:List bi) (p1:Int) (p2:iL) (x1:bi) (x2:Int) (x3:iP):Option ((Int×iL)⊕((Int×iL×bi)⊕((iL×bi×Int×Int×(List iE))⊕iL))):=
 bif dh (x3.af.length+1) 104 then
  oB (pz (iP.mk x3.iD x3.iw (x3.af++ [x1.iR]))) fun x4=>
  bif (x4==0) then
   bif (x1.e5==3) then
    oB (pr p0 p1 (decide ((im p0 p1 (x1.e5==1) p2 x1).iG.iB<x1.iG.iB)) ((im p0 p1 (x1.e5==1) p2 x1).iK) ((im p0 p1 (x1.e5==1) p2 x1).lS) ((im p0 p1 (x1.e5==1) p2 x1).iG.iB) ((im p0 p1 (x1.e5==1) p2 x1).iG.iK) ((im p0 p1 (x1.e5==1) p2 x1).iG.iy.e7.iS) ((im p0 p1 (x1.e5==1) p2 x1).iG.iy.e7.f6) ((im p0 p1 (x1.e5==1) p2 x1).iG.iy.iI) ((im p0 p1 (x1.e5==1) p2 x1).iG.iy.cO) x3.iD x3.iw (x3.af++ [x1.iR]) x1) fun x5=>
    some (.inl ((IntKind.i64.wrap (p1+1)),x5))
   else
   some (.inl ((IntKind.i64.wrap (p1+1)),(iL.mk ((im p0 p1 (x1.e5==1) p2 x1).iK) ((im p0 p1 (x1.e5==1) p2 x1).lS) ((im p0 p1 (x1.e5==1) p2 x1).iG) (iP.mk x3.iD x3.iw (x3.af++ [x1.iR])))))
  else
  some (.inr (.inr (.inl ((im p0 p1 (x1.e5==1) p2 x1),x1,x3.iD,x3.iw,(x3.af++ [x1.iR])))))
 else
 none
def rb (p0:List bi) (p1:Int) (p2:iL) (x1:bi) (x2:Int):Option ((Int×iL)⊕((Int×iL×bi)⊕((iL×bi×Int×Int×(List iE))⊕iL))):=
 bif decide ((im p0 p1 (x1.e5==1) p2 x1).jh.iD<x1.iB) then
  bif decide ((IntKind.i64.wrap ((mw ((im p0 p1 (x1.e5==1) p2 x1).jh))+1))<x1.iB) then
   some (.inr (.inl (10,(im p0 p1 (x1.e5==1) p2 x1),x1)))
  else
  oB (cM (kr p0 p1 (im p0 p1 (x1.e5==1) p2 x1) x1) ((IntKind.i64.wrap ((im p0 p1 (x1.e5==1) p2 x1).jh.iD+1)),(iP.mk ((im p0 p1 (x1.e5==1) p2 x1).jh.iD) ((im p0 p1 (x1.e5==1) p2 x1).jh.iw) []))) fun x3=>
  qJ p0 p1 p2 x1 x2 x3
 else
 bif (x1.e5==3) then
  oB (kV p0 p1 (decide ((im p0 p1 (x1.e5==1) p2 x1).iG.iB<x1.iG.iB)) (im p0 p1 (x1.e5==1) p2 x1) x1) fun x3=>
  some (.inl ((IntKind.i64.wrap (p1+1)),x3))
 else
 some (.inl ((IntKind.i64.wrap (p1+1)),(im p0 p1 (x1.e5==1) p2 x1)))
def kc (p0:List bi) (s:Int×iL):Option ((Int×iL)⊕((Int×iL×bi)⊕((iL×bi×Int×Int×(List iE))⊕iL))):=
 match s with
 |(p1,p2)=>
  bif decide (p1<(p0.length:Int)) then
   oB (idx p0 p1) fun x1=>
   oB (oq x1) fun x2=>
   bif (x2==0) then
    bif (x1.e5==2) then
     rb p0 p1 p2 x1 x2
    else
    bif (x1.e5==3) then
     oB (kV p0 p1 (decide ((im p0 p1 (x1.e5==1) p2 x1).iG.iB<x1.iG.iB)) (im p0 p1 (x1.e5==1) p2 x1) x1) fun x3=>
     some (.inl ((IntKind.i64.wrap (p1+1)),x3))
    else
    some (.inl ((IntKind.i64.wrap (p1+1)),(im p0 p1 (x1.e5==1) p2 x1)))
   else
   some (.inr (.inl (x2,p2,x1)))
  else
  some (.inr (.inr (.inr p2)))
def vG (p0:List bi) (x1:iL):Option (iL×Int):=
 oB (nU x1.iG.iy) fun x2=>
 oB (ux x1.jh) fun x3=>
 some ((iL.mk x1.iK x1.lS (i4.mk x1.iG.iB x1.iG.iK x2) x3),0)
def rL (p0:List bi):Option (iL×Int):=
 oB (cM (kc p0) (0,(sd))) fun
 | .inl (x1,x2,x3)=>
  some ((iL.mk 0 0 (i4.mk 0 0 (ad.mk (iJ.mk 0 []) 0 [])) (iP.mk 0 0 [])),x1)
 | .inr (.inl (x1,x2,x3,x4,x5))=>
  some ((iL.mk 0 0 (i4.mk 0 0 (ad.mk (iJ.mk 0 []) 0 [])) (iP.mk 0 0 [])),10)
 | .inr (.inr x1)=>
  vG p0 x1
def wA (C:aj):Prop:=∀(p0:List bi) (r:iL×Int),rL p0=some r->C 12 [.v (.sl 20 (ah bi.row p0))] []=some (.tup [.agg (cGDisk r.1),.I r.2],[])
def pe (p0:List ByteArray) (p1:List ByteArray) (s:Int):Option (Int⊕(Unit⊕Unit)):=
 match s with
 |p2=>
  bif decide (p2<(p0.length:Int)) then
   oB (idx p0 p2) fun x1=>
   oB (idx p1 p2) fun x2=>
   bif cY x1 x2 then
    some (.inl (IntKind.i64.wrap (p2+1)))
   else
   some (.inr (.inl ()))
  else
  some (.inr (.inr ()))
def pp (p0:List ByteArray) (p1:List ByteArray):Option Bool:=
 bif ((p0.length:Int)==(p1.length:Int)) then
  oB (cM (pe p0 p1) 0) fun
  | .inl _=>
   some false
  | .inr _=>
   some true
 else
 some false
def qe (C:aj):Prop:=∀(p0:List ByteArray) (p1:List ByteArray) (r:Bool),pp p0 p1=some r->C 114 [.v (.sl 1 (ah bY p0)),.v (.sl 1 (ah bY p1))] []=some (.v (.b r),[])
def nN (p0:ae) (p1:ae):Option Bool:=
 bif (p0.e5==p1.e5) then
  bif cY p0.iq p1.iq then
   bif (p0.iO==p1.iO) then
    bif ((p0.iz.length:Int)==(p1.iz.length:Int)) then
     bif ((p0.f9.length:Int)==(p1.f9.length:Int)) then
      oB (pp p0.af p1.af) fun x1=>
      some (!x1)
     else
     some true
    else
    some true
   else
   some true
  else
  some true
 else
 some true
def oU (p0:ae) (p1:ae) (s:Int):Option (Int⊕(Unit⊕Unit)):=
 match s with
 |p2=>
  bif decide (p2<(p0.iz.length:Int)) then
   oB (idx p0.iz p2) fun x1=>
   oB (idx p1.iz p2) fun x2=>
   bif cY x1.iN x2.iN then
    bif cY x1.iq x2.iq then
     some (.inl (IntKind.i64.wrap (p2+1)))
    else
    some (.inr (.inl ()))
   else
   some (.inr (.inl ()))
  else
  some (.inr (.inr ()))
def oW (p0:ae) (p1:ae) (s:Int):Option (Int⊕(Unit⊕Unit)):=
 match s with
 |p2=>
  bif decide (p2<(p0.f9.length:Int)) then
   oB (idx p0.f9 p2) fun x1=>
   oB (idx p1.f9 p2) fun x2=>
   bif cY x1.i6 x2.i6 then
    bif (x1.fN==x2.fN) then
     some (.inl (IntKind.i64.wrap (p2+1)))
    else
    some (.inr (.inl ()))
   else
   some (.inr (.inl ()))
  else
  some (.inr (.inr ()))
def wo (p0:ae) (p1:ae) (x1:Bool):Option Bool:=
 oB (cM (oW p0 p1) 0) fun
 | .inl _=>
  some false
 | .inr _=>
  some true
def qP (p0:ae) (p1:ae):Option Bool:=
 oB (nN p0 p1) fun x1=>
 bif x1 then
  some false
 else
 oB (cM (oU p0 p1) 0) fun
 | .inl _=>
  some false
 | .inr _=>
  wo p0 p1 x1
def uN (C:aj):Prop:=∀(p0:ae) (p1:ae) (r:Bool),qP p0 p1=some r->C 113 [.agg (cGValue p0),.agg (cGValue p1)] []=some (.v (.b r),[])
def mz (p0:iJ) (p1:iJ) (p2:Int) (p3:gi) (p4:gi):Option Bool:=
 bif cY p3.jm p4.jm then
  bif (p3.jX==p4.jX) then
   oB (qP p3.jt p4.jt) fun x1=>
   some (!x1)
  else
  some true
 else
 some true
def ph (p0:iJ) (p1:iJ) (s:Int):Option (Int⊕((gi×gi)⊕Unit)):=
 match s with
 |p2=>
  bif decide (p2<(p0.f6.length:Int)) then
   oB (idx p0.f6 p2) fun x1=>
   oB (idx p1.f6 p2) fun x2=>
   oB (mz p0 p1 p2 x1 x2) fun x3=>
   bif x3 then
    some (.inr (.inl (x1,x2)))
   else
   some (.inl (IntKind.i64.wrap (p2+1)))
  else
  some (.inr (.inr ()))
def qO (p0:iJ) (p1:iJ):Option Bool:=
 bif (p0.iS==p1.iS) then
  bif ((p0.f6.length:Int)==(p1.f6.length:Int)) then
   oB (cM (ph p0 p1) 0) fun
   | .inl (x1,x2)=>
    some false
   | .inr _=>
    some true
  else
  some false
 else
 some false
def uZ (C:aj):Prop:=∀(p0:iJ) (p1:iJ) (r:Bool),qO p0 p1=some r->C 102 [.agg (cGStore p0),.agg (cGStore p1)] []=some (.v (.b r),[])
def qB (p0:iT) (p1:iT):Option Bool:=
 bif (p0.j9==p1.j9) then
  bif cY p0.iq p1.iq then
   bif (p0.fN==p1.fN) then
    oB (pp p0.jG p1.jG) fun x1=>
    some x1
   else
   some false
  else
  some false
 else
 some false
def qV (p0:iT) (p1:iT):Option Bool:=
 oB (qB p0 p1) fun x1=>
 some x1
def uX (C:aj):Prop:=∀(p0:iT) (p1:iT) (r:Bool),qV p0 p1=some r->C 103 [.agg (cGReply p0),.agg (cGReply p1)] []=some (.v (.b r),[])
def mF (p0:ad) (p1:ad):Option Bool:=
 bif (p0.iI==p1.iI) then
  oB (qO p0.e7 p1.e7) fun x1=>
  bif x1 then
   some (!((p0.cO.length:Int)==(p1.cO.length:Int)))
  else
  some true
 else
 some true
def lG (p0:ad) (p1:ad) (p2:Int) (p3:cc) (p4:cc):Option Bool:=
 bif (p3.fId==p4.fId) then
  bif (p3.jQ==p4.jQ) then
   bif (p3.iZ==p4.iZ) then
    oB (qV p3.i5 p4.i5) fun x1=>
    some (!x1)
   else
   some true
  else
  some true
 else
 some true
def nf (p0:ad) (p1:ad) (s:Int):Option (Int⊕((cc×cc)⊕Unit)):=
 match s with
 |p2=>
  bif decide (p2<(p0.cO.length:Int)) then
   oB (idx p0.cO p2) fun x1=>
   oB (idx p1.cO p2) fun x2=>
   oB (lG p0 p1 p2 x1 x2) fun x3=>
   bif x3 then
    some (.inr (.inl (x1,x2)))
   else
   some (.inl (IntKind.i64.wrap (p2+1)))
  else
  some (.inr (.inr ()))
def om (p0:ad) (p1:ad):Option Bool:=
 oB (mF p0 p1) fun x1=>
 bif x1 then
  some false
 else
 oB (cM (nf p0 p1) 0) fun
 | .inl (x2,x3)=>
  some false
 | .inr _=>
  some true
def vz (C:aj):Prop:=∀(p0:ad) (p1:ad) (r:Bool),om p0 p1=some r->C 79 [.agg (cGMachine p0),.agg (cGMachine p1)] []=some (.v (.b r),[])
def rn (p0:i4) (p1:i4):Option Bool:=
 bif (p0.iB==p1.iB) then
  bif (p0.iK==p1.iK) then
   oB (om p0.iy p1.iy) fun x1=>
   some x1
  else
  some false
 else
 some false
def qX (p0:i4) (p1:i4):Option Bool:=
 oB (rn p0 p1) fun x1=>
 some x1
def pu (C:aj):Prop:=∀(p0:i4) (p1:i4) (r:Bool),qX p0 p1=some r->C 38 [.agg (cGSnap p0),.agg (cGSnap p1)] []=some (.v (.b r),[])
def rX (p0:List iE) (p1:List iE) (p2:Int) (x1:iE) (x2:iE):Option (Int⊕(Unit⊕Unit)):=
 bif (x1.iQ.jv==x2.iQ.jv) then
  bif (x1.iQ.jQ==x2.iQ.jQ) then
   bif (x1.iQ.ir.e5==x2.iQ.ir.e5) then
    bif cY x1.iQ.ir.jm x2.iQ.ir.jm then
     bif cY x1.iQ.ir.iN x2.iQ.ir.iN then
      bif cY x1.iQ.ir.iq x2.iQ.ir.iq then
       bif (x1.iQ.ir.fN==x2.iQ.ir.fN) then
        some (.inl (IntKind.i64.wrap (p2+1)))
       else
       some (.inr (.inl ()))
      else
      some (.inr (.inl ()))
     else
     some (.inr (.inl ()))
    else
    some (.inr (.inl ()))
   else
   some (.inr (.inl ()))
  else
  some (.inr (.inl ()))
 else
 some (.inr (.inl ()))
def m3 (p0:List iE) (p1:List iE) (s:Int):Option (Int⊕(Unit⊕Unit)):=
 match s with
 |p2=>
  bif decide (p2<(p0.length:Int)) then
   oB (idx p0 p2) fun x1=>
   oB (idx p1 p2) fun x2=>
   bif (x1.iK==x2.iK) then
    bif (x1.iZ==x2.iZ) then
     bif (x1.wF==x2.wF) then
      rX p0 p1 p2 x1 x2
     else
     some (.inr (.inl ()))
    else
    some (.inr (.inl ()))
   else
   some (.inr (.inl ()))
  else
  some (.inr (.inr ()))
def qU (p0:List iE) (p1:List iE):Option Bool:=
 bif ((p0.length:Int)==(p1.length:Int)) then
  oB (cM (m3 p0 p1) 0) fun
  | .inl _=>
   some false
  | .inr _=>
   some true
 else
 some false
def w7 (C:aj):Prop:=∀(p0:List iE) (p1:List iE) (r:Bool),qU p0 p1=some r->C 80 [.v (.sl 10 (ah iE.row p0)),.v (.sl 10 (ah iE.row p1))] []=some (.v (.b r),[])
def sF (p0:iP) (p1:iP):Option Bool:=
 bif (p0.iD==p1.iD) then
  bif (p0.iw==p1.iw) then
   oB (qU p0.af p1.af) fun x1=>
   some x1
  else
  some false
 else
 some false
def uK (p0:iP) (p1:iP):Option Bool:=
 oB (sF p0 p1) fun x1=>
 some x1
def zd (C:aj):Prop:=∀(p0:iP) (p1:iP) (r:Bool),uK p0 p1=some r->C 39 [.agg (cGLog p0),.agg (cGLog p1)] []=some (.v (.b r),[])
def rH (p0:iL) (p1:iL):Option Bool:=
 bif (p0.iK==p1.iK) then
  bif (p0.lS==p1.lS) then
   oB (qX p0.iG p1.iG) fun x1=>
   bif x1 then
    oB (uK p0.jh p1.jh) fun x2=>
    some x2
   else
   some false
  else
  some false
 else
 some false
def sN (p0:iL) (p1:iL):Option Bool:=
 oB (rH p0 p1) fun x1=>
 some x1
def vU (C:aj):Prop:=∀(p0:iL) (p1:iL) (r:Bool),sN p0 p1=some r->C 13 [.agg (cGDisk p0),.agg (cGDisk p1)] []=some (.v (.b r),[])
def qw (p0:bi) (p1:bi):Option Bool:=
 bif (p0.iR.iQ.jQ==p1.iR.iQ.jQ) then
  bif (p0.iR.iQ.ir.e5==p1.iR.iQ.ir.e5) then
   bif cY p0.iR.iQ.ir.jm p1.iR.iQ.ir.jm then
    bif cY p0.iR.iQ.ir.iN p1.iR.iQ.ir.iN then
     bif cY p0.iR.iQ.ir.iq p1.iR.iQ.ir.iq then
      bif (p0.iR.iQ.ir.fN==p1.iR.iQ.ir.fN) then
       oB (qX p0.iG p1.iG) fun x1=>
       some x1
      else
      some false
     else
     some false
    else
    some false
   else
   some false
  else
  some false
 else
 some false
def qu (p0:bi) (p1:bi):Option Bool:=
 bif (p0.iK==p1.iK) then
  bif (p0.lS==p1.lS) then
   bif (p0.iB==p1.iB) then
    bif (p0.iR.iK==p1.iR.iK) then
     bif (p0.iR.iZ==p1.iR.iZ) then
      bif (p0.iR.wF==p1.iR.wF) then
       bif (p0.iR.iQ.jv==p1.iR.iQ.jv) then
        qw p0 p1
       else
       some false
      else
      some false
     else
     some false
    else
    some false
   else
   some false
  else
  some false
 else
 some false
def pA (p0:bi) (p1:bi):Option Bool:=
 bif (p0.e5==p1.e5) then
  qu p0 p1
 else
 some false
def pB (p0:bi) (p1:bi):Option Bool:=
 oB (pA p0 p1) fun x1=>
 some x1
def wC (C:aj):Prop:=∀(p0:bi) (p1:bi) (r:Bool),pB p0 p1=some r->C 22 [.agg (cGRecord p0),.agg (cGRecord p1)] []=some (.v (.b r),[])
def m7 (p0:List bi) (p1:List bi) (s:Int):Option (Int⊕(Unit⊕Unit)):=
 match s with
 |p2=>
  bif decide (p2<(p0.length:Int)) then
   oB (idx p0 p2) fun x1=>
   oB (idx p1 p2) fun x2=>
   oB (pB x1 x2) fun x3=>
   bif x3 then
    some (.inl (IntKind.i64.wrap (p2+1)))
   else
   some (.inr (.inl ()))
  else
  some (.inr (.inr ()))
def od (p0:List bi) (p1:List bi):Option Bool:=
 bif ((p0.length:Int)==(p1.length:Int)) then
  oB (cM (m7 p0 p1) 0) fun
  | .inl _=>
   some false
  | .inr _=>
   some true
 else
 some false
def vv (C:aj):Prop:=∀(p0:List bi) (p1:List bi) (r:Bool),od p0 p1=some r->C 8 [.v (.sl 20 (ah bi.row p0)),.v (.sl 20 (ah bi.row p1))] []=some (.v (.b r),[])
def mr (p0:List bi) (p1:List bi) (p2:Int) (p3:Int) (p4:iL) (p5:iL):Option Bool:=
 bif (p2==p3) then
  oB (sN p4 p5) fun x1=>
  bif x1 then
   oB (od p1 p0) fun x2=>
   some x2
  else
  some false
 else
 some false
def wH (p0:List bi):Option Bool:=
 oB (qS p0) fun x1=>
 oB (vY x1) fun (x2,x3)=>
 oB (rL p0) fun (x4,x5)=>
 oB (mr p0 x1 x3 x5 x2 x4) fun x6=>
 some x6
end Go.Proofs.YtgcglmoogaldbaaGreat
