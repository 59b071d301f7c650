/- The code of these functions, run by the machine Mx, gives what the plain functions say, if their callees do (part 4). -/
import Derived.Test.YtgcglmoogaldbaaGreatWTy
import Derived.Test.YtgcglmoogaldbaaGreatTapeRecoversD
set_option linter.unusedSimpArgs false
set_option linter.unusedVariables false
set_option linter.constructorNameAsVariable false
set_option linter.unnecessarySimpa false
set_option maxRecDepth 100000
set_option maxHeartbeats 40000000
namespace Go.Proofs.YtgcglmoogaldbaaGreat
open Go Go.Mx Go.Proofs
def N8:List (Nat×List Nat):=[(0,[1]),(1,[1,7]),(2,[2]),(3,[1,17]),(4,[2]),(5,[1,3]),(6,[1,3,22]),(7,[1,3]),(8,[1,3,31]),(9,[2]),(10,[35]),(11,[2]),(12,[2])]
def NQ:List (Nat×List Nat×List Nat):=[(7,[],[1]),(17,[],[1]),(22,[1,3],[1]),(31,[],[1,3]),(35,[],[])]
def FB:cL where
 keep:=ax N8
 ro:=fun t=>t==1
 mv:=fun _=>false
 give:=fun _=>false
 free:=fun _=>[]
 alive:=av NQ
theorem Vn (t:Nat) (x:Bool) (e:Env) (S:bH):cK FB t x ⟨e,S⟩=atO (av NQ t x) e S:=cF rfl t x e S
theorem VS (i:Nat):FB.keep i=ax N8 i:=rfl
theorem Wk (t:Nat):FB.ro t=(t==1):=rfl
theorem PJ (t:Nat):FB.mv t=(false):=rfl
theorem X8:Tryz.f106.results.toList= [.tmp 2]:=rfl
noncomputable def S5:Code:=aU Tryz.f106
noncomputable def Xc:Code:=(bE 0 (aU Tryz.f106)).getD .skip
theorem Uu:bE 0 S5=some Xc:=rfl
def oF (p0:jf) (s:Int):St:=⟨[(1,.rp [.i .i64 p0.jW,.s p0.iq,.i .i64 p0.fN,.sl 1 (ah bY p0.jH)]),(3,.v (.i .i64 s))],[]⟩
def rk (p0:jf) (r:Unit⊕Unit):Option (Ex×St):=match r with
 | .inl r=>some (.ret,⟨[(2,.v (.i .i64 1))],[]⟩)
 | .inr r=>some (.normal,⟨[(1,.rp [.i .i64 p0.jW,.s p0.iq,.i .i64 p0.fN,.sl 1 (ah bY p0.jH)])],[]⟩)
theorem wE (C:aj) (i9:ln C) (p0:jf) (p1:Int) (o:Int⊕(Unit⊕Unit)) (hF:mV p0 p1=some o):evW TT C.wide FB S5 0 (oF p0 p1)=Sum.elim (fun s=>evW TT C.wide FB S5 0 (oF p0 s)) (fun r=>rk p0 r) o:=by
 rw [cG TT FB Uu]
 revert hF
 unfold mV
 try dsimp only
 refine bF (fun h1=>?_) (fun h1=>?_)
 rotate_left 1
 refine az fun x1 h2=>?_
 have g1:decide (0<=p1)=true:=(cp h2).1
 have g2:(ah bY p0.jH)[(p1:Int).toNat]? =some [.s x1]:=cn _ h2
 have g3:=bK (i9 x1 _ (mJ x1))
 refine aX (fun h3=>?_) (fun h3=>?_)
 rotate_left 1
 all_goals (rintro⟨⟩;show cN _ _ _ (aH _ _ _ _ (Code.seq _ _) _)=_;simp (maxSteps:=4000000) only [*,oF,rk,Vn,NQ,VS,N8,PJ,↓RP,RB,RC,↓ai,Nat.reduceBEq,List.map,↓ao,↓am,↓aa,ty3,ty9,mD,ph,zR])
theorem DZ (C:aj) (jE:kW C) (i9:ln C) (lb:oz C) (p0:jf) (r:Int) (hF:oK p0=some r):cR TT C.wide (evW TT C.wide FB S5) FB Tryz.f106.results.toList (aU Tryz.f106) [.agg [.v (.i .i64 p0.jW),.v (.s p0.iq),.v (.i .i64 p0.fN),.v (.sl 1 (ah bY p0.jH))]] []=some (.v (.i .i64 r),[]):=by
 revert hF
 unfold oK
 have g1:=bK (jE p0.jW 0 13 _ (oU p0.jW 0 13))
 have g2:jj p0.jW 0 13=(decide (0<=p0.jW)&&decide (p0.jW<=13)):=by first|rfl|(simp [jj];done)|(simp only [jj];decide)
 refine bF (fun h1=>?_) (fun h1=>?_)
 rotate_left 1
 refine bF (fun h2=>?_) (fun h2=>?_)
 rotate_left 1
 have g3:=bK (i9 p0.iq _ (mJ p0.iq))
 refine bF (fun h3=>?_) (fun h3=>?_)
 rotate_left 1
 refine aX (fun h4=>?_) (fun h4=>?_)
 rotate_left 1
 refine az ?_
 rintro (_|_) h5
 focus
  dsimp only
  have g4:=cH _ _ (wE C i9 p0) h5
  try simp only [oF,rk] at g4
 rotate_left 1
 dsimp only
 have g5:=cH _ _ (wE C i9 p0) h5
 have g6:=bK (lb p0.fN _ (tP p0.fN))
 try simp only [oF,rk] at g5
 refine aX (fun h6=>?_) (fun h6=>?_)
 rotate_left 1
 all_goals (rintro⟨⟩;rw [bk];show cC _ _ _ (aH _ _ _ _ (Code.seq _ _) _)=_;simp (maxSteps:=4000000) only [*,X8,Vn,NQ,VS,N8,Wk,PJ,↓RP,RB,RC,Nat.reduceBEq,bP,List.map,↓ao,↓am,↓aa,ty3,ty9,mD,ph,zR])
def Oo:List (Nat×List Nat):=[(0,[1]),(1,[1,20]),(2,[2]),(3,[1,3]),(4,[1,3,25]),(5,[1,3]),(6,[1,3,4]),(7,[1,3,80]),(8,[2]),(9,[2])]
def SQ:List (Nat×List Nat×List Nat):=[(20,[],[1]),(25,[1,3],[]),(80,[],[1,3])]
def n90:cL where
 keep:=ax Oo
 ro:=fun t=>t==1
 mv:=fun _=>false
 give:=fun _=>false
 free:=fun i=>match i with|7=>[(5,7),(6,7),(5,8),(6,8),(15,17),(16,17),(15,18),(16,18),(15,22),(16,22),(17,22),(18,22),(19,22),(20,22),(21,22),(15,23),(16,23),(17,23),(18,23),(19,23),(20,23),(21,23),(34,36),(35,36),(34,37),(35,37),(34,38),(35,38)]|_=>[]
 alive:=av SQ
theorem qeH (t:Nat) (x:Bool) (e:Env) (S:bH):cK n90 t x ⟨e,S⟩=atO (av SQ t x) e S:=cF rfl t x e S
theorem Tb (i:Nat):n90.keep i=ax Oo i:=rfl
theorem qcN (t:Nat):n90.ro t=(t==1):=rfl
theorem Ql (t:Nat):n90.mv t=(false):=rfl
theorem qg3 (t:Nat):n90.give t=(false):=rfl
theorem qfc:n90.free 7= [(5,7),(6,7),(5,8),(6,8),(15,17),(16,17),(15,18),(16,18),(15,22),(16,22),(17,22),(18,22),(19,22),(20,22),(21,22),(15,23),(16,23),(17,23),(18,23),(19,23),(20,23),(21,23),(34,36),(35,36),(34,37),(35,37),(34,38),(35,38)]:=rfl
theorem qeJ:Tryz.f90.results.toList= [.tmp 2]:=rfl
noncomputable def b90:Code:=aU Tryz.f90
noncomputable def qfJ:Code:=(bE 0 (aU Tryz.f90)).getD .skip
theorem qbH:bE 0 b90=some qfJ:=rfl
theorem y6 (C:aj) (vS:tF C) (jE:kW C) (p0:iv) (c:Code) (ho:cD 0 1 b90=some c) (r:Bool) (hF:mI p0=some r): @cV TT C.wide (evW TT C.wide n90 b90) n90 0 1 ⟨[(1,.rp [.i .i64 p0.af.iL,.sl 8 (ah ip.row p0.af.bi),.i .i64 p0.iG,.sl 7 (ah gi.row p0.bz)])],[]⟩ ⟨c⟩=some (.normal,⟨[(1,.rp [.i .i64 p0.af.iL,.sl 8 (ah ip.row p0.af.bi),.i .i64 p0.iG,.sl 7 (ah gi.row p0.bz)]),(20,.v (.b r))],[]⟩):=by
 have e:=Option.some.inj (ho.symm.trans (rfl:cD 0 1 b90=some _))
 subst e
 clear ho
 show aH _ _ _ _ _ _=_
 revert hF
 unfold mI
 refine az fun x1 h1=>?_
 have g1:=bK (vS p0.af _ h1)
 refine bF (fun h2=>?_) (fun h2=>?_)
 rotate_left 1
 have g2:=bK (jE p0.iG 1 1048577 _ (oU p0.iG 1 1048577))
 have g3:jj p0.iG 1 1048577=(decide (1<=p0.iG)&&decide (p0.iG<=1048577)):=by first|rfl|(simp [jj];done)|(simp only [jj];decide)
 refine bF (fun h3=>?_) (fun h3=>?_)
 rotate_left 1
 refine aX (fun h4=>?_) (fun h4=>?_)
 rotate_left 1
 all_goals (rintro⟨⟩;simp (maxSteps:=4000000) only [*,Tb,Oo,Ql,↓RP,RB,RC,Nat.reduceBEq,List.map,Nat.reduceAdd,bne,ty3,mD,wv,Ab,u4,↓aa _ _ _ _ 1])
theorem xW (C:aj) (jM:kB C) (jE:kW C) (nG:tS C) (p0:iv) (p1:Int) (p2:gi) (c:Code) (ho:cD 0 7 b90=some c) (r:Bool) (hF:lB p0 p1 p2=some r): @cV TT C.wide (evW TT C.wide n90 b90) n90 0 7 ⟨[(1,.rp [.i .i64 p0.af.iL,.sl 8 (ah ip.row p0.af.bi),.i .i64 p0.iG,.sl 7 (ah gi.row p0.bz)]),(3,.v (.i .i64 p1)),(4,.ptr 0 0)],[[.v (.i .i64 p2.fId),.v (.i .i64 p2.je),.v (.i .i64 p2.iS),.v (.i .i64 p2.iX.jW),.v (.s p2.iX.iq),.v (.i .i64 p2.iX.fN),.v (.sl 1 (ah bY p2.iX.jH))]]⟩ ⟨c⟩=some (.normal,⟨[(1,.rp [.i .i64 p0.af.iL,.sl 8 (ah ip.row p0.af.bi),.i .i64 p0.iG,.sl 7 (ah gi.row p0.bz)]),(3,.v (.i .i64 p1)),(80,.v (.b r))],[[.v (.i .i64 p2.fId),.v (.i .i64 p2.je),.v (.i .i64 p2.iS),.v (.i .i64 p2.iX.jW),.v (.s p2.iX.iq),.v (.i .i64 p2.iX.fN),.v (.sl 1 (ah bY p2.iX.jH))]]⟩):=by
 have e:=Option.some.inj (ho.symm.trans (rfl:cD 0 7 b90=some _))
 subst e
 clear ho
 show aH _ _ _ _ _ _=_
 revert hF
 unfold lB
 have g1:=bK (jM p2.fId _ (nu p2.fId))
 refine bF (fun h1=>?_) (fun h1=>?_)
 rotate_left 1
 unfold nZ
 refine aX (fun h2=>?_) (fun h2=>?_)
 rotate_left 1
 refine bF (fun h3=>?_) (fun h3=>?_)
 focus
  have g2:=bK (jE p2.je 0 1048576 _ (oU p2.je 0 1048576))
  have g3:jj p2.je 0 1048576=(decide (0<=p2.je)&&decide (p2.je<=1048576)):=by first|rfl|(simp [jj];done)|(simp only [jj];decide)
  refine bF (fun h4=>?_) (fun h4=>?_)
  rotate_left 1
  refine bF (fun h5=>?_) (fun h5=>?_)
  rotate_left 1
  have g4:=bK (jE p2.iS 0 p0.af.iL _ (oU p2.iS 0 p0.af.iL))
  have g5:jj p2.iS 0 p0.af.iL=(decide (0<=p2.iS)&&decide (p2.iS<=p0.af.iL)):=by first|rfl|(simp [jj];done)|(simp only [jj];decide)
  refine bF (fun h6=>?_) (fun h6=>?_)
  rotate_left 1
  refine bF (fun h7=>?_) (fun h7=>?_)
  rotate_left 1
  refine az fun x1 h8=>?_
  have g6:=bK (nG p2.iX _ h8)
 rotate_left 5
 unfold nP
 refine az fun x1 h4=>?_
 have g7:decide (0<=(IntKind.i64.wrap (p1-1)))=true:=(cp h4).1
 have g8:(ah gi.row p0.bz)[((IntKind.i64.wrap (p1-1)):Int).toNat]? =some [.i .i64 x1.fId,.i .i64 x1.je,.i .i64 x1.iS,.i .i64 x1.iX.jW,.s x1.iX.iq,.i .i64 x1.iX.fN,.sl 1 (ah bY x1.iX.jH)]:=cn _ h4
 refine aX (fun h5=>?_) (fun h5=>?_)
 rotate_left 1
 have g2:=bK (jE p2.je 0 1048576 _ (oU p2.je 0 1048576))
 have g3:jj p2.je 0 1048576=(decide (0<=p2.je)&&decide (p2.je<=1048576)):=by first|rfl|(simp [jj];done)|(simp only [jj];decide)
 refine bF (fun h6=>?_) (fun h6=>?_)
 rotate_left 1
 refine bF (fun h7=>?_) (fun h7=>?_)
 rotate_left 1
 have g4:=bK (jE p2.iS 0 p0.af.iL _ (oU p2.iS 0 p0.af.iL))
 have g5:jj p2.iS 0 p0.af.iL=(decide (0<=p2.iS)&&decide (p2.iS<=p0.af.iL)):=by first|rfl|(simp [jj];done)|(simp only [jj];decide)
 refine bF (fun h8=>?_) (fun h8=>?_)
 rotate_left 1
 refine bF (fun h9=>?_) (fun h9=>?_)
 rotate_left 1
 refine az fun x2 h10=>?_
 have g9:=bK (nG p2.iX _ h10)
 all_goals (rintro⟨⟩;simp (maxSteps:=4000000) only [*,Tb,Oo,qfc,Ql,↓RP,RB,RC,Nat.reduceBEq,List.map,Nat.reduceAdd,Nat.reduceSub,bne,aP,ty3,mD,wv,Ab,u4,zR,A5,↓aq _ _ _ _ 7])
def nf (p0:iv) (s:Int):St:=⟨[(1,.rp [.i .i64 p0.af.iL,.sl 8 (ah ip.row p0.af.bi),.i .i64 p0.iG,.sl 7 (ah gi.row p0.bz)]),(3,.v (.i .i64 s))],[]⟩
def pn (p0:iv) (r:gi⊕Unit):Option (Ex×St):=match r with
 | .inl r=>some (.ret,⟨[(2,.v (.i .i64 13))],[[.v (.i .i64 r.fId),.v (.i .i64 r.je),.v (.i .i64 r.iS),.v (.i .i64 r.iX.jW),.v (.s r.iX.iq),.v (.i .i64 r.iX.fN),.v (.sl 1 (ah bY r.iX.jH))]]⟩)
 | .inr r=>some (.normal,⟨[],[]⟩)
theorem vA (C:aj) (jM:kB C) (jE:kW C) (nG:tS C) (p0:iv) (p1:Int) (o:Int⊕(gi⊕Unit)) (hF:lY p0 p1=some o):evW TT C.wide n90 b90 0 (nf p0 p1)=Sum.elim (fun s=>evW TT C.wide n90 b90 0 (nf p0 s)) (fun r=>pn p0 r) o:=by
 rw [cG TT n90 qbH]
 revert hF
 unfold lY
 try dsimp only
 refine bF (fun h1=>?_) (fun h1=>?_)
 rotate_left 1
 refine az fun x1 h2=>?_
 have g1:decide (0<=p1)=true:=(cp h2).1
 have g2:(ah gi.row p0.bz)[(p1:Int).toNat]? =some [.i .i64 x1.fId,.i .i64 x1.je,.i .i64 x1.iS,.i .i64 x1.iX.jW,.s x1.iX.iq,.i .i64 x1.iX.fN,.sl 1 (ah bY x1.iX.jH)]:=cn _ h2
 refine az fun x2 h3=>?_
 have g3:=xW C jM jE nG p0 p1 x1 _ rfl _ h3
 refine aX (fun h4=>?_) (fun h4=>?_)
 rotate_left 1
 all_goals (rintro⟨⟩;show cN _ _ _ (aH _ _ _ _ (Code.seq _ _) _)=_;simp (maxSteps:=4000000) only [*,nf,pn,qeH,SQ,Tb,Oo,Ql,qg3,↓RP,RB,RC,↓ai,Nat.reduceBEq,bP,List.map,Nat.reduceAdd,Nat.reduceLeDiff,bne,↓ao,↓am,ty3,mD,Ab,u4,A5,↓aa _ _ _ _ 4,↓aa _ _ _ _ 6,↓bg _ _ _ _ 7,↓aa _ _ _ _ 8,↓aa _ _ _ _ 5])
theorem BB (C:aj) (vS:tF C) (jE:kW C) (jM:kB C) (nG:tS C) (p0:iv) (r:Int) (hF:mC p0=some r):cR TT C.wide (evW TT C.wide n90 b90) n90 Tryz.f90.results.toList (aU Tryz.f90) [.agg [.v (.i .i64 p0.af.iL),.v (.sl 8 (ah ip.row p0.af.bi)),.v (.i .i64 p0.iG),.v (.sl 7 (ah gi.row p0.bz))]] []=some (.v (.i .i64 r),[]):=by
 revert hF
 unfold mC
 refine az fun x1 h1=>?_
 have g1:=y6 C vS jE p0 _ rfl _ h1
 refine aX (fun h2=>?_) (fun h2=>?_)
 rotate_left 1
 refine az ?_
 rintro (x2|_) h3
 focus
  dsimp only
  have g2:=cH _ _ (vA C jM jE nG p0) h3
  try simp only [nf,pn] at g2
 rotate_left 1
 dsimp only
 have g3:=cH _ _ (vA C jM jE nG p0) h3
 try simp only [nf,pn] at g3
 all_goals (rintro⟨⟩;rw [bk];show cC _ _ _ (aH _ _ _ _ (Code.seq _ _) _)=_;simp (maxSteps:=4000000) only [*,qeJ,qeH,SQ,Tb,Oo,qcN,↓RP,RB,RC,Nat.reduceBEq,bP,List.map,↓ao,↓am,ty3,mD,u4,↓aa _ _ _ _ 0,↓bg _ _ _ _ 1,↓aa _ _ _ _ 2,↓aa _ _ _ _ 3,↓aa _ _ _ _ 9])
def Xv:List (Nat×List Nat):=[(0,[1]),(1,[1,12]),(2,[2]),(3,[2])]
def qbw:List (Nat×List Nat×List Nat):=[(12,[],[1])]
def n72:cL where
 keep:=ax Xv
 ro:=fun t=>t==1
 mv:=fun _=>false
 give:=fun _=>false
 free:=fun _=>[]
 alive:=av qbw
theorem qiI (t:Nat) (x:Bool) (e:Env) (S:bH):cK n72 t x ⟨e,S⟩=atO (av qbw t x) e S:=cF rfl t x e S
theorem qg8 (i:Nat):n72.keep i=ax Xv i:=rfl
theorem qfZ (t:Nat):n72.ro t=(t==1):=rfl
theorem qcU (t:Nat):n72.mv t=(false):=rfl
theorem qeu:Tryz.f72.results.toList= [.tmp 2]:=rfl
noncomputable def b72:Code:=aU Tryz.f72
theorem FI (C:aj) (jM:kB C) (pT:pE C) (p0:i5) (r:Int) (hF:rD p0=some r):cR TT C.wide (evW TT C.wide n72 b72) n72 Tryz.f72.results.toList (aU Tryz.f72) [.agg [.v (.i .i64 p0.iT),.v (.i .i64 p0.iI),.v (.i .i64 p0.iu.af.iL),.v (.sl 8 (ah ip.row p0.iu.af.bi)),.v (.i .i64 p0.iu.iG),.v (.sl 7 (ah gi.row p0.iu.bz))]] []=some (.v (.i .i64 r),[]):=by
 revert hF
 unfold rD
 have g1:=bK (jM p0.iT _ (nu p0.iT))
 refine bF (fun h1=>?_) (fun h1=>?_)
 rotate_left 1
 have g2:=bK (jM p0.iI _ (nu p0.iI))
 refine bF (fun h2=>?_) (fun h2=>?_)
 rotate_left 1
 refine az fun x1 h3=>?_
 have g3:=bK (pT p0.iu _ h3)
 all_goals (rintro⟨⟩;rw [bk];show cC _ _ _ (aH _ _ _ _ (Code.seq _ _) _)=_;simp (maxSteps:=4000000) only [*,qeu,qiI,qbw,qg8,Xv,qfZ,qcU,↓RP,RB,RC,Nat.reduceBEq,bP,List.map,Nat.reduceAdd,↓ao,↓am,↓aa,ty3,mD,u4,Ah])
def Dd:List (Nat×List Nat):=[(0,[1]),(1,[1,10]),(2,[2]),(3,[1,3]),(4,[1,3,4]),(5,[1,3,4,5]),(6,[1,3,4,5,6]),(7,[1,4,6,86]),(8,[2]),(9,[1,108]),(10,[2]),(11,[112]),(12,[2]),(13,[2])]
def Ru:List (Nat×List Nat×List Nat):=[(10,[],[1]),(86,[],[1,4,6]),(108,[],[1]),(112,[],[])]
def Ae:cL where
 keep:=ax Dd
 ro:=fun t=>t==1
 mv:=fun _=>false
 give:=fun _=>false
 free:=fun _=>[]
 alive:=av Ru
theorem qgj (t:Nat) (x:Bool) (e:Env) (S:bH):cK Ae t x ⟨e,S⟩=atO (av Ru t x) e S:=cF rfl t x e S
theorem Lr (i:Nat):Ae.keep i=ax Dd i:=rfl
theorem qbt (t:Nat):Ae.ro t=(t==1):=rfl
theorem Dp (t:Nat):Ae.mv t=(false):=rfl
theorem YA:Tryz.f112.results.toList= [.tmp 2]:=rfl
noncomputable def BX:Code:=aU Tryz.f112
theorem zb (C:aj) (jE:kW C) (p0:iB) (c:Code) (ho:cD 0 3 BX=some c) (r:Bool) (hF:jo p0=r): @cV TT C.wide (evW TT C.wide Ae BX) Ae 0 3 ⟨[(1,.rp [.i .i64 p0.bt,.s p0.iU,.s p0.iE,.s p0.iq,.i .i64 p0.fN])],[]⟩ ⟨c⟩=some (.normal,⟨[(1,.rp [.i .i64 p0.bt,.s p0.iU,.s p0.iE,.s p0.iq,.i .i64 p0.fN]),(3,.v (.b r))],[]⟩):=by
 have e:=Option.some.inj (ho.symm.trans (rfl:cD 0 3 BX=some _))
 subst e
 clear ho
 show aH _ _ _ _ _ _=_
 revert hF
 unfold jo
 refine aX (fun h1=>?_) (fun h1=>?_)
 rotate_left 1
 refine aX (fun h2=>?_) (fun h2=>?_)
 rotate_left 1
 refine aX (fun h3=>?_) (fun h3=>?_)
 rotate_left 1
 refine aX (fun h4=>?_) (fun h4=>?_)
 rotate_left 1
 have g1:=bK (jE p0.bt 11 16 _ (oU p0.bt 11 16))
 have g2:jj p0.bt 11 16=(decide (11<=p0.bt)&&decide (p0.bt<=16)):=by first|rfl|(simp [jj];done)|(simp only [jj];decide)
 all_goals (rintro rfl;simp (maxSteps:=4000000) only [*,Lr,Dd,Dp,↓RP,RB,RC,Nat.reduceBEq,List.map,ty3,ty4,yd,↓aa _ _ _ _ 3])
theorem yX (C:aj)  (p0:iB) (p1:Bool) (p2:Bool) (c:Code) (ho:cD 0 5 BX=some c) (r:Bool) (hF:kr p0 p1 p2=r): @cV TT C.wide (evW TT C.wide Ae BX) Ae 0 5 ⟨[(1,.rp [.i .i64 p0.bt,.s p0.iU,.s p0.iE,.s p0.iq,.i .i64 p0.fN]),(3,.v (.b p1)),(4,.v (.b p2))],[]⟩ ⟨c⟩=some (.normal,⟨[(1,.rp [.i .i64 p0.bt,.s p0.iU,.s p0.iE,.s p0.iq,.i .i64 p0.fN]),(3,.v (.b p1)),(4,.v (.b p2)),(5,.v (.b r))],[]⟩):=by
 have e:=Option.some.inj (ho.symm.trans (rfl:cD 0 5 BX=some _))
 subst e
 clear ho
 show aH _ _ _ _ _ _=_
 revert hF
 unfold kr
 refine aX (fun h1=>?_) (fun h1=>?_)
 rotate_left 1
 refine aX (fun h2=>?_) (fun h2=>?_)
 rotate_left 1
 all_goals (rintro rfl;simp (maxSteps:=4000000) only [*,Lr,Dd,Dp,↓RP,RB,RC,Nat.reduceBEq,List.map,ty3,ty4,yd,↓aa _ _ _ _ 5])
theorem yE (C:aj)  (p0:iB) (p1:Bool) (p2:Bool) (p3:Bool) (p4:Bool) (c:Code) (ho:cD 0 7 BX=some c) (r:Bool) (hF:lQ p0 p1 p2 p3 p4=r): @cV TT C.wide (evW TT C.wide Ae BX) Ae 0 7 ⟨[(1,.rp [.i .i64 p0.bt,.s p0.iU,.s p0.iE,.s p0.iq,.i .i64 p0.fN]),(3,.v (.b p1)),(4,.v (.b p2)),(5,.v (.b p3)),(6,.v (.b p4))],[]⟩ ⟨c⟩=some (.normal,⟨[(1,.rp [.i .i64 p0.bt,.s p0.iU,.s p0.iE,.s p0.iq,.i .i64 p0.fN]),(4,.v (.b p2)),(6,.v (.b p4)),(86,.v (.b r))],[]⟩):=by
 have e:=Option.some.inj (ho.symm.trans (rfl:cD 0 7 BX=some _))
 subst e
 clear ho
 show aH _ _ _ _ _ _=_
 revert hF
 unfold lQ
 refine aX (fun h1=>?_) (fun h1=>?_)
 focus
  refine aX (fun h2=>?_) (fun h2=>?_)
  focus
   refine aX (fun h3=>?_) (fun h3=>?_)
   focus
    refine aX (fun h4=>?_) (fun h4=>?_)
    rotate_left 1
   rotate_left 2
   refine bF (fun h4=>?_) (fun h4=>?_)
   rotate_left 1
   refine aX (fun h5=>?_) (fun h5=>?_)
   rotate_left 1
  rotate_left 5
  unfold nW
  refine bF (fun h3=>?_) (fun h3=>?_)
  rotate_left 1
  refine aX (fun h4=>?_) (fun h4=>?_)
  focus
   refine aX (fun h5=>?_) (fun h5=>?_)
   rotate_left 1
  rotate_left 2
  refine bF (fun h5=>?_) (fun h5=>?_)
  rotate_left 1
  refine aX (fun h6=>?_) (fun h6=>?_)
  rotate_left 1
 rotate_left 11
 unfold nO
 refine bF (fun h2=>?_) (fun h2=>?_)
 rotate_left 1
 refine aX (fun h3=>?_) (fun h3=>?_)
 focus
  refine aX (fun h4=>?_) (fun h4=>?_)
  focus
   refine aX (fun h5=>?_) (fun h5=>?_)
   rotate_left 1
  rotate_left 2
  refine bF (fun h5=>?_) (fun h5=>?_)
  rotate_left 1
  refine aX (fun h6=>?_) (fun h6=>?_)
  rotate_left 1
 rotate_left 5
 unfold nS
 refine bF (fun h4=>?_) (fun h4=>?_)
 rotate_left 1
 refine aX (fun h5=>?_) (fun h5=>?_)
 focus
  refine aX (fun h6=>?_) (fun h6=>?_)
  rotate_left 1
 rotate_left 2
 refine bF (fun h6=>?_) (fun h6=>?_)
 rotate_left 1
 refine aX (fun h7=>?_) (fun h7=>?_)
 rotate_left 1
 all_goals (rintro rfl;simp (maxSteps:=4000000) only [*,Lr,Dd,Dp,↓RP,RB,RC,Nat.reduceBEq,List.map,bne,ty3,ty9,yd,↓aa _ _ _ _ 7])
theorem zc (C:aj) (jL:lE C) (i9:ln C) (p0:iB) (p1:Bool) (p2:Bool) (c:Code) (ho:cD 0 9 BX=some c) (r:Bool) (hF:lI p0 p1 p2=r): @cV TT C.wide (evW TT C.wide Ae BX) Ae 0 9 ⟨[(1,.rp [.i .i64 p0.bt,.s p0.iU,.s p0.iE,.s p0.iq,.i .i64 p0.fN]),(4,.v (.b p1)),(6,.v (.b p2))],[]⟩ ⟨c⟩=some (.normal,⟨[(1,.rp [.i .i64 p0.bt,.s p0.iU,.s p0.iE,.s p0.iq,.i .i64 p0.fN]),(108,.v (.b r))],[]⟩):=by
 have e:=Option.some.inj (ho.symm.trans (rfl:cD 0 9 BX=some _))
 subst e
 clear ho
 show aH _ _ _ _ _ _=_
 revert hF
 unfold lI
 refine bF (fun h1=>?_) (fun h1=>?_)
 focus
  refine bF (fun h2=>?_) (fun h2=>?_)
  focus
   have g1:=bK (i9 p0.iq _ (mJ p0.iq))
  rotate_left 1
  have g2:=bK (jL p0.iE _ (tT p0.iE))
  refine aX (fun h3=>?_) (fun h3=>?_)
  focus
   have g1:=bK (i9 p0.iq _ (mJ p0.iq))
  rotate_left 1
 rotate_left 3
 have g3:=bK (jL p0.iU _ (tT p0.iU))
 refine bF (fun h2=>?_) (fun h2=>?_)
 rotate_left 1
 refine bF (fun h3=>?_) (fun h3=>?_)
 focus
  have g1:=bK (i9 p0.iq _ (mJ p0.iq))
 rotate_left 1
 have g2:=bK (jL p0.iE _ (tT p0.iE))
 refine aX (fun h4=>?_) (fun h4=>?_)
 focus
  have g1:=bK (i9 p0.iq _ (mJ p0.iq))
 rotate_left 1
 all_goals (rintro rfl;simp (maxSteps:=4000000) only [*,Lr,Dd,Dp,↓RP,RB,RC,Nat.reduceBEq,List.map,ty9,yd,↓aa _ _ _ _ 9])
theorem Bn (C:aj) (jE:kW C) (jL:lE C) (i9:ln C) (lb:oz C) (p0:iB) (r:Int) (hF:rv p0=some r):cR TT C.wide (evW TT C.wide Ae BX) Ae Tryz.f112.results.toList (aU Tryz.f112) [.agg [.v (.i .i64 p0.bt),.v (.s p0.iU),.v (.s p0.iE),.v (.s p0.iq),.v (.i .i64 p0.fN)]] []=some (.v (.i .i64 r),[]):=by
 revert hF
 unfold rv
 refine yw ?_
 unfold nx
 have g1:=bK (jE p0.bt 1 22 _ (oU p0.bt 1 22))
 have g2:jj p0.bt 1 22=(decide (1<=p0.bt)&&decide (p0.bt<=22)):=by first|rfl|(simp [jj];done)|(simp only [jj];decide)
 refine bF (fun h1=>?_) (fun h1=>?_)
 rotate_left 1
 refine bF (fun h2=>?_) (fun h2=>?_)
 rotate_left 1
 have g3:=zb C jE p0 _ rfl (jo p0) rfl
 have g4:=bK (jE p0.bt 4 6 _ (oU p0.bt 4 6))
 have g5:jj p0.bt 4 6=(decide (4<=p0.bt)&&decide (p0.bt<=6)):=by first|rfl|(simp [jj];done)|(simp only [jj];decide)
 have g6:=yX C p0 (jo p0) (decide (4<=p0.bt)&&decide (p0.bt<=6)) _ rfl (kr p0 (jo p0) (decide (4<=p0.bt)&&decide (p0.bt<=6))) rfl
 have g7:=yE C p0 (jo p0) (decide (4<=p0.bt)&&decide (p0.bt<=6)) (kr p0 (jo p0) (decide (4<=p0.bt)&&decide (p0.bt<=6))) (!(p0.bt==22)) _ rfl (lQ p0 (jo p0) (decide (4<=p0.bt)&&decide (p0.bt<=6)) (kr p0 (jo p0) (decide (4<=p0.bt)&&decide (p0.bt<=6))) (!(p0.bt==22))) rfl
 refine aX (fun h3=>?_) (fun h3=>?_)
 rotate_left 1
 have g8:=zc C jL i9 p0 (decide (4<=p0.bt)&&decide (p0.bt<=6)) (!(p0.bt==22)) _ rfl (lI p0 (decide (4<=p0.bt)&&decide (p0.bt<=6)) (!(p0.bt==22))) rfl
 refine aX (fun h4=>?_) (fun h4=>?_)
 rotate_left 1
 have g9:=bK (lb p0.fN _ (tP p0.fN))
 refine aX (fun h5=>?_) (fun h5=>?_)
 rotate_left 1
 all_goals (rintro rfl;rw [bk];show cC _ _ _ (aH _ _ _ _ (Code.seq _ _) _)=_;simp (maxSteps:=4000000) only [*,YA,qgj,Ru,Lr,Dd,qbt,Dp,↓RP,RB,RC,Nat.reduceBEq,bP,List.map,bne,↓ao,↓am,ty3,ty4,mD,yd,↓aa _ _ _ _ 0,↓aa _ _ _ _ 1,↓aa _ _ _ _ 2,↓bg _ _ _ _ 3,↓aa _ _ _ _ 4,↓bg _ _ _ _ 5,↓aa _ _ _ _ 6,↓bg _ _ _ _ 7,↓aa _ _ _ _ 8,↓bg _ _ _ _ 9,↓aa _ _ _ _ 10,↓aa _ _ _ _ 11,↓aa _ _ _ _ 12,↓aa _ _ _ _ 13])
def Qk:List (Nat×List Nat):=[(0,[1]),(1,[1,5]),(2,[14]),(3,[2]),(4,[2]),(5,[1,24]),(6,[2]),(7,[2])]
def Qi:List (Nat×List Nat×List Nat):=[(5,[1],[1]),(14,[],[]),(24,[],[1])]
def MT:cL where
 keep:=ax Qk
 ro:=fun t=>t==1
 mv:=fun _=>false
 give:=fun _=>false
 free:=fun _=>[]
 alive:=av Qi
theorem qgA (t:Nat) (x:Bool) (e:Env) (S:bH):cK MT t x ⟨e,S⟩=atO (av Qi t x) e S:=cF rfl t x e S
theorem qcJ (i:Nat):MT.keep i=ax Qk i:=rfl
theorem W0 (t:Nat):MT.ro t=(t==1):=rfl
theorem WB (t:Nat):MT.mv t=(false):=rfl
theorem WK:Tryz.f100.results.toList= [.tmp 2]:=rfl
noncomputable def qhV:Code:=aU Tryz.f100
theorem FE (C:aj) (jM:kB C) (By:xx C) (p0:i8) (r:Int) (hF:u1 p0=some r):cR TT C.wide (evW TT C.wide MT qhV) MT Tryz.f100.results.toList (aU Tryz.f100) [.agg [.v (.i .i64 p0.iO),.v (.i .i64 p0.je),.v (.i .i64 p0.ad.bt),.v (.s p0.ad.iU),.v (.s p0.ad.iE),.v (.s p0.ad.iq),.v (.i .i64 p0.ad.fN)]] []=some (.v (.i .i64 r),[]):=by
 revert hF
 unfold u1
 refine yw ?_
 unfold qx
 refine bF (fun h1=>?_) (fun h1=>?_)
 focus
  have g1:=bK (jM p0.iO _ (nu p0.iO))
  refine bF (fun h2=>?_) (fun h2=>?_)
  rotate_left 1
  have g2:=bK (jM p0.je _ (nu p0.je))
  refine aX (fun h3=>?_) (fun h3=>?_)
  focus
   have g3:=bK (By p0.ad _ (B2 p0.ad))
  rotate_left 1
 rotate_left 3
 unfold uA
 refine bF (fun h2=>?_) (fun h2=>?_)
 rotate_left 1
 refine bF (fun h3=>?_) (fun h3=>?_)
 rotate_left 1
 refine bF (fun h4=>?_) (fun h4=>?_)
 rotate_left 1
 refine bF (fun h5=>?_) (fun h5=>?_)
 rotate_left 1
 refine bF (fun h6=>?_) (fun h6=>?_)
 rotate_left 1
 refine aX (fun h7=>?_) (fun h7=>?_)
 rotate_left 1
 all_goals (rintro rfl;rw [bk];show cC _ _ _ (aH _ _ _ _ (Code.seq _ _) _)=_;simp (maxSteps:=4000000) only [*,WK,qgA,Qi,qcJ,Qk,W0,WB,↓RP,RB,RC,Nat.reduceBEq,bP,List.map,Nat.reduceAdd,aG,bne,↓ao,↓am,↓aa,ty3,ty9,mD,yd,CI])
def Ws:List (Nat×List Nat):=[(0,[1]),(1,[1,12]),(2,[2]),(3,[1,15]),(4,[2]),(5,[22]),(6,[2]),(7,[2])]
def XA:List (Nat×List Nat×List Nat):=[(12,[],[1]),(15,[1],[1]),(22,[],[])]
def n74:cL where
 keep:=ax Ws
 ro:=fun t=>t==1
 mv:=fun _=>false
 give:=fun _=>false
 free:=fun _=>[]
 alive:=av XA
theorem qhq (t:Nat) (x:Bool) (e:Env) (S:bH):cK n74 t x ⟨e,S⟩=atO (av XA t x) e S:=cF rfl t x e S
theorem qii (i:Nat):n74.keep i=ax Ws i:=rfl
theorem qc8 (t:Nat):n74.ro t=(t==1):=rfl
theorem qfF (t:Nat):n74.mv t=(false):=rfl
theorem qfu:Tryz.f74.results.toList= [.tmp 2]:=rfl
noncomputable def b74:Code:=aU Tryz.f74
theorem EU (C:aj) (jM:kB C) (jE:kW C) (E8:zT C) (p0:iV) (r:Int) (hF:u2 p0=some r):cR TT C.wide (evW TT C.wide n74 b74) n74 Tryz.f74.results.toList (aU Tryz.f74) [.agg [.v (.i .i64 p0.iI),.v (.i .i64 p0.iS),.v (.b p0.jY),.v (.i .i64 p0.cO.iO),.v (.i .i64 p0.cO.je),.v (.i .i64 p0.cO.ad.bt),.v (.s p0.cO.ad.iU),.v (.s p0.cO.ad.iE),.v (.s p0.cO.ad.iq),.v (.i .i64 p0.cO.ad.fN)]] []=some (.v (.i .i64 r),[]):=by
 revert hF
 unfold u2
 refine yw ?_
 unfold oR
 have g1:=bK (jM p0.iI _ (nu p0.iI))
 refine bF (fun h1=>?_) (fun h1=>?_)
 rotate_left 1
 have g2:=bK (jE p0.iS 0 1073741824 _ (oU p0.iS 0 1073741824))
 have g3:jj p0.iS 0 1073741824=(decide (0<=p0.iS)&&decide (p0.iS<=1073741824)):=by first|rfl|(simp [jj];done)|(simp only [jj];decide)
 refine bF (fun h2=>?_) (fun h2=>?_)
 rotate_left 1
 refine bF (fun h3=>?_) (fun h3=>?_)
 rotate_left 1
 refine bF (fun h4=>?_) (fun h4=>?_)
 focus
  have g4:=bK (E8 p0.cO _ (Fi p0.cO))
 rotate_left 1
 unfold un
 refine bF (fun h5=>?_) (fun h5=>?_)
 rotate_left 1
 refine bF (fun h6=>?_) (fun h6=>?_)
 rotate_left 1
 refine bF (fun h7=>?_) (fun h7=>?_)
 rotate_left 1
 refine bF (fun h8=>?_) (fun h8=>?_)
 rotate_left 1
 refine bF (fun h9=>?_) (fun h9=>?_)
 rotate_left 1
 refine bF (fun h10=>?_) (fun h10=>?_)
 rotate_left 1
 refine aX (fun h11=>?_) (fun h11=>?_)
 rotate_left 1
 all_goals (rintro rfl;rw [bk];show cC _ _ _ (aH _ _ _ _ (Code.seq _ _) _)=_;simp (maxSteps:=4000000) only [*,qfu,qhq,XA,qii,Ws,qc8,qfF,↓RP,RB,RC,Nat.reduceBEq,bP,List.map,Nat.reduceAdd,aG,bne,↓ao,↓am,↓aa,ty3,ty4,mD,yd,CI,zN])
def TQ:List (Nat×List Nat):=[(0,[1]),(1,[1,6]),(2,[2]),(3,[1,46]),(4,[2]),(5,[1,49]),(6,[2]),(7,[1,55]),(8,[65]),(9,[2]),(10,[2]),(11,[1,69]),(12,[2]),(13,[2])]
def Zb:List (Nat×List Nat×List Nat):=[(6,[],[1]),(46,[],[1]),(49,[1],[1]),(55,[1],[1]),(65,[],[]),(69,[],[1])]
def n32:cL where
 keep:=ax TQ
 ro:=fun t=>t==1
 mv:=fun _=>false
 give:=fun _=>false
 free:=fun _=>[]
 alive:=av Zb
theorem qht (t:Nat) (x:Bool) (e:Env) (S:bH):cK n32 t x ⟨e,S⟩=atO (av Zb t x) e S:=cF rfl t x e S
theorem qeM (i:Nat):n32.keep i=ax TQ i:=rfl
theorem qe8 (t:Nat):n32.ro t=(t==1):=rfl
theorem VT (t:Nat):n32.mv t=(false):=rfl
theorem qgN:Tryz.f32.results.toList= [.tmp 2]:=rfl
noncomputable def b32:Code:=aU Tryz.f32
theorem zI (C:aj) (qE:uJ C) (p0:iw) (c:Code) (ho:cD 0 3 b32=some c) (r:Bool) (hF:kD p0=r): @cV TT C.wide (evW TT C.wide n32 b32) n32 0 3 ⟨[(1,.rp [.i .i64 p0.bt,.i .i64 p0.iI,.i .i64 p0.lz,.i .i64 p0.iT,.i .i64 p0.iz.iI,.i .i64 p0.iz.iS,.b p0.iz.jY,.i .i64 p0.iz.cO.iO,.i .i64 p0.iz.cO.je,.i .i64 p0.iz.cO.ad.bt,.s p0.iz.cO.ad.iU,.s p0.iz.cO.ad.iE,.s p0.iz.cO.ad.iq,.i .i64 p0.iz.cO.ad.fN,.i .i64 p0.iH.iT,.i .i64 p0.iH.iI,.i .i64 p0.iH.iu.af.iL,.sl 8 (ah ip.row p0.iH.iu.af.bi),.i .i64 p0.iH.iu.iG,.sl 7 (ah gi.row p0.iH.iu.bz)])],[]⟩ ⟨c⟩=some (.normal,⟨[(1,.rp [.i .i64 p0.bt,.i .i64 p0.iI,.i .i64 p0.lz,.i .i64 p0.iT,.i .i64 p0.iz.iI,.i .i64 p0.iz.iS,.b p0.iz.jY,.i .i64 p0.iz.cO.iO,.i .i64 p0.iz.cO.je,.i .i64 p0.iz.cO.ad.bt,.s p0.iz.cO.ad.iU,.s p0.iz.cO.ad.iE,.s p0.iz.cO.ad.iq,.i .i64 p0.iz.cO.ad.fN,.i .i64 p0.iH.iT,.i .i64 p0.iH.iI,.i .i64 p0.iH.iu.af.iL,.sl 8 (ah ip.row p0.iH.iu.af.bi),.i .i64 p0.iH.iu.iG,.sl 7 (ah gi.row p0.iH.iu.bz)]),(46,.v (.b r))],[]⟩):=by
 have e:=Option.some.inj (ho.symm.trans (rfl:cD 0 3 b32=some _))
 subst e
 clear ho
 show aH _ _ _ _ _ _=_
 revert hF
 unfold kD
 refine aX (fun h1=>?_) (fun h1=>?_)
 focus
  unfold oP
  refine aX (fun h2=>?_) (fun h2=>?_)
  focus
   refine aX (fun h3=>?_) (fun h3=>?_)
   rotate_left 1
   have g1:=bK (qE p0.iH _ (uS p0.iH))
  rotate_left 2
  refine bF (fun h3=>?_) (fun h3=>?_)
  rotate_left 1
  refine bF (fun h4=>?_) (fun h4=>?_)
  rotate_left 1
  refine bF (fun h5=>?_) (fun h5=>?_)
  rotate_left 1
  refine aX (fun h6=>?_) (fun h6=>?_)
  rotate_left 1
  refine bF (fun h7=>?_) (fun h7=>?_)
  rotate_left 1
  unfold oN
  refine bF (fun h8=>?_) (fun h8=>?_)
  rotate_left 1
  refine bF (fun h9=>?_) (fun h9=>?_)
  rotate_left 1
  refine bF (fun h10=>?_) (fun h10=>?_)
  rotate_left 1
  refine bF (fun h11=>?_) (fun h11=>?_)
  rotate_left 1
  refine bF (fun h12=>?_) (fun h12=>?_)
  rotate_left 1
  refine bF (fun h13=>?_) (fun h13=>?_)
  rotate_left 1
  refine aX (fun h14=>?_) (fun h14=>?_)
  rotate_left 1
  have g1:=bK (qE p0.iH _ (uS p0.iH))
 rotate_left 15
 refine bF (fun h2=>?_) (fun h2=>?_)
 rotate_left 1
 refine bF (fun h3=>?_) (fun h3=>?_)
 rotate_left 1
 unfold oV
 refine aX (fun h4=>?_) (fun h4=>?_)
 focus
  refine aX (fun h5=>?_) (fun h5=>?_)
  rotate_left 1
  have g1:=bK (qE p0.iH _ (uS p0.iH))
 rotate_left 2
 refine bF (fun h5=>?_) (fun h5=>?_)
 rotate_left 1
 refine bF (fun h6=>?_) (fun h6=>?_)
 rotate_left 1
 refine bF (fun h7=>?_) (fun h7=>?_)
 rotate_left 1
 refine aX (fun h8=>?_) (fun h8=>?_)
 rotate_left 1
 refine bF (fun h9=>?_) (fun h9=>?_)
 rotate_left 1
 unfold oT
 refine bF (fun h10=>?_) (fun h10=>?_)
 rotate_left 1
 refine bF (fun h11=>?_) (fun h11=>?_)
 rotate_left 1
 refine bF (fun h12=>?_) (fun h12=>?_)
 rotate_left 1
 refine bF (fun h13=>?_) (fun h13=>?_)
 rotate_left 1
 refine bF (fun h14=>?_) (fun h14=>?_)
 rotate_left 1
 refine bF (fun h15=>?_) (fun h15=>?_)
 rotate_left 1
 refine aX (fun h16=>?_) (fun h16=>?_)
 rotate_left 1
 have g1:=bK (qE p0.iH _ (uS p0.iH))
 all_goals (rintro rfl;simp (maxSteps:=4000000) only [*,qeM,TQ,VT,↓RP,RB,RC,Nat.reduceBEq,bP,List.map,Nat.reduceAdd,aG,bne,ty3,ty4,Ah,CI,zN,CU,↓aa _ _ _ _ 3])
theorem CS (C:aj) (jE:kW C) (qE:uJ C) (EZ:wV C) (jM:kB C) (sv:sy C) (p0:iw) (r:Int) (hF:mA p0=some r):cR TT C.wide (evW TT C.wide n32 b32) n32 Tryz.f32.results.toList (aU Tryz.f32) [.agg [.v (.i .i64 p0.bt),.v (.i .i64 p0.iI),.v (.i .i64 p0.lz),.v (.i .i64 p0.iT),.v (.i .i64 p0.iz.iI),.v (.i .i64 p0.iz.iS),.v (.b p0.iz.jY),.v (.i .i64 p0.iz.cO.iO),.v (.i .i64 p0.iz.cO.je),.v (.i .i64 p0.iz.cO.ad.bt),.v (.s p0.iz.cO.ad.iU),.v (.s p0.iz.cO.ad.iE),.v (.s p0.iz.cO.ad.iq),.v (.i .i64 p0.iz.cO.ad.fN),.v (.i .i64 p0.iH.iT),.v (.i .i64 p0.iH.iI),.v (.i .i64 p0.iH.iu.af.iL),.v (.sl 8 (ah ip.row p0.iH.iu.af.bi)),.v (.i .i64 p0.iH.iu.iG),.v (.sl 7 (ah gi.row p0.iH.iu.bz))]] []=some (.v (.i .i64 r),[]):=by
 revert hF
 unfold mA
 have g1:=bK (jE p0.bt 1 3 _ (oU p0.bt 1 3))
 have g2:jj p0.bt 1 3=(decide (1<=p0.bt)&&decide (p0.bt<=3)):=by first|rfl|(simp [jj];done)|(simp only [jj];decide)
 refine bF (fun h1=>?_) (fun h1=>?_)
 rotate_left 1
 refine bF (fun h2=>?_) (fun h2=>?_)
 rotate_left 1
 have g3:=zI C qE p0 _ rfl (kD p0) rfl
 refine aX (fun h3=>?_) (fun h3=>?_)
 rotate_left 1
 unfold ug
 refine aX (fun h4=>?_) (fun h4=>?_)
 focus
  refine az fun x1 h5=>?_
  have g4:=bK (EZ p0.iH _ h5)
 rotate_left 1
 refine bF (fun h5=>?_) (fun h5=>?_)
 focus
  have g5:=bK (jM p0.iT _ (nu p0.iT))
  refine aX (fun h6=>?_) (fun h6=>?_)
  focus
   have g6:=bK (sv p0.iz _ (zY p0.iz))
  rotate_left 1
 rotate_left 2
 have g7:=bK (jM p0.iI _ (nu p0.iI))
 refine bF (fun h6=>?_) (fun h6=>?_)
 rotate_left 1
 have g8:=bK (jE p0.lz (-1) 2 _ (oU p0.lz (-1) 2))
 have g9:jj p0.lz (-1) 2=(decide ((-1)<=p0.lz)&&decide (p0.lz<=2)):=by first|rfl|(simp [jj];done)|(simp only [jj];decide)
 refine bF (fun h7=>?_) (fun h7=>?_)
 rotate_left 1
 refine aX (fun h8=>?_) (fun h8=>?_)
 rotate_left 1
 all_goals (rintro⟨⟩;rw [bk];show cC _ _ _ (aH _ _ _ _ (Code.seq _ _) _)=_;simp (maxSteps:=4000000) only [*,qgN,qht,Zb,qeM,TQ,qe8,VT,↓RP,RB,RC,Nat.reduceBEq,bP,List.map,Nat.reduceAdd,Int.reduceNeg,↓ao,↓am,ty3,mD,Ah,zN,CU,↓aa _ _ _ _ 0,↓aa _ _ _ _ 1,↓aa _ _ _ _ 2,↓bg _ _ _ _ 3,↓aa _ _ _ _ 4,↓aa _ _ _ _ 5,↓aa _ _ _ _ 6,↓aa _ _ _ _ 7,↓aa _ _ _ _ 8,↓aa _ _ _ _ 9,↓aa _ _ _ _ 10,↓aa _ _ _ _ 11,↓aa _ _ _ _ 12,↓aa _ _ _ _ 13])
def Zr:List (Nat×List Nat):=[(0,[0]),(1,[0]),(2,[0,19]),(3,[2]),(4,[2])]
def Wp:List (Nat×List Nat×List Nat):=[(19,[],[0])]
def n85:cL where
 keep:=ax Zr
 ro:=fun _=>false
 mv:=fun _=>false
 give:=fun _=>false
 free:=fun i=>match i with|2=>[(0,4),(1,4),(2,4),(3,4),(0,5),(1,5),(2,5),(3,5),(0,6),(1,6),(2,6),(3,6),(0,7),(1,7),(2,7),(3,7),(0,8),(1,8),(2,8),(3,8)]|4=>[(0,4),(1,4),(2,4),(3,4),(0,5),(1,5),(2,5),(3,5),(0,6),(1,6),(2,6),(3,6),(0,7),(1,7),(2,7),(3,7),(0,8),(1,8),(2,8),(3,8)]|_=>[]
 alive:=av Wp
theorem qhI (t:Nat) (x:Bool) (e:Env) (S:bH):cK n85 t x ⟨e,S⟩=atO (av Wp t x) e S:=cF rfl t x e S
theorem qic (i:Nat):n85.keep i=ax Zr i:=rfl
theorem qeC (t:Nat):n85.mv t=(false):=rfl
theorem qeW (t:Nat):n85.give t=(false):=rfl
theorem qg4:n85.free 2= [(0,4),(1,4),(2,4),(3,4),(0,5),(1,5),(2,5),(3,5),(0,6),(1,6),(2,6),(3,6),(0,7),(1,7),(2,7),(3,7),(0,8),(1,8),(2,8),(3,8)]:=rfl
theorem qec:n85.free 4= [(0,4),(1,4),(2,4),(3,4),(0,5),(1,5),(2,5),(3,5),(0,6),(1,6),(2,6),(3,6),(0,7),(1,7),(2,7),(3,7),(0,8),(1,8),(2,8),(3,8)]:=rfl
theorem qeN:Tryz.f85.results.toList= [.tmp 2]:=rfl
noncomputable def b85:Code:=aU Tryz.f85
theorem Fa (C:aj)  (p0:iK) (r:Int×iK) (hF:jn p0=some r):cR TT C.wide (evW TT C.wide n85 b85) n85 Tryz.f85.results.toList (aU Tryz.f85) [.ptr 0 0] [[.v (.sl 1 (ah cE p0.fb)),.v (.i .i64 p0.fat)]]=some (.v (.i .i64 r.1),[[.v (.sl 1 (ah cE r.2.fb)),.v (.i .i64 r.2.fat)]]):=by
 revert hF
 unfold jn
 refine aX (fun h1=>?_) (fun h1=>?_)
 rotate_left 1
 refine az fun x1 h2=>?_
 have g1:decide (0<=(IntKind.i64.wrap ((IntKind.i64.wrap (p0.fat+1))-1)))=true:=(cp h2).1
 have g2:(ah cE p0.fb)[((IntKind.i64.wrap ((IntKind.i64.wrap (p0.fat+1))-1)):Int).toNat]? =some [.i .u8 x1]:=cn _ h2
 all_goals (rintro⟨⟩;rw [bk];show cC _ _ _ (aH _ _ _ _ (Code.seq _ _) _)=_;simp (maxSteps:=4000000) only [*,qeN,qhI,Wp,qic,Zr,qg4,qec,qeC,qeW,↓RP,RB,RC,Nat.reduceBEq,List.map,Nat.reduceAdd,Nat.reduceSub,Nat.reduceLeDiff,↓ao,↓am,↓aa,↓aq,ty3,ty5,qM,Kn])
def SU:List (Nat×List Nat):=[(0,[0]),(1,[0,3]),(2,[0,3,4]),(3,[0,3,4,6]),(4,[0,3,4]),(5,[0,3,4]),(6,[2])]
def Z2:List (Nat×List Nat×List Nat):=[(6,[0,3,4],[3])]
def n84:cL where
 keep:=ax SU
 ro:=fun _=>false
 mv:=fun _=>false
 give:=fun _=>false
 free:=fun _=>[]
 alive:=av Z2
theorem qhy (t:Nat) (x:Bool) (e:Env) (S:bH):cK n84 t x ⟨e,S⟩=atO (av Z2 t x) e S:=cF rfl t x e S
theorem qcP (i:Nat):n84.keep i=ax SU i:=rfl
theorem qdq (t:Nat):n84.give t=(false):=rfl
theorem qdm:Tryz.f84.results.toList= [.tmp 2]:=rfl
noncomputable def b84:Code:=aU Tryz.f84
noncomputable def qgK:Code:=(bE 0 (aU Tryz.f84)).getD .skip
theorem qah:bE 0 b84=some qgK:=rfl
def rQ  (s:Int×Int×iK):St:=⟨[(0,.ptr 0 0),(3,.v (.i .i64 s.1)),(4,.v (.i .i64 s.2.1))],[[.v (.sl 1 (ah cE s.2.2.fb)),.v (.i .i64 s.2.2.fat)]]⟩
def uo  (r:Int×iK):Option (Ex×St):=some (.normal,⟨[(3,.v (.i .i64 r.1))],[[.v (.sl 1 (ah cE r.2.fb)),.v (.i .i64 r.2.fat)]]⟩)
theorem Ca (C:aj) (jl:jZ C)  (s:Int×Int×iK) (o:(Int×Int×iK)⊕(Int×iK)) (hF:kK  s=some o):evW TT C.wide n84 b84 0 (rQ  s)=Sum.elim (fun s=>evW TT C.wide n84 b84 0 (rQ  s)) (fun r=>uo  r) o:=by
 obtain⟨p0,p1,p2⟩:=s
 rw [cG TT n84 qah]
 revert hF
 unfold kK
 try dsimp only
 refine bF (fun h1=>?_) (fun h1=>?_)
 rotate_left 1
 refine az ?_
 rintro⟨x1,x2⟩ h2
 dsimp only
 have g1:C.wide 85 [.ptr 0 0] [[.v (.sl 1 (ah cE p2.fb)),.v (.i .i64 p2.fat)]]=some (.v (.i .i64 x1),[[.v (.sl 1 (ah cE x2.fb)),.v (.i .i64 x2.fat)]]):=cX [0] rfl rfl rfl rfl (jl p2 _ h2) rfl rfl
 all_goals (rintro⟨⟩;show cN _ _ _ (aH _ _ _ _ (Code.seq _ _) _)=_;simp (maxSteps:=4000000) only [*,rQ,uo,qhy,Z2,qcP,SU,qdq,↓RP,RB,RC,↓ab,Nat.reduceBEq,List.map,↓ao,↓am,↓aa,ty3])
theorem Ff (C:aj) (jl:jZ C) (p0:iK) (r:Int×iK) (hF:js p0=some r):cR TT C.wide (evW TT C.wide n84 b84) n84 Tryz.f84.results.toList (aU Tryz.f84) [.ptr 0 0] [[.v (.sl 1 (ah cE p0.fb)),.v (.i .i64 p0.fat)]]=some (.v (.i .i64 r.1),[[.v (.sl 1 (ah cE r.2.fb)),.v (.i .i64 r.2.fat)]]):=by
 revert hF
 unfold js
 refine az ?_
 rintro⟨x1,x2⟩ h1
 dsimp only
 have g1:=cH _ _ (Ca C jl) h1
 try simp only [rQ,uo] at g1
 all_goals (rintro⟨⟩;rw [bk];show cC _ _ _ (aH _ _ _ _ (Code.seq _ _) _)=_;simp (maxSteps:=4000000) only [*,qdm,qcP,SU,↓RP,RB,RC,Nat.reduceBEq,List.map,↓ao,↓aa,ty3])
def ZO:List (Nat×List Nat):=[(0,[0]),(1,[2])]
def n86:cL where
 keep:=ax ZO
 ro:=fun _=>false
 mv:=fun _=>false
 give:=fun _=>false
 free:=fun i=>match i with|1=>[(0,4),(1,4),(2,4),(3,4),(0,5),(1,5),(2,5),(3,5),(0,6),(1,6),(2,6),(3,6),(0,7),(1,7),(2,7),(3,7),(0,8),(1,8),(2,8),(3,8)]|_=>[]
theorem qh1 (i:Nat):n86.keep i=ax ZO i:=rfl
theorem qgL (t:Nat):n86.mv t=(false):=rfl
theorem qcS:n86.free 1= [(0,4),(1,4),(2,4),(3,4),(0,5),(1,5),(2,5),(3,5),(0,6),(1,6),(2,6),(3,6),(0,7),(1,7),(2,7),(3,7),(0,8),(1,8),(2,8),(3,8)]:=rfl
theorem qgt:Tryz.f86.results.toList= [.tmp 2]:=rfl
noncomputable def b86:Code:=aU Tryz.f86
theorem EX (C:aj)  (p0:iK) (r:Bool×iK) (hF:jt p0=some r):cR TT C.wide (evW TT C.wide n86 b86) n86 Tryz.f86.results.toList (aU Tryz.f86) [.ptr 0 0] [[.v (.sl 1 (ah cE p0.fb)),.v (.i .i64 p0.fat)]]=some (.v (.b r.1),[[.v (.sl 1 (ah cE r.2.fb)),.v (.i .i64 r.2.fat)]]):=by
 revert hF
 unfold jt
 all_goals (rintro⟨⟩;rw [bk];show cC _ _ _ (aH _ _ _ _ (Code.seq _ _) _)=_;simp (maxSteps:=4000000) only [*,qgt,qh1,ZO,qcS,qgL,↓RP,RB,RC,Nat.reduceBEq,List.map,Nat.reduceSub,↓ao,↓aa,↓aq,ty3,ty4,qM,Kn])
def UK:List (Nat×List Nat):=[(0,[0]),(1,[0,3]),(2,[0,3,4,25]),(3,[0,3,4,5,25]),(4,[0,3,4,5,16,25]),(5,[0,3,4,5,25]),(6,[0,3,4,5,6,25]),(7,[0,3,4,5,25]),(8,[2])]
def qbO:List (Nat×List Nat×List Nat):=[(16,[0,3,4,5,25],[4,25])]
def n87:cL where
 keep:=ax UK
 ro:=fun _=>false
 mv:=fun _=>false
 give:=fun _=>false
 free:=fun _=>[]
 alive:=av qbO
theorem qiv (t:Nat) (x:Bool) (e:Env) (S:bH):cK n87 t x ⟨e,S⟩=atO (av qbO t x) e S:=cF rfl t x e S
theorem qdF (i:Nat):n87.keep i=ax UK i:=rfl
theorem Vd (t:Nat):n87.give t=(false):=rfl
theorem qdc:Tryz.f87.results.toList= [.tmp 2]:=rfl
noncomputable def b87:Code:=aU Tryz.f87
noncomputable def qep:Code:=(bE 0 (aU Tryz.f87)).getD .skip
theorem Yc:bE 0 b87=some qep:=rfl
def sI (p0:Int) (s:(List Int)×Int×iK):St:=⟨[(0,.ptr 0 0),(3,.v (.i .i64 p0)),(4,.own 1 (ah cE s.1)),(5,.v (.i .i64 s.2.1)),(25,.bad)],[[.v (.sl 1 (ah cE s.2.2.fb)),.v (.i .i64 s.2.2.fat)]]⟩
def vu (p0:Int) (r:(List Int)×iK):Option (Ex×St):=some (.normal,⟨[(4,.own 1 (ah cE r.1)),(25,.bad)],[[.v (.sl 1 (ah cE r.2.fb)),.v (.i .i64 r.2.fat)]]⟩)
theorem CG (C:aj) (ji:jV C) (jl:jZ C) (p0:Int) (s:(List Int)×Int×iK) (o:((List Int)×Int×iK)⊕((List Int)×iK)) (hF:ky p0 s=some o):evW TT C.wide n87 b87 0 (sI p0 s)=Sum.elim (fun s=>evW TT C.wide n87 b87 0 (sI p0 s)) (fun r=>vu p0 r) o:=by
 obtain⟨p1,p2,p3⟩:=s
 rw [cG TT n87 Yc]
 revert hF
 unfold ky
 try dsimp only
 refine bF (fun h1=>?_) (fun h1=>?_)
 rotate_left 1
 refine az ?_
 rintro⟨x1,x2⟩ h2
 dsimp only
 have g1:C.wide 86 [.ptr 0 0] [[.v (.sl 1 (ah cE p3.fb)),.v (.i .i64 p3.fat)]]=some (.v (.b x1),[[.v (.sl 1 (ah cE x2.fb)),.v (.i .i64 x2.fat)]]):=cX [0] rfl rfl rfl rfl (ji p3 _ h2) rfl rfl
 refine aX (fun h3=>?_) (fun h3=>?_)
 rotate_left 1
 refine az ?_
 rintro⟨x3,x4⟩ h4
 dsimp only
 have g2:C.wide 85 [.ptr 0 0] [[.v (.sl 1 (ah cE x2.fb)),.v (.i .i64 x2.fat)]]=some (.v (.i .i64 x3),[[.v (.sl 1 (ah cE x4.fb)),.v (.i .i64 x4.fat)]]):=cX [0] rfl rfl rfl rfl (jl x2 _ h4) rfl rfl
 refine aX (fun h5=>?_) (fun _=>nofun)
 all_goals (rintro⟨⟩;show cN _ _ _ (aH _ _ _ _ (Code.seq _ _) _)=_;simp (maxSteps:=4000000) only [*,sI,vu,qiv,qbO,qdF,UK,Vd,↓RP,RB,RC,↓ai,Nat.reduceBEq,List.map,Nat.reduceMul,Nat.reduceLeDiff,bne,↓ao,↓am,↓aa,ty3,ty5,qM])
theorem IM (C:aj) (jl:jZ C) (ji:jV C) (p0:iK) (r:ByteArray×iK) (hF:jJ p0=some r):cR TT C.wide (evW TT C.wide n87 b87) n87 Tryz.f87.results.toList (aU Tryz.f87) [.ptr 0 0] [[.v (.sl 1 (ah cE p0.fb)),.v (.i .i64 p0.fat)]]=some (.v (.s r.1),[[.v (.sl 1 (ah cE r.2.fb)),.v (.i .i64 r.2.fat)]]):=by
 revert hF
 unfold jJ
 refine az ?_
 rintro⟨x1,x2⟩ h1
 dsimp only
 have g1:C.wide 85 [.ptr 0 0] [[.v (.sl 1 (ah cE p0.fb)),.v (.i .i64 p0.fat)]]=some (.v (.i .i64 x1),[[.v (.sl 1 (ah cE x2.fb)),.v (.i .i64 x2.fat)]]):=cX [0] rfl rfl rfl rfl (jl p0 _ h1) rfl rfl
 refine az ?_
 rintro⟨x3,x4⟩ h2
 dsimp only
 have g2:=cH _ _ (CG C ji jl x1) h2
 try simp only [ak,sI,vu] at g2
 refine aX (fun h3=>?_) (fun _=>nofun)
 all_goals (rintro⟨⟩;rw [bk];show cC _ _ _ (aH _ _ _ _ (Code.seq _ _) _)=_;simp (maxSteps:=4000000) only [*,qdc,qdF,UK,Vd,↓RP,RB,RC,Nat.reduceBEq,List.map,↓ao,↓aa,ty3,ty5,ty9,qM])
def SF:List (Nat×List Nat):=[(0,[0,2]),(1,[0,2,4]),(2,[0,2,4]),(3,[0,2,4]),(4,[0,2,4,5]),(5,[0,2,4,5,16]),(6,[0,2,4,5]),(7,[0,2,4,5,19]),(8,[2,3]),(9,[0,2,4]),(10,[0,2,4,30]),(11,[2,3]),(12,[0,2,4]),(13,[0,2,4]),(14,[0,2,4]),(15,[0,2,4]),(16,[0,2,4]),(17,[2,4]),(18,[2,3])]
def S4:List (Nat×List Nat×List Nat):=[(16,[0,2,4,5],[0,2,4,5]),(19,[2,4,5],[0,2,4]),(30,[2,4],[0,2,4])]
def n82:cL where
 keep:=ax SF
 ro:=fun _=>false
 mv:=fun _=>false
 give:=fun _=>false
 free:=fun _=>[]
 alive:=av S4
theorem qfw (t:Nat) (x:Bool) (e:Env) (S:bH):cK n82 t x ⟨e,S⟩=atO (av S4 t x) e S:=cF rfl t x e S
theorem qcz (i:Nat):n82.keep i=ax SF i:=rfl
theorem qcT (t:Nat):n82.mv t=(false):=rfl
theorem VJ (t:Nat):n82.give t=(false):=rfl
theorem qfs:Tryz.f82.results.toList= [.cell 2 60,.tmp 3]:=rfl
noncomputable def b82:Code:=aU Tryz.f82
theorem xO (C:aj)  (p0:Int) (p1:Bool) (p2:iK) (p3:Int) (p4:Int) (c:Code) (ho:cD 1 16 b82=some c) (r:iV) (hF:ae p0 p1 p2 p3 p4=r): @cV TT C.wide (evW TT C.wide n82 b82) n82 1 16 ⟨[(0,.ptr 0 0),(2,.ptr 1 0),(4,.ptr 2 0),(5,.v (.i .i64 p0)),(16,.v (.b p1))],[[.v (.sl 1 (ah cE p2.fb)),.v (.i .i64 p2.fat)],[.v (.i .i64 0),.v (.i .i64 0),.v (.b false),.v (.i .i64 0),.v (.i .i64 0),.v (.i .i64 0),.v (.s ByteArray.empty),.v (.s ByteArray.empty),.v (.s ByteArray.empty),.v (.i .i64 0)],[.v (.i .i64 p3),.v (.i .i64 p4),.v (.b false),.v (.i .i64 0),.v (.i .i64 0),.v (.i .i64 0),.v (.s ByteArray.empty),.v (.s ByteArray.empty),.v (.s ByteArray.empty),.v (.i .i64 0)]]⟩ ⟨c⟩=some (.normal,⟨[(0,.ptr 0 0),(2,.ptr 1 0),(4,.ptr 2 0),(5,.v (.i .i64 p0))],[[.v (.sl 1 (ah cE p2.fb)),.v (.i .i64 p2.fat)],[.v (.i .i64 0),.v (.i .i64 0),.v (.b false),.v (.i .i64 0),.v (.i .i64 0),.v (.i .i64 0),.v (.s ByteArray.empty),.v (.s ByteArray.empty),.v (.s ByteArray.empty),.v (.i .i64 0)],[.v (.i .i64 r.iI),.v (.i .i64 r.iS),.v (.b r.jY),.v (.i .i64 r.cO.iO),.v (.i .i64 r.cO.je),.v (.i .i64 r.cO.ad.bt),.v (.s r.cO.ad.iU),.v (.s r.cO.ad.iE),.v (.s r.cO.ad.iq),.v (.i .i64 r.cO.ad.fN)]]⟩):=by
 have e:=Option.some.inj (ho.symm.trans (rfl:cD 1 16 b82=some _))
 subst e
 clear ho
 show aH _ _ _ _ _ _=_
 revert hF
 unfold ae
 refine aX (fun h1=>?_) (fun h1=>?_)
 rotate_left 1
 all_goals (rintro rfl;simp (maxSteps:=4000000) only [*,qfw,S4,qcz,SF,VJ,↓RP,RB,RC,Nat.reduceBEq,List.map,Nat.reduceAdd,Nat.reduceLeDiff,↓am,ty4,zN,↓aa _ _ _ _ 6])
theorem Ar (C:aj) (jr:lA C) (jl:jZ C) (jw:kQ C) (p0:iK) (r:iV×Bool×iK) (hF:l7 p0=some r):cR TT C.wide (evW TT C.wide n82 b82) n82 Tryz.f82.results.toList (aU Tryz.f82) [.ptr 0 0] [[.v (.sl 1 (ah cE p0.fb)),.v (.i .i64 p0.fat)]]=some (.tup [.agg [.v (.i .i64 r.1.iI),.v (.i .i64 r.1.iS),.v (.b r.1.jY),.v (.i .i64 r.1.cO.iO),.v (.i .i64 r.1.cO.je),.v (.i .i64 r.1.cO.ad.bt),.v (.s r.1.cO.ad.iU),.v (.s r.1.cO.ad.iE),.v (.s r.1.cO.ad.iq),.v (.i .i64 r.1.cO.ad.fN)],.v (.b r.2.1)],[[.v (.sl 1 (ah cE r.2.2.fb)),.v (.i .i64 r.2.2.fat)]]):=by
 revert hF
 unfold l7
 refine az ?_
 rintro⟨x1,x2⟩ h1
 dsimp only
 have g1:C.wide 84 [.ptr 0 0] [[.v (.sl 1 (ah cE p0.fb)),.v (.i .i64 p0.fat)],[.v (.i .i64 0),.v (.i .i64 0),.v (.b false),.v (.i .i64 0),.v (.i .i64 0),.v (.i .i64 0),.v (.s ByteArray.empty),.v (.s ByteArray.empty),.v (.s ByteArray.empty),.v (.i .i64 0)],[.v (.i .i64 0),.v (.i .i64 0),.v (.b false),.v (.i .i64 0),.v (.i .i64 0),.v (.i .i64 0),.v (.s ByteArray.empty),.v (.s ByteArray.empty),.v (.s ByteArray.empty),.v (.i .i64 0)]]=some (.v (.i .i64 x1),[[.v (.sl 1 (ah cE x2.fb)),.v (.i .i64 x2.fat)],[.v (.i .i64 0),.v (.i .i64 0),.v (.b false),.v (.i .i64 0),.v (.i .i64 0),.v (.i .i64 0),.v (.s ByteArray.empty),.v (.s ByteArray.empty),.v (.s ByteArray.empty),.v (.i .i64 0)],[.v (.i .i64 0),.v (.i .i64 0),.v (.b false),.v (.i .i64 0),.v (.i .i64 0),.v (.i .i64 0),.v (.s ByteArray.empty),.v (.s ByteArray.empty),.v (.s ByteArray.empty),.v (.i .i64 0)]]):=cX [0] rfl rfl rfl rfl (jr p0 _ h1) rfl rfl
 refine az ?_
 rintro⟨x3,x4⟩ h2
 dsimp only
 have g2:C.wide 84 [.ptr 0 0] [[.v (.sl 1 (ah cE x2.fb)),.v (.i .i64 x2.fat)],[.v (.i .i64 0),.v (.i .i64 0),.v (.b false),.v (.i .i64 0),.v (.i .i64 0),.v (.i .i64 0),.v (.s ByteArray.empty),.v (.s ByteArray.empty),.v (.s ByteArray.empty),.v (.i .i64 0)],[.v (.i .i64 x1),.v (.i .i64 0),.v (.b false),.v (.i .i64 0),.v (.i .i64 0),.v (.i .i64 0),.v (.s ByteArray.empty),.v (.s ByteArray.empty),.v (.s ByteArray.empty),.v (.i .i64 0)]]=some (.v (.i .i64 x3),[[.v (.sl 1 (ah cE x4.fb)),.v (.i .i64 x4.fat)],[.v (.i .i64 0),.v (.i .i64 0),.v (.b false),.v (.i .i64 0),.v (.i .i64 0),.v (.i .i64 0),.v (.s ByteArray.empty),.v (.s ByteArray.empty),.v (.s ByteArray.empty),.v (.i .i64 0)],[.v (.i .i64 x1),.v (.i .i64 0),.v (.b false),.v (.i .i64 0),.v (.i .i64 0),.v (.i .i64 0),.v (.s ByteArray.empty),.v (.s ByteArray.empty),.v (.s ByteArray.empty),.v (.i .i64 0)]]):=cX [0] rfl rfl rfl rfl (jr x2 _ h2) rfl rfl
 refine az ?_
 rintro⟨x5,x6⟩ h3
 dsimp only
 have g3:C.wide 85 [.ptr 0 0] [[.v (.sl 1 (ah cE x4.fb)),.v (.i .i64 x4.fat)],[.v (.i .i64 0),.v (.i .i64 0),.v (.b false),.v (.i .i64 0),.v (.i .i64 0),.v (.i .i64 0),.v (.s ByteArray.empty),.v (.s ByteArray.empty),.v (.s ByteArray.empty),.v (.i .i64 0)],[.v (.i .i64 x1),.v (.i .i64 x3),.v (.b false),.v (.i .i64 0),.v (.i .i64 0),.v (.i .i64 0),.v (.s ByteArray.empty),.v (.s ByteArray.empty),.v (.s ByteArray.empty),.v (.i .i64 0)]]=some (.v (.i .i64 x5),[[.v (.sl 1 (ah cE x6.fb)),.v (.i .i64 x6.fat)],[.v (.i .i64 0),.v (.i .i64 0),.v (.b false),.v (.i .i64 0),.v (.i .i64 0),.v (.i .i64 0),.v (.s ByteArray.empty),.v (.s ByteArray.empty),.v (.s ByteArray.empty),.v (.i .i64 0)],[.v (.i .i64 x1),.v (.i .i64 x3),.v (.b false),.v (.i .i64 0),.v (.i .i64 0),.v (.i .i64 0),.v (.s ByteArray.empty),.v (.s ByteArray.empty),.v (.s ByteArray.empty),.v (.i .i64 0)]]):=cX [0] rfl rfl rfl rfl (jl x4 _ h3) rfl rfl
 have g4:=xO C x5 (x5==1) x6 x1 x3 _ rfl (ae x5 (x5==1) x6 x1 x3) rfl
 refine bF (fun h4=>?_) (fun h4=>?_)
 rotate_left 1
 refine az ?_
 rintro⟨x7,x8⟩ h5
 dsimp only
 unfold sU
 have g5:C.wide 84 [.ptr 0 0] [[.v (.sl 1 (ah cE x6.fb)),.v (.i .i64 x6.fat)],[.v (.i .i64 0),.v (.i .i64 0),.v (.b false),.v (.i .i64 0),.v (.i .i64 0),.v (.i .i64 0),.v (.s ByteArray.empty),.v (.s ByteArray.empty),.v (.s ByteArray.empty),.v (.i .i64 0)],[.v (.i .i64 (ae x5 (x5==1) x6 x1 x3).iI),.v (.i .i64 (ae x5 (x5==1) x6 x1 x3).iS),.v (.b (ae x5 (x5==1) x6 x1 x3).jY),.v (.i .i64 (ae x5 (x5==1) x6 x1 x3).cO.iO),.v (.i .i64 (ae x5 (x5==1) x6 x1 x3).cO.je),.v (.i .i64 (ae x5 (x5==1) x6 x1 x3).cO.ad.bt),.v (.s (ae x5 (x5==1) x6 x1 x3).cO.ad.iU),.v (.s (ae x5 (x5==1) x6 x1 x3).cO.ad.iE),.v (.s (ae x5 (x5==1) x6 x1 x3).cO.ad.iq),.v (.i .i64 (ae x5 (x5==1) x6 x1 x3).cO.ad.fN)]]=some (.v (.i .i64 x7),[[.v (.sl 1 (ah cE x8.fb)),.v (.i .i64 x8.fat)],[.v (.i .i64 0),.v (.i .i64 0),.v (.b false),.v (.i .i64 0),.v (.i .i64 0),.v (.i .i64 0),.v (.s ByteArray.empty),.v (.s ByteArray.empty),.v (.s ByteArray.empty),.v (.i .i64 0)],[.v (.i .i64 (ae x5 (x5==1) x6 x1 x3).iI),.v (.i .i64 (ae x5 (x5==1) x6 x1 x3).iS),.v (.b (ae x5 (x5==1) x6 x1 x3).jY),.v (.i .i64 (ae x5 (x5==1) x6 x1 x3).cO.iO),.v (.i .i64 (ae x5 (x5==1) x6 x1 x3).cO.je),.v (.i .i64 (ae x5 (x5==1) x6 x1 x3).cO.ad.bt),.v (.s (ae x5 (x5==1) x6 x1 x3).cO.ad.iU),.v (.s (ae x5 (x5==1) x6 x1 x3).cO.ad.iE),.v (.s (ae x5 (x5==1) x6 x1 x3).cO.ad.iq),.v (.i .i64 (ae x5 (x5==1) x6 x1 x3).cO.ad.fN)]]):=cX [0] rfl rfl rfl rfl (jr x6 _ h5) rfl rfl
 refine aX (fun h6=>?_) (fun h6=>?_)
 rotate_left 1
 refine az ?_
 rintro⟨x9,x10⟩ h7
 dsimp only
 have g6:C.wide 84 [.ptr 0 0] [[.v (.sl 1 (ah cE x8.fb)),.v (.i .i64 x8.fat)],[.v (.i .i64 0),.v (.i .i64 0),.v (.b false),.v (.i .i64 0),.v (.i .i64 0),.v (.i .i64 0),.v (.s ByteArray.empty),.v (.s ByteArray.empty),.v (.s ByteArray.empty),.v (.i .i64 0)],[.v (.i .i64 (ae x5 (x5==1) x6 x1 x3).iI),.v (.i .i64 (ae x5 (x5==1) x6 x1 x3).iS),.v (.b (ae x5 (x5==1) x6 x1 x3).jY),.v (.i .i64 x7),.v (.i .i64 (ae x5 (x5==1) x6 x1 x3).cO.je),.v (.i .i64 (ae x5 (x5==1) x6 x1 x3).cO.ad.bt),.v (.s (ae x5 (x5==1) x6 x1 x3).cO.ad.iU),.v (.s (ae x5 (x5==1) x6 x1 x3).cO.ad.iE),.v (.s (ae x5 (x5==1) x6 x1 x3).cO.ad.iq),.v (.i .i64 (ae x5 (x5==1) x6 x1 x3).cO.ad.fN)]]=some (.v (.i .i64 x9),[[.v (.sl 1 (ah cE x10.fb)),.v (.i .i64 x10.fat)],[.v (.i .i64 0),.v (.i .i64 0),.v (.b false),.v (.i .i64 0),.v (.i .i64 0),.v (.i .i64 0),.v (.s ByteArray.empty),.v (.s ByteArray.empty),.v (.s ByteArray.empty),.v (.i .i64 0)],[.v (.i .i64 (ae x5 (x5==1) x6 x1 x3).iI),.v (.i .i64 (ae x5 (x5==1) x6 x1 x3).iS),.v (.b (ae x5 (x5==1) x6 x1 x3).jY),.v (.i .i64 x7),.v (.i .i64 (ae x5 (x5==1) x6 x1 x3).cO.je),.v (.i .i64 (ae x5 (x5==1) x6 x1 x3).cO.ad.bt),.v (.s (ae x5 (x5==1) x6 x1 x3).cO.ad.iU),.v (.s (ae x5 (x5==1) x6 x1 x3).cO.ad.iE),.v (.s (ae x5 (x5==1) x6 x1 x3).cO.ad.iq),.v (.i .i64 (ae x5 (x5==1) x6 x1 x3).cO.ad.fN)]]):=cX [0] rfl rfl rfl rfl (jr x8 _ h7) rfl rfl
 refine az ?_
 rintro⟨x11,x12⟩ h8
 dsimp only
 have g7:C.wide 85 [.ptr 0 0] [[.v (.sl 1 (ah cE x10.fb)),.v (.i .i64 x10.fat)],[.v (.i .i64 0),.v (.i .i64 0),.v (.b false),.v (.i .i64 0),.v (.i .i64 0),.v (.i .i64 0),.v (.s ByteArray.empty),.v (.s ByteArray.empty),.v (.s ByteArray.empty),.v (.i .i64 0)],[.v (.i .i64 (ae x5 (x5==1) x6 x1 x3).iI),.v (.i .i64 (ae x5 (x5==1) x6 x1 x3).iS),.v (.b (ae x5 (x5==1) x6 x1 x3).jY),.v (.i .i64 x7),.v (.i .i64 x9),.v (.i .i64 (ae x5 (x5==1) x6 x1 x3).cO.ad.bt),.v (.s (ae x5 (x5==1) x6 x1 x3).cO.ad.iU),.v (.s (ae x5 (x5==1) x6 x1 x3).cO.ad.iE),.v (.s (ae x5 (x5==1) x6 x1 x3).cO.ad.iq),.v (.i .i64 (ae x5 (x5==1) x6 x1 x3).cO.ad.fN)]]=some (.v (.i .i64 x11),[[.v (.sl 1 (ah cE x12.fb)),.v (.i .i64 x12.fat)],[.v (.i .i64 0),.v (.i .i64 0),.v (.b false),.v (.i .i64 0),.v (.i .i64 0),.v (.i .i64 0),.v (.s ByteArray.empty),.v (.s ByteArray.empty),.v (.s ByteArray.empty),.v (.i .i64 0)],[.v (.i .i64 (ae x5 (x5==1) x6 x1 x3).iI),.v (.i .i64 (ae x5 (x5==1) x6 x1 x3).iS),.v (.b (ae x5 (x5==1) x6 x1 x3).jY),.v (.i .i64 x7),.v (.i .i64 x9),.v (.i .i64 (ae x5 (x5==1) x6 x1 x3).cO.ad.bt),.v (.s (ae x5 (x5==1) x6 x1 x3).cO.ad.iU),.v (.s (ae x5 (x5==1) x6 x1 x3).cO.ad.iE),.v (.s (ae x5 (x5==1) x6 x1 x3).cO.ad.iq),.v (.i .i64 (ae x5 (x5==1) x6 x1 x3).cO.ad.fN)]]):=cX [0] rfl rfl rfl rfl (jl x10 _ h8) rfl rfl
 refine az ?_
 rintro⟨x13,x14⟩ h9
 dsimp only
 have g8:C.wide 87 [.ptr 0 0] [[.v (.sl 1 (ah cE x12.fb)),.v (.i .i64 x12.fat)],[.v (.i .i64 0),.v (.i .i64 0),.v (.b false),.v (.i .i64 0),.v (.i .i64 0),.v (.i .i64 0),.v (.s ByteArray.empty),.v (.s ByteArray.empty),.v (.s ByteArray.empty),.v (.i .i64 0)],[.v (.i .i64 (ae x5 (x5==1) x6 x1 x3).iI),.v (.i .i64 (ae x5 (x5==1) x6 x1 x3).iS),.v (.b (ae x5 (x5==1) x6 x1 x3).jY),.v (.i .i64 x7),.v (.i .i64 x9),.v (.i .i64 x11),.v (.s (ae x5 (x5==1) x6 x1 x3).cO.ad.iU),.v (.s (ae x5 (x5==1) x6 x1 x3).cO.ad.iE),.v (.s (ae x5 (x5==1) x6 x1 x3).cO.ad.iq),.v (.i .i64 (ae x5 (x5==1) x6 x1 x3).cO.ad.fN)]]=some (.v (.s x13),[[.v (.sl 1 (ah cE x14.fb)),.v (.i .i64 x14.fat)],[.v (.i .i64 0),.v (.i .i64 0),.v (.b false),.v (.i .i64 0),.v (.i .i64 0),.v (.i .i64 0),.v (.s ByteArray.empty),.v (.s ByteArray.empty),.v (.s ByteArray.empty),.v (.i .i64 0)],[.v (.i .i64 (ae x5 (x5==1) x6 x1 x3).iI),.v (.i .i64 (ae x5 (x5==1) x6 x1 x3).iS),.v (.b (ae x5 (x5==1) x6 x1 x3).jY),.v (.i .i64 x7),.v (.i .i64 x9),.v (.i .i64 x11),.v (.s (ae x5 (x5==1) x6 x1 x3).cO.ad.iU),.v (.s (ae x5 (x5==1) x6 x1 x3).cO.ad.iE),.v (.s (ae x5 (x5==1) x6 x1 x3).cO.ad.iq),.v (.i .i64 (ae x5 (x5==1) x6 x1 x3).cO.ad.fN)]]):=cX [0] rfl rfl rfl rfl (jw x12 _ h9) rfl rfl
 refine az ?_
 rintro⟨x15,x16⟩ h10
 dsimp only
 have g9:C.wide 87 [.ptr 0 0] [[.v (.sl 1 (ah cE x14.fb)),.v (.i .i64 x14.fat)],[.v (.i .i64 0),.v (.i .i64 0),.v (.b false),.v (.i .i64 0),.v (.i .i64 0),.v (.i .i64 0),.v (.s ByteArray.empty),.v (.s ByteArray.empty),.v (.s ByteArray.empty),.v (.i .i64 0)],[.v (.i .i64 (ae x5 (x5==1) x6 x1 x3).iI),.v (.i .i64 (ae x5 (x5==1) x6 x1 x3).iS),.v (.b (ae x5 (x5==1) x6 x1 x3).jY),.v (.i .i64 x7),.v (.i .i64 x9),.v (.i .i64 x11),.v (.s x13),.v (.s (ae x5 (x5==1) x6 x1 x3).cO.ad.iE),.v (.s (ae x5 (x5==1) x6 x1 x3).cO.ad.iq),.v (.i .i64 (ae x5 (x5==1) x6 x1 x3).cO.ad.fN)]]=some (.v (.s x15),[[.v (.sl 1 (ah cE x16.fb)),.v (.i .i64 x16.fat)],[.v (.i .i64 0),.v (.i .i64 0),.v (.b false),.v (.i .i64 0),.v (.i .i64 0),.v (.i .i64 0),.v (.s ByteArray.empty),.v (.s ByteArray.empty),.v (.s ByteArray.empty),.v (.i .i64 0)],[.v (.i .i64 (ae x5 (x5==1) x6 x1 x3).iI),.v (.i .i64 (ae x5 (x5==1) x6 x1 x3).iS),.v (.b (ae x5 (x5==1) x6 x1 x3).jY),.v (.i .i64 x7),.v (.i .i64 x9),.v (.i .i64 x11),.v (.s x13),.v (.s (ae x5 (x5==1) x6 x1 x3).cO.ad.iE),.v (.s (ae x5 (x5==1) x6 x1 x3).cO.ad.iq),.v (.i .i64 (ae x5 (x5==1) x6 x1 x3).cO.ad.fN)]]):=cX [0] rfl rfl rfl rfl (jw x14 _ h10) rfl rfl
 refine az ?_
 rintro⟨x17,x18⟩ h11
 dsimp only
 have g10:C.wide 87 [.ptr 0 0] [[.v (.sl 1 (ah cE x16.fb)),.v (.i .i64 x16.fat)],[.v (.i .i64 0),.v (.i .i64 0),.v (.b false),.v (.i .i64 0),.v (.i .i64 0),.v (.i .i64 0),.v (.s ByteArray.empty),.v (.s ByteArray.empty),.v (.s ByteArray.empty),.v (.i .i64 0)],[.v (.i .i64 (ae x5 (x5==1) x6 x1 x3).iI),.v (.i .i64 (ae x5 (x5==1) x6 x1 x3).iS),.v (.b (ae x5 (x5==1) x6 x1 x3).jY),.v (.i .i64 x7),.v (.i .i64 x9),.v (.i .i64 x11),.v (.s x13),.v (.s x15),.v (.s (ae x5 (x5==1) x6 x1 x3).cO.ad.iq),.v (.i .i64 (ae x5 (x5==1) x6 x1 x3).cO.ad.fN)]]=some (.v (.s x17),[[.v (.sl 1 (ah cE x18.fb)),.v (.i .i64 x18.fat)],[.v (.i .i64 0),.v (.i .i64 0),.v (.b false),.v (.i .i64 0),.v (.i .i64 0),.v (.i .i64 0),.v (.s ByteArray.empty),.v (.s ByteArray.empty),.v (.s ByteArray.empty),.v (.i .i64 0)],[.v (.i .i64 (ae x5 (x5==1) x6 x1 x3).iI),.v (.i .i64 (ae x5 (x5==1) x6 x1 x3).iS),.v (.b (ae x5 (x5==1) x6 x1 x3).jY),.v (.i .i64 x7),.v (.i .i64 x9),.v (.i .i64 x11),.v (.s x13),.v (.s x15),.v (.s (ae x5 (x5==1) x6 x1 x3).cO.ad.iq),.v (.i .i64 (ae x5 (x5==1) x6 x1 x3).cO.ad.fN)]]):=cX [0] rfl rfl rfl rfl (jw x16 _ h11) rfl rfl
 refine az ?_
 rintro⟨x19,x20⟩ h12
 dsimp only
 have g11:C.wide 84 [.ptr 0 0] [[.v (.sl 1 (ah cE x18.fb)),.v (.i .i64 x18.fat)],[.v (.i .i64 0),.v (.i .i64 0),.v (.b false),.v (.i .i64 0),.v (.i .i64 0),.v (.i .i64 0),.v (.s ByteArray.empty),.v (.s ByteArray.empty),.v (.s ByteArray.empty),.v (.i .i64 0)],[.v (.i .i64 (ae x5 (x5==1) x6 x1 x3).iI),.v (.i .i64 (ae x5 (x5==1) x6 x1 x3).iS),.v (.b (ae x5 (x5==1) x6 x1 x3).jY),.v (.i .i64 x7),.v (.i .i64 x9),.v (.i .i64 x11),.v (.s x13),.v (.s x15),.v (.s x17),.v (.i .i64 (ae x5 (x5==1) x6 x1 x3).cO.ad.fN)]]=some (.v (.i .i64 x19),[[.v (.sl 1 (ah cE x20.fb)),.v (.i .i64 x20.fat)],[.v (.i .i64 0),.v (.i .i64 0),.v (.b false),.v (.i .i64 0),.v (.i .i64 0),.v (.i .i64 0),.v (.s ByteArray.empty),.v (.s ByteArray.empty),.v (.s ByteArray.empty),.v (.i .i64 0)],[.v (.i .i64 (ae x5 (x5==1) x6 x1 x3).iI),.v (.i .i64 (ae x5 (x5==1) x6 x1 x3).iS),.v (.b (ae x5 (x5==1) x6 x1 x3).jY),.v (.i .i64 x7),.v (.i .i64 x9),.v (.i .i64 x11),.v (.s x13),.v (.s x15),.v (.s x17),.v (.i .i64 (ae x5 (x5==1) x6 x1 x3).cO.ad.fN)]]):=cX [0] rfl rfl rfl rfl (jr x18 _ h12) rfl rfl
 all_goals (rintro⟨⟩;rw [bk];show cC _ _ _ (aH _ _ _ _ (Code.seq _ _) _)=_;simp (maxSteps:=4000000) only [*,qfs,qfw,S4,qcz,SF,qcT,VJ,↓RP,RB,RC,Nat.reduceBEq,bP,List.map,Nat.reduceAdd,Nat.reduceLeDiff,bne,↓ao,aP,ty3,ty4,ty9,yd,CI,zN,↓aa _ _ _ _ 0,↓aa _ _ _ _ 1,↓aa _ _ _ _ 2,↓aa _ _ _ _ 3,↓aa _ _ _ _ 4,↓aa _ _ _ _ 5,↓kZ _ _ _ _ 16,↓aa _ _ _ _ 7,↓am _ _ _ _ 19,↓aa _ _ _ _ 8,↓aa _ _ _ _ 9,↓aa _ _ _ _ 10,↓am _ _ _ _ 30,↓aa _ _ _ _ 11,↓aa _ _ _ _ 12,↓aa _ _ _ _ 13,↓aa _ _ _ _ 14,↓aa _ _ _ _ 15,↓aa _ _ _ _ 16,↓aa _ _ _ _ 17,↓aa _ _ _ _ 18])
def XP:List (Nat×List Nat):=[(0,[0,1]),(1,[0,1,6]),(2,[4]),(3,[20]),(4,[4]),(5,[4])]
def qbC:List (Nat×List Nat×List Nat):=[(6,[],[0,1]),(20,[],[])]
def n83:cL where
 keep:=ax XP
 ro:=fun _=>false
 mv:=fun _=>false
 give:=fun _=>false
 free:=fun i=>match i with|3=>[(3,7),(4,7),(5,7),(6,7),(3,8),(4,8),(5,8),(6,8),(3,9),(4,9),(5,9),(6,9),(3,10),(4,10),(5,10),(6,10),(3,11),(4,11),(5,11),(6,11)]|_=>[]
 alive:=av qbC
theorem qig (t:Nat) (x:Bool) (e:Env) (S:bH):cK n83 t x ⟨e,S⟩=atO (av qbC t x) e S:=cF rfl t x e S
theorem qhw (i:Nat):n83.keep i=ax XP i:=rfl
theorem qfH (t:Nat):n83.mv t=(false):=rfl
theorem qcG (t:Nat):n83.give t=(false):=rfl
theorem qd8:n83.free 3= [(3,7),(4,7),(5,7),(6,7),(3,8),(4,8),(5,8),(6,8),(3,9),(4,9),(5,9),(6,9),(3,10),(4,10),(5,10),(6,10),(3,11),(4,11),(5,11),(6,11)]:=rfl
theorem qgl:Tryz.f83.results.toList= [.tmp 4]:=rfl
noncomputable def b83:Code:=aU Tryz.f83
theorem IE (C:aj) (ji:jV C) (p0:Bool) (p1:iK) (r:Int×iK) (hF:rE p0 p1=some r):cR TT C.wide (evW TT C.wide n83 b83) n83 Tryz.f83.results.toList (aU Tryz.f83) [.ptr 0 0,.v (.b p0)] [[.v (.sl 1 (ah cE p1.fb)),.v (.i .i64 p1.fat)]]=some (.v (.i .i64 r.1),[[.v (.sl 1 (ah cE r.2.fb)),.v (.i .i64 r.2.fat)]]):=by
 revert hF
 unfold rE
 refine az ?_
 rintro⟨x1,x2⟩ h1
 dsimp only
 have g1:C.wide 86 [.ptr 0 0] [[.v (.sl 1 (ah cE p1.fb)),.v (.i .i64 p1.fat)]]=some (.v (.b x1),[[.v (.sl 1 (ah cE x2.fb)),.v (.i .i64 x2.fat)]]):=cX [0] rfl rfl rfl rfl (ji p1 _ h1) rfl rfl
 refine aX (fun h2=>?_) (fun h2=>?_)
 rotate_left 1
 refine bF (fun h3=>?_) (fun h3=>?_)
 rotate_left 1
 refine aX (fun h4=>?_) (fun h4=>?_)
 rotate_left 1
 all_goals (rintro⟨⟩;rw [bk];show cC _ _ _ (aH _ _ _ _ (Code.seq _ _) _)=_;simp (maxSteps:=4000000) only [*,qgl,qig,qbC,qhw,XP,qd8,qfH,qcG,↓RP,RB,RC,Nat.reduceBEq,List.map,Nat.reduceAdd,Nat.reduceSub,↓ao,↓am,↓aa,↓aq,ty3,qM,mD,Kn])
def S9:List (Nat×List Nat):=[(0,[0,2]),(1,[0,2,10]),(2,[2,3]),(3,[2,4]),(4,[2,4,5,6]),(5,[2,5,7]),(6,[2,5,7,24]),(7,[2,5,7]),(8,[2,5,7,28]),(9,[2,3]),(10,[2,3])]
def U8:List (Nat×List Nat×List Nat):=[(10,[2],[0,2]),(24,[2,5],[2,5,7]),(28,[2,7],[2,5])]
def n43:cL where
 keep:=ax S9
 ro:=fun _=>false
 mv:=fun _=>false
 give:=fun _=>false
 free:=fun _=>[]
 alive:=av U8
theorem qff (t:Nat) (x:Bool) (e:Env) (S:bH):cK n43 t x ⟨e,S⟩=atO (av U8 t x) e S:=cF rfl t x e S
theorem qdp (i:Nat):n43.keep i=ax S9 i:=rfl
theorem qgM (t:Nat):n43.ro t=(false):=rfl
theorem VA (t:Nat):n43.mv t=(false):=rfl
theorem qeV (t:Nat):n43.give t=(false):=rfl
theorem qgS:Tryz.f43.results.toList= [.cell 2 60,.tmp 3]:=rfl
noncomputable def b43:Code:=aU Tryz.f43
theorem CK (C:aj) (sv:sy C) (p0:Int) (p1:Bool) (p2:iK) (p3:iV) (c:Code) (ho:cD 1 24 b43=some c) (r:Int) (hF:mW p0 p1 p2 p3=r): @cV TT C.wide (evW TT C.wide n43 b43) n43 1 24 ⟨[(2,.ptr 0 0),(5,.ptr 2 0),(7,.v (.i .i64 p0)),(24,.v (.b p1))],[[.v (.i .i64 0),.v (.i .i64 0),.v (.b false),.v (.i .i64 0),.v (.i .i64 0),.v (.i .i64 0),.v (.s ByteArray.empty),.v (.s ByteArray.empty),.v (.s ByteArray.empty),.v (.i .i64 0)],[.v (.sl 1 (ah cE p2.fb)),.v (.i .i64 p2.fat)],[.v (.i .i64 p3.iI),.v (.i .i64 p3.iS),.v (.b p3.jY),.v (.i .i64 p3.cO.iO),.v (.i .i64 p3.cO.je),.v (.i .i64 p3.cO.ad.bt),.v (.s p3.cO.ad.iU),.v (.s p3.cO.ad.iE),.v (.s p3.cO.ad.iq),.v (.i .i64 p3.cO.ad.fN)]]⟩ ⟨c⟩=some (.normal,⟨[(2,.ptr 0 0),(5,.ptr 2 0),(7,.v (.i .i64 r))],[[.v (.i .i64 0),.v (.i .i64 0),.v (.b false),.v (.i .i64 0),.v (.i .i64 0),.v (.i .i64 0),.v (.s ByteArray.empty),.v (.s ByteArray.empty),.v (.s ByteArray.empty),.v (.i .i64 0)],[.v (.sl 1 (ah cE p2.fb)),.v (.i .i64 p2.fat)],[.v (.i .i64 p3.iI),.v (.i .i64 p3.iS),.v (.b p3.jY),.v (.i .i64 p3.cO.iO),.v (.i .i64 p3.cO.je),.v (.i .i64 p3.cO.ad.bt),.v (.s p3.cO.ad.iU),.v (.s p3.cO.ad.iE),.v (.s p3.cO.ad.iq),.v (.i .i64 p3.cO.ad.fN)]]⟩):=by
 have e:=Option.some.inj (ho.symm.trans (rfl:cD 1 24 b43=some _))
 subst e
 clear ho
 show aH _ _ _ _ _ _=_
 revert hF
 unfold mW
 refine aX (fun h1=>?_) (fun h1=>?_)
 focus
  have g1:=bK (sv p3 _ (zY p3))
 rotate_left 1
 all_goals (rintro rfl;simp (maxSteps:=4000000) only [*,qff,U8,qdp,S9,VA,↓RP,RB,RC,Nat.reduceBEq,List.map,Nat.reduceAdd,↓am,aP,mD,zN,↓aa _ _ _ _ 7])
theorem Mi (C:aj) (Bk:tR C) (xK:vF C) (sv:sy C) (p0:List Int) (r:iV×Int) (hF:v7 p0=some r):cR TT C.wide (evW TT C.wide n43 b43) n43 Tryz.f43.results.toList (aU Tryz.f43) [.v (.sl 1 (ah cE p0))] []=some (.tup [.agg [.v (.i .i64 r.1.iI),.v (.i .i64 r.1.iS),.v (.b r.1.jY),.v (.i .i64 r.1.cO.iO),.v (.i .i64 r.1.cO.je),.v (.i .i64 r.1.cO.ad.bt),.v (.s r.1.cO.ad.iU),.v (.s r.1.cO.ad.iE),.v (.s r.1.cO.ad.iq),.v (.i .i64 r.1.cO.ad.fN)],.v (.i .i64 r.2)],[]):=by
 revert hF
 unfold v7
 refine aX (fun h1=>?_) (fun h1=>?_)
 rotate_left 1
 refine az ?_
 rintro⟨x1,x2,x3⟩ h2
 dsimp only
 have g1:C.wide 82 [.ptr 1 0] [[.v (.i .i64 0),.v (.i .i64 0),.v (.b false),.v (.i .i64 0),.v (.i .i64 0),.v (.i .i64 0),.v (.s ByteArray.empty),.v (.s ByteArray.empty),.v (.s ByteArray.empty),.v (.i .i64 0)],[.v (.sl 1 (ah cE p0)),.v (.i .i64 0)]]=some (.tup [.agg [.v (.i .i64 x1.iI),.v (.i .i64 x1.iS),.v (.b x1.jY),.v (.i .i64 x1.cO.iO),.v (.i .i64 x1.cO.je),.v (.i .i64 x1.cO.ad.bt),.v (.s x1.cO.ad.iU),.v (.s x1.cO.ad.iE),.v (.s x1.cO.ad.iq),.v (.i .i64 x1.cO.ad.fN)],.v (.b x2)],[[.v (.i .i64 0),.v (.i .i64 0),.v (.b false),.v (.i .i64 0),.v (.i .i64 0),.v (.i .i64 0),.v (.s ByteArray.empty),.v (.s ByteArray.empty),.v (.s ByteArray.empty),.v (.i .i64 0)],[.v (.sl 1 (ah cE x3.fb)),.v (.i .i64 x3.fat)]]):=cX [1] rfl rfl rfl rfl (Bk (iK.mk p0 0) _ h2) rfl rfl
 refine az ?_
 rintro⟨x4,x5⟩ h3
 dsimp only
 have g2:C.wide 83 [.ptr 1 0,.v (.b x2)] [[.v (.i .i64 0),.v (.i .i64 0),.v (.b false),.v (.i .i64 0),.v (.i .i64 0),.v (.i .i64 0),.v (.s ByteArray.empty),.v (.s ByteArray.empty),.v (.s ByteArray.empty),.v (.i .i64 0)],[.v (.sl 1 (ah cE x3.fb)),.v (.i .i64 x3.fat)],[.v (.i .i64 x1.iI),.v (.i .i64 x1.iS),.v (.b x1.jY),.v (.i .i64 x1.cO.iO),.v (.i .i64 x1.cO.je),.v (.i .i64 x1.cO.ad.bt),.v (.s x1.cO.ad.iU),.v (.s x1.cO.ad.iE),.v (.s x1.cO.ad.iq),.v (.i .i64 x1.cO.ad.fN)]]=some (.v (.i .i64 x4),[[.v (.i .i64 0),.v (.i .i64 0),.v (.b false),.v (.i .i64 0),.v (.i .i64 0),.v (.i .i64 0),.v (.s ByteArray.empty),.v (.s ByteArray.empty),.v (.s ByteArray.empty),.v (.i .i64 0)],[.v (.sl 1 (ah cE x5.fb)),.v (.i .i64 x5.fat)],[.v (.i .i64 x1.iI),.v (.i .i64 x1.iS),.v (.b x1.jY),.v (.i .i64 x1.cO.iO),.v (.i .i64 x1.cO.je),.v (.i .i64 x1.cO.ad.bt),.v (.s x1.cO.ad.iU),.v (.s x1.cO.ad.iE),.v (.s x1.cO.ad.iq),.v (.i .i64 x1.cO.ad.fN)]]):=cX [1] rfl rfl rfl rfl (xK x2 x3 _ h3) rfl rfl
 have g3:=CK C sv x4 (x4==0) x5 x1 _ rfl (mW x4 (x4==0) x5 x1) rfl
 refine aX (fun h4=>?_) (fun h4=>?_)
 rotate_left 1
 all_goals (rintro⟨⟩;rw [bk];show cC _ _ _ (aH _ _ _ _ (Code.seq _ _) _)=_;simp (maxSteps:=4000000) only [*,qgS,qff,U8,qdp,S9,qgM,VA,qeV,↓RP,RB,RC,Nat.reduceBEq,bP,List.map,Nat.reduceAdd,Nat.reduceLeDiff,bne,↓ao,aP,ty3,ty4,qM,mD,CI,zN,Vx,Kn,↓aa _ _ _ _ 0,↓aa _ _ _ _ 1,↓am _ _ _ _ 10,↓aa _ _ _ _ 2,↓aa _ _ _ _ 3,↓aa _ _ _ _ 4,↓aa _ _ _ _ 5,↓aa _ _ _ _ 6,↓kZ _ _ _ _ 24,↓aa _ _ _ _ 8,↓am _ _ _ _ 28,↓aa _ _ _ _ 9,↓aa _ _ _ _ 10])
def T8:List (Nat×List Nat):=[(0,[0]),(1,[0,3]),(2,[0,3,4,24]),(3,[0,3,4,5,24]),(4,[0,3,4,5,16,24]),(5,[0,3,4,5,24]),(6,[0,3,4,5,6,24]),(7,[0,3,4,5,24]),(8,[2,4,24,25])]
def Wg:List (Nat×List Nat×List Nat):=[(16,[0,3,4,5,24],[4,24])]
def n89:cL where
 keep:=ax T8
 ro:=fun _=>false
 mv:=fun _=>false
 give:=fun _=>false
 free:=fun _=>[]
 alive:=av Wg
theorem qiH (t:Nat) (x:Bool) (e:Env) (S:bH):cK n89 t x ⟨e,S⟩=atO (av Wg t x) e S:=cF rfl t x e S
theorem qg1 (i:Nat):n89.keep i=ax T8 i:=rfl
theorem Vs (t:Nat):n89.give t=(false):=rfl
theorem qdU:Tryz.f89.results.toList= [.tmp 2]:=rfl
noncomputable def b89:Code:=aU Tryz.f89
noncomputable def qeh:Code:=(bE 0 (aU Tryz.f89)).getD .skip
theorem Y0:bE 0 b89=some qeh:=rfl
def rW (p0:Int) (s:(List ByteArray)×Int×iK):St:=⟨[(0,.ptr 0 0),(3,.v (.i .i64 p0)),(4,.own 1 (ah bY s.1)),(5,.v (.i .i64 s.2.1)),(24,.bad)],[[.v (.sl 1 (ah cE s.2.2.fb)),.v (.i .i64 s.2.2.fat)]]⟩
def uw (p0:Int) (r:(List ByteArray)×iK):Option (Ex×St):=some (.normal,⟨[(4,.own 1 (ah bY r.1)),(24,.bad)],[[.v (.sl 1 (ah cE r.2.fb)),.v (.i .i64 r.2.fat)]]⟩)
theorem BG (C:aj) (ji:jV C) (jw:kQ C) (p0:Int) (s:(List ByteArray)×Int×iK) (o:((List ByteArray)×Int×iK)⊕((List ByteArray)×iK)) (hF:ml p0 s=some o):evW TT C.wide n89 b89 0 (rW p0 s)=Sum.elim (fun s=>evW TT C.wide n89 b89 0 (rW p0 s)) (fun r=>uw p0 r) o:=by
 obtain⟨p1,p2,p3⟩:=s
 rw [cG TT n89 Y0]
 revert hF
 unfold ml
 try dsimp only
 refine bF (fun h1=>?_) (fun h1=>?_)
 rotate_left 1
 refine az ?_
 rintro⟨x1,x2⟩ h2
 dsimp only
 have g1:C.wide 86 [.ptr 0 0] [[.v (.sl 1 (ah cE p3.fb)),.v (.i .i64 p3.fat)]]=some (.v (.b x1),[[.v (.sl 1 (ah cE x2.fb)),.v (.i .i64 x2.fat)]]):=cX [0] rfl rfl rfl rfl (ji p3 _ h2) rfl rfl
 refine aX (fun h3=>?_) (fun h3=>?_)
 rotate_left 1
 refine az ?_
 rintro⟨x3,x4⟩ h4
 dsimp only
 have g2:C.wide 87 [.ptr 0 0] [[.v (.sl 1 (ah cE x2.fb)),.v (.i .i64 x2.fat)]]=some (.v (.s x3),[[.v (.sl 1 (ah cE x4.fb)),.v (.i .i64 x4.fat)]]):=cX [0] rfl rfl rfl rfl (jw x2 _ h4) rfl rfl
 refine aX (fun h5=>?_) (fun _=>nofun)
 all_goals (rintro⟨⟩;show cN _ _ _ (aH _ _ _ _ (Code.seq _ _) _)=_;simp (maxSteps:=4000000) only [*,rW,uw,qiH,Wg,qg1,T8,Vs,↓RP,RB,RC,↓ai,Nat.reduceBEq,List.map,Nat.reduceMul,Nat.reduceLeDiff,bne,↓ao,↓am,↓aa,ty3,ty9,ph])
theorem FH (C:aj) (jl:jZ C) (ji:jV C) (jw:kQ C) (p0:iK) (r:(List ByteArray)×iK) (hF:pV p0=some r):cR TT C.wide (evW TT C.wide n89 b89) n89 Tryz.f89.results.toList (aU Tryz.f89) [.ptr 0 0] [[.v (.sl 1 (ah cE p0.fb)),.v (.i .i64 p0.fat)]]=some (.own 1 (ah bY r.1),[[.v (.sl 1 (ah cE r.2.fb)),.v (.i .i64 r.2.fat)]]):=by
 revert hF
 unfold pV
 refine az ?_
 rintro⟨x1,x2⟩ h1
 dsimp only
 have g1:C.wide 85 [.ptr 0 0] [[.v (.sl 1 (ah cE p0.fb)),.v (.i .i64 p0.fat)]]=some (.v (.i .i64 x1),[[.v (.sl 1 (ah cE x2.fb)),.v (.i .i64 x2.fat)]]):=cX [0] rfl rfl rfl rfl (jl p0 _ h1) rfl rfl
 refine az ?_
 rintro⟨x3,x4⟩ h2
 dsimp only
 have g2:=cH _ _ (BG C ji jw x1) h2
 try simp only [ak,rW,uw] at g2
 all_goals (rintro⟨⟩;rw [bk];show cC _ _ _ (aH _ _ _ _ (Code.seq _ _) _)=_;simp (maxSteps:=4000000) only [*,qdU,qg1,T8,Vs,↓RP,RB,RC,Nat.reduceBEq,List.map,↓ao,↓aa,ty3,ph])
def PR:List (Nat×List Nat):=[(0,[0,2]),(1,[0,2,3]),(2,[0,2,3]),(3,[0,2,3]),(4,[0,2,3]),(5,[0,2,3,4]),(6,[0,2,3,4,5]),(7,[0,2,3,4,5,28]),(8,[0,2,3,4,5]),(9,[0,2,3,4,5,6]),(10,[0,2,3,4,5,6]),(11,[0,2,3,4,5,6]),(12,[0,2,3,4,5]),(13,[0,2,3]),(14,[0,2,3,4]),(15,[0,2,3,4,7]),(16,[0,2,3,4,7,56]),(17,[0,2,3,4,7]),(18,[0,2,3,4,7,8]),(19,[0,2,3,4,7,8]),(20,[0,2,3,4,7,8]),(21,[0,2,3,4,7]),(22,[2])]
def Uw:List (Nat×List Nat×List Nat):=[(28,[0,2,3,4,5],[0,2,3]),(56,[0,2,3,4,7],[2,3])]
def n88:cL where
 keep:=ax PR
 ro:=fun _=>false
 mv:=fun t=>t==72
 give:=fun _=>false
 free:=fun _=>[]
 alive:=av Uw
theorem qgr (t:Nat) (x:Bool) (e:Env) (S:bH):cK n88 t x ⟨e,S⟩=atO (av Uw t x) e S:=cF rfl t x e S
theorem Xg (i:Nat):n88.keep i=ax PR i:=rfl
theorem Rc (t:Nat):n88.mv t=(t==72):=rfl
theorem PK (t:Nat):n88.give t=(false):=rfl
theorem qdb:Tryz.f88.results.toList= [.cell 2 109]:=rfl
noncomputable def b88:Code:=aU Tryz.f88
noncomputable def qgu:Code:=(bE 0 (aU Tryz.f88)).getD .skip
theorem Xz:bE 0 b88=some qgu:=rfl
noncomputable def qcW:Code:=(bE 2 (aU Tryz.f88)).getD .skip
theorem qa6:bE 2 b88=some qcW:=rfl
def nN (p0:Int) (s:Int×iK×iy):St:=⟨[(0,.ptr 0 0),(2,.ptr 1 0),(3,.ptr 2 0),(4,.v (.i .i64 p0)),(5,.v (.i .i64 s.1))],[[.v (.sl 1 (ah cE s.2.1.fb)),.v (.i .i64 s.2.1.fat)],[.v (.i .i64 0),.v (.s ByteArray.empty),.v (.i .i64 0),.own 2 [],.own 1 [],.own 2 []],[.v (.i .i64 s.2.2.bt),.v (.s s.2.2.iq),.v (.i .i64 s.2.2.iF),.own 2 (ah iD.row s.2.2.iA),.own 1 (ah bY s.2.2.iC),.own 2 (ah im.row s.2.2.il)]]⟩
def qS (p0:Int) (r:iK×iy):Option (Ex×St):=some (.normal,⟨[(0,.ptr 0 0),(2,.ptr 1 0),(3,.ptr 2 0)],[[.v (.sl 1 (ah cE r.1.fb)),.v (.i .i64 r.1.fat)],[.v (.i .i64 0),.v (.s ByteArray.empty),.v (.i .i64 0),.own 2 [],.own 1 [],.own 2 []],[.v (.i .i64 r.2.bt),.v (.s r.2.iq),.v (.i .i64 r.2.iF),.own 2 (ah iD.row r.2.iA),.own 1 (ah bY r.2.iC),.own 2 (ah im.row r.2.il)]]⟩)
theorem yA (C:aj) (ji:jV C) (jw:kQ C) (p0:Int) (s:Int×iK×iy) (o:(Int×iK×iy)⊕(iK×iy)) (hF:ka p0 s=some o):evW TT C.wide n88 b88 0 (nN p0 s)=Sum.elim (fun s=>evW TT C.wide n88 b88 0 (nN p0 s)) (fun r=>qS p0 r) o:=by
 obtain⟨p1,p2,p3⟩:=s
 rw [cG TT n88 Xz]
 revert hF
 unfold ka
 try dsimp only
 refine bF (fun h1=>?_) (fun h1=>?_)
 rotate_left 1
 refine az ?_
 rintro⟨x1,x2⟩ h2
 dsimp only
 have g1:C.wide 86 [.ptr 0 0] [[.v (.sl 1 (ah cE p2.fb)),.v (.i .i64 p2.fat)],[.v (.i .i64 0),.v (.s ByteArray.empty),.v (.i .i64 0),.own 2 [],.own 1 [],.own 2 []],[.v (.i .i64 p3.bt),.v (.s p3.iq),.v (.i .i64 p3.iF),.own 2 (ah iD.row p3.iA),.own 1 (ah bY p3.iC),.own 2 (ah im.row p3.il)]]=some (.v (.b x1),[[.v (.sl 1 (ah cE x2.fb)),.v (.i .i64 x2.fat)],[.v (.i .i64 0),.v (.s ByteArray.empty),.v (.i .i64 0),.own 2 [],.own 1 [],.own 2 []],[.v (.i .i64 p3.bt),.v (.s p3.iq),.v (.i .i64 p3.iF),.own 2 (ah iD.row p3.iA),.own 1 (ah bY p3.iC),.own 2 (ah im.row p3.il)]]):=cX [0] rfl rfl rfl rfl (ji p2 _ h2) rfl rfl
 refine aX (fun h3=>?_) (fun h3=>?_)
 rotate_left 1
 refine az ?_
 rintro⟨x3,x4⟩ h4
 dsimp only
 have g2:C.wide 87 [.ptr 0 0] [[.v (.sl 1 (ah cE x2.fb)),.v (.i .i64 x2.fat)],[.v (.i .i64 0),.v (.s ByteArray.empty),.v (.i .i64 0),.own 2 [],.own 1 [],.own 2 []],[.v (.i .i64 p3.bt),.v (.s p3.iq),.v (.i .i64 p3.iF),.own 2 (ah iD.row p3.iA),.own 1 (ah bY p3.iC),.own 2 (ah im.row p3.il)],[.v (.s ByteArray.empty),.v (.s ByteArray.empty)]]=some (.v (.s x3),[[.v (.sl 1 (ah cE x4.fb)),.v (.i .i64 x4.fat)],[.v (.i .i64 0),.v (.s ByteArray.empty),.v (.i .i64 0),.own 2 [],.own 1 [],.own 2 []],[.v (.i .i64 p3.bt),.v (.s p3.iq),.v (.i .i64 p3.iF),.own 2 (ah iD.row p3.iA),.own 1 (ah bY p3.iC),.own 2 (ah im.row p3.il)],[.v (.s ByteArray.empty),.v (.s ByteArray.empty)]]):=cX [0] rfl rfl rfl rfl (jw x2 _ h4) rfl rfl
 refine az ?_
 rintro⟨x5,x6⟩ h5
 dsimp only
 have g3:C.wide 87 [.ptr 0 0] [[.v (.sl 1 (ah cE x4.fb)),.v (.i .i64 x4.fat)],[.v (.i .i64 0),.v (.s ByteArray.empty),.v (.i .i64 0),.own 2 [],.own 1 [],.own 2 []],[.v (.i .i64 p3.bt),.v (.s p3.iq),.v (.i .i64 p3.iF),.own 2 (ah iD.row p3.iA),.own 1 (ah bY p3.iC),.own 2 (ah im.row p3.il)],[.v (.s x3),.v (.s ByteArray.empty)]]=some (.v (.s x5),[[.v (.sl 1 (ah cE x6.fb)),.v (.i .i64 x6.fat)],[.v (.i .i64 0),.v (.s ByteArray.empty),.v (.i .i64 0),.own 2 [],.own 1 [],.own 2 []],[.v (.i .i64 p3.bt),.v (.s p3.iq),.v (.i .i64 p3.iF),.own 2 (ah iD.row p3.iA),.own 1 (ah bY p3.iC),.own 2 (ah im.row p3.il)],[.v (.s x3),.v (.s ByteArray.empty)]]):=cX [0] rfl rfl rfl rfl (jw x4 _ h5) rfl rfl
 refine aX (fun h6=>?_) (fun _=>nofun)
 all_goals (rintro⟨⟩;show cN _ _ _ (aH _ _ _ _ (Code.seq _ _) _)=_;simp (maxSteps:=4000000) only [*,nN,qS,qgr,Uw,Xg,PR,Rc,PK,↓RP,RB,RC,↓ai,Nat.reduceBEq,bP,List.map,Nat.reduceAdd,Nat.reduceMul,Nat.reduceLT,Nat.reduceLeDiff,bne,↓ao,↓am,↓aa,aP,ty3,ty9,ue,mh,AH,iD.one])
def nM (p0:Int) (s:Int×iK×iy):St:=⟨[(0,.ptr 0 0),(2,.ptr 1 0),(3,.ptr 2 0),(4,.v (.i .i64 p0)),(7,.v (.i .i64 s.1))],[[.v (.sl 1 (ah cE s.2.1.fb)),.v (.i .i64 s.2.1.fat)],[.v (.i .i64 0),.v (.s ByteArray.empty),.v (.i .i64 0),.own 2 [],.own 1 [],.own 2 []],[.v (.i .i64 s.2.2.bt),.v (.s s.2.2.iq),.v (.i .i64 s.2.2.iF),.own 2 (ah iD.row s.2.2.iA),.own 1 (ah bY s.2.2.iC),.own 2 (ah im.row s.2.2.il)]]⟩
def qV (p0:Int) (r:iK×iy):Option (Ex×St):=some (.normal,⟨[(2,.ptr 1 0),(3,.ptr 2 0)],[[.v (.sl 1 (ah cE r.1.fb)),.v (.i .i64 r.1.fat)],[.v (.i .i64 0),.v (.s ByteArray.empty),.v (.i .i64 0),.own 2 [],.own 1 [],.own 2 []],[.v (.i .i64 r.2.bt),.v (.s r.2.iq),.v (.i .i64 r.2.iF),.own 2 (ah iD.row r.2.iA),.own 1 (ah bY r.2.iC),.own 2 (ah im.row r.2.il)]]⟩)
theorem yz (C:aj) (ji:jV C) (jw:kQ C) (jr:lA C) (p0:Int) (s:Int×iK×iy) (o:(Int×iK×iy)⊕(iK×iy)) (hF:kb p0 s=some o):evW TT C.wide n88 b88 2 (nM p0 s)=Sum.elim (fun s=>evW TT C.wide n88 b88 2 (nM p0 s)) (fun r=>qV p0 r) o:=by
 obtain⟨p1,p2,p3⟩:=s
 rw [cG TT n88 qa6]
 revert hF
 unfold kb
 try dsimp only
 refine bF (fun h1=>?_) (fun h1=>?_)
 rotate_left 1
 refine az ?_
 rintro⟨x1,x2⟩ h2
 dsimp only
 have g1:C.wide 86 [.ptr 0 0] [[.v (.sl 1 (ah cE p2.fb)),.v (.i .i64 p2.fat)],[.v (.i .i64 0),.v (.s ByteArray.empty),.v (.i .i64 0),.own 2 [],.own 1 [],.own 2 []],[.v (.i .i64 p3.bt),.v (.s p3.iq),.v (.i .i64 p3.iF),.own 2 (ah iD.row p3.iA),.own 1 (ah bY p3.iC),.own 2 (ah im.row p3.il)]]=some (.v (.b x1),[[.v (.sl 1 (ah cE x2.fb)),.v (.i .i64 x2.fat)],[.v (.i .i64 0),.v (.s ByteArray.empty),.v (.i .i64 0),.own 2 [],.own 1 [],.own 2 []],[.v (.i .i64 p3.bt),.v (.s p3.iq),.v (.i .i64 p3.iF),.own 2 (ah iD.row p3.iA),.own 1 (ah bY p3.iC),.own 2 (ah im.row p3.il)]]):=cX [0] rfl rfl rfl rfl (ji p2 _ h2) rfl rfl
 refine aX (fun h3=>?_) (fun h3=>?_)
 rotate_left 1
 refine az ?_
 rintro⟨x3,x4⟩ h4
 dsimp only
 have g2:C.wide 87 [.ptr 0 0] [[.v (.sl 1 (ah cE x2.fb)),.v (.i .i64 x2.fat)],[.v (.i .i64 0),.v (.s ByteArray.empty),.v (.i .i64 0),.own 2 [],.own 1 [],.own 2 []],[.v (.i .i64 p3.bt),.v (.s p3.iq),.v (.i .i64 p3.iF),.own 2 (ah iD.row p3.iA),.own 1 (ah bY p3.iC),.own 2 (ah im.row p3.il)],[.v (.s ByteArray.empty),.v (.i .i64 0)]]=some (.v (.s x3),[[.v (.sl 1 (ah cE x4.fb)),.v (.i .i64 x4.fat)],[.v (.i .i64 0),.v (.s ByteArray.empty),.v (.i .i64 0),.own 2 [],.own 1 [],.own 2 []],[.v (.i .i64 p3.bt),.v (.s p3.iq),.v (.i .i64 p3.iF),.own 2 (ah iD.row p3.iA),.own 1 (ah bY p3.iC),.own 2 (ah im.row p3.il)],[.v (.s ByteArray.empty),.v (.i .i64 0)]]):=cX [0] rfl rfl rfl rfl (jw x2 _ h4) rfl rfl
 refine az ?_
 rintro⟨x5,x6⟩ h5
 dsimp only
 have g3:C.wide 84 [.ptr 0 0] [[.v (.sl 1 (ah cE x4.fb)),.v (.i .i64 x4.fat)],[.v (.i .i64 0),.v (.s ByteArray.empty),.v (.i .i64 0),.own 2 [],.own 1 [],.own 2 []],[.v (.i .i64 p3.bt),.v (.s p3.iq),.v (.i .i64 p3.iF),.own 2 (ah iD.row p3.iA),.own 1 (ah bY p3.iC),.own 2 (ah im.row p3.il)],[.v (.s x3),.v (.i .i64 0)]]=some (.v (.i .i64 x5),[[.v (.sl 1 (ah cE x6.fb)),.v (.i .i64 x6.fat)],[.v (.i .i64 0),.v (.s ByteArray.empty),.v (.i .i64 0),.own 2 [],.own 1 [],.own 2 []],[.v (.i .i64 p3.bt),.v (.s p3.iq),.v (.i .i64 p3.iF),.own 2 (ah iD.row p3.iA),.own 1 (ah bY p3.iC),.own 2 (ah im.row p3.il)],[.v (.s x3),.v (.i .i64 0)]]):=cX [0] rfl rfl rfl rfl (jr x4 _ h5) rfl rfl
 refine aX (fun h6=>?_) (fun _=>nofun)
 all_goals (rintro⟨⟩;show cN _ _ _ (aH _ _ _ _ (Code.seq _ _) _)=_;simp (maxSteps:=4000000) only [*,nM,qV,qgr,Uw,Xg,PR,Rc,PK,↓RP,RB,RC,↓ai,Nat.reduceBEq,bP,List.map,Nat.reduceAdd,Nat.reduceMul,Nat.reduceLT,Nat.reduceLeDiff,bne,↓ao,↓am,↓aa,aP,ty3,ty9,qu,mh,u7,im.one])
theorem Ad (C:aj) (jl:jZ C) (jw:kQ C) (jr:lA C) (su:sr C) (ji:jV C) (p0:iK) (r:iy×iK) (hF:mm p0=some r):cR TT C.wide (evW TT C.wide n88 b88) n88 Tryz.f88.results.toList (aU Tryz.f88) [.ptr 0 0] [[.v (.sl 1 (ah cE p0.fb)),.v (.i .i64 p0.fat)]]=some (.agg [.v (.i .i64 r.1.bt),.v (.s r.1.iq),.v (.i .i64 r.1.iF),.own 2 (ah iD.row r.1.iA),.own 1 (ah bY r.1.iC),.own 2 (ah im.row r.1.il)],[[.v (.sl 1 (ah cE r.2.fb)),.v (.i .i64 r.2.fat)]]):=by
 revert hF
 unfold mm
 refine az ?_
 rintro⟨x1,x2⟩ h1
 dsimp only
 have g1:C.wide 85 [.ptr 0 0] [[.v (.sl 1 (ah cE p0.fb)),.v (.i .i64 p0.fat)],[.v (.i .i64 0),.v (.s ByteArray.empty),.v (.i .i64 0),.own 2 [],.own 1 [],.own 2 []],[.v (.i .i64 0),.v (.s ByteArray.empty),.v (.i .i64 0),.own 2 [],.own 1 [],.own 2 []]]=some (.v (.i .i64 x1),[[.v (.sl 1 (ah cE x2.fb)),.v (.i .i64 x2.fat)],[.v (.i .i64 0),.v (.s ByteArray.empty),.v (.i .i64 0),.own 2 [],.own 1 [],.own 2 []],[.v (.i .i64 0),.v (.s ByteArray.empty),.v (.i .i64 0),.own 2 [],.own 1 [],.own 2 []]]):=cX [0] rfl rfl rfl rfl (jl p0 _ h1) rfl rfl
 refine az ?_
 rintro⟨x3,x4⟩ h2
 dsimp only
 have g2:C.wide 87 [.ptr 0 0] [[.v (.sl 1 (ah cE x2.fb)),.v (.i .i64 x2.fat)],[.v (.i .i64 0),.v (.s ByteArray.empty),.v (.i .i64 0),.own 2 [],.own 1 [],.own 2 []],[.v (.i .i64 x1),.v (.s ByteArray.empty),.v (.i .i64 0),.own 2 [],.own 1 [],.own 2 []]]=some (.v (.s x3),[[.v (.sl 1 (ah cE x4.fb)),.v (.i .i64 x4.fat)],[.v (.i .i64 0),.v (.s ByteArray.empty),.v (.i .i64 0),.own 2 [],.own 1 [],.own 2 []],[.v (.i .i64 x1),.v (.s ByteArray.empty),.v (.i .i64 0),.own 2 [],.own 1 [],.own 2 []]]):=cX [0] rfl rfl rfl rfl (jw x2 _ h2) rfl rfl
 refine az ?_
 rintro⟨x5,x6⟩ h3
 dsimp only
 have g3:C.wide 84 [.ptr 0 0] [[.v (.sl 1 (ah cE x4.fb)),.v (.i .i64 x4.fat)],[.v (.i .i64 0),.v (.s ByteArray.empty),.v (.i .i64 0),.own 2 [],.own 1 [],.own 2 []],[.v (.i .i64 x1),.v (.s x3),.v (.i .i64 0),.own 2 [],.own 1 [],.own 2 []]]=some (.v (.i .i64 x5),[[.v (.sl 1 (ah cE x6.fb)),.v (.i .i64 x6.fat)],[.v (.i .i64 0),.v (.s ByteArray.empty),.v (.i .i64 0),.own 2 [],.own 1 [],.own 2 []],[.v (.i .i64 x1),.v (.s x3),.v (.i .i64 0),.own 2 [],.own 1 [],.own 2 []]]):=cX [0] rfl rfl rfl rfl (jr x4 _ h3) rfl rfl
 refine az ?_
 rintro⟨x7,x8⟩ h4
 dsimp only
 have g4:C.wide 85 [.ptr 0 0] [[.v (.sl 1 (ah cE x6.fb)),.v (.i .i64 x6.fat)],[.v (.i .i64 0),.v (.s ByteArray.empty),.v (.i .i64 0),.own 2 [],.own 1 [],.own 2 []],[.v (.i .i64 x1),.v (.s x3),.v (.i .i64 x5),.own 2 [],.own 1 [],.own 2 []]]=some (.v (.i .i64 x7),[[.v (.sl 1 (ah cE x8.fb)),.v (.i .i64 x8.fat)],[.v (.i .i64 0),.v (.s ByteArray.empty),.v (.i .i64 0),.own 2 [],.own 1 [],.own 2 []],[.v (.i .i64 x1),.v (.s x3),.v (.i .i64 x5),.own 2 [],.own 1 [],.own 2 []]]):=cX [0] rfl rfl rfl rfl (jl x6 _ h4) rfl rfl
 refine az ?_
 rintro⟨x9,x10⟩ h5
 dsimp only
 unfold si
 have g5:=cH _ _ (yA C ji jw x7) h5
 try simp only [ak,nN,qS] at g5
 refine az ?_
 rintro⟨x11,x12⟩ h6
 dsimp only
 have g6:C.wide 89 [.ptr 0 0] [[.v (.sl 1 (ah cE x9.fb)),.v (.i .i64 x9.fat)],[.v (.i .i64 0),.v (.s ByteArray.empty),.v (.i .i64 0),.own 2 [],.own 1 [],.own 2 []],[.v (.i .i64 x10.bt),.v (.s x10.iq),.v (.i .i64 x10.iF),.own 2 (ah iD.row x10.iA),.own 1 (ah bY x10.iC),.own 2 (ah im.row x10.il)]]=some (.own 1 (ah bY x11),[[.v (.sl 1 (ah cE x12.fb)),.v (.i .i64 x12.fat)],[.v (.i .i64 0),.v (.s ByteArray.empty),.v (.i .i64 0),.own 2 [],.own 1 [],.own 2 []],[.v (.i .i64 x10.bt),.v (.s x10.iq),.v (.i .i64 x10.iF),.own 2 (ah iD.row x10.iA),.own 1 (ah bY x10.iC),.own 2 (ah im.row x10.il)]]):=cX [0] rfl rfl rfl rfl (su x9 _ h6) rfl rfl
 refine az ?_
 rintro⟨x13,x14⟩ h7
 dsimp only
 have g7:C.wide 85 [.ptr 0 0] [[.v (.sl 1 (ah cE x12.fb)),.v (.i .i64 x12.fat)],[.v (.i .i64 0),.v (.s ByteArray.empty),.v (.i .i64 0),.own 2 [],.own 1 [],.own 2 []],[.v (.i .i64 x10.bt),.v (.s x10.iq),.v (.i .i64 x10.iF),.own 2 (ah iD.row x10.iA),.own 1 (ah bY x11),.own 2 (ah im.row x10.il)]]=some (.v (.i .i64 x13),[[.v (.sl 1 (ah cE x14.fb)),.v (.i .i64 x14.fat)],[.v (.i .i64 0),.v (.s ByteArray.empty),.v (.i .i64 0),.own 2 [],.own 1 [],.own 2 []],[.v (.i .i64 x10.bt),.v (.s x10.iq),.v (.i .i64 x10.iF),.own 2 (ah iD.row x10.iA),.own 1 (ah bY x11),.own 2 (ah im.row x10.il)]]):=cX [0] rfl rfl rfl rfl (jl x12 _ h7) rfl rfl
 refine az ?_
 rintro⟨x15,x16⟩ h8
 dsimp only
 have g8:=cH _ _ (yz C ji jw jr x13) h8
 try simp only [nM,qV] at g8
 all_goals (rintro⟨⟩;rw [bk];show cC _ _ _ (aH _ _ _ _ (Code.seq _ _) _)=_;simp (maxSteps:=4000000) only [*,qdb,Xg,PR,Rc,PK,↓RP,RB,RC,Nat.reduceBEq,bP,List.map,Nat.reduceAdd,Nat.reduceLeDiff,bne,↓ao,↓aa,ty3,ty9,ue,ph,qu,mh])
end Go.Proofs.YtgcglmoogaldbaaGreat
