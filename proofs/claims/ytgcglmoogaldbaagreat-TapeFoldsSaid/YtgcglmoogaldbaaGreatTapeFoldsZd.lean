/- The code of these functions, run by the machine Mx, gives what the plain functions say, if their callees do (part 4). -/
import Derived.Test.YtgcglmoogaldbaaGreatWTy
import Derived.Test.YtgcglmoogaldbaaGreatTapeFoldsD
import Derived.Test.YtgcglmoogaldbaaGreatTapeFoldsZa
set_option linter.unusedSimpArgs false
set_option linter.unusedVariables false
set_option linter.constructorNameAsVariable false
set_option linter.unnecessarySimpa false
set_option maxRecDepth 100000
set_option maxHeartbeats 40000000
noncomputable section
namespace Go.Proofs.YtgcglmoogaldbaaGreat
open Go Go.Mx Go.Proofs
def Px:List (Nat×List Nat):=[(0,[1]),(1,[1,7]),(2,[2]),(3,[1,17]),(4,[2]),(5,[1,3]),(6,[1,3,22]),(7,[1,3]),(8,[1,3,31]),(9,[2]),(10,[35]),(11,[2]),(12,[2])]
def PT:List (Nat×List Nat×List Nat):=[(7,[],[1]),(17,[],[1]),(22,[1,3],[1]),(31,[],[1,3]),(35,[],[])]
def GM:cL where
 keep:=ax Px
 ro:=fun t=>t==1
 mv:=fun _=>false
 give:=fun _=>false
 free:=fun _=>[]
 alive:=av PT
theorem Yp (t:Nat) (x:Bool) (e:Env) (S:bH):cK GM t x ⟨e,S⟩=atO (av PT t x) e S:=cF rfl t x e S
theorem Yh (i:Nat):GM.keep i=ax Px i:=rfl
theorem qcj (t:Nat):GM.ro t=(t==1):=rfl
theorem Sr (t:Nat):GM.mv t=(false):=rfl
theorem qcA:Tryz.f106.results.toList= [.tmp 2]:=rfl
def XM:Code:=aU Tryz.f106
def qbO:Code:=(bE 0 (aU Tryz.f106)).getD .skip
theorem WW:bE 0 XM=some qbO:=rfl
def nP (p0:iT) (s:Int):St:=⟨[(1,.rp (rGReply p0)),(3,.I s)],[]⟩
def qC (p0:iT) (r:Unit⊕Unit):Option (Ex×St):=match r with
 | .inl r=>some (.ret,⟨[(2,.I 1)],[]⟩)
 | .inr r=>some (.normal,⟨[(1,.rp (rGReply p0))],[]⟩)
theorem wJ (C:aj) (iY:kN C) (p0:iT) (p1:Int) (o:Int⊕(Unit⊕Unit)) (hF:mf p0 p1=some o):evW TT C.wide GM XM 0 (nP p0 p1)=Sum.elim (fun s=>evW TT C.wide GM XM 0 (nP p0 s)) (fun r=>qC p0 r) o:=by
 rw [cG TT GM WW]
 revert hF
 unfold mf
 try dsimp only
 refine ip (fun h1=>az fun x1 h2=>?_) ?_
 have g1:decide (0<=p1)=true:=(cp h2).1
 have g2:(ah bY p0.jG)[(p1:Int).toNat]? =some [.s x1]:=cn _ h2
 have g3:=bK (iY x1 _ (lY x1))
 refine iv (fun h3=>?_) ?_
 all_goals (rintro⟨⟩;intros;show cN _ _ _ (aH _ _ _ _ (Code.seq _ _) _)=_;simp (maxSteps:=4000000) only [*,rGReply,nP,qC,Yp,PT,Yh,Px,Sr,↓RP,RB,RC,↓ai,Nat.reduceBEq,List.map,↓ao,↓am,↓aa,ty3,ty9,kQ,mJ,wQ])
theorem Eh (C:aj) (jr:kF C) (iY:kN C) (kz:pF C) (p0:iT) (r:Int) (hF:nR p0=some r):cR TT C.wide (evW TT C.wide GM XM) GM Tryz.f106.results.toList (aU Tryz.f106) [.agg (cGReply p0)] []=some (.I r,[]):=by
 revert hF
 unfold nR
 have g1:=bK (jr p0.j9 0 13 _ (oc p0.j9 0 13))
 have g2:jc p0.j9 0 13=(decide (0<=p0.j9)&&decide (p0.j9<=13)):=by first|rfl|(simp [jc];done)|(simp only [jc];decide)
 refine ip (fun h1=>ip (fun h2=>?_) ?_) ?_
 have g3:=bK (iY p0.iq _ (lY p0.iq))
 refine ip (fun h3=>iv (fun h4=>az ?_) ?_) ?_
 rintro (_|_) h5
 focus
  dsimp only
  have g4:=cH _ _ (wJ C iY p0) h5
  try simp only [nP,qC] at g4
 rotate_left 1
 dsimp only
 have g5:=cH _ _ (wJ C iY p0) h5
 have g6:=bK (kz p0.fN _ (tD p0.fN))
 try simp only [nP,qC] at g5
 refine iv (fun h6=>?_) ?_
 all_goals (rintro⟨⟩;intros;rw [bk];show cC _ _ _ (aH _ _ _ _ (Code.seq _ _) _)=_;simp (maxSteps:=4000000) only [*,cGReply,rGReply,qcA,Yp,PT,Yh,Px,qcj,Sr,↓RP,RB,RC,Nat.reduceBEq,bP,List.map,↓ao,↓am,↓aa,ty3,ty9,kQ,mJ,wQ])
def Qp:List (Nat×List Nat):=[(0,[1]),(1,[1,20]),(2,[2]),(3,[1,3]),(4,[1,3,25]),(5,[1,3]),(6,[1,3,4]),(7,[1,3,80]),(8,[2]),(9,[2])]
def WY:List (Nat×List Nat×List Nat):=[(20,[],[1]),(25,[1,3],[]),(80,[],[1,3])]
def n90:cL where
 keep:=ax Qp
 ro:=fun t=>t==1
 mv:=fun _=>false
 give:=fun _=>false
 free:=fun i=>match i with|7=>[(5,7),(6,7),(5,8),(6,8),(15,17),(16,17),(15,18),(16,18),(15,22),(16,22),(17,22),(18,22),(19,22),(20,22),(21,22),(15,23),(16,23),(17,23),(18,23),(19,23),(20,23),(21,23),(34,36),(35,36),(34,37),(35,37),(34,38),(35,38)]|_=>[]
 alive:=av WY
theorem qkd (t:Nat) (x:Bool) (e:Env) (S:bH):cK n90 t x ⟨e,S⟩=atO (av WY t x) e S:=cF rfl t x e S
theorem Xd (i:Nat):n90.keep i=ax Qp i:=rfl
theorem qh7 (t:Nat):n90.ro t=(t==1):=rfl
theorem To (t:Nat):n90.mv t=(false):=rfl
theorem qjF (t:Nat):n90.give t=(false):=rfl
theorem qiZ:n90.free 7= [(5,7),(6,7),(5,8),(6,8),(15,17),(16,17),(15,18),(16,18),(15,22),(16,22),(17,22),(18,22),(19,22),(20,22),(21,22),(15,23),(16,23),(17,23),(18,23),(19,23),(20,23),(21,23),(34,36),(35,36),(34,37),(35,37),(34,38),(35,38)]:=rfl
theorem qiu:Tryz.f90.results.toList= [.tmp 2]:=rfl
def b90:Code:=aU Tryz.f90
def qgR:Code:=(bE 0 (aU Tryz.f90)).getD .skip
theorem qcs:bE 0 b90=some qgR:=rfl
theorem zg (C:aj) (wq:tW C) (jr:kF C) (p0:ad) (c:Code) (ho:cD 0 1 b90=some c) (r:Bool) (hF:lX p0=some r): @cV TT C.wide (evW TT C.wide n90 b90) n90 0 1 ⟨[(1,.rp (rGMachine p0))],[]⟩ ⟨c⟩=some (.normal,⟨[(1,.rp (rGMachine p0)),(20,.v (.b r))],[]⟩):=by
 have e:=Option.some.inj (ho.symm.trans (rfl:cD 0 1 b90=some _))
 subst e
 clear ho
 show aH _ _ _ _ _ _=_
 revert hF
 unfold lX
 refine az fun x1 h1=>?_
 have g1:=bK (wq p0.e7 _ h1)
 refine ip (fun h2=>?_) ?_
 have g2:=bK (jr p0.iI 1 1048577 _ (oc p0.iI 1 1048577))
 have g3:jc p0.iI 1 1048577=(decide (1<=p0.iI)&&decide (p0.iI<=1048577)):=by first|rfl|(simp [jc];done)|(simp only [jc];decide)
 refine ip (fun h3=>iv (fun h4=>?_) ?_) ?_
 all_goals (rintro⟨⟩;intros;simp (maxSteps:=4000000) only [*,rGMachine,Xd,Qp,To,↓RP,RB,RC,Nat.reduceBEq,List.map,Nat.reduceAdd,bne,ty3,kQ,ug,xm,sm,↓aa _ _ _ _ 1])
theorem yG (C:aj) (jy:jZ C) (jr:kF C) (ni:tY C) (p0:ad) (p1:Int) (p2:cc) (c:Code) (ho:cD 0 7 b90=some c) (r:Bool) (hF:ll p0 p1 p2=some r): @cV TT C.wide (evW TT C.wide n90 b90) n90 0 7 ⟨[(1,.rp (rGMachine p0)),(3,.I p1),(4,.ptr 0 0)],[cGClient p2]⟩ ⟨c⟩=some (.normal,⟨[(1,.rp (rGMachine p0)),(3,.I p1),(80,.v (.b r))],[cGClient p2]⟩):=by
 have e:=Option.some.inj (ho.symm.trans (rfl:cD 0 7 b90=some _))
 subst e
 clear ho
 show aH _ _ _ _ _ _=_
 revert hF
 unfold ll
 have g1:=bK (jy p2.fId _ (mO p2.fId))
 refine ip (fun h1=>?_) ?_
 unfold nm
 refine iv (fun h2=>bF (fun h3=>?_) (fun h3=>?_)) ?_
 focus
  have g2:=bK (jr p2.jQ 0 1048576 _ (oc p2.jQ 0 1048576))
  have g3:jc p2.jQ 0 1048576=(decide (0<=p2.jQ)&&decide (p2.jQ<=1048576)):=by first|rfl|(simp [jc];done)|(simp only [jc];decide)
  refine ip (fun h4=>ip (fun h5=>?_) ?_) ?_
  have g4:=bK (jr p2.iZ 0 p0.e7.iS _ (oc p2.iZ 0 p0.e7.iS))
  have g5:jc p2.iZ 0 p0.e7.iS=(decide (0<=p2.iZ)&&decide (p2.iZ<=p0.e7.iS)):=by first|rfl|(simp [jc];done)|(simp only [jc];decide)
  refine ip (fun h6=>ip (fun h7=>az fun x1 h8=>?_) ?_) ?_
  have g6:=bK (ni p2.i5 _ h8)
 rotate_left 5
 unfold ns
 refine az fun x1 h4=>?_
 have g7:decide (0<=(IntKind.i64.wrap (p1-1)))=true:=(cp h4).1
 have g8:(ah cc.row p0.cO)[((IntKind.i64.wrap (p1-1)):Int).toNat]? =some (rGClient x1):=cn _ h4
 refine iv (fun h5=>?_) ?_
 have g2:=bK (jr p2.jQ 0 1048576 _ (oc p2.jQ 0 1048576))
 have g3:jc p2.jQ 0 1048576=(decide (0<=p2.jQ)&&decide (p2.jQ<=1048576)):=by first|rfl|(simp [jc];done)|(simp only [jc];decide)
 refine ip (fun h6=>ip (fun h7=>?_) ?_) ?_
 have g4:=bK (jr p2.iZ 0 p0.e7.iS _ (oc p2.iZ 0 p0.e7.iS))
 have g5:jc p2.iZ 0 p0.e7.iS=(decide (0<=p2.iZ)&&decide (p2.iZ<=p0.e7.iS)):=by first|rfl|(simp [jc];done)|(simp only [jc];decide)
 refine ip (fun h8=>ip (fun h9=>az fun x2 h10=>?_) ?_) ?_
 have g9:=bK (ni p2.i5 _ h10)
 all_goals (rintro⟨⟩;intros;simp (maxSteps:=4000000) only [*,cGClient,rGClient,rGMachine,Xd,Qp,qiZ,To,↓RP,RB,RC,Nat.reduceBEq,List.map,Nat.reduceAdd,Nat.reduceSub,bne,aP,ty3,kQ,ug,xm,sm,wQ,zm,↓aq _ _ _ _ 7])
def mA (p0:ad) (s:Int):St:=⟨[(1,.rp (rGMachine p0)),(3,.I s)],[]⟩
def oE (p0:ad) (r:cc⊕Unit):Option (Ex×St):=match r with
 | .inl r=>some (.ret,⟨[(2,.I 13)],[cGClient r]⟩)
 | .inr r=>some (.normal,⟨[],[]⟩)
theorem vH (C:aj) (jy:jZ C) (jr:kF C) (ni:tY C) (p0:ad) (p1:Int) (o:Int⊕(cc⊕Unit)) (hF:lB p0 p1=some o):evW TT C.wide n90 b90 0 (mA p0 p1)=Sum.elim (fun s=>evW TT C.wide n90 b90 0 (mA p0 s)) (fun r=>oE p0 r) o:=by
 rw [cG TT n90 qcs]
 revert hF
 unfold lB
 try dsimp only
 refine ip (fun h1=>az fun x1 h2=>?_) ?_
 have g1:decide (0<=p1)=true:=(cp h2).1
 have g2:(ah cc.row p0.cO)[(p1:Int).toNat]? =some (rGClient x1):=cn _ h2
 refine az fun x2 h3=>?_
 have g3:=yG C jy jr ni p0 p1 x1 _ rfl _ h3
 refine iv (fun h4=>?_) ?_
 all_goals (rintro⟨⟩;intros;show cN _ _ _ (aH _ _ _ _ (Code.seq _ _) _)=_;simp (maxSteps:=4000000) only [*,cGClient,rGClient,rGMachine,mA,oE,qkd,WY,Xd,Qp,To,qjF,↓RP,RB,RC,↓ai,Nat.reduceBEq,bP,List.map,Nat.reduceAdd,Nat.reduceLeDiff,bne,↓ao,↓am,ty3,kQ,xm,sm,zm,↓aa _ _ _ _ 4,↓aa _ _ _ _ 6,↓bg _ _ _ _ 7,↓aa _ _ _ _ 8,↓aa _ _ _ _ 5])
theorem Cn (C:aj) (wq:tW C) (jr:kF C) (jy:jZ C) (ni:tY C) (p0:ad) (r:Int) (hF:na p0=some r):cR TT C.wide (evW TT C.wide n90 b90) n90 Tryz.f90.results.toList (aU Tryz.f90) [.agg (cGMachine p0)] []=some (.I r,[]):=by
 revert hF
 unfold na
 refine az fun x1 h1=>?_
 have g1:=zg C wq jr p0 _ rfl _ h1
 refine iv (fun h2=>az ?_) ?_
 rintro (x2|_) h3
 focus
  dsimp only
  have g2:=cH _ _ (vH C jy jr ni p0) h3
  try simp only [mA,oE] at g2
 rotate_left 1
 dsimp only
 have g3:=cH _ _ (vH C jy jr ni p0) h3
 try simp only [mA,oE] at g3
 all_goals (rintro⟨⟩;intros;rw [bk];show cC _ _ _ (aH _ _ _ _ (Code.seq _ _) _)=_;simp (maxSteps:=4000000) only [*,cGClient,cGMachine,rGMachine,qiu,qkd,WY,Xd,Qp,qh7,↓RP,RB,RC,Nat.reduceBEq,bP,List.map,↓ao,↓am,ty3,kQ,sm,↓aa _ _ _ _ 0,↓bg _ _ _ _ 1,↓aa _ _ _ _ 2,↓aa _ _ _ _ 3,↓aa _ _ _ _ 9])
def qeK:List (Nat×List Nat):=[(0,[1]),(1,[1,12]),(2,[2]),(3,[2])]
def qdP:List (Nat×List Nat×List Nat):=[(12,[],[1])]
def n72:cL where
 keep:=ax qeK
 ro:=fun t=>t==1
 mv:=fun _=>false
 give:=fun _=>false
 free:=fun _=>[]
 alive:=av qdP
theorem qmk (t:Nat) (x:Bool) (e:Env) (S:bH):cK n72 t x ⟨e,S⟩=atO (av qdP t x) e S:=cF rfl t x e S
theorem qmq (i:Nat):n72.keep i=ax qeK i:=rfl
theorem qgF (t:Nat):n72.ro t=(t==1):=rfl
theorem qi5 (t:Nat):n72.mv t=(false):=rfl
theorem qhD:Tryz.f72.results.toList= [.tmp 2]:=rfl
def b72:Code:=aU Tryz.f72
theorem FT (C:aj) (jy:jZ C) (B9:xH C) (p0:i4) (r:Int) (hF:ra p0=some r):cR TT C.wide (evW TT C.wide n72 b72) n72 Tryz.f72.results.toList (aU Tryz.f72) [.agg (cGSnap p0)] []=some (.I r,[]):=by
 revert hF
 unfold ra
 have g1:=bK (jy p0.iB _ (mO p0.iB))
 refine ip (fun h1=>?_) ?_
 have g2:=bK (jy p0.iK _ (mO p0.iK))
 refine ip (fun h2=>az fun x1 h3=>?_) ?_
 have g3:=bK (B9 p0.iy _ h3)
 all_goals (rintro⟨⟩;intros;rw [bk];show cC _ _ _ (aH _ _ _ _ (Code.seq _ _) _)=_;simp (maxSteps:=4000000) only [*,cGSnap,qhD,qmk,qdP,qmq,qeK,qgF,qi5,↓RP,RB,RC,Nat.reduceBEq,bP,List.map,Nat.reduceAdd,↓ao,↓am,↓aa,ty3,kQ,sm,tZ])
def E3:List (Nat×List Nat):=[(0,[1]),(1,[1,10]),(2,[2]),(3,[1,3]),(4,[1,3,4]),(5,[1,3,4,5]),(6,[1,3,4,5,6]),(7,[1,4,6,86]),(8,[2]),(9,[1,108]),(10,[2]),(11,[112]),(12,[2]),(13,[2])]
def SE:List (Nat×List Nat×List Nat):=[(10,[],[1]),(86,[],[1,4,6]),(108,[],[1]),(112,[],[])]
def AS:cL where
 keep:=ax E3
 ro:=fun t=>t==1
 mv:=fun _=>false
 give:=fun _=>false
 free:=fun _=>[]
 alive:=av SE
theorem qkb (t:Nat) (x:Bool) (e:Env) (S:bH):cK AS t x ⟨e,S⟩=atO (av SE t x) e S:=cF rfl t x e S
theorem Ml (i:Nat):AS.keep i=ax E3 i:=rfl
theorem qcS (t:Nat):AS.ro t=(t==1):=rfl
theorem Fv (t:Nat):AS.mv t=(false):=rfl
theorem qef:Tryz.f112.results.toList= [.tmp 2]:=rfl
def BX:Code:=aU Tryz.f112
theorem zI (C:aj) (jr:kF C) (p0:iA) (c:Code) (ho:cD 0 3 BX=some c) (r:Bool) (hF:je p0=r): @cV TT C.wide (evW TT C.wide AS BX) AS 0 3 ⟨[(1,.rp (rGCommand p0))],[]⟩ ⟨c⟩=some (.normal,⟨[(1,.rp (rGCommand p0)),(3,.v (.b r))],[]⟩):=by
 have e:=Option.some.inj (ho.symm.trans (rfl:cD 0 3 BX=some _))
 subst e
 clear ho
 show aH _ _ _ _ _ _=_
 revert hF
 unfold je
 refine iv (fun h1=>iv (fun h2=>iv (fun h3=>iv (fun h4=>?_) ?_) ?_) ?_) ?_
 have g1:=bK (jr p0.e5 11 16 _ (oc p0.e5 11 16))
 have g2:jc p0.e5 11 16=(decide (11<=p0.e5)&&decide (p0.e5<=16)):=by first|rfl|(simp [jc];done)|(simp only [jc];decide)
 all_goals (rintro rfl;intros;simp (maxSteps:=4000000) only [*,rGCommand,Ml,E3,Fv,↓RP,RB,RC,Nat.reduceBEq,List.map,ty3,ty4,AX,↓aa _ _ _ _ 3])
theorem zl (C:aj)  (p0:iA) (p1:Bool) (p2:Bool) (c:Code) (ho:cD 0 5 BX=some c) (r:Bool) (hF:jV p0 p1 p2=r): @cV TT C.wide (evW TT C.wide AS BX) AS 0 5 ⟨[(1,.rp (rGCommand p0)),(3,.v (.b p1)),(4,.v (.b p2))],[]⟩ ⟨c⟩=some (.normal,⟨[(1,.rp (rGCommand p0)),(3,.v (.b p1)),(4,.v (.b p2)),(5,.v (.b r))],[]⟩):=by
 have e:=Option.some.inj (ho.symm.trans (rfl:cD 0 5 BX=some _))
 subst e
 clear ho
 show aH _ _ _ _ _ _=_
 revert hF
 unfold jV
 refine iv (fun h1=>iv (fun h2=>?_) ?_) ?_
 all_goals (rintro rfl;intros;simp (maxSteps:=4000000) only [*,rGCommand,Ml,E3,Fv,↓RP,RB,RC,Nat.reduceBEq,List.map,ty3,ty4,AX,↓aa _ _ _ _ 5])
theorem zb (C:aj)  (p0:iA) (p1:Bool) (p2:Bool) (p3:Bool) (p4:Bool) (c:Code) (ho:cD 0 7 BX=some c) (r:Bool) (hF:ls p0 p1 p2 p3 p4=r): @cV TT C.wide (evW TT C.wide AS BX) AS 0 7 ⟨[(1,.rp (rGCommand p0)),(3,.v (.b p1)),(4,.v (.b p2)),(5,.v (.b p3)),(6,.v (.b p4))],[]⟩ ⟨c⟩=some (.normal,⟨[(1,.rp (rGCommand p0)),(4,.v (.b p2)),(6,.v (.b p4)),(86,.v (.b r))],[]⟩):=by
 have e:=Option.some.inj (ho.symm.trans (rfl:cD 0 7 BX=some _))
 subst e
 clear ho
 show aH _ _ _ _ _ _=_
 revert hF
 unfold ls
 refine aX (fun h1=>?_) (fun h1=>?_)
 focus
  refine aX (fun h2=>?_) (fun h2=>?_)
  focus
   refine aX (fun h3=>?_) (fun h3=>?_)
   focus
    refine iv (fun h4=>?_) ?_
   rotate_left 2
   refine ip (fun h4=>iv (fun h5=>?_) ?_) ?_
  rotate_left 5
  unfold nl
  refine ip (fun h3=>aX (fun h4=>?_) (fun h4=>?_)) ?_
  focus
   refine iv (fun h5=>?_) ?_
  rotate_left 2
  refine ip (fun h5=>iv (fun h6=>?_) ?_) ?_
 rotate_left 11
 unfold nv
 refine ip (fun h2=>aX (fun h3=>?_) (fun h3=>?_)) ?_
 focus
  refine aX (fun h4=>?_) (fun h4=>?_)
  focus
   refine iv (fun h5=>?_) ?_
  rotate_left 2
  refine ip (fun h5=>iv (fun h6=>?_) ?_) ?_
 rotate_left 5
 unfold nn
 refine ip (fun h4=>aX (fun h5=>?_) (fun h5=>?_)) ?_
 focus
  refine iv (fun h6=>?_) ?_
 rotate_left 2
 refine ip (fun h6=>iv (fun h7=>?_) ?_) ?_
 all_goals (rintro rfl;intros;simp (maxSteps:=4000000) only [*,rGCommand,Ml,E3,Fv,↓RP,RB,RC,Nat.reduceBEq,List.map,bne,ty3,ty9,AX,↓aa _ _ _ _ 7])
theorem zK (C:aj) (jx:ln C) (iY:kN C) (p0:iA) (p1:Bool) (p2:Bool) (c:Code) (ho:cD 0 9 BX=some c) (r:Bool) (hF:lf p0 p1 p2=r): @cV TT C.wide (evW TT C.wide AS BX) AS 0 9 ⟨[(1,.rp (rGCommand p0)),(4,.v (.b p1)),(6,.v (.b p2))],[]⟩ ⟨c⟩=some (.normal,⟨[(1,.rp (rGCommand p0)),(108,.v (.b r))],[]⟩):=by
 have e:=Option.some.inj (ho.symm.trans (rfl:cD 0 9 BX=some _))
 subst e
 clear ho
 show aH _ _ _ _ _ _=_
 revert hF
 unfold lf
 refine bF (fun h1=>?_) (fun h1=>?_)
 focus
  refine bF (fun h2=>?_) (fun h2=>?_)
  focus
   have g1:=bK (iY p0.iq _ (lY p0.iq))
  rotate_left 1
  have g2:=bK (jx p0.iN _ (tR p0.iN))
  refine aX (fun h3=>?_) (fun h3=>?_)
  focus
   have g1:=bK (iY p0.iq _ (lY p0.iq))
  rotate_left 1
 rotate_left 3
 have g3:=bK (jx p0.jm _ (tR p0.jm))
 refine ip (fun h2=>bF (fun h3=>?_) (fun h3=>?_)) ?_
 focus
  have g1:=bK (iY p0.iq _ (lY p0.iq))
 rotate_left 1
 have g2:=bK (jx p0.iN _ (tR p0.iN))
 refine aX (fun h4=>?_) (fun h4=>?_)
 focus
  have g1:=bK (iY p0.iq _ (lY p0.iq))
 rotate_left 1
 all_goals (rintro rfl;intros;simp (maxSteps:=4000000) only [*,rGCommand,Ml,E3,Fv,↓RP,RB,RC,Nat.reduceBEq,List.map,ty9,AX,↓aa _ _ _ _ 9])
theorem Ch (C:aj) (jr:kF C) (jx:ln C) (iY:kN C) (kz:pF C) (p0:iA) (r:Int) (hF:rc p0=some r):cR TT C.wide (evW TT C.wide AS BX) AS Tryz.f112.results.toList (aU Tryz.f112) [.agg (cGCommand p0)] []=some (.I r,[]):=by
 revert hF
 unfold rc
 refine vg ?_
 unfold mQ
 have g1:=bK (jr p0.e5 1 22 _ (oc p0.e5 1 22))
 have g2:jc p0.e5 1 22=(decide (1<=p0.e5)&&decide (p0.e5<=22)):=by first|rfl|(simp [jc];done)|(simp only [jc];decide)
 refine ip (fun h1=>ip (fun h2=>?_) ?_) ?_
 have g3:=zI C jr p0 _ rfl (je p0) rfl
 have g4:=bK (jr p0.e5 4 6 _ (oc p0.e5 4 6))
 have g5:jc p0.e5 4 6=(decide (4<=p0.e5)&&decide (p0.e5<=6)):=by first|rfl|(simp [jc];done)|(simp only [jc];decide)
 have g6:=zl C p0 (je p0) (decide (4<=p0.e5)&&decide (p0.e5<=6)) _ rfl (jV p0 (je p0) (decide (4<=p0.e5)&&decide (p0.e5<=6))) rfl
 have g7:=zb C p0 (je p0) (decide (4<=p0.e5)&&decide (p0.e5<=6)) (jV p0 (je p0) (decide (4<=p0.e5)&&decide (p0.e5<=6))) (!(p0.e5==22)) _ rfl (ls p0 (je p0) (decide (4<=p0.e5)&&decide (p0.e5<=6)) (jV p0 (je p0) (decide (4<=p0.e5)&&decide (p0.e5<=6))) (!(p0.e5==22))) rfl
 refine iv (fun h3=>?_) ?_
 have g8:=zK C jx iY p0 (decide (4<=p0.e5)&&decide (p0.e5<=6)) (!(p0.e5==22)) _ rfl (lf p0 (decide (4<=p0.e5)&&decide (p0.e5<=6)) (!(p0.e5==22))) rfl
 refine iv (fun h4=>?_) ?_
 have g9:=bK (kz p0.fN _ (tD p0.fN))
 refine iv (fun h5=>?_) ?_
 all_goals (rintro rfl;intros;rw [bk];show cC _ _ _ (aH _ _ _ _ (Code.seq _ _) _)=_;simp (maxSteps:=4000000) only [*,cGCommand,rGCommand,qef,qkb,SE,Ml,E3,qcS,Fv,↓RP,RB,RC,Nat.reduceBEq,bP,List.map,bne,↓ao,↓am,ty3,ty4,kQ,AX,↓aa _ _ _ _ 0,↓aa _ _ _ _ 1,↓aa _ _ _ _ 2,↓bg _ _ _ _ 3,↓aa _ _ _ _ 4,↓bg _ _ _ _ 5,↓aa _ _ _ _ 6,↓bg _ _ _ _ 7,↓aa _ _ _ _ 8,↓bg _ _ _ _ 9,↓aa _ _ _ _ 10,↓aa _ _ _ _ 11,↓aa _ _ _ _ 12,↓aa _ _ _ _ 13])
def TW:List (Nat×List Nat):=[(0,[1]),(1,[1,5]),(2,[14]),(3,[2]),(4,[2]),(5,[1,24]),(6,[2]),(7,[2])]
def U6:List (Nat×List Nat×List Nat):=[(5,[1],[1]),(14,[],[]),(24,[],[1])]
def OL:cL where
 keep:=ax TW
 ro:=fun t=>t==1
 mv:=fun _=>false
 give:=fun _=>false
 free:=fun _=>[]
 alive:=av U6
theorem qg7 (t:Nat) (x:Bool) (e:Env) (S:bH):cK OL t x ⟨e,S⟩=atO (av U6 t x) e S:=cF rfl t x e S
theorem qis (i:Nat):OL.keep i=ax TW i:=rfl
theorem qbY (t:Nat):OL.ro t=(t==1):=rfl
theorem ZF (t:Nat):OL.mv t=(false):=rfl
theorem qdT:Tryz.f100.results.toList= [.tmp 2]:=rfl
def qmv:Code:=aU Tryz.f100
theorem G5 (C:aj) (jy:jZ C) (Ce:xJ C) (p0:jM) (r:Int) (hF:u1 p0=some r):cR TT C.wide (evW TT C.wide OL qmv) OL Tryz.f100.results.toList (aU Tryz.f100) [.agg (cGCall p0)] []=some (.I r,[]):=by
 revert hF
 unfold u1
 refine vg ?_
 unfold qk
 refine bF (fun h1=>?_) (fun h1=>?_)
 focus
  have g1:=bK (jy p0.jv _ (mO p0.jv))
  refine ip (fun h2=>?_) ?_
  have g2:=bK (jy p0.jQ _ (mO p0.jQ))
  refine aX (fun h3=>?_) (fun h3=>?_)
  focus
   have g3:=bK (Ce p0.ir _ (Ci p0.ir))
  rotate_left 1
 rotate_left 3
 unfold uj
 refine ip (fun h2=>ip (fun h3=>ip (fun h4=>ip (fun h5=>ip (fun h6=>iv (fun h7=>?_) ?_) ?_) ?_) ?_) ?_) ?_
 all_goals (rintro rfl;intros;rw [bk];show cC _ _ _ (aH _ _ _ _ (Code.seq _ _) _)=_;simp (maxSteps:=4000000) only [*,cGCall,qdT,qg7,U6,qis,TW,qbY,ZF,↓RP,RB,RC,Nat.reduceBEq,bP,List.map,Nat.reduceAdd,aG,bne,↓ao,↓am,↓aa,ty3,ty9,kQ,AX,Rv])
def qc6:List (Nat×List Nat):=[(0,[1]),(1,[1,12]),(2,[2]),(3,[1,15]),(4,[2]),(5,[22]),(6,[2]),(7,[2])]
def qb8:List (Nat×List Nat×List Nat):=[(12,[],[1]),(15,[1],[1]),(22,[],[])]
def n74:cL where
 keep:=ax qc6
 ro:=fun t=>t==1
 mv:=fun _=>false
 give:=fun _=>false
 free:=fun _=>[]
 alive:=av qb8
theorem ql0 (t:Nat) (x:Bool) (e:Env) (S:bH):cK n74 t x ⟨e,S⟩=atO (av qb8 t x) e S:=cF rfl t x e S
theorem ql2 (i:Nat):n74.keep i=ax qc6 i:=rfl
theorem qkw (t:Nat):n74.ro t=(t==1):=rfl
theorem qhB (t:Nat):n74.mv t=(false):=rfl
theorem qju:Tryz.f74.results.toList= [.tmp 2]:=rfl
def b74:Code:=aU Tryz.f74
theorem Gb (C:aj) (jy:jZ C) (jr:kF C) (FQ:Av C) (p0:iE) (r:Int) (hF:vd p0=some r):cR TT C.wide (evW TT C.wide n74 b74) n74 Tryz.f74.results.toList (aU Tryz.f74) [.agg (cGItem p0)] []=some (.I r,[]):=by
 revert hF
 unfold vd
 refine vg ?_
 unfold oz
 have g1:=bK (jy p0.iK _ (mO p0.iK))
 refine ip (fun h1=>?_) ?_
 have g2:=bK (jr p0.iZ 0 1073741824 _ (oc p0.iZ 0 1073741824))
 have g3:jc p0.iZ 0 1073741824=(decide (0<=p0.iZ)&&decide (p0.iZ<=1073741824)):=by first|rfl|(simp [jc];done)|(simp only [jc];decide)
 refine ip (fun h2=>ip (fun h3=>bF (fun h4=>?_) (fun h4=>?_)) ?_) ?_
 focus
  have g4:=bK (FQ p0.iQ _ (GP p0.iQ))
 rotate_left 1
 unfold ul
 refine ip (fun h5=>ip (fun h6=>ip (fun h7=>ip (fun h8=>ip (fun h9=>ip (fun h10=>iv (fun h11=>?_) ?_) ?_) ?_) ?_) ?_) ?_) ?_
 all_goals (rintro rfl;intros;rw [bk];show cC _ _ _ (aH _ _ _ _ (Code.seq _ _) _)=_;simp (maxSteps:=4000000) only [*,cGItem,qju,ql0,qb8,ql2,qc6,qkw,qhB,↓RP,RB,RC,Nat.reduceBEq,bP,List.map,Nat.reduceAdd,aG,bne,↓ao,↓am,↓aa,ty3,ty4,kQ,AX,Rv,vR])
def VP:List (Nat×List Nat):=[(0,[1]),(1,[1,6]),(2,[2]),(3,[1,46]),(4,[2]),(5,[1,49]),(6,[2]),(7,[1,55]),(8,[65]),(9,[2]),(10,[2]),(11,[1,69]),(12,[2]),(13,[2])]
def qb9:List (Nat×List Nat×List Nat):=[(6,[],[1]),(46,[],[1]),(49,[1],[1]),(55,[1],[1]),(65,[],[]),(69,[],[1])]
def n32:cL where
 keep:=ax VP
 ro:=fun t=>t==1
 mv:=fun _=>false
 give:=fun _=>false
 free:=fun _=>[]
 alive:=av qb9
theorem qlT (t:Nat) (x:Bool) (e:Env) (S:bH):cK n32 t x ⟨e,S⟩=atO (av qb9 t x) e S:=cF rfl t x e S
theorem qjd (i:Nat):n32.keep i=ax VP i:=rfl
theorem qgW (t:Nat):n32.ro t=(t==1):=rfl
theorem Yl (t:Nat):n32.mv t=(false):=rfl
theorem qjW:Tryz.f32.results.toList= [.tmp 2]:=rfl
def b32:Code:=aU Tryz.f32
theorem Af (C:aj) (qh:uY C) (p0:bi) (c:Code) (ho:cD 0 3 b32=some c) (r:Bool) (hF:ka p0=r): @cV TT C.wide (evW TT C.wide n32 b32) n32 0 3 ⟨[(1,.rp (rGRecord p0))],[]⟩ ⟨c⟩=some (.normal,⟨[(1,.rp (rGRecord p0)),(46,.v (.b r))],[]⟩):=by
 have e:=Option.some.inj (ho.symm.trans (rfl:cD 0 3 b32=some _))
 subst e
 clear ho
 show aH _ _ _ _ _ _=_
 revert hF
 unfold ka
 refine aX (fun h1=>?_) (fun h1=>?_)
 focus
  unfold oh
  refine aX (fun h2=>?_) (fun h2=>?_)
  focus
   refine iv (fun h3=>?_) ?_
   have g1:=bK (qh p0.iG _ (uP p0.iG))
  rotate_left 2
  refine ip (fun h3=>ip (fun h4=>ip (fun h5=>iv (fun h6=>ip (fun h7=>?_) ?_) ?_) ?_) ?_) ?_
  unfold nY
  refine ip (fun h8=>ip (fun h9=>ip (fun h10=>ip (fun h11=>ip (fun h12=>ip (fun h13=>iv (fun h14=>?_) ?_) ?_) ?_) ?_) ?_) ?_) ?_
  have g1:=bK (qh p0.iG _ (uP p0.iG))
 rotate_left 15
 refine ip (fun h2=>ip (fun h3=>?_) ?_) ?_
 unfold nW
 refine aX (fun h4=>?_) (fun h4=>?_)
 focus
  refine iv (fun h5=>?_) ?_
  have g1:=bK (qh p0.iG _ (uP p0.iG))
 rotate_left 2
 refine ip (fun h5=>ip (fun h6=>ip (fun h7=>iv (fun h8=>ip (fun h9=>?_) ?_) ?_) ?_) ?_) ?_
 unfold oi
 refine ip (fun h10=>ip (fun h11=>ip (fun h12=>ip (fun h13=>ip (fun h14=>ip (fun h15=>iv (fun h16=>?_) ?_) ?_) ?_) ?_) ?_) ?_) ?_
 have g1:=bK (qh p0.iG _ (uP p0.iG))
 all_goals (rintro rfl;intros;simp (maxSteps:=4000000) only [*,rGRecord,qjd,VP,Yl,↓RP,RB,RC,Nat.reduceBEq,bP,List.map,Nat.reduceAdd,aG,bne,ty3,ty4,tZ,Rv,vR,y9,↓aa _ _ _ _ 3])
theorem Dz (C:aj) (jr:kF C) (qh:uY C) (GR:AA C) (jy:jZ C) (qm:sg C) (p0:bi) (r:Int) (hF:oq p0=some r):cR TT C.wide (evW TT C.wide n32 b32) n32 Tryz.f32.results.toList (aU Tryz.f32) [.agg (cGRecord p0)] []=some (.I r,[]):=by
 revert hF
 unfold oq
 have g1:=bK (jr p0.e5 1 3 _ (oc p0.e5 1 3))
 have g2:jc p0.e5 1 3=(decide (1<=p0.e5)&&decide (p0.e5<=3)):=by first|rfl|(simp [jc];done)|(simp only [jc];decide)
 refine ip (fun h1=>ip (fun h2=>?_) ?_) ?_
 have g3:=Af C qh p0 _ rfl (ka p0) rfl
 refine iv (fun h3=>?_) ?_
 unfold uB
 refine aX (fun h4=>?_) (fun h4=>?_)
 focus
  refine az fun x1 h5=>?_
  have g4:=bK (GR p0.iG _ h5)
 rotate_left 1
 refine bF (fun h5=>?_) (fun h5=>?_)
 focus
  have g5:=bK (jy p0.iB _ (mO p0.iB))
  refine aX (fun h6=>?_) (fun h6=>?_)
  focus
   have g6:=bK (qm p0.iR _ (Ar p0.iR))
  rotate_left 1
 rotate_left 2
 have g7:=bK (jy p0.iK _ (mO p0.iK))
 refine ip (fun h6=>?_) ?_
 have g8:=bK (jr p0.lS (-1) 2 _ (oc p0.lS (-1) 2))
 have g9:jc p0.lS (-1) 2=(decide ((-1)<=p0.lS)&&decide (p0.lS<=2)):=by first|rfl|(simp [jc];done)|(simp only [jc];decide)
 refine ip (fun h7=>iv (fun h8=>?_) ?_) ?_
 all_goals (rintro⟨⟩;intros;rw [bk];show cC _ _ _ (aH _ _ _ _ (Code.seq _ _) _)=_;simp (maxSteps:=4000000) only [*,cGRecord,rGRecord,qjW,qlT,qb9,qjd,VP,qgW,Yl,↓RP,RB,RC,Nat.reduceBEq,bP,List.map,Nat.reduceAdd,Int.reduceNeg,↓ao,↓am,ty3,kQ,tZ,vR,y9,↓aa _ _ _ _ 0,↓aa _ _ _ _ 1,↓aa _ _ _ _ 2,↓bg _ _ _ _ 3,↓aa _ _ _ _ 4,↓aa _ _ _ _ 5,↓aa _ _ _ _ 6,↓aa _ _ _ _ 7,↓aa _ _ _ _ 8,↓aa _ _ _ _ 9,↓aa _ _ _ _ 10,↓aa _ _ _ _ 11,↓aa _ _ _ _ 12,↓aa _ _ _ _ 13])
def Z4:List (Nat×List Nat):=[(0,[1]),(1,[2])]
def n33:cL where
 keep:=ax Z4
 ro:=fun t=>t==1
 mv:=fun _=>false
 give:=fun _=>false
 free:=fun _=>[]
theorem qmV (i:Nat):n33.keep i=ax Z4 i:=rfl
theorem qiF (t:Nat):n33.ro t=(t==1):=rfl
theorem qkP (t:Nat):n33.mv t=(false):=rfl
theorem qkC:Tryz.f33.results.toList= [.tmp 2]:=rfl
def b33:Code:=aU Tryz.f33
theorem OR (C:aj)  (p0:iP) (r:Int) (hF:zj p0=some r):cR TT C.wide (evW TT C.wide n33 b33) n33 Tryz.f33.results.toList (aU Tryz.f33) [.agg (cGLog p0)] []=some (.I r,[]):=by
 revert hF
 unfold zj
 refine vg ?_
 unfold mw
 all_goals (rintro rfl;rw [bk];show cC _ _ _ (aH _ _ _ _ (Code.seq _ _) _)=_;simp (maxSteps:=4000000) only [*,cGLog,qkC,qmV,Z4,qiF,qkP,↓RP,RB,RC,Nat.reduceBEq,bP,List.map,↓ao,↓aa,ty3,vq,sj])
def RX:List (Nat×List Nat):=[(0,[1]),(1,[1,37]),(2,[2]),(3,[1,3]),(4,[1,3,42]),(5,[1,3]),(6,[1,3,62]),(7,[2]),(8,[1,3,96]),(9,[2]),(10,[2])]
def WM:List (Nat×List Nat×List Nat):=[(37,[],[1]),(42,[1,3],[]),(62,[],[1,3]),(96,[],[1,3])]
def n34:cL where
 keep:=ax RX
 ro:=fun t=>t==1
 mv:=fun _=>false
 give:=fun _=>false
 free:=fun i=>match i with|6=>[(0,2),(1,2),(8,10),(9,10),(8,14),(9,14),(10,14),(11,14),(12,14),(13,14),(8,15),(9,15),(10,15),(11,15),(12,15),(13,15)]|8=>[(3,5),(4,5),(3,9),(4,9),(5,9),(6,9),(7,9),(8,9),(3,10),(4,10),(5,10),(6,10),(7,10),(8,10),(3,11),(4,11),(5,11),(6,11),(7,11),(8,11),(9,11),(10,11),(3,12),(4,12),(5,12),(6,12),(7,12),(8,12),(9,12),(10,12),(3,13),(4,13),(5,13),(6,13),(7,13),(8,13),(3,14),(4,14),(5,14),(6,14),(7,14),(8,14),(3,15),(4,15),(5,15),(6,15),(7,15),(8,15),(18,20),(19,20),(18,24),(19,24),(20,24),(21,24),(22,24),(23,24),(18,25),(19,25),(20,25),(21,25),(22,25),(23,25),(18,26),(19,26),(20,26),(21,26),(22,26),(23,26),(24,26),(25,26),(18,27),(19,27),(20,27),(21,27),(22,27),(23,27),(24,27),(25,27),(18,28),(19,28),(20,28),(21,28),(22,28),(23,28),(18,29),(19,29),(20,29),(21,29),(22,29),(23,29),(18,30),(19,30),(20,30),(21,30),(22,30),(23,30)]|_=>[]
 alive:=av WM
theorem qgY (t:Nat) (x:Bool) (e:Env) (S:bH):cK n34 t x ⟨e,S⟩=atO (av WM t x) e S:=cF rfl t x e S
theorem qcf (i:Nat):n34.keep i=ax RX i:=rfl
theorem qjR (t:Nat):n34.ro t=(t==1):=rfl
theorem Yj (t:Nat):n34.mv t=(false):=rfl
theorem qg6:n34.free 6= [(0,2),(1,2),(8,10),(9,10),(8,14),(9,14),(10,14),(11,14),(12,14),(13,14),(8,15),(9,15),(10,15),(11,15),(12,15),(13,15)]:=rfl
theorem qgo:n34.free 8= [(3,5),(4,5),(3,9),(4,9),(5,9),(6,9),(7,9),(8,9),(3,10),(4,10),(5,10),(6,10),(7,10),(8,10),(3,11),(4,11),(5,11),(6,11),(7,11),(8,11),(9,11),(10,11),(3,12),(4,12),(5,12),(6,12),(7,12),(8,12),(9,12),(10,12),(3,13),(4,13),(5,13),(6,13),(7,13),(8,13),(3,14),(4,14),(5,14),(6,14),(7,14),(8,14),(3,15),(4,15),(5,15),(6,15),(7,15),(8,15),(18,20),(19,20),(18,24),(19,24),(20,24),(21,24),(22,24),(23,24),(18,25),(19,25),(20,25),(21,25),(22,25),(23,25),(18,26),(19,26),(20,26),(21,26),(22,26),(23,26),(24,26),(25,26),(18,27),(19,27),(20,27),(21,27),(22,27),(23,27),(24,27),(25,27),(18,28),(19,28),(20,28),(21,28),(22,28),(23,28),(18,29),(19,29),(20,29),(21,29),(22,29),(23,29),(18,30),(19,30),(20,30),(21,30),(22,30),(23,30)]:=rfl
theorem qjN:Tryz.f34.results.toList= [.tmp 2]:=rfl
def b34:Code:=aU Tryz.f34
def qil:Code:=(bE 0 (aU Tryz.f34)).getD .skip
theorem Zv:bE 0 b34=some qil:=rfl
theorem CP (C:aj) (jr:kF C) (p0:iP) (c:Code) (ho:cD 0 1 b34=some c) (r:Bool) (hF:lO p0=r): @cV TT C.wide (evW TT C.wide n34 b34) n34 0 1 ⟨[(1,.rp (rGLog p0))],[]⟩ ⟨c⟩=some (.normal,⟨[(1,.rp (rGLog p0)),(37,.v (.b r))],[]⟩):=by
 have e:=Option.some.inj (ho.symm.trans (rfl:cD 0 1 b34=some _))
 subst e
 clear ho
 show aH _ _ _ _ _ _=_
 revert hF
 unfold lO
 have g1:=bK (jr p0.iD 0 1048576 _ (oc p0.iD 0 1048576))
 have g2:jc p0.iD 0 1048576=(decide (0<=p0.iD)&&decide (p0.iD<=1048576)):=by first|rfl|(simp [jc];done)|(simp only [jc];decide)
 refine ip (fun h1=>ip (fun h2=>?_) ?_) ?_
 unfold qr
 have g3:=bK (jr p0.iw 0 1048576 _ (oc p0.iw 0 1048576))
 have g4:jc p0.iw 0 1048576=(decide (0<=p0.iw)&&decide (p0.iw<=1048576)):=by first|rfl|(simp [jc];done)|(simp only [jc];decide)
 refine ip (fun h3=>ip (fun h4=>aX (fun h5=>?_) (fun h5=>?_)) ?_) ?_
 focus
  refine ip (fun h6=>iv (fun h7=>?_) ?_) ?_
 rotate_left 3
 refine iv (fun h6=>iv (fun h7=>?_) ?_) ?_
 all_goals (rintro rfl;intros;simp (maxSteps:=4000000) only [*,rGLog,qcf,RX,Yj,↓RP,RB,RC,Nat.reduceBEq,List.map,ty3,ty4,vq,sj,↓aa _ _ _ _ 1])
def pR (p0:iP) (s:Int):St:=⟨[(1,.rp (rGLog p0)),(3,.I s)],[]⟩
def sE (p0:iP) (r:Unit⊕Unit):Option (Ex×St):=match r with
 | .inl r=>some (.ret,⟨[(2,.I 13)],[]⟩)
 | .inr r=>some (.normal,⟨[],[]⟩)
theorem yV (C:aj) (qm:sg C) (p0:iP) (p1:Int) (o:Int⊕(Unit⊕Unit)) (hF:mt p0 p1=some o):evW TT C.wide n34 b34 0 (pR p0 p1)=Sum.elim (fun s=>evW TT C.wide n34 b34 0 (pR p0 s)) (fun r=>sE p0 r) o:=by
 rw [cG TT n34 Zv]
 revert hF
 unfold mt
 try dsimp only
 refine ip (fun h1=>?_) ?_
 unfold sG
 refine az fun x1 h2=>?_
 have g1:decide (0<=p1)=true:=(cp h2).1
 have g2:(ah iE.row p0.af)[(p1:Int).toNat]? =some (rGItem x1):=cn _ h2
 have g3:=bK (qm x1 _ (Ar x1))
 refine ip (fun h3=>iv (fun h4=>ip (fun h5=>az fun x2 h6=>?_) ?_) ?_) ?_
 have g4:decide (0<=(IntKind.i64.wrap (p1-1)))=true:=(cp h6).1
 have g5:(ah iE.row p0.af)[((IntKind.i64.wrap (p1-1)):Int).toNat]? =some (rGItem x2):=cn _ h6
 refine iv (fun h7=>iv (fun h8=>?_) ?_) ?_
 all_goals (rintro⟨⟩;intros;show cN _ _ _ (aH _ _ _ _ (Code.seq _ _) _)=_;simp (maxSteps:=4000000) only [*,rGItem,rGLog,pR,sE,qgY,WM,qcf,RX,qg6,qgo,Yj,↓RP,RB,RC,↓ai,Nat.reduceBEq,List.map,Nat.reduceAdd,bne,↓ao,↓am,ty3,kQ,vq,sj,vR,↓aa _ _ _ _ 4,↓aq _ _ _ _ 6,↓aa _ _ _ _ 7,↓aq _ _ _ _ 8,↓aa _ _ _ _ 9,↓aa _ _ _ _ 5])
theorem KI (C:aj) (jr:kF C) (qm:sg C) (p0:iP) (r:Int) (hF:pz p0=some r):cR TT C.wide (evW TT C.wide n34 b34) n34 Tryz.f34.results.toList (aU Tryz.f34) [.agg (cGLog p0)] []=some (.I r,[]):=by
 revert hF
 unfold pz
 have g1:=CP C jr p0 _ rfl (lO p0) rfl
 refine iv (fun h1=>az ?_) ?_
 rintro (_|_) h2
 focus
  dsimp only
  have g2:=cH _ _ (yV C qm p0) h2
  try simp only [pR,sE] at g2
 rotate_left 1
 dsimp only
 have g3:=cH _ _ (yV C qm p0) h2
 try simp only [pR,sE] at g3
 all_goals (rintro⟨⟩;intros;rw [bk];show cC _ _ _ (aH _ _ _ _ (Code.seq _ _) _)=_;simp (maxSteps:=4000000) only [*,cGLog,rGLog,qjN,qgY,WM,qcf,RX,qjR,↓RP,RB,RC,Nat.reduceBEq,bP,List.map,↓ao,↓am,ty3,kQ,sj,↓aa _ _ _ _ 0,↓bg _ _ _ _ 1,↓aa _ _ _ _ 2,↓aa _ _ _ _ 3,↓aa _ _ _ _ 10])
def qb3:List (Nat×List Nat):=[(0,[1,2]),(1,[1,2,8]),(2,[4]),(3,[1,2,12]),(4,[4]),(5,[1,2,16]),(6,[4]),(7,[4])]
def qaL:List (Nat×List Nat×List Nat):=[(8,[],[1,2]),(12,[],[1,2]),(16,[2],[1,2])]
def n75:cL where
 keep:=ax qb3
 ro:=fun t=>t==2
 mv:=fun _=>false
 give:=fun _=>false
 free:=fun _=>[]
 alive:=av qaL
theorem qmh (t:Nat) (x:Bool) (e:Env) (S:bH):cK n75 t x ⟨e,S⟩=atO (av qaL t x) e S:=cF rfl t x e S
theorem qlW (i:Nat):n75.keep i=ax qb3 i:=rfl
theorem qhu (t:Nat):n75.ro t=(t==2):=rfl
theorem qja (t:Nat):n75.mv t=(false):=rfl
theorem qiR:Tryz.f75.results.toList= [.tmp 4]:=rfl
def b75:Code:=aU Tryz.f75
theorem OW (C:aj) (nb:qK C) (p0:iP) (p1:Int) (r:Int) (hF:qb p0 p1=some r):cR TT C.wide (evW TT C.wide n75 b75) n75 Tryz.f75.results.toList (aU Tryz.f75) [.agg (cGLog p0),.I p1] []=some (.I r,[]):=by
 revert hF
 unfold qb
 refine iv (fun h1=>?_) ?_
 have g1:=bK (nb p0 _ (AT p0))
 refine iv (fun h2=>iv (fun h3=>az fun x1 h4=>?_) ?_) ?_
 have g2:decide (0<=(IntKind.i64.wrap ((IntKind.i64.wrap (p1-p0.iD))-1)))=true:=(cp h4).1
 have g3:(ah iE.row p0.af)[((IntKind.i64.wrap ((IntKind.i64.wrap (p1-p0.iD))-1)):Int).toNat]? =some (rGItem x1):=cn _ h4
 all_goals (rintro⟨⟩;intros;rw [bk];show cC _ _ _ (aH _ _ _ _ (Code.seq _ _) _)=_;simp (maxSteps:=4000000) only [*,cGLog,rGItem,qiR,qmh,qaL,qlW,qb3,qhu,qja,↓RP,RB,RC,Nat.reduceBEq,bP,List.map,Nat.reduceAdd,Int.reduceNeg,↓ao,↓am,↓aa,ty3,vq,sj,vR])
def Vu:List (Nat×List Nat):=[(0,[1,2,4]),(1,[1,2,4,6]),(2,[1,2,4,6,13]),(3,[4,5]),(4,[1,2,4,7]),(5,[1,2,4,7,20]),(6,[4,5]),(7,[1,2,4,7,23]),(8,[4,5]),(9,[1,2,4,8]),(10,[2,4,8,9]),(11,[2,4,8,9,33]),(12,[2,4,8,9]),(13,[2,4,8,9]),(14,[4,5])]
def Xq:List (Nat×List Nat×List Nat):=[(13,[4,6],[1,2,4]),(20,[4],[1,2,4,7]),(23,[4],[1,2,4,7]),(33,[2,4,8,9],[4,8])]
def n76:cL where
 keep:=ax Vu
 ro:=fun t=>t==2
 mv:=fun t=>t==50
 give:=fun _=>false
 free:=fun i=>match i with|13=>[(0,2),(1,2),(0,3),(1,3),(0,4),(1,4),(2,4),(3,4),(0,5),(1,5),(2,5),(3,5),(4,5),(0,6),(1,6),(2,6),(3,6),(4,6),(0,7),(1,7),(2,7),(3,7),(0,8),(1,8),(2,8),(3,8),(0,9),(1,9),(0,10),(1,10),(0,11),(1,11)]|_=>[]
 alive:=av Xq
theorem qim (t:Nat) (x:Bool) (e:Env) (S:bH):cK n76 t x ⟨e,S⟩=atO (av Xq t x) e S:=cF rfl t x e S
theorem qiG (i:Nat):n76.keep i=ax Vu i:=rfl
theorem qgy (t:Nat):n76.ro t=(t==2):=rfl
theorem Ya (t:Nat):n76.mv t=(t==50):=rfl
theorem YF (t:Nat):n76.give t=(false):=rfl
theorem qc5:n76.free 13= [(0,2),(1,2),(0,3),(1,3),(0,4),(1,4),(2,4),(3,4),(0,5),(1,5),(2,5),(3,5),(4,5),(0,6),(1,6),(2,6),(3,6),(4,6),(0,7),(1,7),(2,7),(3,7),(0,8),(1,8),(2,8),(3,8),(0,9),(1,9),(0,10),(1,10),(0,11),(1,11)]:=rfl
theorem qi3:Tryz.f76.results.toList= [.cell 4 44,.tmp 5]:=rfl
def b76:Code:=aU Tryz.f76
def qj7:Code:=(bE 0 (aU Tryz.f76)).getD .skip
theorem Z6:bE 0 b76=some qj7:=rfl
def tA (p0:iP) (s:Int×iP):St:=⟨[(2,.rp (rGLog p0)),(4,.ptr 0 0),(8,.ptr 1 0),(9,.I s.1)],[[.I 0,.I 0,.own 10 []],[.I s.2.iD,.I s.2.iw,.own 10 (ah iE.row s.2.af)]]⟩
def wd (p0:iP) (r:iP):Option (Ex×St):=some (.normal,⟨[(4,.ptr 0 0),(8,.ptr 1 0)],[[.I 0,.I 0,.own 10 []],[.I r.iD,.I r.iw,.own 10 (ah iE.row r.af)]]⟩)
theorem EN (C:aj) (nb:qK C) (p0:iP) (s:Int×iP) (o:(Int×iP)⊕iP) (hF:oR p0 s=some o):evW TT C.wide n76 b76 0 (tA p0 s)=Sum.elim (fun s=>evW TT C.wide n76 b76 0 (tA p0 s)) (fun r=>wd p0 r) o:=by
 obtain⟨p1,p2⟩:=s
 rw [cG TT n76 Z6]
 revert hF
 unfold oR
 try dsimp only
 have g1:=bK (nb p0 _ (AT p0))
 refine ip (fun h1=>az fun x1 h2=>?_) ?_
 have g2:decide (0<=(IntKind.i64.wrap ((IntKind.i64.wrap (p1-p0.iD))-1)))=true:=(cp h2).1
 have g3:(ah iE.row p0.af)[((IntKind.i64.wrap ((IntKind.i64.wrap (p1-p0.iD))-1)):Int).toNat]? =some (rGItem x1):=cn _ h2
 refine oC fun h3=>?_
 all_goals (rintro⟨⟩;intros;show cN _ _ _ (aH _ _ _ _ (Code.seq _ _) _)=_;simp (maxSteps:=4000000) only [*,rGItem,rGLog,tA,wd,qim,Xq,qiG,Vu,qc5,Ya,YF,↓RP,RB,RC,↓ab,Nat.reduceBEq,List.map,Nat.reduceAdd,Nat.reduceMul,Nat.reduceSub,Nat.reduceLeDiff,bne,↓ao,↓am,↓aa,↓aq,ty3,vq,sj,vR,iE.one])
theorem Mn (C:aj) (pE:tF C) (AU:v8 C) (nb:qK C) (p0:iP) (p1:Int) (r:iP×Int) (hF:vX p0 p1=some r):cR TT C.wide (evW TT C.wide n76 b76) n76 Tryz.f76.results.toList (aU Tryz.f76) [.agg (cGLog p0),.I p1] []=some (.tup [.agg (cGLog r.1),.I r.2],[]):=by
 revert hF
 unfold vX
 refine az fun x1 h1=>?_
 have g1:=bK (pE p0 _ h1)
 refine ip (fun h2=>az fun x2 h3=>?_) ?_
 have g2:=bK (AU p0 p1 _ h3)
 refine iv (fun h4=>iv (fun h5=>az ?_) ?_) ?_
 rintro x3 h6
 have g3:=cH _ _ (EN C nb p0) h6
 try simp only [ak,tA,wd] at g3
 all_goals (rintro⟨⟩;intros;rw [bk];show cC _ _ _ (aH _ _ _ _ (Code.seq _ _) _)=_;simp (maxSteps:=4000000) only [*,cGLog,qi3,qim,Xq,qiG,Vu,qgy,Ya,YF,↓RP,RB,RC,Nat.reduceBEq,bP,List.map,Nat.reduceAdd,Nat.reduceLeDiff,Int.reduceNeg,bne,↓ao,↓am,↓aa,ty3,kQ,vq,sj])
def qec:List (Nat×List Nat):=[(0,[2,3,4]),(1,[2,3,4,13]),(2,[4,5]),(3,[4]),(4,[4])]
def qc4:List (Nat×List Nat×List Nat):=[(13,[2,3,4],[3,4])]
def n35:cL where
 keep:=ax qec
 ro:=fun t=>t==2||t==3
 mv:=fun _=>false
 give:=fun _=>false
 free:=fun i=>match i with|1=>[(0,1),(0,2),(0,4),(1,4),(2,4),(3,4),(0,5),(1,5),(2,5),(3,5)]|_=>[]
 alive:=av qc4
theorem ql9 (t:Nat) (x:Bool) (e:Env) (S:bH):cK n35 t x ⟨e,S⟩=atO (av qc4 t x) e S:=cF rfl t x e S
theorem ql4 (i:Nat):n35.keep i=ax qec i:=rfl
theorem qkl (t:Nat):n35.ro t=(t==2||t==3):=rfl
theorem qiD (t:Nat):n35.mv t=(false):=rfl
theorem qfK (t:Nat):n35.give t=(false):=rfl
theorem qg3:n35.free 1= [(0,1),(0,2),(0,4),(1,4),(2,4),(3,4),(0,5),(1,5),(2,5),(3,5)]:=rfl
theorem qku:Tryz.f35.results.toList= [.cell 4 44]:=rfl
def b35:Code:=aU Tryz.f35
theorem OA (C:aj) (AU:v8 C) (Mi:Di C) (p0:iP) (p1:i4) (r:iP) (hF:u5 p0 p1=some r): ∃d S,cR TT C.wide (evW TT C.wide n35 b35) n35 Tryz.f35.results.toList (aU Tryz.f35) [.agg (cGLog p0),.agg (cGSnap p1)] []=some (d,S)/\bD d=true/\(frz d,S)=(.agg (cGLog r),[]):=by
 revert hF
 unfold u5
 refine az fun x1 h1=>?_
 have g1:=bK (AU p0 p1.iB _ h1)
 refine bF (fun h2=>?_) (fun h2=>?_)
 focus
  intro hF
  have hR:=Option.some.inj hF
  clear hF
  subst hR
  refine⟨.agg [.I p1.iB,.I p1.iK,.own 10 []],[],?_,rfl,by first|rfl|(simp only [*];done)|(simp only [*];rfl)⟩
 rotate_left 1
 refine az ?_
 rintro⟨x2,x3⟩ h3
 dsimp only
 have g2:=bK (Mi p0 p1.iB _ h3)
 try simp only [] at g2
 intro hF
 have hR:=Option.some.inj hF
 clear hF
 subst hR
 refine⟨.agg (cGLog x2),[],?_,rfl,by first|rfl|(simp only [*];done)|(simp only [*];rfl)⟩
 all_goals (rw [bk];show cC _ _ _ (aH _ _ _ _ (Code.seq _ _) _)=_;simp (maxSteps:=4000000) only [*,cGLog,cGSnap,qku,ql9,qc4,ql4,qec,qg3,qkl,qiD,qfK,↓RP,RB,RC,Nat.reduceBEq,bP,List.map,Nat.reduceAdd,Nat.reduceLeDiff,bne,↓ao,↓am,↓aa,↓aq,aP,ty3,kQ,tZ,vq,sj])
def pt (p0:ad) (s:Int×ad):St:=⟨[(1,.rp (rGMachine p0)),(2,.ptr 0 0),(3,.ptr 1 0),(4,.I s.1)],[[.I 0,.own 8 [],.I 0,.own 7 []],[.I s.2.e7.iS,.own 8 (ah gi.row s.2.e7.f6),.I s.2.iI,.own 7 (ah cc.row s.2.cO)]]⟩
def sT (p0:ad) (r:ad):Option (Ex×St):=some (.normal,⟨[(2,.ptr 0 0),(3,.ptr 1 0)],[[.I 0,.own 8 [],.I 0,.own 7 []],[.I r.e7.iS,.own 8 (ah gi.row r.e7.f6),.I r.iI,.own 7 (ah cc.row r.cO)]]⟩)
theorem AY (C:aj) (nV:ql C) (p0:ad) (s:Int×ad) (o:(Int×ad)⊕ad) (hF:lP p0 s=some o):evW TT C.wide n36 b36 0 (pt p0 s)=Sum.elim (fun s=>evW TT C.wide n36 b36 0 (pt p0 s)) (fun r=>sT p0 r) o:=by
 obtain⟨p1,p2⟩:=s
 rw [cG TT n36 Tg]
 revert hF
 unfold lP
 try dsimp only
 refine ip (fun h1=>az fun x1 h2=>?_) ?_
 have g1:decide (0<=p1)=true:=(cp h2).1
 have g2:(ah cc.row p0.cO)[(p1:Int).toNat]? =some (rGClient x1):=cn _ h2
 refine az fun x2 h3=>?_
 have g3:=bK (nV x1.i5 _ h3)
 refine oC fun h4=>?_
 all_goals (rintro⟨⟩;intros;show cN _ _ _ (aH _ _ _ _ (Code.seq _ _) _)=_;simp (maxSteps:=4000000) only [*,rGClient,rGMachine,pt,sT,qib,WU,We,RM,YJ,PA,Qk,↓RP,RB,RC,↓ai,Nat.reduceBEq,bP,List.map,Nat.reduceAdd,Nat.reduceMul,Nat.reduceSub,Nat.reduceLT,Nat.reduceLeDiff,bne,↓ao,↓am,↓aa,↓aq,aP,ty3,xm,sm,wQ,zm,cc.one])
theorem Dx (C:aj) (xf:sc C) (nV:ql C) (p0:ad) (r:ad) (hF:nU p0=some r):cR TT C.wide (evW TT C.wide n36 b36) n36 Tryz.f36.results.toList (aU Tryz.f36) [.agg (cGMachine p0)] []=some (.agg [.I r.e7.iS,.own 8 (ah gi.row r.e7.f6),.I r.iI,.own 7 (ah cc.row r.cO)],[]):=by
 revert hF
 unfold nU
 refine az fun x1 h1=>?_
 have g1:=bK (xf p0.e7 _ h1)
 refine az ?_
 rintro x2 h2
 have g2:=cH _ _ (AY C nV p0) h2
 try simp only [ak,pt,sT] at g2
 all_goals (rintro⟨⟩;rw [bk];show cC _ _ _ (aH _ _ _ _ (Code.seq _ _) _)=_;simp (maxSteps:=4000000) only [*,cGMachine,Yi,We,RM,YD,Yz,PA,Qk,↓RP,RB,RC,Nat.reduceBEq,bP,List.map,Nat.reduceAdd,Nat.reduceLeDiff,cr,bne,↓ao,↓aa,↓aq,ty3,ug,xm,sm])
def Xh:List (Nat×List Nat):=[(0,[1,2]),(1,[1,2,3]),(2,[1,2,3,4]),(3,[1,2,3,4,14]),(4,[1,2,3,4]),(5,[1,2,3,4]),(6,[2])]
def qdb:List (Nat×List Nat×List Nat):=[(14,[1,2,3,4],[2,3])]
def n37:cL where
 keep:=ax Xh
 ro:=fun t=>t==1
 mv:=fun t=>t==27
 give:=fun _=>false
 free:=fun i=>match i with|5=>[(0,2),(1,2),(0,3),(1,3),(0,4),(1,4),(2,4),(3,4),(0,5),(1,5),(0,6),(1,6),(0,7),(1,7)]|_=>[]
 alive:=av qdb
theorem qmX (t:Nat) (x:Bool) (e:Env) (S:bH):cK n37 t x ⟨e,S⟩=atO (av qdb t x) e S:=cF rfl t x e S
theorem qkq (i:Nat):n37.keep i=ax Xh i:=rfl
theorem qfE (t:Nat):n37.ro t=(t==1):=rfl
theorem Yn (t:Nat):n37.mv t=(t==27):=rfl
theorem Yq (t:Nat):n37.give t=(false):=rfl
theorem qk0:n37.free 5= [(0,2),(1,2),(0,3),(1,3),(0,4),(1,4),(2,4),(3,4),(0,5),(1,5),(0,6),(1,6),(0,7),(1,7)]:=rfl
theorem qip:Tryz.f37.results.toList= [.cell 2 44]:=rfl
def b37:Code:=aU Tryz.f37
def qkt:Code:=(bE 0 (aU Tryz.f37)).getD .skip
theorem Zj:bE 0 b37=some qkt:=rfl
def tO (p0:iP) (s:Int×iP):St:=⟨[(1,.rp (rGLog p0)),(2,.ptr 0 0),(3,.ptr 1 0),(4,.I s.1)],[[.I 0,.I 0,.own 10 []],[.I s.2.iD,.I s.2.iw,.own 10 (ah iE.row s.2.af)]]⟩
def wt (p0:iP) (r:iP):Option (Ex×St):=some (.normal,⟨[(2,.ptr 0 0),(3,.ptr 1 0)],[[.I 0,.I 0,.own 10 []],[.I r.iD,.I r.iw,.own 10 (ah iE.row r.af)]]⟩)
theorem Fi (C:aj)  (p0:iP) (s:Int×iP) (o:(Int×iP)⊕iP) (hF:oS p0 s=some o):evW TT C.wide n37 b37 0 (tO p0 s)=Sum.elim (fun s=>evW TT C.wide n37 b37 0 (tO p0 s)) (fun r=>wt p0 r) o:=by
 obtain⟨p1,p2⟩:=s
 rw [cG TT n37 Zj]
 revert hF
 unfold oS
 try dsimp only
 refine ip (fun h1=>az fun x1 h2=>?_) ?_
 have g1:decide (0<=p1)=true:=(cp h2).1
 have g2:(ah iE.row p0.af)[(p1:Int).toNat]? =some (rGItem x1):=cn _ h2
 refine oC fun h3=>?_
 all_goals (rintro⟨⟩;intros;show cN _ _ _ (aH _ _ _ _ (Code.seq _ _) _)=_;simp (maxSteps:=4000000) only [*,rGItem,rGLog,tO,wt,qmX,qdb,qkq,Xh,qk0,Yn,Yq,↓RP,RB,RC,↓ab,Nat.reduceBEq,List.map,Nat.reduceAdd,Nat.reduceMul,Nat.reduceSub,Nat.reduceLeDiff,bne,↓ao,↓am,↓aa,↓aq,ty3,vq,sj,vR,iE.one])
theorem M4 (C:aj)  (p0:iP) (r:iP) (hF:ux p0=some r):cR TT C.wide (evW TT C.wide n37 b37) n37 Tryz.f37.results.toList (aU Tryz.f37) [.agg (cGLog p0)] []=some (.agg [.I r.iD,.I r.iw,.own 10 (ah iE.row r.af)],[]):=by
 revert hF
 unfold ux
 refine az ?_
 rintro x1 h1
 have g1:=cH _ _ (Fi C p0) h1
 try simp only [ak,tO,wt] at g1
 all_goals (rintro⟨⟩;rw [bk];show cC _ _ _ (aH _ _ _ _ (Code.seq _ _) _)=_;simp (maxSteps:=4000000) only [*,cGLog,qip,qkq,Xh,qfE,Yn,Yq,↓RP,RB,RC,Nat.reduceBEq,bP,List.map,Nat.reduceAdd,Nat.reduceLeDiff,bne,↓ao,↓aa,ty3,vq,sj])
def Ni:List (Nat×List Nat):=[(0,[0,2]),(1,[0,2,4]),(2,[0,2,4,5]),(3,[0,2,4,5,14]),(4,[0,2,4,5]),(5,[0,2,4,5,6]),(6,[0,2,4,5,6,7]),(7,[0,2,4,5,6,7,24]),(8,[2,3]),(9,[0,2,4,5,6,29]),(10,[0,2,4,5,6]),(11,[0,2,4,5,6]),(12,[0,2,4,5,6,46]),(13,[0,2,4,5,6,53]),(14,[2,3]),(15,[0,2,4,5,6,8]),(16,[0,2,4,5,6,8,9]),(17,[0,2,4,5,6,8,9,69]),(18,[0,2,4,5,6,8,9]),(19,[0,2,4,5,6,8,9]),(20,[0,2,4,5,6,8]),(21,[0,2,4,5,6,8,97]),(22,[2,3]),(23,[0,2,4,5,6]),(24,[0,2,4,5,6,112]),(25,[0,2,4,5,6]),(26,[0,2,4,5]),(27,[2,4]),(28,[2,4]),(29,[2,3])]
def Nt:List (Nat×List Nat×List Nat):=[(14,[0,2,4,5],[2,4]),(24,[2,7],[0,2,4,5,6]),(29,[0,2,4,5,6],[0,2,4,5,6]),(46,[0,2,4,5,6],[0,2,4,5,6]),(53,[2],[0,2,4,5,6]),(69,[0,2,4,5,6,8,9],[0,2,4,5,6,8]),(97,[2],[0,2,4,5,6,8]),(112,[0,2,4,5,6],[0,2,4,5])]
def n12:cL where
 keep:=ax Ni
 ro:=fun _=>false
 mv:=fun t=>t==99
 give:=fun t=>t==2||t==4||t==100||t==118||t==121||t==127||t==131
 free:=fun i=>match i with|13=>[(0,2),(1,2),(0,3),(1,3),(0,4),(1,4),(0,5),(1,5)]|19=>[(0,2),(1,2),(0,3),(1,3),(0,4),(1,4),(0,5),(1,5),(2,5),(3,5),(4,5),(0,6),(1,6),(2,6),(3,6),(4,6),(5,6),(0,7),(1,7),(2,7),(3,7),(4,7),(5,7),(0,8),(1,8),(2,8),(3,8),(4,8),(5,8),(0,9),(1,9),(2,9),(3,9),(4,9),(0,10),(1,10),(2,10),(3,10),(4,10),(0,11),(1,11),(0,12),(1,12),(0,13),(1,13)]|_=>[]
 alive:=av Nt
theorem UK (t:Nat) (x:Bool) (e:Env) (S:bH):cK n12 t x ⟨e,S⟩=atO (av Nt t x) e S:=cF rfl t x e S
theorem Ra (i:Nat):n12.keep i=ax Ni i:=rfl
theorem HE (t:Nat):n12.mv t=(t==99):=rfl
theorem IQ (t:Nat):n12.give t=(t==2||t==4||t==100||t==118||t==121||t==127||t==131):=rfl
theorem ZE:n12.free 13= [(0,2),(1,2),(0,3),(1,3),(0,4),(1,4),(0,5),(1,5)]:=rfl
theorem qfk:n12.free 19= [(0,2),(1,2),(0,3),(1,3),(0,4),(1,4),(0,5),(1,5),(2,5),(3,5),(4,5),(0,6),(1,6),(2,6),(3,6),(4,6),(5,6),(0,7),(1,7),(2,7),(3,7),(4,7),(5,7),(0,8),(1,8),(2,8),(3,8),(4,8),(5,8),(0,9),(1,9),(2,9),(3,9),(4,9),(0,10),(1,10),(2,10),(3,10),(4,10),(0,11),(1,11),(0,12),(1,12),(0,13),(1,13)]:=rfl
theorem qh8:Tryz.f12.results.toList= [.cell 2 46,.tmp 3]:=rfl
def b12:Code:=aU Tryz.f12
def qiY:Code:=(bE 0 (aU Tryz.f12)).getD .skip
theorem ZK:bE 0 b12=some qiY:=rfl
def qiL:Code:=(bE 2 (aU Tryz.f12)).getD .skip
theorem ZS:bE 2 b12=some qiL:=rfl
theorem za (C:aj)  (p0:List bi) (p1:Int) (p2:Bool) (p3:iL) (p4:bi) (c:Code) (ho:cD 1 29 b12=some c) (r:iL) (hF:im p0 p1 p2 p3 p4=r): @cV TT C.wide (evW TT C.wide n12 b12) n12 1 29 ⟨[(0,.v (.sl 20 (ah bi.row p0))),(2,.ptr 0 0),(4,.ptr 1 0),(5,.I p1),(6,.ptr 2 0),(29,.v (.b p2))],[[.I 0,.I 0,.I 0,.I 0,.I 0,.own 8 [],.I 0,.own 7 [],.I 0,.I 0,.own 10 []],cGDisk p3,cGRecord p4]⟩ ⟨c⟩=some (.normal,⟨[(0,.v (.sl 20 (ah bi.row p0))),(2,.ptr 0 0),(4,.ptr 1 0),(5,.I p1),(6,.ptr 2 0)],[[.I 0,.I 0,.I 0,.I 0,.I 0,.own 8 [],.I 0,.own 7 [],.I 0,.I 0,.own 10 []],cGDisk r,cGRecord p4]⟩):=by
 have e:=Option.some.inj (ho.symm.trans (rfl:cD 1 29 b12=some _))
 subst e
 clear ho
 show aH _ _ _ _ _ _=_
 revert hF
 unfold im
 refine iv (fun h1=>?_) ?_
 all_goals (rintro rfl;intros;simp (maxSteps:=4000000) only [*,cGDisk,cGRecord,UK,Nt,Ra,Ni,HE,IQ,↓RP,RB,RC,Nat.reduceBEq,List.map,Nat.reduceAdd,Nat.reduceLeDiff,↓ao,ty3,An,y9,↓am _ _ _ _ 29,↓aa _ _ _ _ 10,↓aa _ _ _ _ 11])
def oH (p0:List bi) (p1:Int) (p3:iL) (p4:bi) (s:Int×iP):St:=⟨[(0,.v (.sl 20 (ah bi.row p0))),(2,.ptr 0 0),(4,.ptr 1 0),(5,.I p1),(6,.ptr 2 0),(8,.ptr 3 0),(9,.I s.1)],[[.I 0,.I 0,.I 0,.I 0,.I 0,.own 8 [],.I 0,.own 7 [],.I 0,.I 0,.own 10 []],cGDisk p3,cGRecord p4,[.I s.2.iD,.I s.2.iw,.own 10 (ah iE.row s.2.af)]]⟩
def rV (p0:List bi) (p1:Int) (p3:iL) (p4:bi) (r:iP):Option (Ex×St):=some (.normal,⟨[(0,.v (.sl 20 (ah bi.row p0))),(2,.ptr 0 0),(4,.ptr 1 0),(5,.I p1),(6,.ptr 2 0),(8,.ptr 3 0)],[[.I 0,.I 0,.I 0,.I 0,.I 0,.own 8 [],.I 0,.own 7 [],.I 0,.I 0,.own 10 []],cGDisk p3,cGRecord p4,[.I r.iD,.I r.iw,.own 10 (ah iE.row r.af)]]⟩)
theorem Ae (C:aj)  (p0:List bi) (p1:Int) (p3:iL) (p4:bi) (s:Int×iP) (o:(Int×iP)⊕iP) (hF:kr p0 p1 p3 p4 s=some o):evW TT C.wide n12 b12 2 (oH p0 p1 p3 p4 s)=Sum.elim (fun s=>evW TT C.wide n12 b12 2 (oH p0 p1 p3 p4 s)) (fun r=>rV p0 p1 p3 p4 r) o:=by
 obtain⟨p2,p5⟩:=s
 rw [cG TT n12 ZS]
 revert hF
 unfold kr
 try dsimp only
 refine ip (fun h1=>az fun x1 h2=>?_) ?_
 have g1:decide (0<=(IntKind.i64.wrap ((IntKind.i64.wrap (p2-p3.jh.iD))-1)))=true:=(cp h2).1
 have g2:(ah iE.row p3.jh.af)[((IntKind.i64.wrap ((IntKind.i64.wrap (p2-p3.jh.iD))-1)):Int).toNat]? =some (rGItem x1):=cn _ h2
 refine oC fun h3=>?_
 all_goals (rintro⟨⟩;intros;show cN _ _ _ (aH _ _ _ _ (Code.seq _ _) _)=_;simp (maxSteps:=4000000) only [*,cGDisk,cGRecord,rGItem,oH,rV,UK,Nt,Ra,Ni,qfk,HE,IQ,↓RP,RB,RC,↓ab,Nat.reduceBEq,List.map,Nat.reduceAdd,Nat.reduceMul,Nat.reduceSub,Nat.reduceLeDiff,bne,↓ao,ty3,vq,sj,An,vR,y9,iE.one,↓aa _ _ _ _ 17,↓am _ _ _ _ 69,↓aq _ _ _ _ 19,↓aa _ _ _ _ 18])
theorem yj (C:aj) (ne:uH C) (p0:List bi) (p1:Int) (p2:Bool) (p3:Int) (p4:Int) (p5:Int) (p6:Int) (p7:Int) (p8:List gi) (p9:Int) (p10:List cc) (p11:Int) (p12:Int) (p13:List iE) (p14:bi) (c:Code) (ho:cD 1 112 b12=some c) (r:iL) (hF:pr p0 p1 p2 p3 p4 p5 p6 p7 p8 p9 p10 p11 p12 p13 p14=some r): @cV TT C.wide (evW TT C.wide n12 b12) n12 1 112 ⟨[(0,.v (.sl 20 (ah bi.row p0))),(2,.ptr 0 0),(4,.ptr 1 0),(5,.I p1),(6,.ptr 2 0),(112,.v (.b p2))],[[.I 0,.I 0,.I 0,.I 0,.I 0,.own 8 [],.I 0,.own 7 [],.I 0,.I 0,.own 10 []],[.I p3,.I p4,.I p5,.I p6,.I p7,.v (.sl 8 (ah gi.row p8)),.I p9,.v (.sl 7 (ah cc.row p10)),.I p11,.I p12,.v (.sl 10 (ah iE.row p13))],cGRecord p14,[.I p11,.I p12,.bad]]⟩ ⟨c⟩=some (.normal,⟨[(0,.v (.sl 20 (ah bi.row p0))),(2,.ptr 0 0),(4,.ptr 1 0),(5,.I p1)],[[.I 0,.I 0,.I 0,.I 0,.I 0,.own 8 [],.I 0,.own 7 [],.I 0,.I 0,.own 10 []],cGDisk r,cGRecord p14,[.I p11,.I p12,.bad]]⟩):=by
 have e:=Option.some.inj (ho.symm.trans (rfl:cD 1 112 b12=some _))
 subst e
 clear ho
 show aH _ _ _ _ _ _=_
 revert hF
 unfold pr
 refine ip (fun h1=>az fun x1 h2=>?_) ?_
 have g1:=bK (ne (iP.mk p11 p12 p13) p14.iG _ h2)
 try simp only [ak] at g1
 all_goals (rintro⟨⟩;intros;simp (maxSteps:=4000000) only [*,cGDisk,cGRecord,UK,Nt,Ra,Ni,HE,IQ,↓RP,RB,RC,Nat.reduceBEq,bP,List.map,Nat.reduceAdd,Nat.reduceLeDiff,↓ao,aP,tZ,sj,An,y9,↓am _ _ _ _ 112,↓aa _ _ _ _ 25,↓aa _ _ _ _ 26])
theorem tp (C:aj) (ne:uH C) (p0:List bi) (p1:Int) (p2:Bool) (p3:iL) (p4:bi) (c:Code) (ho:cD 1 112 b12=some c) (r:iL) (hF:kV p0 p1 p2 p3 p4=some r): @cV TT C.wide (evW TT C.wide n12 b12) n12 1 112 ⟨[(0,.v (.sl 20 (ah bi.row p0))),(2,.ptr 0 0),(4,.ptr 1 0),(5,.I p1),(6,.ptr 2 0),(112,.v (.b p2))],[[.I 0,.I 0,.I 0,.I 0,.I 0,.own 8 [],.I 0,.own 7 [],.I 0,.I 0,.own 10 []],cGDisk p3,cGRecord p4]⟩ ⟨c⟩=some (.normal,⟨[(0,.v (.sl 20 (ah bi.row p0))),(2,.ptr 0 0),(4,.ptr 1 0),(5,.I p1)],[[.I 0,.I 0,.I 0,.I 0,.I 0,.own 8 [],.I 0,.own 7 [],.I 0,.I 0,.own 10 []],cGDisk r,cGRecord p4]⟩):=by
 have e:=Option.some.inj (ho.symm.trans (rfl:cD 1 112 b12=some _))
 subst e
 clear ho
 show aH _ _ _ _ _ _=_
 revert hF
 unfold kV
 refine ip (fun h1=>az fun x1 h2=>?_) ?_
 have g1:=bK (ne p3.jh p4.iG _ h2)
 all_goals (rintro⟨⟩;intros;simp (maxSteps:=4000000) only [*,cGDisk,cGRecord,UK,Nt,Ra,Ni,HE,IQ,↓RP,RB,RC,Nat.reduceBEq,bP,List.map,Nat.reduceAdd,Nat.reduceLeDiff,↓ao,aP,tZ,sj,An,y9,↓am _ _ _ _ 112,↓aa _ _ _ _ 25,↓aa _ _ _ _ 26])
def mj (p0:List bi) (s:Int×iL):St:=⟨[(0,.v (.sl 20 (ah bi.row p0))),(2,.ptr 0 0),(4,.ptr 1 0),(5,.I s.1)],[[.I 0,.I 0,.I 0,.I 0,.I 0,.own 8 [],.I 0,.own 7 [],.I 0,.I 0,.own 10 []],cGDisk s.2]⟩
def nS (p0:List bi) (r:(Int×iL×bi)⊕((iL×bi×Int×Int×(List iE))⊕iL)):Option (Ex×St):=match r with
 | .inl r=>some (.ret,⟨[(2,.ptr 0 0),(3,.I r.1)],[[.I 0,.I 0,.I 0,.I 0,.I 0,.v (.sl 8 []),.I 0,.v (.sl 7 []),.I 0,.I 0,.v (.sl 10 [])],cGDisk r.2.1,cGRecord r.2.2]⟩)
 | .inr (.inl r)=>some (.ret,⟨[(2,.ptr 0 0),(3,.I 10)],[[.I 0,.I 0,.I 0,.I 0,.I 0,.v (.sl 8 []),.I 0,.v (.sl 7 []),.I 0,.I 0,.v (.sl 10 [])],cGDisk r.1,cGRecord r.2.1,[.I r.2.2.1,.I r.2.2.2.1,.own 10 (ah iE.row r.2.2.2.2)]]⟩)
 | .inr (.inr r)=>some (.normal,⟨[(2,.ptr 0 0),(4,.ptr 1 0)],[[.I 0,.I 0,.I 0,.I 0,.I 0,.own 8 [],.I 0,.own 7 [],.I 0,.I 0,.own 10 []],cGDisk r]⟩)
theorem tT (C:aj) (pY:vC C) (nb:qK C) (pE:tF C) (ne:uH C) (p0:List bi) (s:Int×iL) (o:(Int×iL)⊕((Int×iL×bi)⊕((iL×bi×Int×Int×(List iE))⊕iL))) (hF:kc p0 s=some o):evW TT C.wide n12 b12 0 (mj p0 s)=Sum.elim (fun s=>evW TT C.wide n12 b12 0 (mj p0 s)) (fun r=>nS p0 r) o:=by
 obtain⟨p1,p2⟩:=s
 rw [cG TT n12 ZK]
 revert hF
 unfold kc
 try dsimp only
 refine ip (fun h1=>az fun x1 h2=>?_) ?_
 have g1:decide (0<=p1)=true:=(cp h2).1
 have g2:(ah bi.row p0)[(p1:Int).toNat]? =some (rGRecord x1):=cn _ h2
 refine az fun x2 h3=>?_
 have g3:=bK (pY x1 _ h3)
 refine ip (fun h4=>?_) ?_
 have g4:=za C p0 p1 (x1.e5==1) p2 x1 _ rfl (im p0 p1 (x1.e5==1) p2 x1) rfl
 refine bF (fun h5=>?_) (fun h5=>?_)
 focus
  refine ip (fun h6=>az fun x3 h7=>?_) ?_
  have g5:=tp C ne p0 p1 (decide ((im p0 p1 (x1.e5==1) p2 x1).iG.iB<x1.iG.iB)) (im p0 p1 (x1.e5==1) p2 x1) x1 _ rfl _ h7
 rotate_left 2
 unfold rb
 refine bF (fun h6=>?_) (fun h6=>?_)
 focus
  refine ip (fun h7=>az fun x3 h8=>?_) ?_
  have g5:=tp C ne p0 p1 (decide ((im p0 p1 (x1.e5==1) p2 x1).iG.iB<x1.iG.iB)) (im p0 p1 (x1.e5==1) p2 x1) x1 _ rfl _ h8
 rotate_left 2
 have g6:=bK (nb ((im p0 p1 (x1.e5==1) p2 x1).jh) _ (AT ((im p0 p1 (x1.e5==1) p2 x1).jh)))
 refine iv (fun h7=>az ?_) ?_
 rintro x3 h8
 unfold qJ
 have g7:=cH _ _ (Ae C p0 p1 (im p0 p1 (x1.e5==1) p2 x1) x1) h8
 try simp only [ak,oH,rV] at g7
 refine oC fun h9=>az fun x4 h10=>?_
 have g8:=bK (pE (iP.mk x3.iD x3.iw (x3.af++ [x1.iR])) _ h10)
 try simp only [ak] at g8
 refine ip (fun h11=>ip (fun h12=>az fun x5 h13=>?_) ?_) ?_
 have g9:=yj C ne p0 p1 (decide ((im p0 p1 (x1.e5==1) p2 x1).iG.iB<x1.iG.iB)) ((im p0 p1 (x1.e5==1) p2 x1).iK) ((im p0 p1 (x1.e5==1) p2 x1).lS) ((im p0 p1 (x1.e5==1) p2 x1).iG.iB) ((im p0 p1 (x1.e5==1) p2 x1).iG.iK) ((im p0 p1 (x1.e5==1) p2 x1).iG.iy.e7.iS) ((im p0 p1 (x1.e5==1) p2 x1).iG.iy.e7.f6) ((im p0 p1 (x1.e5==1) p2 x1).iG.iy.iI) ((im p0 p1 (x1.e5==1) p2 x1).iG.iy.cO) x3.iD x3.iw (x3.af++ [x1.iR]) x1 _ rfl _ h13
 all_goals (rintro⟨⟩;intros;show cN _ _ _ (aH _ _ _ _ (Code.seq _ _) _)=_;simp (maxSteps:=4000000) only [*,cGDisk,cGRecord,rGRecord,mj,nS,UK,Nt,Ra,Ni,ZE,HE,IQ,↓RP,RB,RC,↓ai,Nat.reduceBEq,bP,List.map,Nat.reduceAdd,Nat.reduceMul,Nat.reduceSub,Nat.reduceLT,Nat.reduceLeDiff,bne,↓ao,aP,ty3,M8,kQ,tZ,vq,sj,An,vR,y9,iE.one,↓aa _ _ _ _ 3,↓am _ _ _ _ 14,↓aa _ _ _ _ 5,↓aa _ _ _ _ 6,↓aa _ _ _ _ 7,↓am _ _ _ _ 24,↓aa _ _ _ _ 8,↓aa _ _ _ _ 9,↓da _ _ _ _ 29,↓aa _ _ _ _ 12,↓am _ _ _ _ 46,↓aq _ _ _ _ 13,↓am _ _ _ _ 53,↓aa _ _ _ _ 14,↓aa _ _ _ _ 15,↓aa _ _ _ _ 16,↓aa _ _ _ _ 20,↓aa _ _ _ _ 21,↓am _ _ _ _ 97,↓aa _ _ _ _ 22,↓aa _ _ _ _ 23,↓aa _ _ _ _ 24,Ww,↓da _ _ _ _ 112,↓aa _ _ _ _ 4])
theorem EF (C:aj) (GS:w8 C) (Dy:vu C) (Mp:zN C) (ne:uH C) (pY:vC C) (nb:qK C) (pE:tF C) (p0:List bi) (r:iL×Int) (hF:rL p0=some r):cR TT C.wide (evW TT C.wide n12 b12) n12 Tryz.f12.results.toList (aU Tryz.f12) [.v (.sl 20 (ah bi.row p0))] []=some (.tup [.agg (cGDisk r.1),.I r.2],[]):=by
 revert hF
 unfold rL
 have g1:=bK (GS  _ (GW))
 refine az ?_
 rintro (⟨x1,x2,x3⟩|⟨x1,x2,x3,x4,x5⟩|x1) h1
 focus
  dsimp only
  have g2:=cH _ _ (tT C pY nb pE ne p0) h1
  try simp only [mj,nS] at g2
 rotate_left 1
 focus
  dsimp only
  have g3:=cH _ _ (tT C pY nb pE ne p0) h1
  try simp only [mj,nS] at g3
 rotate_left 1
 dsimp only
 unfold vG
 have g4:=cH _ _ (tT C pY nb pE ne p0) h1
 try simp only [mj,nS] at g4
 refine az fun x2 h2=>?_
 have g5:=bK (Dy x1.iG.iy _ h2)
 refine az fun x3 h3=>?_
 have g6:=bK (Mp x1.jh _ h3)
 all_goals (rintro⟨⟩;rw [bk];show cC _ _ _ (aH _ _ _ _ (Code.seq _ _) _)=_;simp (maxSteps:=4000000) only [*,cGDisk,cGRecord,qh8,Ra,Ni,HE,IQ,↓RP,RB,RC,Nat.reduceBEq,bP,List.map,Nat.reduceAdd,Nat.reduceLeDiff,bne,↓ao,aP,ty3,kQ,sm,tZ,sj,An,iE.flat,↓aa _ _ _ _ 0,↓aa _ _ _ _ 1,↓aa _ _ _ _ 2,↓aa _ _ _ _ 27,↓aa _ _ _ _ 28,↓aa _ _ _ _ 29])
def PJ:List (Nat×List Nat):=[(0,[0,1]),(1,[0,1,10]),(2,[4]),(3,[0,1,5]),(4,[0,1,5,14]),(5,[0,1,5]),(6,[0,1,5,25]),(7,[4]),(8,[4])]
def P6:List (Nat×List Nat×List Nat):=[(10,[],[0,1]),(14,[0,1,5],[]),(25,[],[0,1,5])]
def Gs:cL where
 keep:=ax PJ
 ro:=fun _=>false
 mv:=fun _=>false
 give:=fun _=>false
 free:=fun i=>match i with|6=>[(0,1),(0,4),(1,4),(2,4),(3,4),(0,5),(1,5),(2,5),(3,5),(4,5),(0,6),(1,6),(2,6),(3,6),(0,7),(1,7),(2,7),(3,7)]|_=>[]
 alive:=av P6
theorem YP (t:Nat) (x:Bool) (e:Env) (S:bH):cK Gs t x ⟨e,S⟩=atO (av P6 t x) e S:=cF rfl t x e S
theorem Yy (i:Nat):Gs.keep i=ax PJ i:=rfl
theorem Z3 (t:Nat):Gs.mv t=(false):=rfl
theorem qdm:Gs.free 6= [(0,1),(0,4),(1,4),(2,4),(3,4),(0,5),(1,5),(2,5),(3,5),(4,5),(0,6),(1,6),(2,6),(3,6),(0,7),(1,7),(2,7),(3,7)]:=rfl
theorem qcq:Tryz.f114.results.toList= [.tmp 4]:=rfl
def XV:Code:=aU Tryz.f114
def Zs:Code:=(bE 0 (aU Tryz.f114)).getD .skip
theorem XF:bE 0 XV=some Zs:=rfl
def pb (p0:List ByteArray) (p1:List ByteArray) (s:Int):St:=⟨[(0,.v (.sl 1 (ah bY p0))),(1,.v (.sl 1 (ah bY p1))),(5,.I s)],[]⟩
def rq (p0:List ByteArray) (p1:List ByteArray) (r:Unit⊕Unit):Option (Ex×St):=match r with
 | .inl r=>some (.ret,⟨[(4,.v (.b false))],[]⟩)
 | .inr r=>some (.normal,⟨[],[]⟩)
theorem xG (C:aj)  (p0:List ByteArray) (p1:List ByteArray) (p2:Int) (o:Int⊕(Unit⊕Unit)) (hF:pe p0 p1 p2=some o):evW TT C.wide Gs XV 0 (pb p0 p1 p2)=Sum.elim (fun s=>evW TT C.wide Gs XV 0 (pb p0 p1 s)) (fun r=>rq p0 p1 r) o:=by
 rw [cG TT Gs XF]
 revert hF
 unfold pe
 try dsimp only
 refine ip (fun h1=>az fun x1 h2=>?_) ?_
 have g1:decide (0<=p2)=true:=(cp h2).1
 have g2:(ah bY p0)[(p2:Int).toNat]? =some [.s x1]:=cn _ h2
 refine az fun x2 h3=>?_
 have g3:(ah bY p1)[(p2:Int).toNat]? =some [.s x2]:=cn _ h3
 refine iv (fun h4=>?_) ?_
 all_goals (rintro⟨⟩;intros;show cN _ _ _ (aH _ _ _ _ (Code.seq _ _) _)=_;simp (maxSteps:=4000000) only [*,pb,rq,YP,P6,Yy,PJ,qdm,Z3,↓RP,RB,RC,↓ai,Nat.reduceBEq,List.map,↓ao,↓am,↓aa,↓aq,ty3,ty4,ty9,mJ])
theorem GF (C:aj)  (p0:List ByteArray) (p1:List ByteArray) (r:Bool) (hF:pp p0 p1=some r):cR TT C.wide (evW TT C.wide Gs XV) Gs Tryz.f114.results.toList (aU Tryz.f114) [.v (.sl 1 (ah bY p0)),.v (.sl 1 (ah bY p1))] []=some (.v (.b r),[]):=by
 revert hF
 unfold pp
 refine ip (fun h1=>az ?_) ?_
 rintro (_|_) h2
 focus
  dsimp only
  have g1:=cH _ _ (xG C p0 p1) h2
  try simp only [pb,rq] at g1
 rotate_left 1
 dsimp only
 have g2:=cH _ _ (xG C p0 p1) h2
 try simp only [pb,rq] at g2
 all_goals (rintro⟨⟩;intros;rw [bk];show cC _ _ _ (aH _ _ _ _ (Code.seq _ _) _)=_;simp (maxSteps:=4000000) only [*,qcq,YP,P6,Yy,PJ,↓RP,RB,RC,Nat.reduceBEq,List.map,Nat.reduceAdd,bne,↓ao,↓am,↓aa,ty3,ty4,mJ])
def HH:List (Nat×List Nat):=[(0,[2,3]),(1,[2,3,51]),(2,[4]),(3,[2,3,5]),(4,[2,3,5,56]),(5,[2,3,5]),(6,[2,3,5,69]),(7,[4]),(8,[2,3,6]),(9,[2,3,6,74]),(10,[2,3,6]),(11,[2,3,6,87]),(12,[4]),(13,[4])]
def Li:List (Nat×List Nat×List Nat):=[(51,[],[2,3]),(56,[2,3,5],[2,3]),(69,[],[2,3,5]),(74,[2,3,6],[]),(87,[],[2,3,6])]
def zL:cL where
 keep:=ax HH
 ro:=fun t=>t==2||t==3
 mv:=fun _=>false
 give:=fun _=>false
 free:=fun i=>match i with|6=>[(0,2),(1,2),(0,5),(1,5),(2,5),(3,5),(4,5),(0,6),(1,6),(2,6),(3,6),(4,6),(0,7),(1,7),(2,7),(3,7),(4,7),(5,7),(6,7),(0,8),(1,8),(2,8),(3,8),(4,8),(0,9),(1,9),(2,9),(3,9),(4,9)]|11=>[(0,2),(1,2),(0,5),(1,5),(2,5),(3,5),(4,5),(0,6),(1,6),(2,6),(3,6),(4,6),(0,7),(1,7),(2,7),(3,7),(4,7),(5,7),(6,7),(0,8),(1,8),(2,8),(3,8),(4,8),(0,9),(1,9),(2,9),(3,9),(4,9)]|_=>[]
 alive:=av Li
theorem Tv (t:Nat) (x:Bool) (e:Env) (S:bH):cK zL t x ⟨e,S⟩=atO (av Li t x) e S:=cF rfl t x e S
theorem Pj (i:Nat):zL.keep i=ax HH i:=rfl
theorem qfB (t:Nat):zL.ro t=(t==2||t==3):=rfl
theorem N6 (t:Nat):zL.mv t=(false):=rfl
theorem qcV:zL.free 6= [(0,2),(1,2),(0,5),(1,5),(2,5),(3,5),(4,5),(0,6),(1,6),(2,6),(3,6),(4,6),(0,7),(1,7),(2,7),(3,7),(4,7),(5,7),(6,7),(0,8),(1,8),(2,8),(3,8),(4,8),(0,9),(1,9),(2,9),(3,9),(4,9)]:=rfl
theorem WN:zL.free 11= [(0,2),(1,2),(0,5),(1,5),(2,5),(3,5),(4,5),(0,6),(1,6),(2,6),(3,6),(4,6),(0,7),(1,7),(2,7),(3,7),(4,7),(5,7),(6,7),(0,8),(1,8),(2,8),(3,8),(4,8),(0,9),(1,9),(2,9),(3,9),(4,9)]:=rfl
theorem qdi:Tryz.f113.results.toList= [.tmp 4]:=rfl
def Gj:Code:=aU Tryz.f113
def qeu:Code:=(bE 0 (aU Tryz.f113)).getD .skip
theorem Vd:bE 0 Gj=some qeu:=rfl
def qav:Code:=(bE 2 (aU Tryz.f113)).getD .skip
theorem WZ:bE 2 Gj=some qav:=rfl
theorem Bi (C:aj) (nZ:qe C) (p0:ae) (p1:ae) (c:Code) (ho:cD 0 1 Gj=some c) (r:Bool) (hF:nN p0 p1=some r): @cV TT C.wide (evW TT C.wide zL Gj) zL 0 1 ⟨[(2,.rp (rGValue p0)),(3,.rp (rGValue p1))],[]⟩ ⟨c⟩=some (.normal,⟨[(2,.rp (rGValue p0)),(3,.rp (rGValue p1)),(51,.v (.b r))],[]⟩):=by
 have e:=Option.some.inj (ho.symm.trans (rfl:cD 0 1 Gj=some _))
 subst e
 clear ho
 show aH _ _ _ _ _ _=_
 revert hF
 unfold nN
 refine ip (fun h1=>ip (fun h2=>ip (fun h3=>ip (fun h4=>ip (fun h5=>az fun x1 h6=>?_) ?_) ?_) ?_) ?_) ?_
 have g1:=bK (nZ p0.af p1.af _ h6)
 all_goals (rintro⟨⟩;intros;simp (maxSteps:=4000000) only [*,rGValue,Pj,HH,N6,↓RP,RB,RC,Nat.reduceBEq,List.map,bne,ty3,ty9,ti,mJ,oN,kU,↓aa _ _ _ _ 1])
def oQ (p0:ae) (p1:ae) (s:Int):St:=⟨[(2,.rp (rGValue p0)),(3,.rp (rGValue p1)),(5,.I s)],[]⟩
def rE (p0:ae) (p1:ae) (r:Unit⊕Unit):Option (Ex×St):=match r with
 | .inl r=>some (.ret,⟨[(4,.v (.b false))],[]⟩)
 | .inr r=>some (.normal,⟨[(2,.rp (rGValue p0)),(3,.rp (rGValue p1))],[]⟩)
theorem xR (C:aj)  (p0:ae) (p1:ae) (p2:Int) (o:Int⊕(Unit⊕Unit)) (hF:oU p0 p1 p2=some o):evW TT C.wide zL Gj 0 (oQ p0 p1 p2)=Sum.elim (fun s=>evW TT C.wide zL Gj 0 (oQ p0 p1 s)) (fun r=>rE p0 p1 r) o:=by
 rw [cG TT zL Vd]
 revert hF
 unfold oU
 try dsimp only
 refine ip (fun h1=>az fun x1 h2=>?_) ?_
 have g1:decide (0<=p2)=true:=(cp h2).1
 have g2:(ah iC.row p0.iz)[(p2:Int).toNat]? =some (rGPair x1):=cn _ h2
 refine az fun x2 h3=>?_
 have g3:(ah iC.row p1.iz)[(p2:Int).toNat]? =some (rGPair x2):=cn _ h3
 refine ip (fun h4=>iv (fun h5=>?_) ?_) ?_
 all_goals (rintro⟨⟩;intros;show cN _ _ _ (aH _ _ _ _ (Code.seq _ _) _)=_;simp (maxSteps:=4000000) only [*,rGPair,rGValue,oQ,rE,Tv,Li,Pj,HH,qcV,N6,↓RP,RB,RC,↓ai,Nat.reduceBEq,List.map,Nat.reduceAdd,aG,↓ao,↓am,ty3,ty4,ti,kU,AE,↓aa _ _ _ _ 4,↓aq _ _ _ _ 6,↓aa _ _ _ _ 7,↓aa _ _ _ _ 5])
def oZ (p0:ae) (p1:ae) (s:Int):St:=⟨[(2,.rp (rGValue p0)),(3,.rp (rGValue p1)),(6,.I s)],[]⟩
def rT (p0:ae) (p1:ae) (r:Unit⊕Unit):Option (Ex×St):=match r with
 | .inl r=>some (.ret,⟨[(4,.v (.b false))],[]⟩)
 | .inr r=>some (.normal,⟨[],[]⟩)
theorem xV (C:aj)  (p0:ae) (p1:ae) (p2:Int) (o:Int⊕(Unit⊕Unit)) (hF:oW p0 p1 p2=some o):evW TT C.wide zL Gj 2 (oZ p0 p1 p2)=Sum.elim (fun s=>evW TT C.wide zL Gj 2 (oZ p0 p1 s)) (fun r=>rT p0 p1 r) o:=by
 rw [cG TT zL WZ]
 revert hF
 unfold oW
 try dsimp only
 refine ip (fun h1=>az fun x1 h2=>?_) ?_
 have g1:decide (0<=p2)=true:=(cp h2).1
 have g2:(ah f5.row p0.f9)[(p2:Int).toNat]? =some (rGScore x1):=cn _ h2
 refine az fun x2 h3=>?_
 have g3:(ah f5.row p1.f9)[(p2:Int).toNat]? =some (rGScore x2):=cn _ h3
 refine ip (fun h4=>iv (fun h5=>?_) ?_) ?_
 all_goals (rintro⟨⟩;intros;show cN _ _ _ (aH _ _ _ _ (Code.seq _ _) _)=_;simp (maxSteps:=4000000) only [*,rGScore,rGValue,oZ,rT,Tv,Li,Pj,HH,WN,N6,↓RP,RB,RC,↓ai,Nat.reduceBEq,List.map,Nat.reduceAdd,aG,↓ao,↓am,ty3,ty4,oN,kU,ua,↓aa _ _ _ _ 9,↓aq _ _ _ _ 11,↓aa _ _ _ _ 12,↓aa _ _ _ _ 10])
theorem FR (C:aj) (nZ:qe C) (p0:ae) (p1:ae) (r:Bool) (hF:qP p0 p1=some r):cR TT C.wide (evW TT C.wide zL Gj) zL Tryz.f113.results.toList (aU Tryz.f113) [.agg (cGValue p0),.agg (cGValue p1)] []=some (.v (.b r),[]):=by
 revert hF
 unfold qP
 refine az fun x1 h1=>?_
 have g1:=Bi C nZ p0 p1 _ rfl _ h1
 refine iv (fun h2=>az ?_) ?_
 rintro (_|_) h3
 focus
  dsimp only
  have g2:=cH _ _ (xR C p0 p1) h3
  try simp only [oQ,rE] at g2
 rotate_left 1
 dsimp only
 unfold wo
 have g3:=cH _ _ (xR C p0 p1) h3
 try simp only [oQ,rE] at g3
 refine az ?_
 rintro (_|_) h4
 focus
  dsimp only
  have g4:=cH _ _ (xV C p0 p1) h4
  try simp only [oZ,rT] at g4
 rotate_left 1
 dsimp only
 have g5:=cH _ _ (xV C p0 p1) h4
 try simp only [oZ,rT] at g5
 all_goals (rintro⟨⟩;intros;rw [bk];show cC _ _ _ (aH _ _ _ _ (Code.seq _ _) _)=_;simp (maxSteps:=4000000) only [*,cGValue,rGValue,qdi,Tv,Li,Pj,HH,qfB,↓RP,RB,RC,Nat.reduceBEq,bP,List.map,Nat.reduceAdd,↓ao,↓am,ty3,ty4,kU,↓aa _ _ _ _ 0,↓bg _ _ _ _ 1,↓aa _ _ _ _ 2,↓aa _ _ _ _ 3,↓aa _ _ _ _ 8,↓aa _ _ _ _ 13])
def MD:List (Nat×List Nat):=[(0,[2,3]),(1,[2,3,21]),(2,[4]),(3,[2,3,5]),(4,[2,3,5,26]),(5,[2,3,5]),(6,[2,3,5,6]),(7,[2,3,5,6,7]),(8,[2,3,5,58]),(9,[4]),(10,[4])]
def P1:List (Nat×List Nat×List Nat):=[(21,[],[2,3]),(26,[2,3,5],[]),(58,[],[2,3,5])]
def Ct:cL where
 keep:=ax MD
 ro:=fun t=>t==2||t==3
 mv:=fun _=>false
 give:=fun _=>false
 free:=fun _=>[]
 alive:=av P1
theorem Yw (t:Nat) (x:Bool) (e:Env) (S:bH):cK Ct t x ⟨e,S⟩=atO (av P1 t x) e S:=cF rfl t x e S
theorem Ux (i:Nat):Ct.keep i=ax MD i:=rfl
theorem qcC (t:Nat):Ct.ro t=(t==2||t==3):=rfl
theorem Oe (t:Nat):Ct.mv t=(false):=rfl
theorem qbZ (t:Nat):Ct.give t=(false):=rfl
theorem qba:Tryz.f102.results.toList= [.tmp 4]:=rfl
def Nl:Code:=aU Tryz.f102
def qbA:Code:=(bE 0 (aU Tryz.f102)).getD .skip
theorem XT:bE 0 Nl=some qbA:=rfl
theorem Ao (C:aj) (qo:uN C) (p0:iJ) (p1:iJ) (p2:Int) (p3:gi) (p4:gi) (c:Code) (ho:cD 0 8 Nl=some c) (r:Bool) (hF:mz p0 p1 p2 p3 p4=some r): @cV TT C.wide (evW TT C.wide Ct Nl) Ct 0 8 ⟨[(2,.rp (rGStore p0)),(3,.rp (rGStore p1)),(5,.I p2),(6,.ptr 0 0),(7,.ptr 1 0)],[cGEntry p3,cGEntry p4]⟩ ⟨c⟩=some (.normal,⟨[(2,.rp (rGStore p0)),(3,.rp (rGStore p1)),(5,.I p2),(58,.v (.b r))],[cGEntry p3,cGEntry p4]⟩):=by
 have e:=Option.some.inj (ho.symm.trans (rfl:cD 0 8 Nl=some _))
 subst e
 clear ho
 show aH _ _ _ _ _ _=_
 revert hF
 unfold mz
 refine ip (fun h1=>ip (fun h2=>az fun x1 h3=>?_) ?_) ?_
 have g1:=bK (qo p3.jt p4.jt _ h3)
 all_goals (rintro⟨⟩;intros;simp (maxSteps:=4000000) only [*,cGEntry,rGStore,Ux,MD,Oe,↓RP,RB,RC,Nat.reduceBEq,List.map,Nat.reduceAdd,bne,aP,ty3,ty9,kU,zO,↓aa _ _ _ _ 8])
def oY (p0:iJ) (p1:iJ) (s:Int):St:=⟨[(2,.rp (rGStore p0)),(3,.rp (rGStore p1)),(5,.I s)],[]⟩
def rv (p0:iJ) (p1:iJ) (r:(gi×gi)⊕Unit):Option (Ex×St):=match r with
 | .inl r=>some (.ret,⟨[(4,.v (.b false))],[cGEntry r.1,cGEntry r.2]⟩)
 | .inr r=>some (.normal,⟨[],[]⟩)
theorem xO (C:aj) (qo:uN C) (p0:iJ) (p1:iJ) (p2:Int) (o:Int⊕((gi×gi)⊕Unit)) (hF:ph p0 p1 p2=some o):evW TT C.wide Ct Nl 0 (oY p0 p1 p2)=Sum.elim (fun s=>evW TT C.wide Ct Nl 0 (oY p0 p1 s)) (fun r=>rv p0 p1 r) o:=by
 rw [cG TT Ct XT]
 revert hF
 unfold ph
 try dsimp only
 refine ip (fun h1=>az fun x1 h2=>?_) ?_
 have g1:decide (0<=p2)=true:=(cp h2).1
 have g2:(ah gi.row p0.f6)[(p2:Int).toNat]? =some (rGEntry x1):=cn _ h2
 refine az fun x2 h3=>?_
 have g3:(ah gi.row p1.f6)[(p2:Int).toNat]? =some (rGEntry x2):=cn _ h3
 refine az fun x3 h4=>?_
 have g4:=Ao C qo p0 p1 p2 x1 x2 _ rfl _ h4
 refine iv (fun h5=>?_) ?_
 all_goals (rintro⟨⟩;intros;show cN _ _ _ (aH _ _ _ _ (Code.seq _ _) _)=_;simp (maxSteps:=4000000) only [*,cGEntry,rGEntry,rGStore,oY,rv,Yw,P1,Ux,MD,Oe,qbZ,↓RP,RB,RC,↓ai,Nat.reduceBEq,bP,List.map,Nat.reduceAdd,Nat.reduceLeDiff,bne,↓ao,↓am,ty3,ty4,Ad,ug,zO,↓aa _ _ _ _ 4,↓aa _ _ _ _ 6,↓aa _ _ _ _ 7,↓bg _ _ _ _ 8,↓aa _ _ _ _ 9,↓aa _ _ _ _ 5])
theorem G4 (C:aj) (qo:uN C) (p0:iJ) (p1:iJ) (r:Bool) (hF:qO p0 p1=some r):cR TT C.wide (evW TT C.wide Ct Nl) Ct Tryz.f102.results.toList (aU Tryz.f102) [.agg (cGStore p0),.agg (cGStore p1)] []=some (.v (.b r),[]):=by
 revert hF
 unfold qO
 refine ip (fun h1=>ip (fun h2=>az ?_) ?_) ?_
 rintro (⟨x1,x2⟩|_) h3
 focus
  dsimp only
  have g1:=cH _ _ (xO C qo p0 p1) h3
  try simp only [oY,rv] at g1
 rotate_left 1
 dsimp only
 have g2:=cH _ _ (xO C qo p0 p1) h3
 try simp only [oY,rv] at g2
 all_goals (rintro⟨⟩;intros;rw [bk];show cC _ _ _ (aH _ _ _ _ (Code.seq _ _) _)=_;simp (maxSteps:=4000000) only [*,cGEntry,cGStore,qba,Yw,P1,Ux,MD,qcC,Oe,↓RP,RB,RC,Nat.reduceBEq,bP,List.map,Nat.reduceAdd,bne,↓ao,↓am,ty3,ty4,Ad,ug,↓aa _ _ _ _ 0,↓aa _ _ _ _ 1,↓aa _ _ _ _ 2,↓aa _ _ _ _ 3,↓aa _ _ _ _ 10])
def Qc:List (Nat×List Nat):=[(0,[2,3]),(1,[4])]
def L3:cL where
 keep:=ax Qc
 ro:=fun t=>t==2||t==3
 mv:=fun _=>false
 give:=fun _=>false
 free:=fun _=>[]
theorem YS (i:Nat):L3.keep i=ax Qc i:=rfl
theorem qdg (t:Nat):L3.ro t=(t==2||t==3):=rfl
theorem Zt (t:Nat):L3.mv t=(false):=rfl
theorem qa4:Tryz.f103.results.toList= [.tmp 4]:=rfl
def WV:Code:=aU Tryz.f103
theorem BC (C:aj) (nZ:qe C) (p0:iT) (p1:iT) (c:Code) (ho:cD 0 1 WV=some c) (r:Bool) (hF:qB p0 p1=some r): @cV TT C.wide (evW TT C.wide L3 WV) L3 0 1 ⟨[(2,.rp (rGReply p0)),(3,.rp (rGReply p1))],[]⟩ ⟨c⟩=some (.normal,⟨[(4,.v (.b r))],[]⟩):=by
 have e:=Option.some.inj (ho.symm.trans (rfl:cD 0 1 WV=some _))
 subst e
 clear ho
 show aH _ _ _ _ _ _=_
 revert hF
 unfold qB
 refine ip (fun h1=>ip (fun h2=>ip (fun h3=>az fun x1 h4=>?_) ?_) ?_) ?_
 have g1:=bK (nZ p0.jG p1.jG _ h4)
 all_goals (rintro⟨⟩;intros;simp (maxSteps:=4000000) only [*,rGReply,YS,Qc,Zt,↓RP,RB,RC,Nat.reduceBEq,List.map,ty3,ty4,ty9,kQ,mJ,wQ,↓aa _ _ _ _ 1])
theorem GV (C:aj) (nZ:qe C) (p0:iT) (p1:iT) (r:Bool) (hF:qV p0 p1=some r):cR TT C.wide (evW TT C.wide L3 WV) L3 Tryz.f103.results.toList (aU Tryz.f103) [.agg (cGReply p0),.agg (cGReply p1)] []=some (.v (.b r),[]):=by
 revert hF
 unfold qV
 refine az fun x1 h1=>?_
 have g1:=BC C nZ p0 p1 _ rfl _ h1
 all_goals (rintro⟨⟩;rw [bk];show cC _ _ _ (aH _ _ _ _ (Code.seq _ _) _)=_;simp (maxSteps:=4000000) only [*,cGReply,qa4,YS,Qc,qdg,↓RP,RB,RC,Nat.reduceBEq,bP,List.map,Nat.reduceAdd,↓ao,ty4,wQ,↓aa _ _ _ _ 0,↓bg _ _ _ _ 1])
def QK:List (Nat×List Nat):=[(0,[2,3]),(1,[2,3,29]),(2,[4]),(3,[2,3,5]),(4,[2,3,5,34]),(5,[2,3,5]),(6,[2,3,5,6]),(7,[2,3,5,6,7]),(8,[2,3,5,73]),(9,[4]),(10,[4])]
def VK:List (Nat×List Nat×List Nat):=[(29,[],[2,3]),(34,[2,3,5],[]),(73,[],[2,3,5])]
def n79:cL where
 keep:=ax QK
 ro:=fun t=>t==2||t==3
 mv:=fun _=>false
 give:=fun _=>false
 free:=fun _=>[]
 alive:=av VK
theorem qia (t:Nat) (x:Bool) (e:Env) (S:bH):cK n79 t x ⟨e,S⟩=atO (av VK t x) e S:=cF rfl t x e S
theorem Vc (i:Nat):n79.keep i=ax QK i:=rfl
theorem qjh (t:Nat):n79.ro t=(t==2||t==3):=rfl
theorem UH (t:Nat):n79.mv t=(false):=rfl
theorem qgT (t:Nat):n79.give t=(false):=rfl
theorem qj9:Tryz.f79.results.toList= [.tmp 4]:=rfl
def b79:Code:=aU Tryz.f79
def qjy:Code:=(bE 0 (aU Tryz.f79)).getD .skip
theorem qe3:bE 0 b79=some qjy:=rfl
theorem Ai (C:aj) (w9:uZ C) (p0:ad) (p1:ad) (c:Code) (ho:cD 0 1 b79=some c) (r:Bool) (hF:mF p0 p1=some r): @cV TT C.wide (evW TT C.wide n79 b79) n79 0 1 ⟨[(2,.rp (rGMachine p0)),(3,.rp (rGMachine p1))],[]⟩ ⟨c⟩=some (.normal,⟨[(2,.rp (rGMachine p0)),(3,.rp (rGMachine p1)),(29,.v (.b r))],[]⟩):=by
 have e:=Option.some.inj (ho.symm.trans (rfl:cD 0 1 b79=some _))
 subst e
 clear ho
 show aH _ _ _ _ _ _=_
 revert hF
 unfold mF
 refine ip (fun h1=>az fun x1 h2=>?_) ?_
 have g1:=bK (w9 p0.e7 p1.e7 _ h2)
 refine iv (fun h3=>?_) ?_
 all_goals (rintro⟨⟩;intros;simp (maxSteps:=4000000) only [*,rGMachine,Vc,QK,UH,↓RP,RB,RC,Nat.reduceBEq,List.map,Nat.reduceAdd,bne,ty3,ug,xm,sm,↓aa _ _ _ _ 1])
theorem y7 (C:aj) (qf:uX C) (p0:ad) (p1:ad) (p2:Int) (p3:cc) (p4:cc) (c:Code) (ho:cD 0 8 b79=some c) (r:Bool) (hF:lG p0 p1 p2 p3 p4=some r): @cV TT C.wide (evW TT C.wide n79 b79) n79 0 8 ⟨[(2,.rp (rGMachine p0)),(3,.rp (rGMachine p1)),(5,.I p2),(6,.ptr 0 0),(7,.ptr 1 0)],[cGClient p3,cGClient p4]⟩ ⟨c⟩=some (.normal,⟨[(2,.rp (rGMachine p0)),(3,.rp (rGMachine p1)),(5,.I p2),(73,.v (.b r))],[cGClient p3,cGClient p4]⟩):=by
 have e:=Option.some.inj (ho.symm.trans (rfl:cD 0 8 b79=some _))
 subst e
 clear ho
 show aH _ _ _ _ _ _=_
 revert hF
 unfold lG
 refine ip (fun h1=>ip (fun h2=>ip (fun h3=>az fun x1 h4=>?_) ?_) ?_) ?_
 have g1:=bK (qf p3.i5 p4.i5 _ h4)
 all_goals (rintro⟨⟩;intros;simp (maxSteps:=4000000) only [*,cGClient,rGMachine,Vc,QK,UH,↓RP,RB,RC,Nat.reduceBEq,List.map,Nat.reduceAdd,bne,aP,ty3,wQ,zm,↓aa _ _ _ _ 8])
def nc (p0:ad) (p1:ad) (s:Int):St:=⟨[(2,.rp (rGMachine p0)),(3,.rp (rGMachine p1)),(5,.I s)],[]⟩
def py (p0:ad) (p1:ad) (r:(cc×cc)⊕Unit):Option (Ex×St):=match r with
 | .inl r=>some (.ret,⟨[(4,.v (.b false))],[cGClient r.1,cGClient r.2]⟩)
 | .inr r=>some (.normal,⟨[],[]⟩)
theorem wj (C:aj) (qf:uX C) (p0:ad) (p1:ad) (p2:Int) (o:Int⊕((cc×cc)⊕Unit)) (hF:nf p0 p1 p2=some o):evW TT C.wide n79 b79 0 (nc p0 p1 p2)=Sum.elim (fun s=>evW TT C.wide n79 b79 0 (nc p0 p1 s)) (fun r=>py p0 p1 r) o:=by
 rw [cG TT n79 qe3]
 revert hF
 unfold nf
 try dsimp only
 refine ip (fun h1=>az fun x1 h2=>?_) ?_
 have g1:decide (0<=p2)=true:=(cp h2).1
 have g2:(ah cc.row p0.cO)[(p2:Int).toNat]? =some (rGClient x1):=cn _ h2
 refine az fun x2 h3=>?_
 have g3:(ah cc.row p1.cO)[(p2:Int).toNat]? =some (rGClient x2):=cn _ h3
 refine az fun x3 h4=>?_
 have g4:=y7 C qf p0 p1 p2 x1 x2 _ rfl _ h4
 refine iv (fun h5=>?_) ?_
 all_goals (rintro⟨⟩;intros;show cN _ _ _ (aH _ _ _ _ (Code.seq _ _) _)=_;simp (maxSteps:=4000000) only [*,cGClient,rGClient,rGMachine,nc,py,qia,VK,Vc,QK,UH,qgT,↓RP,RB,RC,↓ai,Nat.reduceBEq,bP,List.map,Nat.reduceAdd,Nat.reduceLeDiff,bne,↓ao,↓am,ty3,ty4,xm,sm,zm,↓aa _ _ _ _ 4,↓aa _ _ _ _ 6,↓aa _ _ _ _ 7,↓bg _ _ _ _ 8,↓aa _ _ _ _ 9,↓aa _ _ _ _ 5])
theorem Dl (C:aj) (w9:uZ C) (qf:uX C) (p0:ad) (p1:ad) (r:Bool) (hF:om p0 p1=some r):cR TT C.wide (evW TT C.wide n79 b79) n79 Tryz.f79.results.toList (aU Tryz.f79) [.agg (cGMachine p0),.agg (cGMachine p1)] []=some (.v (.b r),[]):=by
 revert hF
 unfold om
 refine az fun x1 h1=>?_
 have g1:=Ai C w9 p0 p1 _ rfl _ h1
 refine iv (fun h2=>az ?_) ?_
 rintro (⟨x2,x3⟩|_) h3
 focus
  dsimp only
  have g2:=cH _ _ (wj C qf p0 p1) h3
  try simp only [nc,py] at g2
 rotate_left 1
 dsimp only
 have g3:=cH _ _ (wj C qf p0 p1) h3
 try simp only [nc,py] at g3
 all_goals (rintro⟨⟩;intros;rw [bk];show cC _ _ _ (aH _ _ _ _ (Code.seq _ _) _)=_;simp (maxSteps:=4000000) only [*,cGClient,cGMachine,rGMachine,qj9,qia,VK,Vc,QK,qjh,↓RP,RB,RC,Nat.reduceBEq,bP,List.map,Nat.reduceAdd,↓ao,↓am,ty3,ty4,sm,↓aa _ _ _ _ 0,↓bg _ _ _ _ 1,↓aa _ _ _ _ 2,↓aa _ _ _ _ 3,↓aa _ _ _ _ 10])
def XI:List (Nat×List Nat):=[(0,[2,3]),(1,[4])]
def n38:cL where
 keep:=ax XI
 ro:=fun t=>t==2||t==3
 mv:=fun _=>false
 give:=fun _=>false
 free:=fun _=>[]
theorem qhJ (i:Nat):n38.keep i=ax XI i:=rfl
theorem qjg (t:Nat):n38.ro t=(t==2||t==3):=rfl
theorem qhH (t:Nat):n38.mv t=(false):=rfl
theorem qk1:Tryz.f38.results.toList= [.tmp 4]:=rfl
def b38:Code:=aU Tryz.f38
theorem Cm (C:aj) (vj:vz C) (p0:i4) (p1:i4) (c:Code) (ho:cD 0 1 b38=some c) (r:Bool) (hF:rn p0 p1=some r): @cV TT C.wide (evW TT C.wide n38 b38) n38 0 1 ⟨[(2,.rp (rGSnap p0)),(3,.rp (rGSnap p1))],[]⟩ ⟨c⟩=some (.normal,⟨[(4,.v (.b r))],[]⟩):=by
 have e:=Option.some.inj (ho.symm.trans (rfl:cD 0 1 b38=some _))
 subst e
 clear ho
 show aH _ _ _ _ _ _=_
 revert hF
 unfold rn
 refine ip (fun h1=>ip (fun h2=>az fun x1 h3=>?_) ?_) ?_
 have g1:=bK (vj p0.iy p1.iy _ h3)
 all_goals (rintro⟨⟩;intros;simp (maxSteps:=4000000) only [*,rGSnap,qhJ,XI,qhH,↓RP,RB,RC,Nat.reduceBEq,List.map,Nat.reduceAdd,ty3,ty4,sm,tZ,↓aa _ _ _ _ 1])
theorem Km (C:aj) (vj:vz C) (p0:i4) (p1:i4) (r:Bool) (hF:qX p0 p1=some r):cR TT C.wide (evW TT C.wide n38 b38) n38 Tryz.f38.results.toList (aU Tryz.f38) [.agg (cGSnap p0),.agg (cGSnap p1)] []=some (.v (.b r),[]):=by
 revert hF
 unfold qX
 refine az fun x1 h1=>?_
 have g1:=Cm C vj p0 p1 _ rfl _ h1
 all_goals (rintro⟨⟩;rw [bk];show cC _ _ _ (aH _ _ _ _ (Code.seq _ _) _)=_;simp (maxSteps:=4000000) only [*,cGSnap,qk1,qhJ,XI,qjg,↓RP,RB,RC,Nat.reduceBEq,bP,List.map,Nat.reduceAdd,↓ao,ty4,tZ,↓aa _ _ _ _ 0,↓bg _ _ _ _ 1])
def Vw:List (Nat×List Nat):=[(0,[0,1]),(1,[0,1,10]),(2,[4]),(3,[0,1,5]),(4,[0,1,5,14]),(5,[0,1,5]),(6,[0,1,5,25]),(7,[4]),(8,[4])]
def Xe:List (Nat×List Nat×List Nat):=[(10,[],[0,1]),(14,[0,1,5],[]),(25,[],[0,1,5])]
def n80:cL where
 keep:=ax Vw
 ro:=fun _=>false
 mv:=fun _=>false
 give:=fun _=>false
 free:=fun i=>match i with|6=>[(0,1),(0,4),(1,4),(2,4),(3,4),(0,5),(1,5),(2,5),(3,5),(4,5),(0,6),(1,6),(2,6),(3,6),(0,7),(1,7),(2,7),(3,7)]|_=>[]
 alive:=av Xe
theorem qhL (t:Nat) (x:Bool) (e:Env) (S:bH):cK n80 t x ⟨e,S⟩=atO (av Xe t x) e S:=cF rfl t x e S
theorem qg2 (i:Nat):n80.keep i=ax Vw i:=rfl
theorem qgG (t:Nat):n80.mv t=(false):=rfl
theorem qkX:n80.free 6= [(0,1),(0,4),(1,4),(2,4),(3,4),(0,5),(1,5),(2,5),(3,5),(4,5),(0,6),(1,6),(2,6),(3,6),(0,7),(1,7),(2,7),(3,7)]:=rfl
theorem qhY:Tryz.f80.results.toList= [.tmp 4]:=rfl
def b80:Code:=aU Tryz.f80
def qjm:Code:=(bE 0 (aU Tryz.f80)).getD .skip
theorem qee:bE 0 b80=some qjm:=rfl
def oX (p0:List iE) (p1:List iE) (s:Int):St:=⟨[(0,.v (.sl 10 (ah iE.row p0))),(1,.v (.sl 10 (ah iE.row p1))),(5,.I s)],[]⟩
def rC (p0:List iE) (p1:List iE) (r:Unit⊕Unit):Option (Ex×St):=match r with
 | .inl r=>some (.ret,⟨[(4,.v (.b false))],[]⟩)
 | .inr r=>some (.normal,⟨[],[]⟩)
theorem ya (C:aj)  (p0:List iE) (p1:List iE) (p2:Int) (o:Int⊕(Unit⊕Unit)) (hF:m3 p0 p1 p2=some o):evW TT C.wide n80 b80 0 (oX p0 p1 p2)=Sum.elim (fun s=>evW TT C.wide n80 b80 0 (oX p0 p1 s)) (fun r=>rC p0 p1 r) o:=by
 rw [cG TT n80 qee]
 revert hF
 unfold m3
 try dsimp only
 refine ip (fun h1=>az fun x1 h2=>?_) ?_
 have g1:decide (0<=p2)=true:=(cp h2).1
 have g2:(ah iE.row p0)[(p2:Int).toNat]? =some (rGItem x1):=cn _ h2
 refine az fun x2 h3=>?_
 have g3:(ah iE.row p1)[(p2:Int).toNat]? =some (rGItem x2):=cn _ h3
 refine ip (fun h4=>ip (fun h5=>ip (fun h6=>?_) ?_) ?_) ?_
 unfold rX
 refine ip (fun h7=>ip (fun h8=>ip (fun h9=>ip (fun h10=>ip (fun h11=>ip (fun h12=>iv (fun h13=>?_) ?_) ?_) ?_) ?_) ?_) ?_) ?_
 all_goals (rintro⟨⟩;intros;show cN _ _ _ (aH _ _ _ _ (Code.seq _ _) _)=_;simp (maxSteps:=4000000) only [*,rGItem,oX,rC,qhL,Xe,qg2,Vw,qkX,qgG,↓RP,RB,RC,↓ai,Nat.reduceBEq,List.map,Nat.reduceAdd,aG,↓ao,↓am,↓aa,↓aq,ty3,ty4,vq,vR])
theorem FX (C:aj)  (p0:List iE) (p1:List iE) (r:Bool) (hF:qU p0 p1=some r):cR TT C.wide (evW TT C.wide n80 b80) n80 Tryz.f80.results.toList (aU Tryz.f80) [.v (.sl 10 (ah iE.row p0)),.v (.sl 10 (ah iE.row p1))] []=some (.v (.b r),[]):=by
 revert hF
 unfold qU
 refine ip (fun h1=>az ?_) ?_
 rintro (_|_) h2
 focus
  dsimp only
  have g1:=cH _ _ (ya C p0 p1) h2
  try simp only [oX,rC] at g1
 rotate_left 1
 dsimp only
 have g2:=cH _ _ (ya C p0 p1) h2
 try simp only [oX,rC] at g2
 all_goals (rintro⟨⟩;intros;rw [bk];show cC _ _ _ (aH _ _ _ _ (Code.seq _ _) _)=_;simp (maxSteps:=4000000) only [*,qhY,qhL,Xe,qg2,Vw,↓RP,RB,RC,Nat.reduceBEq,List.map,Nat.reduceAdd,bne,↓ao,↓am,↓aa,ty3,ty4,vq])
def VY:List (Nat×List Nat):=[(0,[2,3]),(1,[4])]
def n39:cL where
 keep:=ax VY
 ro:=fun t=>t==2||t==3
 mv:=fun _=>false
 give:=fun _=>false
 free:=fun _=>[]
theorem qgi (i:Nat):n39.keep i=ax VY i:=rfl
theorem qfY (t:Nat):n39.ro t=(t==2||t==3):=rfl
theorem qht (t:Nat):n39.mv t=(false):=rfl
theorem qgc:Tryz.f39.results.toList= [.tmp 4]:=rfl
def b39:Code:=aU Tryz.f39
theorem Dp (C:aj) (w6:w7 C) (p0:iP) (p1:iP) (c:Code) (ho:cD 0 1 b39=some c) (r:Bool) (hF:sF p0 p1=some r): @cV TT C.wide (evW TT C.wide n39 b39) n39 0 1 ⟨[(2,.rp (rGLog p0)),(3,.rp (rGLog p1))],[]⟩ ⟨c⟩=some (.normal,⟨[(4,.v (.b r))],[]⟩):=by
 have e:=Option.some.inj (ho.symm.trans (rfl:cD 0 1 b39=some _))
 subst e
 clear ho
 show aH _ _ _ _ _ _=_
 revert hF
 unfold sF
 refine ip (fun h1=>ip (fun h2=>az fun x1 h3=>?_) ?_) ?_
 have g1:=bK (w6 p0.af p1.af _ h3)
 all_goals (rintro⟨⟩;intros;simp (maxSteps:=4000000) only [*,rGLog,qgi,VY,qht,↓RP,RB,RC,Nat.reduceBEq,List.map,ty3,ty4,vq,sj,↓aa _ _ _ _ 1])
theorem LI (C:aj) (w6:w7 C) (p0:iP) (p1:iP) (r:Bool) (hF:uK p0 p1=some r):cR TT C.wide (evW TT C.wide n39 b39) n39 Tryz.f39.results.toList (aU Tryz.f39) [.agg (cGLog p0),.agg (cGLog p1)] []=some (.v (.b r),[]):=by
 revert hF
 unfold uK
 refine az fun x1 h1=>?_
 have g1:=Dp C w6 p0 p1 _ rfl _ h1
 all_goals (rintro⟨⟩;rw [bk];show cC _ _ _ (aH _ _ _ _ (Code.seq _ _) _)=_;simp (maxSteps:=4000000) only [*,cGLog,qgc,qgi,VY,qfY,↓RP,RB,RC,Nat.reduceBEq,bP,List.map,Nat.reduceAdd,↓ao,ty4,sj,↓aa _ _ _ _ 0,↓bg _ _ _ _ 1])
def VL:List (Nat×List Nat):=[(0,[2,3]),(1,[4])]
def n13:cL where
 keep:=ax VL
 ro:=fun t=>t==2||t==3
 mv:=fun _=>false
 give:=fun _=>false
 free:=fun _=>[]
theorem qgB (i:Nat):n13.keep i=ax VL i:=rfl
theorem qiH (t:Nat):n13.ro t=(t==2||t==3):=rfl
theorem qhc (t:Nat):n13.mv t=(false):=rfl
theorem qgg:Tryz.f13.results.toList= [.tmp 4]:=rfl
def b13:Code:=aU Tryz.f13
theorem CE (C:aj) (pH:pu C) (zE:zd C) (p0:iL) (p1:iL) (c:Code) (ho:cD 0 1 b13=some c) (r:Bool) (hF:rH p0 p1=some r): @cV TT C.wide (evW TT C.wide n13 b13) n13 0 1 ⟨[(2,.rp (rGDisk p0)),(3,.rp (rGDisk p1))],[]⟩ ⟨c⟩=some (.normal,⟨[(4,.v (.b r))],[]⟩):=by
 have e:=Option.some.inj (ho.symm.trans (rfl:cD 0 1 b13=some _))
 subst e
 clear ho
 show aH _ _ _ _ _ _=_
 revert hF
 unfold rH
 refine ip (fun h1=>ip (fun h2=>az fun x1 h3=>?_) ?_) ?_
 have g1:=bK (pH p0.iG p1.iG _ h3)
 refine ip (fun h4=>az fun x2 h5=>?_) ?_
 have g2:=bK (zE p0.jh p1.jh _ h5)
 all_goals (rintro⟨⟩;intros;simp (maxSteps:=4000000) only [*,rGDisk,qgB,VL,qhc,↓RP,RB,RC,Nat.reduceBEq,List.map,Nat.reduceAdd,ty3,ty4,tZ,sj,An,↓aa _ _ _ _ 1])
theorem KJ (C:aj) (pH:pu C) (zE:zd C) (p0:iL) (p1:iL) (r:Bool) (hF:sN p0 p1=some r):cR TT C.wide (evW TT C.wide n13 b13) n13 Tryz.f13.results.toList (aU Tryz.f13) [.agg (cGDisk p0),.agg (cGDisk p1)] []=some (.v (.b r),[]):=by
 revert hF
 unfold sN
 refine az fun x1 h1=>?_
 have g1:=CE C pH zE p0 p1 _ rfl _ h1
 all_goals (rintro⟨⟩;rw [bk];show cC _ _ _ (aH _ _ _ _ (Code.seq _ _) _)=_;simp (maxSteps:=4000000) only [*,cGDisk,qgg,qgB,VL,qiH,↓RP,RB,RC,Nat.reduceBEq,bP,List.map,Nat.reduceAdd,↓ao,ty4,An,↓aa _ _ _ _ 0,↓bg _ _ _ _ 1])
def Va:List (Nat×List Nat):=[(0,[2,3]),(1,[4])]
def n22:cL where
 keep:=ax Va
 ro:=fun t=>t==2||t==3
 mv:=fun _=>false
 give:=fun _=>false
 free:=fun _=>[]
theorem qiC (i:Nat):n22.keep i=ax Va i:=rfl
theorem qiK (t:Nat):n22.ro t=(t==2||t==3):=rfl
theorem qiX (t:Nat):n22.mv t=(false):=rfl
theorem qjA:Tryz.f22.results.toList= [.tmp 4]:=rfl
def b22:Code:=aU Tryz.f22
theorem AL (C:aj) (pH:pu C) (p0:bi) (p1:bi) (c:Code) (ho:cD 0 1 b22=some c) (r:Bool) (hF:pA p0 p1=some r): @cV TT C.wide (evW TT C.wide n22 b22) n22 0 1 ⟨[(2,.rp (rGRecord p0)),(3,.rp (rGRecord p1))],[]⟩ ⟨c⟩=some (.normal,⟨[(4,.v (.b r))],[]⟩):=by
 have e:=Option.some.inj (ho.symm.trans (rfl:cD 0 1 b22=some _))
 subst e
 clear ho
 show aH _ _ _ _ _ _=_
 revert hF
 unfold pA
 refine ip (fun h1=>?_) ?_
 unfold qu
 refine ip (fun h2=>ip (fun h3=>ip (fun h4=>ip (fun h5=>ip (fun h6=>ip (fun h7=>ip (fun h8=>?_) ?_) ?_) ?_) ?_) ?_) ?_) ?_
 unfold qw
 refine ip (fun h9=>ip (fun h10=>ip (fun h11=>ip (fun h12=>ip (fun h13=>ip (fun h14=>az fun x1 h15=>?_) ?_) ?_) ?_) ?_) ?_) ?_
 have g1:=bK (pH p0.iG p1.iG _ h15)
 all_goals (rintro⟨⟩;intros;simp (maxSteps:=4000000) only [*,rGRecord,qiC,Va,qiX,↓RP,RB,RC,Nat.reduceBEq,List.map,Nat.reduceAdd,aG,ty3,ty4,tZ,vR,y9,↓aa _ _ _ _ 1])
theorem FE (C:aj) (pH:pu C) (p0:bi) (p1:bi) (r:Bool) (hF:pB p0 p1=some r):cR TT C.wide (evW TT C.wide n22 b22) n22 Tryz.f22.results.toList (aU Tryz.f22) [.agg (cGRecord p0),.agg (cGRecord p1)] []=some (.v (.b r),[]):=by
 revert hF
 unfold pB
 refine az fun x1 h1=>?_
 have g1:=AL C pH p0 p1 _ rfl _ h1
 all_goals (rintro⟨⟩;rw [bk];show cC _ _ _ (aH _ _ _ _ (Code.seq _ _) _)=_;simp (maxSteps:=4000000) only [*,cGRecord,qjA,qiC,Va,qiK,↓RP,RB,RC,Nat.reduceBEq,bP,List.map,Nat.reduceAdd,↓ao,ty4,y9,↓aa _ _ _ _ 0,↓bg _ _ _ _ 1])
end Go.Proofs.YtgcglmoogaldbaaGreat
