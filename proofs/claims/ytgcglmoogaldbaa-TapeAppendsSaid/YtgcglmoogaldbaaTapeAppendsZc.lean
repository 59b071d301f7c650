/- The code of these functions, run by the machine Mx, gives what the plain functions say, if their callees do (part 3). -/
import Derived.Test.YtgcglmoogaldbaaWTy
import Derived.Test.YtgcglmoogaldbaaTapeAppendsD
set_option linter.unusedSimpArgs false
set_option linter.unusedVariables false
set_option linter.constructorNameAsVariable false
set_option linter.unnecessarySimpa false
set_option maxRecDepth 100000
set_option maxHeartbeats 40000000
noncomputable section
namespace Go.Proofs.Ytgcglmoogaldbaa
open Go Go.Mx Go.Proofs
def zu:List (Nat×List Nat):=[(0,[1]),(1,[1,14]),(2,[2]),(3,[1,3]),(4,[1,72]),(5,[2]),(6,[1,87]),(7,[2]),(8,[1,4]),(9,[1,4,92]),(10,[1,4]),(11,[1,4,101]),(12,[2]),(13,[1,5]),(14,[1,5,106]),(15,[1,5]),(16,[1,5,126]),(17,[2]),(18,[1,6]),(19,[1,6,131]),(20,[1,6]),(21,[1,6,141]),(22,[2]),(23,[1,145]),(24,[2]),(25,[1,7]),(26,[1,7,150]),(27,[1,7]),(28,[1,7,160]),(29,[2]),(30,[1,8]),(31,[1,8,165]),(32,[1,8]),(33,[1,8,181]),(34,[2]),(35,[1,9]),(36,[1,9,191]),(37,[1,9]),(38,[1,9,205]),(39,[2]),(40,[1,10]),(41,[1,10,210]),(42,[1,10]),(43,[1,10,239]),(44,[2]),(45,[2])]
def BV:List (Nat×List Nat×List Nat):=[(14,[],[1]),(72,[],[1]),(87,[],[1]),(92,[1,4],[1]),(101,[],[1,4]),(106,[1,5],[1]),(126,[],[1,5]),(131,[1,6],[1]),(141,[],[1,6]),(145,[],[1]),(150,[1,7],[1]),(160,[],[1,7]),(165,[1,8],[1]),(181,[],[1,8]),(191,[1,9],[1]),(205,[],[1,9]),(210,[1,10],[]),(239,[],[1,10])]
def n94:cL where
 keep:=ax zu
 ro:=fun t=>t==1
 mv:=fun _=>false
 give:=fun _=>false
 free:=fun i=>match i with|33=>[(0,2),(1,2),(0,3),(1,3),(0,7),(1,7),(2,7),(3,7),(4,7),(5,7),(6,7),(0,8),(1,8),(2,8),(3,8),(4,8),(5,8),(6,8),(0,9),(1,9),(2,9),(3,9),(4,9),(5,9),(6,9),(7,9),(8,9),(0,10),(1,10),(2,10),(3,10),(4,10),(5,10),(6,10),(0,11),(1,11),(2,11),(3,11),(4,11),(5,11),(6,11),(0,12),(1,12),(2,12),(3,12),(4,12),(5,12),(6,12)]|38=>[(0,2),(1,2),(0,3),(1,3),(0,6),(1,6),(2,6),(3,6),(4,6),(5,6),(0,7),(1,7),(2,7),(3,7),(4,7),(5,7),(0,8),(1,8),(2,8),(3,8),(4,8),(5,8),(6,8),(7,8),(0,9),(1,9),(2,9),(3,9),(4,9),(5,9),(0,10),(1,10),(2,10),(3,10),(4,10),(5,10)]|43=>[(0,2),(1,2),(0,3),(1,3),(0,6),(1,6),(2,6),(3,6),(4,6),(5,6),(0,7),(1,7),(2,7),(3,7),(4,7),(5,7),(0,8),(1,8),(2,8),(3,8),(4,8),(5,8),(6,8),(7,8),(0,9),(1,9),(2,9),(3,9),(4,9),(5,9),(0,10),(1,10),(2,10),(3,10),(4,10),(5,10),(14,16),(15,16),(14,18),(15,18),(16,18),(17,18),(14,19),(15,19),(16,19),(17,19),(14,20),(15,20),(16,20),(17,20),(18,20),(19,20),(14,21),(15,21),(16,21),(17,21),(14,22),(15,22),(16,22),(17,22),(14,23),(15,23),(16,23),(17,23)]|_=>[]
 alive:=av BV
theorem H6 (t:Nat) (x:Bool) (e:Env) (S:bH):cK n94 t x ⟨e,S⟩=atO (av BV t x) e S:=cF rfl t x e S
theorem At (i:Nat):n94.keep i=ax zu i:=rfl
theorem qaJ (t:Nat):n94.ro t=(t==1):=rfl
theorem wu (t:Nat):n94.mv t=(false):=rfl
theorem Si:n94.free 33= [(0,2),(1,2),(0,3),(1,3),(0,7),(1,7),(2,7),(3,7),(4,7),(5,7),(6,7),(0,8),(1,8),(2,8),(3,8),(4,8),(5,8),(6,8),(0,9),(1,9),(2,9),(3,9),(4,9),(5,9),(6,9),(7,9),(8,9),(0,10),(1,10),(2,10),(3,10),(4,10),(5,10),(6,10),(0,11),(1,11),(2,11),(3,11),(4,11),(5,11),(6,11),(0,12),(1,12),(2,12),(3,12),(4,12),(5,12),(6,12)]:=rfl
theorem VR:n94.free 38= [(0,2),(1,2),(0,3),(1,3),(0,6),(1,6),(2,6),(3,6),(4,6),(5,6),(0,7),(1,7),(2,7),(3,7),(4,7),(5,7),(0,8),(1,8),(2,8),(3,8),(4,8),(5,8),(6,8),(7,8),(0,9),(1,9),(2,9),(3,9),(4,9),(5,9),(0,10),(1,10),(2,10),(3,10),(4,10),(5,10)]:=rfl
theorem XQ:n94.free 43= [(0,2),(1,2),(0,3),(1,3),(0,6),(1,6),(2,6),(3,6),(4,6),(5,6),(0,7),(1,7),(2,7),(3,7),(4,7),(5,7),(0,8),(1,8),(2,8),(3,8),(4,8),(5,8),(6,8),(7,8),(0,9),(1,9),(2,9),(3,9),(4,9),(5,9),(0,10),(1,10),(2,10),(3,10),(4,10),(5,10),(14,16),(15,16),(14,18),(15,18),(16,18),(17,18),(14,19),(15,19),(16,19),(17,19),(14,20),(15,20),(16,20),(17,20),(18,20),(19,20),(14,21),(15,21),(16,21),(17,21),(14,22),(15,22),(16,22),(17,22),(14,23),(15,23),(16,23),(17,23)]:=rfl
theorem qb7:Try.f94.results.toList= [.tmp 2]:=rfl
def b94:Code:=aU Try.f94
def qb1:Code:=(bE 0 (aU Try.f94)).getD .skip
theorem Su:bE 0 b94=some qb1:=rfl
def YG:Code:=(bE 2 (aU Try.f94)).getD .skip
theorem XG:bE 2 b94=some YG:=rfl
def qbf:Code:=(bE 4 (aU Try.f94)).getD .skip
theorem XB:bE 4 b94=some qbf:=rfl
def qcA:Code:=(bE 6 (aU Try.f94)).getD .skip
theorem VK:bE 6 b94=some qcA:=rfl
def qbg:Code:=(bE 8 (aU Try.f94)).getD .skip
theorem UQ:bE 8 b94=some qbg:=rfl
def Ut:Code:=(bE 10 (aU Try.f94)).getD .skip
theorem Qc:bE 10 b94=some Ut:=rfl
def SR:Code:=(bE 12 (aU Try.f94)).getD .skip
theorem Pc:bE 12 b94=some SR:=rfl
theorem xu (C:aj)  (p0:ad) (c:Code) (ho:cD 0 4 b94=some c) (r:Bool) (hF:lJ p0=r): @cV TT C.wide (evW TT C.wide n94 b94) n94 0 4 ⟨[(1,.rp (rGValue p0)),(3,.v (.b true))],[]⟩ ⟨c⟩=some (.normal,⟨[(1,.rp (rGValue p0)),(72,.v (.b r))],[]⟩):=by
 have e:=Option.some.inj (ho.symm.trans (rfl:cD 0 4 b94=some _))
 subst e
 clear ho
 show aH _ _ _ _ _ _=_
 revert hF
 unfold lJ
 refine aX (fun h1=>?_) (fun h1=>?_)
 focus
  refine aX (fun h2=>?_) (fun h2=>?_)
  focus
   refine aX (fun h3=>?_) (fun h3=>?_)
   focus
    refine iq (fun h4=>?_) ?_
   rotate_left 2
   refine iq (fun h4=>iq (fun h5=>?_) ?_) ?_
  rotate_left 5
  unfold nT
  refine ip (fun h3=>aX (fun h4=>?_) (fun h4=>?_)) ?_
  focus
   refine iq (fun h5=>?_) ?_
  rotate_left 2
  refine iq (fun h5=>iq (fun h6=>?_) ?_) ?_
 rotate_left 11
 unfold nY
 refine ip (fun h2=>aX (fun h3=>?_) (fun h3=>?_)) ?_
 focus
  refine aX (fun h4=>?_) (fun h4=>?_)
  focus
   refine iq (fun h5=>?_) ?_
  rotate_left 2
  refine iq (fun h5=>iq (fun h6=>?_) ?_) ?_
 rotate_left 5
 unfold nU
 refine ip (fun h4=>aX (fun h5=>?_) (fun h5=>?_)) ?_
 focus
  refine iq (fun h6=>?_) ?_
 rotate_left 2
 refine iq (fun h6=>iq (fun h7=>?_) ?_) ?_
 all_goals (rintro rfl;intros;simp (maxSteps:=4000000) only [*,rGValue,At,zu,wu,↓RP,RB,RC,Nat.reduceBEq,List.map,bne,ty3,ty9,wb,sY,pK,↓aa _ _ _ _ 4])
theorem tM (C:aj) (vp:vF C) (jD:kS C) (iL:kM C) (p0:ad) (c:Code) (ho:cD 0 6 b94=some c) (r:Bool) (hF:jV p0=r): @cV TT C.wide (evW TT C.wide n94 b94) n94 0 6 ⟨[(1,.rp (rGValue p0))],[]⟩ ⟨c⟩=some (.normal,⟨[(1,.rp (rGValue p0)),(87,.v (.b r))],[]⟩):=by
 have e:=Option.some.inj (ho.symm.trans (rfl:cD 0 6 b94=some _))
 subst e
 clear ho
 show aH _ _ _ _ _ _=_
 revert hF
 unfold jV
 refine bF (fun h1=>?_) (fun h1=>?_)
 focus
  have g1:=bK (iL p0.gi _ (lO p0.gi))
 rotate_left 1
 have g2:=bK (vp p0 _ (Iz p0))
 have g3:=bK (jD (mK p0) 1 20 _ (nQ (mK p0) 1 20))
 have g4:i9 (mK p0) 1 20=(decide (1<=(mK p0))&&decide ((mK p0)<=20)):=by first|rfl|(simp [i9];done)|(simp only [i9];decide)
 refine ip (fun h2=>aX (fun h3=>?_) (fun h3=>?_)) ?_
 focus
  have g1:=bK (iL p0.gi _ (lO p0.gi))
 rotate_left 1
 all_goals (rintro rfl;intros;simp (maxSteps:=4000000) only [*,rGValue,At,zu,wu,↓RP,RB,RC,Nat.reduceBEq,List.map,Nat.reduceAdd,jA,ty3,ty9,pK,↓aa _ _ _ _ 6])
def lb (p0:ad) (s:Int):St:=⟨[(1,.rp (rGValue p0)),(4,.I s)],[]⟩
def lX (p0:ad) (r:Unit⊕Unit):Option (Ex×St):=match r with
 | .inl r=>some (.ret,⟨[(2,.I 1)],[]⟩)
 | .inr r=>some (.normal,⟨[(1,.rp (rGValue p0))],[]⟩)
theorem pr (C:aj) (iL:kM C) (p0:ad) (p1:Int) (o:Int⊕(Unit⊕Unit)) (hF:kv p0 p1=some o):evW TT C.wide n94 b94 0 (lb p0 p1)=Sum.elim (fun s=>evW TT C.wide n94 b94 0 (lb p0 s)) (fun r=>lX p0 r) o:=by
 rw [cG TT n94 Su]
 revert hF
 unfold kv
 try dsimp only
 refine ip (fun h1=>az fun x1 h2=>?_) ?_
 have g1:decide (0<=p1)=true:=(cp h2).1
 have g2:(ah bY p0.iG)[(p1:Int).toNat]? =some [.s x1]:=cn _ h2
 have g3:=bK (iL x1 _ (lO x1))
 refine iq (fun h3=>?_) ?_
 all_goals (rintro⟨⟩;intros;show cN _ _ _ (aH _ _ _ _ (Code.seq _ _) _)=_;simp (maxSteps:=4000000) only [*,rGValue,lb,lX,H6,BV,At,zu,wu,↓RP,RB,RC,↓ai,Nat.reduceBEq,List.map,jA,↓ao,↓am,ty3,ty9,mR,rG,pK,↓aa _ _ _ _ 9,↓aa _ _ _ _ 11,↓aa _ _ _ _ 12,↓aa _ _ _ _ 10])
def kT (p0:ad) (s:Int):St:=⟨[(1,.rp (rGValue p0)),(5,.I s)],[]⟩
def lQ (p0:ad) (r:Unit⊕Unit):Option (Ex×St):=match r with
 | .inl r=>some (.ret,⟨[(2,.I 1)],[]⟩)
 | .inr r=>some (.normal,⟨[(1,.rp (rGValue p0))],[]⟩)
theorem pq (C:aj) (jC:kW C) (iL:kM C) (p0:ad) (p1:Int) (o:Int⊕(Unit⊕Unit)) (hF:kZ p0 p1=some o):evW TT C.wide n94 b94 2 (kT p0 p1)=Sum.elim (fun s=>evW TT C.wide n94 b94 2 (kT p0 s)) (fun r=>lQ p0 r) o:=by
 rw [cG TT n94 XG]
 revert hF
 unfold kZ
 try dsimp only
 refine ip (fun h1=>az fun x1 h2=>?_) ?_
 have g1:decide (0<=p1)=true:=(cp h2).1
 have g2:(ah iw.row p0.iD)[(p1:Int).toNat]? =some (rGPair x1):=cn _ h2
 have g3:=bK (jC x1.iv _ (rk x1.iv))
 refine ip (fun h3=>?_) ?_
 have g4:=bK (iL x1.gi _ (lO x1.gi))
 refine iq (fun h4=>?_) ?_
 all_goals (rintro⟨⟩;intros;show cN _ _ _ (aH _ _ _ _ (Code.seq _ _) _)=_;simp (maxSteps:=4000000) only [*,rGPair,rGValue,kT,lQ,H6,BV,At,zu,wu,↓RP,RB,RC,↓ai,Nat.reduceBEq,List.map,jA,↓ao,↓am,ty3,ty9,mR,wb,pK,xP,↓aa _ _ _ _ 14,↓aa _ _ _ _ 16,↓aa _ _ _ _ 17,↓aa _ _ _ _ 15])
def kY (p0:ad) (s:Int):St:=⟨[(1,.rp (rGValue p0)),(6,.I s)],[]⟩
def mc (p0:ad) (r:Unit⊕Unit):Option (Ex×St):=match r with
 | .inl r=>some (.ret,⟨[(2,.I 1)],[]⟩)
 | .inr r=>some (.normal,⟨[(1,.rp (rGValue p0))],[]⟩)
theorem pp (C:aj) (iL:kM C) (p0:ad) (p1:Int) (o:Int⊕(Unit⊕Unit)) (hF:lh p0 p1=some o):evW TT C.wide n94 b94 4 (kY p0 p1)=Sum.elim (fun s=>evW TT C.wide n94 b94 4 (kY p0 s)) (fun r=>mc p0 r) o:=by
 rw [cG TT n94 XB]
 revert hF
 unfold lh
 try dsimp only
 refine ip (fun h1=>az fun x1 h2=>?_) ?_
 have g1:decide (0<=p1)=true:=(cp h2).1
 have g2:(ah ae.row p0.cO)[(p1:Int).toNat]? =some (rGScore x1):=cn _ h2
 have g3:=bK (iL x1.iU _ (lO x1.iU))
 refine iq (fun h3=>?_) ?_
 all_goals (rintro⟨⟩;intros;show cN _ _ _ (aH _ _ _ _ (Code.seq _ _) _)=_;simp (maxSteps:=4000000) only [*,rGScore,rGValue,kY,mc,H6,BV,At,zu,wu,↓RP,RB,RC,↓ai,Nat.reduceBEq,List.map,jA,↓ao,↓am,ty3,ty9,mR,sY,pK,sQ,↓aa _ _ _ _ 19,↓aa _ _ _ _ 21,↓aa _ _ _ _ 22,↓aa _ _ _ _ 20])
def li (p0:ad) (s:Int):St:=⟨[(1,.rp (rGValue p0)),(7,.I s)],[]⟩
def lR (p0:ad) (r:Unit⊕Unit):Option (Ex×St):=match r with
 | .inl r=>some (.ret,⟨[(2,.I 2)],[]⟩)
 | .inr r=>some (.normal,⟨[(1,.rp (rGValue p0))],[]⟩)
theorem pt (C:aj) (kA:nl C) (p0:ad) (p1:Int) (o:Int⊕(Unit⊕Unit)) (hF:kV p0 p1=some o):evW TT C.wide n94 b94 6 (li p0 p1)=Sum.elim (fun s=>evW TT C.wide n94 b94 6 (li p0 s)) (fun r=>lR p0 r) o:=by
 rw [cG TT n94 VK]
 revert hF
 unfold kV
 try dsimp only
 refine ip (fun h1=>az fun x1 h2=>?_) ?_
 have g1:decide (0<=p1)=true:=(cp h2).1
 have g2:(ah ae.row p0.cO)[(p1:Int).toNat]? =some (rGScore x1):=cn _ h2
 have g3:=bK (kA x1.fN _ (rn x1.fN))
 refine iq (fun h3=>?_) ?_
 all_goals (rintro⟨⟩;intros;show cN _ _ _ (aH _ _ _ _ (Code.seq _ _) _)=_;simp (maxSteps:=4000000) only [*,rGScore,rGValue,li,lR,H6,BV,At,zu,wu,↓RP,RB,RC,↓ai,Nat.reduceBEq,List.map,jA,↓ao,↓am,ty3,mR,sY,pK,sQ,↓aa _ _ _ _ 26,↓aa _ _ _ _ 28,↓aa _ _ _ _ 29,↓aa _ _ _ _ 27])
def la (p0:ad) (s:Int):St:=⟨[(1,.rp (rGValue p0)),(8,.I s)],[]⟩
def l4 (p0:ad) (r:Unit⊕Unit):Option (Ex×St):=match r with
 | .inl r=>some (.ret,⟨[(2,.I 10)],[]⟩)
 | .inr r=>some (.normal,⟨[(1,.rp (rGValue p0))],[]⟩)
theorem pk (C:aj)  (p0:ad) (p1:Int) (o:Int⊕(Unit⊕Unit)) (hF:ll p0 p1=some o):evW TT C.wide n94 b94 8 (la p0 p1)=Sum.elim (fun s=>evW TT C.wide n94 b94 8 (la p0 s)) (fun r=>l4 p0 r) o:=by
 rw [cG TT n94 UQ]
 revert hF
 unfold ll
 try dsimp only
 refine ip (fun h1=>az fun x1 h2=>?_) ?_
 have g1:decide (0<=(IntKind.i64.wrap (p1-1)))=true:=(cp h2).1
 have g2:(ah iw.row p0.iD)[((IntKind.i64.wrap (p1-1)):Int).toNat]? =some (rGPair x1):=cn _ h2
 refine az fun x2 h3=>?_
 have g3:decide (0<=p1)=true:=(cp h3).1
 have g4:(ah iw.row p0.iD)[(p1:Int).toNat]? =some (rGPair x2):=cn _ h3
 refine iq (fun h4=>?_) ?_
 all_goals (rintro⟨⟩;intros;show cN _ _ _ (aH _ _ _ _ (Code.seq _ _) _)=_;simp (maxSteps:=4000000) only [*,rGPair,rGValue,la,l4,H6,BV,At,zu,Si,wu,↓RP,RB,RC,↓ai,Nat.reduceBEq,List.map,↓ao,↓am,ty3,ty9,mR,wb,pK,xP,↓aa _ _ _ _ 31,↓aq _ _ _ _ 33,↓aa _ _ _ _ 34,↓aa _ _ _ _ 32])
def kI (p0:ad) (s:Int):St:=⟨[(1,.rp (rGValue p0)),(9,.I s)],[]⟩
def lF (p0:ad) (r:Unit⊕Unit):Option (Ex×St):=match r with
 | .inl r=>some (.ret,⟨[(2,.I 10)],[]⟩)
 | .inr r=>some (.normal,⟨[(1,.rp (rGValue p0))],[]⟩)
theorem oj (C:aj)  (p0:ad) (p1:Int) (o:Int⊕(Unit⊕Unit)) (hF:jN p0 p1=some o):evW TT C.wide n94 b94 10 (kI p0 p1)=Sum.elim (fun s=>evW TT C.wide n94 b94 10 (kI p0 s)) (fun r=>lF p0 r) o:=by
 rw [cG TT n94 Qc]
 revert hF
 unfold jN
 try dsimp only
 refine ip (fun h1=>ip (fun h2=>az fun x1 h3=>?_) ?_) ?_
 have g1:decide (0<=(IntKind.i64.wrap (p1-1)))=true:=(cp h3).1
 have g2:(ah bY p0.iG)[((IntKind.i64.wrap (p1-1)):Int).toNat]? =some [.s x1]:=cn _ h3
 refine az fun x2 h4=>?_
 have g3:decide (0<=p1)=true:=(cp h4).1
 have g4:(ah bY p0.iG)[(p1:Int).toNat]? =some [.s x2]:=cn _ h4
 refine iq (fun h5=>?_) ?_
 all_goals (rintro⟨⟩;intros;show cN _ _ _ (aH _ _ _ _ (Code.seq _ _) _)=_;simp (maxSteps:=4000000) only [*,rGValue,kI,lF,H6,BV,At,zu,VR,wu,↓RP,RB,RC,↓ai,Nat.reduceBEq,List.map,↓ao,↓am,ty3,ty9,mR,rG,pK,↓aa _ _ _ _ 36,↓aq _ _ _ _ 38,↓aa _ _ _ _ 39,↓aa _ _ _ _ 37])
def kJ (p0:ad) (s:Int):St:=⟨[(1,.rp (rGValue p0)),(10,.I s)],[]⟩
def lE (p0:ad) (r:Unit⊕Unit):Option (Ex×St):=match r with
 | .inl r=>some (.ret,⟨[(2,.I 10)],[]⟩)
 | .inr r=>some (.normal,⟨[],[]⟩)
theorem oC (C:aj) (nW:rm C) (qc:vu C) (p0:ad) (p1:Int) (o:Int⊕(Unit⊕Unit)) (hF:kK p0 p1=some o):evW TT C.wide n94 b94 12 (kJ p0 p1)=Sum.elim (fun s=>evW TT C.wide n94 b94 12 (kJ p0 s)) (fun r=>lE p0 r) o:=by
 rw [cG TT n94 Pc]
 revert hF
 unfold kK
 try dsimp only
 refine ip (fun h1=>az fun x1 h2=>?_) ?_
 have g1:decide (0<=(IntKind.i64.wrap (p1-1)))=true:=(cp h2).1
 have g2:(ah ae.row p0.cO)[((IntKind.i64.wrap (p1-1)):Int).toNat]? =some (rGScore x1):=cn _ h2
 refine az fun x2 h3=>?_
 have g3:decide (0<=p1)=true:=(cp h3).1
 have g4:(ah ae.row p0.cO)[(p1:Int).toNat]? =some (rGScore x2):=cn _ h3
 have g5:=bK (nW x1 x2 _ (Ay x1 x2))
 refine ip (fun h4=>mt fun h5=>az fun x3 h6=>?_) ?_
 have g6:=bK (qc (dm p0.cO 0 p1) x2.iU _ h6)
 refine iq (fun h7=>?_) ?_
 all_goals (rintro⟨⟩;intros;show cN _ _ _ (aH _ _ _ _ (Code.seq _ _) _)=_;simp (maxSteps:=4000000) only [*,rGScore,rGValue,kJ,lE,H6,BV,At,zu,XQ,wu,↓RP,RB,RC,↓ai,Nat.reduceBEq,List.map,Nat.reduceAdd,jA,↓ao,↓am,ty3,ty9,mR,sY,pK,sQ,↓aa _ _ _ _ 41,↓aq _ _ _ _ 43,↓aa _ _ _ _ 44,↓aa _ _ _ _ 42])
theorem wq (C:aj)  (p0:ad) (p1:Bool) (c:Code) (ho:cD 0 4 b94=some c) (r:Bool) (hF:kX p0 p1=r): @cV TT C.wide (evW TT C.wide n94 b94) n94 0 4 ⟨[(1,.rp (rGValue p0)),(3,.v (.b p1))],[]⟩ ⟨c⟩=some (.normal,⟨[(1,.rp (rGValue p0)),(72,.v (.b r))],[]⟩):=by
 have e:=Option.some.inj (ho.symm.trans (rfl:cD 0 4 b94=some _))
 subst e
 clear ho
 show aH _ _ _ _ _ _=_
 revert hF
 unfold kX
 refine aX (fun h1=>?_) (fun h1=>?_)
 focus
  refine aX (fun h2=>?_) (fun h2=>?_)
  focus
   refine aX (fun h3=>?_) (fun h3=>?_)
   focus
    refine aX (fun h4=>?_) (fun h4=>?_)
    focus
     refine iq (fun h5=>?_) ?_
    rotate_left 2
    refine iq (fun h5=>iq (fun h6=>?_) ?_) ?_
   rotate_left 5
   unfold mV
   refine iq (fun h4=>aX (fun h5=>?_) (fun h5=>?_)) ?_
   focus
    refine iq (fun h6=>?_) ?_
   rotate_left 2
   refine iq (fun h6=>iq (fun h7=>?_) ?_) ?_
  rotate_left 11
  unfold m3
  refine ip (fun h3=>aX (fun h4=>?_) (fun h4=>?_)) ?_
  focus
   refine aX (fun h5=>?_) (fun h5=>?_)
   focus
    refine iq (fun h6=>?_) ?_
   rotate_left 2
   refine iq (fun h6=>iq (fun h7=>?_) ?_) ?_
  rotate_left 5
  unfold m4
  refine iq (fun h5=>aX (fun h6=>?_) (fun h6=>?_)) ?_
  focus
   refine iq (fun h7=>?_) ?_
  rotate_left 2
  refine iq (fun h7=>iq (fun h8=>?_) ?_) ?_
 rotate_left 23
 unfold mZ
 refine ip (fun h2=>aX (fun h3=>?_) (fun h3=>?_)) ?_
 focus
  refine aX (fun h4=>?_) (fun h4=>?_)
  focus
   refine aX (fun h5=>?_) (fun h5=>?_)
   focus
    refine iq (fun h6=>?_) ?_
   rotate_left 2
   refine iq (fun h6=>iq (fun h7=>?_) ?_) ?_
  rotate_left 5
  unfold mY
  refine iq (fun h5=>aX (fun h6=>?_) (fun h6=>?_)) ?_
  focus
   refine iq (fun h7=>?_) ?_
  rotate_left 2
  refine iq (fun h7=>iq (fun h8=>?_) ?_) ?_
 rotate_left 11
 unfold m5
 refine ip (fun h4=>aX (fun h5=>?_) (fun h5=>?_)) ?_
 focus
  refine aX (fun h6=>?_) (fun h6=>?_)
  focus
   refine iq (fun h7=>?_) ?_
  rotate_left 2
  refine iq (fun h7=>iq (fun h8=>?_) ?_) ?_
 rotate_left 5
 unfold mU
 refine iq (fun h6=>aX (fun h7=>?_) (fun h7=>?_)) ?_
 focus
  refine iq (fun h8=>?_) ?_
 rotate_left 2
 refine iq (fun h8=>iq (fun h9=>?_) ?_) ?_
 all_goals (rintro rfl;intros;simp (maxSteps:=4000000) only [*,rGValue,At,zu,wu,↓RP,RB,RC,Nat.reduceBEq,List.map,bne,ty3,ty9,wb,rG,sY,pK,↓aa _ _ _ _ 4])
theorem Bv (C:aj) (jD:kS C) (vp:vF C) (iL:kM C) (kA:nl C) (jC:kW C) (nW:rm C) (qc:vu C) (p0:ad) (r:Int) (hF:ou p0=some r):cR TT C.wide (evW TT C.wide n94 b94) n94 Try.f94.results.toList (aU Try.f94) [.agg (cGValue p0)] []=some (.I r,[]):=by
 revert hF
 unfold ou
 have g1:=bK (jD p0.af 1 6 _ (nQ p0.af 1 6))
 have g2:i9 p0.af 1 6=(decide (1<=p0.af)&&decide (p0.af<=6)):=by first|rfl|(simp [i9];done)|(simp only [i9];decide)
 refine ip (fun h1=>ip (fun h2=>aX (fun h3=>?_) (fun h3=>?_)) ?_) ?_
 focus
  unfold sn
  have g3:=xu C p0 _ rfl (lJ p0) rfl
  refine iq (fun h4=>?_) ?_
  have g4:=tM C vp jD iL p0 _ rfl (jV p0) rfl
  refine iq (fun h5=>az ?_) ?_
  rintro (_|_) h6
  focus
   dsimp only
   have g5:=cH _ _ (pr C iL p0) h6
   try simp only [lb,lX] at g5
  rotate_left 1
  dsimp only
  unfold oO
  have g6:=cH _ _ (pr C iL p0) h6
  try simp only [lb,lX] at g6
  refine az ?_
  rintro (_|_) h7
  focus
   dsimp only
   have g7:=cH _ _ (pq C jC iL p0) h7
   try simp only [kT,lQ] at g7
  rotate_left 1
  dsimp only
  unfold tn
  have g8:=cH _ _ (pq C jC iL p0) h7
  try simp only [kT,lQ] at g8
  refine az ?_
  rintro (_|_) h8
  focus
   dsimp only
   have g9:=cH _ _ (pp C iL p0) h8
   try simp only [kY,mc] at g9
  rotate_left 1
  dsimp only
  unfold ti
  have g10:=cH _ _ (pp C iL p0) h8
  have g11:=bK (kA p0.i8 _ (rn p0.i8))
  try simp only [kY,mc] at g10
  refine ip (fun h9=>az ?_) ?_
  rintro (_|_) h10
  focus
   dsimp only
   have g12:=cH _ _ (pt C kA p0) h10
   try simp only [li,lR] at g12
  rotate_left 1
  dsimp only
  unfold ta
  have g13:=cH _ _ (pt C kA p0) h10
  try simp only [li,lR] at g13
  refine az ?_
  rintro (_|_) h11
  focus
   dsimp only
   have g14:=cH _ _ (pk C p0) h11
   try simp only [la,l4] at g14
  rotate_left 1
  dsimp only
  unfold tb
  have g15:=cH _ _ (pk C p0) h11
  try simp only [la,l4] at g15
  refine az ?_
  rintro (_|_) h12
  focus
   dsimp only
   have g16:=cH _ _ (oj C p0) h12
   try simp only [kI,lF] at g16
  rotate_left 1
  dsimp only
  unfold td
  have g17:=cH _ _ (oj C p0) h12
  try simp only [kI,lF] at g17
  refine az ?_
  rintro (_|_) h13
  focus
   dsimp only
   have g18:=cH _ _ (oC C nW qc p0) h13
   try simp only [kJ,lE] at g18
  rotate_left 1
  dsimp only
  have g19:=cH _ _ (oC C nW qc p0) h13
  try simp only [kJ,lE] at g19
 rotate_left 11
 have g20:=wq C p0 (p0.af==5) _ rfl (kX p0 (p0.af==5)) rfl
 refine iq (fun h4=>?_) ?_
 have g4:=tM C vp jD iL p0 _ rfl (jV p0) rfl
 refine iq (fun h5=>az ?_) ?_
 rintro (_|_) h6
 focus
  dsimp only
  have g5:=cH _ _ (pr C iL p0) h6
  try simp only [lb,lX] at g5
 rotate_left 1
 dsimp only
 unfold sa
 have g6:=cH _ _ (pr C iL p0) h6
 try simp only [lb,lX] at g6
 refine az ?_
 rintro (_|_) h7
 focus
  dsimp only
  have g7:=cH _ _ (pq C jC iL p0) h7
  try simp only [kT,lQ] at g7
 rotate_left 1
 dsimp only
 unfold uT
 have g8:=cH _ _ (pq C jC iL p0) h7
 try simp only [kT,lQ] at g8
 refine az ?_
 rintro (_|_) h8
 focus
  dsimp only
  have g9:=cH _ _ (pp C iL p0) h8
  try simp only [kY,mc] at g9
 rotate_left 1
 dsimp only
 unfold vN
 have g10:=cH _ _ (pp C iL p0) h8
 have g11:=bK (kA p0.i8 _ (rn p0.i8))
 try simp only [kY,mc] at g10
 refine ip (fun h9=>az ?_) ?_
 rintro (_|_) h10
 focus
  dsimp only
  have g12:=cH _ _ (pt C kA p0) h10
  try simp only [li,lR] at g12
 rotate_left 1
 dsimp only
 unfold vZ
 have g13:=cH _ _ (pt C kA p0) h10
 try simp only [li,lR] at g13
 refine az ?_
 rintro (_|_) h11
 focus
  dsimp only
  have g14:=cH _ _ (pk C p0) h11
  try simp only [la,l4] at g14
 rotate_left 1
 dsimp only
 unfold vU
 have g15:=cH _ _ (pk C p0) h11
 try simp only [la,l4] at g15
 refine az ?_
 rintro (_|_) h12
 focus
  dsimp only
  have g16:=cH _ _ (oj C p0) h12
  try simp only [kI,lF] at g16
 rotate_left 1
 dsimp only
 unfold vW
 have g17:=cH _ _ (oj C p0) h12
 try simp only [kI,lF] at g17
 refine az ?_
 rintro (_|_) h13
 focus
  dsimp only
  have g18:=cH _ _ (oC C nW qc p0) h13
  try simp only [kJ,lE] at g18
 rotate_left 1
 dsimp only
 have g19:=cH _ _ (oC C nW qc p0) h13
 try simp only [kJ,lE] at g19
 all_goals (rintro⟨⟩;intros;rw [bk];show cC _ _ _ (aH _ _ _ _ (Code.seq _ _) _)=_;simp (maxSteps:=4000000) only [*,cGValue,rGValue,qb7,H6,BV,At,zu,qaJ,wu,↓RP,RB,RC,Nat.reduceBEq,bP,List.map,jA,↓ao,↓am,ty3,ty4,mR,pK,↓aa _ _ _ _ 0,↓aa _ _ _ _ 1,↓aa _ _ _ _ 2,↓aa _ _ _ _ 3,↓bg _ _ _ _ 4,↓aa _ _ _ _ 5,↓bg _ _ _ _ 6,↓aa _ _ _ _ 7,↓aa _ _ _ _ 8,↓aa _ _ _ _ 13,↓aa _ _ _ _ 18,↓aa _ _ _ _ 23,↓aa _ _ _ _ 24,↓aa _ _ _ _ 25,↓aa _ _ _ _ 30,↓aa _ _ _ _ 35,↓aa _ _ _ _ 40,↓aa _ _ _ _ 45])
def Js:List (Nat×List Nat):=[(0,[1]),(1,[1,14]),(2,[2]),(3,[1,3]),(4,[1,3,19]),(5,[1,3]),(6,[1,3,4]),(7,[1,3,4,52]),(8,[2]),(9,[1,3,68]),(10,[2]),(11,[2])]
def OH:List (Nat×List Nat×List Nat):=[(14,[],[1]),(19,[1,3],[]),(52,[],[1,3,4]),(68,[],[1,3])]
def n73:cL where
 keep:=ax Js
 ro:=fun t=>t==1
 mv:=fun _=>false
 give:=fun _=>false
 free:=fun i=>match i with|7=>[(14,16),(15,16),(14,17),(15,17),(14,21),(15,21),(16,21),(17,21),(18,21),(19,21),(20,21),(14,22),(15,22),(16,22),(17,22),(18,22),(19,22),(20,22)]|_=>[]
 alive:=av OH
theorem qcn (t:Nat) (x:Bool) (e:Env) (S:bH):cK n73 t x ⟨e,S⟩=atO (av OH t x) e S:=cF rfl t x e S
theorem Ov (i:Nat):n73.keep i=ax Js i:=rfl
theorem qbB (t:Nat):n73.ro t=(t==1):=rfl
theorem J4 (t:Nat):n73.mv t=(false):=rfl
theorem YU (t:Nat):n73.give t=(false):=rfl
theorem qbn:n73.free 7= [(14,16),(15,16),(14,17),(15,17),(14,21),(15,21),(16,21),(17,21),(18,21),(19,21),(20,21),(14,22),(15,22),(16,22),(17,22),(18,22),(19,22),(20,22)]:=rfl
theorem qbw:Try.f73.results.toList= [.tmp 2]:=rfl
def b73:Code:=aU Try.f73
def qaF:Code:=(bE 0 (aU Try.f73)).getD .skip
theorem UR:bE 0 b73=some qaF:=rfl
theorem xp (C:aj) (jD:kS C) (p0:iE) (c:Code) (ho:cD 0 1 b73=some c) (r:Bool) (hF:kL p0=r): @cV TT C.wide (evW TT C.wide n73 b73) n73 0 1 ⟨[(1,.rp (rGStore p0))],[]⟩ ⟨c⟩=some (.normal,⟨[(1,.rp (rGStore p0)),(14,.v (.b r))],[]⟩):=by
 have e:=Option.some.inj (ho.symm.trans (rfl:cD 0 1 b73=some _))
 subst e
 clear ho
 show aH _ _ _ _ _ _=_
 revert hF
 unfold kL
 have g1:=bK (jD p0.jv 0 1073741824 _ (nQ p0.jv 0 1073741824))
 have g2:i9 p0.jv 0 1073741824=(decide (0<=p0.jv)&&decide (p0.jv<=1073741824)):=by first|rfl|(simp [i9];done)|(simp only [i9];decide)
 refine ip (fun h1=>iq (fun h2=>?_) ?_) ?_
 all_goals (rintro rfl;intros;simp (maxSteps:=4000000) only [*,rGStore,Ov,Js,J4,↓RP,RB,RC,Nat.reduceBEq,List.map,jA,ty3,xq,uQ,↓aa _ _ _ _ 1])
theorem wm (C:aj) (jC:kW C) (nZ:rj C) (p0:iE) (p1:Int) (p2:hM) (c:Code) (ho:cD 0 7 b73=some c) (r:Bool) (hF:lK p0 p1 p2=some r): @cV TT C.wide (evW TT C.wide n73 b73) n73 0 7 ⟨[(1,.rp (rGStore p0)),(3,.I p1),(4,.ptr 0 0)],[cGEntry p2]⟩ ⟨c⟩=some (.normal,⟨[(1,.rp (rGStore p0)),(3,.I p1),(4,.ptr 0 0),(52,.v (.b r))],[cGEntry p2]⟩):=by
 have e:=Option.some.inj (ho.symm.trans (rfl:cD 0 7 b73=some _))
 subst e
 clear ho
 show aH _ _ _ _ _ _=_
 revert hF
 unfold lK
 have g1:=bK (jC p2.jj _ (rk p2.jj))
 refine ip (fun h1=>az fun x1 h2=>?_) ?_
 have g2:=bK (nZ p2.jG _ h2)
 refine ip (fun h3=>ip (fun h4=>az fun x2 h5=>?_) ?_) ?_
 have g3:decide (0<=(IntKind.i64.wrap (p1-1)))=true:=(cp h5).1
 have g4:(ah hM.row p0.im)[((IntKind.i64.wrap (p1-1)):Int).toNat]? =some (rGEntry x2):=cn _ h5
 all_goals (rintro⟨⟩;intros;simp (maxSteps:=4000000) only [*,cGEntry,rGEntry,rGStore,Ov,Js,qbn,J4,↓RP,RB,RC,Nat.reduceBEq,List.map,Nat.reduceAdd,Nat.reduceSub,jA,bne,aP,ty3,ty9,xq,uQ,mR,pK,FJ,↓aq _ _ _ _ 7])
theorem wg (C:aj) (jD:kS C) (p0:iE) (p1:Int) (p2:hM) (c:Code) (ho:cD 0 9 b73=some c) (r:Bool) (hF:lk p0 p1 p2=r): @cV TT C.wide (evW TT C.wide n73 b73) n73 0 9 ⟨[(1,.rp (rGStore p0)),(3,.I p1),(4,.ptr 0 0)],[cGEntry p2]⟩ ⟨c⟩=some (.normal,⟨[(1,.rp (rGStore p0)),(3,.I p1),(68,.v (.b r))],[cGEntry p2]⟩):=by
 have e:=Option.some.inj (ho.symm.trans (rfl:cD 0 9 b73=some _))
 subst e
 clear ho
 show aH _ _ _ _ _ _=_
 revert hF
 unfold lk
 refine iq (fun h1=>?_) ?_
 have g1:=bK (jD p2.km 0 1073741824 _ (nQ p2.km 0 1073741824))
 have g2:i9 p2.km 0 1073741824=(decide (0<=p2.km)&&decide (p2.km<=1073741824)):=by first|rfl|(simp [i9];done)|(simp only [i9];decide)
 refine ip (fun h2=>iq (fun h3=>?_) ?_) ?_
 all_goals (rintro rfl;intros;simp (maxSteps:=4000000) only [*,cGEntry,rGStore,Ov,Js,J4,↓RP,RB,RC,Nat.reduceBEq,List.map,jA,bne,ty3,uQ,FJ,↓aa _ _ _ _ 9])
def nq (p0:iE) (s:Int):St:=⟨[(1,.rp (rGStore p0)),(3,.I s)],[]⟩
def pu (p0:iE) (r:hM⊕Unit):Option (Ex×St):=match r with
 | .inl r=>some (.ret,⟨[(2,.I 13)],[cGEntry r]⟩)
 | .inr r=>some (.normal,⟨[],[]⟩)
theorem ux (C:aj) (jC:kW C) (nZ:rj C) (jD:kS C) (p0:iE) (p1:Int) (o:Int⊕(hM⊕Unit)) (hF:lU p0 p1=some o):evW TT C.wide n73 b73 0 (nq p0 p1)=Sum.elim (fun s=>evW TT C.wide n73 b73 0 (nq p0 s)) (fun r=>pu p0 r) o:=by
 rw [cG TT n73 UR]
 revert hF
 unfold lU
 try dsimp only
 refine ip (fun h1=>az fun x1 h2=>?_) ?_
 have g1:decide (0<=p1)=true:=(cp h2).1
 have g2:(ah hM.row p0.im)[(p1:Int).toNat]? =some (rGEntry x1):=cn _ h2
 refine az fun x2 h3=>?_
 have g3:=wm C jC nZ p0 p1 x1 _ rfl _ h3
 refine iq (fun h4=>?_) ?_
 have g4:=wg C jD p0 p1 x1 _ rfl (lk p0 p1 x1) rfl
 refine iq (fun h5=>?_) ?_
 all_goals (rintro⟨⟩;intros;show cN _ _ _ (aH _ _ _ _ (Code.seq _ _) _)=_;simp (maxSteps:=4000000) only [*,cGEntry,rGEntry,rGStore,nq,pu,qcn,OH,Ov,Js,J4,YU,↓RP,RB,RC,↓ai,Nat.reduceBEq,bP,List.map,Nat.reduceAdd,Nat.reduceLeDiff,bne,↓ao,↓am,ty3,xq,uQ,mR,FJ,↓aa _ _ _ _ 4,↓aa _ _ _ _ 6,↓bg _ _ _ _ 7,↓aa _ _ _ _ 8,↓bg _ _ _ _ 9,↓aa _ _ _ _ 10,↓aa _ _ _ _ 5])
theorem AD (C:aj) (jD:kS C) (jC:kW C) (nZ:rj C) (p0:iE) (r:Int) (hF:oD p0=some r):cR TT C.wide (evW TT C.wide n73 b73) n73 Try.f73.results.toList (aU Try.f73) [.agg (cGStore p0)] []=some (.I r,[]):=by
 revert hF
 unfold oD
 have g1:=xp C jD p0 _ rfl (kL p0) rfl
 refine iq (fun h1=>az ?_) ?_
 rintro (x1|_) h2
 focus
  dsimp only
  have g2:=cH _ _ (ux C jC nZ jD p0) h2
  try simp only [nq,pu] at g2
 rotate_left 1
 dsimp only
 have g3:=cH _ _ (ux C jC nZ jD p0) h2
 try simp only [nq,pu] at g3
 all_goals (rintro⟨⟩;intros;rw [bk];show cC _ _ _ (aH _ _ _ _ (Code.seq _ _) _)=_;simp (maxSteps:=4000000) only [*,cGEntry,cGStore,rGStore,qbw,qcn,OH,Ov,Js,qbB,↓RP,RB,RC,Nat.reduceBEq,bP,List.map,↓ao,↓am,ty3,uQ,mR,↓aa _ _ _ _ 0,↓bg _ _ _ _ 1,↓aa _ _ _ _ 2,↓aa _ _ _ _ 3,↓aa _ _ _ _ 11])
def P4:List (Nat×List Nat):=[(0,[1]),(1,[1,7]),(2,[2]),(3,[1,17]),(4,[2]),(5,[1,3]),(6,[1,3,22]),(7,[1,3]),(8,[1,3,31]),(9,[2]),(10,[35]),(11,[2]),(12,[2])]
def Qs:List (Nat×List Nat×List Nat):=[(7,[],[1]),(17,[],[1]),(22,[1,3],[1]),(31,[],[1,3]),(35,[],[])]
def n74:cL where
 keep:=ax P4
 ro:=fun t=>t==1
 mv:=fun _=>false
 give:=fun _=>false
 free:=fun _=>[]
 alive:=av Qs
theorem qbD (t:Nat) (x:Bool) (e:Env) (S:bH):cK n74 t x ⟨e,S⟩=atO (av Qs t x) e S:=cF rfl t x e S
theorem YQ (i:Nat):n74.keep i=ax P4 i:=rfl
theorem qab (t:Nat):n74.ro t=(t==1):=rfl
theorem Q7 (t:Nat):n74.mv t=(false):=rfl
theorem qbO:Try.f74.results.toList= [.tmp 2]:=rfl
def b74:Code:=aU Try.f74
def qby:Code:=(bE 0 (aU Try.f74)).getD .skip
theorem Wz:bE 0 b74=some qby:=rfl
def nh (p0:iM) (s:Int):St:=⟨[(1,.rp (rGReply p0)),(3,.I s)],[]⟩
def pv (p0:iM) (r:Unit⊕Unit):Option (Ex×St):=match r with
 | .inl r=>some (.ret,⟨[(2,.I 1)],[]⟩)
 | .inr r=>some (.normal,⟨[(1,.rp (rGReply p0))],[]⟩)
theorem uu (C:aj) (iL:kM C) (p0:iM) (p1:Int) (o:Int⊕(Unit⊕Unit)) (hF:lS p0 p1=some o):evW TT C.wide n74 b74 0 (nh p0 p1)=Sum.elim (fun s=>evW TT C.wide n74 b74 0 (nh p0 s)) (fun r=>pv p0 r) o:=by
 rw [cG TT n74 Wz]
 revert hF
 unfold lS
 try dsimp only
 refine ip (fun h1=>az fun x1 h2=>?_) ?_
 have g1:decide (0<=p1)=true:=(cp h2).1
 have g2:(ah bY p0.jW)[(p1:Int).toNat]? =some [.s x1]:=cn _ h2
 have g3:=bK (iL x1 _ (lO x1))
 refine iq (fun h3=>?_) ?_
 all_goals (rintro⟨⟩;intros;show cN _ _ _ (aH _ _ _ _ (Code.seq _ _) _)=_;simp (maxSteps:=4000000) only [*,rGReply,nh,pv,qbD,Qs,YQ,P4,Q7,↓RP,RB,RC,↓ai,Nat.reduceBEq,List.map,jA,↓ao,↓am,↓aa,ty3,ty9,mR,rG,Cb])
theorem BK (C:aj) (jD:kS C) (iL:kM C) (kA:nl C) (p0:iM) (r:Int) (hF:np p0=some r):cR TT C.wide (evW TT C.wide n74 b74) n74 Try.f74.results.toList (aU Try.f74) [.agg (cGReply p0)] []=some (.I r,[]):=by
 revert hF
 unfold np
 have g1:=bK (jD p0.ky 0 13 _ (nQ p0.ky 0 13))
 have g2:i9 p0.ky 0 13=(decide (0<=p0.ky)&&decide (p0.ky<=13)):=by first|rfl|(simp [i9];done)|(simp only [i9];decide)
 refine ip (fun h1=>ip (fun h2=>?_) ?_) ?_
 have g3:=bK (iL p0.gi _ (lO p0.gi))
 refine ip (fun h3=>iq (fun h4=>az ?_) ?_) ?_
 rintro (_|_) h5
 focus
  dsimp only
  have g4:=cH _ _ (uu C iL p0) h5
  try simp only [nh,pv] at g4
 rotate_left 1
 dsimp only
 have g5:=cH _ _ (uu C iL p0) h5
 have g6:=bK (kA p0.fN _ (rn p0.fN))
 try simp only [nh,pv] at g5
 refine iq (fun h6=>?_) ?_
 all_goals (rintro⟨⟩;intros;rw [bk];show cC _ _ _ (aH _ _ _ _ (Code.seq _ _) _)=_;simp (maxSteps:=4000000) only [*,cGReply,rGReply,qbO,qbD,Qs,YQ,P4,qab,Q7,↓RP,RB,RC,Nat.reduceBEq,bP,List.map,jA,↓ao,↓am,↓aa,ty3,ty9,mR,rG,Cb])
def KZ:List (Nat×List Nat):=[(0,[1]),(1,[1,20]),(2,[2]),(3,[1,3]),(4,[1,3,25]),(5,[1,3]),(6,[1,3,4]),(7,[1,3,80]),(8,[2]),(9,[2])]
def PW:List (Nat×List Nat×List Nat):=[(20,[],[1]),(25,[1,3],[]),(80,[],[1,3])]
def n41:cL where
 keep:=ax KZ
 ro:=fun t=>t==1
 mv:=fun _=>false
 give:=fun _=>false
 free:=fun i=>match i with|7=>[(5,7),(6,7),(5,8),(6,8),(15,17),(16,17),(15,18),(16,18),(15,22),(16,22),(17,22),(18,22),(19,22),(20,22),(21,22),(15,23),(16,23),(17,23),(18,23),(19,23),(20,23),(21,23),(34,36),(35,36),(34,37),(35,37),(34,38),(35,38)]|_=>[]
 alive:=av PW
theorem Zo (t:Nat) (x:Bool) (e:Env) (S:bH):cK n41 t x ⟨e,S⟩=atO (av PW t x) e S:=cF rfl t x e S
theorem PQ (i:Nat):n41.keep i=ax KZ i:=rfl
theorem Zc (t:Nat):n41.ro t=(t==1):=rfl
theorem Nd (t:Nat):n41.mv t=(false):=rfl
theorem YY (t:Nat):n41.give t=(false):=rfl
theorem qca:n41.free 7= [(5,7),(6,7),(5,8),(6,8),(15,17),(16,17),(15,18),(16,18),(15,22),(16,22),(17,22),(18,22),(19,22),(20,22),(21,22),(15,23),(16,23),(17,23),(18,23),(19,23),(20,23),(21,23),(34,36),(35,36),(34,37),(35,37),(34,38),(35,38)]:=rfl
theorem qcy:Try.f41.results.toList= [.tmp 2]:=rfl
def b41:Code:=aU Try.f41
def Zz:Code:=(bE 0 (aU Try.f41)).getD .skip
theorem T4:bE 0 b41=some Zz:=rfl
theorem wi (C:aj) (tY:rD C) (jD:kS C) (p0:cc) (c:Code) (ho:cD 0 1 b41=some c) (r:Bool) (hF:lL p0=some r): @cV TT C.wide (evW TT C.wide n41 b41) n41 0 1 ⟨[(1,.rp (rGMachine p0))],[]⟩ ⟨c⟩=some (.normal,⟨[(1,.rp (rGMachine p0)),(20,.v (.b r))],[]⟩):=by
 have e:=Option.some.inj (ho.symm.trans (rfl:cD 0 1 b41=some _))
 subst e
 clear ho
 show aH _ _ _ _ _ _=_
 revert hF
 unfold lL
 refine az fun x1 h1=>?_
 have g1:=bK (tY p0.iA _ h1)
 refine ip (fun h2=>?_) ?_
 have g2:=bK (jD p0.ji 1 1048577 _ (nQ p0.ji 1 1048577))
 have g3:i9 p0.ji 1 1048577=(decide (1<=p0.ji)&&decide (p0.ji<=1048577)):=by first|rfl|(simp [i9];done)|(simp only [i9];decide)
 refine ip (fun h3=>iq (fun h4=>?_) ?_) ?_
 all_goals (rintro⟨⟩;intros;simp (maxSteps:=4000000) only [*,rGMachine,PQ,KZ,Nd,↓RP,RB,RC,Nat.reduceBEq,List.map,Nat.reduceAdd,jA,bne,ty3,uQ,xt,un,mR,↓aa _ _ _ _ 1])
theorem vC (C:aj) (jE:kc C) (jD:kS C) (mQ:rz C) (p0:cc) (p1:Int) (p2:f7) (c:Code) (ho:cD 0 7 b41=some c) (r:Bool) (hF:lc p0 p1 p2=some r): @cV TT C.wide (evW TT C.wide n41 b41) n41 0 7 ⟨[(1,.rp (rGMachine p0)),(3,.I p1),(4,.ptr 0 0)],[cGClient p2]⟩ ⟨c⟩=some (.normal,⟨[(1,.rp (rGMachine p0)),(3,.I p1),(80,.v (.b r))],[cGClient p2]⟩):=by
 have e:=Option.some.inj (ho.symm.trans (rfl:cD 0 7 b41=some _))
 subst e
 clear ho
 show aH _ _ _ _ _ _=_
 revert hF
 unfold lc
 have g1:=bK (jE p2.fId _ (mq p2.fId))
 refine ip (fun h1=>?_) ?_
 unfold m6
 refine iq (fun h2=>bF (fun h3=>?_) (fun h3=>?_)) ?_
 focus
  have g2:=bK (jD p2.jT 0 1048576 _ (nQ p2.jT 0 1048576))
  have g3:i9 p2.jT 0 1048576=(decide (0<=p2.jT)&&decide (p2.jT<=1048576)):=by first|rfl|(simp [i9];done)|(simp only [i9];decide)
  refine ip (fun h4=>ip (fun h5=>?_) ?_) ?_
  have g4:=bK (jD p2.i6 0 p0.iA.jv _ (nQ p2.i6 0 p0.iA.jv))
  have g5:i9 p2.i6 0 p0.iA.jv=(decide (0<=p2.i6)&&decide (p2.i6<=p0.iA.jv)):=by first|rfl|(simp [i9];done)|(simp only [i9];decide)
  refine ip (fun h6=>ip (fun h7=>az fun x1 h8=>?_) ?_) ?_
  have g6:=bK (mQ p2.jd _ h8)
 rotate_left 5
 unfold m0
 refine az fun x1 h4=>?_
 have g7:decide (0<=(IntKind.i64.wrap (p1-1)))=true:=(cp h4).1
 have g8:(ah f7.row p0.ir)[((IntKind.i64.wrap (p1-1)):Int).toNat]? =some (rGClient x1):=cn _ h4
 refine iq (fun h5=>?_) ?_
 have g2:=bK (jD p2.jT 0 1048576 _ (nQ p2.jT 0 1048576))
 have g3:i9 p2.jT 0 1048576=(decide (0<=p2.jT)&&decide (p2.jT<=1048576)):=by first|rfl|(simp [i9];done)|(simp only [i9];decide)
 refine ip (fun h6=>ip (fun h7=>?_) ?_) ?_
 have g4:=bK (jD p2.i6 0 p0.iA.jv _ (nQ p2.i6 0 p0.iA.jv))
 have g5:i9 p2.i6 0 p0.iA.jv=(decide (0<=p2.i6)&&decide (p2.i6<=p0.iA.jv)):=by first|rfl|(simp [i9];done)|(simp only [i9];decide)
 refine ip (fun h8=>ip (fun h9=>az fun x2 h10=>?_) ?_) ?_
 have g9:=bK (mQ p2.jd _ h10)
 all_goals (rintro⟨⟩;intros;simp (maxSteps:=4000000) only [*,cGClient,rGClient,rGMachine,PQ,KZ,qca,Nd,↓RP,RB,RC,Nat.reduceBEq,List.map,Nat.reduceAdd,Nat.reduceSub,jA,bne,aP,ty3,uQ,xt,un,mR,Cb,GB,↓aq _ _ _ _ 7])
def ml (p0:cc) (s:Int):St:=⟨[(1,.rp (rGMachine p0)),(3,.I s)],[]⟩
def nI (p0:cc) (r:f7⊕Unit):Option (Ex×St):=match r with
 | .inl r=>some (.ret,⟨[(2,.I 13)],[cGClient r]⟩)
 | .inr r=>some (.normal,⟨[],[]⟩)
theorem tp (C:aj) (jE:kc C) (jD:kS C) (mQ:rz C) (p0:cc) (p1:Int) (o:Int⊕(f7⊕Unit)) (hF:lr p0 p1=some o):evW TT C.wide n41 b41 0 (ml p0 p1)=Sum.elim (fun s=>evW TT C.wide n41 b41 0 (ml p0 s)) (fun r=>nI p0 r) o:=by
 rw [cG TT n41 T4]
 revert hF
 unfold lr
 try dsimp only
 refine ip (fun h1=>az fun x1 h2=>?_) ?_
 have g1:decide (0<=p1)=true:=(cp h2).1
 have g2:(ah f7.row p0.ir)[(p1:Int).toNat]? =some (rGClient x1):=cn _ h2
 refine az fun x2 h3=>?_
 have g3:=vC C jE jD mQ p0 p1 x1 _ rfl _ h3
 refine iq (fun h4=>?_) ?_
 all_goals (rintro⟨⟩;intros;show cN _ _ _ (aH _ _ _ _ (Code.seq _ _) _)=_;simp (maxSteps:=4000000) only [*,cGClient,rGClient,rGMachine,ml,nI,Zo,PW,PQ,KZ,Nd,YY,↓RP,RB,RC,↓ai,Nat.reduceBEq,bP,List.map,Nat.reduceAdd,Nat.reduceLeDiff,bne,↓ao,↓am,ty3,xt,un,mR,GB,↓aa _ _ _ _ 4,↓aa _ _ _ _ 6,↓bg _ _ _ _ 7,↓aa _ _ _ _ 8,↓aa _ _ _ _ 5])
theorem zt (C:aj) (tY:rD C) (jD:kS C) (jE:kc C) (mQ:rz C) (p0:cc) (r:Int) (hF:mP p0=some r):cR TT C.wide (evW TT C.wide n41 b41) n41 Try.f41.results.toList (aU Try.f41) [.agg (cGMachine p0)] []=some (.I r,[]):=by
 revert hF
 unfold mP
 refine az fun x1 h1=>?_
 have g1:=wi C tY jD p0 _ rfl _ h1
 refine iq (fun h2=>az ?_) ?_
 rintro (x2|_) h3
 focus
  dsimp only
  have g2:=cH _ _ (tp C jE jD mQ p0) h3
  try simp only [ml,nI] at g2
 rotate_left 1
 dsimp only
 have g3:=cH _ _ (tp C jE jD mQ p0) h3
 try simp only [ml,nI] at g3
 all_goals (rintro⟨⟩;intros;rw [bk];show cC _ _ _ (aH _ _ _ _ (Code.seq _ _) _)=_;simp (maxSteps:=4000000) only [*,cGClient,cGMachine,rGMachine,qcy,Zo,PW,PQ,KZ,Zc,↓RP,RB,RC,Nat.reduceBEq,bP,List.map,↓ao,↓am,ty3,un,mR,↓aa _ _ _ _ 0,↓bg _ _ _ _ 1,↓aa _ _ _ _ 2,↓aa _ _ _ _ 3,↓aa _ _ _ _ 9])
def VQ:List (Nat×List Nat):=[(0,[1]),(1,[1,12]),(2,[2]),(3,[2])]
def Ww:List (Nat×List Nat×List Nat):=[(12,[],[1])]
def n50:cL where
 keep:=ax VQ
 ro:=fun t=>t==1
 mv:=fun _=>false
 give:=fun _=>false
 free:=fun _=>[]
 alive:=av Ww
theorem qcQ (t:Nat) (x:Bool) (e:Env) (S:bH):cK n50 t x ⟨e,S⟩=atO (av Ww t x) e S:=cF rfl t x e S
theorem qcW (i:Nat):n50.keep i=ax VQ i:=rfl
theorem qbT (t:Nat):n50.ro t=(t==1):=rfl
theorem Zu (t:Nat):n50.mv t=(false):=rfl
theorem qaa:Try.f50.results.toList= [.tmp 2]:=rfl
def b50:Code:=aU Try.f50
theorem B9 (C:aj) (jE:kc C) (zn:vj C) (p0:jr) (r:Int) (hF:pE p0=some r):cR TT C.wide (evW TT C.wide n50 b50) n50 Try.f50.results.toList (aU Try.f50) [.agg (cGSnap p0)] []=some (.I r,[]):=by
 revert hF
 unfold pE
 have g1:=bK (jE p0.jg _ (mq p0.jg))
 refine ip (fun h1=>?_) ?_
 have g2:=bK (jE p0.iO _ (mq p0.iO))
 refine ip (fun h2=>az fun x1 h3=>?_) ?_
 have g3:=bK (zn p0.iC _ h3)
 all_goals (rintro⟨⟩;intros;rw [bk];show cC _ _ _ (aH _ _ _ _ (Code.seq _ _) _)=_;simp (maxSteps:=4000000) only [*,cGSnap,qaa,qcQ,Ww,qcW,VQ,qbT,Zu,↓RP,RB,RC,Nat.reduceBEq,bP,List.map,Nat.reduceAdd,jA,↓ao,↓am,↓aa,ty3,un,mR,yk])
def Jr:List (Nat×List Nat):=[(0,[1]),(1,[1,10]),(2,[2]),(3,[1,3]),(4,[1,3,4]),(5,[1,3,4,5]),(6,[1,3,4,5,6]),(7,[1,4,6,86]),(8,[2]),(9,[1,108]),(10,[2]),(11,[112]),(12,[2]),(13,[2])]
def Sm:List (Nat×List Nat×List Nat):=[(10,[],[1]),(86,[],[1,4,6]),(108,[],[1]),(112,[],[])]
def n99:cL where
 keep:=ax Jr
 ro:=fun t=>t==1
 mv:=fun _=>false
 give:=fun _=>false
 free:=fun _=>[]
 alive:=av Sm
theorem qd1 (t:Nat) (x:Bool) (e:Env) (S:bH):cK n99 t x ⟨e,S⟩=atO (av Sm t x) e S:=cF rfl t x e S
theorem NY (i:Nat):n99.keep i=ax Jr i:=rfl
theorem qbi (t:Nat):n99.ro t=(t==1):=rfl
theorem HV (t:Nat):n99.mv t=(false):=rfl
theorem Z8:Try.f99.results.toList= [.tmp 2]:=rfl
def b99:Code:=aU Try.f99
theorem wt (C:aj) (jD:kS C) (p0:f5) (c:Code) (ho:cD 0 3 b99=some c) (r:Bool) (hF:i5 p0=r): @cV TT C.wide (evW TT C.wide n99 b99) n99 0 3 ⟨[(1,.rp (rGCommand p0))],[]⟩ ⟨c⟩=some (.normal,⟨[(1,.rp (rGCommand p0)),(3,.v (.b r))],[]⟩):=by
 have e:=Option.some.inj (ho.symm.trans (rfl:cD 0 3 b99=some _))
 subst e
 clear ho
 show aH _ _ _ _ _ _=_
 revert hF
 unfold i5
 refine iq (fun h1=>iq (fun h2=>iq (fun h3=>iq (fun h4=>?_) ?_) ?_) ?_) ?_
 have g1:=bK (jD p0.af 11 16 _ (nQ p0.af 11 16))
 have g2:i9 p0.af 11 16=(decide (11<=p0.af)&&decide (p0.af<=16)):=by first|rfl|(simp [i9];done)|(simp only [i9];decide)
 all_goals (rintro rfl;intros;simp (maxSteps:=4000000) only [*,rGCommand,NY,Jr,HV,↓RP,RB,RC,Nat.reduceBEq,List.map,jA,ty3,ty4,v9,↓aa _ _ _ _ 3])
theorem wA (C:aj)  (p0:f5) (p1:Bool) (p2:Bool) (c:Code) (ho:cD 0 5 b99=some c) (r:Bool) (hF:jY p0 p1 p2=r): @cV TT C.wide (evW TT C.wide n99 b99) n99 0 5 ⟨[(1,.rp (rGCommand p0)),(3,.v (.b p1)),(4,.v (.b p2))],[]⟩ ⟨c⟩=some (.normal,⟨[(1,.rp (rGCommand p0)),(3,.v (.b p1)),(4,.v (.b p2)),(5,.v (.b r))],[]⟩):=by
 have e:=Option.some.inj (ho.symm.trans (rfl:cD 0 5 b99=some _))
 subst e
 clear ho
 show aH _ _ _ _ _ _=_
 revert hF
 unfold jY
 refine iq (fun h1=>iq (fun h2=>?_) ?_) ?_
 all_goals (rintro rfl;intros;simp (maxSteps:=4000000) only [*,rGCommand,NY,Jr,HV,↓RP,RB,RC,Nat.reduceBEq,List.map,ty3,ty4,v9,↓aa _ _ _ _ 5])
theorem wj (C:aj)  (p0:f5) (p1:Bool) (p2:Bool) (p3:Bool) (p4:Bool) (c:Code) (ho:cD 0 7 b99=some c) (r:Bool) (hF:kU p0 p1 p2 p3 p4=r): @cV TT C.wide (evW TT C.wide n99 b99) n99 0 7 ⟨[(1,.rp (rGCommand p0)),(3,.v (.b p1)),(4,.v (.b p2)),(5,.v (.b p3)),(6,.v (.b p4))],[]⟩ ⟨c⟩=some (.normal,⟨[(1,.rp (rGCommand p0)),(4,.v (.b p2)),(6,.v (.b p4)),(86,.v (.b r))],[]⟩):=by
 have e:=Option.some.inj (ho.symm.trans (rfl:cD 0 7 b99=some _))
 subst e
 clear ho
 show aH _ _ _ _ _ _=_
 revert hF
 unfold kU
 refine aX (fun h1=>?_) (fun h1=>?_)
 focus
  refine aX (fun h2=>?_) (fun h2=>?_)
  focus
   refine aX (fun h3=>?_) (fun h3=>?_)
   focus
    refine iq (fun h4=>?_) ?_
   rotate_left 2
   refine ip (fun h4=>iq (fun h5=>?_) ?_) ?_
  rotate_left 5
  unfold mT
  refine ip (fun h3=>aX (fun h4=>?_) (fun h4=>?_)) ?_
  focus
   refine iq (fun h5=>?_) ?_
  rotate_left 2
  refine ip (fun h5=>iq (fun h6=>?_) ?_) ?_
 rotate_left 11
 unfold mW
 refine ip (fun h2=>aX (fun h3=>?_) (fun h3=>?_)) ?_
 focus
  refine aX (fun h4=>?_) (fun h4=>?_)
  focus
   refine iq (fun h5=>?_) ?_
  rotate_left 2
  refine ip (fun h5=>iq (fun h6=>?_) ?_) ?_
 rotate_left 5
 unfold mS
 refine ip (fun h4=>aX (fun h5=>?_) (fun h5=>?_)) ?_
 focus
  refine iq (fun h6=>?_) ?_
 rotate_left 2
 refine ip (fun h6=>iq (fun h7=>?_) ?_) ?_
 all_goals (rintro rfl;intros;simp (maxSteps:=4000000) only [*,rGCommand,NY,Jr,HV,↓RP,RB,RC,Nat.reduceBEq,List.map,bne,ty3,ty9,v9,↓aa _ _ _ _ 7])
theorem wv (C:aj) (jC:kW C) (iL:kM C) (p0:f5) (p1:Bool) (p2:Bool) (c:Code) (ho:cD 0 9 b99=some c) (r:Bool) (hF:lf p0 p1 p2=r): @cV TT C.wide (evW TT C.wide n99 b99) n99 0 9 ⟨[(1,.rp (rGCommand p0)),(4,.v (.b p1)),(6,.v (.b p2))],[]⟩ ⟨c⟩=some (.normal,⟨[(1,.rp (rGCommand p0)),(108,.v (.b r))],[]⟩):=by
 have e:=Option.some.inj (ho.symm.trans (rfl:cD 0 9 b99=some _))
 subst e
 clear ho
 show aH _ _ _ _ _ _=_
 revert hF
 unfold lf
 refine bF (fun h1=>?_) (fun h1=>?_)
 focus
  refine bF (fun h2=>?_) (fun h2=>?_)
  focus
   have g1:=bK (iL p0.gi _ (lO p0.gi))
  rotate_left 1
  have g2:=bK (jC p0.iv _ (rk p0.iv))
  refine aX (fun h3=>?_) (fun h3=>?_)
  focus
   have g1:=bK (iL p0.gi _ (lO p0.gi))
  rotate_left 1
 rotate_left 3
 have g3:=bK (jC p0.jj _ (rk p0.jj))
 refine ip (fun h2=>bF (fun h3=>?_) (fun h3=>?_)) ?_
 focus
  have g1:=bK (iL p0.gi _ (lO p0.gi))
 rotate_left 1
 have g2:=bK (jC p0.iv _ (rk p0.iv))
 refine aX (fun h4=>?_) (fun h4=>?_)
 focus
  have g1:=bK (iL p0.gi _ (lO p0.gi))
 rotate_left 1
 all_goals (rintro rfl;intros;simp (maxSteps:=4000000) only [*,rGCommand,NY,Jr,HV,↓RP,RB,RC,Nat.reduceBEq,List.map,jA,ty9,v9,↓aa _ _ _ _ 9])
theorem zb (C:aj) (jD:kS C) (jC:kW C) (iL:kM C) (kA:nl C) (p0:f5) (r:Int) (hF:pB p0=some r):cR TT C.wide (evW TT C.wide n99 b99) n99 Try.f99.results.toList (aU Try.f99) [.agg (cGCommand p0)] []=some (.I r,[]):=by
 revert hF
 unfold pB
 refine vL ?_
 unfold mD
 have g1:=bK (jD p0.af 1 22 _ (nQ p0.af 1 22))
 have g2:i9 p0.af 1 22=(decide (1<=p0.af)&&decide (p0.af<=22)):=by first|rfl|(simp [i9];done)|(simp only [i9];decide)
 refine ip (fun h1=>ip (fun h2=>?_) ?_) ?_
 have g3:=wt C jD p0 _ rfl (i5 p0) rfl
 have g4:=bK (jD p0.af 4 6 _ (nQ p0.af 4 6))
 have g5:i9 p0.af 4 6=(decide (4<=p0.af)&&decide (p0.af<=6)):=by first|rfl|(simp [i9];done)|(simp only [i9];decide)
 have g6:=wA C p0 (i5 p0) (decide (4<=p0.af)&&decide (p0.af<=6)) _ rfl (jY p0 (i5 p0) (decide (4<=p0.af)&&decide (p0.af<=6))) rfl
 have g7:=wj C p0 (i5 p0) (decide (4<=p0.af)&&decide (p0.af<=6)) (jY p0 (i5 p0) (decide (4<=p0.af)&&decide (p0.af<=6))) (!(p0.af==22)) _ rfl (kU p0 (i5 p0) (decide (4<=p0.af)&&decide (p0.af<=6)) (jY p0 (i5 p0) (decide (4<=p0.af)&&decide (p0.af<=6))) (!(p0.af==22))) rfl
 refine iq (fun h3=>?_) ?_
 have g8:=wv C jC iL p0 (decide (4<=p0.af)&&decide (p0.af<=6)) (!(p0.af==22)) _ rfl (lf p0 (decide (4<=p0.af)&&decide (p0.af<=6)) (!(p0.af==22))) rfl
 refine iq (fun h4=>?_) ?_
 have g9:=bK (kA p0.fN _ (rn p0.fN))
 refine iq (fun h5=>?_) ?_
 all_goals (rintro rfl;intros;rw [bk];show cC _ _ _ (aH _ _ _ _ (Code.seq _ _) _)=_;simp (maxSteps:=4000000) only [*,cGCommand,rGCommand,Z8,qd1,Sm,NY,Jr,qbi,HV,↓RP,RB,RC,Nat.reduceBEq,bP,List.map,jA,bne,↓ao,↓am,ty3,ty4,mR,v9,↓aa _ _ _ _ 0,↓aa _ _ _ _ 1,↓aa _ _ _ _ 2,↓bg _ _ _ _ 3,↓aa _ _ _ _ 4,↓bg _ _ _ _ 5,↓aa _ _ _ _ 6,↓bg _ _ _ _ 7,↓aa _ _ _ _ 8,↓bg _ _ _ _ 9,↓aa _ _ _ _ 10,↓aa _ _ _ _ 11,↓aa _ _ _ _ 12,↓aa _ _ _ _ 13])
def XZ:List (Nat×List Nat):=[(0,[1]),(1,[1,5]),(2,[14]),(3,[2]),(4,[2]),(5,[1,24]),(6,[2]),(7,[2])]
def VM:List (Nat×List Nat×List Nat):=[(5,[1],[1]),(14,[],[]),(24,[],[1])]
def n78:cL where
 keep:=ax XZ
 ro:=fun t=>t==1
 mv:=fun _=>false
 give:=fun _=>false
 free:=fun _=>[]
 alive:=av VM
theorem qcU (t:Nat) (x:Bool) (e:Env) (S:bH):cK n78 t x ⟨e,S⟩=atO (av VM t x) e S:=cF rfl t x e S
theorem qc7 (i:Nat):n78.keep i=ax XZ i:=rfl
theorem qa4 (t:Nat):n78.ro t=(t==1):=rfl
theorem YS (t:Nat):n78.mv t=(false):=rfl
theorem ZV:Try.f78.results.toList= [.tmp 2]:=rfl
def b78:Code:=aU Try.f78
theorem B6 (C:aj) (jE:kc C) (yT:uZ C) (p0:jB) (r:Int) (hF:sV p0=some r):cR TT C.wide (evW TT C.wide n78 b78) n78 Try.f78.results.toList (aU Try.f78) [.agg (cGCall p0)] []=some (.I r,[]):=by
 revert hF
 unfold sV
 refine vL ?_
 unfold oT
 refine bF (fun h1=>?_) (fun h1=>?_)
 focus
  have g1:=bK (jE p0.iP _ (mq p0.iP))
  refine ip (fun h2=>?_) ?_
  have g2:=bK (jE p0.jT _ (mq p0.jT))
  refine aX (fun h3=>?_) (fun h3=>?_)
  focus
   have g3:=bK (yT p0.bt _ (yK p0.bt))
  rotate_left 1
 rotate_left 3
 unfold rT
 refine ip (fun h2=>ip (fun h3=>ip (fun h4=>ip (fun h5=>ip (fun h6=>iq (fun h7=>?_) ?_) ?_) ?_) ?_) ?_) ?_
 all_goals (rintro rfl;intros;rw [bk];show cC _ _ _ (aH _ _ _ _ (Code.seq _ _) _)=_;simp (maxSteps:=4000000) only [*,cGCall,ZV,qcU,VM,qc7,XZ,qa4,YS,↓RP,RB,RC,Nat.reduceBEq,bP,List.map,Nat.reduceAdd,aG,jA,bne,↓ao,↓am,↓aa,ty3,ty9,mR,v9,B4])
def WL:List (Nat×List Nat):=[(0,[1]),(1,[1,12]),(2,[2]),(3,[1,15]),(4,[2]),(5,[22]),(6,[2]),(7,[2])]
def Vg:List (Nat×List Nat×List Nat):=[(12,[],[1]),(15,[1],[1]),(22,[],[])]
def n52:cL where
 keep:=ax WL
 ro:=fun t=>t==1
 mv:=fun _=>false
 give:=fun _=>false
 free:=fun _=>[]
 alive:=av Vg
theorem qdA (t:Nat) (x:Bool) (e:Env) (S:bH):cK n52 t x ⟨e,S⟩=atO (av Vg t x) e S:=cF rfl t x e S
theorem qdP (i:Nat):n52.keep i=ax WL i:=rfl
theorem qbQ (t:Nat):n52.ro t=(t==1):=rfl
theorem Za (t:Nat):n52.mv t=(false):=rfl
theorem Zg:Try.f52.results.toList= [.tmp 2]:=rfl
def b52:Code:=aU Try.f52
theorem Cm (C:aj) (jE:kc C) (jD:kS C) (B7:xe C) (p0:iX) (r:Int) (hF:sL p0=some r):cR TT C.wide (evW TT C.wide n52 b52) n52 Try.f52.results.toList (aU Try.f52) [.agg (cGItem p0)] []=some (.I r,[]):=by
 revert hF
 unfold sL
 refine vL ?_
 unfold oR
 have g1:=bK (jE p0.iO _ (mq p0.iO))
 refine ip (fun h1=>?_) ?_
 have g2:=bK (jD p0.i6 0 1073741824 _ (nQ p0.i6 0 1073741824))
 have g3:i9 p0.i6 0 1073741824=(decide (0<=p0.i6)&&decide (p0.i6<=1073741824)):=by first|rfl|(simp [i9];done)|(simp only [i9];decide)
 refine ip (fun h2=>ip (fun h3=>bF (fun h4=>?_) (fun h4=>?_)) ?_) ?_
 focus
  have g4:=bK (B7 p0.iz _ (Ca p0.iz))
 rotate_left 1
 unfold rW
 refine ip (fun h5=>ip (fun h6=>ip (fun h7=>ip (fun h8=>ip (fun h9=>ip (fun h10=>iq (fun h11=>?_) ?_) ?_) ?_) ?_) ?_) ?_) ?_
 all_goals (rintro rfl;intros;rw [bk];show cC _ _ _ (aH _ _ _ _ (Code.seq _ _) _)=_;simp (maxSteps:=4000000) only [*,cGItem,Zg,qdA,Vg,qdP,WL,qbQ,Za,↓RP,RB,RC,Nat.reduceBEq,bP,List.map,Nat.reduceAdd,aG,jA,bne,↓ao,↓am,↓aa,ty3,ty4,mR,v9,B4,z1])
def Ql:List (Nat×List Nat):=[(0,[1]),(1,[1,6]),(2,[2]),(3,[1,46]),(4,[2]),(5,[1,49]),(6,[2]),(7,[1,55]),(8,[65]),(9,[2]),(10,[2]),(11,[1,69]),(12,[2]),(13,[2])]
def Wp:List (Nat×List Nat×List Nat):=[(6,[],[1]),(46,[],[1]),(49,[1],[1]),(55,[1],[1]),(65,[],[]),(69,[],[1])]
def n13:cL where
 keep:=ax Ql
 ro:=fun t=>t==1
 mv:=fun _=>false
 give:=fun _=>false
 free:=fun _=>[]
 alive:=av Wp
theorem qcL (t:Nat) (x:Bool) (e:Env) (S:bH):cK n13 t x ⟨e,S⟩=atO (av Wp t x) e S:=cF rfl t x e S
theorem Zv (i:Nat):n13.keep i=ax Ql i:=rfl
theorem qbS (t:Nat):n13.ro t=(t==1):=rfl
theorem QK (t:Nat):n13.mv t=(false):=rfl
theorem qbR:Try.f13.results.toList= [.tmp 2]:=rfl
def b13:Code:=aU Try.f13
theorem w5 (C:aj) (oP:sH C) (p0:iu) (c:Code) (ho:cD 0 3 b13=some c) (r:Bool) (hF:kf p0=r): @cV TT C.wide (evW TT C.wide n13 b13) n13 0 3 ⟨[(1,.rp (rGRecord p0))],[]⟩ ⟨c⟩=some (.normal,⟨[(1,.rp (rGRecord p0)),(46,.v (.b r))],[]⟩):=by
 have e:=Option.some.inj (ho.symm.trans (rfl:cD 0 3 b13=some _))
 subst e
 clear ho
 show aH _ _ _ _ _ _=_
 revert hF
 unfold kf
 refine aX (fun h1=>?_) (fun h1=>?_)
 focus
  unfold nC
  refine aX (fun h2=>?_) (fun h2=>?_)
  focus
   refine iq (fun h3=>?_) ?_
   have g1:=bK (oP p0.iS _ (sD p0.iS))
  rotate_left 2
  refine ip (fun h3=>ip (fun h4=>ip (fun h5=>iq (fun h6=>ip (fun h7=>?_) ?_) ?_) ?_) ?_) ?_
  unfold nE
  refine ip (fun h8=>ip (fun h9=>ip (fun h10=>ip (fun h11=>ip (fun h12=>ip (fun h13=>iq (fun h14=>?_) ?_) ?_) ?_) ?_) ?_) ?_) ?_
  have g1:=bK (oP p0.iS _ (sD p0.iS))
 rotate_left 15
 refine ip (fun h2=>ip (fun h3=>?_) ?_) ?_
 unfold ny
 refine aX (fun h4=>?_) (fun h4=>?_)
 focus
  refine iq (fun h5=>?_) ?_
  have g1:=bK (oP p0.iS _ (sD p0.iS))
 rotate_left 2
 refine ip (fun h5=>ip (fun h6=>ip (fun h7=>iq (fun h8=>ip (fun h9=>?_) ?_) ?_) ?_) ?_) ?_
 unfold nu
 refine ip (fun h10=>ip (fun h11=>ip (fun h12=>ip (fun h13=>ip (fun h14=>ip (fun h15=>iq (fun h16=>?_) ?_) ?_) ?_) ?_) ?_) ?_) ?_
 have g1:=bK (oP p0.iS _ (sD p0.iS))
 all_goals (rintro rfl;intros;simp (maxSteps:=4000000) only [*,rGRecord,Zv,Ql,QK,↓RP,RB,RC,Nat.reduceBEq,bP,List.map,Nat.reduceAdd,aG,jA,bne,ty3,ty4,B4,z1,yk,A6,↓aa _ _ _ _ 3])
theorem Ak (C:aj) (jD:kS C) (oP:sH C) (BR:uL C) (jE:kc C) (B3:xf C) (p0:iu) (r:Int) (hF:nv p0=some r):cR TT C.wide (evW TT C.wide n13 b13) n13 Try.f13.results.toList (aU Try.f13) [.agg (cGRecord p0)] []=some (.I r,[]):=by
 revert hF
 unfold nv
 have g1:=bK (jD p0.af 1 3 _ (nQ p0.af 1 3))
 have g2:i9 p0.af 1 3=(decide (1<=p0.af)&&decide (p0.af<=3)):=by first|rfl|(simp [i9];done)|(simp only [i9];decide)
 refine ip (fun h1=>ip (fun h2=>?_) ?_) ?_
 have g3:=w5 C oP p0 _ rfl (kf p0) rfl
 refine iq (fun h3=>?_) ?_
 unfold rM
 refine aX (fun h4=>?_) (fun h4=>?_)
 focus
  refine az fun x1 h5=>?_
  have g4:=bK (BR p0.iS _ h5)
 rotate_left 1
 refine bF (fun h5=>?_) (fun h5=>?_)
 focus
  have g5:=bK (jE p0.jg _ (mq p0.jg))
  refine aX (fun h6=>?_) (fun h6=>?_)
  focus
   have g6:=bK (B3 p0.iN _ (Ce p0.iN))
  rotate_left 1
 rotate_left 2
 have g7:=bK (jE p0.iO _ (mq p0.iO))
 refine ip (fun h6=>?_) ?_
 have g8:=bK (jD p0.qu (-1) 2 _ (nQ p0.qu (-1) 2))
 have g9:i9 p0.qu (-1) 2=(decide ((-1)<=p0.qu)&&decide (p0.qu<=2)):=by first|rfl|(simp [i9];done)|(simp only [i9];decide)
 refine ip (fun h7=>iq (fun h8=>?_) ?_) ?_
 all_goals (rintro⟨⟩;intros;rw [bk];show cC _ _ _ (aH _ _ _ _ (Code.seq _ _) _)=_;simp (maxSteps:=4000000) only [*,cGRecord,rGRecord,qbR,qcL,Wp,Zv,Ql,qbS,QK,↓RP,RB,RC,Nat.reduceBEq,bP,List.map,Nat.reduceAdd,Int.reduceNeg,jA,↓ao,↓am,ty3,mR,z1,yk,A6,↓aa _ _ _ _ 0,↓aa _ _ _ _ 1,↓aa _ _ _ _ 2,↓bg _ _ _ _ 3,↓aa _ _ _ _ 4,↓aa _ _ _ _ 5,↓aa _ _ _ _ 6,↓aa _ _ _ _ 7,↓aa _ _ _ _ 8,↓aa _ _ _ _ 9,↓aa _ _ _ _ 10,↓aa _ _ _ _ 11,↓aa _ _ _ _ 12,↓aa _ _ _ _ 13])
def WU:List (Nat×List Nat):=[(0,[0]),(1,[2,13])]
def n66:cL where
 keep:=ax WU
 ro:=fun _=>false
 mv:=fun _=>false
 give:=fun _=>false
 free:=fun _=>[]
theorem qdG (i:Nat):n66.keep i=ax WU i:=rfl
theorem qap:Try.f66.results.toList= [.tmp 2]:=rfl
def b66:Code:=aU Try.f66
theorem IZ (C:aj)  (p0:Int) (r:(List Int)) (hF:pG p0=some r):cR TT C.wide (evW TT C.wide n66 b66) n66 Try.f66.results.toList (aU Try.f66) [.I p0] []=some (.own 1 (ah cE r),[]):=by
 revert hF
 unfold pG
 all_goals (rintro⟨⟩;rw [bk];show cC _ _ _ (aH _ _ _ _ (Code.seq _ _) _)=_;simp (maxSteps:=4000000) only [*,qap,qdG,WU,↓RP,RB,RC,Nat.reduceBEq,List.map,Nat.reduceAdd,Nat.reduceMul,Nat.reduceLeDiff,Int.reduceBEq,bne,↓ao,↓aa,ty3,ty5,pg])
def Mc:List (Nat×List Nat):=[(0,[0,1]),(1,[0,1,5,20,33]),(2,[0,1,5,6,20,33]),(3,[0,1,5,6,11,20,33]),(4,[0,1,5,6,20,33]),(5,[0,1,5,6,20,33]),(6,[1,5,7,20,33]),(7,[1,5,7,20,24,33]),(8,[1,5,7,20,33]),(9,[1,5,7,20,33]),(10,[4,5,20,33,34])]
def PP:List (Nat×List Nat×List Nat):=[(11,[0,1,5,6,20,33],[1,5,20,33]),(24,[1,5,7,20,33],[5,20,33])]
def n65:cL where
 keep:=ax Mc
 ro:=fun _=>false
 mv:=fun _=>false
 give:=fun _=>false
 free:=fun _=>[]
 alive:=av PP
theorem qbo (t:Nat) (x:Bool) (e:Env) (S:bH):cK n65 t x ⟨e,S⟩=atO (av PP t x) e S:=cF rfl t x e S
theorem Xd (i:Nat):n65.keep i=ax Mc i:=rfl
theorem QS (t:Nat):n65.mv t=(false):=rfl
theorem qa0:Try.f65.results.toList= [.tmp 4]:=rfl
def b65:Code:=aU Try.f65
def qci:Code:=(bE 0 (aU Try.f65)).getD .skip
theorem TJ:bE 0 b65=some qci:=rfl
def qau:Code:=(bE 2 (aU Try.f65)).getD .skip
theorem Tq:bE 2 b65=some qau:=rfl
def sA (p0:List Int) (p1:List Int) (s:(List Int)×Int):St:=⟨[(0,.v (.sl 1 (ah cE p0))),(1,.v (.sl 1 (ah cE p1))),(5,.own 1 (ah cE s.1)),(6,.I s.2),(20,.bad),(33,.bad)],[]⟩
def uH (p0:List Int) (p1:List Int) (r:(List Int)):Option (Ex×St):=some (.normal,⟨[(1,.v (.sl 1 (ah cE p1))),(5,.own 1 (ah cE r)),(20,.bad),(33,.bad)],[]⟩)
theorem Cu (C:aj)  (p0:List Int) (p1:List Int) (s:(List Int)×Int) (o:((List Int)×Int)⊕(List Int)) (hF:oX p0 p1 s=some o):evW TT C.wide n65 b65 0 (sA p0 p1 s)=Sum.elim (fun s=>evW TT C.wide n65 b65 0 (sA p0 p1 s)) (fun r=>uH p0 p1 r) o:=by
 obtain⟨p2,p3⟩:=s
 rw [cG TT n65 TJ]
 revert hF
 unfold oX
 try dsimp only
 refine ip (fun h1=>az fun x1 h2=>?_) ?_
 have g1:decide (0<=p3)=true:=(cp h2).1
 have g2:(ah cE p0)[(p3:Int).toNat]? =some [.i .u8 x1]:=cn _ h2
 refine mt fun h3=>?_
 all_goals (rintro⟨⟩;intros;show cN _ _ _ (aH _ _ _ _ (Code.seq _ _) _)=_;simp (maxSteps:=4000000) only [*,sA,uH,qbo,PP,Xd,Mc,QS,↓RP,RB,RC,↓ab,Nat.reduceBEq,List.map,Nat.reduceMul,Nat.reduceLeDiff,bne,↓ao,↓am,↓aa,ty3,ty5,pg])
def sI (p0:List Int) (s:(List Int)×Int):St:=⟨[(1,.v (.sl 1 (ah cE p0))),(5,.own 1 (ah cE s.1)),(7,.I s.2),(20,.bad),(33,.bad)],[]⟩
def uJ (p0:List Int) (r:(List Int)):Option (Ex×St):=some (.normal,⟨[(5,.own 1 (ah cE r)),(20,.bad),(33,.bad)],[]⟩)
theorem Ci (C:aj)  (p0:List Int) (s:(List Int)×Int) (o:((List Int)×Int)⊕(List Int)) (hF:oU p0 s=some o):evW TT C.wide n65 b65 2 (sI p0 s)=Sum.elim (fun s=>evW TT C.wide n65 b65 2 (sI p0 s)) (fun r=>uJ p0 r) o:=by
 obtain⟨p1,p2⟩:=s
 rw [cG TT n65 Tq]
 revert hF
 unfold oU
 try dsimp only
 refine ip (fun h1=>az fun x1 h2=>?_) ?_
 have g1:decide (0<=p2)=true:=(cp h2).1
 have g2:(ah cE p0)[(p2:Int).toNat]? =some [.i .u8 x1]:=cn _ h2
 refine mt fun h3=>?_
 all_goals (rintro⟨⟩;intros;show cN _ _ _ (aH _ _ _ _ (Code.seq _ _) _)=_;simp (maxSteps:=4000000) only [*,sI,uJ,qbo,PP,Xd,Mc,QS,↓RP,RB,RC,↓ab,Nat.reduceBEq,List.map,Nat.reduceMul,Nat.reduceLeDiff,bne,↓ao,↓am,↓aa,ty3,ty5,pg])
theorem IS (C:aj)  (p0:List Int) (p1:List Int) (r:(List Int)) (hF:je p0 p1=some r):cR TT C.wide (evW TT C.wide n65 b65) n65 Try.f65.results.toList (aU Try.f65) [.v (.sl 1 (ah cE p0)),.v (.sl 1 (ah cE p1))] []=some (.own 1 (ah cE r),[]):=by
 revert hF
 unfold je
 refine az ?_
 rintro x1 h1
 have g1:=cH _ _ (Cu C p0 p1) h1
 try simp only [ak,sA,uH] at g1
 refine az ?_
 rintro x2 h2
 have g2:=cH _ _ (Ci C p1) h2
 try simp only [sI,uJ] at g2
 all_goals (rintro⟨⟩;rw [bk];show cC _ _ _ (aH _ _ _ _ (Code.seq _ _) _)=_;simp (maxSteps:=4000000) only [*,qa0,Xd,Mc,↓RP,RB,RC,Nat.reduceBEq,List.map,Nat.reduceAdd,↓ao,↓aa,ty3,pg])
def JX:List (Nat×List Nat):=[(0,[0]),(1,[0,3,5]),(2,[0,3,5]),(3,[0,3,4,5]),(4,[0,3,4,5,9]),(5,[0,3,4,5]),(6,[0,3,4,5]),(7,[0,3,4,5]),(8,[2,3,5,20])]
def Oq:List (Nat×List Nat×List Nat):=[(9,[0,3,4,5],[3,5])]
def HU:cL where
 keep:=ax JX
 ro:=fun _=>false
 mv:=fun _=>false
 give:=fun _=>false
 free:=fun _=>[]
 alive:=av Oq
theorem qa6 (t:Nat) (x:Bool) (e:Env) (S:bH):cK HU t x ⟨e,S⟩=atO (av Oq t x) e S:=cF rfl t x e S
theorem Ro (i:Nat):HU.keep i=ax JX i:=rfl
theorem Sy:Try.f110.results.toList= [.tmp 2]:=rfl
def Qf:Code:=aU Try.f110
def Xg:Code:=(bE 0 (aU Try.f110)).getD .skip
theorem Qz:bE 0 Qf=some Xg:=rfl
def tA  (s:Int×(List Int)×Int):St:=⟨[(0,.I s.1),(3,.own 1 (ah cE s.2.1)),(4,.I s.2.2),(5,.bad)],[]⟩
def vv  (r:(List Int)):Option (Ex×St):=some (.normal,⟨[(3,.own 1 (ah cE r)),(5,.bad)],[]⟩)
theorem Gk (C:aj)   (s:Int×(List Int)×Int) (o:(Int×(List Int)×Int)⊕(List Int)) (hF:oh  s=some o):evW TT C.wide HU Qf 0 (tA  s)=Sum.elim (fun s=>evW TT C.wide HU Qf 0 (tA  s)) (fun r=>vv  r) o:=by
 obtain⟨p0,p1,p2⟩:=s
 rw [cG TT HU Qz]
 revert hF
 unfold oh
 try dsimp only
 refine ip (fun h1=>mt fun h2=>az fun x1 h3=>?_) ?_
 have g1:decide (0<=p2)=true:=(cp h3).1
 have g2:(ah cE p1)[(p2:Int).toNat]? =some [.i .u8 x1]:=cn _ h3
 all_goals (rintro⟨⟩;intros;show cN _ _ _ (aH _ _ _ _ (Code.seq _ _) _)=_;simp (maxSteps:=4000000) only [*,tA,vv,qa6,Oq,Ro,JX,↓RP,RB,RC,↓ai,Nat.reduceBEq,List.map,setOwn,dropAl,bX,ownAt,Nat.reduceLeDiff,Int.reduceBEq,↓ao,↓am,↓aa,ty3,ty5,pg])
theorem Lg (C:aj)  (p0:Int) (r:(List Int)) (hF:lV p0=some r):cR TT C.wide (evW TT C.wide HU Qf) HU Try.f110.results.toList (aU Try.f110) [.I p0] []=some (.own 1 (ah cE r),[]):=by
 revert hF
 unfold lV
 have g1:Ow 8 1=true:=by decide
 refine az ?_
 rintro x1 h1
 have g2:=cH _ _ (Gk C) h1
 try simp only [tA,vv] at g2
 all_goals (rintro⟨⟩;rw [bk];show cC _ _ _ (aH _ _ _ _ (Code.seq _ _) _)=_;simp (maxSteps:=4000000) only [*,Sy,Ro,JX,↓RP,RB,RC,Nat.reduceBEq,List.map,aT,bne,↓ao,↓aa,ty3,ty5,pg])
def MF:List (Nat×List Nat):=[(0,[0]),(1,[2,9])]
def Ms:cL where
 keep:=ax MF
 ro:=fun _=>false
 mv:=fun _=>false
 give:=fun _=>false
 free:=fun _=>[]
theorem Z7 (i:Nat):Ms.keep i=ax MF i:=rfl
theorem Uj (t:Nat):Ms.mv t=(false):=rfl
theorem Vi:Try.f111.results.toList= [.tmp 2]:=rfl
def qdh:Code:=aU Try.f111
theorem B1 (C:aj) (iF:jS C) (p0:ByteArray) (r:(List Int)) (hF:kd p0=some r):cR TT C.wide (evW TT C.wide Ms qdh) Ms Try.f111.results.toList (aU Try.f111) [.v (.s p0)] []=some (.own 1 (ah cE r),[]):=by
 revert hF
 unfold kd
 refine az fun x1 h1=>?_
 have g1:=bK (iF [(IntKind.u8.wrap (p0.size:Int))] (byL p0) _ h1)
 all_goals (rintro⟨⟩;rw [bk];show cC _ _ _ (aH _ _ _ _ (Code.seq _ _) _)=_;simp (maxSteps:=4000000) only [*,Vi,Z7,MF,Uj,↓RP,RB,RC,Nat.reduceBEq,List.map,Nat.reduceMul,bC,Nat.reduceLeDiff,jA,bne,↓ao,↓aa,ty3,ty5,ty9,pg])
def XO:List (Nat×List Nat):=[(0,[1]),(1,[1,3,11,19,25,39,45,50,55,60]),(2,[1,3,11,13,19,25,39,45,50,55,60]),(3,[2,3,11,16,19,25,30,39,45,50,55,60,65]),(4,[1,3,11,19,25,39,45,50,55,60]),(5,[1,3,11,19,25,39,45,50,55,60]),(6,[1,3,11,19,25,29,39,45,50,55,60]),(7,[2,3,11,16,19,25,30,39,45,50,55,60,65]),(8,[1,3,4,11,19,25,39,45,50,55,60]),(9,[3,4,11,19,25,39,45,50,55,60]),(10,[3,4,11,19,25,39,45,50,55,60]),(11,[3,4,11,19,25,39,45,50,55,60]),(12,[3,4,11,19,25,39,45,50,55,60]),(13,[3,4,11,19,25,39,45,50,55,60]),(14,[2,3,11,16,19,25,30,39,45,50,55,60,65])]
def VW:List (Nat×List Nat×List Nat):=[(13,[3,11,19,25,39,45,50,55,60],[1,3,11,19,25,39,45,50,55,60]),(29,[3,11,19,25,39,45,50,55,60],[1,3,11,19,25,39,45,50,55,60])]
def n88:cL where
 keep:=ax XO
 ro:=fun t=>t==1
 mv:=fun _=>false
 give:=fun _=>false
 free:=fun i=>match i with|1=>[(0,3),(1,3),(2,3),(0,4),(1,4),(2,4)]|_=>[]
 alive:=av VW
theorem qdY (t:Nat) (x:Bool) (e:Env) (S:bH):cK n88 t x ⟨e,S⟩=atO (av VW t x) e S:=cF rfl t x e S
theorem qdV (i:Nat):n88.keep i=ax XO i:=rfl
theorem ZH (t:Nat):n88.ro t=(t==1):=rfl
theorem qbU (t:Nat):n88.mv t=(false):=rfl
theorem YR (t:Nat):n88.give t=(false):=rfl
theorem qbM:n88.free 1= [(0,3),(1,3),(2,3),(0,4),(1,4),(2,4)]:=rfl
theorem qar:Try.f88.results.toList= [.tmp 2]:=rfl
def b88:Code:=aU Try.f88
theorem Cw (C:aj) (jX:pb C) (iF:jS C) (iZ:kb C) (p0:iX) (r:(List Int)) (hF:pI p0=some r):cR TT C.wide (evW TT C.wide n88 b88) n88 Try.f88.results.toList (aU Try.f88) [.agg (cGItem p0)] []=some (.own 1 (ah cE r),[]):=by
 revert hF
 unfold pI
 refine az fun x1 h1=>?_
 have g1:=bK (jX p0.iO _ h1)
 refine az fun x2 h2=>?_
 have g2:=bK (jX p0.i6 _ h2)
 refine az fun x3 h3=>?_
 have g3:=bK (iF x1 x2 _ h3)
 refine aX (fun h4=>?_) (fun h4=>?_)
 focus
  refine mt fun h5=>?_
 rotate_left 1
 refine mt fun h5=>?_
 unfold tQ
 refine az fun x4 h6=>?_
 have g4:=bK (jX p0.iz.iP _ h6)
 refine az fun x5 h7=>?_
 have g5:=bK (iF (x3++ [0]) x4 _ h7)
 refine iq (fun h8=>az fun x6 h9=>?_) ?_
 have g6:=bK (jX p0.iz.jT _ h9)
 refine az fun x7 h10=>?_
 have g7:=bK (iF x5 x6 _ h10)
 refine mt fun h11=>az fun x8 h12=>?_
 unfold ue
 have g8:=bK (iZ p0.iz.bt.jj _ h12)
 refine az fun x9 h13=>?_
 have g9:=bK (iF (x7++ [(IntKind.u8.wrap p0.iz.bt.af)]) x8 _ h13)
 refine az fun x10 h14=>?_
 have g10:=bK (iZ p0.iz.bt.iv _ h14)
 refine az fun x11 h15=>?_
 have g11:=bK (iF x9 x10 _ h15)
 refine az fun x12 h16=>?_
 have g12:=bK (iZ p0.iz.bt.gi _ h16)
 refine az fun x13 h17=>?_
 have g13:=bK (iF x11 x12 _ h17)
 refine az fun x14 h18=>?_
 have g14:=bK (jX p0.iz.bt.fN _ h18)
 refine az fun x15 h19=>?_
 have g15:=bK (iF x13 x14 _ h19)
 all_goals (rintro⟨⟩;intros;rw [bk];show cC _ _ _ (aH _ _ _ _ (Code.seq _ _) _)=_;simp (maxSteps:=4000000) only [*,cGItem,qar,qdY,VW,qdV,XO,qbM,ZH,qbU,YR,↓RP,RB,RC,Nat.reduceBEq,bP,List.map,Nat.reduceAdd,Nat.reduceMul,Nat.reduceLeDiff,jA,bne,↓ao,↓am,↓aa,↓aq,ty3,ty4,ty5,ty9,pg,v9,B4,z1])
def JY:List (Nat×List Nat):=[(0,[0]),(1,[0,3,8,21]),(2,[0,3,4,8,21]),(3,[0,3,4,8,12,21]),(4,[0,3,4,8,21]),(5,[0,3,4,8,21]),(6,[2,3,8,21,22])]
def N5:List (Nat×List Nat×List Nat):=[(12,[0,3,4,8,21],[3,8,21])]
def ES:cL where
 keep:=ax JY
 ro:=fun _=>false
 mv:=fun _=>false
 give:=fun _=>false
 free:=fun _=>[]
 alive:=av N5
theorem qaO (t:Nat) (x:Bool) (e:Env) (S:bH):cK ES t x ⟨e,S⟩=atO (av N5 t x) e S:=cF rfl t x e S
theorem Rh (i:Nat):ES.keep i=ax JY i:=rfl
theorem Wk (t:Nat):ES.mv t=(false):=rfl
theorem RK:Try.f113.results.toList= [.tmp 2]:=rfl
def PI:Code:=aU Try.f113
def VN:Code:=(bE 0 (aU Try.f113)).getD .skip
theorem Pm:bE 0 PI=some VN:=rfl
def qh (p0:List ByteArray) (s:(List Int)×Int):St:=⟨[(0,.v (.sl 1 (ah bY p0))),(3,.own 1 (ah cE s.1)),(4,.I s.2),(8,.bad),(21,.bad)],[]⟩
def sd (p0:List ByteArray) (r:(List Int)):Option (Ex×St):=some (.normal,⟨[(3,.own 1 (ah cE r)),(8,.bad),(21,.bad)],[]⟩)
theorem yL (C:aj) (iZ:kb C) (iF:jS C) (p0:List ByteArray) (s:(List Int)×Int) (o:((List Int)×Int)⊕(List Int)) (hF:mz p0 s=some o):evW TT C.wide ES PI 0 (qh p0 s)=Sum.elim (fun s=>evW TT C.wide ES PI 0 (qh p0 s)) (fun r=>sd p0 r) o:=by
 obtain⟨p1,p2⟩:=s
 rw [cG TT ES Pm]
 revert hF
 unfold mz
 try dsimp only
 refine ip (fun h1=>az fun x1 h2=>?_) ?_
 have g1:decide (0<=p2)=true:=(cp h2).1
 have g2:(ah bY p0)[(p2:Int).toNat]? =some [.s x1]:=cn _ h2
 refine az fun x2 h3=>?_
 have g3:=bK (iZ x1 _ h3)
 refine az fun x3 h4=>?_
 have g4:=bK (iF p1 x2 _ h4)
 all_goals (rintro⟨⟩;intros;show cN _ _ _ (aH _ _ _ _ (Code.seq _ _) _)=_;simp (maxSteps:=4000000) only [*,qh,sd,qaO,N5,Rh,JY,Wk,↓RP,RB,RC,↓ab,Nat.reduceBEq,List.map,jA,↓ao,↓am,↓aa,ty3,ty9,pg,rG])
theorem CC (C:aj) (iZ:kb C) (iF:jS C) (p0:List ByteArray) (r:(List Int)) (hF:od p0=some r):cR TT C.wide (evW TT C.wide ES PI) ES Try.f113.results.toList (aU Try.f113) [.v (.sl 1 (ah bY p0))] []=some (.own 1 (ah cE r),[]):=by
 revert hF
 unfold od
 refine az ?_
 rintro x1 h1
 have g1:=cH _ _ (yL C iZ iF p0) h1
 try simp only [qh,sd] at g1
 all_goals (rintro⟨⟩;rw [bk];show cC _ _ _ (aH _ _ _ _ (Code.seq _ _) _)=_;simp (maxSteps:=4000000) only [*,RK,Rh,JY,↓RP,RB,RC,Nat.reduceBEq,List.map,Nat.reduceMul,Nat.reduceLeDiff,bne,↓ao,↓aa,ty3,ty5,pg,rG])
def GJ:List (Nat×List Nat):=[(0,[1]),(1,[1,3,13,18,25,41,50,55,62,78,87]),(2,[1,3,13,18,25,41,50,55,62,78,87]),(3,[1,3,13,18,25,41,50,55,62,78,87]),(4,[1,3,4,13,18,25,41,50,55,62,78,87]),(5,[1,3,4,13,18,25,30,41,50,55,62,78,87]),(6,[1,3,4,13,18,25,41,50,55,62,78,87]),(7,[1,3,4,13,18,25,41,50,55,62,78,87]),(8,[1,3,4,13,18,25,41,50,55,62,78,87]),(9,[1,3,13,18,25,41,50,55,62,78,87]),(10,[1,3,13,18,25,41,50,55,62,78,87]),(11,[1,3,5,13,18,25,41,50,55,62,78,87]),(12,[1,3,5,13,18,25,41,50,55,62,67,78,87]),(13,[1,3,5,13,18,25,41,50,55,62,78,87]),(14,[1,3,5,13,18,25,41,50,55,62,78,87]),(15,[1,3,5,13,18,25,41,50,55,62,78,87]),(16,[2,3,13,18,25,41,50,55,62,78,87,88])]
def JH:List (Nat×List Nat×List Nat):=[(30,[1,3,4,13,18,25,41,50,55,62,78,87],[1,3,13,18,25,41,50,55,62,78,87]),(67,[1,3,5,13,18,25,41,50,55,62,78,87],[3,13,18,25,41,50,55,62,78,87])]
def yd:cL where
 keep:=ax GJ
 ro:=fun t=>t==1
 mv:=fun _=>false
 give:=fun _=>false
 free:=fun i=>match i with|1=>[(0,4),(1,4),(2,4),(3,4),(0,5),(1,5),(2,5),(3,5),(0,6),(1,6),(2,6),(3,6)]|_=>[]
 alive:=av JH
theorem Rq (t:Nat) (x:Bool) (e:Env) (S:bH):cK yd t x ⟨e,S⟩=atO (av JH t x) e S:=cF rfl t x e S
theorem Od (i:Nat):yd.keep i=ax GJ i:=rfl
theorem Sx (t:Nat):yd.ro t=(t==1):=rfl
theorem Jn (t:Nat):yd.mv t=(false):=rfl
theorem UI:yd.free 1= [(0,4),(1,4),(2,4),(3,4),(0,5),(1,5),(2,5),(3,5),(0,6),(1,6),(2,6),(3,6)]:=rfl
theorem Sc:Try.f112.results.toList= [.tmp 2]:=rfl
def IJ:Code:=aU Try.f112
def XA:Code:=(bE 0 (aU Try.f112)).getD .skip
theorem OR:bE 0 IJ=some XA:=rfl
def Xm:Code:=(bE 2 (aU Try.f112)).getD .skip
theorem OD:bE 2 IJ=some Xm:=rfl
def po (p0:ad) (s:(List Int)×Int):St:=⟨[(1,.rp (rGValue p0)),(3,.own 1 (ah cE s.1)),(4,.I s.2),(13,.bad),(18,.bad),(25,.bad),(41,.bad),(50,.bad),(55,.bad),(62,.bad),(78,.bad),(87,.bad)],[]⟩
def rC (p0:ad) (r:(List Int)):Option (Ex×St):=some (.normal,⟨[(1,.rp (rGValue p0)),(3,.own 1 (ah cE r)),(13,.bad),(18,.bad),(25,.bad),(41,.bad),(50,.bad),(55,.bad),(62,.bad),(78,.bad),(87,.bad)],[]⟩)
theorem yg (C:aj) (iZ:kb C) (iF:jS C) (p0:ad) (s:(List Int)×Int) (o:((List Int)×Int)⊕(List Int)) (hF:l9 p0 s=some o):evW TT C.wide yd IJ 0 (po p0 s)=Sum.elim (fun s=>evW TT C.wide yd IJ 0 (po p0 s)) (fun r=>rC p0 r) o:=by
 obtain⟨p1,p2⟩:=s
 rw [cG TT yd OR]
 revert hF
 unfold l9
 try dsimp only
 refine ip (fun h1=>az fun x1 h2=>?_) ?_
 have g1:decide (0<=p2)=true:=(cp h2).1
 have g2:(ah iw.row p0.iD)[(p2:Int).toNat]? =some (rGPair x1):=cn _ h2
 refine az fun x2 h3=>?_
 have g3:=bK (iZ x1.iv _ h3)
 refine az fun x3 h4=>?_
 have g4:=bK (iF p1 x2 _ h4)
 refine az fun x4 h5=>?_
 have g5:=bK (iZ x1.gi _ h5)
 refine az fun x5 h6=>?_
 have g6:=bK (iF x3 x4 _ h6)
 all_goals (rintro⟨⟩;intros;show cN _ _ _ (aH _ _ _ _ (Code.seq _ _) _)=_;simp (maxSteps:=4000000) only [*,rGPair,rGValue,po,rC,Rq,JH,Od,GJ,Jn,↓RP,RB,RC,↓ai,Nat.reduceBEq,List.map,jA,↓ao,↓am,↓aa,ty3,ty9,pg,wb,pK,xP])
def pm (p0:ad) (s:(List Int)×Int):St:=⟨[(1,.rp (rGValue p0)),(3,.own 1 (ah cE s.1)),(5,.I s.2),(13,.bad),(18,.bad),(25,.bad),(41,.bad),(50,.bad),(55,.bad),(62,.bad),(78,.bad),(87,.bad)],[]⟩
def rq (p0:ad) (r:(List Int)):Option (Ex×St):=some (.normal,⟨[(3,.own 1 (ah cE r)),(13,.bad),(18,.bad),(25,.bad),(41,.bad),(50,.bad),(55,.bad),(62,.bad),(78,.bad),(87,.bad)],[]⟩)
theorem xQ (C:aj) (iZ:kb C) (iF:jS C) (jX:pb C) (p0:ad) (s:(List Int)×Int) (o:((List Int)×Int)⊕(List Int)) (hF:lZ p0 s=some o):evW TT C.wide yd IJ 2 (pm p0 s)=Sum.elim (fun s=>evW TT C.wide yd IJ 2 (pm p0 s)) (fun r=>rq p0 r) o:=by
 obtain⟨p1,p2⟩:=s
 rw [cG TT yd OD]
 revert hF
 unfold lZ
 try dsimp only
 refine ip (fun h1=>az fun x1 h2=>?_) ?_
 have g1:decide (0<=p2)=true:=(cp h2).1
 have g2:(ah ae.row p0.cO)[(p2:Int).toNat]? =some (rGScore x1):=cn _ h2
 refine az fun x2 h3=>?_
 have g3:=bK (iZ x1.iU _ h3)
 refine az fun x3 h4=>?_
 have g4:=bK (iF p1 x2 _ h4)
 refine az fun x4 h5=>?_
 have g5:=bK (jX x1.fN _ h5)
 refine az fun x5 h6=>?_
 have g6:=bK (iF x3 x4 _ h6)
 all_goals (rintro⟨⟩;intros;show cN _ _ _ (aH _ _ _ _ (Code.seq _ _) _)=_;simp (maxSteps:=4000000) only [*,rGScore,rGValue,pm,rq,Rq,JH,Od,GJ,Jn,↓RP,RB,RC,↓ai,Nat.reduceBEq,List.map,jA,↓ao,↓am,↓aa,ty3,ty9,pg,sY,pK,sQ])
theorem As (C:aj) (iZ:kb C) (jX:pb C) (iF:jS C) (qA:qz C) (p0:ad) (r:(List Int)) (hF:og p0=some r):cR TT C.wide (evW TT C.wide yd IJ) yd Try.f112.results.toList (aU Try.f112) [.agg (cGValue p0)] []=some (.own 1 (ah cE r),[]):=by
 revert hF
 unfold og
 refine az fun x1 h1=>?_
 have g1:=bK (iZ p0.gi _ h1)
 refine mt fun h2=>az fun x2 h3=>?_
 have g2:=bK (jX p0.i8 _ h3)
 refine az fun x3 h4=>?_
 have g3:=bK (iF ((IntKind.u8.wrap p0.af)::x1) x2 _ h4)
 refine mt fun h5=>az ?_
 rintro x4 h6
 unfold tf
 have g4:=cH _ _ (yg C iZ iF p0) h6
 try simp only [po,rC] at g4
 refine az fun x5 h7=>?_
 have g5:=bK (qA p0.iG _ h7)
 refine az fun x6 h8=>?_
 have g6:=bK (iF x4 x5 _ h8)
 refine mt fun h9=>az ?_
 rintro x7 h10
 have g7:=cH _ _ (xQ C iZ iF jX p0) h10
 try simp only [pm,rq] at g7
 all_goals (rintro⟨⟩;rw [bk];show cC _ _ _ (aH _ _ _ _ (Code.seq _ _) _)=_;simp (maxSteps:=4000000) only [*,cGValue,rGValue,Sc,Od,GJ,UI,Sx,Jn,↓RP,RB,RC,Nat.reduceBEq,bP,List.map,Nat.reduceMul,Nat.reduceLeDiff,jA,bne,↓ao,↓aa,↓aq,ty3,ty5,ty9,pg,wb,rG,sY,pK])
def MR:List (Nat×List Nat):=[(0,[1]),(1,[1,3,18,37,42,47,52,59,76,81,86,93,99,105,111]),(2,[1,3,4,18,37,42,47,52,59,76,81,86,93,99,105,111]),(3,[1,3,4,18,24,37,42,47,52,59,76,81,86,93,99,105,111]),(4,[1,3,4,18,37,42,47,52,59,76,81,86,93,99,105,111]),(5,[1,3,4,5,18,37,42,47,52,59,76,81,86,93,99,105,111]),(6,[1,3,4,5,18,37,42,47,52,59,76,81,86,93,99,105,111]),(7,[1,3,4,5,18,37,42,47,52,59,76,81,86,93,99,105,111]),(8,[1,3,4,18,37,42,47,52,59,76,81,86,93,99,105,111]),(9,[1,3,18,37,42,47,52,59,76,81,86,93,99,105,111]),(10,[1,3,18,37,42,47,52,59,76,81,86,93,99,105,111]),(11,[1,3,6,18,37,42,47,52,59,76,81,86,93,99,105,111]),(12,[1,3,6,18,37,42,47,52,59,64,76,81,86,93,99,105,111]),(13,[1,3,6,18,37,42,47,52,59,76,81,86,93,99,105,111]),(14,[1,3,6,7,18,37,42,47,52,59,76,81,86,93,99,105,111]),(15,[1,3,6,7,18,37,42,47,52,59,76,81,86,93,99,105,111]),(16,[1,3,6,7,18,37,42,47,52,59,76,81,86,93,99,105,111]),(17,[1,3,6,7,18,37,42,47,52,59,76,81,86,93,99,105,111]),(18,[1,3,6,7,18,37,42,47,52,59,76,81,86,93,99,105,111]),(19,[1,3,6,7,18,37,42,47,52,59,76,81,86,93,99,105,111]),(20,[1,3,6,7,18,37,42,47,52,59,76,81,86,93,99,105,111]),(21,[1,3,6,18,37,42,47,52,59,76,81,86,93,99,105,111]),(22,[2,3,18,37,42,47,52,59,76,81,86,93,99,105,111,112])]
def Qg:List (Nat×List Nat×List Nat):=[(24,[1,3,4,18,37,42,47,52,59,76,81,86,93,99,105,111],[1,3,18,37,42,47,52,59,76,81,86,93,99,105,111]),(64,[1,3,6,18,37,42,47,52,59,76,81,86,93,99,105,111],[3,18,37,42,47,52,59,76,81,86,93,99,105,111])]
def n89:cL where
 keep:=ax MR
 ro:=fun t=>t==1
 mv:=fun _=>false
 give:=fun _=>false
 free:=fun i=>match i with|1=>[(0,4),(1,4),(2,4),(3,4),(0,5),(1,5),(2,5),(3,5),(0,6),(1,6),(2,6),(3,6),(0,7),(1,7),(2,7),(3,7),(0,8),(1,8),(2,8),(3,8),(0,9),(1,9),(2,9),(3,9)]|_=>[]
 alive:=av Qg
theorem YT (t:Nat) (x:Bool) (e:Env) (S:bH):cK n89 t x ⟨e,S⟩=atO (av Qg t x) e S:=cF rfl t x e S
theorem Uw (i:Nat):n89.keep i=ax MR i:=rfl
theorem Zp (t:Nat):n89.ro t=(t==1):=rfl
theorem MO (t:Nat):n89.mv t=(false):=rfl
theorem Re (t:Nat):n89.give t=(false):=rfl
theorem ZZ:n89.free 1= [(0,4),(1,4),(2,4),(3,4),(0,5),(1,5),(2,5),(3,5),(0,6),(1,6),(2,6),(3,6),(0,7),(1,7),(2,7),(3,7),(0,8),(1,8),(2,8),(3,8),(0,9),(1,9),(2,9),(3,9)]:=rfl
theorem Ys:Try.f89.results.toList= [.tmp 2]:=rfl
def b89:Code:=aU Try.f89
def qbY:Code:=(bE 0 (aU Try.f89)).getD .skip
theorem UU:bE 0 b89=some qbY:=rfl
def qbs:Code:=(bE 2 (aU Try.f89)).getD .skip
theorem V4:bE 2 b89=some qbs:=rfl
def nM (p0:cc) (s:(List Int)×Int):St:=⟨[(1,.rp (rGMachine p0)),(3,.own 1 (ah cE s.1)),(4,.I s.2),(18,.bad),(37,.bad),(42,.bad),(47,.bad),(52,.bad),(59,.bad),(76,.bad),(81,.bad),(86,.bad),(93,.bad),(99,.bad),(105,.bad),(111,.bad)],[]⟩
def qq (p0:cc) (r:(List Int)):Option (Ex×St):=some (.normal,⟨[(1,.rp (rGMachine p0)),(3,.own 1 (ah cE r)),(18,.bad),(37,.bad),(42,.bad),(47,.bad),(52,.bad),(59,.bad),(76,.bad),(81,.bad),(86,.bad),(93,.bad),(99,.bad),(105,.bad),(111,.bad)],[]⟩)
theorem wX (C:aj) (iZ:kb C) (iF:jS C) (tV:uf C) (jX:pb C) (p0:cc) (s:(List Int)×Int) (o:((List Int)×Int)⊕(List Int)) (hF:ln p0 s=some o):evW TT C.wide n89 b89 0 (nM p0 s)=Sum.elim (fun s=>evW TT C.wide n89 b89 0 (nM p0 s)) (fun r=>qq p0 r) o:=by
 obtain⟨p1,p2⟩:=s
 rw [cG TT n89 UU]
 revert hF
 unfold ln
 try dsimp only
 refine ip (fun h1=>?_) ?_
 unfold oz
 refine az fun x1 h2=>?_
 have g1:decide (0<=p2)=true:=(cp h2).1
 have g2:(ah hM.row p0.iA.im)[(p2:Int).toNat]? =some (rGEntry x1):=cn _ h2
 refine az fun x2 h3=>?_
 have g3:=bK (iZ x1.jj _ h3)
 refine az fun x3 h4=>?_
 have g4:=bK (iF p1 x2 _ h4)
 refine az fun x4 h5=>?_
 have g5:=bK (tV x1.jG _ h5)
 refine az fun x5 h6=>?_
 have g6:=bK (iF x3 x4 _ h6)
 refine az fun x6 h7=>?_
 have g7:=bK (jX x1.km _ h7)
 refine az fun x7 h8=>?_
 have g8:=bK (iF x5 x6 _ h8)
 all_goals (rintro⟨⟩;intros;show cN _ _ _ (aH _ _ _ _ (Code.seq _ _) _)=_;simp (maxSteps:=4000000) only [*,rGEntry,rGMachine,nM,qq,YT,Qg,Uw,MR,MO,Re,↓RP,RB,RC,↓ai,Nat.reduceBEq,bP,List.map,Nat.reduceAdd,Nat.reduceLeDiff,jA,bne,↓ao,↓am,↓aa,aP,ty3,ty9,pg,xq,uQ,un,pK,FJ])
def nG (p0:cc) (s:(List Int)×Int):St:=⟨[(1,.rp (rGMachine p0)),(3,.own 1 (ah cE s.1)),(6,.I s.2),(18,.bad),(37,.bad),(42,.bad),(47,.bad),(52,.bad),(59,.bad),(76,.bad),(81,.bad),(86,.bad),(93,.bad),(99,.bad),(105,.bad),(111,.bad)],[]⟩
def qr (p0:cc) (r:(List Int)):Option (Ex×St):=some (.normal,⟨[(3,.own 1 (ah cE r)),(18,.bad),(37,.bad),(42,.bad),(47,.bad),(52,.bad),(59,.bad),(76,.bad),(81,.bad),(86,.bad),(93,.bad),(99,.bad),(105,.bad),(111,.bad)],[]⟩)
theorem xa (C:aj) (jX:pb C) (iF:jS C) (iZ:kb C) (qA:qz C) (p0:cc) (s:(List Int)×Int) (o:((List Int)×Int)⊕(List Int)) (hF:ls p0 s=some o):evW TT C.wide n89 b89 2 (nG p0 s)=Sum.elim (fun s=>evW TT C.wide n89 b89 2 (nG p0 s)) (fun r=>qr p0 r) o:=by
 obtain⟨p1,p2⟩:=s
 rw [cG TT n89 V4]
 revert hF
 unfold ls
 try dsimp only
 refine ip (fun h1=>?_) ?_
 unfold oA
 refine az fun x1 h2=>?_
 have g1:decide (0<=p2)=true:=(cp h2).1
 have g2:(ah f7.row p0.ir)[(p2:Int).toNat]? =some (rGClient x1):=cn _ h2
 refine az fun x2 h3=>?_
 have g3:=bK (jX x1.fId _ h3)
 refine az fun x3 h4=>?_
 have g4:=bK (iF p1 x2 _ h4)
 refine az fun x4 h5=>?_
 have g5:=bK (jX x1.jT _ h5)
 refine az fun x5 h6=>?_
 have g6:=bK (iF x3 x4 _ h6)
 refine az fun x6 h7=>?_
 have g7:=bK (jX x1.i6 _ h7)
 refine az fun x7 h8=>?_
 unfold om
 have g8:=bK (iF x5 x6 _ h8)
 refine mt fun h9=>az fun x8 h10=>?_
 have g9:=bK (iZ x1.jd.gi _ h10)
 refine az fun x9 h11=>?_
 have g10:=bK (iF (x7++ [(IntKind.u8.wrap x1.jd.ky)]) x8 _ h11)
 refine az fun x10 h12=>?_
 have g11:=bK (jX x1.jd.fN _ h12)
 refine az fun x11 h13=>?_
 have g12:=bK (iF x9 x10 _ h13)
 refine az fun x12 h14=>?_
 have g13:=bK (qA x1.jd.jW _ h14)
 refine az fun x13 h15=>?_
 have g14:=bK (iF x11 x12 _ h15)
 all_goals (rintro⟨⟩;intros;show cN _ _ _ (aH _ _ _ _ (Code.seq _ _) _)=_;simp (maxSteps:=4000000) only [*,rGClient,rGMachine,nG,qr,YT,Qg,Uw,MR,MO,Re,↓RP,RB,RC,↓ai,Nat.reduceBEq,bP,List.map,Nat.reduceAdd,Nat.reduceMul,Nat.reduceLeDiff,jA,bne,↓ao,↓am,↓aa,ty3,ty5,ty9,pg,xt,un,mR,rG,Cb,GB])
theorem yF (C:aj) (jX:pb C) (iF:jS C) (iZ:kb C) (tV:uf C) (qA:qz C) (p0:cc) (r:(List Int)) (hF:mN p0=some r):cR TT C.wide (evW TT C.wide n89 b89) n89 Try.f89.results.toList (aU Try.f89) [.agg (cGMachine p0)] []=some (.own 1 (ah cE r),[]):=by
 revert hF
 unfold mN
 refine az fun x1 h1=>?_
 have g1:=bK (jX p0.iA.jv _ h1)
 refine mt fun h2=>az ?_
 rintro x2 h3
 unfold ry
 have g2:=cH _ _ (wX C iZ iF tV jX p0) h3
 try simp only [nM,qq] at g2
 refine az fun x3 h4=>?_
 have g3:=bK (jX p0.ji _ h4)
 refine az fun x4 h5=>?_
 have g4:=bK (iF x2 x3 _ h5)
 refine mt fun h6=>az ?_
 rintro x5 h7
 have g5:=cH _ _ (xa C jX iF iZ qA p0) h7
 try simp only [nG,qr] at g5
 all_goals (rintro⟨⟩;rw [bk];show cC _ _ _ (aH _ _ _ _ (Code.seq _ _) _)=_;simp (maxSteps:=4000000) only [*,cGMachine,rGMachine,Ys,Uw,MR,ZZ,Zp,MO,↓RP,RB,RC,Nat.reduceBEq,bP,List.map,Nat.reduceMul,Nat.reduceLeDiff,jA,bne,↓ao,↓aa,↓aq,ty3,ty5,pg,xq,uQ,xt,un])
def XK:List (Nat×List Nat):=[(0,[1]),(1,[1,6]),(2,[2,17,29,46]),(3,[1,20]),(4,[2,17,29,46]),(5,[1,3,40]),(6,[2,17,29,46])]
def X7:List (Nat×List Nat×List Nat):=[(6,[1],[1]),(20,[1],[1])]
def n64:cL where
 keep:=ax XK
 ro:=fun t=>t==1
 mv:=fun _=>false
 give:=fun _=>false
 free:=fun i=>match i with|2=>[(0,1),(0,2),(0,3),(0,5),(1,5),(2,5),(3,5),(4,5),(0,6),(1,6),(2,6),(3,6),(4,6),(0,7),(1,7),(2,7),(3,7),(4,7),(0,8),(1,8),(2,8),(3,8),(4,8),(0,9),(1,9),(2,9),(3,9),(4,9)]|4=>[(0,1),(0,2),(0,3),(0,5),(1,5),(2,5),(3,5),(4,5),(0,6),(1,6),(2,6),(3,6),(4,6)]|5=>[(0,1),(0,2),(0,3),(0,4),(0,6),(1,6),(2,6),(3,6),(4,6),(5,6),(0,7),(1,7),(2,7),(3,7),(4,7),(5,7),(0,8),(1,8),(2,8),(3,8),(4,8),(5,8)]|_=>[]
 alive:=av X7
theorem qdy (t:Nat) (x:Bool) (e:Env) (S:bH):cK n64 t x ⟨e,S⟩=atO (av X7 t x) e S:=cF rfl t x e S
theorem qc5 (i:Nat):n64.keep i=ax XK i:=rfl
theorem qaY (t:Nat):n64.ro t=(t==1):=rfl
theorem qaZ (t:Nat):n64.mv t=(false):=rfl
theorem ZR:n64.free 2= [(0,1),(0,2),(0,3),(0,5),(1,5),(2,5),(3,5),(4,5),(0,6),(1,6),(2,6),(3,6),(4,6),(0,7),(1,7),(2,7),(3,7),(4,7),(0,8),(1,8),(2,8),(3,8),(4,8),(0,9),(1,9),(2,9),(3,9),(4,9)]:=rfl
theorem Zi:n64.free 4= [(0,1),(0,2),(0,3),(0,5),(1,5),(2,5),(3,5),(4,5),(0,6),(1,6),(2,6),(3,6),(4,6)]:=rfl
theorem Z1:n64.free 5= [(0,1),(0,2),(0,3),(0,4),(0,6),(1,6),(2,6),(3,6),(4,6),(5,6),(0,7),(1,7),(2,7),(3,7),(4,7),(5,7),(0,8),(1,8),(2,8),(3,8),(4,8),(5,8)]:=rfl
theorem ZN:Try.f64.results.toList= [.tmp 2]:=rfl
def b64:Code:=aU Try.f64
theorem z5 (C:aj) (sg:ua C) (iF:jS C) (BW:uE C) (yG:vh C) (p0:iu) (r:(List Int)) (hF:lH p0=some r):cR TT C.wide (evW TT C.wide n64 b64) n64 Try.f64.results.toList (aU Try.f64) [.agg (cGRecord p0)] []=some (.own 1 (ah cE r),[]):=by
 revert hF
 unfold lH
 refine aX (fun h1=>?_) (fun h1=>?_)
 focus
  refine az fun x1 h2=>?_
  have g1:=bK (sg p0.iO _ h2)
  refine az fun x2 h3=>?_
  have g2:=bK (iF [1] x1 _ h3)
  refine mt fun h4=>?_
 rotate_left 1
 unfold qg
 refine aX (fun h2=>?_) (fun h2=>?_)
 focus
  refine az fun x1 h3=>?_
  have g3:=bK (sg p0.jg _ h3)
  refine az fun x2 h4=>?_
  have g4:=bK (iF [2] x1 _ h4)
  refine az fun x3 h5=>?_
  have g5:=bK (BW p0.iN _ h5)
  refine az fun x4 h6=>?_
  have g6:=bK (iF x2 x3 _ h6)
 rotate_left 1
 unfold sm
 refine az fun x1 h3=>?_
 have g7:=bK (sg p0.iS.jg _ h3)
 refine az fun x2 h4=>?_
 have g8:=bK (iF [3] x1 _ h4)
 refine az fun x3 h5=>?_
 have g9:=bK (sg p0.iS.iO _ h5)
 refine az fun x4 h6=>?_
 have g6:=bK (iF x2 x3 _ h6)
 refine az fun x5 h7=>?_
 have g10:=bK (yG p0.iS.iC _ h7)
 refine az fun x6 h8=>?_
 have g11:=bK (iF x4 x5 _ h8)
 all_goals (rintro⟨⟩;rw [bk];show cC _ _ _ (aH _ _ _ _ (Code.seq _ _) _)=_;simp (maxSteps:=4000000) only [*,cGRecord,ZN,qdy,X7,qc5,XK,ZR,Zi,Z1,qaY,qaZ,↓RP,RB,RC,Nat.reduceBEq,bP,List.map,Nat.reduceAdd,Nat.reduceMul,Nat.reduceLeDiff,jA,bne,↓ao,↓am,↓aa,↓aq,ty3,ty5,pg,un,z1,yk,A6])
def Tv:List (Nat×List Nat):=[(0,[2,3,4]),(1,[2,3,4,11]),(2,[4,5]),(3,[2,3,4,6]),(4,[2,3,4,6,16]),(5,[4,5]),(6,[2,4,7,20]),(7,[2,4,8,25]),(8,[2,4,8,25,32]),(9,[4,5]),(10,[4,5])]
def Tz:List (Nat×List Nat×List Nat):=[(11,[4],[2,3,4]),(16,[4,6],[2,3,4]),(32,[4],[2,4,8,25])]
def n21:cL where
 keep:=ax Tv
 ro:=fun t=>t==2||t==3
 mv:=fun _=>false
 give:=fun _=>false
 free:=fun i=>match i with|10=>[(0,2),(1,2),(0,4),(1,4),(2,4),(3,4),(0,5),(1,5),(2,5),(3,5)]|_=>[]
 alive:=av Tz
theorem qcO (t:Nat) (x:Bool) (e:Env) (S:bH):cK n21 t x ⟨e,S⟩=atO (av Tz t x) e S:=cF rfl t x e S
theorem qdB (i:Nat):n21.keep i=ax Tv i:=rfl
theorem qco (t:Nat):n21.ro t=(t==2||t==3):=rfl
theorem qbE (t:Nat):n21.mv t=(false):=rfl
theorem qaE (t:Nat):n21.give t=(false):=rfl
theorem Yb:n21.free 10= [(0,2),(1,2),(0,4),(1,4),(2,4),(3,4),(0,5),(1,5),(2,5),(3,5)]:=rfl
theorem Zs:Try.f21.results.toList= [.cell 4 58,.tmp 5]:=rfl
def b21:Code:=aU Try.f21
theorem zg (C:aj) (G9:wl C) (Ad:sW C) (zZ:v4 C) (sg:ua C) (iF:jS C) (p0:iK) (p1:iu) (r:iK×Int) (hF:mO p0 p1=some r):cR TT C.wide (evW TT C.wide n21 b21) n21 Try.f21.results.toList (aU Try.f21) [.agg (cGTape p0),.agg (cGRecord p1)] []=some (.tup [.agg (cGTape r.1),.I r.2],[]):=by
 revert hF
 unfold mO
 have g1:=bK (G9 p0 _ (GI p0))
 refine ip (fun h1=>?_) ?_
 unfold re
 refine az fun x1 h2=>?_
 have g2:=bK (Ad p1 _ h2)
 refine ip (fun h3=>az fun x2 h4=>?_) ?_
 have g3:=bK (zZ p1 _ h4)
 refine az fun x3 h5=>?_
 have g4:=bK (sg (x2.length:Int) _ h5)
 refine az fun x4 h6=>?_
 have g5:=bK (iF x3 x2 _ h6)
 refine iq (fun h7=>az fun x5 h8=>?_) ?_
 have g6:=bK (iF p0.j9 x4 _ h8)
 all_goals (rintro⟨⟩;intros;rw [bk];show cC _ _ _ (aH _ _ _ _ (Code.seq _ _) _)=_;simp (maxSteps:=4000000) only [*,cGRecord,cGTape,Zs,qcO,Tz,qdB,Tv,Yb,qco,qbE,qaE,↓RP,RB,RC,Nat.reduceBEq,bP,List.map,Nat.reduceAdd,Nat.reduceLeDiff,jA,bne,↓ao,↓am,↓aa,↓aq,ty3,pg,mR,A6,E4])
def V9:List (Nat×List Nat):=[(0,[2,3]),(1,[4])]
def n22:cL where
 keep:=ax V9
 ro:=fun t=>t==2||t==3
 mv:=fun _=>false
 give:=fun _=>false
 free:=fun _=>[]
theorem qdW (i:Nat):n22.keep i=ax V9 i:=rfl
theorem ZK (t:Nat):n22.ro t=(t==2||t==3):=rfl
theorem qcv (t:Nat):n22.mv t=(false):=rfl
theorem Zd:Try.f22.results.toList= [.tmp 4]:=rfl
def b22:Code:=aU Try.f22
theorem FW (C:aj)  (p0:iK) (p1:iK) (r:Bool) (hF:pz p0 p1=some r):cR TT C.wide (evW TT C.wide n22 b22) n22 Try.f22.results.toList (aU Try.f22) [.agg (cGTape p0),.agg (cGTape p1)] []=some (.v (.b r),[]):=by
 revert hF
 unfold pz
 refine ip (fun h1=>mt fun h2=>mt fun h3=>?_) ?_
 all_goals (rintro⟨⟩;intros;rw [bk];show cC _ _ _ (aH _ _ _ _ (Code.seq _ _) _)=_;simp (maxSteps:=4000000) only [*,cGTape,Zd,qdW,V9,ZK,qcv,↓RP,RB,RC,Nat.reduceBEq,bP,List.map,Nat.reduceAdd,↓ao,↓aa,ty3,ty4,ty5,ty9,pg,E4])
end Go.Proofs.Ytgcglmoogaldbaa
