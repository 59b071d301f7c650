/- The code of these functions, run by the machine Mx, gives what the plain functions say, if their callees do (part 3). -/
import Derived.Test.YtgcglmoogaldbaaGreatWTy
import Derived.Test.YtgcglmoogaldbaaGreatTapeRecoversD
set_option linter.unusedSimpArgs false
set_option linter.unusedVariables false
set_option linter.constructorNameAsVariable false
set_option linter.unnecessarySimpa false
set_option maxRecDepth 100000
set_option maxHeartbeats 40000000
namespace Go.Proofs.YtgcglmoogaldbaaGreat
open Go Go.Mx Go.Proofs
def MX:List (Nat×List Nat):=[(0,[1]),(1,[1,24]),(2,[2]),(3,[1,26,27,28]),(4,[1,26,27,28,29]),(5,[1,3,4,26,27,28]),(6,[1,4,26,27,28,58]),(7,[2]),(8,[1,26,27,28,85]),(9,[2]),(10,[1,26,27,28]),(11,[2])]
def U1:List (Nat×List Nat×List Nat):=[(24,[],[1]),(29,[1,26,27,28],[]),(58,[],[1,4,26,27,28]),(85,[],[1,26,27,28])]
def n55:cL where
 keep:=ax MX
 ro:=fun t=>t==1
 mv:=fun _=>false
 give:=fun _=>false
 free:=fun i=>match i with|6=>[(4,6),(5,6),(4,7),(5,7),(14,16),(15,16),(14,17),(15,17),(14,21),(15,21),(16,21),(17,21),(18,21),(19,21),(20,21),(14,22),(15,22),(16,22),(17,22),(18,22),(19,22),(20,22)]|_=>[]
 alive:=av U1
theorem qey (t:Nat) (x:Bool) (e:Env) (S:bH):cK n55 t x ⟨e,S⟩=atO (av U1 t x) e S:=cF rfl t x e S
theorem Si (i:Nat):n55.keep i=ax MX i:=rfl
theorem qdx (t:Nat):n55.ro t=(t==1):=rfl
theorem KK (t:Nat):n55.mv t=(false):=rfl
theorem qek (t:Nat):n55.give t=(false):=rfl
theorem qfK:n55.free 6= [(4,6),(5,6),(4,7),(5,7),(14,16),(15,16),(14,17),(15,17),(14,21),(15,21),(16,21),(17,21),(18,21),(19,21),(20,21),(14,22),(15,22),(16,22),(17,22),(18,22),(19,22),(20,22)]:=rfl
theorem qgy:Tryz.f55.results.toList= [.tmp 2]:=rfl
noncomputable def b55:Code:=aU Tryz.f55
noncomputable def qgR:Code:=(bE 0 (aU Tryz.f55)).getD .skip
theorem ZP:bE 0 b55=some qgR:=rfl
theorem Of (C:aj) (wO:uP C) (p0:iv) (c:Code) (ho:cD 0 1 b55=some c) (r:Bool) (hF:xa p0=some r): @cV TT C.wide (evW TT C.wide n55 b55) n55 0 1 ⟨[(1,.rp [.i .i64 p0.af.iL,.sl 8 (ah ip.row p0.af.bi),.i .i64 p0.iG,.sl 7 (ah gi.row p0.bz)])],[]⟩ ⟨c⟩=some (.normal,⟨[(1,.rp [.i .i64 p0.af.iL,.sl 8 (ah ip.row p0.af.bi),.i .i64 p0.iG,.sl 7 (ah gi.row p0.bz)]),(24,.v (.b r))],[]⟩):=by
 have e:=Option.some.inj (ho.symm.trans (rfl:cD 0 1 b55=some _))
 subst e
 clear ho
 show aH _ _ _ _ _ _=_
 revert hF
 unfold xa
 refine az fun x1 h1=>?_
 have g1:=bK (wO p0.af _ h1)
 refine bF (fun h2=>?_) (fun h2=>?_)
 rotate_left 1
 refine aX (fun h3=>?_) (fun h3=>?_)
 rotate_left 1
 refine aX (fun h4=>?_) (fun h4=>?_)
 rotate_left 1
 all_goals (rintro⟨⟩;simp (maxSteps:=4000000) only [*,Si,MX,KK,↓RP,RB,RC,Nat.reduceBEq,List.map,Nat.reduceAdd,bne,ty3,mD,wv,Ab,u4,↓aa _ _ _ _ 1])
theorem Kv (C:aj)  (p0:iv) (p1:Int) (p2:List gi) (p3:Int) (p4:gi) (c:Code) (ho:cD 0 6 b55=some c) (r:Bool) (hF:u9 p0 p1 p2 p3 p4=some r): @cV TT C.wide (evW TT C.wide n55 b55) n55 0 6 ⟨[(1,.rp [.i .i64 p0.af.iL,.sl 8 (ah ip.row p0.af.bi),.i .i64 p0.iG,.sl 7 (ah gi.row p0.bz)]),(3,.v (.i .i64 p1)),(4,.ptr 0 0),(26,.v (.sl 7 (ah gi.row p2))),(27,.v (.i .i64 p3)),(28,.v (.i .i64 p1))],[[.v (.i .i64 p4.fId),.v (.i .i64 p4.je),.v (.i .i64 p4.iS),.v (.i .i64 p4.iX.jW),.v (.s p4.iX.iq),.v (.i .i64 p4.iX.fN),.v (.sl 1 (ah bY p4.iX.jH))]]⟩ ⟨c⟩=some (.normal,⟨[(1,.rp [.i .i64 p0.af.iL,.sl 8 (ah ip.row p0.af.bi),.i .i64 p0.iG,.sl 7 (ah gi.row p0.bz)]),(4,.ptr 0 0),(26,.v (.sl 7 (ah gi.row p2))),(27,.v (.i .i64 p3)),(28,.v (.i .i64 p1)),(58,.v (.b r))],[[.v (.i .i64 p4.fId),.v (.i .i64 p4.je),.v (.i .i64 p4.iS),.v (.i .i64 p4.iX.jW),.v (.s p4.iX.iq),.v (.i .i64 p4.iX.fN),.v (.sl 1 (ah bY p4.iX.jH))]]⟩):=by
 have e:=Option.some.inj (ho.symm.trans (rfl:cD 0 6 b55=some _))
 subst e
 clear ho
 show aH _ _ _ _ _ _=_
 revert hF
 unfold u9
 refine aX (fun h1=>?_) (fun h1=>?_)
 rotate_left 1
 refine aX (fun h2=>?_) (fun h2=>?_)
 rotate_left 1
 refine bF (fun h3=>?_) (fun h3=>?_)
 rotate_left 1
 refine az fun x1 h4=>?_
 have g1:decide (0<=(IntKind.i64.wrap (p1-1)))=true:=(cp h4).1
 have g2:(ah gi.row p0.bz)[((IntKind.i64.wrap (p1-1)):Int).toNat]? =some [.i .i64 x1.fId,.i .i64 x1.je,.i .i64 x1.iS,.i .i64 x1.iX.jW,.s x1.iX.iq,.i .i64 x1.iX.fN,.sl 1 (ah bY x1.iX.jH)]:=cn _ h4
 all_goals (rintro⟨⟩;simp (maxSteps:=4000000) only [*,Si,MX,qfK,KK,↓RP,RB,RC,Nat.reduceBEq,List.map,Nat.reduceSub,ty3,Ab,u4,A5,↓aq _ _ _ _ 6])
theorem Kj (C:aj) (uq:xJ C) (p0:iv) (p1:List gi) (p2:Int) (p3:Int) (p4:gi) (c:Code) (ho:cD 0 8 b55=some c) (r:Bool) (hF:uZ p0 p1 p2 p3 p4=some r): @cV TT C.wide (evW TT C.wide n55 b55) n55 0 8 ⟨[(1,.rp [.i .i64 p0.af.iL,.sl 8 (ah ip.row p0.af.bi),.i .i64 p0.iG,.sl 7 (ah gi.row p0.bz)]),(4,.ptr 0 0),(26,.v (.sl 7 (ah gi.row p1))),(27,.v (.i .i64 p2)),(28,.v (.i .i64 p3))],[[.v (.i .i64 p4.fId),.v (.i .i64 p4.je),.v (.i .i64 p4.iS),.v (.i .i64 p4.iX.jW),.v (.s p4.iX.iq),.v (.i .i64 p4.iX.fN),.v (.sl 1 (ah bY p4.iX.jH))]]⟩ ⟨c⟩=some (.normal,⟨[(1,.rp [.i .i64 p0.af.iL,.sl 8 (ah ip.row p0.af.bi),.i .i64 p0.iG,.sl 7 (ah gi.row p0.bz)]),(26,.v (.sl 7 (ah gi.row p1))),(27,.v (.i .i64 p2)),(28,.v (.i .i64 p3)),(85,.v (.b r))],[[.v (.i .i64 p4.fId),.v (.i .i64 p4.je),.v (.i .i64 p4.iS),.v (.i .i64 p4.iX.jW),.v (.s p4.iX.iq),.v (.i .i64 p4.iX.fN),.v (.sl 1 (ah bY p4.iX.jH))]]⟩):=by
 have e:=Option.some.inj (ho.symm.trans (rfl:cD 0 8 b55=some _))
 subst e
 clear ho
 show aH _ _ _ _ _ _=_
 revert hF
 unfold uZ
 refine aX (fun h1=>?_) (fun h1=>?_)
 rotate_left 1
 refine aX (fun h2=>?_) (fun h2=>?_)
 rotate_left 1
 refine aX (fun h3=>?_) (fun h3=>?_)
 rotate_left 1
 refine aX (fun h4=>?_) (fun h4=>?_)
 rotate_left 1
 refine az fun x1 h5=>?_
 have g1:=bK (uq p4.iX _ h5)
 all_goals (rintro⟨⟩;simp (maxSteps:=4000000) only [*,Si,MX,KK,↓RP,RB,RC,Nat.reduceBEq,List.map,Nat.reduceAdd,bne,aP,ty3,mD,wv,u4,zR,A5,↓aa _ _ _ _ 8])
def yQ (p0:iv) (p1:List gi) (p2:Int) (s:Int):St:=⟨[(1,.rp [.i .i64 p0.af.iL,.sl 8 (ah ip.row p0.af.bi),.i .i64 p0.iG,.sl 7 (ah gi.row p0.bz)]),(26,.v (.sl 7 (ah gi.row p1))),(27,.v (.i .i64 p2)),(28,.v (.i .i64 s))],[]⟩
def AZ (p0:iv) (p1:List gi) (p2:Int) (r:gi⊕Unit):Option (Ex×St):=match r with
 | .inl r=>some (.ret,⟨[(2,.v (.i .i64 13))],[[.v (.i .i64 r.fId),.v (.i .i64 r.je),.v (.i .i64 r.iS),.v (.i .i64 r.iX.jW),.v (.s r.iX.iq),.v (.i .i64 r.iX.fN),.v (.sl 1 (ah bY r.iX.jH))]]⟩)
 | .inr r=>some (.normal,⟨[],[]⟩)
theorem KE (C:aj) (uq:xJ C) (p0:iv) (p1:List gi) (p2:Int) (p3:Int) (o:Int⊕(gi⊕Unit)) (hF:xy p0 p1 p2 p3=some o):evW TT C.wide n55 b55 0 (yQ p0 p1 p2 p3)=Sum.elim (fun s=>evW TT C.wide n55 b55 0 (yQ p0 p1 p2 s)) (fun r=>AZ p0 p1 p2 r) o:=by
 rw [cG TT n55 ZP]
 revert hF
 unfold xy
 try dsimp only
 refine bF (fun h1=>?_) (fun h1=>?_)
 rotate_left 1
 refine az fun x1 h2=>?_
 have g1:decide (0<=p3)=true:=(cp h2).1
 have g2:(ah gi.row p1)[(p3:Int).toNat]? =some [.i .i64 x1.fId,.i .i64 x1.je,.i .i64 x1.iS,.i .i64 x1.iX.jW,.s x1.iX.iq,.i .i64 x1.iX.fN,.sl 1 (ah bY x1.iX.jH)]:=cn _ h2
 refine az fun x2 h3=>?_
 have g3:=Kv C p0 p3 p1 p2 x1 _ rfl _ h3
 refine aX (fun h4=>?_) (fun h4=>?_)
 rotate_left 1
 refine az fun x3 h5=>?_
 have g4:=Kj C uq p0 p1 p2 p3 x1 _ rfl _ h5
 refine aX (fun h6=>?_) (fun h6=>?_)
 rotate_left 1
 all_goals (rintro⟨⟩;show cN _ _ _ (aH _ _ _ _ (Code.seq _ _) _)=_;simp (maxSteps:=4000000) only [*,yQ,AZ,qey,U1,Si,MX,KK,qek,↓RP,RB,RC,↓ai,Nat.reduceBEq,bP,List.map,Nat.reduceAdd,Nat.reduceLeDiff,bne,↓ao,↓am,ty3,mD,Ab,A5,↓aa _ _ _ _ 4,↓aa _ _ _ _ 5,↓bg _ _ _ _ 6,↓aa _ _ _ _ 7,↓bg _ _ _ _ 8,↓aa _ _ _ _ 9,↓aa _ _ _ _ 10])
theorem qd4 (C:aj) (wO:uP C) (uq:xJ C) (p0:iv) (r:Int) (hF:clC p0=some r):cR TT C.wide (evW TT C.wide n55 b55) n55 Tryz.f55.results.toList (aU Tryz.f55) [.agg [.v (.i .i64 p0.af.iL),.v (.sl 8 (ah ip.row p0.af.bi)),.v (.i .i64 p0.iG),.v (.sl 7 (ah gi.row p0.bz))]] []=some (.v (.i .i64 r),[]):=by
 revert hF
 unfold clC
 refine az fun x1 h1=>?_
 have g1:=Of C wO p0 _ rfl _ h1
 refine aX (fun h2=>?_) (fun h2=>?_)
 rotate_left 1
 refine az ?_
 rintro (x2|_) h3
 focus
  dsimp only
  have g2:=cH _ _ (KE C uq p0 p0.bz (p0.bz.length:Int)) h3
  try simp only [yQ,AZ] at g2
 rotate_left 1
 dsimp only
 have g3:=cH _ _ (KE C uq p0 p0.bz (p0.bz.length:Int)) h3
 try simp only [yQ,AZ] at g3
 all_goals (rintro⟨⟩;rw [bk];show cC _ _ _ (aH _ _ _ _ (Code.seq _ _) _)=_;simp (maxSteps:=4000000) only [*,qgy,qey,U1,Si,MX,qdx,KK,↓RP,RB,RC,Nat.reduceBEq,bP,List.map,↓ao,↓am,mD,Ab,u4,↓aa _ _ _ _ 0,↓bg _ _ _ _ 1,↓aa _ _ _ _ 2,↓aa _ _ _ _ 3,↓aa _ _ _ _ 11])
def qa1:List (Nat×List Nat):=[(0,[0,2]),(1,[0,2,10]),(2,[2,3]),(3,[2,4]),(4,[2,4,5]),(5,[2,4,5]),(6,[2,4,5]),(7,[2,4,5]),(8,[2,4,5]),(9,[2,5,6]),(10,[2,5,6,32]),(11,[2,3]),(12,[2,5,7]),(13,[2,5,7,38]),(14,[2,3]),(15,[2,3])]
def YE:List (Nat×List Nat×List Nat):=[(10,[2],[0,2]),(32,[2,6],[2,5]),(38,[2,7],[2,5])]
def n29:cL where
 keep:=ax qa1
 ro:=fun _=>false
 mv:=fun t=>t==41
 give:=fun _=>false
 free:=fun _=>[]
 alive:=av YE
theorem qhv (t:Nat) (x:Bool) (e:Env) (S:bH):cK n29 t x ⟨e,S⟩=atO (av YE t x) e S:=cF rfl t x e S
theorem qhm (i:Nat):n29.keep i=ax qa1 i:=rfl
theorem qez (t:Nat):n29.ro t=(false):=rfl
theorem qer (t:Nat):n29.mv t=(t==41):=rfl
theorem qgn (t:Nat):n29.give t=(false):=rfl
theorem qcY:Tryz.f29.results.toList= [.cell 2 39,.tmp 3]:=rfl
noncomputable def b29:Code:=aU Tryz.f29
theorem E9 (C:aj) (CV:vd C) (jR:kC C) (wR:oO C) (wT:sC C) (I3:C1 C) (PL:N2 C) (p0:List Int) (r:iv×Int) (hF:ns p0=some r):cR TT C.wide (evW TT C.wide n29 b29) n29 Tryz.f29.results.toList (aU Tryz.f29) [.v (.sl 1 (ah cE p0))] []=some (.tup [.agg [.v (.i .i64 r.1.af.iL),.v (.sl 8 (ah ip.row r.1.af.bi)),.v (.i .i64 r.1.iG),.v (.sl 7 (ah gi.row r.1.bz))],.v (.i .i64 r.2)],[]):=by
 revert hF
 unfold ns
 refine aX (fun h1=>?_) (fun h1=>?_)
 rotate_left 1
 refine az fun x1 h2=>?_
 have g1:=bK (CV p0 _ h2)
 refine az ?_
 rintro⟨x2,x3⟩ h3
 dsimp only
 unfold vP
 have g2:C.wide 61 [.ptr 1 0] [[.v (.i .i64 0),.own 8 [],.v (.i .i64 0),.own 7 []],[.v (.sl 1 (ah cE x1)),.v (.b false)],[.ptr 1 0],[.v (.i .i64 0),.own 8 [],.v (.i .i64 0),.own 7 []]]=some (.v (.i .i64 x2),[[.v (.i .i64 0),.own 8 [],.v (.i .i64 0),.own 7 []],[.v (.sl 1 (ah cE x3.frest)),.v (.b x3.fshort)],[.ptr 1 0],[.v (.i .i64 0),.own 8 [],.v (.i .i64 0),.own 7 []]]):=cX [1] rfl rfl rfl rfl (jR (ir.mk x1 false) _ h3) rfl rfl
 refine az ?_
 rintro⟨x4,x5⟩ h4
 dsimp only
 have g3:C.wide 62 [.ptr 1 0,.clo 63 [.ptr 3 0,.ptr 2 0]] [[.v (.i .i64 0),.own 8 [],.v (.i .i64 0),.own 7 []],[.v (.sl 1 (ah cE x3.frest)),.v (.b x3.fshort)],[.ptr 1 0],[.v (.i .i64 x2),.own 8 [],.v (.i .i64 0),.own 7 []]]=some (.tup [],[[.v (.i .i64 0),.own 8 [],.v (.i .i64 0),.own 7 []],[.v (.sl 1 (ah cE x4.frest)),.v (.b x4.fshort)],[.ptr 1 0],[.v (.i .i64 x5.af.iL),.own 8 (ah ip.row x5.af.bi),.v (.i .i64 x5.iG),.own 7 (ah gi.row x5.bz)]]):=sA [1,3,2] [1,3,2] rfl rfl rfl rfl rfl rfl rfl rfl (wR x3 (iv.mk (iN.mk x2 []) 0 []) _ h4) rfl rfl
 refine az ?_
 rintro⟨x6,x7⟩ h5
 dsimp only
 have g4:C.wide 61 [.ptr 1 0] [[.v (.i .i64 0),.own 8 [],.v (.i .i64 0),.own 7 []],[.v (.sl 1 (ah cE x4.frest)),.v (.b x4.fshort)],[.ptr 1 0],[.v (.i .i64 x5.af.iL),.own 8 (ah ip.row x5.af.bi),.v (.i .i64 x5.iG),.own 7 (ah gi.row x5.bz)]]=some (.v (.i .i64 x6),[[.v (.i .i64 0),.own 8 [],.v (.i .i64 0),.own 7 []],[.v (.sl 1 (ah cE x7.frest)),.v (.b x7.fshort)],[.ptr 1 0],[.v (.i .i64 x5.af.iL),.own 8 (ah ip.row x5.af.bi),.v (.i .i64 x5.iG),.own 7 (ah gi.row x5.bz)]]):=cX [1] rfl rfl rfl rfl (jR x4 _ h5) rfl rfl
 refine az ?_
 rintro⟨x8,x9⟩ h6
 dsimp only
 have g5:C.wide 62 [.ptr 1 0,.clo 66 [.ptr 2 0,.ptr 3 0]] [[.v (.i .i64 0),.own 8 [],.v (.i .i64 0),.own 7 []],[.v (.sl 1 (ah cE x7.frest)),.v (.b x7.fshort)],[.ptr 1 0],[.v (.i .i64 x5.af.iL),.own 8 (ah ip.row x5.af.bi),.v (.i .i64 x6),.own 7 (ah gi.row x5.bz)]]=some (.tup [],[[.v (.i .i64 0),.own 8 [],.v (.i .i64 0),.own 7 []],[.v (.sl 1 (ah cE x8.frest)),.v (.b x8.fshort)],[.ptr 1 0],[.v (.i .i64 x9.af.iL),.own 8 (ah ip.row x9.af.bi),.v (.i .i64 x9.iG),.own 7 (ah gi.row x9.bz)]]):=sA [1,2,3] [1,2,3] rfl rfl rfl rfl rfl rfl rfl rfl (wT x7 (iv.mk x5.af x6 x5.bz) _ h6) rfl rfl
 refine az ?_
 rintro⟨x10,x11⟩ h7
 dsimp only
 have g6:C.wide 69 [.ptr 1 0,.v (.b true)] [[.v (.i .i64 0),.own 8 [],.v (.i .i64 0),.own 7 []],[.v (.sl 1 (ah cE x8.frest)),.v (.b x8.fshort)],[.ptr 1 0],[.v (.i .i64 x9.af.iL),.own 8 (ah ip.row x9.af.bi),.v (.i .i64 x9.iG),.own 7 (ah gi.row x9.bz)]]=some (.v (.i .i64 x10),[[.v (.i .i64 0),.own 8 [],.v (.i .i64 0),.own 7 []],[.v (.sl 1 (ah cE x11.frest)),.v (.b x11.fshort)],[.ptr 1 0],[.v (.i .i64 x9.af.iL),.own 8 (ah ip.row x9.af.bi),.v (.i .i64 x9.iG),.own 7 (ah gi.row x9.bz)]]):=cX [1] rfl rfl rfl rfl (I3 true x8 _ h7) rfl rfl
 refine bF (fun h8=>?_) (fun h8=>?_)
 rotate_left 1
 refine az fun x12 h9=>?_
 have g7:=bK (PL x9 _ h9)
 refine aX (fun h10=>?_) (fun h10=>?_)
 rotate_left 1
 all_goals (rintro⟨⟩;rw [bk];show cC _ _ _ (aH _ _ _ _ (Code.seq _ _) _)=_;simp (maxSteps:=4000000) only [*,qcY,qhv,YE,qhm,qa1,qez,qer,qgn,↓RP,RB,RC,Nat.reduceBEq,bP,List.map,Nat.reduceAdd,Nat.reduceLT,Nat.reduceLeDiff,bne,↓ao,↓am,↓aa,aP,ty3,ty4,qM,mD,wv,Ab,u4,Ap,AU])
def TD:List (Nat×List Nat):=[(0,[1]),(1,[1,3]),(2,[2])]
def n47:cL where
 keep:=ax TD
 ro:=fun t=>t==1
 mv:=fun _=>false
 give:=fun _=>false
 free:=fun _=>[]
theorem qd6 (i:Nat):n47.keep i=ax TD i:=rfl
theorem qdh (t:Nat):n47.ro t=(t==1):=rfl
theorem V3 (t:Nat):n47.mv t=(false):=rfl
theorem qds (t:Nat):n47.give t=(false):=rfl
theorem qcH:Tryz.f47.results.toList= [.tmp 2]:=rfl
noncomputable def b47:Code:=aU Tryz.f47
theorem A8 (C:aj)  (p0:i5) (p1:iv) (c:Code) (ho:cD 0 2 b47=some c) (r:Bool) (hF:lW p0 p1=r): @cV TT C.wide (evW TT C.wide n47 b47) n47 0 2 ⟨[(1,.rp [.i .i64 p0.iT,.i .i64 p0.iI,.i .i64 p0.iu.af.iL,.sl 8 (ah ip.row p0.iu.af.bi),.i .i64 p0.iu.iG,.sl 7 (ah gi.row p0.iu.bz)]),(3,.ptr 0 0)],[[.v (.i .i64 p1.af.iL),.v (.sl 8 (ah ip.row p1.af.bi)),.v (.i .i64 p1.iG),.v (.sl 7 (ah gi.row p1.bz))]]⟩ ⟨c⟩=some (.normal,⟨[(2,.v (.b r))],[[.v (.i .i64 p1.af.iL),.v (.sl 8 (ah ip.row p1.af.bi)),.v (.i .i64 p1.iG),.v (.sl 7 (ah gi.row p1.bz))]]⟩):=by
 have e:=Option.some.inj (ho.symm.trans (rfl:cD 0 2 b47=some _))
 subst e
 clear ho
 show aH _ _ _ _ _ _=_
 revert hF
 unfold lW
 refine bF (fun h1=>?_) (fun h1=>?_)
 rotate_left 1
 refine bF (fun h2=>?_) (fun h2=>?_)
 rotate_left 1
 refine bF (fun h3=>?_) (fun h3=>?_)
 rotate_left 1
 refine bF (fun h4=>?_) (fun h4=>?_)
 rotate_left 1
 refine aX (fun h5=>?_) (fun h5=>?_)
 rotate_left 1
 all_goals (rintro rfl;simp (maxSteps:=4000000) only [*,qd6,TD,V3,↓RP,RB,RC,Nat.reduceBEq,List.map,ty3,ty4,Bp,wv,Ab,u4,Ah,↓aa _ _ _ _ 2])
theorem E1 (C:aj)  (p0:i5) (r:Bool) (hF:tp p0=some r):cR TT C.wide (evW TT C.wide n47 b47) n47 Tryz.f47.results.toList (aU Tryz.f47) [.agg [.v (.i .i64 p0.iT),.v (.i .i64 p0.iI),.v (.i .i64 p0.iu.af.iL),.v (.sl 8 (ah ip.row p0.iu.af.bi)),.v (.i .i64 p0.iu.iG),.v (.sl 7 (ah gi.row p0.iu.bz))]] []=some (.v (.b r),[]):=by
 revert hF
 unfold tp
 have g1:=A8 C p0 p0.iu _ rfl (lW p0 p0.iu) rfl
 all_goals (rintro⟨⟩;rw [bk];show cC _ _ _ (aH _ _ _ _ (Code.seq _ _) _)=_;simp (maxSteps:=4000000) only [*,qcH,qd6,TD,qdh,V3,qds,↓RP,RB,RC,Nat.reduceBEq,bP,List.map,Nat.reduceAdd,Nat.reduceLeDiff,bne,↓ao,ty4,u4,Ah,↓aa _ _ _ _ 0,↓aa _ _ _ _ 1,↓bg _ _ _ _ 2])
def Yw:List (Nat×List Nat):=[(0,[0]),(1,[2])]
def n48:cL where
 keep:=ax Yw
 ro:=fun _=>false
 mv:=fun _=>false
 give:=fun _=>false
 free:=fun _=>[]
theorem qiu (i:Nat):n48.keep i=ax Yw i:=rfl
theorem qdf:Tryz.f48.results.toList= [.tmp 2]:=rfl
noncomputable def b48:Code:=aU Tryz.f48
theorem FK (C:aj)  (p0:Int) (r:Bool) (hF:tf p0=some r):cR TT C.wide (evW TT C.wide n48 b48) n48 Tryz.f48.results.toList (aU Tryz.f48) [.v (.i .i64 p0)] []=some (.v (.b r),[]):=by
 revert hF
 unfold tf
 refine aX (fun h1=>?_) (fun h1=>?_)
 rotate_left 1
 all_goals (rintro⟨⟩;rw [bk];show cC _ _ _ (aH _ _ _ _ (Code.seq _ _) _)=_;simp (maxSteps:=4000000) only [*,qdf,qiu,Yw,↓RP,RB,RC,Nat.reduceBEq,List.map,↓ao,↓aa,ty3,ty4])
def Y5:List (Nat×List Nat):=[(0,[1]),(1,[1,12]),(2,[2]),(3,[2])]
def qb5:List (Nat×List Nat×List Nat):=[(12,[],[1])]
def n50:cL where
 keep:=ax Y5
 ro:=fun t=>t==1
 mv:=fun _=>false
 give:=fun _=>false
 free:=fun _=>[]
 alive:=av qb5
theorem qhJ (t:Nat) (x:Bool) (e:Env) (S:bH):cK n50 t x ⟨e,S⟩=atO (av qb5 t x) e S:=cF rfl t x e S
theorem qhD (i:Nat):n50.keep i=ax Y5 i:=rfl
theorem qgB (t:Nat):n50.ro t=(t==1):=rfl
theorem qcL (t:Nat):n50.mv t=(false):=rfl
theorem qgf:Tryz.f50.results.toList= [.tmp 2]:=rfl
noncomputable def b50:Code:=aU Tryz.f50
theorem Bm (C:aj) (oX:qG C) (PL:N2 C) (p0:i5) (r:Int) (hF:nH p0=some r):cR TT C.wide (evW TT C.wide n50 b50) n50 Tryz.f50.results.toList (aU Tryz.f50) [.agg [.v (.i .i64 p0.iT),.v (.i .i64 p0.iI),.v (.i .i64 p0.iu.af.iL),.v (.sl 8 (ah ip.row p0.iu.af.bi)),.v (.i .i64 p0.iu.iG),.v (.sl 7 (ah gi.row p0.iu.bz))]] []=some (.v (.i .i64 r),[]):=by
 revert hF
 unfold nH
 have g1:=bK (oX p0.iT _ (uM p0.iT))
 refine bF (fun h1=>?_) (fun h1=>?_)
 rotate_left 1
 have g2:=bK (oX p0.iI _ (uM p0.iI))
 refine bF (fun h2=>?_) (fun h2=>?_)
 rotate_left 1
 refine az fun x1 h3=>?_
 have g3:=bK (PL p0.iu _ h3)
 all_goals (rintro⟨⟩;rw [bk];show cC _ _ _ (aH _ _ _ _ (Code.seq _ _) _)=_;simp (maxSteps:=4000000) only [*,qgf,qhJ,qb5,qhD,Y5,qgB,qcL,↓RP,RB,RC,Nat.reduceBEq,bP,List.map,Nat.reduceAdd,↓ao,↓am,↓aa,ty3,mD,u4,Ah])
def PU:List (Nat×List Nat):=[(0,[1]),(1,[1,11]),(2,[2]),(3,[1,3]),(4,[1,52]),(5,[2]),(6,[1,54]),(7,[1,54,55]),(8,[70]),(9,[2]),(10,[2]),(11,[1,71]),(12,[1,76]),(13,[2]),(14,[2]),(15,[2])]
def Zn:List (Nat×List Nat×List Nat):=[(11,[],[1]),(52,[],[1]),(55,[1],[1,54]),(70,[],[]),(71,[1],[1]),(76,[],[1])]
def n25:cL where
 keep:=ax PU
 ro:=fun t=>t==1
 mv:=fun _=>false
 give:=fun _=>false
 free:=fun _=>[]
 alive:=av Zn
theorem qh7 (t:Nat) (x:Bool) (e:Env) (S:bH):cK n25 t x ⟨e,S⟩=atO (av Zn t x) e S:=cF rfl t x e S
theorem WI (i:Nat):n25.keep i=ax PU i:=rfl
theorem qdo (t:Nat):n25.ro t=(t==1):=rfl
theorem Q1 (t:Nat):n25.mv t=(false):=rfl
theorem qcp (t:Nat):n25.give t=(false):=rfl
theorem qfp:Tryz.f25.results.toList= [.tmp 2]:=rfl
noncomputable def b25:Code:=aU Tryz.f25
theorem Bo (C:aj) (qI:uG C) (p0:iw) (c:Code) (ho:cD 0 4 b25=some c) (r:Bool) (hF:mn p0=r): @cV TT C.wide (evW TT C.wide n25 b25) n25 0 4 ⟨[(1,.rp [.i .i64 p0.bt,.i .i64 p0.iI,.i .i64 p0.lz,.i .i64 p0.iT,.i .i64 p0.iz.iI,.i .i64 p0.iz.iS,.b p0.iz.jY,.i .i64 p0.iz.cO.iO,.i .i64 p0.iz.cO.je,.i .i64 p0.iz.cO.ad.bt,.s p0.iz.cO.ad.iU,.s p0.iz.cO.ad.iE,.s p0.iz.cO.ad.iq,.i .i64 p0.iz.cO.ad.fN,.i .i64 p0.iH.iT,.i .i64 p0.iH.iI,.i .i64 p0.iH.iu.af.iL,.sl 8 (ah ip.row p0.iH.iu.af.bi),.i .i64 p0.iH.iu.iG,.sl 7 (ah gi.row p0.iH.iu.bz)]),(3,.ptr 0 0)],[[.v (.i .i64 0),.v (.i .i64 0),.v (.b false),.v (.i .i64 0),.v (.i .i64 0),.v (.i .i64 0),.v (.s ByteArray.empty),.v (.s ByteArray.empty),.v (.s ByteArray.empty),.v (.i .i64 0)]]⟩ ⟨c⟩=some (.normal,⟨[(1,.rp [.i .i64 p0.bt,.i .i64 p0.iI,.i .i64 p0.lz,.i .i64 p0.iT,.i .i64 p0.iz.iI,.i .i64 p0.iz.iS,.b p0.iz.jY,.i .i64 p0.iz.cO.iO,.i .i64 p0.iz.cO.je,.i .i64 p0.iz.cO.ad.bt,.s p0.iz.cO.ad.iU,.s p0.iz.cO.ad.iE,.s p0.iz.cO.ad.iq,.i .i64 p0.iz.cO.ad.fN,.i .i64 p0.iH.iT,.i .i64 p0.iH.iI,.i .i64 p0.iH.iu.af.iL,.sl 8 (ah ip.row p0.iH.iu.af.bi),.i .i64 p0.iH.iu.iG,.sl 7 (ah gi.row p0.iH.iu.bz)]),(52,.v (.b r))],[[.v (.i .i64 0),.v (.i .i64 0),.v (.b false),.v (.i .i64 0),.v (.i .i64 0),.v (.i .i64 0),.v (.s ByteArray.empty),.v (.s ByteArray.empty),.v (.s ByteArray.empty),.v (.i .i64 0)]]⟩):=by
 have e:=Option.some.inj (ho.symm.trans (rfl:cD 0 4 b25=some _))
 subst e
 clear ho
 show aH _ _ _ _ _ _=_
 revert hF
 unfold mn
 refine aX (fun h1=>?_) (fun h1=>?_)
 focus
  unfold qU
  refine aX (fun h2=>?_) (fun h2=>?_)
  focus
   refine aX (fun h3=>?_) (fun h3=>?_)
   rotate_left 1
   have g1:=bK (qI p0.iH _ (uR p0.iH))
  rotate_left 2
  refine bF (fun h3=>?_) (fun h3=>?_)
  rotate_left 1
  refine bF (fun h4=>?_) (fun h4=>?_)
  rotate_left 1
  refine bF (fun h5=>?_) (fun h5=>?_)
  rotate_left 1
  refine aX (fun h6=>?_) (fun h6=>?_)
  rotate_left 1
  refine bF (fun h7=>?_) (fun h7=>?_)
  rotate_left 1
  unfold qQ
  refine bF (fun h8=>?_) (fun h8=>?_)
  rotate_left 1
  refine bF (fun h9=>?_) (fun h9=>?_)
  rotate_left 1
  refine bF (fun h10=>?_) (fun h10=>?_)
  rotate_left 1
  refine bF (fun h11=>?_) (fun h11=>?_)
  rotate_left 1
  refine bF (fun h12=>?_) (fun h12=>?_)
  rotate_left 1
  refine bF (fun h13=>?_) (fun h13=>?_)
  rotate_left 1
  refine aX (fun h14=>?_) (fun h14=>?_)
  rotate_left 1
  have g1:=bK (qI p0.iH _ (uR p0.iH))
 rotate_left 15
 refine bF (fun h2=>?_) (fun h2=>?_)
 rotate_left 1
 refine bF (fun h3=>?_) (fun h3=>?_)
 rotate_left 1
 unfold qP
 refine aX (fun h4=>?_) (fun h4=>?_)
 focus
  refine aX (fun h5=>?_) (fun h5=>?_)
  rotate_left 1
  have g1:=bK (qI p0.iH _ (uR p0.iH))
 rotate_left 2
 refine bF (fun h5=>?_) (fun h5=>?_)
 rotate_left 1
 refine bF (fun h6=>?_) (fun h6=>?_)
 rotate_left 1
 refine bF (fun h7=>?_) (fun h7=>?_)
 rotate_left 1
 refine aX (fun h8=>?_) (fun h8=>?_)
 rotate_left 1
 refine bF (fun h9=>?_) (fun h9=>?_)
 rotate_left 1
 unfold qX
 refine bF (fun h10=>?_) (fun h10=>?_)
 rotate_left 1
 refine bF (fun h11=>?_) (fun h11=>?_)
 rotate_left 1
 refine bF (fun h12=>?_) (fun h12=>?_)
 rotate_left 1
 refine bF (fun h13=>?_) (fun h13=>?_)
 rotate_left 1
 refine bF (fun h14=>?_) (fun h14=>?_)
 rotate_left 1
 refine bF (fun h15=>?_) (fun h15=>?_)
 rotate_left 1
 refine aX (fun h16=>?_) (fun h16=>?_)
 rotate_left 1
 have g1:=bK (qI p0.iH _ (uR p0.iH))
 all_goals (rintro rfl;simp (maxSteps:=4000000) only [*,WI,PU,Q1,↓RP,RB,RC,Nat.reduceBEq,List.map,Nat.reduceAdd,aG,bne,aP,ty3,Ah,zN,CU,↓aa _ _ _ _ 4])
theorem BQ (C:aj) (oX:qG C) (p0:iw) (c:Code) (ho:cD 0 8 b25=some c) (r:Bool) (hF:mj p0=r): @cV TT C.wide (evW TT C.wide n25 b25) n25 0 8 ⟨[(1,.rp [.i .i64 p0.bt,.i .i64 p0.iI,.i .i64 p0.lz,.i .i64 p0.iT,.i .i64 p0.iz.iI,.i .i64 p0.iz.iS,.b p0.iz.jY,.i .i64 p0.iz.cO.iO,.i .i64 p0.iz.cO.je,.i .i64 p0.iz.cO.ad.bt,.s p0.iz.cO.ad.iU,.s p0.iz.cO.ad.iE,.s p0.iz.cO.ad.iq,.i .i64 p0.iz.cO.ad.fN,.i .i64 p0.iH.iT,.i .i64 p0.iH.iI,.i .i64 p0.iH.iu.af.iL,.sl 8 (ah ip.row p0.iH.iu.af.bi),.i .i64 p0.iH.iu.iG,.sl 7 (ah gi.row p0.iH.iu.bz)])],[[.v (.i .i64 0),.v (.i .i64 0),.v (.b false),.v (.i .i64 0),.v (.i .i64 0),.v (.i .i64 0),.v (.s ByteArray.empty),.v (.s ByteArray.empty),.v (.s ByteArray.empty),.v (.i .i64 0)]]⟩ ⟨c⟩=some (.normal,⟨[(70,.v (.b r))],[[.v (.i .i64 0),.v (.i .i64 0),.v (.b false),.v (.i .i64 0),.v (.i .i64 0),.v (.i .i64 0),.v (.s ByteArray.empty),.v (.s ByteArray.empty),.v (.s ByteArray.empty),.v (.i .i64 0)]]⟩):=by
 have e:=Option.some.inj (ho.symm.trans (rfl:cD 0 8 b25=some _))
 subst e
 clear ho
 show aH _ _ _ _ _ _=_
 revert hF
 unfold mj
 have g1:=bK (oX p0.iI _ (uM p0.iI))
 refine bF (fun h1=>?_) (fun h1=>?_)
 rotate_left 1
 refine aX (fun h2=>?_) (fun h2=>?_)
 rotate_left 1
 all_goals (rintro rfl;simp (maxSteps:=4000000) only [*,WI,PU,Q1,↓RP,RB,RC,Nat.reduceBEq,List.map,Int.reduceNeg,ty3,CU,↓aa _ _ _ _ 8])
theorem Jo (C:aj) (qI:uG C) (oX:qG C) (uk:pt C) (BT:xu C) (p0:iw) (r:Int) (hF:mr p0=some r):cR TT C.wide (evW TT C.wide n25 b25) n25 Tryz.f25.results.toList (aU Tryz.f25) [.agg [.v (.i .i64 p0.bt),.v (.i .i64 p0.iI),.v (.i .i64 p0.lz),.v (.i .i64 p0.iT),.v (.i .i64 p0.iz.iI),.v (.i .i64 p0.iz.iS),.v (.b p0.iz.jY),.v (.i .i64 p0.iz.cO.iO),.v (.i .i64 p0.iz.cO.je),.v (.i .i64 p0.iz.cO.ad.bt),.v (.s p0.iz.cO.ad.iU),.v (.s p0.iz.cO.ad.iE),.v (.s p0.iz.cO.ad.iq),.v (.i .i64 p0.iz.cO.ad.fN),.v (.i .i64 p0.iH.iT),.v (.i .i64 p0.iH.iI),.v (.i .i64 p0.iH.iu.af.iL),.v (.sl 8 (ah ip.row p0.iH.iu.af.bi)),.v (.i .i64 p0.iH.iu.iG),.v (.sl 7 (ah gi.row p0.iH.iu.bz))]] []=some (.v (.i .i64 r),[]):=by
 revert hF
 unfold mr
 refine aX (fun h1=>?_) (fun h1=>?_)
 rotate_left 1
 unfold wU
 refine aX (fun h2=>?_) (fun h2=>?_)
 rotate_left 1
 have g1:=Bo C qI p0 _ rfl (mn p0) rfl
 refine aX (fun h3=>?_) (fun h3=>?_)
 rotate_left 1
 refine aX (fun h4=>?_) (fun h4=>?_)
 focus
  have g2:=BQ C oX p0 _ rfl (mj p0) rfl
  refine aX (fun h5=>?_) (fun h5=>?_)
  rotate_left 1
 rotate_left 2
 refine bF (fun h5=>?_) (fun h5=>?_)
 focus
  refine az fun x1 h6=>?_
  have g3:=bK (BT p0.iH _ h6)
 rotate_left 1
 have g4:=bK (oX p0.iT _ (uM p0.iT))
 refine aX (fun h6=>?_) (fun h6=>?_)
 focus
  have g5:=bK (uk p0.iz _ (xk p0.iz))
 rotate_left 1
 all_goals (rintro⟨⟩;rw [bk];show cC _ _ _ (aH _ _ _ _ (Code.seq _ _) _)=_;simp (maxSteps:=4000000) only [*,qfp,qh7,Zn,WI,PU,qdo,Q1,qcp,↓RP,RB,RC,↓ai,Nat.reduceBEq,bP,List.map,Nat.reduceAdd,Nat.reduceLeDiff,bne,↓ao,↓am,ty3,ty4,mD,Ah,CI,zN,CU,↓aa _ _ _ _ 0,↓aa _ _ _ _ 1,↓aa _ _ _ _ 2,↓aa _ _ _ _ 3,↓bg _ _ _ _ 4,↓aa _ _ _ _ 5,↓aa _ _ _ _ 6,↓aa _ _ _ _ 7,↓bg _ _ _ _ 8,↓aa _ _ _ _ 9,↓aa _ _ _ _ 10,↓aa _ _ _ _ 11,↓aa _ _ _ _ 12,↓aa _ _ _ _ 13,↓aa _ _ _ _ 14,↓aa _ _ _ _ 15])
def ZH:List (Nat×List Nat):=[(0,[0,2]),(1,[0,2,4]),(2,[0,2,4,5]),(3,[2,3]),(4,[0,2,4,5,7]),(5,[2,4,5]),(6,[0,2,4,26]),(7,[0,2,4]),(8,[2,4,5]),(9,[0,2,4,47]),(10,[0,2,4]),(11,[2,4,5]),(12,[2,3])]
def XE:List (Nat×List Nat×List Nat):=[(7,[0,2,4,5],[0,2,4]),(26,[0,2,4],[0,2,4]),(47,[0,2,4],[2,4])]
def n17:cL where
 keep:=ax ZH
 ro:=fun _=>false
 mv:=fun t=>t==6
 give:=fun t=>t==2||t==4
 free:=fun i=>match i with|5=>[(0,3),(1,3),(2,3),(0,4),(1,4),(2,4),(0,5),(1,5),(2,5),(0,6),(1,6),(2,6),(0,7),(1,7),(2,7)]|10=>[(0,3),(1,3),(2,3),(0,4),(1,4),(2,4)]|12=>[(0,1),(0,2),(0,3),(0,4),(0,5),(0,6),(0,7),(6,8),(7,8)]|_=>[]
 alive:=av XE
theorem qhl (t:Nat) (x:Bool) (e:Env) (S:bH):cK n17 t x ⟨e,S⟩=atO (av XE t x) e S:=cF rfl t x e S
theorem qhs (i:Nat):n17.keep i=ax ZH i:=rfl
theorem qeg (t:Nat):n17.mv t=(t==6):=rfl
theorem qcF (t:Nat):n17.give t=(t==2||t==4):=rfl
theorem qf3:n17.free 5= [(0,3),(1,3),(2,3),(0,4),(1,4),(2,4),(0,5),(1,5),(2,5),(0,6),(1,6),(2,6),(0,7),(1,7),(2,7)]:=rfl
theorem Y3:n17.free 10= [(0,3),(1,3),(2,3),(0,4),(1,4),(2,4)]:=rfl
theorem WL:n17.free 12= [(0,1),(0,2),(0,3),(0,4),(0,5),(0,6),(0,7),(6,8),(7,8)]:=rfl
theorem qeE:Tryz.f17.results.toList= [.cell 2 62,.tmp 3]:=rfl
noncomputable def b17:Code:=aU Tryz.f17
theorem Fh (C:aj) (kd:rL C) (qh:xE C) (wA:tM C) (uO:z8 C) (p0:List Int) (r:iw×Bool) (hF:kp p0=some r):cR TT C.wide (evW TT C.wide n17 b17) n17 Tryz.f17.results.toList (aU Tryz.f17) [.v (.sl 1 (ah cE p0))] []=some (.tup [.agg [.v (.i .i64 r.1.bt),.v (.i .i64 r.1.iI),.v (.i .i64 r.1.lz),.v (.i .i64 r.1.iT),.v (.i .i64 r.1.iz.iI),.v (.i .i64 r.1.iz.iS),.v (.b r.1.iz.jY),.v (.i .i64 r.1.iz.cO.iO),.v (.i .i64 r.1.iz.cO.je),.v (.i .i64 r.1.iz.cO.ad.bt),.v (.s r.1.iz.cO.ad.iU),.v (.s r.1.iz.cO.ad.iE),.v (.s r.1.iz.cO.ad.iq),.v (.i .i64 r.1.iz.cO.ad.fN),.v (.i .i64 r.1.iH.iT),.v (.i .i64 r.1.iH.iI),.v (.i .i64 r.1.iH.iu.af.iL),.v (.sl 8 (ah ip.row r.1.iH.iu.af.bi)),.v (.i .i64 r.1.iH.iu.iG),.v (.sl 7 (ah gi.row r.1.iH.iu.bz))],.v (.b r.2)],[]):=by
 revert hF
 unfold kp
 refine bF (fun h1=>?_) (fun h1=>?_)
 focus
  refine bF (fun h2=>?_) (fun h2=>?_)
  focus
   refine bF (fun h3=>?_) (fun h3=>?_)
   rotate_left 1
   refine az fun x1 h4=>?_
   have g1:decide (0<=0)=true:=(cp h4).1
   have g2:(ah cE p0)[(0:Int).toNat]? =some [.i .u8 x1]:=cn _ h4
   refine bF (fun h5=>?_) (fun h5=>?_)
   rotate_left 1
   refine aX (fun h6=>?_) (fun _=>nofun)
   unfold yU
   refine az fun x2 h7=>?_
   have g3:=bK (kd (dm p0 1 (p0.length:Int)) _ h7)
   refine aX (fun h8=>?_) (fun _=>nofun)
   refine az fun x3 h9=>?_
   have g4:=bK (kd (dm p0 4 (p0.length:Int)) _ h9)
   refine aX (fun h10=>?_) (fun _=>nofun)
   refine az ?_
   rintro⟨x4,x5⟩ h11
   dsimp only
   have g5:=bK (uO (dm p0 7 (p0.length:Int)) _ h11)
   try simp only [] at g5
   refine bF (fun h12=>?_) (fun h12=>?_)
   rotate_left 1
   refine az fun x6 h13=>?_
   have g6:=bK (qh (iw.mk 3 0 0 0 (iV.mk 0 0 false (i8.mk 0 0 (iB.mk 0 ByteArray.empty ByteArray.empty ByteArray.empty 0))) (i5.mk x2 x3 x4)) _ h13)
   try simp only [] at g6
  rotate_left 4
  unfold nI
  refine az fun x1 h3=>?_
  have g1:decide (0<=0)=true:=(cp h3).1
  have g2:(ah cE p0)[(0:Int).toNat]? =some [.i .u8 x1]:=cn _ h3
  refine aX (fun h4=>?_) (fun h4=>?_)
  focus
   unfold wk
   refine aX (fun h5=>?_) (fun _=>nofun)
   refine az fun x2 h6=>?_
   have g3:=bK (kd (dm p0 1 (p0.length:Int)) _ h6)
   refine aX (fun h7=>?_) (fun _=>nofun)
   refine az ?_
   rintro⟨x3,x4⟩ h8
   dsimp only
   have g7:=bK (wA (dm p0 4 (p0.length:Int)) _ h8)
   try simp only [] at g7
   refine bF (fun h9=>?_) (fun h9=>?_)
   rotate_left 1
   refine az fun x5 h10=>?_
   have g8:=bK (qh (iw.mk 2 0 0 x2 x3 (i5.mk 0 0 (iv.mk (iN.mk 0 []) 0 []))) _ h10)
   try simp only [ak] at g8
  rotate_left 2
  refine bF (fun h5=>?_) (fun h5=>?_)
  rotate_left 1
  refine bF (fun h6=>?_) (fun h6=>?_)
  rotate_left 1
  refine aX (fun h7=>?_) (fun _=>nofun)
  unfold v9
  refine az fun x2 h8=>?_
  have g3:=bK (kd (dm p0 1 (p0.length:Int)) _ h8)
  refine aX (fun h9=>?_) (fun _=>nofun)
  refine az fun x3 h10=>?_
  have g4:=bK (kd (dm p0 4 (p0.length:Int)) _ h10)
  refine aX (fun h11=>?_) (fun _=>nofun)
  refine az ?_
  rintro⟨x4,x5⟩ h12
  dsimp only
  have g5:=bK (uO (dm p0 7 (p0.length:Int)) _ h12)
  try simp only [] at g5
  refine bF (fun h13=>?_) (fun h13=>?_)
  rotate_left 1
  refine az fun x6 h14=>?_
  have g6:=bK (qh (iw.mk 3 0 0 0 (iV.mk 0 0 false (i8.mk 0 0 (iB.mk 0 ByteArray.empty ByteArray.empty ByteArray.empty 0))) (i5.mk x2 x3 x4)) _ h14)
  try simp only [] at g6
 rotate_left 10
 unfold pC
 refine az fun x1 h2=>?_
 have g1:decide (0<=0)=true:=(cp h2).1
 have g2:(ah cE p0)[(0:Int).toNat]? =some [.i .u8 x1]:=cn _ h2
 refine aX (fun h3=>?_) (fun h3=>?_)
 focus
  unfold wg
  refine aX (fun h4=>?_) (fun _=>nofun)
  refine az fun x2 h5=>?_
  have g3:=bK (kd (dm p0 1 (p0.length:Int)) _ h5)
  refine az fun x3 h6=>?_
  have g9:decide (0<=4)=true:=(cp h6).1
  have g10:(ah cE p0)[(4:Int).toNat]? =some [.i .u8 x3]:=cn _ h6
  refine az fun x4 h7=>?_
  have g11:=bK (qh (iw.mk 1 x2 (IntKind.i64.wrap ((IntKind.i64.wrap x3)-1)) 0 (iV.mk 0 0 false (i8.mk 0 0 (iB.mk 0 ByteArray.empty ByteArray.empty ByteArray.empty 0))) (i5.mk 0 0 (iv.mk (iN.mk 0 []) 0 []))) _ h7)
  try simp only [ak] at g11
 rotate_left 1
 refine bF (fun h4=>?_) (fun h4=>?_)
 focus
  refine bF (fun h5=>?_) (fun h5=>?_)
  rotate_left 1
  refine bF (fun h6=>?_) (fun h6=>?_)
  rotate_left 1
  refine aX (fun h7=>?_) (fun _=>nofun)
  unfold yP
  refine az fun x2 h8=>?_
  have g3:=bK (kd (dm p0 1 (p0.length:Int)) _ h8)
  refine aX (fun h9=>?_) (fun _=>nofun)
  refine az fun x3 h10=>?_
  have g4:=bK (kd (dm p0 4 (p0.length:Int)) _ h10)
  refine aX (fun h11=>?_) (fun _=>nofun)
  refine az ?_
  rintro⟨x4,x5⟩ h12
  dsimp only
  have g5:=bK (uO (dm p0 7 (p0.length:Int)) _ h12)
  try simp only [] at g5
  refine bF (fun h13=>?_) (fun h13=>?_)
  rotate_left 1
  refine az fun x6 h14=>?_
  have g6:=bK (qh (iw.mk 3 0 0 0 (iV.mk 0 0 false (i8.mk 0 0 (iB.mk 0 ByteArray.empty ByteArray.empty ByteArray.empty 0))) (i5.mk x2 x3 x4)) _ h14)
  try simp only [] at g6
 rotate_left 4
 unfold rG
 refine aX (fun h5=>?_) (fun h5=>?_)
 focus
  unfold v8
  refine aX (fun h6=>?_) (fun _=>nofun)
  refine az fun x2 h7=>?_
  have g3:=bK (kd (dm p0 1 (p0.length:Int)) _ h7)
  refine aX (fun h8=>?_) (fun _=>nofun)
  refine az ?_
  rintro⟨x3,x4⟩ h9
  dsimp only
  have g7:=bK (wA (dm p0 4 (p0.length:Int)) _ h9)
  try simp only [] at g7
  refine bF (fun h10=>?_) (fun h10=>?_)
  rotate_left 1
  refine az fun x5 h11=>?_
  have g8:=bK (qh (iw.mk 2 0 0 x2 x3 (i5.mk 0 0 (iv.mk (iN.mk 0 []) 0 []))) _ h11)
  try simp only [ak] at g8
 rotate_left 2
 refine bF (fun h6=>?_) (fun h6=>?_)
 rotate_left 1
 refine bF (fun h7=>?_) (fun h7=>?_)
 rotate_left 1
 refine aX (fun h8=>?_) (fun _=>nofun)
 unfold yZ
 refine az fun x2 h9=>?_
 have g3:=bK (kd (dm p0 1 (p0.length:Int)) _ h9)
 refine aX (fun h10=>?_) (fun _=>nofun)
 refine az fun x3 h11=>?_
 have g4:=bK (kd (dm p0 4 (p0.length:Int)) _ h11)
 refine aX (fun h12=>?_) (fun _=>nofun)
 refine az ?_
 rintro⟨x4,x5⟩ h13
 dsimp only
 have g5:=bK (uO (dm p0 7 (p0.length:Int)) _ h13)
 try simp only [] at g5
 refine bF (fun h14=>?_) (fun h14=>?_)
 rotate_left 1
 refine az fun x6 h15=>?_
 have g6:=bK (qh (iw.mk 3 0 0 0 (iV.mk 0 0 false (i8.mk 0 0 (iB.mk 0 ByteArray.empty ByteArray.empty ByteArray.empty 0))) (i5.mk x2 x3 x4)) _ h15)
 try simp only [] at g6
 all_goals (rintro⟨⟩;rw [bk];show cC _ _ _ (aH _ _ _ _ (Code.seq _ _) _)=_;simp (maxSteps:=4000000) only [*,qeE,qhl,XE,qhs,ZH,qf3,Y3,WL,qeg,qcF,↓RP,RB,RC,↓ai,Nat.reduceBEq,bP,List.map,Nat.reduceAdd,Nat.reduceSub,Nat.reduceLeDiff,Int.reduceLE,bne,↓ao,↓am,↓aa,↓aq,aP,ty3,ty4,ty5,qM,mD,u4,Ah,zN,CU])
def n6K:List (Nat×List Nat):=[(0,[1,3]),(1,[3,5,6]),(2,[3,5,18]),(3,[2,3,4,7,57,62]),(4,[3,5,7,57]),(5,[3,5,7,8,57]),(6,[3,5,7,8,25,57]),(7,[3,5,7,8,9,57]),(8,[3,5,7,8,9,38,57]),(9,[3,5,7,8,9,10,11,57]),(10,[3,5,7,8,9,10,53,57]),(11,[3,5,7,8,9,57]),(12,[3,5,7,8,57]),(13,[2,3,4,7,57,62])]
def n6A:List (Nat×List Nat×List Nat):=[(18,[3],[3,5]),(25,[3,5,7,8,57],[3,5,7,8,57]),(38,[3,5,7,8,57],[3,5,7,8,9,57]),(53,[3,5,7,8,57],[3,5,7,8,9,10,57])]
def n6:cL where
 keep:=ax n6K
 ro:=fun t=>t==1
 mv:=fun _=>false
 give:=fun _=>false
 free:=fun i=>match i with|13=>[(0,1),(0,2),(0,3),(1,3),(2,3),(0,4),(1,4),(2,4),(3,4),(0,5),(0,6),(1,6),(2,6),(3,6),(4,6),(5,6),(0,7),(1,7),(2,7),(3,7),(4,7),(5,7),(0,8),(1,8),(2,8),(3,8),(4,8),(5,8),(6,8),(7,8),(0,9),(1,9),(2,9),(3,9),(4,9),(5,9),(0,10),(1,11),(2,11),(3,11),(4,11),(5,11),(6,11),(7,11),(8,11),(9,11),(10,11)]|_=>[]
 alive:=av n6A
theorem n6a (t:Nat) (x:Bool) (e:Env) (S:bH):cK n6 t x ⟨e,S⟩=atO (av n6A t x) e S:=cF rfl t x e S
theorem n6k (i:Nat):n6.keep i=ax n6K i:=rfl
theorem qiA (t:Nat):n6.ro t=(t==1):=rfl
theorem qf0 (t:Nat):n6.mv t=(false):=rfl
theorem qe2 (t:Nat):n6.give t=(false):=rfl
theorem qcD:n6.free 13= [(0,1),(0,2),(0,3),(1,3),(2,3),(0,4),(1,4),(2,4),(3,4),(0,5),(0,6),(1,6),(2,6),(3,6),(4,6),(5,6),(0,7),(1,7),(2,7),(3,7),(4,7),(5,7),(0,8),(1,8),(2,8),(3,8),(4,8),(5,8),(6,8),(7,8),(0,9),(1,9),(2,9),(3,9),(4,9),(5,9),(0,10),(1,11),(2,11),(3,11),(4,11),(5,11),(6,11),(7,11),(8,11),(9,11),(10,11)]:=rfl
theorem qhc:Tryz.f6.results.toList= [.tmp 2,.cell 3 24,.tmp 4]:=rfl
noncomputable def b6:Code:=aU Tryz.f6
noncomputable def qh8:Code:=(bE 0 (aU Tryz.f6)).getD .skip
theorem qc1:bE 0 b6=some qh8:=rfl
def oH (p2:iY) (s:(List iw)×Int):St:=⟨[(3,.ptr 0 0),(5,.ptr 1 0),(7,.own 20 (ah iw.row s.1)),(8,.v (.i .i64 s.2)),(57,.bad)],[[.own 1 [],.v (.i .i64 0)],[.v (.sl 1 (ah cE p2.iW)),.v (.i .i64 p2.iP)]]⟩
def q6 (p2:iY) (r:((List iw)×Int)⊕((List iw)×Int×iw)):Option (Ex×St):=match r with
 | .inl r=>some (.normal,⟨[(3,.ptr 0 0),(5,.ptr 1 0),(7,.own 20 (ah iw.row r.1)),(8,.v (.i .i64 r.2)),(57,.bad)],[[.own 1 [],.v (.i .i64 0)],[.v (.sl 1 (ah cE p2.iW)),.v (.i .i64 p2.iP)]]⟩)
 | .inr r=>some (.normal,⟨[(3,.ptr 0 0),(5,.ptr 1 0),(7,.own 20 (ah iw.row r.1)),(8,.v (.i .i64 r.2.1)),(57,.bad)],[[.own 1 [],.v (.i .i64 0)],[.v (.sl 1 (ah cE p2.iW)),.v (.i .i64 p2.iP)],[.v (.i .i64 r.2.2.bt),.v (.i .i64 r.2.2.iI),.v (.i .i64 r.2.2.lz),.v (.i .i64 r.2.2.iT),.v (.i .i64 r.2.2.iz.iI),.v (.i .i64 r.2.2.iz.iS),.v (.b r.2.2.iz.jY),.v (.i .i64 r.2.2.iz.cO.iO),.v (.i .i64 r.2.2.iz.cO.je),.v (.i .i64 r.2.2.iz.cO.ad.bt),.v (.s r.2.2.iz.cO.ad.iU),.v (.s r.2.2.iz.cO.ad.iE),.v (.s r.2.2.iz.cO.ad.iq),.v (.i .i64 r.2.2.iz.cO.ad.fN),.v (.i .i64 r.2.2.iH.iT),.v (.i .i64 r.2.2.iH.iI),.v (.i .i64 r.2.2.iH.iu.af.iL),.v (.sl 8 (ah ip.row r.2.2.iH.iu.af.bi)),.v (.i .i64 r.2.2.iH.iu.iG),.v (.sl 7 (ah gi.row r.2.2.iH.iu.bz))]]⟩)
theorem wB (C:aj) (kd:rL C) (uQ:wS C) (p2:iY) (s:(List iw)×Int) (o:((List iw)×Int)⊕(((List iw)×Int)⊕((List iw)×Int×iw))) (hF:kn p2 s=some o):evW TT C.wide n6 b6 0 (oH p2 s)=Sum.elim (fun s=>evW TT C.wide n6 b6 0 (oH p2 s)) (fun r=>q6 p2 r) o:=by
 obtain⟨p0,p1⟩:=s
 rw [cG TT n6 qc1]
 revert hF
 unfold kn
 try dsimp only
 refine bF (fun h1=>?_) (fun h1=>?_)
 rotate_left 1
 unfold mE
 refine aX (fun h2=>?_) (fun _=>nofun)
 refine az fun x1 h3=>?_
 have g1:=bK (kd (dm p2.iW p1 (p2.iW.length:Int)) _ h3)
 refine aX (fun h4=>?_) (fun h4=>?_)
 rotate_left 1
 refine aX (fun h5=>?_) (fun _=>nofun)
 refine az ?_
 rintro⟨x2,x3⟩ h6
 dsimp only
 have g2:=bK (uQ (dm p2.iW (IntKind.i64.wrap (p1+3)) (IntKind.i64.wrap ((IntKind.i64.wrap (p1+3))+x1))) _ h6)
 try simp only [] at g2
 refine bF (fun h7=>?_) (fun h7=>?_)
 rotate_left 1
 refine aX (fun h8=>?_) (fun _=>nofun)
 all_goals (rintro⟨⟩;show cN _ _ _ (aH _ _ _ _ (Code.seq _ _) _)=_;simp (maxSteps:=4000000) only [*,oH,q6,n6a,n6A,n6k,n6K,qf0,qe2,↓RP,RB,RC,↓ai,Nat.reduceBEq,bP,List.map,Nat.reduceAdd,Nat.reduceMul,Nat.reduceLT,Nat.reduceLeDiff,bne,↓ao,↓am,↓aa,aP,ty3,ty4,ty5,qM,Dh,LF,CU,iw.one])
theorem Ev (C:aj) (Kt:y0 C) (kd:rL C) (uQ:wS C) (p0:iY) (r:(List iw)×iY×Int) (hF:oL p0=some r):cR TT C.wide (evW TT C.wide n6 b6) n6 Tryz.f6.results.toList (aU Tryz.f6) [.agg [.v (.sl 1 (ah cE p0.iW)),.v (.i .i64 p0.iP)]] []=some (.tup [.v (.sl 20 (ah iw.row r.1)),.agg [.v (.sl 1 (ah cE r.2.1.iW)),.v (.i .i64 r.2.1.iP)],.v (.i .i64 r.2.2)],[]):=by
 revert hF
 unfold oL
 refine az ?_
 rintro⟨x1,x2⟩ h1
 dsimp only
 have g1:=bK (Kt p0 _ h1)
 try simp only [] at g1
 refine bF (fun h2=>?_) (fun h2=>?_)
 rotate_left 1
 refine az ?_
 rintro (⟨x3,x4⟩|⟨x3,x4,x5⟩) h3
 focus
  dsimp only
  have g2:=cH _ _ (wB C kd uQ x1) h3
  have g3:(x4==x4)=true:=by simp
  try simp only [ak,oH,q6] at g2
  refine aX (fun h4=>?_) (fun _=>nofun)
 rotate_left 1
 dsimp only
 have g4:=cH _ _ (wB C kd uQ x1) h3
 have g3:(x4==x4)=true:=by simp
 try simp only [ak,oH,q6] at g4
 refine aX (fun h4=>?_) (fun _=>nofun)
 all_goals (rintro⟨⟩;rw [bk];show cC _ _ _ (aH _ _ _ _ (Code.seq _ _) _)=_;simp (maxSteps:=4000000) only [*,qhc,n6a,n6A,n6k,n6K,qcD,qiA,qf0,qe2,↓RP,RB,RC,Nat.reduceBEq,bP,List.map,Nat.reduceAdd,Nat.reduceSub,Nat.reduceLeDiff,bne,↓ao,↓am,↓aa,↓aq,ty3,ty4,ty5,qM,Dh,LF,mD])
def W4:List (Nat×List Nat):=[(0,[0,1,2]),(1,[6])]
def n42:cL where
 keep:=ax W4
 ro:=fun _=>false
 mv:=fun _=>false
 give:=fun _=>false
 free:=fun _=>[]
theorem qg9 (i:Nat):n42.keep i=ax W4 i:=rfl
theorem qcX:Tryz.f42.results.toList= [.tmp 6]:=rfl
noncomputable def b42:Code:=aU Tryz.f42
theorem qce (C:aj)  (p0:Int) (p1:Int) (p2:Int) (r:Bool) (hF:Ok p0 p1 p2=some r):cR TT C.wide (evW TT C.wide n42 b42) n42 Tryz.f42.results.toList (aU Tryz.f42) [.v (.i .i64 p0),.v (.i .i64 p1),.v (.i .i64 p2)] []=some (.v (.b r),[]):=by
 revert hF
 unfold Ok
 refine aX (fun h1=>?_) (fun h1=>?_)
 rotate_left 1
 all_goals (rintro⟨⟩;rw [bk];show cC _ _ _ (aH _ _ _ _ (Code.seq _ _) _)=_;simp (maxSteps:=4000000) only [*,qcX,qg9,W4,↓RP,RB,RC,Nat.reduceBEq,List.map,Nat.reduceAdd,↓ao,↓aa,ty3,ty4])
def Z6:List (Nat×List Nat):=[(0,[1]),(1,[2])]
def n18:cL where
 keep:=ax Z6
 ro:=fun t=>t==1
 mv:=fun _=>false
 give:=fun _=>false
 free:=fun _=>[]
theorem qha (i:Nat):n18.keep i=ax Z6 i:=rfl
theorem qcy (t:Nat):n18.ro t=(t==1):=rfl
theorem qde (t:Nat):n18.mv t=(false):=rfl
theorem qgp:Tryz.f18.results.toList= [.tmp 2]:=rfl
noncomputable def b18:Code:=aU Tryz.f18
theorem JZ (C:aj) (jE:kW C) (p0:iY) (r:Bool) (hF:vO p0=some r):cR TT C.wide (evW TT C.wide n18 b18) n18 Tryz.f18.results.toList (aU Tryz.f18) [.agg [.v (.sl 1 (ah cE p0.iW)),.v (.i .i64 p0.iP)]] []=some (.v (.b r),[]):=by
 revert hF
 unfold vO
 refine aX (fun h1=>?_) (fun h1=>?_)
 focus
  have g1:=bK (jE p0.iP 0 (p0.iW.length:Int) _ (oU p0.iP 0 (p0.iW.length:Int)))
  have g2:jj p0.iP 0 (p0.iW.length:Int)=(decide (0<=p0.iP)&&decide (p0.iP<=(p0.iW.length:Int))):=by first|rfl|(simp [jj];done)|(simp only [jj];decide)
 rotate_left 1
 all_goals (rintro⟨⟩;rw [bk];show cC _ _ _ (aH _ _ _ _ (Code.seq _ _) _)=_;simp (maxSteps:=4000000) only [*,qgp,qha,Z6,qcy,qde,↓RP,RB,RC,Nat.reduceBEq,bP,List.map,↓ao,↓aa,ty3,ty4,qM,Dh])
def qaq:List (Nat×List Nat):=[(0,[0,1]),(1,[4])]
def n19:cL where
 keep:=ax qaq
 ro:=fun _=>false
 mv:=fun _=>false
 give:=fun _=>false
 free:=fun i=>match i with|1=>[(0,1),(0,6),(1,6),(2,6),(3,6),(4,6),(5,6),(0,7),(1,7),(2,7),(3,7),(4,7),(5,7),(6,7),(0,8),(1,8),(2,8),(3,8),(4,8),(5,8),(6,8),(0,9),(1,9),(2,9),(3,9),(4,9),(5,9),(0,10),(1,10),(2,10),(3,10),(4,10),(5,10),(0,11),(1,11),(2,11),(3,11),(4,11),(5,11),(0,12),(1,12),(2,12),(3,12),(4,12),(5,12),(0,14),(1,14),(2,14),(3,14),(4,14),(5,14),(6,14),(7,14),(8,14),(9,14),(10,14),(11,14),(12,14),(13,14),(0,15),(1,15),(2,15),(3,15),(4,15),(5,15),(6,15),(7,15),(8,15),(9,15),(10,15),(11,15),(12,15),(13,15),(14,15),(0,16),(1,16),(2,16),(3,16),(4,16),(5,16),(6,16),(7,16),(8,16),(9,16),(10,16),(11,16),(12,16),(13,16),(14,16),(0,17),(1,17),(2,17),(3,17),(4,17),(5,17),(6,17),(7,17),(8,17),(9,17),(10,17),(11,17),(12,17),(13,17),(0,18),(1,18),(2,18),(3,18),(4,18),(5,18),(6,18),(7,18),(8,18),(9,18),(10,18),(11,18),(12,18),(13,18),(0,19),(1,19),(2,19),(3,19),(4,19),(5,19),(6,19),(7,19),(8,19),(9,19),(10,19),(11,19),(12,19),(13,19)]|_=>[]
theorem qhK (i:Nat):n19.keep i=ax qaq i:=rfl
theorem qdj (t:Nat):n19.mv t=(false):=rfl
theorem qdM:n19.free 1= [(0,1),(0,6),(1,6),(2,6),(3,6),(4,6),(5,6),(0,7),(1,7),(2,7),(3,7),(4,7),(5,7),(6,7),(0,8),(1,8),(2,8),(3,8),(4,8),(5,8),(6,8),(0,9),(1,9),(2,9),(3,9),(4,9),(5,9),(0,10),(1,10),(2,10),(3,10),(4,10),(5,10),(0,11),(1,11),(2,11),(3,11),(4,11),(5,11),(0,12),(1,12),(2,12),(3,12),(4,12),(5,12),(0,14),(1,14),(2,14),(3,14),(4,14),(5,14),(6,14),(7,14),(8,14),(9,14),(10,14),(11,14),(12,14),(13,14),(0,15),(1,15),(2,15),(3,15),(4,15),(5,15),(6,15),(7,15),(8,15),(9,15),(10,15),(11,15),(12,15),(13,15),(14,15),(0,16),(1,16),(2,16),(3,16),(4,16),(5,16),(6,16),(7,16),(8,16),(9,16),(10,16),(11,16),(12,16),(13,16),(14,16),(0,17),(1,17),(2,17),(3,17),(4,17),(5,17),(6,17),(7,17),(8,17),(9,17),(10,17),(11,17),(12,17),(13,17),(0,18),(1,18),(2,18),(3,18),(4,18),(5,18),(6,18),(7,18),(8,18),(9,18),(10,18),(11,18),(12,18),(13,18),(0,19),(1,19),(2,19),(3,19),(4,19),(5,19),(6,19),(7,19),(8,19),(9,19),(10,19),(11,19),(12,19),(13,19)]:=rfl
theorem qfI:Tryz.f19.results.toList= [.tmp 4]:=rfl
noncomputable def b19:Code:=aU Tryz.f19
theorem Ed (C:aj)  (p0:List Int) (p1:Int) (r:Int) (hF:kF p0 p1=some r):cR TT C.wide (evW TT C.wide n19 b19) n19 Tryz.f19.results.toList (aU Tryz.f19) [.v (.sl 1 (ah cE p0)),.v (.i .i64 p1)] []=some (.v (.i .i64 r),[]):=by
 revert hF
 unfold kF
 refine az fun x1 h1=>?_
 have g1:decide (0<=p1)=true:=(cp h1).1
 have g2:(ah cE p0)[(p1:Int).toNat]? =some [.i .u8 x1]:=cn _ h1
 refine az fun x2 h2=>?_
 have g3:decide (0<=(IntKind.i64.wrap (p1+1)))=true:=(cp h2).1
 have g4:(ah cE p0)[((IntKind.i64.wrap (p1+1)):Int).toNat]? =some [.i .u8 x2]:=cn _ h2
 refine az fun x3 h3=>?_
 have g5:decide (0<=(IntKind.i64.wrap (p1+2)))=true:=(cp h3).1
 have g6:(ah cE p0)[((IntKind.i64.wrap (p1+2)):Int).toNat]? =some [.i .u8 x3]:=cn _ h3
 all_goals (rintro⟨⟩;rw [bk];show cC _ _ _ (aH _ _ _ _ (Code.seq _ _) _)=_;simp (maxSteps:=4000000) only [*,qfI,qhK,qaq,qdM,qdj,↓RP,RB,RC,Nat.reduceBEq,List.map,Nat.reduceAdd,↓ao,↓aa,↓aq,ty3,ty5,qM])
def UV:List (Nat×List Nat):=[(0,[1]),(1,[2])]
def n71:cL where
 keep:=ax UV
 ro:=fun t=>t==1
 mv:=fun _=>false
 give:=fun _=>false
 free:=fun _=>[]
theorem qgv (i:Nat):n71.keep i=ax UV i:=rfl
theorem qg0 (t:Nat):n71.ro t=(t==1):=rfl
theorem qeo (t:Nat):n71.mv t=(false):=rfl
theorem qdB:Tryz.f71.results.toList= [.tmp 2]:=rfl
noncomputable def b71:Code:=aU Tryz.f71
theorem A4 (C:aj)  (p0:i5) (c:Code) (ho:cD 0 1 b71=some c) (r:Bool) (hF:lV p0=r): @cV TT C.wide (evW TT C.wide n71 b71) n71 0 1 ⟨[(1,.rp [.i .i64 p0.iT,.i .i64 p0.iI,.i .i64 p0.iu.af.iL,.sl 8 (ah ip.row p0.iu.af.bi),.i .i64 p0.iu.iG,.sl 7 (ah gi.row p0.iu.bz)])],[]⟩ ⟨c⟩=some (.normal,⟨[(2,.v (.b r))],[]⟩):=by
 have e:=Option.some.inj (ho.symm.trans (rfl:cD 0 1 b71=some _))
 subst e
 clear ho
 show aH _ _ _ _ _ _=_
 revert hF
 unfold lV
 refine bF (fun h1=>?_) (fun h1=>?_)
 rotate_left 1
 refine bF (fun h2=>?_) (fun h2=>?_)
 rotate_left 1
 refine bF (fun h3=>?_) (fun h3=>?_)
 rotate_left 1
 refine bF (fun h4=>?_) (fun h4=>?_)
 rotate_left 1
 refine aX (fun h5=>?_) (fun h5=>?_)
 rotate_left 1
 all_goals (rintro rfl;simp (maxSteps:=4000000) only [*,qgv,UV,qeo,↓RP,RB,RC,Nat.reduceBEq,List.map,ty3,ty4,Bp,wv,Ab,u4,Ah,↓aa _ _ _ _ 1])
theorem FM (C:aj)  (p0:i5) (r:Bool) (hF:tt p0=some r):cR TT C.wide (evW TT C.wide n71 b71) n71 Tryz.f71.results.toList (aU Tryz.f71) [.agg [.v (.i .i64 p0.iT),.v (.i .i64 p0.iI),.v (.i .i64 p0.iu.af.iL),.v (.sl 8 (ah ip.row p0.iu.af.bi)),.v (.i .i64 p0.iu.iG),.v (.sl 7 (ah gi.row p0.iu.bz))]] []=some (.v (.b r),[]):=by
 revert hF
 unfold tt
 have g1:=A4 C p0 _ rfl (lV p0) rfl
 all_goals (rintro⟨⟩;rw [bk];show cC _ _ _ (aH _ _ _ _ (Code.seq _ _) _)=_;simp (maxSteps:=4000000) only [*,qdB,qgv,UV,qg0,↓RP,RB,RC,Nat.reduceBEq,bP,List.map,↓ao,ty4,Ah,↓aa _ _ _ _ 0,↓bg _ _ _ _ 1])
def qcc:List (Nat×List Nat):=[(0,[0]),(1,[2])]
def n73:cL where
 keep:=ax qcc
 ro:=fun _=>false
 mv:=fun _=>false
 give:=fun _=>false
 free:=fun _=>[]
theorem qhX (i:Nat):n73.keep i=ax qcc i:=rfl
theorem qdR:Tryz.f73.results.toList= [.tmp 2]:=rfl
noncomputable def b73:Code:=aU Tryz.f73
theorem Fk (C:aj) (jE:kW C) (p0:Int) (r:Bool) (hF:tj p0=some r):cR TT C.wide (evW TT C.wide n73 b73) n73 Tryz.f73.results.toList (aU Tryz.f73) [.v (.i .i64 p0)] []=some (.v (.b r),[]):=by
 revert hF
 unfold tj
 have g1:=bK (jE p0 1 1048576 _ (oU p0 1 1048576))
 have g2:jj p0 1 1048576=(decide (1<=p0)&&decide (p0<=1048576)):=by first|rfl|(simp [jj];done)|(simp only [jj];decide)
 all_goals (rintro⟨⟩;rw [bk];show cC _ _ _ (aH _ _ _ _ (Code.seq _ _) _)=_;simp (maxSteps:=4000000) only [*,qdR,qhX,qcc,↓RP,RB,RC,Nat.reduceBEq,List.map,↓ao,↓aa,ty4])
def RN:List (Nat×List Nat):=[(0,[0]),(1,[2])]
def Uo:cL where
 keep:=ax RN
 ro:=fun _=>false
 mv:=fun _=>false
 give:=fun _=>false
 free:=fun _=>[]
theorem qeA (i:Nat):Uo.keep i=ax RN i:=rfl
theorem qbi:Tryz.f116.results.toList= [.tmp 2]:=rfl
noncomputable def qhn:Code:=aU Tryz.f116
theorem Ju (C:aj) (jE:kW C) (p0:ByteArray) (r:Bool) (hF:um p0=some r):cR TT C.wide (evW TT C.wide Uo qhn) Uo Tryz.f116.results.toList (aU Tryz.f116) [.v (.s p0)] []=some (.v (.b r),[]):=by
 revert hF
 unfold um
 have g1:=bK (jE (p0.size:Int) 1 12 _ (oU (p0.size:Int) 1 12))
 have g2:jj (p0.size:Int) 1 12=(decide (1<=(p0.size:Int))&&decide ((p0.size:Int)<=12)):=by first|rfl|(simp [jj];done)|(simp only [jj];decide)
 all_goals (rintro⟨⟩;rw [bk];show cC _ _ _ (aH _ _ _ _ (Code.seq _ _) _)=_;simp (maxSteps:=4000000) only [*,qbi,qeA,RN,↓RP,RB,RC,Nat.reduceBEq,List.map,↓ao,↓aa,ty4,ty9])
def Sj:List (Nat×List Nat):=[(0,[1]),(1,[2])]
def Pp:cL where
 keep:=ax Sj
 ro:=fun t=>t==1
 mv:=fun _=>false
 give:=fun _=>false
 free:=fun _=>[]
theorem qdO (i:Nat):Pp.keep i=ax Sj i:=rfl
theorem qaZ (t:Nat):Pp.ro t=(t==1):=rfl
theorem qaC (t:Nat):Pp.mv t=(false):=rfl
theorem ZI:Tryz.f138.results.toList= [.tmp 2]:=rfl
noncomputable def qit:Code:=aU Tryz.f138
theorem L7 (C:aj)  (p0:iy) (r:Int) (hF:y9 p0=some r):cR TT C.wide (evW TT C.wide Pp qit) Pp Tryz.f138.results.toList (aU Tryz.f138) [.agg [.v (.i .i64 p0.bt),.v (.s p0.iq),.v (.i .i64 p0.iF),.v (.sl 2 (ah iD.row p0.iA)),.v (.sl 1 (ah bY p0.iC)),.v (.sl 2 (ah im.row p0.il))]] []=some (.v (.i .i64 r),[]):=by
 revert hF
 unfold y9
 refine yw ?_
 unfold nF
 all_goals (rintro rfl;rw [bk];show cC _ _ _ (aH _ _ _ _ (Code.seq _ _) _)=_;simp (maxSteps:=4000000) only [*,ZI,qdO,Sj,qaZ,qaC,↓RP,RB,RC,Nat.reduceBEq,bP,List.map,↓ao,↓aa,ty3,ue,ph,qu,mh])
def QL:List (Nat×List Nat):=[(0,[0]),(1,[2])]
def TP:cL where
 keep:=ax QL
 ro:=fun _=>false
 mv:=fun _=>false
 give:=fun _=>false
 free:=fun _=>[]
theorem qd5 (i:Nat):TP.keep i=ax QL i:=rfl
theorem Zy:Tryz.f118.results.toList= [.tmp 2]:=rfl
noncomputable def qiz:Code:=aU Tryz.f118
theorem Ka (C:aj)  (p0:ByteArray) (r:Bool) (hF:vL p0=some r):cR TT C.wide (evW TT C.wide TP qiz) TP Tryz.f118.results.toList (aU Tryz.f118) [.v (.s p0)] []=some (.v (.b r),[]):=by
 revert hF
 unfold vL
 all_goals (rintro⟨⟩;rw [bk];show cC _ _ _ (aH _ _ _ _ (Code.seq _ _) _)=_;simp (maxSteps:=4000000) only [*,Zy,qd5,QL,↓RP,RB,RC,Nat.reduceBEq,List.map,↓ao,↓aa,ty3,ty4,ty9])
def PI:List (Nat×List Nat):=[(0,[0]),(1,[2])]
def T0:cL where
 keep:=ax PI
 ro:=fun _=>false
 mv:=fun _=>false
 give:=fun _=>false
 free:=fun _=>[]
theorem qcA (i:Nat):T0.keep i=ax PI i:=rfl
theorem V5:Tryz.f119.results.toList= [.tmp 2]:=rfl
noncomputable def qh4:Code:=aU Tryz.f119
theorem IF (C:aj) (jE:kW C) (p0:Int) (r:Bool) (hF:uv p0=some r):cR TT C.wide (evW TT C.wide T0 qh4) T0 Tryz.f119.results.toList (aU Tryz.f119) [.v (.i .i64 p0)] []=some (.v (.b r),[]):=by
 revert hF
 unfold uv
 have g1:=bK (jE p0 (-1099511627776) 1099511627776 _ (oU p0 (-1099511627776) 1099511627776))
 have g2:jj p0 (-1099511627776) 1099511627776=(decide ((-1099511627776)<=p0)&&decide (p0<=1099511627776)):=by first|rfl|(simp [jj];done)|(simp only [jj];decide)
 all_goals (rintro⟨⟩;rw [bk];show cC _ _ _ (aH _ _ _ _ (Code.seq _ _) _)=_;simp (maxSteps:=4000000) only [*,V5,qcA,PI,↓RP,RB,RC,Nat.reduceBEq,List.map,Int.reduceNeg,↓ao,↓aa,ty4])
def P6:List (Nat×List Nat):=[(0,[2,3]),(1,[2,3,9]),(2,[4]),(3,[4])]
def Qf:List (Nat×List Nat×List Nat):=[(9,[2,3],[2,3])]
def M4:cL where
 keep:=ax P6
 ro:=fun t=>t==2||t==3
 mv:=fun _=>false
 give:=fun _=>false
 free:=fun _=>[]
 alive:=av Qf
theorem qe0 (t:Nat) (x:Bool) (e:Env) (S:bH):cK M4 t x ⟨e,S⟩=atO (av Qf t x) e S:=cF rfl t x e S
theorem qfV (i:Nat):M4.keep i=ax P6 i:=rfl
theorem XF (t:Nat):M4.ro t=(t==2||t==3):=rfl
theorem V7 (t:Nat):M4.mv t=(false):=rfl
theorem qaI:Tryz.f139.results.toList= [.tmp 4]:=rfl
noncomputable def qhx:Code:=aU Tryz.f139
theorem EL (C:aj)  (p0:im) (p1:im) (r:Bool) (hF:rY p0 p1=some r):cR TT C.wide (evW TT C.wide M4 qhx) M4 Tryz.f139.results.toList (aU Tryz.f139) [.agg [.v (.s p0.iZ),.v (.i .i64 p0.fN)],.agg [.v (.s p1.iZ),.v (.i .i64 p1.fN)]] []=some (.v (.b r),[]):=by
 revert hF
 unfold rY
 refine aX (fun h1=>?_) (fun h1=>?_)
 rotate_left 1
 all_goals (rintro⟨⟩;rw [bk];show cC _ _ _ (aH _ _ _ _ (Code.seq _ _) _)=_;simp (maxSteps:=4000000) only [*,qaI,qe0,Qf,qfV,P6,XF,V7,↓RP,RB,RC,Nat.reduceBEq,bP,List.map,Nat.reduceAdd,bne,↓ao,↓am,↓aa,ty3,ty4,ty9,u7])
def No:List (Nat×List Nat):=[(0,[0,1]),(1,[0,1,5]),(2,[0,1,5,9]),(3,[0,1,5]),(4,[0,1,5,18]),(5,[4]),(6,[4])]
def PT:List (Nat×List Nat×List Nat):=[(9,[0,1,5],[]),(18,[5],[0,1,5])]
def Jf:cL where
 keep:=ax No
 ro:=fun _=>false
 mv:=fun _=>false
 give:=fun _=>false
 free:=fun _=>[]
 alive:=av PT
theorem qgs (t:Nat) (x:Bool) (e:Env) (S:bH):cK Jf t x ⟨e,S⟩=atO (av PT t x) e S:=cF rfl t x e S
theorem Vk (i:Nat):Jf.keep i=ax No i:=rfl
theorem qbh (t:Nat):Jf.mv t=(false):=rfl
theorem qba:Tryz.f140.results.toList= [.tmp 4]:=rfl
noncomputable def TE:Code:=aU Tryz.f140
noncomputable def qbI:Code:=(bE 0 (aU Tryz.f140)).getD .skip
theorem U0:bE 0 TE=some qbI:=rfl
def qk (p0:List im) (p1:ByteArray) (s:Int):St:=⟨[(0,.v (.sl 2 (ah im.row p0))),(1,.v (.s p1)),(5,.v (.i .i64 s))],[]⟩
def sG (p0:List im) (p1:ByteArray) (r:Int⊕Unit):Option (Ex×St):=match r with
 | .inl r=>some (.ret,⟨[(4,.v (.i .i64 r))],[]⟩)
 | .inr r=>some (.normal,⟨[],[]⟩)
theorem yh (C:aj)  (p0:List im) (p1:ByteArray) (p2:Int) (o:Int⊕(Int⊕Unit)) (hF:oi p0 p1 p2=some o):evW TT C.wide Jf TE 0 (qk p0 p1 p2)=Sum.elim (fun s=>evW TT C.wide Jf TE 0 (qk p0 p1 s)) (fun r=>sG p0 p1 r) o:=by
 rw [cG TT Jf U0]
 revert hF
 unfold oi
 try dsimp only
 refine bF (fun h1=>?_) (fun h1=>?_)
 rotate_left 1
 refine az fun x1 h2=>?_
 have g1:decide (0<=p2)=true:=(cp h2).1
 have g2:(ah im.row p0)[(p2:Int).toNat]? =some [.s x1.iZ,.i .i64 x1.fN]:=cn _ h2
 refine aX (fun h3=>?_) (fun h3=>?_)
 rotate_left 1
 all_goals (rintro⟨⟩;show cN _ _ _ (aH _ _ _ _ (Code.seq _ _) _)=_;simp (maxSteps:=4000000) only [*,qk,sG,qgs,PT,Vk,No,qbh,↓RP,RB,RC,↓ai,Nat.reduceBEq,List.map,↓ao,↓am,↓aa,ty3,ty9,qu,u7])
theorem Jn (C:aj)  (p0:List im) (p1:ByteArray) (r:Int) (hF:sY p0 p1=some r):cR TT C.wide (evW TT C.wide Jf TE) Jf Tryz.f140.results.toList (aU Tryz.f140) [.v (.sl 2 (ah im.row p0)),.v (.s p1)] []=some (.v (.i .i64 r),[]):=by
 revert hF
 unfold sY
 refine az ?_
 rintro (x1|_) h1
 focus
  dsimp only
  have g1:=cH _ _ (yh C p0 p1) h1
  try simp only [qk,sG] at g1
 rotate_left 1
 dsimp only
 have g2:=cH _ _ (yh C p0 p1) h1
 try simp only [qk,sG] at g2
 all_goals (rintro⟨⟩;rw [bk];show cC _ _ _ (aH _ _ _ _ (Code.seq _ _) _)=_;simp (maxSteps:=4000000) only [*,qba,Vk,No,↓RP,RB,RC,Nat.reduceBEq,List.map,Nat.reduceAdd,Int.reduceNeg,↓ao,↓aa,ty3])
def xt:List (Nat×List Nat):=[(0,[1]),(1,[1,14]),(2,[2]),(3,[1,3]),(4,[1,72]),(5,[2]),(6,[1,87]),(7,[2]),(8,[1,4]),(9,[1,4,92]),(10,[1,4]),(11,[1,4,101]),(12,[2]),(13,[1,5]),(14,[1,5,106]),(15,[1,5]),(16,[1,5,126]),(17,[2]),(18,[1,6]),(19,[1,6,131]),(20,[1,6]),(21,[1,6,141]),(22,[2]),(23,[1,145]),(24,[2]),(25,[1,7]),(26,[1,7,150]),(27,[1,7]),(28,[1,7,160]),(29,[2]),(30,[1,8]),(31,[1,8,165]),(32,[1,8]),(33,[1,8,181]),(34,[2]),(35,[1,9]),(36,[1,9,191]),(37,[1,9]),(38,[1,9,205]),(39,[2]),(40,[1,10]),(41,[1,10,210]),(42,[1,10]),(43,[1,10,239]),(44,[2]),(45,[2])]
def zW:List (Nat×List Nat×List Nat):=[(14,[],[1]),(72,[],[1]),(87,[],[1]),(92,[1,4],[1]),(101,[],[1,4]),(106,[1,5],[1]),(126,[],[1,5]),(131,[1,6],[1]),(141,[],[1,6]),(145,[],[1]),(150,[1,7],[1]),(160,[],[1,7]),(165,[1,8],[1]),(181,[],[1,8]),(191,[1,9],[1]),(205,[],[1,9]),(210,[1,10],[]),(239,[],[1,10])]
def qO:cL where
 keep:=ax xt
 ro:=fun t=>t==1
 mv:=fun _=>false
 give:=fun _=>false
 free:=fun i=>match i with|33=>[(0,2),(1,2),(0,3),(1,3),(0,7),(1,7),(2,7),(3,7),(4,7),(5,7),(6,7),(0,8),(1,8),(2,8),(3,8),(4,8),(5,8),(6,8),(0,9),(1,9),(2,9),(3,9),(4,9),(5,9),(6,9),(7,9),(8,9),(0,10),(1,10),(2,10),(3,10),(4,10),(5,10),(6,10),(0,11),(1,11),(2,11),(3,11),(4,11),(5,11),(6,11),(0,12),(1,12),(2,12),(3,12),(4,12),(5,12),(6,12)]|38=>[(0,2),(1,2),(0,3),(1,3),(0,6),(1,6),(2,6),(3,6),(4,6),(5,6),(0,7),(1,7),(2,7),(3,7),(4,7),(5,7),(0,8),(1,8),(2,8),(3,8),(4,8),(5,8),(6,8),(7,8),(0,9),(1,9),(2,9),(3,9),(4,9),(5,9),(0,10),(1,10),(2,10),(3,10),(4,10),(5,10)]|43=>[(0,2),(1,2),(0,3),(1,3),(0,6),(1,6),(2,6),(3,6),(4,6),(5,6),(0,7),(1,7),(2,7),(3,7),(4,7),(5,7),(0,8),(1,8),(2,8),(3,8),(4,8),(5,8),(6,8),(7,8),(0,9),(1,9),(2,9),(3,9),(4,9),(5,9),(0,10),(1,10),(2,10),(3,10),(4,10),(5,10),(14,16),(15,16),(14,18),(15,18),(16,18),(17,18),(14,19),(15,19),(16,19),(17,19),(14,20),(15,20),(16,20),(17,20),(18,20),(19,20),(14,21),(15,21),(16,21),(17,21),(14,22),(15,22),(16,22),(17,22),(14,23),(15,23),(16,23),(17,23)]|_=>[]
 alive:=av zW
theorem Cs (t:Nat) (x:Bool) (e:Env) (S:bH):cK qO t x ⟨e,S⟩=atO (av zW t x) e S:=cF rfl t x e S
theorem yF (i:Nat):qO.keep i=ax xt i:=rfl
theorem YD (t:Nat):qO.ro t=(t==1):=rfl
theorem vQ (t:Nat):qO.mv t=(false):=rfl
theorem Th:qO.free 33= [(0,2),(1,2),(0,3),(1,3),(0,7),(1,7),(2,7),(3,7),(4,7),(5,7),(6,7),(0,8),(1,8),(2,8),(3,8),(4,8),(5,8),(6,8),(0,9),(1,9),(2,9),(3,9),(4,9),(5,9),(6,9),(7,9),(8,9),(0,10),(1,10),(2,10),(3,10),(4,10),(5,10),(6,10),(0,11),(1,11),(2,11),(3,11),(4,11),(5,11),(6,11),(0,12),(1,12),(2,12),(3,12),(4,12),(5,12),(6,12)]:=rfl
theorem SN:qO.free 38= [(0,2),(1,2),(0,3),(1,3),(0,6),(1,6),(2,6),(3,6),(4,6),(5,6),(0,7),(1,7),(2,7),(3,7),(4,7),(5,7),(0,8),(1,8),(2,8),(3,8),(4,8),(5,8),(6,8),(7,8),(0,9),(1,9),(2,9),(3,9),(4,9),(5,9),(0,10),(1,10),(2,10),(3,10),(4,10),(5,10)]:=rfl
theorem Tx:qO.free 43= [(0,2),(1,2),(0,3),(1,3),(0,6),(1,6),(2,6),(3,6),(4,6),(5,6),(0,7),(1,7),(2,7),(3,7),(4,7),(5,7),(0,8),(1,8),(2,8),(3,8),(4,8),(5,8),(6,8),(7,8),(0,9),(1,9),(2,9),(3,9),(4,9),(5,9),(0,10),(1,10),(2,10),(3,10),(4,10),(5,10),(14,16),(15,16),(14,18),(15,18),(16,18),(17,18),(14,19),(15,19),(16,19),(17,19),(14,20),(15,20),(16,20),(17,20),(18,20),(19,20),(14,21),(15,21),(16,21),(17,21),(14,22),(15,22),(16,22),(17,22),(14,23),(15,23),(16,23),(17,23)]:=rfl
theorem ZL:Tryz.f117.results.toList= [.tmp 2]:=rfl
noncomputable def sT:Code:=aU Tryz.f117
noncomputable def qaV:Code:=(bE 0 (aU Tryz.f117)).getD .skip
theorem Tt:bE 0 sT=some qaV:=rfl
noncomputable def YC:Code:=(bE 2 (aU Tryz.f117)).getD .skip
theorem TS:bE 2 sT=some YC:=rfl
noncomputable def ZD:Code:=(bE 4 (aU Tryz.f117)).getD .skip
theorem S8:bE 4 sT=some ZD:=rfl
noncomputable def YK:Code:=(bE 6 (aU Tryz.f117)).getD .skip
theorem TO:bE 6 sT=some YK:=rfl
noncomputable def qb0:Code:=(bE 8 (aU Tryz.f117)).getD .skip
theorem TF:bE 8 sT=some qb0:=rfl
noncomputable def Uj:Code:=(bE 10 (aU Tryz.f117)).getD .skip
theorem PH:bE 10 sT=some Uj:=rfl
noncomputable def S6:Code:=(bE 12 (aU Tryz.f117)).getD .skip
theorem QZ:bE 12 sT=some S6:=rfl
theorem Ac (C:aj)  (p0:iy) (c:Code) (ho:cD 0 4 sT=some c) (r:Bool) (hF:mB p0=r): @cV TT C.wide (evW TT C.wide qO sT) qO 0 4 ⟨[(1,.rp [.i .i64 p0.bt,.s p0.iq,.i .i64 p0.iF,.sl 2 (ah iD.row p0.iA),.sl 1 (ah bY p0.iC),.sl 2 (ah im.row p0.il)]),(3,.v (.b true))],[]⟩ ⟨c⟩=some (.normal,⟨[(1,.rp [.i .i64 p0.bt,.s p0.iq,.i .i64 p0.iF,.sl 2 (ah iD.row p0.iA),.sl 1 (ah bY p0.iC),.sl 2 (ah im.row p0.il)]),(72,.v (.b r))],[]⟩):=by
 have e:=Option.some.inj (ho.symm.trans (rfl:cD 0 4 sT=some _))
 subst e
 clear ho
 show aH _ _ _ _ _ _=_
 revert hF
 unfold mB
 refine aX (fun h1=>?_) (fun h1=>?_)
 focus
  refine aX (fun h2=>?_) (fun h2=>?_)
  focus
   refine aX (fun h3=>?_) (fun h3=>?_)
   focus
    refine aX (fun h4=>?_) (fun h4=>?_)
    rotate_left 1
   rotate_left 2
   refine aX (fun h4=>?_) (fun h4=>?_)
   rotate_left 1
   refine aX (fun h5=>?_) (fun h5=>?_)
   rotate_left 1
  rotate_left 5
  unfold pA
  refine bF (fun h3=>?_) (fun h3=>?_)
  rotate_left 1
  refine aX (fun h4=>?_) (fun h4=>?_)
  focus
   refine aX (fun h5=>?_) (fun h5=>?_)
   rotate_left 1
  rotate_left 2
  refine aX (fun h5=>?_) (fun h5=>?_)
  rotate_left 1
  refine aX (fun h6=>?_) (fun h6=>?_)
  rotate_left 1
 rotate_left 11
 unfold pN
 refine bF (fun h2=>?_) (fun h2=>?_)
 rotate_left 1
 refine aX (fun h3=>?_) (fun h3=>?_)
 focus
  refine aX (fun h4=>?_) (fun h4=>?_)
  focus
   refine aX (fun h5=>?_) (fun h5=>?_)
   rotate_left 1
  rotate_left 2
  refine aX (fun h5=>?_) (fun h5=>?_)
  rotate_left 1
  refine aX (fun h6=>?_) (fun h6=>?_)
  rotate_left 1
 rotate_left 5
 unfold pG
 refine bF (fun h4=>?_) (fun h4=>?_)
 rotate_left 1
 refine aX (fun h5=>?_) (fun h5=>?_)
 focus
  refine aX (fun h6=>?_) (fun h6=>?_)
  rotate_left 1
 rotate_left 2
 refine aX (fun h6=>?_) (fun h6=>?_)
 rotate_left 1
 refine aX (fun h7=>?_) (fun h7=>?_)
 rotate_left 1
 all_goals (rintro rfl;simp (maxSteps:=4000000) only [*,yF,xt,vQ,↓RP,RB,RC,Nat.reduceBEq,List.map,bne,ty3,ty9,ue,qu,mh,↓aa _ _ _ _ 4])
theorem wt (C:aj) (xI:xT C) (jE:kW C) (i9:ln C) (p0:iy) (c:Code) (ho:cD 0 6 sT=some c) (r:Bool) (hF:kq p0=r): @cV TT C.wide (evW TT C.wide qO sT) qO 0 6 ⟨[(1,.rp [.i .i64 p0.bt,.s p0.iq,.i .i64 p0.iF,.sl 2 (ah iD.row p0.iA),.sl 1 (ah bY p0.iC),.sl 2 (ah im.row p0.il)])],[]⟩ ⟨c⟩=some (.normal,⟨[(1,.rp [.i .i64 p0.bt,.s p0.iq,.i .i64 p0.iF,.sl 2 (ah iD.row p0.iA),.sl 1 (ah bY p0.iC),.sl 2 (ah im.row p0.il)]),(87,.v (.b r))],[]⟩):=by
 have e:=Option.some.inj (ho.symm.trans (rfl:cD 0 6 sT=some _))
 subst e
 clear ho
 show aH _ _ _ _ _ _=_
 revert hF
 unfold kq
 refine bF (fun h1=>?_) (fun h1=>?_)
 focus
  have g1:=bK (i9 p0.iq _ (mJ p0.iq))
 rotate_left 1
 have g2:=bK (xI p0 _ (MA p0))
 have g3:=bK (jE (nF p0) 1 20 _ (oU (nF p0) 1 20))
 have g4:jj (nF p0) 1 20=(decide (1<=(nF p0))&&decide ((nF p0)<=20)):=by first|rfl|(simp [jj];done)|(simp only [jj];decide)
 refine bF (fun h2=>?_) (fun h2=>?_)
 rotate_left 1
 refine aX (fun h3=>?_) (fun h3=>?_)
 focus
  have g1:=bK (i9 p0.iq _ (mJ p0.iq))
 rotate_left 1
 all_goals (rintro rfl;simp (maxSteps:=4000000) only [*,yF,xt,vQ,↓RP,RB,RC,Nat.reduceBEq,List.map,Nat.reduceAdd,ty3,ty9,mh,↓aa _ _ _ _ 6])
def lN (p0:iy) (s:Int):St:=⟨[(1,.rp [.i .i64 p0.bt,.s p0.iq,.i .i64 p0.iF,.sl 2 (ah iD.row p0.iA),.sl 1 (ah bY p0.iC),.sl 2 (ah im.row p0.il)]),(4,.v (.i .i64 s))],[]⟩
def mL (p0:iy) (r:Unit⊕Unit):Option (Ex×St):=match r with
 | .inl r=>some (.ret,⟨[(2,.v (.i .i64 1))],[]⟩)
 | .inr r=>some (.normal,⟨[(1,.rp [.i .i64 p0.bt,.s p0.iq,.i .i64 p0.iF,.sl 2 (ah iD.row p0.iA),.sl 1 (ah bY p0.iC),.sl 2 (ah im.row p0.il)])],[]⟩)
theorem rj (C:aj) (i9:ln C) (p0:iy) (p1:Int) (o:Int⊕(Unit⊕Unit)) (hF:kT p0 p1=some o):evW TT C.wide qO sT 0 (lN p0 p1)=Sum.elim (fun s=>evW TT C.wide qO sT 0 (lN p0 s)) (fun r=>mL p0 r) o:=by
 rw [cG TT qO Tt]
 revert hF
 unfold kT
 try dsimp only
 refine bF (fun h1=>?_) (fun h1=>?_)
 rotate_left 1
 refine az fun x1 h2=>?_
 have g1:decide (0<=p1)=true:=(cp h2).1
 have g2:(ah bY p0.iC)[(p1:Int).toNat]? =some [.s x1]:=cn _ h2
 have g3:=bK (i9 x1 _ (mJ x1))
 refine aX (fun h3=>?_) (fun h3=>?_)
 rotate_left 1
 all_goals (rintro⟨⟩;show cN _ _ _ (aH _ _ _ _ (Code.seq _ _) _)=_;simp (maxSteps:=4000000) only [*,lN,mL,Cs,zW,yF,xt,vQ,↓RP,RB,RC,↓ai,Nat.reduceBEq,List.map,↓ao,↓am,ty3,ty9,mD,ph,mh,↓aa _ _ _ _ 9,↓aa _ _ _ _ 11,↓aa _ _ _ _ 12,↓aa _ _ _ _ 10])
def lG (p0:iy) (s:Int):St:=⟨[(1,.rp [.i .i64 p0.bt,.s p0.iq,.i .i64 p0.iF,.sl 2 (ah iD.row p0.iA),.sl 1 (ah bY p0.iC),.sl 2 (ah im.row p0.il)]),(5,.v (.i .i64 s))],[]⟩
def mO (p0:iy) (r:Unit⊕Unit):Option (Ex×St):=match r with
 | .inl r=>some (.ret,⟨[(2,.v (.i .i64 1))],[]⟩)
 | .inr r=>some (.normal,⟨[(1,.rp [.i .i64 p0.bt,.s p0.iq,.i .i64 p0.iF,.sl 2 (ah iD.row p0.iA),.sl 1 (ah bY p0.iC),.sl 2 (ah im.row p0.il)])],[]⟩)
theorem q9 (C:aj) (jL:lE C) (i9:ln C) (p0:iy) (p1:Int) (o:Int⊕(Unit⊕Unit)) (hF:lJ p0 p1=some o):evW TT C.wide qO sT 2 (lG p0 p1)=Sum.elim (fun s=>evW TT C.wide qO sT 2 (lG p0 s)) (fun r=>mO p0 r) o:=by
 rw [cG TT qO TS]
 revert hF
 unfold lJ
 try dsimp only
 refine bF (fun h1=>?_) (fun h1=>?_)
 rotate_left 1
 refine az fun x1 h2=>?_
 have g1:decide (0<=p1)=true:=(cp h2).1
 have g2:(ah iD.row p0.iA)[(p1:Int).toNat]? =some [.s x1.iE,.s x1.iq]:=cn _ h2
 have g3:=bK (jL x1.iE _ (tT x1.iE))
 refine bF (fun h3=>?_) (fun h3=>?_)
 rotate_left 1
 have g4:=bK (i9 x1.iq _ (mJ x1.iq))
 refine aX (fun h4=>?_) (fun h4=>?_)
 rotate_left 1
 all_goals (rintro⟨⟩;show cN _ _ _ (aH _ _ _ _ (Code.seq _ _) _)=_;simp (maxSteps:=4000000) only [*,lG,mO,Cs,zW,yF,xt,vQ,↓RP,RB,RC,↓ai,Nat.reduceBEq,List.map,↓ao,↓am,ty3,ty9,mD,ue,mh,AH,↓aa _ _ _ _ 14,↓aa _ _ _ _ 16,↓aa _ _ _ _ 17,↓aa _ _ _ _ 15])
def lR (p0:iy) (s:Int):St:=⟨[(1,.rp [.i .i64 p0.bt,.s p0.iq,.i .i64 p0.iF,.sl 2 (ah iD.row p0.iA),.sl 1 (ah bY p0.iC),.sl 2 (ah im.row p0.il)]),(6,.v (.i .i64 s))],[]⟩
def mR (p0:iy) (r:Unit⊕Unit):Option (Ex×St):=match r with
 | .inl r=>some (.ret,⟨[(2,.v (.i .i64 1))],[]⟩)
 | .inr r=>some (.normal,⟨[(1,.rp [.i .i64 p0.bt,.s p0.iq,.i .i64 p0.iF,.sl 2 (ah iD.row p0.iA),.sl 1 (ah bY p0.iC),.sl 2 (ah im.row p0.il)])],[]⟩)
theorem ri (C:aj) (i9:ln C) (p0:iy) (p1:Int) (o:Int⊕(Unit⊕Unit)) (hF:lT p0 p1=some o):evW TT C.wide qO sT 4 (lR p0 p1)=Sum.elim (fun s=>evW TT C.wide qO sT 4 (lR p0 s)) (fun r=>mR p0 r) o:=by
 rw [cG TT qO S8]
 revert hF
 unfold lT
 try dsimp only
 refine bF (fun h1=>?_) (fun h1=>?_)
 rotate_left 1
 refine az fun x1 h2=>?_
 have g1:decide (0<=p1)=true:=(cp h2).1
 have g2:(ah im.row p0.il)[(p1:Int).toNat]? =some [.s x1.iZ,.i .i64 x1.fN]:=cn _ h2
 have g3:=bK (i9 x1.iZ _ (mJ x1.iZ))
 refine aX (fun h3=>?_) (fun h3=>?_)
 rotate_left 1
 all_goals (rintro⟨⟩;show cN _ _ _ (aH _ _ _ _ (Code.seq _ _) _)=_;simp (maxSteps:=4000000) only [*,lR,mR,Cs,zW,yF,xt,vQ,↓RP,RB,RC,↓ai,Nat.reduceBEq,List.map,↓ao,↓am,ty3,ty9,mD,qu,mh,u7,↓aa _ _ _ _ 19,↓aa _ _ _ _ 21,↓aa _ _ _ _ 22,↓aa _ _ _ _ 20])
def lC (p0:iy) (s:Int):St:=⟨[(1,.rp [.i .i64 p0.bt,.s p0.iq,.i .i64 p0.iF,.sl 2 (ah iD.row p0.iA),.sl 1 (ah bY p0.iC),.sl 2 (ah im.row p0.il)]),(7,.v (.i .i64 s))],[]⟩
def mQ (p0:iy) (r:Unit⊕Unit):Option (Ex×St):=match r with
 | .inl r=>some (.ret,⟨[(2,.v (.i .i64 2))],[]⟩)
 | .inr r=>some (.normal,⟨[(1,.rp [.i .i64 p0.bt,.s p0.iq,.i .i64 p0.iF,.sl 2 (ah iD.row p0.iA),.sl 1 (ah bY p0.iC),.sl 2 (ah im.row p0.il)])],[]⟩)
theorem q8 (C:aj) (lb:oz C) (p0:iy) (p1:Int) (o:Int⊕(Unit⊕Unit)) (hF:lK p0 p1=some o):evW TT C.wide qO sT 6 (lC p0 p1)=Sum.elim (fun s=>evW TT C.wide qO sT 6 (lC p0 s)) (fun r=>mQ p0 r) o:=by
 rw [cG TT qO TO]
 revert hF
 unfold lK
 try dsimp only
 refine bF (fun h1=>?_) (fun h1=>?_)
 rotate_left 1
 refine az fun x1 h2=>?_
 have g1:decide (0<=p1)=true:=(cp h2).1
 have g2:(ah im.row p0.il)[(p1:Int).toNat]? =some [.s x1.iZ,.i .i64 x1.fN]:=cn _ h2
 have g3:=bK (lb x1.fN _ (tP x1.fN))
 refine aX (fun h3=>?_) (fun h3=>?_)
 rotate_left 1
 all_goals (rintro⟨⟩;show cN _ _ _ (aH _ _ _ _ (Code.seq _ _) _)=_;simp (maxSteps:=4000000) only [*,lC,mQ,Cs,zW,yF,xt,vQ,↓RP,RB,RC,↓ai,Nat.reduceBEq,List.map,↓ao,↓am,ty3,mD,qu,mh,u7,↓aa _ _ _ _ 26,↓aa _ _ _ _ 28,↓aa _ _ _ _ 29,↓aa _ _ _ _ 27])
def lS (p0:iy) (s:Int):St:=⟨[(1,.rp [.i .i64 p0.bt,.s p0.iq,.i .i64 p0.iF,.sl 2 (ah iD.row p0.iA),.sl 1 (ah bY p0.iC),.sl 2 (ah im.row p0.il)]),(8,.v (.i .i64 s))],[]⟩
def mP (p0:iy) (r:Unit⊕Unit):Option (Ex×St):=match r with
 | .inl r=>some (.ret,⟨[(2,.v (.i .i64 10))],[]⟩)
 | .inr r=>some (.normal,⟨[(1,.rp [.i .i64 p0.bt,.s p0.iq,.i .i64 p0.iF,.sl 2 (ah iD.row p0.iA),.sl 1 (ah bY p0.iC),.sl 2 (ah im.row p0.il)])],[]⟩)
theorem qY (C:aj)  (p0:iy) (p1:Int) (o:Int⊕(Unit⊕Unit)) (hF:lD p0 p1=some o):evW TT C.wide qO sT 8 (lS p0 p1)=Sum.elim (fun s=>evW TT C.wide qO sT 8 (lS p0 s)) (fun r=>mP p0 r) o:=by
 rw [cG TT qO TF]
 revert hF
 unfold lD
 try dsimp only
 refine bF (fun h1=>?_) (fun h1=>?_)
 rotate_left 1
 refine az fun x1 h2=>?_
 have g1:decide (0<=(IntKind.i64.wrap (p1-1)))=true:=(cp h2).1
 have g2:(ah iD.row p0.iA)[((IntKind.i64.wrap (p1-1)):Int).toNat]? =some [.s x1.iE,.s x1.iq]:=cn _ h2
 refine az fun x2 h3=>?_
 have g3:decide (0<=p1)=true:=(cp h3).1
 have g4:(ah iD.row p0.iA)[(p1:Int).toNat]? =some [.s x2.iE,.s x2.iq]:=cn _ h3
 refine aX (fun h4=>?_) (fun h4=>?_)
 rotate_left 1
 all_goals (rintro⟨⟩;show cN _ _ _ (aH _ _ _ _ (Code.seq _ _) _)=_;simp (maxSteps:=4000000) only [*,lS,mP,Cs,zW,yF,xt,Th,vQ,↓RP,RB,RC,↓ai,Nat.reduceBEq,List.map,↓ao,↓am,ty3,ty9,mD,ue,mh,AH,↓aa _ _ _ _ 31,↓aq _ _ _ _ 33,↓aa _ _ _ _ 34,↓aa _ _ _ _ 32])
def lh (p0:iy) (s:Int):St:=⟨[(1,.rp [.i .i64 p0.bt,.s p0.iq,.i .i64 p0.iF,.sl 2 (ah iD.row p0.iA),.sl 1 (ah bY p0.iC),.sl 2 (ah im.row p0.il)]),(9,.v (.i .i64 s))],[]⟩
def mu (p0:iy) (r:Unit⊕Unit):Option (Ex×St):=match r with
 | .inl r=>some (.ret,⟨[(2,.v (.i .i64 10))],[]⟩)
 | .inr r=>some (.normal,⟨[(1,.rp [.i .i64 p0.bt,.s p0.iq,.i .i64 p0.iF,.sl 2 (ah iD.row p0.iA),.sl 1 (ah bY p0.iC),.sl 2 (ah im.row p0.il)])],[]⟩)
theorem pW (C:aj)  (p0:iy) (p1:Int) (o:Int⊕(Unit⊕Unit)) (hF:j0 p0 p1=some o):evW TT C.wide qO sT 10 (lh p0 p1)=Sum.elim (fun s=>evW TT C.wide qO sT 10 (lh p0 s)) (fun r=>mu p0 r) o:=by
 rw [cG TT qO PH]
 revert hF
 unfold j0
 try dsimp only
 refine bF (fun h1=>?_) (fun h1=>?_)
 rotate_left 1
 refine bF (fun h2=>?_) (fun h2=>?_)
 rotate_left 1
 refine az fun x1 h3=>?_
 have g1:decide (0<=(IntKind.i64.wrap (p1-1)))=true:=(cp h3).1
 have g2:(ah bY p0.iC)[((IntKind.i64.wrap (p1-1)):Int).toNat]? =some [.s x1]:=cn _ h3
 refine az fun x2 h4=>?_
 have g3:decide (0<=p1)=true:=(cp h4).1
 have g4:(ah bY p0.iC)[(p1:Int).toNat]? =some [.s x2]:=cn _ h4
 refine aX (fun h5=>?_) (fun h5=>?_)
 rotate_left 1
 all_goals (rintro⟨⟩;show cN _ _ _ (aH _ _ _ _ (Code.seq _ _) _)=_;simp (maxSteps:=4000000) only [*,lh,mu,Cs,zW,yF,xt,SN,vQ,↓RP,RB,RC,↓ai,Nat.reduceBEq,List.map,↓ao,↓am,ty3,ty9,mD,ph,mh,↓aa _ _ _ _ 36,↓aq _ _ _ _ 38,↓aa _ _ _ _ 39,↓aa _ _ _ _ 37])
def lf (p0:iy) (s:Int):St:=⟨[(1,.rp [.i .i64 p0.bt,.s p0.iq,.i .i64 p0.iF,.sl 2 (ah iD.row p0.iA),.sl 1 (ah bY p0.iC),.sl 2 (ah im.row p0.il)]),(10,.v (.i .i64 s))],[]⟩
def mt (p0:iy) (r:Unit⊕Unit):Option (Ex×St):=match r with
 | .inl r=>some (.ret,⟨[(2,.v (.i .i64 10))],[]⟩)
 | .inr r=>some (.normal,⟨[],[]⟩)
theorem qa (C:aj) (pF:tN C) (rK:xC C) (p0:iy) (p1:Int) (o:Int⊕(Unit⊕Unit)) (hF:ld p0 p1=some o):evW TT C.wide qO sT 12 (lf p0 p1)=Sum.elim (fun s=>evW TT C.wide qO sT 12 (lf p0 s)) (fun r=>mt p0 r) o:=by
 rw [cG TT qO QZ]
 revert hF
 unfold ld
 try dsimp only
 refine bF (fun h1=>?_) (fun h1=>?_)
 rotate_left 1
 refine az fun x1 h2=>?_
 have g1:decide (0<=(IntKind.i64.wrap (p1-1)))=true:=(cp h2).1
 have g2:(ah im.row p0.il)[((IntKind.i64.wrap (p1-1)):Int).toNat]? =some [.s x1.iZ,.i .i64 x1.fN]:=cn _ h2
 refine az fun x2 h3=>?_
 have g3:decide (0<=p1)=true:=(cp h3).1
 have g4:(ah im.row p0.il)[(p1:Int).toNat]? =some [.s x2.iZ,.i .i64 x2.fN]:=cn _ h3
 have g5:=bK (pF x1 x2 _ (Dz x1 x2))
 refine bF (fun h4=>?_) (fun h4=>?_)
 rotate_left 1
 refine aX (fun h5=>?_) (fun _=>nofun)
 refine az fun x3 h6=>?_
 have g6:=bK (rK (dm p0.il 0 p1) x2.iZ _ h6)
 refine aX (fun h7=>?_) (fun h7=>?_)
 rotate_left 1
 all_goals (rintro⟨⟩;show cN _ _ _ (aH _ _ _ _ (Code.seq _ _) _)=_;simp (maxSteps:=4000000) only [*,lf,mt,Cs,zW,yF,xt,Tx,vQ,↓RP,RB,RC,↓ai,Nat.reduceBEq,List.map,Nat.reduceAdd,↓ao,↓am,ty3,ty9,mD,qu,mh,u7,↓aa _ _ _ _ 41,↓aq _ _ _ _ 43,↓aa _ _ _ _ 44,↓aa _ _ _ _ 42])
theorem yR (C:aj)  (p0:iy) (p1:Bool) (c:Code) (ho:cD 0 4 sT=some c) (r:Bool) (hF:lU p0 p1=r): @cV TT C.wide (evW TT C.wide qO sT) qO 0 4 ⟨[(1,.rp [.i .i64 p0.bt,.s p0.iq,.i .i64 p0.iF,.sl 2 (ah iD.row p0.iA),.sl 1 (ah bY p0.iC),.sl 2 (ah im.row p0.il)]),(3,.v (.b p1))],[]⟩ ⟨c⟩=some (.normal,⟨[(1,.rp [.i .i64 p0.bt,.s p0.iq,.i .i64 p0.iF,.sl 2 (ah iD.row p0.iA),.sl 1 (ah bY p0.iC),.sl 2 (ah im.row p0.il)]),(72,.v (.b r))],[]⟩):=by
 have e:=Option.some.inj (ho.symm.trans (rfl:cD 0 4 sT=some _))
 subst e
 clear ho
 show aH _ _ _ _ _ _=_
 revert hF
 unfold lU
 refine aX (fun h1=>?_) (fun h1=>?_)
 focus
  refine aX (fun h2=>?_) (fun h2=>?_)
  focus
   refine aX (fun h3=>?_) (fun h3=>?_)
   focus
    refine aX (fun h4=>?_) (fun h4=>?_)
    focus
     refine aX (fun h5=>?_) (fun h5=>?_)
     rotate_left 1
    rotate_left 2
    refine aX (fun h5=>?_) (fun h5=>?_)
    rotate_left 1
    refine aX (fun h6=>?_) (fun h6=>?_)
    rotate_left 1
   rotate_left 5
   unfold nQ
   refine aX (fun h4=>?_) (fun h4=>?_)
   rotate_left 1
   refine aX (fun h5=>?_) (fun h5=>?_)
   focus
    refine aX (fun h6=>?_) (fun h6=>?_)
    rotate_left 1
   rotate_left 2
   refine aX (fun h6=>?_) (fun h6=>?_)
   rotate_left 1
   refine aX (fun h7=>?_) (fun h7=>?_)
   rotate_left 1
  rotate_left 11
  unfold nX
  refine bF (fun h3=>?_) (fun h3=>?_)
  rotate_left 1
  refine aX (fun h4=>?_) (fun h4=>?_)
  focus
   refine aX (fun h5=>?_) (fun h5=>?_)
   focus
    refine aX (fun h6=>?_) (fun h6=>?_)
    rotate_left 1
   rotate_left 2
   refine aX (fun h6=>?_) (fun h6=>?_)
   rotate_left 1
   refine aX (fun h7=>?_) (fun h7=>?_)
   rotate_left 1
  rotate_left 5
  unfold nT
  refine aX (fun h5=>?_) (fun h5=>?_)
  rotate_left 1
  refine aX (fun h6=>?_) (fun h6=>?_)
  focus
   refine aX (fun h7=>?_) (fun h7=>?_)
   rotate_left 1
  rotate_left 2
  refine aX (fun h7=>?_) (fun h7=>?_)
  rotate_left 1
  refine aX (fun h8=>?_) (fun h8=>?_)
  rotate_left 1
 rotate_left 23
 unfold nR
 refine bF (fun h2=>?_) (fun h2=>?_)
 rotate_left 1
 refine aX (fun h3=>?_) (fun h3=>?_)
 focus
  refine aX (fun h4=>?_) (fun h4=>?_)
  focus
   refine aX (fun h5=>?_) (fun h5=>?_)
   focus
    refine aX (fun h6=>?_) (fun h6=>?_)
    rotate_left 1
   rotate_left 2
   refine aX (fun h6=>?_) (fun h6=>?_)
   rotate_left 1
   refine aX (fun h7=>?_) (fun h7=>?_)
   rotate_left 1
  rotate_left 5
  unfold nU
  refine aX (fun h5=>?_) (fun h5=>?_)
  rotate_left 1
  refine aX (fun h6=>?_) (fun h6=>?_)
  focus
   refine aX (fun h7=>?_) (fun h7=>?_)
   rotate_left 1
  rotate_left 2
  refine aX (fun h7=>?_) (fun h7=>?_)
  rotate_left 1
  refine aX (fun h8=>?_) (fun h8=>?_)
  rotate_left 1
 rotate_left 11
 unfold nY
 refine bF (fun h4=>?_) (fun h4=>?_)
 rotate_left 1
 refine aX (fun h5=>?_) (fun h5=>?_)
 focus
  refine aX (fun h6=>?_) (fun h6=>?_)
  focus
   refine aX (fun h7=>?_) (fun h7=>?_)
   rotate_left 1
  rotate_left 2
  refine aX (fun h7=>?_) (fun h7=>?_)
  rotate_left 1
  refine aX (fun h8=>?_) (fun h8=>?_)
  rotate_left 1
 rotate_left 5
 unfold nV
 refine aX (fun h6=>?_) (fun h6=>?_)
 rotate_left 1
 refine aX (fun h7=>?_) (fun h7=>?_)
 focus
  refine aX (fun h8=>?_) (fun h8=>?_)
  rotate_left 1
 rotate_left 2
 refine aX (fun h8=>?_) (fun h8=>?_)
 rotate_left 1
 refine aX (fun h9=>?_) (fun h9=>?_)
 rotate_left 1
 all_goals (rintro rfl;simp (maxSteps:=4000000) only [*,yF,xt,vQ,↓RP,RB,RC,Nat.reduceBEq,List.map,bne,ty3,ty9,ue,ph,qu,mh,↓aa _ _ _ _ 4])
theorem De (C:aj) (jE:kW C) (xI:xT C) (i9:ln C) (lb:oz C) (jL:lE C) (pF:tN C) (rK:xC C) (p0:iy) (r:Int) (hF:qc p0=some r):cR TT C.wide (evW TT C.wide qO sT) qO Tryz.f117.results.toList (aU Tryz.f117) [.agg [.v (.i .i64 p0.bt),.v (.s p0.iq),.v (.i .i64 p0.iF),.v (.sl 2 (ah iD.row p0.iA)),.v (.sl 1 (ah bY p0.iC)),.v (.sl 2 (ah im.row p0.il))]] []=some (.v (.i .i64 r),[]):=by
 revert hF
 unfold qc
 have g1:=bK (jE p0.bt 1 6 _ (oU p0.bt 1 6))
 have g2:jj p0.bt 1 6=(decide (1<=p0.bt)&&decide (p0.bt<=6)):=by first|rfl|(simp [jj];done)|(simp only [jj];decide)
 refine bF (fun h1=>?_) (fun h1=>?_)
 rotate_left 1
 refine bF (fun h2=>?_) (fun h2=>?_)
 rotate_left 1
 refine aX (fun h3=>?_) (fun h3=>?_)
 focus
  unfold ui
  have g3:=Ac C p0 _ rfl (mB p0) rfl
  refine aX (fun h4=>?_) (fun h4=>?_)
  rotate_left 1
  have g4:=wt C xI jE i9 p0 _ rfl (kq p0) rfl
  refine aX (fun h5=>?_) (fun h5=>?_)
  rotate_left 1
  refine az ?_
  rintro (_|_) h6
  focus
   dsimp only
   have g5:=cH _ _ (rj C i9 p0) h6
   try simp only [lN,mL] at g5
  rotate_left 1
  dsimp only
  unfold qv
  have g6:=cH _ _ (rj C i9 p0) h6
  try simp only [lN,mL] at g6
  refine az ?_
  rintro (_|_) h7
  focus
   dsimp only
   have g7:=cH _ _ (q9 C jL i9 p0) h7
   try simp only [lG,mO] at g7
  rotate_left 1
  dsimp only
  unfold vn
  have g8:=cH _ _ (q9 C jL i9 p0) h7
  try simp only [lG,mO] at g8
  refine az ?_
  rintro (_|_) h8
  focus
   dsimp only
   have g9:=cH _ _ (ri C i9 p0) h8
   try simp only [lR,mR] at g9
  rotate_left 1
  dsimp only
  unfold vg
  have g10:=cH _ _ (ri C i9 p0) h8
  have g11:=bK (lb p0.iF _ (tP p0.iF))
  try simp only [lR,mR] at g10
  refine bF (fun h9=>?_) (fun h9=>?_)
  rotate_left 1
  refine az ?_
  rintro (_|_) h10
  focus
   dsimp only
   have g12:=cH _ _ (q8 C lb p0) h10
   try simp only [lC,mQ] at g12
  rotate_left 1
  dsimp only
  unfold vt
  have g13:=cH _ _ (q8 C lb p0) h10
  try simp only [lC,mQ] at g13
  refine az ?_
  rintro (_|_) h11
  focus
   dsimp only
   have g14:=cH _ _ (qY C p0) h11
   try simp only [lS,mP] at g14
  rotate_left 1
  dsimp only
  unfold vo
  have g15:=cH _ _ (qY C p0) h11
  try simp only [lS,mP] at g15
  refine az ?_
  rintro (_|_) h12
  focus
   dsimp only
   have g16:=cH _ _ (pW C p0) h12
   try simp only [lh,mu] at g16
  rotate_left 1
  dsimp only
  unfold sH
  have g17:=cH _ _ (pW C p0) h12
  try simp only [lh,mu] at g17
  refine az ?_
  rintro (_|_) h13
  focus
   dsimp only
   have g18:=cH _ _ (qa C pF rK p0) h13
   try simp only [lf,mt] at g18
  rotate_left 1
  dsimp only
  have g19:=cH _ _ (qa C pF rK p0) h13
  try simp only [lf,mt] at g19
 rotate_left 11
 have g20:=yR C p0 (p0.bt==5) _ rfl (lU p0 (p0.bt==5)) rfl
 refine aX (fun h4=>?_) (fun h4=>?_)
 rotate_left 1
 have g4:=wt C xI jE i9 p0 _ rfl (kq p0) rfl
 refine aX (fun h5=>?_) (fun h5=>?_)
 rotate_left 1
 refine az ?_
 rintro (_|_) h6
 focus
  dsimp only
  have g5:=cH _ _ (rj C i9 p0) h6
  try simp only [lN,mL] at g5
 rotate_left 1
 dsimp only
 unfold uB
 have g6:=cH _ _ (rj C i9 p0) h6
 try simp only [lN,mL] at g6
 refine az ?_
 rintro (_|_) h7
 focus
  dsimp only
  have g7:=cH _ _ (q9 C jL i9 p0) h7
  try simp only [lG,mO] at g7
 rotate_left 1
 dsimp only
 unfold xl
 have g8:=cH _ _ (q9 C jL i9 p0) h7
 try simp only [lG,mO] at g8
 refine az ?_
 rintro (_|_) h8
 focus
  dsimp only
  have g9:=cH _ _ (ri C i9 p0) h8
  try simp only [lR,mR] at g9
 rotate_left 1
 dsimp only
 unfold yp
 have g10:=cH _ _ (ri C i9 p0) h8
 have g11:=bK (lb p0.iF _ (tP p0.iF))
 try simp only [lR,mR] at g10
 refine bF (fun h9=>?_) (fun h9=>?_)
 rotate_left 1
 refine az ?_
 rintro (_|_) h10
 focus
  dsimp only
  have g12:=cH _ _ (q8 C lb p0) h10
  try simp only [lC,mQ] at g12
 rotate_left 1
 dsimp only
 unfold ym
 have g13:=cH _ _ (q8 C lb p0) h10
 try simp only [lC,mQ] at g13
 refine az ?_
 rintro (_|_) h11
 focus
  dsimp only
  have g14:=cH _ _ (qY C p0) h11
  try simp only [lS,mP] at g14
 rotate_left 1
 dsimp only
 unfold yr
 have g15:=cH _ _ (qY C p0) h11
 try simp only [lS,mP] at g15
 refine az ?_
 rintro (_|_) h12
 focus
  dsimp only
  have g16:=cH _ _ (pW C p0) h12
  try simp only [lh,mu] at g16
 rotate_left 1
 dsimp only
 unfold ve
 have g17:=cH _ _ (pW C p0) h12
 try simp only [lh,mu] at g17
 refine az ?_
 rintro (_|_) h13
 focus
  dsimp only
  have g18:=cH _ _ (qa C pF rK p0) h13
  try simp only [lf,mt] at g18
 rotate_left 1
 dsimp only
 have g19:=cH _ _ (qa C pF rK p0) h13
 try simp only [lf,mt] at g19
 all_goals (rintro⟨⟩;rw [bk];show cC _ _ _ (aH _ _ _ _ (Code.seq _ _) _)=_;simp (maxSteps:=4000000) only [*,ZL,Cs,zW,yF,xt,YD,vQ,↓RP,RB,RC,Nat.reduceBEq,bP,List.map,↓ao,↓am,ty3,ty4,mD,mh,↓aa _ _ _ _ 0,↓aa _ _ _ _ 1,↓aa _ _ _ _ 2,↓aa _ _ _ _ 3,↓bg _ _ _ _ 4,↓aa _ _ _ _ 5,↓bg _ _ _ _ 6,↓aa _ _ _ _ 7,↓aa _ _ _ _ 8,↓aa _ _ _ _ 13,↓aa _ _ _ _ 18,↓aa _ _ _ _ 23,↓aa _ _ _ _ 24,↓aa _ _ _ _ 25,↓aa _ _ _ _ 30,↓aa _ _ _ _ 35,↓aa _ _ _ _ 40,↓aa _ _ _ _ 45])
def ER:List (Nat×List Nat):=[(0,[1]),(1,[1,14]),(2,[2]),(3,[1,3]),(4,[1,3,19]),(5,[1,3]),(6,[1,3,4]),(7,[1,3,4,52]),(8,[2]),(9,[1,3,68]),(10,[2]),(11,[2])]
def NY:List (Nat×List Nat×List Nat):=[(14,[],[1]),(19,[1,3],[]),(52,[],[1,3,4]),(68,[],[1,3])]
def yy:cL where
 keep:=ax ER
 ro:=fun t=>t==1
 mv:=fun _=>false
 give:=fun _=>false
 free:=fun i=>match i with|7=>[(14,16),(15,16),(14,17),(15,17),(14,21),(15,21),(16,21),(17,21),(18,21),(19,21),(20,21),(14,22),(15,22),(16,22),(17,22),(18,22),(19,22),(20,22)]|_=>[]
 alive:=av NY
theorem VP (t:Nat) (x:Bool) (e:Env) (S:bH):cK yy t x ⟨e,S⟩=atO (av NY t x) e S:=cF rfl t x e S
theorem JV (i:Nat):yy.keep i=ax ER i:=rfl
theorem Yl (t:Nat):yy.ro t=(t==1):=rfl
theorem IK (t:Nat):yy.mv t=(false):=rfl
theorem qat (t:Nat):yy.give t=(false):=rfl
theorem Yb:yy.free 7= [(14,16),(15,16),(14,17),(15,17),(14,21),(15,21),(16,21),(17,21),(18,21),(19,21),(20,21),(14,22),(15,22),(16,22),(17,22),(18,22),(19,22),(20,22)]:=rfl
theorem qaW:Tryz.f105.results.toList= [.tmp 2]:=rfl
noncomputable def B4:Code:=aU Tryz.f105
noncomputable def Wh:Code:=(bE 0 (aU Tryz.f105)).getD .skip
theorem Sz:bE 0 B4=some Wh:=rfl
theorem Am (C:aj) (jE:kW C) (p0:iN) (c:Code) (ho:cD 0 1 B4=some c) (r:Bool) (hF:lq p0=r): @cV TT C.wide (evW TT C.wide yy B4) yy 0 1 ⟨[(1,.rp [.i .i64 p0.iL,.sl 8 (ah ip.row p0.bi)])],[]⟩ ⟨c⟩=some (.normal,⟨[(1,.rp [.i .i64 p0.iL,.sl 8 (ah ip.row p0.bi)]),(14,.v (.b r))],[]⟩):=by
 have e:=Option.some.inj (ho.symm.trans (rfl:cD 0 1 B4=some _))
 subst e
 clear ho
 show aH _ _ _ _ _ _=_
 revert hF
 unfold lq
 have g1:=bK (jE p0.iL 0 1073741824 _ (oU p0.iL 0 1073741824))
 have g2:jj p0.iL 0 1073741824=(decide (0<=p0.iL)&&decide (p0.iL<=1073741824)):=by first|rfl|(simp [jj];done)|(simp only [jj];decide)
 refine bF (fun h1=>?_) (fun h1=>?_)
 rotate_left 1
 refine aX (fun h2=>?_) (fun h2=>?_)
 rotate_left 1
 all_goals (rintro rfl;simp (maxSteps:=4000000) only [*,JV,ER,IK,↓RP,RB,RC,Nat.reduceBEq,List.map,ty3,Bp,wv,↓aa _ _ _ _ 1])
theorem zj (C:aj) (jL:lE C) (pK:tG C) (p0:iN) (p1:Int) (p2:ip) (c:Code) (ho:cD 0 7 B4=some c) (r:Bool) (hF:mF p0 p1 p2=some r): @cV TT C.wide (evW TT C.wide yy B4) yy 0 7 ⟨[(1,.rp [.i .i64 p0.iL,.sl 8 (ah ip.row p0.bi)]),(3,.v (.i .i64 p1)),(4,.ptr 0 0)],[[.v (.s p2.iU),.v (.i .i64 p2.iJ.bt),.v (.s p2.iJ.iq),.v (.i .i64 p2.iJ.iF),.v (.sl 2 (ah iD.row p2.iJ.iA)),.v (.sl 1 (ah bY p2.iJ.iC)),.v (.sl 2 (ah im.row p2.iJ.il)),.v (.i .i64 p2.jQ)]]⟩ ⟨c⟩=some (.normal,⟨[(1,.rp [.i .i64 p0.iL,.sl 8 (ah ip.row p0.bi)]),(3,.v (.i .i64 p1)),(4,.ptr 0 0),(52,.v (.b r))],[[.v (.s p2.iU),.v (.i .i64 p2.iJ.bt),.v (.s p2.iJ.iq),.v (.i .i64 p2.iJ.iF),.v (.sl 2 (ah iD.row p2.iJ.iA)),.v (.sl 1 (ah bY p2.iJ.iC)),.v (.sl 2 (ah im.row p2.iJ.il)),.v (.i .i64 p2.jQ)]]⟩):=by
 have e:=Option.some.inj (ho.symm.trans (rfl:cD 0 7 B4=some _))
 subst e
 clear ho
 show aH _ _ _ _ _ _=_
 revert hF
 unfold mF
 have g1:=bK (jL p2.iU _ (tT p2.iU))
 refine bF (fun h1=>?_) (fun h1=>?_)
 rotate_left 1
 refine az fun x1 h2=>?_
 have g2:=bK (pK p2.iJ _ h2)
 refine bF (fun h3=>?_) (fun h3=>?_)
 rotate_left 1
 refine bF (fun h4=>?_) (fun h4=>?_)
 rotate_left 1
 refine az fun x2 h5=>?_
 have g3:decide (0<=(IntKind.i64.wrap (p1-1)))=true:=(cp h5).1
 have g4:(ah ip.row p0.bi)[((IntKind.i64.wrap (p1-1)):Int).toNat]? =some [.s x2.iU,.i .i64 x2.iJ.bt,.s x2.iJ.iq,.i .i64 x2.iJ.iF,.sl 2 (ah iD.row x2.iJ.iA),.sl 1 (ah bY x2.iJ.iC),.sl 2 (ah im.row x2.iJ.il),.i .i64 x2.jQ]:=cn _ h5
 all_goals (rintro⟨⟩;simp (maxSteps:=4000000) only [*,JV,ER,Yb,IK,↓RP,RB,RC,Nat.reduceBEq,List.map,Nat.reduceAdd,Nat.reduceSub,bne,aP,ty3,ty9,mD,Bp,wv,mh,zS,↓aq _ _ _ _ 7])
theorem yY (C:aj) (jE:kW C) (p0:iN) (p1:Int) (p2:ip) (c:Code) (ho:cD 0 9 B4=some c) (r:Bool) (hF:lH p0 p1 p2=r): @cV TT C.wide (evW TT C.wide yy B4) yy 0 9 ⟨[(1,.rp [.i .i64 p0.iL,.sl 8 (ah ip.row p0.bi)]),(3,.v (.i .i64 p1)),(4,.ptr 0 0)],[[.v (.s p2.iU),.v (.i .i64 p2.iJ.bt),.v (.s p2.iJ.iq),.v (.i .i64 p2.iJ.iF),.v (.sl 2 (ah iD.row p2.iJ.iA)),.v (.sl 1 (ah bY p2.iJ.iC)),.v (.sl 2 (ah im.row p2.iJ.il)),.v (.i .i64 p2.jQ)]]⟩ ⟨c⟩=some (.normal,⟨[(1,.rp [.i .i64 p0.iL,.sl 8 (ah ip.row p0.bi)]),(3,.v (.i .i64 p1)),(68,.v (.b r))],[[.v (.s p2.iU),.v (.i .i64 p2.iJ.bt),.v (.s p2.iJ.iq),.v (.i .i64 p2.iJ.iF),.v (.sl 2 (ah iD.row p2.iJ.iA)),.v (.sl 1 (ah bY p2.iJ.iC)),.v (.sl 2 (ah im.row p2.iJ.il)),.v (.i .i64 p2.jQ)]]⟩):=by
 have e:=Option.some.inj (ho.symm.trans (rfl:cD 0 9 B4=some _))
 subst e
 clear ho
 show aH _ _ _ _ _ _=_
 revert hF
 unfold lH
 refine aX (fun h1=>?_) (fun h1=>?_)
 rotate_left 1
 have g1:=bK (jE p2.jQ 0 1073741824 _ (oU p2.jQ 0 1073741824))
 have g2:jj p2.jQ 0 1073741824=(decide (0<=p2.jQ)&&decide (p2.jQ<=1073741824)):=by first|rfl|(simp [jj];done)|(simp only [jj];decide)
 refine bF (fun h2=>?_) (fun h2=>?_)
 rotate_left 1
 refine aX (fun h3=>?_) (fun h3=>?_)
 rotate_left 1
 all_goals (rintro rfl;simp (maxSteps:=4000000) only [*,JV,ER,IK,↓RP,RB,RC,Nat.reduceBEq,List.map,bne,ty3,wv,zS,↓aa _ _ _ _ 9])
def oC (p0:iN) (s:Int):St:=⟨[(1,.rp [.i .i64 p0.iL,.sl 8 (ah ip.row p0.bi)]),(3,.v (.i .i64 s))],[]⟩
def rh (p0:iN) (r:ip⊕Unit):Option (Ex×St):=match r with
 | .inl r=>some (.ret,⟨[(2,.v (.i .i64 13))],[[.v (.s r.iU),.v (.i .i64 r.iJ.bt),.v (.s r.iJ.iq),.v (.i .i64 r.iJ.iF),.v (.sl 2 (ah iD.row r.iJ.iA)),.v (.sl 1 (ah bY r.iJ.iC)),.v (.sl 2 (ah im.row r.iJ.il)),.v (.i .i64 r.jQ)]]⟩)
 | .inr r=>some (.normal,⟨[],[]⟩)
theorem wz (C:aj) (jL:lE C) (pK:tG C) (jE:kW C) (p0:iN) (p1:Int) (o:Int⊕(ip⊕Unit)) (hF:mX p0 p1=some o):evW TT C.wide yy B4 0 (oC p0 p1)=Sum.elim (fun s=>evW TT C.wide yy B4 0 (oC p0 s)) (fun r=>rh p0 r) o:=by
 rw [cG TT yy Sz]
 revert hF
 unfold mX
 try dsimp only
 refine bF (fun h1=>?_) (fun h1=>?_)
 rotate_left 1
 refine az fun x1 h2=>?_
 have g1:decide (0<=p1)=true:=(cp h2).1
 have g2:(ah ip.row p0.bi)[(p1:Int).toNat]? =some [.s x1.iU,.i .i64 x1.iJ.bt,.s x1.iJ.iq,.i .i64 x1.iJ.iF,.sl 2 (ah iD.row x1.iJ.iA),.sl 1 (ah bY x1.iJ.iC),.sl 2 (ah im.row x1.iJ.il),.i .i64 x1.jQ]:=cn _ h2
 refine az fun x2 h3=>?_
 have g3:=zj C jL pK p0 p1 x1 _ rfl _ h3
 refine aX (fun h4=>?_) (fun h4=>?_)
 rotate_left 1
 have g4:=yY C jE p0 p1 x1 _ rfl (lH p0 p1 x1) rfl
 refine aX (fun h5=>?_) (fun h5=>?_)
 rotate_left 1
 all_goals (rintro⟨⟩;show cN _ _ _ (aH _ _ _ _ (Code.seq _ _) _)=_;simp (maxSteps:=4000000) only [*,oC,rh,VP,NY,JV,ER,IK,qat,↓RP,RB,RC,↓ai,Nat.reduceBEq,bP,List.map,Nat.reduceAdd,Nat.reduceLeDiff,bne,↓ao,↓am,ty3,mD,Bp,wv,zS,↓aa _ _ _ _ 4,↓aa _ _ _ _ 6,↓bg _ _ _ _ 7,↓aa _ _ _ _ 8,↓bg _ _ _ _ 9,↓aa _ _ _ _ 10,↓aa _ _ _ _ 5])
theorem C4 (C:aj) (jE:kW C) (jL:lE C) (pK:tG C) (p0:iN) (r:Int) (hF:pZ p0=some r):cR TT C.wide (evW TT C.wide yy B4) yy Tryz.f105.results.toList (aU Tryz.f105) [.agg [.v (.i .i64 p0.iL),.v (.sl 8 (ah ip.row p0.bi))]] []=some (.v (.i .i64 r),[]):=by
 revert hF
 unfold pZ
 have g1:=Am C jE p0 _ rfl (lq p0) rfl
 refine aX (fun h1=>?_) (fun h1=>?_)
 rotate_left 1
 refine az ?_
 rintro (x1|_) h2
 focus
  dsimp only
  have g2:=cH _ _ (wz C jL pK jE p0) h2
  try simp only [oC,rh] at g2
 rotate_left 1
 dsimp only
 have g3:=cH _ _ (wz C jL pK jE p0) h2
 try simp only [oC,rh] at g3
 all_goals (rintro⟨⟩;rw [bk];show cC _ _ _ (aH _ _ _ _ (Code.seq _ _) _)=_;simp (maxSteps:=4000000) only [*,qaW,VP,NY,JV,ER,Yl,↓RP,RB,RC,Nat.reduceBEq,bP,List.map,↓ao,↓am,ty3,mD,wv,↓aa _ _ _ _ 0,↓bg _ _ _ _ 1,↓aa _ _ _ _ 2,↓aa _ _ _ _ 3,↓aa _ _ _ _ 11])
end Go.Proofs.YtgcglmoogaldbaaGreat
