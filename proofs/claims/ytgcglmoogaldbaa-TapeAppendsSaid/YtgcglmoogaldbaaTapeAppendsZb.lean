/- The code of these functions, run by the machine Mx, gives what the plain functions say, if their callees do (part 2). -/
import Derived.Test.YtgcglmoogaldbaaWTy
import Derived.Test.YtgcglmoogaldbaaTapeAppendsD
import Derived.Test.YtgcglmoogaldbaaTapeAppendsZa
import Derived.Test.YtgcglmoogaldbaaMxFive
set_option linter.unusedSimpArgs false
set_option linter.unusedVariables false
set_option linter.constructorNameAsVariable false
set_option linter.unnecessarySimpa false
set_option maxRecDepth 100000
set_option maxHeartbeats 40000000
noncomputable section
namespace Go.Proofs.Ytgcglmoogaldbaa
open Go Go.Mx Go.Proofs
def Md:List (Nat×List Nat):=[(0,[0,3]),(1,[4])]
def Jh:cL where
 keep:=ax Md
 ro:=fun _=>false
 mv:=fun _=>false
 give:=fun _=>false
 free:=fun _=>[]
theorem qcq (i:Nat):Jh.keep i=ax Md i:=rfl
theorem X6 (t:Nat):Jh.ro t=(false):=rfl
theorem U4 (t:Nat):Jh.mv t=(false):=rfl
theorem To (t:Nat):Jh.give t=(false):=rfl
theorem Ws:Try.f130.results.toList= [.tmp 4]:=rfl
def qcE:Code:=aU Try.f130
theorem E5 (C:aj) (w4:tq C) (p0:List ae) (p1:ByteArray) (r:Int) (hF:qO p0 p1=some r):cR TT C.wide (evW TT C.wide Jh qcE) Jh Try.f130.results.toList (aU Try.f130) [.v (.sl 2 (ah ae.row p0)),.v (.s p1)] []=some (.I r,[]):=by
 revert hF
 unfold qO
 refine az ?_
 rintro⟨x1,x2⟩ h1
 dsimp only
 have g1:C.wide 137 [.v (.sl 2 (ah ae.row p0)),.clo 141 [.ptr 0 0]] [[.v (.s p1)]]=some (.I x1,[[.v (.s x2)]]):=cX [0] rfl rfl rfl rfl (w4 p0 p1 _ h1) rfl rfl
 all_goals (rintro⟨⟩;rw [bk];show cC _ _ _ (aH _ _ _ _ (Code.seq _ _) _)=_;simp (maxSteps:=4000000) only [*,Ws,qcq,Md,X6,U4,To,↓RP,RB,RC,Nat.reduceBEq,List.map,Nat.reduceAdd,jA,↓ao,↓aa,ty3,ty9])
def Av:List (Nat×List Nat):=[(0,[1]),(1,[1,14]),(2,[2]),(3,[1,3]),(4,[1,3,17]),(5,[1,3]),(6,[1,3,17,19]),(7,[1,3]),(8,[1,3,17,22]),(9,[1,3]),(10,[1,3,17,25]),(11,[1,3]),(12,[1,3,28]),(13,[1,3]),(14,[1,43]),(15,[2]),(16,[1,56]),(17,[2]),(18,[1,65]),(19,[2]),(20,[1,68]),(21,[2]),(22,[1,71]),(23,[2]),(24,[1,80]),(25,[2]),(26,[1,4]),(27,[1,4,100,101,102]),(28,[1,4,100,101,102,103]),(29,[1,4,5,6,100,101,102]),(30,[1,4,100,101,102]),(31,[1,4,100,101,102]),(32,[120]),(33,[2]),(34,[2])]
def G8:List (Nat×List Nat×List Nat):=[(14,[],[1]),(19,[1,3],[1,3,17]),(22,[1,3],[1,3,17]),(25,[1,3],[1,3,17]),(28,[1,3],[1,3]),(43,[],[1]),(56,[],[1]),(65,[],[1]),(68,[],[1]),(71,[],[1]),(80,[],[1]),(103,[1,4,100,101,102],[4]),(120,[],[])]
def n90:cL where
 keep:=ax Av
 ro:=fun t=>t==1
 mv:=fun _=>false
 give:=fun t=>t==18||t==27||t==30
 free:=fun i=>match i with|30=>[(2,4),(3,4),(2,6),(3,6),(4,6),(5,6),(2,7),(3,7),(4,7),(5,7)]|_=>[]
 alive:=av G8
theorem Ls (t:Nat) (x:Bool) (e:Env) (S:bH):cK n90 t x ⟨e,S⟩=atO (av G8 t x) e S:=cF rfl t x e S
theorem Fm (i:Nat):n90.keep i=ax Av i:=rfl
theorem qb3 (t:Nat):n90.ro t=(t==1):=rfl
theorem Ic (t:Nat):n90.mv t=(false):=rfl
theorem Ec (t:Nat):n90.give t=(t==18||t==27||t==30):=rfl
theorem R5:n90.free 30= [(2,4),(3,4),(2,6),(3,6),(4,6),(5,6),(2,7),(3,7),(4,7),(5,7)]:=rfl
theorem qbI:Try.f90.results.toList= [.tmp 2]:=rfl
def b90:Code:=aU Try.f90
def qbV:Code:=(bE 1 (aU Try.f90)).getD .skip
theorem Se:bE 1 b90=some qbV:=rfl
theorem Ix (C:aj)  (p0:ad) (p1:Bool) (c:Code) (ho:cD 1 28 b90=some c) (r:ad) (hF:rc p0 p1=r): @cV TT C.wide (evW TT C.wide n90 b90) n90 1 28 ⟨[(1,.rp (rGValue p0)),(3,.ptr 0 0),(28,.v (.b p1))],[cGValue p0]⟩ ⟨c⟩=some (.normal,⟨[(1,.rp (rGValue p0)),(3,.ptr 0 0)],[cGValue r]⟩):=by
 have e:=Option.some.inj (ho.symm.trans (rfl:cD 1 28 b90=some _))
 subst e
 clear ho
 show aH _ _ _ _ _ _=_
 revert hF
 unfold rc
 refine iq (fun h1=>?_) ?_
 all_goals (rintro rfl;intros;simp (maxSteps:=4000000) only [*,cGValue,rGValue,Ls,G8,Fm,Av,Ec,↓RP,RB,RC,Nat.reduceBEq,List.map,Nat.reduceAdd,Nat.reduceLeDiff,↓am,rG,sY,pK,↓aa _ _ _ _ 13,↓aa _ _ _ _ 5])
theorem IL (C:aj)  (p0:ad) (p1:Int) (p2:Bool) (c:Code) (ho:cD 1 25 b90=some c) (r:ad) (hF:rb p0 p1 p2=r): @cV TT C.wide (evW TT C.wide n90 b90) n90 1 25 ⟨[(1,.rp (rGValue p0)),(3,.ptr 0 0),(17,.I p1),(25,.v (.b p2))],[cGValue p0]⟩ ⟨c⟩=some (.normal,⟨[(1,.rp (rGValue p0)),(3,.ptr 0 0)],[cGValue r]⟩):=by
 have e:=Option.some.inj (ho.symm.trans (rfl:cD 1 25 b90=some _))
 subst e
 clear ho
 show aH _ _ _ _ _ _=_
 revert hF
 unfold rb
 refine iq (fun h1=>?_) ?_
 have g1:=Ix C p0 (p1==6) _ rfl (rc p0 (p1==6)) rfl
 all_goals (rintro rfl;intros;simp (maxSteps:=4000000) only [*,cGValue,rGValue,Ls,G8,Fm,Av,Ec,↓RP,RB,RC,Nat.reduceBEq,List.map,Nat.reduceAdd,Nat.reduceLeDiff,↓ao,ty3,ty4,wb,pK,↓am _ _ _ _ 25,↓aa _ _ _ _ 11,↓aa _ _ _ _ 12,↓da _ _ _ _ 28])
theorem I0 (C:aj)  (p0:ad) (p1:Int) (p2:Bool) (c:Code) (ho:cD 1 22 b90=some c) (r:ad) (hF:rh p0 p1 p2=r): @cV TT C.wide (evW TT C.wide n90 b90) n90 1 22 ⟨[(1,.rp (rGValue p0)),(3,.ptr 0 0),(17,.I p1),(22,.v (.b p2))],[cGValue p0]⟩ ⟨c⟩=some (.normal,⟨[(1,.rp (rGValue p0)),(3,.ptr 0 0)],[cGValue r]⟩):=by
 have e:=Option.some.inj (ho.symm.trans (rfl:cD 1 22 b90=some _))
 subst e
 clear ho
 show aH _ _ _ _ _ _=_
 revert hF
 unfold rh
 refine iq (fun h1=>?_) ?_
 have g1:=IL C p0 p1 (p1==3) _ rfl (rb p0 p1 (p1==3)) rfl
 all_goals (rintro rfl;intros;simp (maxSteps:=4000000) only [*,cGValue,rGValue,Ls,G8,Fm,Av,Ec,↓RP,RB,RC,Nat.reduceBEq,List.map,Nat.reduceAdd,Nat.reduceLeDiff,↓ao,ty3,ty4,pK,↓am _ _ _ _ 22,↓aa _ _ _ _ 9,↓aa _ _ _ _ 10,↓da _ _ _ _ 25])
theorem Iw (C:aj)  (p0:ad) (p1:Int) (p2:Bool) (c:Code) (ho:cD 1 19 b90=some c) (r:ad) (hF:jI p0 p1 p2=r): @cV TT C.wide (evW TT C.wide n90 b90) n90 1 19 ⟨[(1,.rp (rGValue p0)),(3,.ptr 0 0),(17,.I p1),(19,.v (.b p2))],[cGValue p0]⟩ ⟨c⟩=some (.normal,⟨[(1,.rp (rGValue p0)),(3,.ptr 0 0)],[cGValue r]⟩):=by
 have e:=Option.some.inj (ho.symm.trans (rfl:cD 1 19 b90=some _))
 subst e
 clear ho
 show aH _ _ _ _ _ _=_
 revert hF
 unfold jI
 refine iq (fun h1=>?_) ?_
 have g1:=I0 C p0 p1 (p1==2) _ rfl (rh p0 p1 (p1==2)) rfl
 all_goals (rintro rfl;intros;simp (maxSteps:=4000000) only [*,cGValue,rGValue,Ls,G8,Fm,Av,Ec,↓RP,RB,RC,Nat.reduceBEq,List.map,Nat.reduceAdd,Nat.reduceLeDiff,↓ao,ty3,ty4,ty9,pK,↓am _ _ _ _ 19,↓aa _ _ _ _ 7,↓aa _ _ _ _ 8,↓da _ _ _ _ 22])
theorem Jt (C:aj) (my:nR C) (p0:ad) (p1:ad) (c:Code) (ho:cD 0 14 b90=some c) (r:Bool) (hF:pU p0 p1=r): @cV TT C.wide (evW TT C.wide n90 b90) n90 0 14 ⟨[(1,.rp (rGValue p0)),(3,.ptr 0 0)],[cGValue p1]⟩ ⟨c⟩=some (.normal,⟨[(1,.rp (rGValue p0)),(43,.v (.b r))],[cGValue p1]⟩):=by
 have e:=Option.some.inj (ho.symm.trans (rfl:cD 0 14 b90=some _))
 subst e
 clear ho
 show aH _ _ _ _ _ _=_
 revert hF
 unfold pU
 refine ip (fun h1=>aX (fun h2=>?_) (fun h2=>?_)) ?_
 focus
  have g1:=bK (my p1 _ (u2 p1))
 rotate_left 1
 all_goals (rintro rfl;intros;simp (maxSteps:=4000000) only [*,cGValue,rGValue,Fm,Av,Ic,↓RP,RB,RC,Nat.reduceBEq,List.map,Nat.reduceAdd,jA,bne,aP,ty3,ty9,pK,↓aa _ _ _ _ 14])
theorem Jf (C:aj) (my:nR C) (p0:ad) (p1:ad) (c:Code) (ho:cD 0 16 b90=some c) (r:Bool) (hF:oq p0 p1=r): @cV TT C.wide (evW TT C.wide n90 b90) n90 0 16 ⟨[(1,.rp (rGValue p0))],[cGValue p1]⟩ ⟨c⟩=some (.normal,⟨[(1,.rp (rGValue p0)),(56,.v (.b r))],[cGValue p1]⟩):=by
 have e:=Option.some.inj (ho.symm.trans (rfl:cD 0 16 b90=some _))
 subst e
 clear ho
 show aH _ _ _ _ _ _=_
 revert hF
 unfold oq
 refine ip (fun h1=>?_) ?_
 have g1:=bK (my p0 _ (u2 p0))
 refine iq (fun h2=>?_) ?_
 all_goals (rintro rfl;intros;simp (maxSteps:=4000000) only [*,cGValue,rGValue,Fm,Av,Ic,↓RP,RB,RC,Nat.reduceBEq,List.map,Nat.reduceAdd,jA,ty3,pK,↓aa _ _ _ _ 16])
theorem I4 (C:aj) (kR:ka C) (kH:jZ C) (kr:jO C) (p0:ad) (p1:ad) (c:Code) (ho:cD 0 26 b90=some c) (r:Bool) (hF:vE p0 p1=some r): @cV TT C.wide (evW TT C.wide n90 b90) n90 0 26 ⟨[(1,.rp (rGValue p0))],[cGValue p1]⟩ ⟨c⟩=some (.normal,⟨[(1,.rp (rGValue p0)),(4,.v (.b r))],[cGValue p1]⟩):=by
 have e:=Option.some.inj (ho.symm.trans (rfl:cD 0 26 b90=some _))
 subst e
 clear ho
 show aH _ _ _ _ _ _=_
 revert hF
 unfold vE
 refine az fun x1 h1=>?_
 have g1:=bK (kR p0.iD _ h1)
 refine ip (fun h2=>az fun x2 h3=>?_) ?_
 have g2:=bK (kH p0.cO _ h3)
 refine ip (fun h4=>ip (fun h5=>az fun x3 h6=>?_) ?_) ?_
 have g3:=bK (kr p0.iG _ h6)
 all_goals (rintro⟨⟩;intros;simp (maxSteps:=4000000) only [*,cGValue,rGValue,Fm,Av,Ic,↓RP,RB,RC,Nat.reduceBEq,List.map,jA,bne,ty3,ty4,wb,rG,sY,pK,↓aa _ _ _ _ 26])
def xT (p0:ad) (p2:List ae) (p3:Int) (p5:ad) (s:Bool×Int):St:=⟨[(1,.rp (rGValue p0)),(4,.v (.b s.1)),(100,.v (.sl 2 (ah ae.row p2))),(101,.I p3),(102,.I s.2)],[cGValue p5]⟩
def AQ (p0:ad) (p2:List ae) (p3:Int) (p5:ad) (r:Bool):Option (Ex×St):=some (.normal,⟨[(4,.v (.b r))],[cGValue p5]⟩)
theorem Nh (C:aj) (vn:vA C) (p0:ad) (p2:List ae) (p3:Int) (p5:ad) (s:Bool×Int) (o:(Bool×Int)⊕Bool) (hF:tO p0 p2 p3 p5 s=some o):evW TT C.wide n90 b90 1 (xT p0 p2 p3 p5 s)=Sum.elim (fun s=>evW TT C.wide n90 b90 1 (xT p0 p2 p3 p5 s)) (fun r=>AQ p0 p2 p3 p5 r) o:=by
 obtain⟨p1,p4⟩:=s
 rw [cG TT n90 Se]
 revert hF
 unfold tO
 try dsimp only
 refine ip (fun h1=>az fun x1 h2=>?_) ?_
 have g1:decide (0<=p4)=true:=(cp h2).1
 have g2:(ah ae.row p2)[(p4:Int).toNat]? =some (rGScore x1):=cn _ h2
 refine ip (fun h3=>mt fun h4=>az fun x2 h5=>?_) ?_
 have g3:=bK (vn (dm p0.cO 0 p4) x1.iU _ h5)
 all_goals (rintro⟨⟩;intros;show cN _ _ _ (aH _ _ _ _ (Code.seq _ _) _)=_;simp (maxSteps:=4000000) only [*,cGValue,rGScore,rGValue,xT,AQ,Ls,G8,Fm,Av,R5,Ic,Ec,↓RP,RB,RC,↓ai,Nat.reduceBEq,bP,List.map,Nat.reduceAdd,Nat.reduceSub,Nat.reduceLeDiff,jA,bne,↓ao,ty3,ty4,ty9,sY,pK,sQ,↓aa _ _ _ _ 28,↓am _ _ _ _ 103,↓aa _ _ _ _ 29,↓aq _ _ _ _ 30,↓aa _ _ _ _ 31])
theorem Yt (C:aj) (my:nR C) (jQ:kC C) (FZ:vB C) (Gj:vm C) (FE:vw C) (qv:oV C) (Fn:vJ C) (kR:ka C) (kH:jZ C) (kr:jO C) (vn:vA C) (p0:ad) (r:Int) (hF:vaC p0=some r):cR TT C.wide (evW TT C.wide n90 b90) n90 Try.f90.results.toList (aU Try.f90) [.agg (cGValue p0)] []=some (.I r,[]):=by
 revert hF
 unfold vaC
 refine iq (fun h1=>iq (fun h2=>?_) ?_) ?_
 have g1:=Iw C p0 p0.af (p0.af==1) _ rfl (jI p0 p0.af (p0.af==1)) rfl
 have g2:=Jt C my p0 (jI p0 p0.af (p0.af==1)) _ rfl (pU p0 (jI p0 p0.af (p0.af==1))) rfl
 refine iq (fun h3=>?_) ?_
 unfold zp
 have g3:=Jf C my p0 (jI p0 p0.af (p0.af==1)) _ rfl (oq p0 (jI p0 p0.af (p0.af==1))) rfl
 refine iq (fun h4=>?_) ?_
 have g4:=bK (jQ p0.gi _ (lG p0.gi))
 refine ip (fun h5=>az fun x1 h6=>?_) ?_
 have g5:=bK (FZ p0.iG _ h6)
 refine iq (fun h7=>az fun x2 h8=>?_) ?_
 have g6:=bK (Gj p0.iD _ h8)
 refine iq (fun h9=>az fun x3 h10=>?_) ?_
 unfold Iq
 have g7:=bK (FE p0.cO _ h10)
 refine iq (fun h11=>?_) ?_
 have g8:=bK (qv p0.i8 _ (uI p0.i8))
 refine ip (fun h12=>az fun x4 h13=>?_) ?_
 have g9:=bK (Fn p0.cO _ h13)
 refine iq (fun h14=>az fun x5 h15=>?_) ?_
 have g10:=I4 C kR kH kr p0 (jI p0 p0.af (p0.af==1)) _ rfl _ h15
 refine az ?_
 rintro x6 h16
 have g11:=cH _ _ (Nh C vn p0 p0.cO (p0.cO.length:Int) (jI p0 p0.af (p0.af==1))) h16
 try simp only [xT,AQ] at g11
 refine iq (fun h17=>?_) ?_
 all_goals (rintro⟨⟩;intros;rw [bk];show cC _ _ _ (aH _ _ _ _ (Code.seq _ _) _)=_;simp (maxSteps:=4000000) only [*,cGValue,rGValue,qbI,Ls,G8,Fm,Av,qb3,Ic,Ec,↓RP,RB,RC,↓ai,Nat.reduceBEq,bP,List.map,Nat.reduceAdd,Nat.reduceLeDiff,jA,bne,↓ao,ty3,ty4,ty9,mR,wb,rG,sY,pK,↓aa _ _ _ _ 0,↓aa _ _ _ _ 1,↓am _ _ _ _ 14,↓aa _ _ _ _ 2,↓aa _ _ _ _ 3,↓aa _ _ _ _ 4,↓aa _ _ _ _ 6,↓da _ _ _ _ 19,↓bg _ _ _ _ 14,↓am _ _ _ _ 43,↓aa _ _ _ _ 15,↓bg _ _ _ _ 16,↓am _ _ _ _ 56,↓aa _ _ _ _ 17,↓aa _ _ _ _ 18,↓am _ _ _ _ 65,↓aa _ _ _ _ 19,↓aa _ _ _ _ 20,↓am _ _ _ _ 68,↓aa _ _ _ _ 21,↓aa _ _ _ _ 22,↓am _ _ _ _ 71,↓aa _ _ _ _ 23,↓aa _ _ _ _ 24,↓am _ _ _ _ 80,↓aa _ _ _ _ 25,↓bg _ _ _ _ 26,↓aa _ _ _ _ 27,↓aa _ _ _ _ 32,↓am _ _ _ _ 120,↓aa _ _ _ _ 33,↓aa _ _ _ _ 34])
def IC:List (Nat×List Nat):=[(0,[1]),(1,[1,18]),(2,[2]),(3,[1,20,21,22]),(4,[1,20,21,22,23]),(5,[1,3,4,20,21,22]),(6,[1,4,20,21,22,58]),(7,[2]),(8,[1,20,21,22,73]),(9,[2]),(10,[1,20,21,22]),(11,[2])]
def Qv:List (Nat×List Nat×List Nat):=[(18,[],[1]),(23,[1,20,21,22],[]),(58,[],[1,4,20,21,22]),(73,[],[1,20,21,22])]
def n71:cL where
 keep:=ax IC
 ro:=fun t=>t==1
 mv:=fun _=>false
 give:=fun _=>false
 free:=fun i=>match i with|6=>[(20,22),(21,22),(20,23),(21,23),(20,27),(21,27),(22,27),(23,27),(24,27),(25,27),(26,27),(20,28),(21,28),(22,28),(23,28),(24,28),(25,28),(26,28)]|_=>[]
 alive:=av Qv
theorem Y7 (t:Nat) (x:Bool) (e:Env) (S:bH):cK n71 t x ⟨e,S⟩=atO (av Qv t x) e S:=cF rfl t x e S
theorem NZ (i:Nat):n71.keep i=ax IC i:=rfl
theorem ZU (t:Nat):n71.ro t=(t==1):=rfl
theorem G4 (t:Nat):n71.mv t=(false):=rfl
theorem Yv (t:Nat):n71.give t=(false):=rfl
theorem qaq:n71.free 6= [(20,22),(21,22),(20,23),(21,23),(20,27),(21,27),(22,27),(23,27),(24,27),(25,27),(26,27),(20,28),(21,28),(22,28),(23,28),(24,28),(25,28),(26,28)]:=rfl
theorem Z2:Try.f71.results.toList= [.tmp 2]:=rfl
def b71:Code:=aU Try.f71
def qaG:Code:=(bE 0 (aU Try.f71)).getD .skip
theorem Ss:bE 0 b71=some qaG:=rfl
theorem yy (C:aj)  (p0:iE) (c:Code) (ho:cD 0 1 b71=some c) (r:Bool) (hF:lu p0=r): @cV TT C.wide (evW TT C.wide n71 b71) n71 0 1 ⟨[(1,.rp (rGStore p0))],[]⟩ ⟨c⟩=some (.normal,⟨[(1,.rp (rGStore p0)),(18,.v (.b r))],[]⟩):=by
 have e:=Option.some.inj (ho.symm.trans (rfl:cD 0 1 b71=some _))
 subst e
 clear ho
 show aH _ _ _ _ _ _=_
 revert hF
 unfold lu
 refine iq (fun h1=>iq (fun h2=>?_) ?_) ?_
 all_goals (rintro rfl;intros;simp (maxSteps:=4000000) only [*,rGStore,NZ,IC,G4,↓RP,RB,RC,Nat.reduceBEq,List.map,ty3,xq,uQ,↓aa _ _ _ _ 1])
theorem w3 (C:aj) (El:JD C) (p0:iE) (p1:Int) (p2:List hM) (p3:Int) (p4:hM) (c:Code) (ho:cD 0 6 b71=some c) (r:Bool) (hF:mm p0 p1 p2 p3 p4=some r): @cV TT C.wide (evW TT C.wide n71 b71) n71 0 6 ⟨[(1,.rp (rGStore p0)),(3,.I p1),(4,.ptr 0 0),(20,.v (.sl 8 (ah hM.row p2))),(21,.I p3),(22,.I p1)],[cGEntry p4]⟩ ⟨c⟩=some (.normal,⟨[(1,.rp (rGStore p0)),(4,.ptr 0 0),(20,.v (.sl 8 (ah hM.row p2))),(21,.I p3),(22,.I p1),(58,.v (.b r))],[cGEntry p4]⟩):=by
 have e:=Option.some.inj (ho.symm.trans (rfl:cD 0 6 b71=some _))
 subst e
 clear ho
 show aH _ _ _ _ _ _=_
 revert hF
 unfold mm
 refine iq (fun h1=>iq (fun h2=>az fun x1 h3=>?_) ?_) ?_
 have g1:=bK (El p4.jG _ h3)
 refine ip (fun h4=>ip (fun h5=>az fun x2 h6=>?_) ?_) ?_
 have g2:decide (0<=(IntKind.i64.wrap (p1-1)))=true:=(cp h6).1
 have g3:(ah hM.row p0.im)[((IntKind.i64.wrap (p1-1)):Int).toNat]? =some (rGEntry x2):=cn _ h6
 all_goals (rintro⟨⟩;intros;simp (maxSteps:=4000000) only [*,cGEntry,rGEntry,rGStore,NZ,IC,qaq,G4,↓RP,RB,RC,Nat.reduceBEq,List.map,Nat.reduceAdd,Nat.reduceSub,jA,bne,aP,ty3,ty9,xq,uQ,mR,pK,FJ,↓aq _ _ _ _ 6])
theorem wZ (C:aj)  (p0:iE) (p1:List hM) (p2:Int) (p3:Int) (p4:hM) (c:Code) (ho:cD 0 8 b71=some c) (r:Bool) (hF:lB p0 p1 p2 p3 p4=r): @cV TT C.wide (evW TT C.wide n71 b71) n71 0 8 ⟨[(1,.rp (rGStore p0)),(4,.ptr 0 0),(20,.v (.sl 8 (ah hM.row p1))),(21,.I p2),(22,.I p3)],[cGEntry p4]⟩ ⟨c⟩=some (.normal,⟨[(1,.rp (rGStore p0)),(20,.v (.sl 8 (ah hM.row p1))),(21,.I p2),(22,.I p3),(73,.v (.b r))],[cGEntry p4]⟩):=by
 have e:=Option.some.inj (ho.symm.trans (rfl:cD 0 8 b71=some _))
 subst e
 clear ho
 show aH _ _ _ _ _ _=_
 revert hF
 unfold lB
 refine iq (fun h1=>iq (fun h2=>?_) ?_) ?_
 all_goals (rintro rfl;intros;simp (maxSteps:=4000000) only [*,cGEntry,rGStore,NZ,IC,G4,↓RP,RB,RC,Nat.reduceBEq,List.map,bne,ty3,uQ,FJ,↓aa _ _ _ _ 8])
def nS (p0:iE) (p1:List hM) (p2:Int) (s:Int):St:=⟨[(1,.rp (rGStore p0)),(20,.v (.sl 8 (ah hM.row p1))),(21,.I p2),(22,.I s)],[]⟩
def pP (p0:iE) (p1:List hM) (p2:Int) (r:hM⊕Unit):Option (Ex×St):=match r with
 | .inl r=>some (.ret,⟨[(2,.I 13)],[cGEntry r]⟩)
 | .inr r=>some (.normal,⟨[],[]⟩)
theorem vc (C:aj) (El:JD C) (p0:iE) (p1:List hM) (p2:Int) (p3:Int) (o:Int⊕(hM⊕Unit)) (hF:mA p0 p1 p2 p3=some o):evW TT C.wide n71 b71 0 (nS p0 p1 p2 p3)=Sum.elim (fun s=>evW TT C.wide n71 b71 0 (nS p0 p1 p2 s)) (fun r=>pP p0 p1 p2 r) o:=by
 rw [cG TT n71 Ss]
 revert hF
 unfold mA
 try dsimp only
 refine ip (fun h1=>az fun x1 h2=>?_) ?_
 have g1:decide (0<=p3)=true:=(cp h2).1
 have g2:(ah hM.row p1)[(p3:Int).toNat]? =some (rGEntry x1):=cn _ h2
 refine az fun x2 h3=>?_
 have g3:=w3 C El p0 p3 p1 p2 x1 _ rfl _ h3
 refine iq (fun h4=>?_) ?_
 have g4:=wZ C p0 p1 p2 p3 x1 _ rfl (lB p0 p1 p2 p3 x1) rfl
 refine iq (fun h5=>?_) ?_
 all_goals (rintro⟨⟩;intros;show cN _ _ _ (aH _ _ _ _ (Code.seq _ _) _)=_;simp (maxSteps:=4000000) only [*,cGEntry,rGEntry,rGStore,nS,pP,Y7,Qv,NZ,IC,G4,Yv,↓RP,RB,RC,↓ai,Nat.reduceBEq,bP,List.map,Nat.reduceAdd,Nat.reduceLeDiff,bne,↓ao,↓am,ty3,xq,mR,FJ,↓aa _ _ _ _ 4,↓aa _ _ _ _ 5,↓bg _ _ _ _ 6,↓aa _ _ _ _ 7,↓bg _ _ _ _ 8,↓aa _ _ _ _ 9,↓aa _ _ _ _ 10])
theorem Cf (C:aj) (El:JD C) (p0:iE) (r:Int) (hF:py p0=some r):cR TT C.wide (evW TT C.wide n71 b71) n71 Try.f71.results.toList (aU Try.f71) [.agg (cGStore p0)] []=some (.I r,[]):=by
 revert hF
 unfold py
 have g1:=yy C p0 _ rfl (lu p0) rfl
 refine iq (fun h1=>az ?_) ?_
 rintro (x1|_) h2
 focus
  dsimp only
  have g2:=cH _ _ (vc C El p0 p0.im (p0.im.length:Int)) h2
  try simp only [nS,pP] at g2
 rotate_left 1
 dsimp only
 have g3:=cH _ _ (vc C El p0 p0.im (p0.im.length:Int)) h2
 try simp only [nS,pP] at g3
 all_goals (rintro⟨⟩;intros;rw [bk];show cC _ _ _ (aH _ _ _ _ (Code.seq _ _) _)=_;simp (maxSteps:=4000000) only [*,cGEntry,cGStore,rGStore,Z2,Y7,Qv,NZ,IC,ZU,G4,↓RP,RB,RC,Nat.reduceBEq,bP,List.map,↓ao,↓am,xq,uQ,mR,↓aa _ _ _ _ 0,↓bg _ _ _ _ 1,↓aa _ _ _ _ 2,↓aa _ _ _ _ 3,↓aa _ _ _ _ 11])
def Yc:List (Nat×List Nat):=[(0,[0]),(1,[2])]
def n92:cL where
 keep:=ax Yc
 ro:=fun _=>false
 mv:=fun _=>false
 give:=fun _=>false
 free:=fun _=>[]
theorem qdU (i:Nat):n92.keep i=ax Yc i:=rfl
theorem qaK:Try.f92.results.toList= [.tmp 2]:=rfl
def b92:Code:=aU Try.f92
theorem BJ (C:aj)  (p0:ByteArray) (r:Bool) (hF:pV p0=some r):cR TT C.wide (evW TT C.wide n92 b92) n92 Try.f92.results.toList (aU Try.f92) [.v (.s p0)] []=some (.v (.b r),[]):=by
 revert hF
 unfold pV
 all_goals (rintro⟨⟩;rw [bk];show cC _ _ _ (aH _ _ _ _ (Code.seq _ _) _)=_;simp (maxSteps:=4000000) only [*,qaK,qdU,Yc,↓RP,RB,RC,Nat.reduceBEq,List.map,↓ao,↓aa,ty3,ty4,ty9])
def lN (p0:List ByteArray) (p1:Int) (s:Int):St:=⟨[(0,.v (.sl 1 (ah bY p0))),(1,.clo 92 []),(7,.I p1),(8,.I s)],[]⟩
def ng (p0:List ByteArray) (p1:Int) (r:Int⊕Unit):Option (Ex×St):=match r with
 | .inl r=>some (.ret,⟨[(4,.I r)],[]⟩)
 | .inr r=>some (.normal,⟨[],[]⟩)
theorem sS (C:aj) (rE:uh C) (p0:List ByteArray) (p1:Int) (p2:Int) (o:Int⊕(Int⊕Unit)) (hF:kO p0 p1 p2=some o):evW TT C.wide wY IO 0 (lN p0 p1 p2)=Sum.elim (fun s=>evW TT C.wide wY IO 0 (lN p0 p1 s)) (fun r=>ng p0 p1 r) o:=by
 rw [cG TT wY JA]
 revert hF
 unfold kO
 try dsimp only
 refine ip (fun h1=>az fun x1 h2=>?_) ?_
 have g1:decide (0<=p2)=true:=(cp h2).1
 have g2:(ah bY p0)[(p2:Int).toNat]? =some [.s x1]:=cn _ h2
 have g3:=bK (rE x1 _ (BM x1))
 refine iq (fun h3=>?_) ?_
 all_goals (rintro⟨⟩;intros;show cN _ _ _ (aH _ _ _ _ (Code.seq _ _) _)=_;simp (maxSteps:=4000000) only [*,lN,ng,QE,JW,JG,D9,Nr,N0,↓RP,RB,RC,↓ai,Nat.reduceBEq,List.map,↓ao,↓am,↓aa,ty3,ty9,rG])
theorem xS (C:aj) (rE:uh C) (p0:List ByteArray) (r:Int) (hF:nc p0=some r):cR TT C.wide (evW TT C.wide wY IO) wY Try.f131.results.toList (aU Try.f131) [.v (.sl 1 (ah bY p0)),.clo 92 []] []=some (.I r,[]):=by
 revert hF
 unfold nc
 refine az ?_
 rintro (x1|_) h1
 focus
  dsimp only
  have g1:=cH _ _ (sS C rE p0 (p0.length:Int)) h1
  try simp only [lN,ng] at g1
 rotate_left 1
 dsimp only
 have g2:=cH _ _ (sS C rE p0 (p0.length:Int)) h1
 try simp only [lN,ng] at g2
 all_goals (rintro⟨⟩;rw [bk];show cC _ _ _ (aH _ _ _ _ (Code.seq _ _) _)=_;simp (maxSteps:=4000000) only [*,Ob,JG,D9,↓RP,RB,RC,Nat.reduceBEq,List.map,Nat.reduceAdd,Int.reduceNeg,↓ao,↓aa,ty3,rG])
theorem xH (C:aj) (xW:uv C) (p0:List ByteArray) (r:Bool) (hF:mh p0=some r):cR TT C.wide (evW TT C.wide n91 b91) n91 Try.f91.results.toList (aU Try.f91) [.v (.sl 1 (ah bY p0)),.clo 92 []] []=some (.v (.b r),[]):=by
 revert hF
 unfold mh
 refine az fun x1 h1=>?_
 have g1:=bK (xW p0 _ h1)
 all_goals (rintro⟨⟩;rw [bk];show cC _ _ _ (aH _ _ _ _ (Code.seq _ _) _)=_;simp (maxSteps:=4000000) only [*,QR,qbd,Pj,QF,↓RP,RB,RC,Nat.reduceBEq,List.map,Nat.reduceAdd,jA,↓ao,↓aa,ty3,ty4])
def RF:List (Nat×List Nat):=[(0,[1]),(1,[1,10]),(2,[2]),(3,[1,20]),(4,[2]),(5,[1,23]),(6,[2]),(7,[31]),(8,[2]),(9,[2])]
def Tt:List (Nat×List Nat×List Nat):=[(10,[],[1]),(20,[],[1]),(23,[],[1]),(31,[],[])]
def n72:cL where
 keep:=ax RF
 ro:=fun t=>t==1
 mv:=fun _=>false
 give:=fun _=>false
 free:=fun _=>[]
 alive:=av Tt
theorem qdH (t:Nat) (x:Bool) (e:Env) (S:bH):cK n72 t x ⟨e,S⟩=atO (av Tt t x) e S:=cF rfl t x e S
theorem qc4 (i:Nat):n72.keep i=ax RF i:=rfl
theorem qaQ (t:Nat):n72.ro t=(t==1):=rfl
theorem qac (t:Nat):n72.mv t=(false):=rfl
theorem Yx:Try.f72.results.toList= [.tmp 2]:=rfl
def b72:Code:=aU Try.f72
theorem Ii (C:aj) (xJ:uo C) (p0:iM) (r:Int) (hF:tU p0=some r):cR TT C.wide (evW TT C.wide n72 b72) n72 Try.f72.results.toList (aU Try.f72) [.agg (cGReply p0)] []=some (.I r,[]):=by
 revert hF
 unfold tU
 refine iq (fun h1=>?_) ?_
 unfold wh
 refine iq (fun h2=>iq (fun h3=>iq (fun h4=>az fun x1 h5=>?_) ?_) ?_) ?_
 have g1:=bK (xJ p0.jW _ h5)
 refine iq (fun h6=>iq (fun h7=>iq (fun h8=>?_) ?_) ?_) ?_
 all_goals (rintro⟨⟩;intros;rw [bk];show cC _ _ _ (aH _ _ _ _ (Code.seq _ _) _)=_;simp (maxSteps:=4000000) only [*,cGReply,Yx,qdH,Tt,qc4,RF,qaQ,qac,↓RP,RB,RC,Nat.reduceBEq,bP,List.map,Int.reduceNeg,jA,↓ao,↓am,↓aa,ty3,ty9,mR,rG,Cb])
def Il:List (Nat×List Nat):=[(0,[1]),(1,[1,24]),(2,[2]),(3,[1,26,27,28]),(4,[1,26,27,28,29]),(5,[1,3,4,26,27,28]),(6,[1,4,26,27,28,58]),(7,[2]),(8,[1,26,27,28,85]),(9,[2]),(10,[1,26,27,28]),(11,[2])]
def OT:List (Nat×List Nat×List Nat):=[(24,[],[1]),(29,[1,26,27,28],[]),(58,[],[1,4,26,27,28]),(85,[],[1,26,27,28])]
def n33:cL where
 keep:=ax Il
 ro:=fun t=>t==1
 mv:=fun _=>false
 give:=fun _=>false
 free:=fun i=>match i with|6=>[(4,6),(5,6),(4,7),(5,7),(14,16),(15,16),(14,17),(15,17),(14,21),(15,21),(16,21),(17,21),(18,21),(19,21),(20,21),(14,22),(15,22),(16,22),(17,22),(18,22),(19,22),(20,22)]|_=>[]
 alive:=av OT
theorem qa9 (t:Nat) (x:Bool) (e:Env) (S:bH):cK n33 t x ⟨e,S⟩=atO (av OT t x) e S:=cF rfl t x e S
theorem NW (i:Nat):n33.keep i=ax Il i:=rfl
theorem qan (t:Nat):n33.ro t=(t==1):=rfl
theorem Hg (t:Nat):n33.mv t=(false):=rfl
theorem Yy (t:Nat):n33.give t=(false):=rfl
theorem qaT:n33.free 6= [(4,6),(5,6),(4,7),(5,7),(14,16),(15,16),(14,17),(15,17),(14,21),(15,21),(16,21),(17,21),(18,21),(19,21),(20,21),(14,22),(15,22),(16,22),(17,22),(18,22),(19,22),(20,22)]:=rfl
theorem qaB:Try.f33.results.toList= [.tmp 2]:=rfl
def b33:Code:=aU Try.f33
def qaj:Code:=(bE 0 (aU Try.f33)).getD .skip
theorem Wl:bE 0 b33=some qaj:=rfl
theorem LP (C:aj) (uC:sB C) (p0:cc) (c:Code) (ho:cD 0 1 b33=some c) (r:Bool) (hF:vi p0=some r): @cV TT C.wide (evW TT C.wide n33 b33) n33 0 1 ⟨[(1,.rp (rGMachine p0))],[]⟩ ⟨c⟩=some (.normal,⟨[(1,.rp (rGMachine p0)),(24,.v (.b r))],[]⟩):=by
 have e:=Option.some.inj (ho.symm.trans (rfl:cD 0 1 b33=some _))
 subst e
 clear ho
 show aH _ _ _ _ _ _=_
 revert hF
 unfold vi
 refine az fun x1 h1=>?_
 have g1:=bK (uC p0.iA _ h1)
 refine ip (fun h2=>iq (fun h3=>iq (fun h4=>?_) ?_) ?_) ?_
 all_goals (rintro⟨⟩;intros;simp (maxSteps:=4000000) only [*,rGMachine,NW,Il,Hg,↓RP,RB,RC,Nat.reduceBEq,List.map,Nat.reduceAdd,jA,bne,ty3,uQ,xt,un,mR,↓aa _ _ _ _ 1])
theorem HQ (C:aj)  (p0:cc) (p1:Int) (p2:List f7) (p3:Int) (p4:f7) (c:Code) (ho:cD 0 6 b33=some c) (r:Bool) (hF:sM p0 p1 p2 p3 p4=some r): @cV TT C.wide (evW TT C.wide n33 b33) n33 0 6 ⟨[(1,.rp (rGMachine p0)),(3,.I p1),(4,.ptr 0 0),(26,.v (.sl 7 (ah f7.row p2))),(27,.I p3),(28,.I p1)],[cGClient p4]⟩ ⟨c⟩=some (.normal,⟨[(1,.rp (rGMachine p0)),(4,.ptr 0 0),(26,.v (.sl 7 (ah f7.row p2))),(27,.I p3),(28,.I p1),(58,.v (.b r))],[cGClient p4]⟩):=by
 have e:=Option.some.inj (ho.symm.trans (rfl:cD 0 6 b33=some _))
 subst e
 clear ho
 show aH _ _ _ _ _ _=_
 revert hF
 unfold sM
 refine iq (fun h1=>iq (fun h2=>ip (fun h3=>az fun x1 h4=>?_) ?_) ?_) ?_
 have g1:decide (0<=(IntKind.i64.wrap (p1-1)))=true:=(cp h4).1
 have g2:(ah f7.row p0.ir)[((IntKind.i64.wrap (p1-1)):Int).toNat]? =some (rGClient x1):=cn _ h4
 all_goals (rintro⟨⟩;intros;simp (maxSteps:=4000000) only [*,cGClient,rGClient,rGMachine,NW,Il,qaT,Hg,↓RP,RB,RC,Nat.reduceBEq,List.map,Nat.reduceSub,ty3,xt,un,GB,↓aq _ _ _ _ 6])
theorem Id (C:aj) (rY:vI C) (p0:cc) (p1:List f7) (p2:Int) (p3:Int) (p4:f7) (c:Code) (ho:cD 0 8 b33=some c) (r:Bool) (hF:sU p0 p1 p2 p3 p4=some r): @cV TT C.wide (evW TT C.wide n33 b33) n33 0 8 ⟨[(1,.rp (rGMachine p0)),(4,.ptr 0 0),(26,.v (.sl 7 (ah f7.row p1))),(27,.I p2),(28,.I p3)],[cGClient p4]⟩ ⟨c⟩=some (.normal,⟨[(1,.rp (rGMachine p0)),(26,.v (.sl 7 (ah f7.row p1))),(27,.I p2),(28,.I p3),(85,.v (.b r))],[cGClient p4]⟩):=by
 have e:=Option.some.inj (ho.symm.trans (rfl:cD 0 8 b33=some _))
 subst e
 clear ho
 show aH _ _ _ _ _ _=_
 revert hF
 unfold sU
 refine iq (fun h1=>iq (fun h2=>iq (fun h3=>iq (fun h4=>az fun x1 h5=>?_) ?_) ?_) ?_) ?_
 have g1:=bK (rY p4.jd _ h5)
 all_goals (rintro⟨⟩;intros;simp (maxSteps:=4000000) only [*,cGClient,rGMachine,NW,Il,Hg,↓RP,RB,RC,Nat.reduceBEq,List.map,Nat.reduceAdd,jA,bne,aP,ty3,uQ,un,mR,Cb,GB,↓aa _ _ _ _ 8])
def wE (p0:cc) (p1:List f7) (p2:Int) (s:Int):St:=⟨[(1,.rp (rGMachine p0)),(26,.v (.sl 7 (ah f7.row p1))),(27,.I p2),(28,.I s)],[]⟩
def xD (p0:cc) (p1:List f7) (p2:Int) (r:f7⊕Unit):Option (Ex×St):=match r with
 | .inl r=>some (.ret,⟨[(2,.I 13)],[cGClient r]⟩)
 | .inr r=>some (.normal,⟨[],[]⟩)
theorem GS (C:aj) (rY:vI C) (p0:cc) (p1:List f7) (p2:Int) (p3:Int) (o:Int⊕(f7⊕Unit)) (hF:uV p0 p1 p2 p3=some o):evW TT C.wide n33 b33 0 (wE p0 p1 p2 p3)=Sum.elim (fun s=>evW TT C.wide n33 b33 0 (wE p0 p1 p2 s)) (fun r=>xD p0 p1 p2 r) o:=by
 rw [cG TT n33 Wl]
 revert hF
 unfold uV
 try dsimp only
 refine ip (fun h1=>az fun x1 h2=>?_) ?_
 have g1:decide (0<=p3)=true:=(cp h2).1
 have g2:(ah f7.row p1)[(p3:Int).toNat]? =some (rGClient x1):=cn _ h2
 refine az fun x2 h3=>?_
 have g3:=HQ C p0 p3 p1 p2 x1 _ rfl _ h3
 refine iq (fun h4=>az fun x3 h5=>?_) ?_
 have g4:=Id C rY p0 p1 p2 p3 x1 _ rfl _ h5
 refine iq (fun h6=>?_) ?_
 all_goals (rintro⟨⟩;intros;show cN _ _ _ (aH _ _ _ _ (Code.seq _ _) _)=_;simp (maxSteps:=4000000) only [*,cGClient,rGClient,rGMachine,wE,xD,qa9,OT,NW,Il,Hg,Yy,↓RP,RB,RC,↓ai,Nat.reduceBEq,bP,List.map,Nat.reduceAdd,Nat.reduceLeDiff,bne,↓ao,↓am,ty3,xt,mR,GB,↓aa _ _ _ _ 4,↓aa _ _ _ _ 5,↓bg _ _ _ _ 6,↓aa _ _ _ _ 7,↓bg _ _ _ _ 8,↓aa _ _ _ _ 9,↓aa _ _ _ _ 10])
theorem qcj (C:aj) (uC:sB C) (rY:vI C) (p0:cc) (r:Int) (hF:clC p0=some r):cR TT C.wide (evW TT C.wide n33 b33) n33 Try.f33.results.toList (aU Try.f33) [.agg (cGMachine p0)] []=some (.I r,[]):=by
 revert hF
 unfold clC
 refine az fun x1 h1=>?_
 have g1:=LP C uC p0 _ rfl _ h1
 refine iq (fun h2=>az ?_) ?_
 rintro (x2|_) h3
 focus
  dsimp only
  have g2:=cH _ _ (GS C rY p0 p0.ir (p0.ir.length:Int)) h3
  try simp only [wE,xD] at g2
 rotate_left 1
 dsimp only
 have g3:=cH _ _ (GS C rY p0 p0.ir (p0.ir.length:Int)) h3
 try simp only [wE,xD] at g3
 all_goals (rintro⟨⟩;intros;rw [bk];show cC _ _ _ (aH _ _ _ _ (Code.seq _ _) _)=_;simp (maxSteps:=4000000) only [*,cGClient,cGMachine,rGMachine,qaB,qa9,OT,NW,Il,qan,Hg,↓RP,RB,RC,Nat.reduceBEq,bP,List.map,↓ao,↓am,xt,un,mR,↓aa _ _ _ _ 0,↓bg _ _ _ _ 1,↓aa _ _ _ _ 2,↓aa _ _ _ _ 3,↓aa _ _ _ _ 11])
def WE:List (Nat×List Nat):=[(0,[1]),(1,[1,12]),(2,[2]),(3,[2])]
def Xr:List (Nat×List Nat×List Nat):=[(12,[],[1])]
def n47:cL where
 keep:=ax WE
 ro:=fun t=>t==1
 mv:=fun _=>false
 give:=fun _=>false
 free:=fun _=>[]
 alive:=av Xr
theorem qc2 (t:Nat) (x:Bool) (e:Env) (S:bH):cK n47 t x ⟨e,S⟩=atO (av Xr t x) e S:=cF rfl t x e S
theorem qdI (i:Nat):n47.keep i=ax WE i:=rfl
theorem Zf (t:Nat):n47.ro t=(t==1):=rfl
theorem qbl (t:Nat):n47.mv t=(false):=rfl
theorem qam:Try.f47.results.toList= [.tmp 2]:=rfl
def b47:Code:=aU Try.f47
theorem zr (C:aj) (nD:oZ C) (NJ:Kr C) (p0:jr) (r:Int) (hF:lM p0=some r):cR TT C.wide (evW TT C.wide n47 b47) n47 Try.f47.results.toList (aU Try.f47) [.agg (cGSnap p0)] []=some (.I r,[]):=by
 revert hF
 unfold lM
 have g1:=bK (nD p0.jg _ (sy p0.jg))
 refine ip (fun h1=>?_) ?_
 have g2:=bK (nD p0.iO _ (sy p0.iO))
 refine ip (fun h2=>az fun x1 h3=>?_) ?_
 have g3:=bK (NJ p0.iC _ h3)
 all_goals (rintro⟨⟩;intros;rw [bk];show cC _ _ _ (aH _ _ _ _ (Code.seq _ _) _)=_;simp (maxSteps:=4000000) only [*,cGSnap,qam,qc2,Xr,qdI,WE,Zf,qbl,↓RP,RB,RC,Nat.reduceBEq,bP,List.map,Nat.reduceAdd,jA,↓ao,↓am,↓aa,ty3,un,mR,yk])
def Me:List (Nat×List Nat):=[(0,[1]),(1,[1,11]),(2,[2]),(3,[1,3]),(4,[1,52]),(5,[2]),(6,[1,54]),(7,[1,54,55]),(8,[70]),(9,[2]),(10,[2]),(11,[1,71]),(12,[1,76]),(13,[2]),(14,[2]),(15,[2])]
def Rz:List (Nat×List Nat×List Nat):=[(11,[],[1]),(52,[],[1]),(55,[1],[1,54]),(70,[],[]),(71,[1],[1]),(76,[],[1])]
def n11:cL where
 keep:=ax Me
 ro:=fun t=>t==1
 mv:=fun _=>false
 give:=fun _=>false
 free:=fun _=>[]
 alive:=av Rz
theorem qdq (t:Nat) (x:Bool) (e:Env) (S:bH):cK n11 t x ⟨e,S⟩=atO (av Rz t x) e S:=cF rfl t x e S
theorem WS (i:Nat):n11.keep i=ax Me i:=rfl
theorem ZS (t:Nat):n11.ro t=(t==1):=rfl
theorem NL (t:Nat):n11.mv t=(false):=rfl
theorem Zj (t:Nat):n11.give t=(false):=rfl
theorem qb5:Try.f11.results.toList= [.tmp 2]:=rfl
def b11:Code:=aU Try.f11
theorem zh (C:aj) (oY:sC C) (p0:iu) (c:Code) (ho:cD 0 4 b11=some c) (r:Bool) (hF:lD p0=r): @cV TT C.wide (evW TT C.wide n11 b11) n11 0 4 ⟨[(1,.rp (rGRecord p0)),(3,.ptr 0 0)],[[.I 0,.I 0,.v (.b false),.I 0,.I 0,.I 0,.v (.s ByteArray.empty),.v (.s ByteArray.empty),.v (.s ByteArray.empty),.I 0]]⟩ ⟨c⟩=some (.normal,⟨[(1,.rp (rGRecord p0)),(52,.v (.b r))],[[.I 0,.I 0,.v (.b false),.I 0,.I 0,.I 0,.v (.s ByteArray.empty),.v (.s ByteArray.empty),.v (.s ByteArray.empty),.I 0]]⟩):=by
 have e:=Option.some.inj (ho.symm.trans (rfl:cD 0 4 b11=some _))
 subst e
 clear ho
 show aH _ _ _ _ _ _=_
 revert hF
 unfold lD
 refine aX (fun h1=>?_) (fun h1=>?_)
 focus
  unfold pi
  refine aX (fun h2=>?_) (fun h2=>?_)
  focus
   refine iq (fun h3=>?_) ?_
   have g1:=bK (oY p0.iS _ (sJ p0.iS))
  rotate_left 2
  refine ip (fun h3=>ip (fun h4=>ip (fun h5=>iq (fun h6=>ip (fun h7=>?_) ?_) ?_) ?_) ?_) ?_
  unfold ph
  refine ip (fun h8=>ip (fun h9=>ip (fun h10=>ip (fun h11=>ip (fun h12=>ip (fun h13=>iq (fun h14=>?_) ?_) ?_) ?_) ?_) ?_) ?_) ?_
  have g1:=bK (oY p0.iS _ (sJ p0.iS))
 rotate_left 15
 refine ip (fun h2=>ip (fun h3=>?_) ?_) ?_
 unfold pf
 refine aX (fun h4=>?_) (fun h4=>?_)
 focus
  refine iq (fun h5=>?_) ?_
  have g1:=bK (oY p0.iS _ (sJ p0.iS))
 rotate_left 2
 refine ip (fun h5=>ip (fun h6=>ip (fun h7=>iq (fun h8=>ip (fun h9=>?_) ?_) ?_) ?_) ?_) ?_
 unfold pe
 refine ip (fun h10=>ip (fun h11=>ip (fun h12=>ip (fun h13=>ip (fun h14=>ip (fun h15=>iq (fun h16=>?_) ?_) ?_) ?_) ?_) ?_) ?_) ?_
 have g1:=bK (oY p0.iS _ (sJ p0.iS))
 all_goals (rintro rfl;intros;simp (maxSteps:=4000000) only [*,rGRecord,WS,Me,NL,↓RP,RB,RC,Nat.reduceBEq,List.map,Nat.reduceAdd,aG,jA,bne,aP,ty3,z1,yk,A6,↓aa _ _ _ _ 4])
theorem yQ (C:aj) (nD:oZ C) (p0:iu) (c:Code) (ho:cD 0 8 b11=some c) (r:Bool) (hF:kF p0=r): @cV TT C.wide (evW TT C.wide n11 b11) n11 0 8 ⟨[(1,.rp (rGRecord p0))],[[.I 0,.I 0,.v (.b false),.I 0,.I 0,.I 0,.v (.s ByteArray.empty),.v (.s ByteArray.empty),.v (.s ByteArray.empty),.I 0]]⟩ ⟨c⟩=some (.normal,⟨[(70,.v (.b r))],[[.I 0,.I 0,.v (.b false),.I 0,.I 0,.I 0,.v (.s ByteArray.empty),.v (.s ByteArray.empty),.v (.s ByteArray.empty),.I 0]]⟩):=by
 have e:=Option.some.inj (ho.symm.trans (rfl:cD 0 8 b11=some _))
 subst e
 clear ho
 show aH _ _ _ _ _ _=_
 revert hF
 unfold kF
 have g1:=bK (nD p0.iO _ (sy p0.iO))
 refine ip (fun h1=>iq (fun h2=>?_) ?_) ?_
 all_goals (rintro rfl;intros;simp (maxSteps:=4000000) only [*,rGRecord,WS,Me,NL,↓RP,RB,RC,Nat.reduceBEq,List.map,Int.reduceNeg,jA,ty3,A6,↓aa _ _ _ _ 8])
theorem Gi (C:aj) (oY:sC C) (nD:oZ C) (rR:oc C) (yZ:vd C) (p0:iu) (r:Int) (hF:ns p0=some r):cR TT C.wide (evW TT C.wide n11 b11) n11 Try.f11.results.toList (aU Try.f11) [.agg (cGRecord p0)] []=some (.I r,[]):=by
 revert hF
 unfold ns
 refine iq (fun h1=>?_) ?_
 unfold sx
 refine iq (fun h2=>?_) ?_
 have g1:=zh C oY p0 _ rfl (lD p0) rfl
 refine iq (fun h3=>aX (fun h4=>?_) (fun h4=>?_)) ?_
 focus
  have g2:=yQ C nD p0 _ rfl (kF p0) rfl
  refine iq (fun h5=>?_) ?_
 rotate_left 2
 refine bF (fun h5=>?_) (fun h5=>?_)
 focus
  refine az fun x1 h6=>?_
  have g3:=bK (yZ p0.iS _ h6)
 rotate_left 1
 have g4:=bK (nD p0.jg _ (sy p0.jg))
 refine aX (fun h6=>?_) (fun h6=>?_)
 focus
  have g5:=bK (rR p0.iN _ (vf p0.iN))
 rotate_left 1
 all_goals (rintro⟨⟩;intros;rw [bk];show cC _ _ _ (aH _ _ _ _ (Code.seq _ _) _)=_;simp (maxSteps:=4000000) only [*,cGRecord,rGRecord,qb5,qdq,Rz,WS,Me,ZS,NL,Zj,↓RP,RB,RC,↓ai,Nat.reduceBEq,bP,List.map,Nat.reduceAdd,Nat.reduceLeDiff,jA,bne,↓ao,↓am,ty3,ty4,mR,B4,z1,yk,A6,↓aa _ _ _ _ 0,↓aa _ _ _ _ 1,↓aa _ _ _ _ 2,↓aa _ _ _ _ 3,↓bg _ _ _ _ 4,↓aa _ _ _ _ 5,↓aa _ _ _ _ 6,↓aa _ _ _ _ 7,↓bg _ _ _ _ 8,↓aa _ _ _ _ 9,↓aa _ _ _ _ 10,↓aa _ _ _ _ 11,↓aa _ _ _ _ 12,↓aa _ _ _ _ 13,↓aa _ _ _ _ 14,↓aa _ _ _ _ 15])
def RH:List (Nat×List Nat):=[(0,[0]),(1,[2,11])]
def n62:cL where
 keep:=ax RH
 ro:=fun _=>false
 mv:=fun _=>false
 give:=fun _=>false
 free:=fun _=>[]
theorem qds (i:Nat):n62.keep i=ax RH i:=rfl
theorem YA:Try.f62.results.toList= [.tmp 2]:=rfl
def b62:Code:=aU Try.f62
theorem By (C:aj)  (p0:Int) (r:(List Int)) (hF:lj p0=some r): ∃d S,cR TT C.wide (evW TT C.wide n62 b62) n62 Try.f62.results.toList (aU Try.f62) [.I p0] []=some (d,S)/\bD d=true/\(frz d,S)=(.v (.sl 1 (ah cE r)),[]):=by
 revert hF
 unfold lj
 intro hF
 have hR:=Option.some.inj hF
 clear hF
 subst hR
 refine⟨.own 1 (ah cE [(IntKind.u8.wrap (Int.fdiv p0 (2 ^ (min (16:Int).toNat IntKind.i64.bits)))),(IntKind.u8.wrap (Int.fdiv p0 (2 ^ (min (8:Int).toNat IntKind.i64.bits)))),(IntKind.u8.wrap p0)]),[],?_,rfl,by first|rfl|(simp only [*];done)|(simp only [*];rfl)⟩
 all_goals (rw [bk];show cC _ _ _ (aH _ _ _ _ (Code.seq _ _) _)=_;simp (maxSteps:=4000000) only [*,YA,qds,RH,↓RP,RB,RC,Nat.reduceBEq,List.map,Nat.reduceAdd,Nat.reduceMul,Nat.reduceLeDiff,Int.reduceLE,bne,↓ao,↓aa,ty3,ty5,pg])
def Ke:List (Nat×List Nat):=[(0,[0,4]),(1,[0,4,5]),(2,[0,4,5,10]),(3,[0,4,5]),(4,[0,4,5])]
def OA:List (Nat×List Nat×List Nat):=[(10,[0,4,5],[])]
def AY:cL where
 keep:=ax Ke
 ro:=fun _=>false
 mv:=fun _=>false
 give:=fun _=>false
 free:=fun i=>match i with|4=>[(0,1),(0,2),(0,3),(0,4),(0,5),(1,5),(2,5),(3,5),(4,5),(0,6),(1,6),(2,6),(3,6),(4,6),(5,6),(0,7),(1,7),(2,7),(3,7),(4,7),(0,8),(1,8),(2,8),(3,8),(4,8),(0,9),(1,9),(2,9),(3,9),(4,9),(0,10)]|_=>[]
 alive:=av OA
theorem YE (t:Nat) (x:Bool) (e:Env) (S:bH):cK AY t x ⟨e,S⟩=atO (av OA t x) e S:=cF rfl t x e S
theorem QV (i:Nat):AY.keep i=ax Ke i:=rfl
theorem Sn (t:Nat):AY.mv t=(false):=rfl
theorem SA (t:Nat):AY.give t=(false):=rfl
theorem Sf:AY.free 4= [(0,1),(0,2),(0,3),(0,4),(0,5),(1,5),(2,5),(3,5),(4,5),(0,6),(1,6),(2,6),(3,6),(4,6),(5,6),(0,7),(1,7),(2,7),(3,7),(4,7),(0,8),(1,8),(2,8),(3,8),(4,8),(0,9),(1,9),(2,9),(3,9),(4,9),(0,10)]:=rfl
theorem XV:Try.f105.results.toList= []:=rfl
def Qa:Code:=aU Try.f105
def UH:Code:=(bE 0 (aU Try.f105)).getD .skip
theorem P1:bE 0 Qa=some UH:=rfl
def sG (p0:Int) (s:Int×bi):St:=⟨[(0,.ptr 0 0),(4,.v (.i .u64 p0)),(5,.I s.1)],[[.own 1 (ah cE s.2.fb)]]⟩
def uN (p0:Int) (r:bi):Option (Ex×St):=some (.normal,⟨[],[[.own 1 (ah cE r.fb)]]⟩)
theorem BT (C:aj)  (p0:Int) (s:Int×bi) (o:(Int×bi)⊕bi) (hF:nA p0 s=some o):evW TT C.wide AY Qa 0 (sG p0 s)=Sum.elim (fun s=>evW TT C.wide AY Qa 0 (sG p0 s)) (fun r=>uN p0 r) o:=by
 obtain⟨p1,p2⟩:=s
 rw [cG TT AY P1]
 revert hF
 unfold nA
 try dsimp only
 refine ip (fun h1=>mt fun h2=>?_) ?_
 all_goals (rintro⟨⟩;intros;show cN _ _ _ (aH _ _ _ _ (Code.seq _ _) _)=_;simp (maxSteps:=4000000) only [*,sG,uN,YE,OA,QV,Ke,Sf,Sn,SA,↓RP,RB,RC,↓ab,Nat.reduceBEq,List.map,Nat.reduceMul,Nat.reduceSub,Nat.reduceLeDiff,bne,↓ao,↓am,↓aa,↓aq,ty3,ty5,pg,Q0,HB])
theorem Jm (C:aj)  (p0:Int) (p1:bi) (r:bi) (hF:kP p0 p1=some r):cR TT C.wide (evW TT C.wide AY Qa) AY Try.f105.results.toList (aU Try.f105) [.ptr 0 0,.I p0] [[.own 1 (ah cE p1.fb)]]=some (.tup [],[[.own 1 (ah cE r.fb)]]):=by
 revert hF
 unfold kP
 refine az ?_
 rintro x1 h1
 have g1:=cH _ _ (BT C (IntKind.u64.wrap (IntKind.i64.wrap (p0+4611686018427387904)))) h1
 try simp only [sG,uN] at g1
 all_goals (rintro⟨⟩;rw [bk];show cC _ _ _ (aH _ _ _ _ (Code.seq _ _) _)=_;simp (maxSteps:=4000000) only [*,XV,QV,Ke,↓RP,RB,RC,Nat.reduceBEq,List.map,Nat.reduceAdd,↓ao,↓aa,ty3,Q0])
def Ou:List (Nat×List Nat):=[(0,[])]
def Kz:cL where
 keep:=ax Ou
 ro:=fun _=>false
 mv:=fun _=>false
 give:=fun _=>false
 free:=fun _=>[]
theorem qaz (i:Nat):Kz.keep i=ax Ou i:=rfl
theorem Ub (t:Nat):Kz.mv t=(false):=rfl
theorem X8 (t:Nat):Kz.give t=(false):=rfl
theorem Wr:Try.f106.results.toList= []:=rfl
def qcV:Code:=aU Try.f106
theorem LJ (C:aj)  (p0:Int) (p1:bi) (r:bi) (hF:ni p0 p1=some r):cR TT C.wide (evW TT C.wide Kz qcV) Kz Try.f106.results.toList (aU Try.f106) [.ptr 0 0,.I p0] [[.own 1 (ah cE p1.fb)]]=some (.tup [],[[.own 1 (ah cE r.fb)]]):=by
 revert hF
 unfold ni
 refine mt fun h1=>?_
 all_goals (rintro⟨⟩;rw [bk];show cC _ _ _ (aH _ _ _ _ (Code.region _ _ _) _)=_;simp (maxSteps:=4000000) only [*,Wr,qaz,Ou,Ub,X8,↓RP,RB,RC,Nat.reduceBEq,List.map,Nat.reduceAdd,Nat.reduceMul,Nat.reduceLeDiff,bne,↓aa,ty3,ty5,pg,HB])
def Oa:List (Nat×List Nat):=[(0,[0,1]),(1,[])]
def KG:cL where
 keep:=ax Oa
 ro:=fun _=>false
 mv:=fun _=>false
 give:=fun _=>false
 free:=fun _=>[]
theorem qa3 (i:Nat):KG.keep i=ax Oa i:=rfl
theorem VE (t:Nat):KG.mv t=(false):=rfl
theorem TN (t:Nat):KG.give t=(false):=rfl
theorem WN:Try.f107.results.toList= []:=rfl
def qdF:Code:=aU Try.f107
theorem MI (C:aj) (kw:mw C) (p0:ByteArray) (p1:bi) (r:bi) (hF:qn p0 p1=some r):cR TT C.wide (evW TT C.wide KG qdF) KG Try.f107.results.toList (aU Try.f107) [.ptr 0 0,.v (.s p0)] [[.own 1 (ah cE p1.fb)]]=some (.tup [],[[.own 1 (ah cE r.fb)]]):=by
 revert hF
 unfold qn
 refine az fun x1 h1=>?_
 have g1:C.wide 106 [.ptr 0 0,.I (p0.size:Int)] [[.own 1 (ah cE p1.fb)]]=some (.tup [],[[.own 1 (ah cE x1.fb)]]):=cX [0] rfl rfl rfl rfl (kw (p0.size:Int) p1 _ h1) rfl rfl
 refine mt fun h2=>?_
 all_goals (rintro⟨⟩;rw [bk];show cC _ _ _ (aH _ _ _ _ (Code.seq _ _) _)=_;simp (maxSteps:=4000000) only [*,WN,qa3,Oa,VE,TN,↓RP,RB,RC,Nat.reduceBEq,List.map,Nat.reduceAdd,Nat.reduceLeDiff,jA,bne,↓ao,↓aa,bB,ty5,ty9,pg,HB,bB])
def NM:List (Nat×List Nat):=[(0,[0,3]),(1,[0,3]),(2,[0,3]),(3,[0,3]),(4,[0,3]),(5,[])]
def Jq:cL where
 keep:=ax NM
 ro:=fun t=>t==3
 mv:=fun _=>false
 give:=fun _=>false
 free:=fun _=>[]
theorem Zq (i:Nat):Jq.keep i=ax NM i:=rfl
theorem Xb (t:Nat):Jq.ro t=(t==3):=rfl
theorem U1 (t:Nat):Jq.mv t=(false):=rfl
theorem XH (t:Nat):Jq.give t=(false):=rfl
theorem Tf:Try.f142.results.toList= []:=rfl
def qdr:Code:=aU Try.f142
theorem GW (C:aj) (kw:mw C) (kl:nX C) (jp:kG C) (p0:f5) (p1:bi) (r:bi) (hF:rS p0 p1=some r):cR TT C.wide (evW TT C.wide Jq qdr) Jq Try.f142.results.toList (aU Try.f142) [.ptr 0 0,.agg (cGCommand p0)] [[.own 1 (ah cE p1.fb)]]=some (.tup [],[[.own 1 (ah cE r.fb)]]):=by
 revert hF
 unfold rS
 refine az fun x1 h1=>?_
 have g1:C.wide 106 [.ptr 0 0,.I p0.af] [[.own 1 (ah cE p1.fb)]]=some (.tup [],[[.own 1 (ah cE x1.fb)]]):=cX [0] rfl rfl rfl rfl (kw p0.af p1 _ h1) rfl rfl
 refine az fun x2 h2=>?_
 have g2:C.wide 107 [.ptr 0 0,.v (.s p0.jj)] [[.own 1 (ah cE x1.fb)]]=some (.tup [],[[.own 1 (ah cE x2.fb)]]):=cX [0] rfl rfl rfl rfl (kl p0.jj x1 _ h2) rfl rfl
 refine az fun x3 h3=>?_
 have g3:C.wide 107 [.ptr 0 0,.v (.s p0.iv)] [[.own 1 (ah cE x2.fb)]]=some (.tup [],[[.own 1 (ah cE x3.fb)]]):=cX [0] rfl rfl rfl rfl (kl p0.iv x2 _ h3) rfl rfl
 refine az fun x4 h4=>?_
 have g4:C.wide 107 [.ptr 0 0,.v (.s p0.gi)] [[.own 1 (ah cE x3.fb)]]=some (.tup [],[[.own 1 (ah cE x4.fb)]]):=cX [0] rfl rfl rfl rfl (kl p0.gi x3 _ h4) rfl rfl
 refine az fun x5 h5=>?_
 have g5:C.wide 105 [.ptr 0 0,.I p0.fN] [[.own 1 (ah cE x4.fb)]]=some (.tup [],[[.own 1 (ah cE x5.fb)]]):=cX [0] rfl rfl rfl rfl (jp p0.fN x4 _ h5) rfl rfl
 all_goals (rintro⟨⟩;rw [bk];show cC _ _ _ (aH _ _ _ _ (Code.seq _ _) _)=_;simp (maxSteps:=4000000) only [*,cGCommand,Tf,Zq,NM,Xb,U1,XH,↓RP,RB,RC,Nat.reduceBEq,bP,List.map,Nat.reduceAdd,jA,↓ao,↓aa,ty3,ty9,v9])
def J8:List (Nat×List Nat):=[(0,[0,3]),(1,[0,3]),(2,[0,3,10]),(3,[0,3]),(4,[])]
def MN:List (Nat×List Nat×List Nat):=[(10,[0,3],[])]
def Cv:cL where
 keep:=ax J8
 ro:=fun t=>t==3
 mv:=fun _=>false
 give:=fun _=>false
 free:=fun _=>[]
 alive:=av MN
theorem qaU (t:Nat) (x:Bool) (e:Env) (S:bH):cK Cv t x ⟨e,S⟩=atO (av MN t x) e S:=cF rfl t x e S
theorem Q3 (i:Nat):Cv.keep i=ax J8 i:=rfl
theorem WJ (t:Nat):Cv.ro t=(t==3):=rfl
theorem Mh (t:Nat):Cv.mv t=(false):=rfl
theorem Nl (t:Nat):Cv.give t=(false):=rfl
theorem Sv:Try.f135.results.toList= []:=rfl
def PU:Code:=aU Try.f135
theorem BP (C:aj) (jp:kG C) (wo:wF C) (p0:jB) (p1:Bool) (p2:bi) (c:Code) (ho:cD 1 10 PU=some c) (r:bi) (hF:sK p0 p1 p2=some r): @cV TT C.wide (evW TT C.wide Cv PU) Cv 1 10 ⟨[(0,.ptr 0 0),(3,.rp (rGCall p0)),(10,.v (.b p1))],[[.own 1 (ah cE p2.fb)]]⟩ ⟨c⟩=some (.normal,⟨[],[[.own 1 (ah cE r.fb)]]⟩):=by
 have e:=Option.some.inj (ho.symm.trans (rfl:cD 1 10 PU=some _))
 subst e
 clear ho
 show aH _ _ _ _ _ _=_
 revert hF
 unfold sK
 refine ip (fun h1=>az fun x1 h2=>?_) ?_
 have g1:C.wide 105 [.ptr 0 0,.I p0.jT] [[.own 1 (ah cE p2.fb)]]=some (.tup [],[[.own 1 (ah cE x1.fb)]]):=cX [0] rfl rfl rfl rfl (jp p0.jT p2 _ h2) rfl rfl
 refine az fun x2 h3=>?_
 have g2:C.wide 142 [.ptr 0 0,.agg (cGCommand p0.bt)] [[.own 1 (ah cE x1.fb)]]=some (.tup [],[[.own 1 (ah cE x2.fb)]]):=cX [0] rfl rfl rfl rfl (wo p0.bt x1 _ h3) rfl rfl
 all_goals (rintro⟨⟩;intros;simp (maxSteps:=4000000) only [*,rGCall,qaU,MN,Q3,J8,Mh,Nl,↓RP,RB,RC,Nat.reduceBEq,List.map,Nat.reduceAdd,jA,↓ao,↓am,ty3,v9,B4,↓aa _ _ _ _ 3,↓aa _ _ _ _ 4])
theorem Mf (C:aj) (jp:kG C) (wo:wF C) (p0:jB) (p1:bi) (r:bi) (hF:xw p0 p1=some r):cR TT C.wide (evW TT C.wide Cv PU) Cv Try.f135.results.toList (aU Try.f135) [.ptr 0 0,.agg (cGCall p0)] [[.own 1 (ah cE p1.fb)]]=some (.tup [],[[.own 1 (ah cE r.fb)]]):=by
 revert hF
 unfold xw
 refine az fun x1 h1=>?_
 have g1:C.wide 105 [.ptr 0 0,.I p0.iP] [[.own 1 (ah cE p1.fb)]]=some (.tup [],[[.own 1 (ah cE x1.fb)]]):=cX [0] rfl rfl rfl rfl (jp p0.iP p1 _ h1) rfl rfl
 refine az fun x2 h2=>?_
 have g2:=BP C jp wo p0 (decide (0<p0.iP)) x1 _ rfl _ h2
 all_goals (rintro⟨⟩;rw [bk];show cC _ _ _ (aH _ _ _ _ (Code.seq _ _) _)=_;simp (maxSteps:=4000000) only [*,cGCall,Sv,Q3,J8,WJ,Mh,Nl,↓RP,RB,RC,Nat.reduceBEq,bP,List.map,Nat.reduceAdd,jA,↓ao,ty3,B4,↓aa _ _ _ _ 0,↓aa _ _ _ _ 1,↓aa _ _ _ _ 2,↓da _ _ _ _ 10])
def Ng:List (Nat×List Nat):=[(0,[0,3]),(1,[0,3]),(2,[0,3]),(3,[0,3,13]),(4,[]),(5,[0,3]),(6,[])]
def NX:List (Nat×List Nat×List Nat):=[(13,[0],[0,3])]
def GM:cL where
 keep:=ax Ng
 ro:=fun t=>t==3
 mv:=fun _=>false
 give:=fun _=>false
 free:=fun _=>[]
 alive:=av NX
theorem qbJ (t:Nat) (x:Bool) (e:Env) (S:bH):cK GM t x ⟨e,S⟩=atO (av NX t x) e S:=cF rfl t x e S
theorem qak (i:Nat):GM.keep i=ax Ng i:=rfl
theorem TY (t:Nat):GM.ro t=(t==3):=rfl
theorem SW (t:Nat):GM.mv t=(false):=rfl
theorem Wt (t:Nat):GM.give t=(false):=rfl
theorem U8:Try.f104.results.toList= []:=rfl
def qcG:Code:=aU Try.f104
theorem Nw (C:aj) (jp:kG C) (kw:mw C) (Nk:GP C) (p0:iX) (p1:bi) (r:bi) (hF:xo p0 p1=some r):cR TT C.wide (evW TT C.wide GM qcG) GM Try.f104.results.toList (aU Try.f104) [.ptr 0 0,.agg (cGItem p0)] [[.own 1 (ah cE p1.fb)]]=some (.tup [],[[.own 1 (ah cE r.fb)]]):=by
 revert hF
 unfold xo
 refine az fun x1 h1=>?_
 have g1:C.wide 105 [.ptr 0 0,.I p0.iO] [[.own 1 (ah cE p1.fb)]]=some (.tup [],[[.own 1 (ah cE x1.fb)]]):=cX [0] rfl rfl rfl rfl (jp p0.iO p1 _ h1) rfl rfl
 refine az fun x2 h2=>?_
 have g2:C.wide 105 [.ptr 0 0,.I p0.i6] [[.own 1 (ah cE x1.fb)]]=some (.tup [],[[.own 1 (ah cE x2.fb)]]):=cX [0] rfl rfl rfl rfl (jp p0.i6 x1 _ h2) rfl rfl
 refine aX (fun h3=>?_) (fun h3=>?_)
 focus
  refine az fun x3 h4=>?_
  have g3:C.wide 106 [.ptr 0 0,.I 1] [[.own 1 (ah cE x2.fb)]]=some (.tup [],[[.own 1 (ah cE x3.fb)]]):=cX [0] rfl rfl rfl rfl (kw 1 x2 _ h4) rfl rfl
 rotate_left 1
 refine az fun x3 h4=>?_
 have g4:C.wide 106 [.ptr 0 0,.I 0] [[.own 1 (ah cE x2.fb)]]=some (.tup [],[[.own 1 (ah cE x3.fb)]]):=cX [0] rfl rfl rfl rfl (kw 0 x2 _ h4) rfl rfl
 refine az fun x4 h5=>?_
 have g5:C.wide 135 [.ptr 0 0,.agg (cGCall p0.iz)] [[.own 1 (ah cE x3.fb)]]=some (.tup [],[[.own 1 (ah cE x4.fb)]]):=cX [0] rfl rfl rfl rfl (Nk p0.iz x3 _ h5) rfl rfl
 all_goals (rintro⟨⟩;rw [bk];show cC _ _ _ (aH _ _ _ _ (Code.seq _ _) _)=_;simp (maxSteps:=4000000) only [*,cGItem,U8,qbJ,NX,qak,Ng,TY,SW,Wt,↓RP,RB,RC,Nat.reduceBEq,bP,List.map,Nat.reduceAdd,jA,↓ao,↓am,↓aa,ty3,ty4,B4,z1])
def Wf:List (Nat×List Nat):=[(0,[1]),(1,[1,4]),(2,[1,4,9]),(3,[2,3,19]),(4,[1,5]),(5,[5]),(6,[2,3,19])]
def UV:List (Nat×List Nat×List Nat):=[(9,[4],[1])]
def n85:cL where
 keep:=ax Wf
 ro:=fun t=>t==1
 mv:=fun t=>t==19
 give:=fun _=>false
 free:=fun _=>[]
 alive:=av UV
theorem qd2 (t:Nat) (x:Bool) (e:Env) (S:bH):cK n85 t x ⟨e,S⟩=atO (av UV t x) e S:=cF rfl t x e S
theorem qd5 (i:Nat):n85.keep i=ax Wf i:=rfl
theorem Zw (t:Nat):n85.ro t=(t==1):=rfl
theorem qaX (t:Nat):n85.mv t=(t==19):=rfl
theorem YH (t:Nat):n85.give t=(false):=rfl
theorem Y6:Try.f85.results.toList= [.tmp 2,.tmp 3]:=rfl
def b85:Code:=aU Try.f85
theorem yi (C:aj) (rR:oc C) (MG:HO C) (p0:iX) (r:(List Int)×Int) (hF:lz p0=some r):cR TT C.wide (evW TT C.wide n85 b85) n85 Try.f85.results.toList (aU Try.f85) [.agg (cGItem p0)] []=some (.tup [.v (.sl 1 (ah cE r.1)),.I r.2],[]):=by
 revert hF
 unfold lz
 have g1:=bK (rR p0 _ (vf p0))
 refine ip (fun h1=>az fun x1 h2=>?_) ?_
 have g2:C.wide 104 [.ptr 0 0,.agg (cGItem p0)] [[.own 1 []]]=some (.tup [],[[.own 1 (ah cE x1.fb)]]):=cX [0] rfl rfl rfl rfl (MG p0 (bi.mk []) _ h2) rfl rfl
 all_goals (rintro⟨⟩;intros;rw [bk];show cC _ _ _ (aH _ _ _ _ (Code.seq _ _) _)=_;simp (maxSteps:=4000000) only [*,cGItem,Y6,qd2,UV,qd5,Wf,Zw,qaX,YH,↓RP,RB,RC,Nat.reduceBEq,bP,List.map,Nat.reduceAdd,jA,bne,↓ao,↓am,↓aa,pg,mR,z1,Ri,HB])
def JL:List (Nat×List Nat):=[(0,[0,1]),(1,[0,1,10,11,12]),(2,[0,1,10,11,12,13]),(3,[0,1,5,10,11,12]),(4,[0,1,10,11,12]),(5,[0,1,10,11,12])]
def N8:List (Nat×List Nat×List Nat):=[(13,[0,1,10,11,12],[])]
def Cl:cL where
 keep:=ax JL
 ro:=fun _=>false
 mv:=fun _=>false
 give:=fun _=>false
 free:=fun _=>[]
 alive:=av N8
theorem qbZ (t:Nat) (x:Bool) (e:Env) (S:bH):cK Cl t x ⟨e,S⟩=atO (av N8 t x) e S:=cF rfl t x e S
theorem QZ (i:Nat):Cl.keep i=ax JL i:=rfl
theorem Mm (t:Nat):Cl.mv t=(false):=rfl
theorem MA (t:Nat):Cl.give t=(false):=rfl
theorem Tu:Try.f109.results.toList= []:=rfl
def PH:Code:=aU Try.f109
def TW:Code:=(bE 0 (aU Try.f109)).getD .skip
theorem Pd:bE 0 PH=some TW:=rfl
def tv (p0:List ByteArray) (p1:Int) (s:Int×bi):St:=⟨[(0,.ptr 0 0),(1,.v (.sl 1 (ah bY p0))),(10,.v (.sl 1 (ah bY p0))),(11,.I p1),(12,.I s.1)],[[.own 1 (ah cE s.2.fb)]]⟩
def vz (p0:List ByteArray) (p1:Int) (r:bi):Option (Ex×St):=some (.normal,⟨[],[[.own 1 (ah cE r.fb)]]⟩)
theorem FT (C:aj) (kl:nX C) (p0:List ByteArray) (p1:Int) (s:Int×bi) (o:(Int×bi)⊕bi) (hF:pS p0 p1 s=some o):evW TT C.wide Cl PH 0 (tv p0 p1 s)=Sum.elim (fun s=>evW TT C.wide Cl PH 0 (tv p0 p1 s)) (fun r=>vz p0 p1 r) o:=by
 obtain⟨p2,p3⟩:=s
 rw [cG TT Cl Pd]
 revert hF
 unfold pS
 try dsimp only
 refine ip (fun h1=>az fun x1 h2=>?_) ?_
 have g1:decide (0<=p2)=true:=(cp h2).1
 have g2:(ah bY p0)[(p2:Int).toNat]? =some [.s x1]:=cn _ h2
 refine az fun x2 h3=>?_
 have g3:C.wide 107 [.ptr 0 0,.v (.s x1)] [[.own 1 (ah cE p3.fb)]]=some (.tup [],[[.own 1 (ah cE x2.fb)]]):=cX [0] rfl rfl rfl rfl (kl x1 p3 _ h3) rfl rfl
 all_goals (rintro⟨⟩;intros;show cN _ _ _ (aH _ _ _ _ (Code.seq _ _) _)=_;simp (maxSteps:=4000000) only [*,tv,vz,qbZ,N8,QZ,JL,Mm,MA,↓RP,RB,RC,↓ai,Nat.reduceBEq,List.map,jA,↓ao,↓am,↓aa,ty3,ty9,rG])
theorem KF (C:aj) (kw:mw C) (kl:nX C) (p0:List ByteArray) (p1:bi) (r:bi) (hF:uw p0 p1=some r):cR TT C.wide (evW TT C.wide Cl PH) Cl Try.f109.results.toList (aU Try.f109) [.ptr 0 0,.v (.sl 1 (ah bY p0))] [[.own 1 (ah cE p1.fb)]]=some (.tup [],[[.own 1 (ah cE r.fb)]]):=by
 revert hF
 unfold uw
 refine az fun x1 h1=>?_
 have g1:C.wide 106 [.ptr 0 0,.I (p0.length:Int)] [[.own 1 (ah cE p1.fb)]]=some (.tup [],[[.own 1 (ah cE x1.fb)]]):=cX [0] rfl rfl rfl rfl (kw (p0.length:Int) p1 _ h1) rfl rfl
 refine az ?_
 rintro x2 h2
 have g2:=cH _ _ (FT C kl p0 (p0.length:Int)) h2
 try simp only [tv,vz] at g2
 all_goals (rintro⟨⟩;rw [bk];show cC _ _ _ (aH _ _ _ _ (Code.seq _ _) _)=_;simp (maxSteps:=4000000) only [*,Tu,QZ,JL,Mm,MA,↓RP,RB,RC,Nat.reduceBEq,List.map,Nat.reduceAdd,jA,↓ao,↓aa,rG])
def Ie:List (Nat×List Nat):=[(0,[0,3]),(1,[0,3]),(2,[0,3]),(3,[0,3]),(4,[0,3]),(5,[0,3,26,27,28]),(6,[0,3,26,27,28,29]),(7,[0,3,5,26,27,28]),(8,[0,3,5,26,27,28]),(9,[0,3,26,27,28]),(10,[0,3,26,27,28]),(11,[0,3]),(12,[0,3]),(13,[0,51,52,53]),(14,[0,51,52,53,54]),(15,[0,7,51,52,53]),(16,[0,7,51,52,53]),(17,[0,51,52,53]),(18,[0,51,52,53])]
def J7:List (Nat×List Nat×List Nat):=[(29,[0,3,26,27,28],[0,3]),(54,[0,51,52,53],[])]
def xK:cL where
 keep:=ax Ie
 ro:=fun t=>t==3
 mv:=fun _=>false
 give:=fun _=>false
 free:=fun _=>[]
 alive:=av J7
theorem Q4 (t:Nat) (x:Bool) (e:Env) (S:bH):cK xK t x ⟨e,S⟩=atO (av J7 t x) e S:=cF rfl t x e S
theorem N9 (i:Nat):xK.keep i=ax Ie i:=rfl
theorem UL (t:Nat):xK.ro t=(t==3):=rfl
theorem Ju (t:Nat):xK.mv t=(false):=rfl
theorem Jv (t:Nat):xK.give t=(false):=rfl
theorem Uy:Try.f108.results.toList= []:=rfl
def Je:Code:=aU Try.f108
def SZ:Code:=(bE 0 (aU Try.f108)).getD .skip
theorem PA:bE 0 Je=some SZ:=rfl
def TD:Code:=(bE 2 (aU Try.f108)).getD .skip
theorem Py:bE 2 Je=some TD:=rfl
def tu (p0:ad) (p1:List iw) (p2:Int) (s:Int×bi):St:=⟨[(0,.ptr 0 0),(3,.rp (rGValue p0)),(26,.v (.sl 2 (ah iw.row p1))),(27,.I p2),(28,.I s.1)],[[.own 1 (ah cE s.2.fb)]]⟩
def vq (p0:ad) (p1:List iw) (p2:Int) (r:bi):Option (Ex×St):=some (.normal,⟨[(0,.ptr 0 0),(3,.rp (rGValue p0))],[[.own 1 (ah cE r.fb)]]⟩)
theorem Fg (C:aj) (kl:nX C) (p0:ad) (p1:List iw) (p2:Int) (s:Int×bi) (o:(Int×bi)⊕bi) (hF:qj p0 p1 p2 s=some o):evW TT C.wide xK Je 0 (tu p0 p1 p2 s)=Sum.elim (fun s=>evW TT C.wide xK Je 0 (tu p0 p1 p2 s)) (fun r=>vq p0 p1 p2 r) o:=by
 obtain⟨p3,p4⟩:=s
 rw [cG TT xK PA]
 revert hF
 unfold qj
 try dsimp only
 refine ip (fun h1=>az fun x1 h2=>?_) ?_
 have g1:decide (0<=p3)=true:=(cp h2).1
 have g2:(ah iw.row p1)[(p3:Int).toNat]? =some (rGPair x1):=cn _ h2
 refine az fun x2 h3=>?_
 have g3:C.wide 107 [.ptr 0 0,.v (.s x1.iv)] [[.own 1 (ah cE p4.fb)],cGPair x1]=some (.tup [],[[.own 1 (ah cE x2.fb)],cGPair x1]):=cX [0] rfl rfl rfl rfl (kl x1.iv p4 _ h3) rfl rfl
 refine az fun x3 h4=>?_
 have g4:C.wide 107 [.ptr 0 0,.v (.s x1.gi)] [[.own 1 (ah cE x2.fb)],cGPair x1]=some (.tup [],[[.own 1 (ah cE x3.fb)],cGPair x1]):=cX [0] rfl rfl rfl rfl (kl x1.gi x2 _ h4) rfl rfl
 all_goals (rintro⟨⟩;intros;show cN _ _ _ (aH _ _ _ _ (Code.seq _ _) _)=_;simp (maxSteps:=4000000) only [*,cGPair,rGPair,rGValue,tu,vq,Q4,J7,N9,Ie,Ju,Jv,↓RP,RB,RC,↓ai,Nat.reduceBEq,bP,List.map,Nat.reduceAdd,Nat.reduceLT,Nat.reduceLeDiff,jA,bne,↓ao,↓am,↓aa,ty3,ty9,wb,xP])
def tt (p0:List ae) (p1:Int) (s:Int×bi):St:=⟨[(0,.ptr 0 0),(51,.v (.sl 2 (ah ae.row p0))),(52,.I p1),(53,.I s.1)],[[.own 1 (ah cE s.2.fb)]]⟩
def vk (p0:List ae) (p1:Int) (r:bi):Option (Ex×St):=some (.normal,⟨[],[[.own 1 (ah cE r.fb)]]⟩)
theorem Fq (C:aj) (kl:nX C) (jp:kG C) (p0:List ae) (p1:Int) (s:Int×bi) (o:(Int×bi)⊕bi) (hF:ql p0 p1 s=some o):evW TT C.wide xK Je 2 (tt p0 p1 s)=Sum.elim (fun s=>evW TT C.wide xK Je 2 (tt p0 p1 s)) (fun r=>vk p0 p1 r) o:=by
 obtain⟨p2,p3⟩:=s
 rw [cG TT xK Py]
 revert hF
 unfold ql
 try dsimp only
 refine ip (fun h1=>az fun x1 h2=>?_) ?_
 have g1:decide (0<=p2)=true:=(cp h2).1
 have g2:(ah ae.row p0)[(p2:Int).toNat]? =some (rGScore x1):=cn _ h2
 refine az fun x2 h3=>?_
 have g3:C.wide 107 [.ptr 0 0,.v (.s x1.iU)] [[.own 1 (ah cE p3.fb)],cGScore x1]=some (.tup [],[[.own 1 (ah cE x2.fb)],cGScore x1]):=cX [0] rfl rfl rfl rfl (kl x1.iU p3 _ h3) rfl rfl
 refine az fun x3 h4=>?_
 have g4:C.wide 105 [.ptr 0 0,.I x1.fN] [[.own 1 (ah cE x2.fb)],cGScore x1]=some (.tup [],[[.own 1 (ah cE x3.fb)],cGScore x1]):=cX [0] rfl rfl rfl rfl (jp x1.fN x2 _ h4) rfl rfl
 all_goals (rintro⟨⟩;intros;show cN _ _ _ (aH _ _ _ _ (Code.seq _ _) _)=_;simp (maxSteps:=4000000) only [*,cGScore,rGScore,tt,vk,Q4,J7,N9,Ie,Ju,Jv,↓RP,RB,RC,↓ai,Nat.reduceBEq,bP,List.map,Nat.reduceAdd,Nat.reduceLT,Nat.reduceLeDiff,jA,bne,↓ao,↓am,↓aa,ty3,ty9,sY,sQ])
theorem Ll (C:aj) (kw:mw C) (kl:nX C) (jp:kG C) (uU:uX C) (p0:ad) (p1:bi) (r:bi) (hF:vH p0 p1=some r):cR TT C.wide (evW TT C.wide xK Je) xK Try.f108.results.toList (aU Try.f108) [.ptr 0 0,.agg (cGValue p0)] [[.own 1 (ah cE p1.fb)]]=some (.tup [],[[.own 1 (ah cE r.fb)]]):=by
 revert hF
 unfold vH
 refine az fun x1 h1=>?_
 have g1:C.wide 106 [.ptr 0 0,.I p0.af] [[.own 1 (ah cE p1.fb)]]=some (.tup [],[[.own 1 (ah cE x1.fb)]]):=cX [0] rfl rfl rfl rfl (kw p0.af p1 _ h1) rfl rfl
 refine az fun x2 h2=>?_
 have g2:C.wide 107 [.ptr 0 0,.v (.s p0.gi)] [[.own 1 (ah cE x1.fb)]]=some (.tup [],[[.own 1 (ah cE x2.fb)]]):=cX [0] rfl rfl rfl rfl (kl p0.gi x1 _ h2) rfl rfl
 refine az fun x3 h3=>?_
 have g3:C.wide 105 [.ptr 0 0,.I p0.i8] [[.own 1 (ah cE x2.fb)]]=some (.tup [],[[.own 1 (ah cE x3.fb)]]):=cX [0] rfl rfl rfl rfl (jp p0.i8 x2 _ h3) rfl rfl
 refine az fun x4 h4=>?_
 have g4:C.wide 106 [.ptr 0 0,.I (p0.iD.length:Int)] [[.own 1 (ah cE x3.fb)]]=some (.tup [],[[.own 1 (ah cE x4.fb)]]):=cX [0] rfl rfl rfl rfl (kw (p0.iD.length:Int) x3 _ h4) rfl rfl
 refine az ?_
 rintro x5 h5
 unfold xm
 have g5:=cH _ _ (Fg C kl p0 p0.iD (p0.iD.length:Int)) h5
 try simp only [tu,vq] at g5
 refine az fun x6 h6=>?_
 have g6:C.wide 109 [.ptr 0 0,.v (.sl 1 (ah bY p0.iG))] [[.own 1 (ah cE x5.fb)]]=some (.tup [],[[.own 1 (ah cE x6.fb)]]):=cX [0] rfl rfl rfl rfl (uU p0.iG x5 _ h6) rfl rfl
 refine az fun x7 h7=>?_
 have g7:C.wide 106 [.ptr 0 0,.I (p0.cO.length:Int)] [[.own 1 (ah cE x6.fb)]]=some (.tup [],[[.own 1 (ah cE x7.fb)]]):=cX [0] rfl rfl rfl rfl (kw (p0.cO.length:Int) x6 _ h7) rfl rfl
 refine az ?_
 rintro x8 h8
 have g8:=cH _ _ (Fq C kl jp p0.cO (p0.cO.length:Int)) h8
 try simp only [tt,vk] at g8
 all_goals (rintro⟨⟩;rw [bk];show cC _ _ _ (aH _ _ _ _ (Code.seq _ _) _)=_;simp (maxSteps:=4000000) only [*,cGValue,rGValue,Uy,N9,Ie,UL,Ju,Jv,↓RP,RB,RC,Nat.reduceBEq,bP,List.map,Nat.reduceAdd,jA,↓ao,↓aa,ty3,ty9,wb,rG,sY,pK])
def OB:List (Nat×List Nat):=[(0,[1]),(1,[1,4]),(2,[1,4,13]),(3,[2,3,101]),(4,[1,5]),(5,[1,5]),(6,[1,5]),(7,[1,5,30,31,32]),(8,[1,5,30,31,32,33]),(9,[1,5,7,30,31,32]),(10,[1,5,7,30,31,32]),(11,[1,5,7,30,31,32]),(12,[1,5,30,31,32]),(13,[1,5,30,31,32]),(14,[1,5]),(15,[1,5]),(16,[5,59,60,61]),(17,[5,59,60,61,62]),(18,[5,9,59,60,61]),(19,[5,9,59,60,61]),(20,[5,9,59,60,61]),(21,[5,9,59,60,61]),(22,[5,9,59,60,61]),(23,[5,9,59,60,61]),(24,[5,9,59,60,61]),(25,[5,59,60,61]),(26,[5,59,60,61]),(27,[2,3,101])]
def My:List (Nat×List Nat×List Nat):=[(13,[4],[1]),(33,[1,5,30,31,32],[1,5]),(62,[5,59,60,61],[5])]
def n86:cL where
 keep:=ax OB
 ro:=fun t=>t==1
 mv:=fun t=>t==101
 give:=fun _=>false
 free:=fun _=>[]
 alive:=av My
theorem TU (t:Nat) (x:Bool) (e:Env) (S:bH):cK n86 t x ⟨e,S⟩=atO (av My t x) e S:=cF rfl t x e S
theorem XN (i:Nat):n86.keep i=ax OB i:=rfl
theorem qaM (t:Nat):n86.ro t=(t==1):=rfl
theorem NR (t:Nat):n86.mv t=(t==101):=rfl
theorem Nt (t:Nat):n86.give t=(false):=rfl
theorem ZO:Try.f86.results.toList= [.tmp 2,.tmp 3]:=rfl
def b86:Code:=aU Try.f86
def ZC:Code:=(bE 0 (aU Try.f86)).getD .skip
theorem UJ:bE 0 b86=some ZC:=rfl
def qbN:Code:=(bE 2 (aU Try.f86)).getD .skip
theorem VI:bE 2 b86=some qbN:=rfl
def qm (p0:cc) (p1:List hM) (p2:Int) (s:Int×bi):St:=⟨[(1,.rp (rGMachine p0)),(5,.ptr 0 0),(30,.v (.sl 8 (ah hM.row p1))),(31,.I p2),(32,.I s.1)],[[.own 1 (ah cE s.2.fb)]]⟩
def sv (p0:cc) (p1:List hM) (p2:Int) (r:bi):Option (Ex×St):=some (.normal,⟨[(1,.rp (rGMachine p0)),(5,.ptr 0 0)],[[.own 1 (ah cE r.fb)]]⟩)
theorem zq (C:aj) (kl:nX C) (yN:zw C) (jp:kG C) (p0:cc) (p1:List hM) (p2:Int) (s:Int×bi) (o:(Int×bi)⊕bi) (hF:mE p0 p1 p2 s=some o):evW TT C.wide n86 b86 0 (qm p0 p1 p2 s)=Sum.elim (fun s=>evW TT C.wide n86 b86 0 (qm p0 p1 p2 s)) (fun r=>sv p0 p1 p2 r) o:=by
 obtain⟨p3,p4⟩:=s
 rw [cG TT n86 UJ]
 revert hF
 unfold mE
 try dsimp only
 refine ip (fun h1=>az fun x1 h2=>?_) ?_
 have g1:decide (0<=p3)=true:=(cp h2).1
 have g2:(ah hM.row p1)[(p3:Int).toNat]? =some (rGEntry x1):=cn _ h2
 refine az fun x2 h3=>?_
 have g3:C.wide 107 [.ptr 0 0,.v (.s x1.jj)] [[.own 1 (ah cE p4.fb)],cGEntry x1]=some (.tup [],[[.own 1 (ah cE x2.fb)],cGEntry x1]):=cX [0] rfl rfl rfl rfl (kl x1.jj p4 _ h3) rfl rfl
 refine az fun x3 h4=>?_
 have g4:C.wide 108 [.ptr 0 0,.agg (cGValue x1.jG)] [[.own 1 (ah cE x2.fb)],cGEntry x1]=some (.tup [],[[.own 1 (ah cE x3.fb)],cGEntry x1]):=cX [0] rfl rfl rfl rfl (yN x1.jG x2 _ h4) rfl rfl
 refine az fun x4 h5=>?_
 have g5:C.wide 105 [.ptr 0 0,.I x1.km] [[.own 1 (ah cE x3.fb)],cGEntry x1]=some (.tup [],[[.own 1 (ah cE x4.fb)],cGEntry x1]):=cX [0] rfl rfl rfl rfl (jp x1.km x3 _ h5) rfl rfl
 all_goals (rintro⟨⟩;intros;show cN _ _ _ (aH _ _ _ _ (Code.seq _ _) _)=_;simp (maxSteps:=4000000) only [*,cGEntry,rGEntry,rGMachine,qm,sv,TU,My,XN,OB,NR,Nt,↓RP,RB,RC,↓ai,Nat.reduceBEq,bP,List.map,Nat.reduceAdd,Nat.reduceLT,Nat.reduceLeDiff,jA,bne,↓ao,↓am,↓aa,aP,ty3,ty9,xq,pK,FJ])
def qe (p0:List f7) (p1:Int) (s:Int×bi):St:=⟨[(5,.ptr 0 0),(59,.v (.sl 7 (ah f7.row p0))),(60,.I p1),(61,.I s.1)],[[.own 1 (ah cE s.2.fb)]]⟩
def rQ (p0:List f7) (p1:Int) (r:bi):Option (Ex×St):=some (.normal,⟨[(5,.ptr 0 0)],[[.own 1 (ah cE r.fb)]]⟩)
theorem ze (C:aj) (jp:kG C) (kw:mw C) (kl:nX C) (uU:uX C) (p0:List f7) (p1:Int) (s:Int×bi) (o:(Int×bi)⊕bi) (hF:mH p0 p1 s=some o):evW TT C.wide n86 b86 2 (qe p0 p1 s)=Sum.elim (fun s=>evW TT C.wide n86 b86 2 (qe p0 p1 s)) (fun r=>rQ p0 p1 r) o:=by
 obtain⟨p2,p3⟩:=s
 rw [cG TT n86 VI]
 revert hF
 unfold mH
 try dsimp only
 refine ip (fun h1=>az fun x1 h2=>?_) ?_
 unfold qo
 have g1:decide (0<=p2)=true:=(cp h2).1
 have g2:(ah f7.row p0)[(p2:Int).toNat]? =some (rGClient x1):=cn _ h2
 refine az fun x2 h3=>?_
 have g3:C.wide 105 [.ptr 0 0,.I x1.fId] [[.own 1 (ah cE p3.fb)],cGClient x1]=some (.tup [],[[.own 1 (ah cE x2.fb)],cGClient x1]):=cX [0] rfl rfl rfl rfl (jp x1.fId p3 _ h3) rfl rfl
 refine az fun x3 h4=>?_
 have g4:C.wide 105 [.ptr 0 0,.I x1.jT] [[.own 1 (ah cE x2.fb)],cGClient x1]=some (.tup [],[[.own 1 (ah cE x3.fb)],cGClient x1]):=cX [0] rfl rfl rfl rfl (jp x1.jT x2 _ h4) rfl rfl
 refine az fun x4 h5=>?_
 have g5:C.wide 105 [.ptr 0 0,.I x1.i6] [[.own 1 (ah cE x3.fb)],cGClient x1]=some (.tup [],[[.own 1 (ah cE x4.fb)],cGClient x1]):=cX [0] rfl rfl rfl rfl (jp x1.i6 x3 _ h5) rfl rfl
 refine az fun x5 h6=>?_
 have g6:C.wide 106 [.ptr 0 0,.I x1.jd.ky] [[.own 1 (ah cE x4.fb)],cGClient x1]=some (.tup [],[[.own 1 (ah cE x5.fb)],cGClient x1]):=cX [0] rfl rfl rfl rfl (kw x1.jd.ky x4 _ h6) rfl rfl
 refine az fun x6 h7=>?_
 have g7:C.wide 107 [.ptr 0 0,.v (.s x1.jd.gi)] [[.own 1 (ah cE x5.fb)],cGClient x1]=some (.tup [],[[.own 1 (ah cE x6.fb)],cGClient x1]):=cX [0] rfl rfl rfl rfl (kl x1.jd.gi x5 _ h7) rfl rfl
 refine az fun x7 h8=>?_
 have g8:C.wide 105 [.ptr 0 0,.I x1.jd.fN] [[.own 1 (ah cE x6.fb)],cGClient x1]=some (.tup [],[[.own 1 (ah cE x7.fb)],cGClient x1]):=cX [0] rfl rfl rfl rfl (jp x1.jd.fN x6 _ h8) rfl rfl
 refine az fun x8 h9=>?_
 have g9:C.wide 109 [.ptr 0 0,.v (.sl 1 (ah bY x1.jd.jW))] [[.own 1 (ah cE x7.fb)],cGClient x1]=some (.tup [],[[.own 1 (ah cE x8.fb)],cGClient x1]):=cX [0] rfl rfl rfl rfl (uU x1.jd.jW x7 _ h9) rfl rfl
 all_goals (rintro⟨⟩;intros;show cN _ _ _ (aH _ _ _ _ (Code.seq _ _) _)=_;simp (maxSteps:=4000000) only [*,cGClient,rGClient,qe,rQ,TU,My,XN,OB,NR,Nt,↓RP,RB,RC,↓ai,Nat.reduceBEq,bP,List.map,Nat.reduceAdd,Nat.reduceLT,Nat.reduceLeDiff,jA,bne,↓ao,↓am,↓aa,ty3,ty9,xt,mR,rG,Cb,GB])
theorem BS (C:aj) (NJ:Kr C) (jp:kG C) (kw:mw C) (kl:nX C) (yN:zw C) (uU:uX C) (p0:cc) (r:(List Int)×Int) (hF:oe p0=some r):cR TT C.wide (evW TT C.wide n86 b86) n86 Try.f86.results.toList (aU Try.f86) [.agg (cGMachine p0)] []=some (.tup [.v (.sl 1 (ah cE r.1)),.I r.2],[]):=by
 revert hF
 unfold oe
 refine az fun x1 h1=>?_
 have g1:=bK (NJ p0 _ h1)
 refine ip (fun h2=>az fun x2 h3=>?_) ?_
 have g2:C.wide 105 [.ptr 0 0,.I p0.iA.jv] [[.own 1 []]]=some (.tup [],[[.own 1 (ah cE x2.fb)]]):=cX [0] rfl rfl rfl rfl (jp p0.iA.jv (bi.mk []) _ h3) rfl rfl
 refine az fun x3 h4=>?_
 have g3:C.wide 106 [.ptr 0 0,.I (p0.iA.im.length:Int)] [[.own 1 (ah cE x2.fb)]]=some (.tup [],[[.own 1 (ah cE x3.fb)]]):=cX [0] rfl rfl rfl rfl (kw (p0.iA.im.length:Int) x2 _ h4) rfl rfl
 refine az ?_
 rintro x4 h5
 unfold tL
 have g4:=cH _ _ (zq C kl yN jp p0 p0.iA.im (p0.iA.im.length:Int)) h5
 try simp only [qm,sv] at g4
 refine az fun x5 h6=>?_
 have g5:C.wide 105 [.ptr 0 0,.I p0.ji] [[.own 1 (ah cE x4.fb)]]=some (.tup [],[[.own 1 (ah cE x5.fb)]]):=cX [0] rfl rfl rfl rfl (jp p0.ji x4 _ h6) rfl rfl
 refine az fun x6 h7=>?_
 have g6:C.wide 106 [.ptr 0 0,.I (p0.ir.length:Int)] [[.own 1 (ah cE x5.fb)]]=some (.tup [],[[.own 1 (ah cE x6.fb)]]):=cX [0] rfl rfl rfl rfl (kw (p0.ir.length:Int) x5 _ h7) rfl rfl
 refine az ?_
 rintro x7 h8
 have g7:=cH _ _ (ze C jp kw kl uU p0.ir (p0.ir.length:Int)) h8
 try simp only [qe,rQ] at g7
 all_goals (rintro⟨⟩;intros;rw [bk];show cC _ _ _ (aH _ _ _ _ (Code.seq _ _) _)=_;simp (maxSteps:=4000000) only [*,cGMachine,rGMachine,ZO,TU,My,XN,OB,qaM,NR,Nt,↓RP,RB,RC,Nat.reduceBEq,bP,List.map,Nat.reduceAdd,jA,bne,↓ao,↓am,↓aa,ty3,pg,xq,uQ,xt,un,mR,Ri,HB])
def qba:Go.Shelf.Ren:=⟨fun x=>bif x==4 then 87 else x,fun x=>bif x==25 then 5 else x,id⟩
theorem ZB:Lays8.n4 Try.prog qba:=⟨by kernel_rfl,⟨"slices.Grow[[]byte,byte]",by kernel_rfl,by kernel_rfl⟩,by kernel_rfl,fun _=>rfl,fun _=>rfl,fun _=>rfl,by kernel_rfl,fun _=>rfl,fun _=>rfl,fun _=>rfl,by kernel_rfl,fun _=>rfl,fun _=>rfl,fun _=>rfl,by kernel_rfl,fun _=>rfl,fun _=>rfl,fun _=>rfl,by kernel_rfl,fun _=>rfl,fun _=>rfl,fun _=>rfl,by kernel_rfl,fun _=>rfl,fun _=>rfl,fun _=>rfl⟩
theorem uY {p0:Int} {r:Unit} (h:ke p0=some r):Mx.Sem Try.prog 87 [.own 0 [],.I p0] [] (.own 1 []) []:=by
 unfold ke at h
 cases hq:decide (0<=p0)&&decide (p0<=140737488355328) with
 |false=>rw [hq] at h;cases h
 |true=>
  simp only [Bool.and_eq_true,decide_eq_true_eq] at hq
  exact N6 ZB rfl rfl rfl rfl rfl rfl hq.1 hq.2
def Oi:List (Nat×List Nat):=[(0,[0]),(1,[0,3]),(2,[0,3,9,10,11]),(3,[0,3,9,10,11,12]),(4,[0,3,5,9,10,11,14]),(5,[0,3,9,10,11]),(6,[0,3,9,10,11,20]),(7,[0,3,9,10,11]),(8,[0,3,9,10,11]),(9,[0,6,24,33]),(10,[0,6,24,25,26,27,33]),(11,[0,6,24,25,26,27,28,33]),(12,[0,6,8,24,25,26,27,30,33]),(13,[0,6,24,25,26,27,33]),(14,[0,6,24,25,26,27,33]),(15,[2,6,24,33,35])]
def Ph:List (Nat×List Nat×List Nat):=[(12,[0,3,9,10,11],[0,3]),(20,[0,3,9,10,11],[0,3,9,10,11]),(28,[0,6,24,25,26,27,33],[6,24,33])]
def n61:cL where
 keep:=ax Oi
 ro:=fun _=>false
 mv:=fun t=>t==24
 give:=fun t=>t==1000000
 free:=fun _=>[]
 alive:=av Ph
theorem qal (t:Nat) (x:Bool) (e:Env) (S:bH):cK n61 t x ⟨e,S⟩=atO (av Ph t x) e S:=cF rfl t x e S
theorem XD (i:Nat):n61.keep i=ax Oi i:=rfl
theorem NI (t:Nat):n61.mv t=(t==24):=rfl
theorem qcs (t:Nat):n61.give t=(t==1000000):=rfl
theorem YV:Try.f61.results.toList= [.tmp 2]:=rfl
def b61:Code:=aU Try.f61
def qbt:Code:=(bE 0 (aU Try.f61)).getD .skip
theorem Yd:bE 0 b61=some qbt:=rfl
def qcp:Code:=(bE 2 (aU Try.f61)).getD .skip
theorem V1:bE 2 b61=some qcp:=rfl
def kD (p0:List (List Int)) (p2:Int) (s:Int×Int):St:=⟨[(0,.v (.sl 1 (ah sR p0))),(3,.I s.1),(9,.v (.sl 1 (ah sR p0))),(10,.I p2),(11,.I s.2)],[]⟩
def mf (p0:List (List Int)) (p2:Int) (r:Int):Option (Ex×St):=some (.normal,⟨[(0,.v (.sl 1 (ah sR p0))),(3,.I r)],[]⟩)
theorem tc (C:aj)  (p0:List (List Int)) (p2:Int) (s:Int×Int) (o:(Int×Int)⊕Int) (hF:jL p0 p2 s=some o):evW TT C.wide n61 b61 0 (kD p0 p2 s)=Sum.elim (fun s=>evW TT C.wide n61 b61 0 (kD p0 p2 s)) (fun r=>mf p0 p2 r) o:=by
 obtain⟨p1,p3⟩:=s
 rw [cG TT n61 Yd]
 revert hF
 unfold jL
 try dsimp only
 refine ip (fun h1=>az fun x1 h2=>?_) ?_
 have g1:decide (0<=p3)=true:=(cp h2).1
 have g2:(ah sR p0)[(p3:Int).toNat]? =some [.sl 1 (ah cE x1)]:=cn _ h2
 refine YM fun h3=>?_
 all_goals (rintro⟨⟩;intros;show cN _ _ _ (aH _ _ _ _ (Code.seq _ _) _)=_;simp (maxSteps:=4000000) only [*,kD,mf,qal,Ph,XD,Oi,NI,↓RP,RB,RC,↓ai,Nat.reduceBEq,List.map,↓ao,↓am,↓aa,ty3,pg,Gw])
def kB (p0:List (List Int)) (p2:Int) (s:(List Int)×Int):St:=⟨[(0,.v (.sl 1 (ah sR p0))),(6,.own 1 (ah cE s.1)),(24,.bad),(25,.v (.sl 1 (ah sR p0))),(26,.I p2),(27,.I s.2),(33,.bad)],[]⟩
def mi (p0:List (List Int)) (p2:Int) (r:(List Int)):Option (Ex×St):=some (.normal,⟨[(6,.own 1 (ah cE r)),(24,.bad),(33,.bad)],[]⟩)
theorem te (C:aj)  (p0:List (List Int)) (p2:Int) (s:(List Int)×Int) (o:((List Int)×Int)⊕(List Int)) (hF:jx p0 p2 s=some o):evW TT C.wide n61 b61 2 (kB p0 p2 s)=Sum.elim (fun s=>evW TT C.wide n61 b61 2 (kB p0 p2 s)) (fun r=>mi p0 p2 r) o:=by
 obtain⟨p1,p3⟩:=s
 rw [cG TT n61 V1]
 revert hF
 unfold jx
 try dsimp only
 refine ip (fun h1=>az fun x1 h2=>?_) ?_
 have g1:decide (0<=p3)=true:=(cp h2).1
 have g2:(ah sR p0)[(p3:Int).toNat]? =some [.sl 1 (ah cE x1)]:=cn _ h2
 refine mt fun h3=>?_
 all_goals (rintro⟨⟩;intros;show cN _ _ _ (aH _ _ _ _ (Code.seq _ _) _)=_;simp (maxSteps:=4000000) only [*,kB,mi,qal,Ph,XD,Oi,NI,↓RP,RB,RC,↓ai,Nat.reduceBEq,List.map,bne,↓ao,↓am,↓aa,ty3,ty5,pg,Gw])
theorem ul (C:aj) (u5:qZ C) (p0:List (List Int)) (r:(List Int)) (hF:jK p0=some r):cR TT C.wide (evW TT C.wide n61 b61) n61 Try.f61.results.toList (aU Try.f61) [.v (.sl 1 (ah sR p0))] []=some (.own 1 (ah cE r),[]):=by
 revert hF
 unfold jK
 refine az ?_
 rintro x1 h1
 unfold mM
 have g1:=cH _ _ (tc C p0 (p0.length:Int)) h1
 try simp only [kD,mf] at g1
 refine az fun _ h2=>?_
 have g2:=bK (u5 x1 _ h2)
 try simp only [ak] at g2
 refine az ?_
 rintro x2 h3
 have g3:=cH _ _ (te C p0 (p0.length:Int)) h3
 try simp only [ak,kB,mi] at g3
 all_goals (rintro⟨⟩;rw [bk];show cC _ _ _ (aH _ _ _ _ (Code.seq _ _) _)=_;simp (maxSteps:=4000000) only [*,YV,XD,Oi,NI,qcs,↓RP,RB,RC,Nat.reduceBEq,List.map,jA,↓ao,↓aa,ty3,pg,Gw])
def UB:List (Nat×List Nat):=[(0,[1]),(1,[1,8]),(2,[1,8,9]),(3,[2,21,36,55]),(4,[1,22]),(5,[1,3,28]),(6,[2,21,36,55]),(7,[1,5,42]),(8,[2,21,36,55])]
def UP:List (Nat×List Nat×List Nat):=[(9,[1],[1,8]),(22,[1],[1])]
def n60:cL where
 keep:=ax UB
 ro:=fun t=>t==1
 mv:=fun _=>false
 give:=fun _=>false
 free:=fun i=>match i with|3=>[(0,1),(0,2),(0,3),(0,5),(1,5),(2,5),(3,5),(4,5),(0,6),(1,6),(2,6),(3,6),(4,6),(0,7),(1,7),(2,7),(3,7),(4,7),(0,8),(1,8),(2,8),(3,8),(4,8),(0,9),(1,9),(2,9),(3,9),(4,9)]|8=>[(0,1),(0,2),(0,3),(0,4),(0,5),(1,5),(2,5),(3,5),(4,5),(0,6),(1,6),(2,6),(3,6),(4,6),(0,7),(1,7),(2,7),(3,7),(4,7),(0,8),(0,9),(1,9),(2,9),(3,9),(4,9),(5,9),(6,9),(7,9),(8,9)]|_=>[]
 alive:=av UP
theorem qc1 (t:Nat) (x:Bool) (e:Env) (S:bH):cK n60 t x ⟨e,S⟩=atO (av UP t x) e S:=cF rfl t x e S
theorem qdp (i:Nat):n60.keep i=ax UB i:=rfl
theorem Yu (t:Nat):n60.ro t=(t==1):=rfl
theorem YP (t:Nat):n60.mv t=(false):=rfl
theorem Yz:n60.free 3= [(0,1),(0,2),(0,3),(0,5),(1,5),(2,5),(3,5),(4,5),(0,6),(1,6),(2,6),(3,6),(4,6),(0,7),(1,7),(2,7),(3,7),(4,7),(0,8),(1,8),(2,8),(3,8),(4,8),(0,9),(1,9),(2,9),(3,9),(4,9)]:=rfl
theorem ZY:n60.free 8= [(0,1),(0,2),(0,3),(0,4),(0,5),(1,5),(2,5),(3,5),(4,5),(0,6),(1,6),(2,6),(3,6),(4,6),(0,7),(1,7),(2,7),(3,7),(4,7),(0,8),(0,9),(1,9),(2,9),(3,9),(4,9),(5,9),(6,9),(7,9),(8,9)]:=rfl
theorem qbr:Try.f60.results.toList= [.tmp 2]:=rfl
def b60:Code:=aU Try.f60
theorem zY (C:aj) (nP:pJ C) (ye:rg C) (B0:uM C) (mX:lA C) (p0:iu) (r:(List Int)) (hF:lI p0=some r): ∃d S,cR TT C.wide (evW TT C.wide n60 b60) n60 Try.f60.results.toList (aU Try.f60) [.agg (cGRecord p0)] []=some (d,S)/\bD d=true/\(frz d,S)=(.v (.sl 1 (ah cE r)),[]):=by
 revert hF
 unfold lI
 refine aX (fun h1=>?_) (fun h1=>?_)
 focus
  refine az fun x1 h2=>?_
  have g1:=bK (nP p0.iO _ h2)
  refine mt fun h3=>mt fun h4=>?_
  intro hF
  have hR:=Option.some.inj hF
  clear hF
  subst hR
  refine⟨.own 1 (ah cE ((1::x1)++ [(IntKind.u8.wrap (IntKind.i64.wrap (p0.qu+1)))])),[],?_,rfl,by first|rfl|(simp only [*];done)|(simp only [*];rfl)⟩
 rotate_left 1
 unfold pQ
 refine bF (fun h2=>?_) (fun h2=>?_)
 focus
  refine az ?_
  rintro⟨x1,x2⟩ h3
  dsimp only
  have g2:=bK (B0 p0.iS.iC _ h3)
  try simp only [] at g2
  refine az fun x3 h4=>?_
  have g3:=bK (nP p0.iS.jg _ h4)
  refine az fun x4 h5=>?_
  have g4:=bK (nP p0.iS.iO _ h5)
  refine az fun x5 h6=>?_
  have g5:=bK (mX [[3],x3,x4,x1] _ h6)
  intro hF
  have hR:=Option.some.inj hF
  clear hF
  subst hR
  refine⟨.own 1 (ah cE x5),[],?_,rfl,by first|rfl|(simp only [*];done)|(simp only [*];rfl)⟩
 rotate_left 1
 unfold rX
 refine az ?_
 rintro⟨x1,x2⟩ h3
 dsimp only
 have g6:=bK (ye p0.iN _ h3)
 try simp only [] at g6
 refine az fun x3 h4=>?_
 have g7:=bK (nP p0.jg _ h4)
 refine mt fun h5=>mt fun h6=>?_
 intro hF
 have hR:=Option.some.inj hF
 clear hF
 subst hR
 refine⟨.own 1 (ah cE ((2::x3)++x1)),[],?_,rfl,by first|rfl|(simp only [*];done)|(simp only [*];rfl)⟩
 all_goals (rw [bk];show cC _ _ _ (aH _ _ _ _ (Code.seq _ _) _)=_;simp (maxSteps:=4000000) only [*,cGRecord,qbr,qc1,UP,qdp,UB,Yz,ZY,Yu,YP,↓RP,RB,RC,↓ai,Nat.reduceBEq,bP,List.map,Nat.reduceAdd,Nat.reduceMul,Nat.reduceLeDiff,jA,bne,CS,Bn,↓ao,↓am,↓aa,↓aq,ty3,ty4,ty5,pg,un,mR,z1,yk,A6,Gw])
def TA:List (Nat×List Nat):=[(0,[2,3,4]),(1,[3,4,6,7]),(2,[3,4,6,16]),(3,[4,5]),(4,[3,4,6,8]),(5,[3,4,6,8,21]),(6,[4,5]),(7,[4,6,9,25]),(8,[4,6,9,25,33]),(9,[4,5]),(10,[4,6]),(11,[4,5])]
def T3:List (Nat×List Nat×List Nat):=[(16,[4],[3,4,6]),(21,[4,8],[3,4,6]),(33,[4],[4,6,9,25])]
def n20:cL where
 keep:=ax TA
 ro:=fun t=>t==2||t==3
 mv:=fun t=>t==44
 give:=fun _=>false
 free:=fun i=>match i with|10=>[(0,2),(1,2),(0,3),(1,3),(0,4),(1,4),(0,5),(1,5),(2,5),(3,5),(4,5)]|_=>[]
 alive:=av T3
theorem qdE (t:Nat) (x:Bool) (e:Env) (S:bH):cK n20 t x ⟨e,S⟩=atO (av T3 t x) e S:=cF rfl t x e S
theorem qc6 (i:Nat):n20.keep i=ax TA i:=rfl
theorem Z6 (t:Nat):n20.ro t=(t==2||t==3):=rfl
theorem qa8 (t:Nat):n20.mv t=(t==44):=rfl
theorem Zr (t:Nat):n20.give t=(false):=rfl
theorem UD:n20.free 10= [(0,2),(1,2),(0,3),(1,3),(0,4),(1,4),(0,5),(1,5),(2,5),(3,5),(4,5)]:=rfl
theorem qaR:Try.f20.results.toList= [.cell 4 58,.tmp 5]:=rfl
def b20:Code:=aU Try.f20
theorem B2 (C:aj) (HT:wD C) (E8:vK C) (Ae:v6 C) (nP:pJ C) (mX:lA C) (p0:iK) (p1:iu) (r:iK×Int) (hF:pO p0 p1=some r):cR TT C.wide (evW TT C.wide n20 b20) n20 Try.f20.results.toList (aU Try.f20) [.agg (cGTape p0),.agg (cGRecord p1)] []=some (.tup [.agg (cGTape r.1),.I r.2],[]):=by
 revert hF
 unfold pO
 refine az ?_
 rintro⟨x1,x2⟩ h1
 dsimp only
 unfold tZ
 have g1:=bK (HT p0 _ h1)
 try simp only [] at g1
 refine ip (fun h2=>az fun x3 h3=>?_) ?_
 have g2:=bK (E8 p1 _ h3)
 refine ip (fun h4=>az fun x4 h5=>?_) ?_
 have g3:=bK (Ae p1 _ h5)
 refine iq (fun h6=>az fun x5 h7=>?_) ?_
 have g4:=bK (nP (x4.length:Int) _ h7)
 refine az fun x6 h8=>?_
 have g5:=bK (mX [x1.j9,x5,x4] _ h8)
 all_goals (rintro⟨⟩;intros;rw [bk];show cC _ _ _ (aH _ _ _ _ (Code.seq _ _) _)=_;simp (maxSteps:=4000000) only [*,cGRecord,cGTape,qaR,qdE,T3,qc6,TA,UD,Z6,qa8,Zr,↓RP,RB,RC,Nat.reduceBEq,bP,List.map,Nat.reduceAdd,Nat.reduceMul,Nat.reduceSub,Nat.reduceLeDiff,jA,bne,CS,Bn,↓ao,↓am,↓aa,↓aq,ty3,ty4,pg,mR,A6,E4,Gw])
def U3:List (Nat×List Nat):=[(0,[0,1,2]),(1,[6])]
def n48:cL where
 keep:=ax U3
 ro:=fun _=>false
 mv:=fun _=>false
 give:=fun _=>false
 free:=fun _=>[]
theorem qdm (i:Nat):n48.keep i=ax U3 i:=rfl
theorem qbP:Try.f48.results.toList= [.tmp 6]:=rfl
def b48:Code:=aU Try.f48
theorem Yj (C:aj)  (p0:Int) (p1:Int) (p2:Int) (r:Bool) (hF:Kw p0 p1 p2=some r):cR TT C.wide (evW TT C.wide n48 b48) n48 Try.f48.results.toList (aU Try.f48) [.I p0,.I p1,.I p2] []=some (.v (.b r),[]):=by
 revert hF
 unfold Kw
 refine iq (fun h1=>?_) ?_
 all_goals (rintro⟨⟩;intros;rw [bk];show cC _ _ _ (aH _ _ _ _ (Code.seq _ _) _)=_;simp (maxSteps:=4000000) only [*,qbP,qdm,U3,↓RP,RB,RC,Nat.reduceBEq,List.map,Nat.reduceAdd,↓ao,↓aa,ty3,ty4])
def Tj:List (Nat×List Nat):=[(0,[1]),(1,[2])]
def n63:cL where
 keep:=ax Tj
 ro:=fun t=>t==1
 mv:=fun _=>false
 give:=fun _=>false
 free:=fun _=>[]
theorem qdO (i:Nat):n63.keep i=ax Tj i:=rfl
theorem Zh (t:Nat):n63.ro t=(t==1):=rfl
theorem Y1 (t:Nat):n63.mv t=(false):=rfl
theorem qaS:Try.f63.results.toList= [.tmp 2]:=rfl
def b63:Code:=aU Try.f63
theorem Ha (C:aj) (jD:kS C) (p0:iK) (r:Bool) (hF:tI p0=some r):cR TT C.wide (evW TT C.wide n63 b63) n63 Try.f63.results.toList (aU Try.f63) [.agg (cGTape p0)] []=some (.v (.b r),[]):=by
 revert hF
 unfold tI
 refine aX (fun h1=>?_) (fun h1=>?_)
 focus
  have g1:=bK (jD p0.kg 0 (p0.j9.length:Int) _ (nQ p0.kg 0 (p0.j9.length:Int)))
  have g2:i9 p0.kg 0 (p0.j9.length:Int)=(decide (0<=p0.kg)&&decide (p0.kg<=(p0.j9.length:Int))):=by first|rfl|(simp [i9];done)|(simp only [i9];decide)
 rotate_left 1
 all_goals (rintro⟨⟩;rw [bk];show cC _ _ _ (aH _ _ _ _ (Code.seq _ _) _)=_;simp (maxSteps:=4000000) only [*,cGTape,qaS,qdO,Tj,Zh,Y1,↓RP,RB,RC,Nat.reduceBEq,bP,List.map,jA,↓ao,↓aa,ty3,ty4,pg,E4])
def Px:List (Nat×List Nat):=[(0,[1]),(1,[2])]
def n49:cL where
 keep:=ax Px
 ro:=fun t=>t==1
 mv:=fun _=>false
 give:=fun _=>false
 free:=fun _=>[]
theorem ZT (i:Nat):n49.keep i=ax Px i:=rfl
theorem qaf (t:Nat):n49.ro t=(t==1):=rfl
theorem qbp (t:Nat):n49.mv t=(false):=rfl
theorem qcu:Try.f49.results.toList= [.tmp 2]:=rfl
def b49:Code:=aU Try.f49
theorem yh (C:aj)  (p0:jr) (c:Code) (ho:cD 0 1 b49=some c) (r:Bool) (hF:lm p0=r): @cV TT C.wide (evW TT C.wide n49 b49) n49 0 1 ⟨[(1,.rp (rGSnap p0))],[]⟩ ⟨c⟩=some (.normal,⟨[(2,.v (.b r))],[]⟩):=by
 have e:=Option.some.inj (ho.symm.trans (rfl:cD 0 1 b49=some _))
 subst e
 clear ho
 show aH _ _ _ _ _ _=_
 revert hF
 unfold lm
 refine ip (fun h1=>ip (fun h2=>ip (fun h3=>ip (fun h4=>iq (fun h5=>?_) ?_) ?_) ?_) ?_) ?_
 all_goals (rintro rfl;intros;simp (maxSteps:=4000000) only [*,rGSnap,ZT,Px,qbp,↓RP,RB,RC,Nat.reduceBEq,List.map,ty3,ty4,xq,uQ,xt,un,yk,↓aa _ _ _ _ 1])
theorem Cy (C:aj)  (p0:jr) (r:Bool) (hF:qV p0=some r):cR TT C.wide (evW TT C.wide n49 b49) n49 Try.f49.results.toList (aU Try.f49) [.agg (cGSnap p0)] []=some (.v (.b r),[]):=by
 revert hF
 unfold qV
 have g1:=yh C p0 _ rfl (lm p0) rfl
 all_goals (rintro⟨⟩;rw [bk];show cC _ _ _ (aH _ _ _ _ (Code.seq _ _) _)=_;simp (maxSteps:=4000000) only [*,cGSnap,qcu,ZT,Px,qaf,↓RP,RB,RC,Nat.reduceBEq,bP,List.map,↓ao,ty4,yk,↓aa _ _ _ _ 0,↓bg _ _ _ _ 1])
def U2:List (Nat×List Nat):=[(0,[0]),(1,[2])]
def n51:cL where
 keep:=ax U2
 ro:=fun _=>false
 mv:=fun _=>false
 give:=fun _=>false
 free:=fun _=>[]
theorem qdf (i:Nat):n51.keep i=ax U2 i:=rfl
theorem Y3 (t:Nat):n51.mv t=(false):=rfl
theorem YK:Try.f51.results.toList= [.tmp 2]:=rfl
def b51:Code:=aU Try.f51
theorem B5 (C:aj) (jD:kS C) (p0:Int) (r:Bool) (hF:qU p0=some r):cR TT C.wide (evW TT C.wide n51 b51) n51 Try.f51.results.toList (aU Try.f51) [.I p0] []=some (.v (.b r),[]):=by
 revert hF
 unfold qU
 have g1:=bK (jD p0 1 1048576 _ (nQ p0 1 1048576))
 have g2:i9 p0 1 1048576=(decide (1<=p0)&&decide (p0<=1048576)):=by first|rfl|(simp [i9];done)|(simp only [i9];decide)
 all_goals (rintro⟨⟩;rw [bk];show cC _ _ _ (aH _ _ _ _ (Code.seq _ _) _)=_;simp (maxSteps:=4000000) only [*,YK,qdf,U2,Y3,↓RP,RB,RC,Nat.reduceBEq,List.map,jA,↓ao,↓aa,ty4])
def W4:List (Nat×List Nat):=[(0,[0]),(1,[2])]
def n93:cL where
 keep:=ax W4
 ro:=fun _=>false
 mv:=fun _=>false
 give:=fun _=>false
 free:=fun _=>[]
theorem qcF (i:Nat):n93.keep i=ax W4 i:=rfl
theorem qce (t:Nat):n93.mv t=(false):=rfl
theorem YZ:Try.f93.results.toList= [.tmp 2]:=rfl
def b93:Code:=aU Try.f93
theorem FX (C:aj) (jD:kS C) (p0:ByteArray) (r:Bool) (hF:rK p0=some r):cR TT C.wide (evW TT C.wide n93 b93) n93 Try.f93.results.toList (aU Try.f93) [.v (.s p0)] []=some (.v (.b r),[]):=by
 revert hF
 unfold rK
 have g1:=bK (jD (p0.size:Int) 1 12 _ (nQ (p0.size:Int) 1 12))
 have g2:i9 (p0.size:Int) 1 12=(decide (1<=(p0.size:Int))&&decide ((p0.size:Int)<=12)):=by first|rfl|(simp [i9];done)|(simp only [i9];decide)
 all_goals (rintro⟨⟩;rw [bk];show cC _ _ _ (aH _ _ _ _ (Code.seq _ _) _)=_;simp (maxSteps:=4000000) only [*,YZ,qcF,W4,qce,↓RP,RB,RC,Nat.reduceBEq,List.map,jA,↓ao,↓aa,ty4,ty9])
def NF:List (Nat×List Nat):=[(0,[1]),(1,[2])]
def LK:cL where
 keep:=ax NF
 ro:=fun t=>t==1
 mv:=fun _=>false
 give:=fun _=>false
 free:=fun _=>[]
theorem ZM (i:Nat):LK.keep i=ax NF i:=rfl
theorem Us (t:Nat):LK.ro t=(t==1):=rfl
theorem UW (t:Nat):LK.mv t=(false):=rfl
theorem XY:Try.f132.results.toList= [.tmp 2]:=rfl
def qdJ:Code:=aU Try.f132
theorem IY (C:aj)  (p0:ad) (r:Int) (hF:wz p0=some r):cR TT C.wide (evW TT C.wide LK qdJ) LK Try.f132.results.toList (aU Try.f132) [.agg (cGValue p0)] []=some (.I r,[]):=by
 revert hF
 unfold wz
 refine vL ?_
 unfold mK
 all_goals (rintro rfl;rw [bk];show cC _ _ _ (aH _ _ _ _ (Code.seq _ _) _)=_;simp (maxSteps:=4000000) only [*,cGValue,XY,ZM,NF,Us,UW,↓RP,RB,RC,Nat.reduceBEq,bP,List.map,↓ao,↓aa,ty3,wb,rG,sY,pK])
def U0:List (Nat×List Nat):=[(0,[0]),(1,[2])]
def n95:cL where
 keep:=ax U0
 ro:=fun _=>false
 mv:=fun _=>false
 give:=fun _=>false
 free:=fun _=>[]
theorem qc9 (i:Nat):n95.keep i=ax U0 i:=rfl
theorem qcx:Try.f95.results.toList= [.tmp 2]:=rfl
def b95:Code:=aU Try.f95
theorem Hf (C:aj)  (p0:ByteArray) (r:Bool) (hF:tG p0=some r):cR TT C.wide (evW TT C.wide n95 b95) n95 Try.f95.results.toList (aU Try.f95) [.v (.s p0)] []=some (.v (.b r),[]):=by
 revert hF
 unfold tG
 all_goals (rintro⟨⟩;rw [bk];show cC _ _ _ (aH _ _ _ _ (Code.seq _ _) _)=_;simp (maxSteps:=4000000) only [*,qcx,qc9,U0,↓RP,RB,RC,Nat.reduceBEq,List.map,↓ao,↓aa,ty3,ty4,ty9])
def UG:List (Nat×List Nat):=[(0,[0]),(1,[2])]
def n96:cL where
 keep:=ax UG
 ro:=fun _=>false
 mv:=fun _=>false
 give:=fun _=>false
 free:=fun _=>[]
theorem qd6 (i:Nat):n96.keep i=ax UG i:=rfl
theorem ZD (t:Nat):n96.mv t=(false):=rfl
theorem qbe:Try.f96.results.toList= [.tmp 2]:=rfl
def b96:Code:=aU Try.f96
theorem FP (C:aj) (jD:kS C) (p0:Int) (r:Bool) (hF:sh p0=some r):cR TT C.wide (evW TT C.wide n96 b96) n96 Try.f96.results.toList (aU Try.f96) [.I p0] []=some (.v (.b r),[]):=by
 revert hF
 unfold sh
 have g1:=bK (jD p0 (-1099511627776) 1099511627776 _ (nQ p0 (-1099511627776) 1099511627776))
 have g2:i9 p0 (-1099511627776) 1099511627776=(decide ((-1099511627776)<=p0)&&decide (p0<=1099511627776)):=by first|rfl|(simp [i9];done)|(simp only [i9];decide)
 all_goals (rintro⟨⟩;rw [bk];show cC _ _ _ (aH _ _ _ _ (Code.seq _ _) _)=_;simp (maxSteps:=4000000) only [*,qbe,qd6,UG,ZD,↓RP,RB,RC,Nat.reduceBEq,List.map,Int.reduceNeg,jA,↓ao,↓aa,ty4])
def Ml:List (Nat×List Nat):=[(0,[2,3]),(1,[2,3,9]),(2,[4]),(3,[4])]
def L6:List (Nat×List Nat×List Nat):=[(9,[2,3],[2,3])]
def Jp:cL where
 keep:=ax Ml
 ro:=fun t=>t==2||t==3
 mv:=fun _=>false
 give:=fun _=>false
 free:=fun _=>[]
 alive:=av L6
theorem YB (t:Nat) (x:Bool) (e:Env) (S:bH):cK Jp t x ⟨e,S⟩=atO (av L6 t x) e S:=cF rfl t x e S
theorem qbu (i:Nat):Jp.keep i=ax Ml i:=rfl
theorem SE (t:Nat):Jp.ro t=(t==2||t==3):=rfl
theorem SF (t:Nat):Jp.mv t=(false):=rfl
theorem W5:Try.f133.results.toList= [.tmp 4]:=rfl
def qcK:Code:=aU Try.f133
theorem Bp (C:aj)  (p0:ae) (p1:ae) (r:Bool) (hF:qf p0 p1=some r):cR TT C.wide (evW TT C.wide Jp qcK) Jp Try.f133.results.toList (aU Try.f133) [.agg (cGScore p0),.agg (cGScore p1)] []=some (.v (.b r),[]):=by
 revert hF
 unfold qf
 refine iq (fun h1=>?_) ?_
 all_goals (rintro⟨⟩;intros;rw [bk];show cC _ _ _ (aH _ _ _ _ (Code.seq _ _) _)=_;simp (maxSteps:=4000000) only [*,cGScore,W5,YB,L6,qbu,Ml,SE,SF,↓RP,RB,RC,Nat.reduceBEq,bP,List.map,Nat.reduceAdd,bne,↓ao,↓am,↓aa,ty3,ty4,ty9,sQ])
def Ko:List (Nat×List Nat):=[(0,[0,1]),(1,[0,1,5]),(2,[0,1,5,9]),(3,[0,1,5]),(4,[0,1,5,18]),(5,[4]),(6,[4])]
def No:List (Nat×List Nat×List Nat):=[(9,[0,1,5],[]),(18,[5],[0,1,5])]
def FO:cL where
 keep:=ax Ko
 ro:=fun _=>false
 mv:=fun _=>false
 give:=fun _=>false
 free:=fun _=>[]
 alive:=av No
theorem qbq (t:Nat) (x:Bool) (e:Env) (S:bH):cK FO t x ⟨e,S⟩=atO (av No t x) e S:=cF rfl t x e S
theorem Rv (i:Nat):FO.keep i=ax Ko i:=rfl
theorem TG (t:Nat):FO.mv t=(false):=rfl
theorem UA:Try.f134.results.toList= [.tmp 4]:=rfl
def Pr:Code:=aU Try.f134
def V3:Code:=(bE 0 (aU Try.f134)).getD .skip
theorem OV:bE 0 Pr=some V3:=rfl
def oN (p0:List ae) (p1:ByteArray) (s:Int):St:=⟨[(0,.v (.sl 2 (ah ae.row p0))),(1,.v (.s p1)),(5,.I s)],[]⟩
def qI (p0:List ae) (p1:ByteArray) (r:Int⊕Unit):Option (Ex×St):=match r with
 | .inl r=>some (.ret,⟨[(4,.I r)],[]⟩)
 | .inr r=>some (.normal,⟨[],[]⟩)
theorem v7 (C:aj)  (p0:List ae) (p1:ByteArray) (p2:Int) (o:Int⊕(Int⊕Unit)) (hF:na p0 p1 p2=some o):evW TT C.wide FO Pr 0 (oN p0 p1 p2)=Sum.elim (fun s=>evW TT C.wide FO Pr 0 (oN p0 p1 s)) (fun r=>qI p0 p1 r) o:=by
 rw [cG TT FO OV]
 revert hF
 unfold na
 try dsimp only
 refine ip (fun h1=>az fun x1 h2=>?_) ?_
 have g1:decide (0<=p2)=true:=(cp h2).1
 have g2:(ah ae.row p0)[(p2:Int).toNat]? =some (rGScore x1):=cn _ h2
 refine iq (fun h3=>?_) ?_
 all_goals (rintro⟨⟩;intros;show cN _ _ _ (aH _ _ _ _ (Code.seq _ _) _)=_;simp (maxSteps:=4000000) only [*,rGScore,oN,qI,qbq,No,Rv,Ko,TG,↓RP,RB,RC,↓ai,Nat.reduceBEq,List.map,↓ao,↓am,↓aa,ty3,ty9,sY,sQ])
theorem Gg (C:aj)  (p0:List ae) (p1:ByteArray) (r:Int) (hF:qS p0 p1=some r):cR TT C.wide (evW TT C.wide FO Pr) FO Try.f134.results.toList (aU Try.f134) [.v (.sl 2 (ah ae.row p0)),.v (.s p1)] []=some (.I r,[]):=by
 revert hF
 unfold qS
 refine az ?_
 rintro (x1|_) h1
 focus
  dsimp only
  have g1:=cH _ _ (v7 C p0 p1) h1
  try simp only [oN,qI] at g1
 rotate_left 1
 dsimp only
 have g2:=cH _ _ (v7 C p0 p1) h1
 try simp only [oN,qI] at g2
 all_goals (rintro⟨⟩;rw [bk];show cC _ _ _ (aH _ _ _ _ (Code.seq _ _) _)=_;simp (maxSteps:=4000000) only [*,UA,Rv,Ko,↓RP,RB,RC,Nat.reduceBEq,List.map,Nat.reduceAdd,Int.reduceNeg,↓ao,↓aa,ty3])
end Go.Proofs.Ytgcglmoogaldbaa
