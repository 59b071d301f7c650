/- The code of these functions, run by the machine Mx, gives what the plain functions say, if their callees do (part 2). -/
import Derived.Test.YtgcglmoogaldbaaGreatWTy
import Derived.Test.YtgcglmoogaldbaaGreatTapeFoldsD
import Derived.Test.YtgcglmoogaldbaaGreatTapeFoldsZa
set_option linter.unusedSimpArgs false
set_option linter.unusedVariables false
set_option linter.constructorNameAsVariable false
set_option linter.unnecessarySimpa false
set_option maxRecDepth 100000
set_option maxHeartbeats 40000000
noncomputable section
namespace Go.Proofs.YtgcglmoogaldbaaGreat
open Go Go.Mx Go.Proofs
def zq:List (Nat×List Nat):=[(0,[1]),(1,[1,14]),(2,[2]),(3,[1,3]),(4,[1,3,17]),(5,[1,3]),(6,[1,3,17,19]),(7,[1,3]),(8,[1,3,17,22]),(9,[1,3]),(10,[1,3,17,25]),(11,[1,3]),(12,[1,3,28]),(13,[1,3]),(14,[1,43]),(15,[2]),(16,[1,56]),(17,[2]),(18,[1,65]),(19,[2]),(20,[1,68]),(21,[2]),(22,[1,71]),(23,[2]),(24,[1,80]),(25,[2]),(26,[1,4]),(27,[1,4,100,101,102]),(28,[1,4,100,101,102,103]),(29,[1,4,5,6,100,101,102]),(30,[1,4,100,101,102]),(31,[1,4,100,101,102]),(32,[120]),(33,[2]),(34,[2])]
def C6:List (Nat×List Nat×List Nat):=[(14,[],[1]),(19,[1,3],[1,3,17]),(22,[1,3],[1,3,17]),(25,[1,3],[1,3,17]),(28,[1,3],[1,3]),(43,[],[1]),(56,[],[1]),(65,[],[1]),(68,[],[1]),(71,[],[1]),(80,[],[1]),(103,[1,4,100,101,102],[4]),(120,[],[])]
def vc:cL where
 keep:=ax zq
 ro:=fun t=>t==1
 mv:=fun _=>false
 give:=fun t=>t==18||t==27||t==30
 free:=fun i=>match i with|30=>[(2,4),(3,4),(2,6),(3,6),(4,6),(5,6),(2,7),(3,7),(4,7),(5,7)]|_=>[]
 alive:=av C6
theorem Ik (t:Nat) (x:Bool) (e:Env) (S:bH):cK vc t x ⟨e,S⟩=atO (av C6 t x) e S:=cF rfl t x e S
theorem Bd (i:Nat):vc.keep i=ax zq i:=rfl
theorem ZH (t:Nat):vc.ro t=(t==1):=rfl
theorem Fp (t:Nat):vc.mv t=(false):=rfl
theorem Cx (t:Nat):vc.give t=(t==18||t==27||t==30):=rfl
theorem Xr:vc.free 30= [(2,4),(3,4),(2,6),(3,6),(4,6),(5,6),(2,7),(3,7),(4,7),(5,7)]:=rfl
theorem Zz:Tryz.f109.results.toList= [.tmp 2]:=rfl
def vk:Code:=aU Tryz.f109
def qez:Code:=(bE 1 (aU Tryz.f109)).getD .skip
theorem VW:bE 1 vk=some qez:=rfl
theorem ON (C:aj)  (p0:ae) (p1:Bool) (c:Code) (ho:cD 1 28 vk=some c) (r:ae) (hF:tM p0 p1=r): @cV TT C.wide (evW TT C.wide vc vk) vc 1 28 ⟨[(1,.rp (rGValue p0)),(3,.ptr 0 0),(28,.v (.b p1))],[cGValue p0]⟩ ⟨c⟩=some (.normal,⟨[(1,.rp (rGValue p0)),(3,.ptr 0 0)],[cGValue r]⟩):=by
 have e:=Option.some.inj (ho.symm.trans (rfl:cD 1 28 vk=some _))
 subst e
 clear ho
 show aH _ _ _ _ _ _=_
 revert hF
 unfold tM
 refine iv (fun h1=>?_) ?_
 all_goals (rintro rfl;intros;simp (maxSteps:=4000000) only [*,cGValue,rGValue,Ik,C6,Bd,zq,Cx,↓RP,RB,RC,Nat.reduceBEq,List.map,Nat.reduceAdd,Nat.reduceLeDiff,↓am,mJ,oN,kU,↓aa _ _ _ _ 13,↓aa _ _ _ _ 5])
theorem Oy (C:aj)  (p0:ae) (p1:Int) (p2:Bool) (c:Code) (ho:cD 1 25 vk=some c) (r:ae) (hF:tG p0 p1 p2=r): @cV TT C.wide (evW TT C.wide vc vk) vc 1 25 ⟨[(1,.rp (rGValue p0)),(3,.ptr 0 0),(17,.I p1),(25,.v (.b p2))],[cGValue p0]⟩ ⟨c⟩=some (.normal,⟨[(1,.rp (rGValue p0)),(3,.ptr 0 0)],[cGValue r]⟩):=by
 have e:=Option.some.inj (ho.symm.trans (rfl:cD 1 25 vk=some _))
 subst e
 clear ho
 show aH _ _ _ _ _ _=_
 revert hF
 unfold tG
 refine iv (fun h1=>?_) ?_
 have g1:=ON C p0 (p1==6) _ rfl (tM p0 (p1==6)) rfl
 all_goals (rintro rfl;intros;simp (maxSteps:=4000000) only [*,cGValue,rGValue,Ik,C6,Bd,zq,Cx,↓RP,RB,RC,Nat.reduceBEq,List.map,Nat.reduceAdd,Nat.reduceLeDiff,↓ao,ty3,ty4,ti,kU,↓am _ _ _ _ 25,↓aa _ _ _ _ 11,↓aa _ _ _ _ 12,↓da _ _ _ _ 28])
theorem NY (C:aj)  (p0:ae) (p1:Int) (p2:Bool) (c:Code) (ho:cD 1 22 vk=some c) (r:ae) (hF:tz p0 p1 p2=r): @cV TT C.wide (evW TT C.wide vc vk) vc 1 22 ⟨[(1,.rp (rGValue p0)),(3,.ptr 0 0),(17,.I p1),(22,.v (.b p2))],[cGValue p0]⟩ ⟨c⟩=some (.normal,⟨[(1,.rp (rGValue p0)),(3,.ptr 0 0)],[cGValue r]⟩):=by
 have e:=Option.some.inj (ho.symm.trans (rfl:cD 1 22 vk=some _))
 subst e
 clear ho
 show aH _ _ _ _ _ _=_
 revert hF
 unfold tz
 refine iv (fun h1=>?_) ?_
 have g1:=Oy C p0 p1 (p1==3) _ rfl (tG p0 p1 (p1==3)) rfl
 all_goals (rintro rfl;intros;simp (maxSteps:=4000000) only [*,cGValue,rGValue,Ik,C6,Bd,zq,Cx,↓RP,RB,RC,Nat.reduceBEq,List.map,Nat.reduceAdd,Nat.reduceLeDiff,↓ao,ty3,ty4,kU,↓am _ _ _ _ 22,↓aa _ _ _ _ 9,↓aa _ _ _ _ 10,↓da _ _ _ _ 25])
theorem Pa (C:aj)  (p0:ae) (p1:Int) (p2:Bool) (c:Code) (ho:cD 1 19 vk=some c) (r:ae) (hF:jC p0 p1 p2=r): @cV TT C.wide (evW TT C.wide vc vk) vc 1 19 ⟨[(1,.rp (rGValue p0)),(3,.ptr 0 0),(17,.I p1),(19,.v (.b p2))],[cGValue p0]⟩ ⟨c⟩=some (.normal,⟨[(1,.rp (rGValue p0)),(3,.ptr 0 0)],[cGValue r]⟩):=by
 have e:=Option.some.inj (ho.symm.trans (rfl:cD 1 19 vk=some _))
 subst e
 clear ho
 show aH _ _ _ _ _ _=_
 revert hF
 unfold jC
 refine iv (fun h1=>?_) ?_
 have g1:=NY C p0 p1 (p1==2) _ rfl (tz p0 p1 (p1==2)) rfl
 all_goals (rintro rfl;intros;simp (maxSteps:=4000000) only [*,cGValue,rGValue,Ik,C6,Bd,zq,Cx,↓RP,RB,RC,Nat.reduceBEq,List.map,Nat.reduceAdd,Nat.reduceLeDiff,↓ao,ty3,ty4,ty9,kU,↓am _ _ _ _ 19,↓aa _ _ _ _ 7,↓aa _ _ _ _ 8,↓da _ _ _ _ 22])
theorem Oa (C:aj) (mU:pk C) (p0:ae) (p1:ae) (c:Code) (ho:cD 0 14 vk=some c) (r:Bool) (hF:rm p0 p1=r): @cV TT C.wide (evW TT C.wide vc vk) vc 0 14 ⟨[(1,.rp (rGValue p0)),(3,.ptr 0 0)],[cGValue p1]⟩ ⟨c⟩=some (.normal,⟨[(1,.rp (rGValue p0)),(43,.v (.b r))],[cGValue p1]⟩):=by
 have e:=Option.some.inj (ho.symm.trans (rfl:cD 0 14 vk=some _))
 subst e
 clear ho
 show aH _ _ _ _ _ _=_
 revert hF
 unfold rm
 refine ip (fun h1=>aX (fun h2=>?_) (fun h2=>?_)) ?_
 focus
  have g1:=bK (mU p1 _ (xz p1))
 rotate_left 1
 all_goals (rintro rfl;intros;simp (maxSteps:=4000000) only [*,cGValue,rGValue,Bd,zq,Fp,↓RP,RB,RC,Nat.reduceBEq,List.map,Nat.reduceAdd,bne,aP,ty3,ty9,kU,↓aa _ _ _ _ 14])
theorem Oc (C:aj) (mU:pk C) (p0:ae) (p1:ae) (c:Code) (ho:cD 0 16 vk=some c) (r:Bool) (hF:px p0 p1=r): @cV TT C.wide (evW TT C.wide vc vk) vc 0 16 ⟨[(1,.rp (rGValue p0))],[cGValue p1]⟩ ⟨c⟩=some (.normal,⟨[(1,.rp (rGValue p0)),(56,.v (.b r))],[cGValue p1]⟩):=by
 have e:=Option.some.inj (ho.symm.trans (rfl:cD 0 16 vk=some _))
 subst e
 clear ho
 show aH _ _ _ _ _ _=_
 revert hF
 unfold px
 refine ip (fun h1=>?_) ?_
 have g1:=bK (mU p0 _ (xz p0))
 refine iv (fun h2=>?_) ?_
 all_goals (rintro rfl;intros;simp (maxSteps:=4000000) only [*,cGValue,rGValue,Bd,zq,Fp,↓RP,RB,RC,Nat.reduceBEq,List.map,Nat.reduceAdd,ty3,kU,↓aa _ _ _ _ 16])
theorem N4 (C:aj) (kT:jY C) (kC:jS C) (kn:jL C) (p0:ae) (p1:ae) (c:Code) (ho:cD 0 26 vk=some c) (r:Bool) (hF:yu p0 p1=some r): @cV TT C.wide (evW TT C.wide vc vk) vc 0 26 ⟨[(1,.rp (rGValue p0))],[cGValue p1]⟩ ⟨c⟩=some (.normal,⟨[(1,.rp (rGValue p0)),(4,.v (.b r))],[cGValue p1]⟩):=by
 have e:=Option.some.inj (ho.symm.trans (rfl:cD 0 26 vk=some _))
 subst e
 clear ho
 show aH _ _ _ _ _ _=_
 revert hF
 unfold yu
 refine az fun x1 h1=>?_
 have g1:=bK (kT p0.iz _ h1)
 refine ip (fun h2=>az fun x2 h3=>?_) ?_
 have g2:=bK (kC p0.f9 _ h3)
 refine ip (fun h4=>ip (fun h5=>az fun x3 h6=>?_) ?_) ?_
 have g3:=bK (kn p0.af _ h6)
 all_goals (rintro⟨⟩;intros;simp (maxSteps:=4000000) only [*,cGValue,rGValue,Bd,zq,Fp,↓RP,RB,RC,Nat.reduceBEq,List.map,bne,ty3,ty4,ti,mJ,oN,kU,↓aa _ _ _ _ 26])
def BH (p0:ae) (p2:List f5) (p3:Int) (p5:ae) (s:Bool×Int):St:=⟨[(1,.rp (rGValue p0)),(4,.v (.b s.1)),(100,.v (.sl 2 (ah f5.row p2))),(101,.I p3),(102,.I s.2)],[cGValue p5]⟩
def En (p0:ae) (p2:List f5) (p3:Int) (p5:ae) (r:Bool):Option (Ex×St):=some (.normal,⟨[(4,.v (.b r))],[cGValue p5]⟩)
theorem Ub (C:aj) (yq:yA C) (p0:ae) (p2:List f5) (p3:Int) (p5:ae) (s:Bool×Int) (o:(Bool×Int)⊕Bool) (hF:wc p0 p2 p3 p5 s=some o):evW TT C.wide vc vk 1 (BH p0 p2 p3 p5 s)=Sum.elim (fun s=>evW TT C.wide vc vk 1 (BH p0 p2 p3 p5 s)) (fun r=>En p0 p2 p3 p5 r) o:=by
 obtain⟨p1,p4⟩:=s
 rw [cG TT vc VW]
 revert hF
 unfold wc
 try dsimp only
 refine ip (fun h1=>az fun x1 h2=>?_) ?_
 have g1:decide (0<=p4)=true:=(cp h2).1
 have g2:(ah f5.row p2)[(p4:Int).toNat]? =some (rGScore x1):=cn _ h2
 refine ip (fun h3=>oC fun h4=>az fun x2 h5=>?_) ?_
 have g3:=bK (yq (dm p0.f9 0 p4) x1.i6 _ h5)
 all_goals (rintro⟨⟩;intros;show cN _ _ _ (aH _ _ _ _ (Code.seq _ _) _)=_;simp (maxSteps:=4000000) only [*,cGValue,rGScore,rGValue,BH,En,Ik,C6,Bd,zq,Xr,Fp,Cx,↓RP,RB,RC,↓ai,Nat.reduceBEq,bP,List.map,Nat.reduceAdd,Nat.reduceSub,Nat.reduceLeDiff,bne,↓ao,ty3,ty4,ty9,oN,kU,ua,↓aa _ _ _ _ 28,↓am _ _ _ _ 103,↓aa _ _ _ _ 29,↓aq _ _ _ _ 30,↓aa _ _ _ _ 31])
theorem qh3 (C:aj) (mU:pk C) (jN:lh C) (J0:yE C) (KP:ym C) (Ko:yg C) (sb:qi C) (Ky:yx C) (kT:jY C) (kC:jS C) (kn:jL C) (yq:yA C) (p0:ae) (r:Int) (hF:vaC p0=some r):cR TT C.wide (evW TT C.wide vc vk) vc Tryz.f109.results.toList (aU Tryz.f109) [.agg (cGValue p0)] []=some (.I r,[]):=by
 revert hF
 unfold vaC
 refine iv (fun h1=>iv (fun h2=>?_) ?_) ?_
 have g1:=Pa C p0 p0.e5 (p0.e5==1) _ rfl (jC p0 p0.e5 (p0.e5==1)) rfl
 have g2:=Oa C mU p0 (jC p0 p0.e5 (p0.e5==1)) _ rfl (rm p0 (jC p0 p0.e5 (p0.e5==1))) rfl
 refine iv (fun h3=>?_) ?_
 unfold BV
 have g3:=Oc C mU p0 (jC p0 p0.e5 (p0.e5==1)) _ rfl (px p0 (jC p0 p0.e5 (p0.e5==1))) rfl
 refine iv (fun h4=>?_) ?_
 have g4:=bK (jN p0.iq _ (lR p0.iq))
 refine ip (fun h5=>az fun x1 h6=>?_) ?_
 have g5:=bK (J0 p0.af _ h6)
 refine iv (fun h7=>az fun x2 h8=>?_) ?_
 have g6:=bK (KP p0.iz _ h8)
 refine iv (fun h9=>az fun x3 h10=>?_) ?_
 unfold NS
 have g7:=bK (Ko p0.f9 _ h10)
 refine iv (fun h11=>?_) ?_
 have g8:=bK (sb p0.iO _ (xd p0.iO))
 refine ip (fun h12=>az fun x4 h13=>?_) ?_
 have g9:=bK (Ky p0.f9 _ h13)
 refine iv (fun h14=>az fun x5 h15=>?_) ?_
 have g10:=N4 C kT kC kn p0 (jC p0 p0.e5 (p0.e5==1)) _ rfl _ h15
 refine az ?_
 rintro x6 h16
 have g11:=cH _ _ (Ub C yq p0 p0.f9 (p0.f9.length:Int) (jC p0 p0.e5 (p0.e5==1))) h16
 try simp only [BH,En] at g11
 refine iv (fun h17=>?_) ?_
 all_goals (rintro⟨⟩;intros;rw [bk];show cC _ _ _ (aH _ _ _ _ (Code.seq _ _) _)=_;simp (maxSteps:=4000000) only [*,cGValue,rGValue,Zz,Ik,C6,Bd,zq,ZH,Fp,Cx,↓RP,RB,RC,↓ai,Nat.reduceBEq,bP,List.map,Nat.reduceAdd,Nat.reduceLeDiff,bne,↓ao,ty3,ty4,ty9,kQ,ti,mJ,oN,kU,↓aa _ _ _ _ 0,↓aa _ _ _ _ 1,↓am _ _ _ _ 14,↓aa _ _ _ _ 2,↓aa _ _ _ _ 3,↓aa _ _ _ _ 4,↓aa _ _ _ _ 6,↓da _ _ _ _ 19,↓bg _ _ _ _ 14,↓am _ _ _ _ 43,↓aa _ _ _ _ 15,↓bg _ _ _ _ 16,↓am _ _ _ _ 56,↓aa _ _ _ _ 17,↓aa _ _ _ _ 18,↓am _ _ _ _ 65,↓aa _ _ _ _ 19,↓aa _ _ _ _ 20,↓am _ _ _ _ 68,↓aa _ _ _ _ 21,↓aa _ _ _ _ 22,↓am _ _ _ _ 71,↓aa _ _ _ _ 23,↓aa _ _ _ _ 24,↓am _ _ _ _ 80,↓aa _ _ _ _ 25,↓bg _ _ _ _ 26,↓aa _ _ _ _ 27,↓aa _ _ _ _ 32,↓am _ _ _ _ 120,↓aa _ _ _ _ 33,↓aa _ _ _ _ 34])
def Ow:List (Nat×List Nat):=[(0,[1]),(1,[1,18]),(2,[2]),(3,[1,20,21,22]),(4,[1,20,21,22,23]),(5,[1,3,4,20,21,22]),(6,[1,4,20,21,22,58]),(7,[2]),(8,[1,20,21,22,73]),(9,[2]),(10,[1,20,21,22]),(11,[2])]
def XD:List (Nat×List Nat×List Nat):=[(18,[],[1]),(23,[1,20,21,22],[]),(58,[],[1,4,20,21,22]),(73,[],[1,20,21,22])]
def n94:cL where
 keep:=ax Ow
 ro:=fun t=>t==1
 mv:=fun _=>false
 give:=fun _=>false
 free:=fun i=>match i with|6=>[(20,22),(21,22),(20,23),(21,23),(20,27),(21,27),(22,27),(23,27),(24,27),(25,27),(26,27),(20,28),(21,28),(22,28),(23,28),(24,28),(25,28),(26,28)]|_=>[]
 alive:=av XD
theorem qiA (t:Nat) (x:Bool) (e:Env) (S:bH):cK n94 t x ⟨e,S⟩=atO (av XD t x) e S:=cF rfl t x e S
theorem TD (i:Nat):n94.keep i=ax Ow i:=rfl
theorem qi8 (t:Nat):n94.ro t=(t==1):=rfl
theorem Ll (t:Nat):n94.mv t=(false):=rfl
theorem qha (t:Nat):n94.give t=(false):=rfl
theorem qj2:n94.free 6= [(20,22),(21,22),(20,23),(21,23),(20,27),(21,27),(22,27),(23,27),(24,27),(25,27),(26,27),(20,28),(21,28),(22,28),(23,28),(24,28),(25,28),(26,28)]:=rfl
theorem qiy:Tryz.f94.results.toList= [.tmp 2]:=rfl
def b94:Code:=aU Tryz.f94
def qkH:Code:=(bE 0 (aU Tryz.f94)).getD .skip
theorem Ze:bE 0 b94=some qkH:=rfl
theorem AZ (C:aj)  (p0:iJ) (c:Code) (ho:cD 0 1 b94=some c) (r:Bool) (hF:lz p0=r): @cV TT C.wide (evW TT C.wide n94 b94) n94 0 1 ⟨[(1,.rp (rGStore p0))],[]⟩ ⟨c⟩=some (.normal,⟨[(1,.rp (rGStore p0)),(18,.v (.b r))],[]⟩):=by
 have e:=Option.some.inj (ho.symm.trans (rfl:cD 0 1 b94=some _))
 subst e
 clear ho
 show aH _ _ _ _ _ _=_
 revert hF
 unfold lz
 refine iv (fun h1=>iv (fun h2=>?_) ?_) ?_
 all_goals (rintro rfl;intros;simp (maxSteps:=4000000) only [*,rGStore,TD,Ow,Ll,↓RP,RB,RC,Nat.reduceBEq,List.map,ty3,Ad,ug,↓aa _ _ _ _ 1])
theorem Aj (C:aj) (I8:PO C) (p0:iJ) (p1:Int) (p2:List gi) (p3:Int) (p4:gi) (c:Code) (ho:cD 0 6 b94=some c) (r:Bool) (hF:mE p0 p1 p2 p3 p4=some r): @cV TT C.wide (evW TT C.wide n94 b94) n94 0 6 ⟨[(1,.rp (rGStore p0)),(3,.I p1),(4,.ptr 0 0),(20,.v (.sl 8 (ah gi.row p2))),(21,.I p3),(22,.I p1)],[cGEntry p4]⟩ ⟨c⟩=some (.normal,⟨[(1,.rp (rGStore p0)),(4,.ptr 0 0),(20,.v (.sl 8 (ah gi.row p2))),(21,.I p3),(22,.I p1),(58,.v (.b r))],[cGEntry p4]⟩):=by
 have e:=Option.some.inj (ho.symm.trans (rfl:cD 0 6 b94=some _))
 subst e
 clear ho
 show aH _ _ _ _ _ _=_
 revert hF
 unfold mE
 refine iv (fun h1=>iv (fun h2=>az fun x1 h3=>?_) ?_) ?_
 have g1:=bK (I8 p4.jt _ h3)
 refine ip (fun h4=>ip (fun h5=>az fun x2 h6=>?_) ?_) ?_
 have g2:decide (0<=(IntKind.i64.wrap (p1-1)))=true:=(cp h6).1
 have g3:(ah gi.row p0.f6)[((IntKind.i64.wrap (p1-1)):Int).toNat]? =some (rGEntry x2):=cn _ h6
 all_goals (rintro⟨⟩;intros;simp (maxSteps:=4000000) only [*,cGEntry,rGEntry,rGStore,TD,Ow,qj2,Ll,↓RP,RB,RC,Nat.reduceBEq,List.map,Nat.reduceAdd,Nat.reduceSub,bne,aP,ty3,ty9,kQ,Ad,ug,kU,zO,↓aq _ _ _ _ 6])
theorem Am (C:aj)  (p0:iJ) (p1:List gi) (p2:Int) (p3:Int) (p4:gi) (c:Code) (ho:cD 0 8 b94=some c) (r:Bool) (hF:lI p0 p1 p2 p3 p4=r): @cV TT C.wide (evW TT C.wide n94 b94) n94 0 8 ⟨[(1,.rp (rGStore p0)),(4,.ptr 0 0),(20,.v (.sl 8 (ah gi.row p1))),(21,.I p2),(22,.I p3)],[cGEntry p4]⟩ ⟨c⟩=some (.normal,⟨[(1,.rp (rGStore p0)),(20,.v (.sl 8 (ah gi.row p1))),(21,.I p2),(22,.I p3),(73,.v (.b r))],[cGEntry p4]⟩):=by
 have e:=Option.some.inj (ho.symm.trans (rfl:cD 0 8 b94=some _))
 subst e
 clear ho
 show aH _ _ _ _ _ _=_
 revert hF
 unfold lI
 refine iv (fun h1=>iv (fun h2=>?_) ?_) ?_
 all_goals (rintro rfl;intros;simp (maxSteps:=4000000) only [*,cGEntry,rGStore,TD,Ow,Ll,↓RP,RB,RC,Nat.reduceBEq,List.map,bne,ty3,ug,zO,↓aa _ _ _ _ 8])
def oM (p0:iJ) (p1:List gi) (p2:Int) (s:Int):St:=⟨[(1,.rp (rGStore p0)),(20,.v (.sl 8 (ah gi.row p1))),(21,.I p2),(22,.I s)],[]⟩
def rF (p0:iJ) (p1:List gi) (p2:Int) (r:gi⊕Unit):Option (Ex×St):=match r with
 | .inl r=>some (.ret,⟨[(2,.I 13)],[cGEntry r]⟩)
 | .inr r=>some (.normal,⟨[],[]⟩)
theorem xL (C:aj) (I8:PO C) (p0:iJ) (p1:List gi) (p2:Int) (p3:Int) (o:Int⊕(gi⊕Unit)) (hF:mV p0 p1 p2 p3=some o):evW TT C.wide n94 b94 0 (oM p0 p1 p2 p3)=Sum.elim (fun s=>evW TT C.wide n94 b94 0 (oM p0 p1 p2 s)) (fun r=>rF p0 p1 p2 r) o:=by
 rw [cG TT n94 Ze]
 revert hF
 unfold mV
 try dsimp only
 refine ip (fun h1=>az fun x1 h2=>?_) ?_
 have g1:decide (0<=p3)=true:=(cp h2).1
 have g2:(ah gi.row p1)[(p3:Int).toNat]? =some (rGEntry x1):=cn _ h2
 refine az fun x2 h3=>?_
 have g3:=Aj C I8 p0 p3 p1 p2 x1 _ rfl _ h3
 refine iv (fun h4=>?_) ?_
 have g4:=Am C p0 p1 p2 p3 x1 _ rfl (lI p0 p1 p2 p3 x1) rfl
 refine iv (fun h5=>?_) ?_
 all_goals (rintro⟨⟩;intros;show cN _ _ _ (aH _ _ _ _ (Code.seq _ _) _)=_;simp (maxSteps:=4000000) only [*,cGEntry,rGEntry,rGStore,oM,rF,qiA,XD,TD,Ow,Ll,qha,↓RP,RB,RC,↓ai,Nat.reduceBEq,bP,List.map,Nat.reduceAdd,Nat.reduceLeDiff,bne,↓ao,↓am,ty3,kQ,Ad,zO,↓aa _ _ _ _ 4,↓aa _ _ _ _ 5,↓bg _ _ _ _ 6,↓aa _ _ _ _ 7,↓bg _ _ _ _ 8,↓aa _ _ _ _ 9,↓aa _ _ _ _ 10])
theorem FW (C:aj) (I8:PO C) (p0:iJ) (r:Int) (hF:ri p0=some r):cR TT C.wide (evW TT C.wide n94 b94) n94 Tryz.f94.results.toList (aU Tryz.f94) [.agg (cGStore p0)] []=some (.I r,[]):=by
 revert hF
 unfold ri
 have g1:=AZ C p0 _ rfl (lz p0) rfl
 refine iv (fun h1=>az ?_) ?_
 rintro (x1|_) h2
 focus
  dsimp only
  have g2:=cH _ _ (xL C I8 p0 p0.f6 (p0.f6.length:Int)) h2
  try simp only [oM,rF] at g2
 rotate_left 1
 dsimp only
 have g3:=cH _ _ (xL C I8 p0 p0.f6 (p0.f6.length:Int)) h2
 try simp only [oM,rF] at g3
 all_goals (rintro⟨⟩;intros;rw [bk];show cC _ _ _ (aH _ _ _ _ (Code.seq _ _) _)=_;simp (maxSteps:=4000000) only [*,cGEntry,cGStore,rGStore,qiy,qiA,XD,TD,Ow,qi8,Ll,↓RP,RB,RC,Nat.reduceBEq,bP,List.map,↓ao,↓am,kQ,Ad,ug,↓aa _ _ _ _ 0,↓bg _ _ _ _ 1,↓aa _ _ _ _ 2,↓aa _ _ _ _ 3,↓aa _ _ _ _ 11])
def T6:List (Nat×List Nat):=[(0,[0]),(1,[2])]
def Vq:cL where
 keep:=ax T6
 ro:=fun _=>false
 mv:=fun _=>false
 give:=fun _=>false
 free:=fun _=>[]
theorem qhR (i:Nat):Vq.keep i=ax T6 i:=rfl
theorem qeq:Tryz.f111.results.toList= [.tmp 2]:=rfl
def qmT:Code:=aU Tryz.f111
theorem EU (C:aj)  (p0:ByteArray) (r:Bool) (hF:rI p0=some r):cR TT C.wide (evW TT C.wide Vq qmT) Vq Tryz.f111.results.toList (aU Tryz.f111) [.v (.s p0)] []=some (.v (.b r),[]):=by
 revert hF
 unfold rI
 all_goals (rintro⟨⟩;rw [bk];show cC _ _ _ (aH _ _ _ _ (Code.seq _ _) _)=_;simp (maxSteps:=4000000) only [*,qeq,qhR,T6,↓RP,RB,RC,Nat.reduceBEq,List.map,↓ao,↓aa,ty3,ty4,ty9])
def lV (p0:List ByteArray) (p1:Int) (s:Int):St:=⟨[(0,.v (.sl 1 (ah bY p0))),(1,.clo 111 []),(7,.I p1),(8,.I s)],[]⟩
def nJ (p0:List ByteArray) (p1:Int) (r:Int⊕Unit):Option (Ex×St):=match r with
 | .inl r=>some (.ret,⟨[(4,.I r)],[]⟩)
 | .inr r=>some (.normal,⟨[],[]⟩)
theorem vh (C:aj) (tJ:wh C) (p0:List ByteArray) (p1:Int) (p2:Int) (o:Int⊕(Int⊕Unit)) (hF:kL p0 p1 p2=some o):evW TT C.wide Ah Ot 0 (lV p0 p1 p2)=Sum.elim (fun s=>evW TT C.wide Ah Ot 0 (lV p0 p1 s)) (fun r=>nJ p0 p1 r) o:=by
 rw [cG TT Ah Qd]
 revert hF
 unfold kL
 try dsimp only
 refine ip (fun h1=>az fun x1 h2=>?_) ?_
 have g1:decide (0<=p2)=true:=(cp h2).1
 have g2:(ah bY p0)[(p2:Int).toNat]? =some [.s x1]:=cn _ h2
 have g3:=bK (tJ x1 _ (D7 x1))
 refine iv (fun h3=>?_) ?_
 all_goals (rintro⟨⟩;intros;show cN _ _ _ (aH _ _ _ _ (Code.seq _ _) _)=_;simp (maxSteps:=4000000) only [*,lV,nJ,X5,Pw,PX,H8,UU,Uo,↓RP,RB,RC,↓ai,Nat.reduceBEq,List.map,↓ao,↓am,↓aa,ty3,ty9,mJ])
theorem BJ (C:aj) (tJ:wh C) (p0:List ByteArray) (r:Int) (hF:nA p0=some r):cR TT C.wide (evW TT C.wide Ah Ot) Ah Tryz.f137.results.toList (aU Tryz.f137) [.v (.sl 1 (ah bY p0)),.clo 111 []] []=some (.I r,[]):=by
 revert hF
 unfold nA
 refine az ?_
 rintro (x1|_) h1
 focus
  dsimp only
  have g1:=cH _ _ (vh C tJ p0 (p0.length:Int)) h1
  try simp only [lV,nJ] at g1
 rotate_left 1
 dsimp only
 have g2:=cH _ _ (vh C tJ p0 (p0.length:Int)) h1
 try simp only [lV,nJ] at g2
 all_goals (rintro⟨⟩;rw [bk];show cC _ _ _ (aH _ _ _ _ (Code.seq _ _) _)=_;simp (maxSteps:=4000000) only [*,U3,PX,H8,↓RP,RB,RC,Nat.reduceBEq,List.map,Nat.reduceAdd,Int.reduceNeg,↓ao,↓aa,ty3,mJ])
theorem Bp (C:aj) (A9:wM C) (p0:List ByteArray) (r:Bool) (hF:mu p0=some r):cR TT C.wide (evW TT C.wide N2 qii) N2 Tryz.f110.results.toList (aU Tryz.f110) [.v (.sl 1 (ah bY p0)),.clo 111 []] []=some (.v (.b r),[]):=by
 revert hF
 unfold mu
 refine az fun x1 h1=>?_
 have g1:=bK (A9 p0 _ h1)
 all_goals (rintro⟨⟩;rw [bk];show cC _ _ _ (aH _ _ _ _ (Code.seq _ _) _)=_;simp (maxSteps:=4000000) only [*,UQ,YB,P2,↓RP,RB,RC,Nat.reduceBEq,List.map,Nat.reduceAdd,↓ao,↓aa,ty3,ty4])
def Zo:List (Nat×List Nat):=[(0,[1]),(1,[1,10]),(2,[2]),(3,[1,20]),(4,[2]),(5,[1,23]),(6,[2]),(7,[31]),(8,[2]),(9,[2])]
def qbS:List (Nat×List Nat×List Nat):=[(10,[],[1]),(20,[],[1]),(23,[],[1]),(31,[],[])]
def n95:cL where
 keep:=ax Zo
 ro:=fun t=>t==1
 mv:=fun _=>false
 give:=fun _=>false
 free:=fun _=>[]
 alive:=av qbS
theorem ql1 (t:Nat) (x:Bool) (e:Env) (S:bH):cK n95 t x ⟨e,S⟩=atO (av qbS t x) e S:=cF rfl t x e S
theorem qmc (i:Nat):n95.keep i=ax Zo i:=rfl
theorem qgD (t:Nat):n95.ro t=(t==1):=rfl
theorem qkN (t:Nat):n95.mv t=(false):=rfl
theorem qhN:Tryz.f95.results.toList= [.tmp 2]:=rfl
def b95:Code:=aU Tryz.f95
theorem Pb (C:aj) (Bx:wI C) (p0:iT) (r:Int) (hF:v9 p0=some r):cR TT C.wide (evW TT C.wide n95 b95) n95 Tryz.f95.results.toList (aU Tryz.f95) [.agg (cGReply p0)] []=some (.I r,[]):=by
 revert hF
 unfold v9
 refine iv (fun h1=>?_) ?_
 unfold zn
 refine iv (fun h2=>iv (fun h3=>iv (fun h4=>az fun x1 h5=>?_) ?_) ?_) ?_
 have g1:=bK (Bx p0.jG _ h5)
 refine iv (fun h6=>iv (fun h7=>iv (fun h8=>?_) ?_) ?_) ?_
 all_goals (rintro⟨⟩;intros;rw [bk];show cC _ _ _ (aH _ _ _ _ (Code.seq _ _) _)=_;simp (maxSteps:=4000000) only [*,cGReply,qhN,ql1,qbS,qmc,Zo,qgD,qkN,↓RP,RB,RC,Nat.reduceBEq,bP,List.map,Int.reduceNeg,↓ao,↓am,↓aa,ty3,ty9,kQ,mJ,wQ])
def On:List (Nat×List Nat):=[(0,[1]),(1,[1,24]),(2,[2]),(3,[1,26,27,28]),(4,[1,26,27,28,29]),(5,[1,3,4,26,27,28]),(6,[1,4,26,27,28,58]),(7,[2]),(8,[1,26,27,28,85]),(9,[2]),(10,[1,26,27,28]),(11,[2])]
def Xw:List (Nat×List Nat×List Nat):=[(24,[],[1]),(29,[1,26,27,28],[]),(58,[],[1,4,26,27,28]),(85,[],[1,26,27,28])]
def n55:cL where
 keep:=ax On
 ro:=fun t=>t==1
 mv:=fun _=>false
 give:=fun _=>false
 free:=fun i=>match i with|6=>[(4,6),(5,6),(4,7),(5,7),(14,16),(15,16),(14,17),(15,17),(14,21),(15,21),(16,21),(17,21),(18,21),(19,21),(20,21),(14,22),(15,22),(16,22),(17,22),(18,22),(19,22),(20,22)]|_=>[]
 alive:=av Xw
theorem qhn (t:Nat) (x:Bool) (e:Env) (S:bH):cK n55 t x ⟨e,S⟩=atO (av Xw t x) e S:=cF rfl t x e S
theorem TV (i:Nat):n55.keep i=ax On i:=rfl
theorem qi2 (t:Nat):n55.ro t=(t==1):=rfl
theorem Mw (t:Nat):n55.mv t=(false):=rfl
theorem qkn (t:Nat):n55.give t=(false):=rfl
theorem qhx:n55.free 6= [(4,6),(5,6),(4,7),(5,7),(14,16),(15,16),(14,17),(15,17),(14,21),(15,21),(16,21),(17,21),(18,21),(19,21),(20,21),(14,22),(15,22),(16,22),(17,22),(18,22),(19,22),(20,22)]:=rfl
theorem qi0:Tryz.f55.results.toList= [.tmp 2]:=rfl
def b55:Code:=aU Tryz.f55
def qkB:Code:=(bE 0 (aU Tryz.f55)).getD .skip
theorem qbJ:bE 0 b55=some qkB:=rfl
theorem RL (C:aj) (xp:uR C) (p0:ad) (c:Code) (ho:cD 0 1 b55=some c) (r:Bool) (hF:xy p0=some r): @cV TT C.wide (evW TT C.wide n55 b55) n55 0 1 ⟨[(1,.rp (rGMachine p0))],[]⟩ ⟨c⟩=some (.normal,⟨[(1,.rp (rGMachine p0)),(24,.v (.b r))],[]⟩):=by
 have e:=Option.some.inj (ho.symm.trans (rfl:cD 0 1 b55=some _))
 subst e
 clear ho
 show aH _ _ _ _ _ _=_
 revert hF
 unfold xy
 refine az fun x1 h1=>?_
 have g1:=bK (xp p0.e7 _ h1)
 refine ip (fun h2=>iv (fun h3=>iv (fun h4=>?_) ?_) ?_) ?_
 all_goals (rintro⟨⟩;intros;simp (maxSteps:=4000000) only [*,rGMachine,TV,On,Mw,↓RP,RB,RC,Nat.reduceBEq,List.map,Nat.reduceAdd,bne,ty3,kQ,ug,xm,sm,↓aa _ _ _ _ 1])
theorem Lp (C:aj)  (p0:ad) (p1:Int) (p2:List cc) (p3:Int) (p4:cc) (c:Code) (ho:cD 0 6 b55=some c) (r:Bool) (hF:u3 p0 p1 p2 p3 p4=some r): @cV TT C.wide (evW TT C.wide n55 b55) n55 0 6 ⟨[(1,.rp (rGMachine p0)),(3,.I p1),(4,.ptr 0 0),(26,.v (.sl 7 (ah cc.row p2))),(27,.I p3),(28,.I p1)],[cGClient p4]⟩ ⟨c⟩=some (.normal,⟨[(1,.rp (rGMachine p0)),(4,.ptr 0 0),(26,.v (.sl 7 (ah cc.row p2))),(27,.I p3),(28,.I p1),(58,.v (.b r))],[cGClient p4]⟩):=by
 have e:=Option.some.inj (ho.symm.trans (rfl:cD 0 6 b55=some _))
 subst e
 clear ho
 show aH _ _ _ _ _ _=_
 revert hF
 unfold u3
 refine iv (fun h1=>iv (fun h2=>ip (fun h3=>az fun x1 h4=>?_) ?_) ?_) ?_
 have g1:decide (0<=(IntKind.i64.wrap (p1-1)))=true:=(cp h4).1
 have g2:(ah cc.row p0.cO)[((IntKind.i64.wrap (p1-1)):Int).toNat]? =some (rGClient x1):=cn _ h4
 all_goals (rintro⟨⟩;intros;simp (maxSteps:=4000000) only [*,cGClient,rGClient,rGMachine,TV,On,qhx,Mw,↓RP,RB,RC,Nat.reduceBEq,List.map,Nat.reduceSub,ty3,xm,sm,zm,↓aq _ _ _ _ 6])
theorem Lg (C:aj) (uG:yl C) (p0:ad) (p1:List cc) (p2:Int) (p3:Int) (p4:cc) (c:Code) (ho:cD 0 8 b55=some c) (r:Bool) (hF:u4 p0 p1 p2 p3 p4=some r): @cV TT C.wide (evW TT C.wide n55 b55) n55 0 8 ⟨[(1,.rp (rGMachine p0)),(4,.ptr 0 0),(26,.v (.sl 7 (ah cc.row p1))),(27,.I p2),(28,.I p3)],[cGClient p4]⟩ ⟨c⟩=some (.normal,⟨[(1,.rp (rGMachine p0)),(26,.v (.sl 7 (ah cc.row p1))),(27,.I p2),(28,.I p3),(85,.v (.b r))],[cGClient p4]⟩):=by
 have e:=Option.some.inj (ho.symm.trans (rfl:cD 0 8 b55=some _))
 subst e
 clear ho
 show aH _ _ _ _ _ _=_
 revert hF
 unfold u4
 refine iv (fun h1=>iv (fun h2=>iv (fun h3=>iv (fun h4=>az fun x1 h5=>?_) ?_) ?_) ?_) ?_
 have g1:=bK (uG p4.i5 _ h5)
 all_goals (rintro⟨⟩;intros;simp (maxSteps:=4000000) only [*,cGClient,rGMachine,TV,On,Mw,↓RP,RB,RC,Nat.reduceBEq,List.map,Nat.reduceAdd,bne,aP,ty3,kQ,ug,sm,wQ,zm,↓aa _ _ _ _ 8])
def zB (p0:ad) (p1:List cc) (p2:Int) (s:Int):St:=⟨[(1,.rp (rGMachine p0)),(26,.v (.sl 7 (ah cc.row p1))),(27,.I p2),(28,.I s)],[]⟩
def Bf (p0:ad) (p1:List cc) (p2:Int) (r:cc⊕Unit):Option (Ex×St):=match r with
 | .inl r=>some (.ret,⟨[(2,.I 13)],[cGClient r]⟩)
 | .inr r=>some (.normal,⟨[],[]⟩)
theorem MN (C:aj) (uG:yl C) (p0:ad) (p1:List cc) (p2:Int) (p3:Int) (o:Int⊕(cc⊕Unit)) (hF:xt p0 p1 p2 p3=some o):evW TT C.wide n55 b55 0 (zB p0 p1 p2 p3)=Sum.elim (fun s=>evW TT C.wide n55 b55 0 (zB p0 p1 p2 s)) (fun r=>Bf p0 p1 p2 r) o:=by
 rw [cG TT n55 qbJ]
 revert hF
 unfold xt
 try dsimp only
 refine ip (fun h1=>az fun x1 h2=>?_) ?_
 have g1:decide (0<=p3)=true:=(cp h2).1
 have g2:(ah cc.row p1)[(p3:Int).toNat]? =some (rGClient x1):=cn _ h2
 refine az fun x2 h3=>?_
 have g3:=Lp C p0 p3 p1 p2 x1 _ rfl _ h3
 refine iv (fun h4=>az fun x3 h5=>?_) ?_
 have g4:=Lg C uG p0 p1 p2 p3 x1 _ rfl _ h5
 refine iv (fun h6=>?_) ?_
 all_goals (rintro⟨⟩;intros;show cN _ _ _ (aH _ _ _ _ (Code.seq _ _) _)=_;simp (maxSteps:=4000000) only [*,cGClient,rGClient,rGMachine,zB,Bf,qhn,Xw,TV,On,Mw,qkn,↓RP,RB,RC,↓ai,Nat.reduceBEq,bP,List.map,Nat.reduceAdd,Nat.reduceLeDiff,bne,↓ao,↓am,ty3,kQ,xm,zm,↓aa _ _ _ _ 4,↓aa _ _ _ _ 5,↓bg _ _ _ _ 6,↓aa _ _ _ _ 7,↓bg _ _ _ _ 8,↓aa _ _ _ _ 9,↓aa _ _ _ _ 10])
theorem qkS (C:aj) (xp:uR C) (uG:yl C) (p0:ad) (r:Int) (hF:clC p0=some r):cR TT C.wide (evW TT C.wide n55 b55) n55 Tryz.f55.results.toList (aU Tryz.f55) [.agg (cGMachine p0)] []=some (.I r,[]):=by
 revert hF
 unfold clC
 refine az fun x1 h1=>?_
 have g1:=RL C xp p0 _ rfl _ h1
 refine iv (fun h2=>az ?_) ?_
 rintro (x2|_) h3
 focus
  dsimp only
  have g2:=cH _ _ (MN C uG p0 p0.cO (p0.cO.length:Int)) h3
  try simp only [zB,Bf] at g2
 rotate_left 1
 dsimp only
 have g3:=cH _ _ (MN C uG p0 p0.cO (p0.cO.length:Int)) h3
 try simp only [zB,Bf] at g3
 all_goals (rintro⟨⟩;intros;rw [bk];show cC _ _ _ (aH _ _ _ _ (Code.seq _ _) _)=_;simp (maxSteps:=4000000) only [*,cGClient,cGMachine,rGMachine,qi0,qhn,Xw,TV,On,qi2,Mw,↓RP,RB,RC,Nat.reduceBEq,bP,List.map,↓ao,↓am,kQ,xm,sm,↓aa _ _ _ _ 0,↓bg _ _ _ _ 1,↓aa _ _ _ _ 2,↓aa _ _ _ _ 3,↓aa _ _ _ _ 11])
def qcc:List (Nat×List Nat):=[(0,[1]),(1,[1,12]),(2,[2]),(3,[2])]
def qcv:List (Nat×List Nat×List Nat):=[(12,[],[1])]
def n50:cL where
 keep:=ax qcc
 ro:=fun t=>t==1
 mv:=fun _=>false
 give:=fun _=>false
 free:=fun _=>[]
 alive:=av qcv
theorem qlr (t:Nat) (x:Bool) (e:Env) (S:bH):cK n50 t x ⟨e,S⟩=atO (av qcv t x) e S:=cF rfl t x e S
theorem qlR (i:Nat):n50.keep i=ax qcc i:=rfl
theorem qkI (t:Nat):n50.ro t=(t==1):=rfl
theorem qiw (t:Nat):n50.mv t=(false):=rfl
theorem qh2:Tryz.f50.results.toList= [.tmp 2]:=rfl
def b50:Code:=aU Tryz.f50
theorem BP (C:aj) (ov:sq C) (Lh:DV C) (p0:i4) (r:Int) (hF:lZ p0=some r):cR TT C.wide (evW TT C.wide n50 b50) n50 Tryz.f50.results.toList (aU Tryz.f50) [.agg (cGSnap p0)] []=some (.I r,[]):=by
 revert hF
 unfold lZ
 have g1:=bK (ov p0.iB _ (uS p0.iB))
 refine ip (fun h1=>?_) ?_
 have g2:=bK (ov p0.iK _ (uS p0.iK))
 refine ip (fun h2=>az fun x1 h3=>?_) ?_
 have g3:=bK (Lh p0.iy _ h3)
 all_goals (rintro⟨⟩;intros;rw [bk];show cC _ _ _ (aH _ _ _ _ (Code.seq _ _) _)=_;simp (maxSteps:=4000000) only [*,cGSnap,qh2,qlr,qcv,qlR,qcc,qkI,qiw,↓RP,RB,RC,Nat.reduceBEq,bP,List.map,Nat.reduceAdd,↓ao,↓am,↓aa,ty3,kQ,sm,tZ])
def RQ:List (Nat×List Nat):=[(0,[1]),(1,[1,11]),(2,[2]),(3,[1,3]),(4,[1,52]),(5,[2]),(6,[1,54]),(7,[1,54,55]),(8,[70]),(9,[2]),(10,[2]),(11,[1,71]),(12,[1,76]),(13,[2]),(14,[2]),(15,[2])]
def qeF:List (Nat×List Nat×List Nat):=[(11,[],[1]),(52,[],[1]),(55,[1],[1,54]),(70,[],[]),(71,[1],[1]),(76,[],[1])]
def n25:cL where
 keep:=ax RQ
 ro:=fun t=>t==1
 mv:=fun _=>false
 give:=fun _=>false
 free:=fun _=>[]
 alive:=av qeF
theorem qlY (t:Nat) (x:Bool) (e:Env) (S:bH):cK n25 t x ⟨e,S⟩=atO (av qeF t x) e S:=cF rfl t x e S
theorem qag (i:Nat):n25.keep i=ax RQ i:=rfl
theorem qkG (t:Nat):n25.ro t=(t==1):=rfl
theorem S9 (t:Nat):n25.mv t=(false):=rfl
theorem qkQ (t:Nat):n25.give t=(false):=rfl
theorem qgZ:Tryz.f25.results.toList= [.tmp 2]:=rfl
def b25:Code:=aU Tryz.f25
theorem CO (C:aj) (qn:uU C) (p0:bi) (c:Code) (ho:cD 0 4 b25=some c) (r:Bool) (hF:kG p0=r): @cV TT C.wide (evW TT C.wide n25 b25) n25 0 4 ⟨[(1,.rp (rGRecord p0)),(3,.ptr 0 0)],[[.I 0,.I 0,.v (.b false),.I 0,.I 0,.I 0,.v (.s ByteArray.empty),.v (.s ByteArray.empty),.v (.s ByteArray.empty),.I 0]]⟩ ⟨c⟩=some (.normal,⟨[(1,.rp (rGRecord p0)),(52,.v (.b r))],[[.I 0,.I 0,.v (.b false),.I 0,.I 0,.I 0,.v (.s ByteArray.empty),.v (.s ByteArray.empty),.v (.s ByteArray.empty),.I 0]]⟩):=by
 have e:=Option.some.inj (ho.symm.trans (rfl:cD 0 4 b25=some _))
 subst e
 clear ho
 show aH _ _ _ _ _ _=_
 revert hF
 unfold kG
 refine aX (fun h1=>?_) (fun h1=>?_)
 focus
  unfold qx
  refine aX (fun h2=>?_) (fun h2=>?_)
  focus
   refine iv (fun h3=>?_) ?_
   have g1:=bK (qn p0.iG _ (uW p0.iG))
  rotate_left 2
  refine ip (fun h3=>ip (fun h4=>ip (fun h5=>iv (fun h6=>ip (fun h7=>?_) ?_) ?_) ?_) ?_) ?_
  unfold qq
  refine ip (fun h8=>ip (fun h9=>ip (fun h10=>ip (fun h11=>ip (fun h12=>ip (fun h13=>iv (fun h14=>?_) ?_) ?_) ?_) ?_) ?_) ?_) ?_
  have g1:=bK (qn p0.iG _ (uW p0.iG))
 rotate_left 15
 refine ip (fun h2=>ip (fun h3=>?_) ?_) ?_
 unfold qs
 refine aX (fun h4=>?_) (fun h4=>?_)
 focus
  refine iv (fun h5=>?_) ?_
  have g1:=bK (qn p0.iG _ (uW p0.iG))
 rotate_left 2
 refine ip (fun h5=>ip (fun h6=>ip (fun h7=>iv (fun h8=>ip (fun h9=>?_) ?_) ?_) ?_) ?_) ?_
 unfold qv
 refine ip (fun h10=>ip (fun h11=>ip (fun h12=>ip (fun h13=>ip (fun h14=>ip (fun h15=>iv (fun h16=>?_) ?_) ?_) ?_) ?_) ?_) ?_) ?_
 have g1:=bK (qn p0.iG _ (uW p0.iG))
 all_goals (rintro rfl;intros;simp (maxSteps:=4000000) only [*,rGRecord,qag,RQ,S9,↓RP,RB,RC,Nat.reduceBEq,List.map,Nat.reduceAdd,aG,bne,aP,ty3,tZ,vR,y9,↓aa _ _ _ _ 4])
theorem BO (C:aj) (ov:sq C) (p0:bi) (c:Code) (ho:cD 0 8 b25=some c) (r:Bool) (hF:lJ p0=r): @cV TT C.wide (evW TT C.wide n25 b25) n25 0 8 ⟨[(1,.rp (rGRecord p0))],[[.I 0,.I 0,.v (.b false),.I 0,.I 0,.I 0,.v (.s ByteArray.empty),.v (.s ByteArray.empty),.v (.s ByteArray.empty),.I 0]]⟩ ⟨c⟩=some (.normal,⟨[(70,.v (.b r))],[[.I 0,.I 0,.v (.b false),.I 0,.I 0,.I 0,.v (.s ByteArray.empty),.v (.s ByteArray.empty),.v (.s ByteArray.empty),.I 0]]⟩):=by
 have e:=Option.some.inj (ho.symm.trans (rfl:cD 0 8 b25=some _))
 subst e
 clear ho
 show aH _ _ _ _ _ _=_
 revert hF
 unfold lJ
 have g1:=bK (ov p0.iK _ (uS p0.iK))
 refine ip (fun h1=>iv (fun h2=>?_) ?_) ?_
 all_goals (rintro rfl;intros;simp (maxSteps:=4000000) only [*,rGRecord,qag,RQ,S9,↓RP,RB,RC,Nat.reduceBEq,List.map,Int.reduceNeg,ty3,y9,↓aa _ _ _ _ 8])
theorem JT (C:aj) (qn:uU C) (ov:sq C) (kP:m0 C) (Cv:xT C) (p0:bi) (r:Int) (hF:pJ p0=some r):cR TT C.wide (evW TT C.wide n25 b25) n25 Tryz.f25.results.toList (aU Tryz.f25) [.agg (cGRecord p0)] []=some (.I r,[]):=by
 revert hF
 unfold pJ
 refine iv (fun h1=>?_) ?_
 unfold uV
 refine iv (fun h2=>?_) ?_
 have g1:=CO C qn p0 _ rfl (kG p0) rfl
 refine iv (fun h3=>aX (fun h4=>?_) (fun h4=>?_)) ?_
 focus
  have g2:=BO C ov p0 _ rfl (lJ p0) rfl
  refine iv (fun h5=>?_) ?_
 rotate_left 2
 refine bF (fun h5=>?_) (fun h5=>?_)
 focus
  refine az fun x1 h6=>?_
  have g3:=bK (Cv p0.iG _ h6)
 rotate_left 1
 have g4:=bK (ov p0.iB _ (uS p0.iB))
 refine aX (fun h6=>?_) (fun h6=>?_)
 focus
  have g5:=bK (kP p0.iR _ (xE p0.iR))
 rotate_left 1
 all_goals (rintro⟨⟩;intros;rw [bk];show cC _ _ _ (aH _ _ _ _ (Code.seq _ _) _)=_;simp (maxSteps:=4000000) only [*,cGRecord,rGRecord,qgZ,qlY,qeF,qag,RQ,qkG,S9,qkQ,↓RP,RB,RC,↓ai,Nat.reduceBEq,bP,List.map,Nat.reduceAdd,Nat.reduceLeDiff,bne,↓ao,↓am,ty3,ty4,kQ,tZ,Rv,vR,y9,↓aa _ _ _ _ 0,↓aa _ _ _ _ 1,↓aa _ _ _ _ 2,↓aa _ _ _ _ 3,↓bg _ _ _ _ 4,↓aa _ _ _ _ 5,↓aa _ _ _ _ 6,↓aa _ _ _ _ 7,↓bg _ _ _ _ 8,↓aa _ _ _ _ 9,↓aa _ _ _ _ 10,↓aa _ _ _ _ 11,↓aa _ _ _ _ 12,↓aa _ _ _ _ 13,↓aa _ _ _ _ 14,↓aa _ _ _ _ 15])
def Rb:List (Nat×List Nat):=[(0,[1]),(1,[1,43]),(2,[2]),(3,[1,3,4]),(4,[3,4,47,48,49]),(5,[3,4,47,48,49,50]),(6,[3,4,6,47,48,49]),(7,[6,47,48,49,67]),(8,[2]),(9,[3,4,47,48,49]),(10,[3,4,47,48,49]),(11,[2])]
def WR:List (Nat×List Nat×List Nat):=[(43,[],[1]),(50,[3,4,47,48,49],[]),(67,[],[6,47,48,49])]
def n52:cL where
 keep:=ax Rb
 ro:=fun t=>t==1
 mv:=fun _=>false
 give:=fun _=>false
 free:=fun i=>match i with|9=>[(0,2),(1,2),(0,3),(1,3),(2,4),(3,4)]|_=>[]
 alive:=av WR
theorem qjo (t:Nat) (x:Bool) (e:Env) (S:bH):cK n52 t x ⟨e,S⟩=atO (av WR t x) e S:=cF rfl t x e S
theorem VF (i:Nat):n52.keep i=ax Rb i:=rfl
theorem qiz (t:Nat):n52.ro t=(t==1):=rfl
theorem Pt (t:Nat):n52.mv t=(false):=rfl
theorem qhK (t:Nat):n52.give t=(false):=rfl
theorem qhh:n52.free 9= [(0,2),(1,2),(0,3),(1,3),(2,4),(3,4)]:=rfl
theorem qf8:Tryz.f52.results.toList= [.tmp 2]:=rfl
def b52:Code:=aU Tryz.f52
def qfV:Code:=(bE 0 (aU Tryz.f52)).getD .skip
theorem Zm:bE 0 b52=some qfV:=rfl
theorem AR (C:aj)  (p0:iP) (c:Code) (ho:cD 0 1 b52=some c) (r:Bool) (hF:kO p0=r): @cV TT C.wide (evW TT C.wide n52 b52) n52 0 1 ⟨[(1,.rp (rGLog p0))],[]⟩ ⟨c⟩=some (.normal,⟨[(1,.rp (rGLog p0)),(43,.v (.b r))],[]⟩):=by
 have e:=Option.some.inj (ho.symm.trans (rfl:cD 0 1 b52=some _))
 subst e
 clear ho
 show aH _ _ _ _ _ _=_
 revert hF
 unfold kO
 refine iv (fun h1=>?_) ?_
 unfold oV
 refine iv (fun h2=>iv (fun h3=>aX (fun h4=>?_) (fun h4=>?_)) ?_) ?_
 focus
  refine ip (fun h5=>iv (fun h6=>?_) ?_) ?_
 rotate_left 3
 refine iv (fun h5=>iv (fun h6=>?_) ?_) ?_
 all_goals (rintro rfl;intros;simp (maxSteps:=4000000) only [*,rGLog,VF,Rb,Pt,↓RP,RB,RC,Nat.reduceBEq,List.map,ty3,ty4,vq,sj,↓aa _ _ _ _ 1])
theorem zD (C:aj) (kP:m0 C) (p0:Int) (p1:Int) (p2:List iE) (p3:Int) (p4:Int) (p5:iE) (c:Code) (ho:cD 0 7 b52=some c) (r:Bool) (hF:km p0 p1 p2 p3 p4 p5=r): @cV TT C.wide (evW TT C.wide n52 b52) n52 0 7 ⟨[(3,.I p0),(4,.I p1),(6,.ptr 0 0),(47,.v (.sl 10 (ah iE.row p2))),(48,.I p3),(49,.I p4)],[cGItem p5]⟩ ⟨c⟩=some (.normal,⟨[(6,.ptr 0 0),(47,.v (.sl 10 (ah iE.row p2))),(48,.I p3),(49,.I p4),(67,.v (.b r))],[cGItem p5]⟩):=by
 have e:=Option.some.inj (ho.symm.trans (rfl:cD 0 7 b52=some _))
 subst e
 clear ho
 show aH _ _ _ _ _ _=_
 revert hF
 unfold km
 have g1:=bK (kP p5 _ (xE p5))
 refine ip (fun h1=>iv (fun h2=>?_) ?_) ?_
 all_goals (rintro rfl;intros;simp (maxSteps:=4000000) only [*,cGItem,VF,Rb,Pt,↓RP,RB,RC,Nat.reduceBEq,List.map,Nat.reduceAdd,bne,aP,ty3,kQ,vR,↓aa _ _ _ _ 7])
def nO (p2:List iE) (p3:Int) (s:Int×Int×Int):St:=⟨[(3,.I s.1),(4,.I s.2.1),(47,.v (.sl 10 (ah iE.row p2))),(48,.I p3),(49,.I s.2.2)],[]⟩
def qH (p2:List iE) (p3:Int) (r:iE⊕Unit):Option (Ex×St):=match r with
 | .inl r=>some (.ret,⟨[(2,.I 13)],[cGItem r]⟩)
 | .inr r=>some (.normal,⟨[],[]⟩)
theorem wR (C:aj) (kP:m0 C) (p2:List iE) (p3:Int) (s:Int×Int×Int) (o:(Int×Int×Int)⊕(iE⊕Unit)) (hF:lg p2 p3 s=some o):evW TT C.wide n52 b52 0 (nO p2 p3 s)=Sum.elim (fun s=>evW TT C.wide n52 b52 0 (nO p2 p3 s)) (fun r=>qH p2 p3 r) o:=by
 obtain⟨p0,p1,p4⟩:=s
 rw [cG TT n52 Zm]
 revert hF
 unfold lg
 try dsimp only
 refine ip (fun h1=>az fun x1 h2=>?_) ?_
 have g1:decide (0<=p4)=true:=(cp h2).1
 have g2:(ah iE.row p2)[(p4:Int).toNat]? =some (rGItem x1):=cn _ h2
 have g3:=zD C kP p0 p1 p2 p3 p4 x1 _ rfl (km p0 p1 p2 p3 p4 x1) rfl
 refine iv (fun h3=>?_) ?_
 all_goals (rintro⟨⟩;intros;show cN _ _ _ (aH _ _ _ _ (Code.seq _ _) _)=_;simp (maxSteps:=4000000) only [*,cGItem,rGItem,nO,qH,qjo,WR,VF,Rb,qhh,Pt,qhK,↓RP,RB,RC,↓ai,Nat.reduceBEq,bP,List.map,Nat.reduceAdd,Nat.reduceSub,Nat.reduceLeDiff,bne,↓ao,↓am,ty3,kQ,vq,vR,↓aa _ _ _ _ 5,↓aa _ _ _ _ 6,↓bg _ _ _ _ 7,↓aa _ _ _ _ 8,↓aq _ _ _ _ 9,↓aa _ _ _ _ 10])
theorem EW (C:aj) (kP:m0 C) (p0:iP) (r:Int) (hF:lT p0=some r):cR TT C.wide (evW TT C.wide n52 b52) n52 Tryz.f52.results.toList (aU Tryz.f52) [.agg (cGLog p0)] []=some (.I r,[]):=by
 revert hF
 unfold lT
 have g1:=AR C p0 _ rfl (kO p0) rfl
 refine iv (fun h1=>az ?_) ?_
 rintro (x1|_) h2
 focus
  dsimp only
  have g2:=cH _ _ (wR C kP p0.af (p0.af.length:Int)) h2
  try simp only [nO,qH] at g2
 rotate_left 1
 dsimp only
 have g3:=cH _ _ (wR C kP p0.af (p0.af.length:Int)) h2
 try simp only [nO,qH] at g3
 all_goals (rintro⟨⟩;intros;rw [bk];show cC _ _ _ (aH _ _ _ _ (Code.seq _ _) _)=_;simp (maxSteps:=4000000) only [*,cGItem,cGLog,rGLog,qf8,qjo,WR,VF,Rb,qiz,Pt,↓RP,RB,RC,Nat.reduceBEq,bP,List.map,↓ao,↓am,ty3,kQ,vq,sj,↓aa _ _ _ _ 0,↓bg _ _ _ _ 1,↓aa _ _ _ _ 2,↓aa _ _ _ _ 3,↓aa _ _ _ _ 4,↓aa _ _ _ _ 11])
def Zl:List (Nat×List Nat):=[(0,[1]),(1,[1,4]),(2,[1,4,9]),(3,[2,3]),(4,[2,3])]
def qc0:List (Nat×List Nat×List Nat):=[(9,[1,4],[1])]
def n92:cL where
 keep:=ax Zl
 ro:=fun t=>t==1
 mv:=fun _=>false
 give:=fun _=>false
 free:=fun i=>match i with|3=>[(0,2),(1,2),(0,4),(1,4),(2,4),(3,4),(0,5),(1,5),(2,5),(3,5),(0,6),(1,6),(2,6),(3,6),(4,6),(5,6),(0,7),(1,7),(2,7),(3,7),(4,7),(5,7),(0,8),(1,8),(2,8),(3,8),(0,9),(1,9),(2,9),(3,9),(0,10),(1,10),(2,10),(3,10),(4,11),(5,11),(6,11),(7,11),(8,11),(9,11),(10,11)]|4=>[(0,2),(1,2),(0,3),(1,3),(2,4),(3,4)]|_=>[]
 alive:=av qc0
theorem qmB (t:Nat) (x:Bool) (e:Env) (S:bH):cK n92 t x ⟨e,S⟩=atO (av qc0 t x) e S:=cF rfl t x e S
theorem qly (i:Nat):n92.keep i=ax Zl i:=rfl
theorem qhd (t:Nat):n92.ro t=(t==1):=rfl
theorem qjT (t:Nat):n92.mv t=(false):=rfl
theorem qhi:n92.free 3= [(0,2),(1,2),(0,4),(1,4),(2,4),(3,4),(0,5),(1,5),(2,5),(3,5),(0,6),(1,6),(2,6),(3,6),(4,6),(5,6),(0,7),(1,7),(2,7),(3,7),(4,7),(5,7),(0,8),(1,8),(2,8),(3,8),(0,9),(1,9),(2,9),(3,9),(0,10),(1,10),(2,10),(3,10),(4,11),(5,11),(6,11),(7,11),(8,11),(9,11),(10,11)]:=rfl
theorem qit:n92.free 4= [(0,2),(1,2),(0,3),(1,3),(2,4),(3,4)]:=rfl
theorem qf6:Tryz.f92.results.toList= [.tmp 2,.tmp 3]:=rfl
def b92:Code:=aU Tryz.f92
theorem Gz (C:aj)  (p0:iP) (r:Int×Int) (hF:sX p0=some r):cR TT C.wide (evW TT C.wide n92 b92) n92 Tryz.f92.results.toList (aU Tryz.f92) [.agg (cGLog p0)] []=some (.tup [.I r.1,.I r.2],[]):=by
 revert hF
 unfold sX
 refine ip (fun h1=>az fun x1 h2=>?_) ?_
 have g1:decide (0<=(IntKind.i64.wrap ((p0.af.length:Int)-1)))=true:=(cp h2).1
 have g2:(ah iE.row p0.af)[((IntKind.i64.wrap ((p0.af.length:Int)-1)):Int).toNat]? =some (rGItem x1):=cn _ h2
 all_goals (rintro⟨⟩;intros;rw [bk];show cC _ _ _ (aH _ _ _ _ (Code.seq _ _) _)=_;simp (maxSteps:=4000000) only [*,cGLog,rGItem,qf6,qmB,qc0,qly,Zl,qhi,qit,qhd,qjT,↓RP,RB,RC,Nat.reduceBEq,bP,List.map,↓ao,↓am,↓aa,↓aq,ty3,vq,sj,vR])
def qaK:List (Nat×List Nat):=[(0,[1]),(1,[1,5]),(2,[1,5,9]),(3,[2,3,4]),(4,[2,3]),(5,[2,3,4])]
def qaw:List (Nat×List Nat×List Nat):=[(9,[5],[1])]
def n51:cL where
 keep:=ax qaK
 ro:=fun t=>t==1
 mv:=fun _=>false
 give:=fun _=>false
 free:=fun _=>[]
 alive:=av qaw
theorem qlP (t:Nat) (x:Bool) (e:Env) (S:bH):cK n51 t x ⟨e,S⟩=atO (av qaw t x) e S:=cF rfl t x e S
theorem qlm (i:Nat):n51.keep i=ax qaK i:=rfl
theorem qks (t:Nat):n51.ro t=(t==1):=rfl
theorem qkf (t:Nat):n51.mv t=(false):=rfl
theorem qg4:Tryz.f51.results.toList= [.tmp 2,.tmp 3,.tmp 4]:=rfl
def b51:Code:=aU Tryz.f51
theorem GE (C:aj) (m6:kW C) (FY:Ay C) (p0:iP) (r:Int×Int×Int) (hF:qM p0=some r):cR TT C.wide (evW TT C.wide n51 b51) n51 Tryz.f51.results.toList (aU Tryz.f51) [.agg (cGLog p0)] []=some (.tup [.I r.1,.I r.2.1,.I r.2.2],[]):=by
 revert hF
 unfold qM
 refine az fun x1 h1=>?_
 have g1:=bK (m6 p0 _ h1)
 refine ip (fun h2=>az ?_) ?_
 rintro⟨x2,x3⟩ h3
 dsimp only
 have g2:=bK (FY p0 _ h3)
 try simp only [] at g2
 all_goals (rintro⟨⟩;intros;rw [bk];show cC _ _ _ (aH _ _ _ _ (Code.seq _ _) _)=_;simp (maxSteps:=4000000) only [*,cGLog,qg4,qlP,qaw,qlm,qaK,qks,qkf,↓RP,RB,RC,Nat.reduceBEq,bP,List.map,Nat.reduceAdd,bne,↓ao,↓am,↓aa,ty3,kQ,sj])
def Ws:List (Nat×List Nat):=[(0,[0]),(1,[0,4]),(2,[2,7]),(3,[2,7])]
def qmI:List (Nat×List Nat×List Nat):=[(4,[],[0])]
def n30:cL where
 keep:=ax Ws
 ro:=fun _=>false
 mv:=fun _=>false
 give:=fun _=>false
 free:=fun _=>[]
 alive:=av qmI
theorem qi7 (i:Nat):n30.keep i=ax Ws i:=rfl
set_option maxRecDepth 100000 in
theorem Ed (C:aj) (l:List (List V)) (h:dh l.length 104=true):dH TT C n30 (aU Tryz.f30) ⟨enter 0 [.v (.sl 10 l)],[]⟩ (J1 TT 0 Tryz.f30.results.toList (.own 10 l) []):=by
 cases l with
 |nil=>
  simp only [List.length_nil] at h
  simp only [h,Tryz.f30,qi7,Ws,aU,Option.getD_some,↓cond_true,↓cond_false,enter,List.toList_toArray,cond_false,aQ,be,cond_true,bf,aJ,Mx.bl,opnd,Mx.bI,Nat.reduceBEq,bQ,Mx.fit,co,List.isEmpty_nil,Bool.false_or,Bool.or_false,Bool.true_or,Bool.or_true,Bool.and_true,Bool.true_and,Bool.not_true,Bool.not_false,Bool.and_self,gS,zX,aN,aA,Mx.put,ofConst,ofCell,Mx.prune,List.map_cons,iM,aK,putDst,hJ,aw,ar,List.length_cons,List.length_nil,List.map,List.take_zero,Nat.reduceAdd,Nat.reduceMul,Nat.zero_add,Nat.add_zero,cz,aO,eq_self,reduceCtorEq,aC,bu,bx,cA,bS,bJ,aM,lowC,List.take_zero,List.length_nil,kill,spendLoc,spendOk,bO,frz,cq,bG,takeParts,bv,aR,List.append_nil,Nat.reduceBNe,Nat.reduceLeDiff,decide_true,beq_self_eq_true,bq,gG,ie,ax,vq,vR,dH,yH,yk,J1,List.mem_cons,List.not_mem_nil,forall_eq_or_imp,forall_eq,exists_eq_left',Option.some.injEq,or_true,or_false,and_true,true_and]
 |cons x l=>
  simp only [List.length_cons] at h
  simp only [h,Tryz.f30,qi7,Ws,aU,Option.getD_some,↓cond_true,↓cond_false,enter,List.toList_toArray,Bool.false_and,cond_false,aQ,be,cond_true,bf,aJ,Mx.bl,opnd,Mx.bI,Nat.reduceBEq,bQ,Mx.fit,co,List.isEmpty_cons,List.isEmpty_nil,Bool.false_or,Bool.or_false,Bool.or_true,Bool.and_true,Bool.not_true,Bool.not_false,Bool.and_self,gS,zX,aN,aA,Mx.put,ofConst,ofCell,Mx.prune,List.map_cons,iM,aK,putDst,hJ,aw,ar,List.length_cons,List.length_nil,List.map,List.take_zero,Nat.reduceAdd,Nat.reduceMul,Nat.zero_add,cz,aO,eq_self,reduceCtorEq,aC,bu,bx,cA,bS,bJ,aM,lowC,List.take_zero,List.length_nil,kill,spendLoc,spendOk,bO,frz,cq,bG,takeParts,bv,aR,List.nil_append,Nat.reduceBNe,Nat.reduceLeDiff,decide_true,beq_self_eq_true,bq,gG,ie,ax,vq,vR,dH,yH,yk,J1,List.mem_cons,List.not_mem_nil,forall_eq,exists_eq_left',Option.some.injEq,or_true,or_false,true_and]
theorem GJ (C:aj) (l r:List iE) (h:mN l=some r):dH TT C n30 (aU Tryz.f30) ⟨enter 0 [.v (.sl 10 (ah iE.row l))],[]⟩ (J1 TT 0 Tryz.f30.results.toList (.own 10 (ah iE.row r)) []):=by
 unfold mN at h
 cases hq:dh l.length 104 with
 |false=>rw [hq] at h;cases h
 |true=>
  rw [hq,cond_true] at h
  obtain rfl:=Option.some.inj h
  exact Ed C _ (by rw [A5];exact hq)
def qbm:List (Nat×List Nat):=[(0,[1,3,5,6]),(1,[1,3,5,6,8]),(2,[1,3,5,6,8,18]),(3,[6,7]),(4,[1,3,5,6,24]),(5,[6,7]),(6,[3,6,11]),(7,[3,6,11,49]),(8,[6,7]),(9,[6,7])]
def ZW:List (Nat×List Nat×List Nat):=[(18,[3,6],[1,3,5,6,8]),(24,[3,6],[1,3,5,6]),(49,[3,6],[6,11])]
def n26:cL where
 keep:=ax qbm
 ro:=fun t=>t==3||t==5
 mv:=fun t=>t==51
 give:=fun _=>false
 free:=fun i=>match i with|6=>[(0,2),(1,2),(0,3),(1,3),(0,4),(1,4),(2,4),(3,4),(0,5),(1,5),(2,5),(3,5),(0,6),(1,6),(2,6),(3,6),(4,6),(5,6),(0,7),(1,7),(2,7),(3,7),(4,7),(5,7),(6,7),(0,8),(1,8),(2,8),(3,8),(4,8),(5,8),(6,8),(0,9),(1,9),(2,9),(3,9),(4,9),(5,9),(0,10),(1,10),(2,10),(3,10),(4,10),(5,10),(0,11),(1,11),(2,11),(3,11),(0,12),(1,12),(2,12),(3,12),(0,13),(1,13),(2,13),(3,13),(4,13),(5,13),(6,13),(7,13),(8,13),(9,13),(10,13),(11,13),(12,13),(0,14),(1,14),(2,14),(3,14),(4,14),(5,14),(6,14),(7,14),(8,14),(9,14),(10,14),(11,14),(12,14),(0,15),(1,15),(2,15),(3,15),(0,17),(1,17),(2,17),(3,17),(4,17),(5,17),(6,17),(7,17),(8,17),(9,17),(10,17),(11,17),(12,17),(13,17),(14,17),(15,17),(16,17)]|_=>[]
 alive:=av ZW
theorem qmA (t:Nat) (x:Bool) (e:Env) (S:bH):cK n26 t x ⟨e,S⟩=atO (av ZW t x) e S:=cF rfl t x e S
theorem qlp (i:Nat):n26.keep i=ax qbm i:=rfl
theorem qkp (t:Nat):n26.ro t=(t==3||t==5):=rfl
theorem qiJ (t:Nat):n26.mv t=(t==51):=rfl
theorem qk4 (t:Nat):n26.give t=(false):=rfl
theorem qgb:n26.free 6= [(0,2),(1,2),(0,3),(1,3),(0,4),(1,4),(2,4),(3,4),(0,5),(1,5),(2,5),(3,5),(0,6),(1,6),(2,6),(3,6),(4,6),(5,6),(0,7),(1,7),(2,7),(3,7),(4,7),(5,7),(6,7),(0,8),(1,8),(2,8),(3,8),(4,8),(5,8),(6,8),(0,9),(1,9),(2,9),(3,9),(4,9),(5,9),(0,10),(1,10),(2,10),(3,10),(4,10),(5,10),(0,11),(1,11),(2,11),(3,11),(0,12),(1,12),(2,12),(3,12),(0,13),(1,13),(2,13),(3,13),(4,13),(5,13),(6,13),(7,13),(8,13),(9,13),(10,13),(11,13),(12,13),(0,14),(1,14),(2,14),(3,14),(4,14),(5,14),(6,14),(7,14),(8,14),(9,14),(10,14),(11,14),(12,14),(0,15),(1,15),(2,15),(3,15),(0,17),(1,17),(2,17),(3,17),(4,17),(5,17),(6,17),(7,17),(8,17),(9,17),(10,17),(11,17),(12,17),(13,17),(14,17),(15,17),(16,17)]:=rfl
theorem qgE:Tryz.f26.results.toList= [.cell 6 44,.tmp 7]:=rfl
def b26:Code:=aU Tryz.f26
theorem MY (C:aj) (GO:AC C) (rY:og C) (m6:kW C) (p0:iP) (p1:Int) (p2:iE) (r:iP×Int) (hF:um p0 p1 p2=some r):cR TT C.wide (evW TT C.wide n26 b26) n26 Tryz.f26.results.toList (aU Tryz.f26) [.agg (cGLog p0),.I p1,.agg (cGItem p2)] []=some (.tup [.agg (cGLog r.1),.I r.2],[]):=by
 revert hF
 unfold um
 refine az ?_
 rintro⟨x1,x2,x3⟩ h1
 dsimp only
 unfold yD
 have g1:=bK (GO p0 _ h1)
 try simp only [] at g1
 refine iv (fun h2=>iv (fun h3=>oC fun h4=>az fun x4 h5=>?_) ?_) ?_
 have g2:=bK (rY (dm p0.af 0 (IntKind.i64.wrap ((IntKind.i64.wrap (p1-p0.iD))-1))) _ h5)
 refine oC fun h6=>az fun x5 h7=>?_
 have g3:=bK (m6 (iP.mk p0.iD p0.iw (x4++ [p2])) _ h7)
 try simp only [ak] at g3
 refine iv (fun h8=>?_) ?_
 all_goals (rintro⟨⟩;intros;rw [bk];show cC _ _ _ (aH _ _ _ _ (Code.seq _ _) _)=_;simp (maxSteps:=4000000) only [*,cGItem,cGLog,qgE,qmA,ZW,qlp,qbm,qgb,qkp,qiJ,qk4,↓RP,RB,RC,↓ai,Nat.reduceBEq,bP,List.map,Nat.reduceAdd,Nat.reduceMul,Nat.reduceLeDiff,cr,bne,↓ao,↓am,↓aa,↓aq,aP,ty3,ty4,kQ,vq,sj,vR,iE.flat,iE.one])
def qd2:List (Nat×List Nat):=[(0,[1,2]),(1,[1,2,6]),(2,[4,5]),(3,[1,2,11]),(4,[4,5]),(5,[1,2,18]),(6,[4,5]),(7,[4,5])]
def qdH:List (Nat×List Nat×List Nat):=[(6,[],[1,2]),(11,[2],[1,2]),(18,[],[1,2])]
def n93:cL where
 keep:=ax qd2
 ro:=fun t=>t==2
 mv:=fun _=>false
 give:=fun _=>false
 free:=fun _=>[]
 alive:=av qdH
theorem qma (t:Nat) (x:Bool) (e:Env) (S:bH):cK n93 t x ⟨e,S⟩=atO (av qdH t x) e S:=cF rfl t x e S
theorem qmG (i:Nat):n93.keep i=ax qd2 i:=rfl
theorem qhI (t:Nat):n93.ro t=(t==2):=rfl
theorem qhS (t:Nat):n93.mv t=(false):=rfl
theorem qgC:Tryz.f93.results.toList= [.tmp 4,.tmp 5]:=rfl
def b93:Code:=aU Tryz.f93
theorem Gw (C:aj)  (p0:iP) (p1:Int) (r:Int×Int) (hF:mM p0 p1=some r):cR TT C.wide (evW TT C.wide n93 b93) n93 Tryz.f93.results.toList (aU Tryz.f93) [.agg (cGLog p0),.I p1] []=some (.tup [.I r.1,.I r.2],[]):=by
 revert hF
 unfold mM
 refine iv (fun h1=>iv (fun h2=>iv (fun h3=>az fun x1 h4=>?_) ?_) ?_) ?_
 have g1:decide (0<=(IntKind.i64.wrap ((IntKind.i64.wrap (p1-p0.iD))-1)))=true:=(cp h4).1
 have g2:(ah iE.row p0.af)[((IntKind.i64.wrap ((IntKind.i64.wrap (p1-p0.iD))-1)):Int).toNat]? =some (rGItem x1):=cn _ h4
 all_goals (rintro⟨⟩;intros;rw [bk];show cC _ _ _ (aH _ _ _ _ (Code.seq _ _) _)=_;simp (maxSteps:=4000000) only [*,cGLog,rGItem,qgC,qma,qdH,qmG,qd2,qhI,qhS,↓RP,RB,RC,↓ai,Nat.reduceBEq,bP,List.map,Nat.reduceAdd,↓ao,↓am,↓aa,ty3,ty4,kQ,vq,sj,vR])
def qaj:List (Nat×List Nat):=[(0,[1,2]),(1,[1,2,6]),(2,[1,2,6,10]),(3,[4,5]),(4,[1,2,17]),(5,[4,5]),(6,[4,5])]
def qbv:List (Nat×List Nat×List Nat):=[(10,[6],[1,2]),(17,[],[1,2])]
def n53:cL where
 keep:=ax qaj
 ro:=fun t=>t==2
 mv:=fun _=>false
 give:=fun _=>false
 free:=fun _=>[]
 alive:=av qbv
theorem qmg (t:Nat) (x:Bool) (e:Env) (S:bH):cK n53 t x ⟨e,S⟩=atO (av qbv t x) e S:=cF rfl t x e S
theorem qmH (i:Nat):n53.keep i=ax qaj i:=rfl
theorem qk6 (t:Nat):n53.ro t=(t==2):=rfl
theorem qjG (t:Nat):n53.mv t=(false):=rfl
theorem qgu:Tryz.f53.results.toList= [.tmp 4,.tmp 5]:=rfl
def b53:Code:=aU Tryz.f53
theorem FU (C:aj) (m6:kW C) (wZ:uO C) (p0:iP) (p1:Int) (r:Int×Int) (hF:sY p0 p1=some r):cR TT C.wide (evW TT C.wide n53 b53) n53 Tryz.f53.results.toList (aU Tryz.f53) [.agg (cGLog p0),.I p1] []=some (.tup [.I r.1,.I r.2],[]):=by
 revert hF
 unfold sY
 refine az fun x1 h1=>?_
 have g1:=bK (m6 p0 _ h1)
 refine ip (fun h2=>iv (fun h3=>iv (fun h4=>az ?_) ?_) ?_) ?_
 rintro⟨x2,x3⟩ h5
 dsimp only
 have g2:=bK (wZ p0 p1 _ h5)
 try simp only [] at g2
 all_goals (rintro⟨⟩;intros;rw [bk];show cC _ _ _ (aH _ _ _ _ (Code.seq _ _) _)=_;simp (maxSteps:=4000000) only [*,cGLog,qgu,qmg,qbv,qmH,qaj,qk6,qjG,↓RP,RB,RC,Nat.reduceBEq,bP,List.map,Nat.reduceAdd,bne,↓ao,↓am,↓aa,ty3,kQ,sj])
def qdk:List (Nat×List Nat):=[(0,[1,2,4]),(1,[1,2,4,6]),(2,[1,2,4,6,12]),(3,[4,5]),(4,[1,2,4,7,8]),(5,[1,2,4,7,8,22]),(6,[4,5]),(7,[4,5])]
def qad:List (Nat×List Nat×List Nat):=[(12,[4,6],[1,2,4]),(22,[4,8],[1,2,4,7])]
def n54:cL where
 keep:=ax qdk
 ro:=fun t=>t==2
 mv:=fun _=>false
 give:=fun _=>false
 free:=fun _=>[]
 alive:=av qad
theorem qmd (t:Nat) (x:Bool) (e:Env) (S:bH):cK n54 t x ⟨e,S⟩=atO (av qad t x) e S:=cF rfl t x e S
theorem qmO (i:Nat):n54.keep i=ax qdk i:=rfl
theorem qhr (t:Nat):n54.ro t=(t==2):=rfl
theorem qhe (t:Nat):n54.mv t=(false):=rfl
theorem qhw (t:Nat):n54.give t=(false):=rfl
theorem qgN:Tryz.f54.results.toList= [.cell 4 44,.tmp 5]:=rfl
def b54:Code:=aU Tryz.f54
theorem GN (C:aj) (m6:kW C) (wZ:uO C) (rY:og C) (p0:iP) (p1:Int) (r:iP×Int) (hF:th p0 p1=some r):cR TT C.wide (evW TT C.wide n54 b54) n54 Tryz.f54.results.toList (aU Tryz.f54) [.agg (cGLog p0),.I p1] []=some (.tup [.agg (cGLog r.1),.I r.2],[]):=by
 revert hF
 unfold th
 refine az fun x1 h1=>?_
 have g1:=bK (m6 p0 _ h1)
 refine ip (fun h2=>az ?_) ?_
 rintro⟨x2,x3⟩ h3
 dsimp only
 have g2:=bK (wZ p0 p1 _ h3)
 try simp only [] at g2
 refine ip (fun h4=>oC fun h5=>az fun x4 h6=>?_) ?_
 have g3:=bK (rY (dm p0.af (IntKind.i64.wrap (p1-p0.iD)) (p0.af.length:Int)) _ h6)
 all_goals (rintro⟨⟩;intros;rw [bk];show cC _ _ _ (aH _ _ _ _ (Code.seq _ _) _)=_;simp (maxSteps:=4000000) only [*,cGLog,qgN,qmd,qad,qmO,qdk,qhr,qhe,qhw,↓RP,RB,RC,Nat.reduceBEq,bP,List.map,Nat.reduceAdd,Nat.reduceLeDiff,bne,↓ao,↓am,↓aa,ty3,kQ,vq,sj,vR,iE.flat])
def Zp:List (Nat×List Nat):=[(0,[2,3,4]),(1,[2,3,4,5,6]),(2,[2,3,4,23]),(3,[4,7]),(4,[4]),(5,[4])]
def qaD:List (Nat×List Nat×List Nat):=[(23,[2,3,4],[3,4])]
def n27:cL where
 keep:=ax Zp
 ro:=fun t=>t==2||t==3
 mv:=fun _=>false
 give:=fun _=>false
 free:=fun _=>[]
 alive:=av qaD
theorem qll (t:Nat) (x:Bool) (e:Env) (S:bH):cK n27 t x ⟨e,S⟩=atO (av qaD t x) e S:=cF rfl t x e S
theorem qls (i:Nat):n27.keep i=ax Zp i:=rfl
theorem qiB (t:Nat):n27.ro t=(t==2||t==3):=rfl
theorem qf3 (t:Nat):n27.mv t=(false):=rfl
theorem qgU (t:Nat):n27.give t=(false):=rfl
theorem qfQ:Tryz.f27.results.toList= [.cell 4 44]:=rfl
def b27:Code:=aU Tryz.f27
theorem M7 (C:aj) (GC:xa C) (Gq:Au C) (p0:iP) (p1:i4) (r:iP) (hF:ui p0 p1=some r): ∃d S,cR TT C.wide (evW TT C.wide n27 b27) n27 Tryz.f27.results.toList (aU Tryz.f27) [.agg (cGLog p0),.agg (cGSnap p1)] []=some (d,S)/\bD d=true/\(frz d,S)=(.agg (cGLog r),[]):=by
 revert hF
 unfold ui
 refine az ?_
 rintro⟨x1,x2⟩ h1
 dsimp only
 have g1:=bK (GC p0 p1.iB _ h1)
 try simp only [] at g1
 refine bF (fun h2=>?_) (fun h2=>?_)
 focus
  intro hF
  have hR:=Option.some.inj hF
  clear hF
  subst hR
  refine⟨.agg [.I p1.iB,.I p1.iK,.own 10 []],[],?_,rfl,by first|rfl|(simp only [*];done)|(simp only [*];rfl)⟩
 rotate_left 1
 refine bF (fun h3=>?_) (fun h3=>?_)
 focus
  intro hF
  have hR:=Option.some.inj hF
  clear hF
  subst hR
  refine⟨.agg [.I p1.iB,.I p1.iK,.own 10 []],[],?_,rfl,by first|rfl|(simp only [*];done)|(simp only [*];rfl)⟩
 rotate_left 1
 refine az ?_
 rintro⟨x3,x4⟩ h4
 dsimp only
 have g2:=bK (Gq p0 p1.iB _ h4)
 try simp only [] at g2
 intro hF
 have hR:=Option.some.inj hF
 clear hF
 subst hR
 refine⟨.agg (cGLog x3),[],?_,rfl,by first|rfl|(simp only [*];done)|(simp only [*];rfl)⟩
 all_goals (rw [bk];show cC _ _ _ (aH _ _ _ _ (Code.seq _ _) _)=_;simp (maxSteps:=4000000) only [*,cGLog,cGSnap,qfQ,qll,qaD,qls,Zp,qiB,qf3,qgU,↓RP,RB,RC,Nat.reduceBEq,bP,List.map,Nat.reduceAdd,Nat.reduceLeDiff,bne,↓ao,↓am,↓aa,aP,ty3,kQ,tZ,vq,sj])
def VB:List (Nat×List Nat):=[(0,[0,4]),(1,[0,4,5]),(2,[0,4,5,10]),(3,[0,4,5]),(4,[0,4,5])]
def qbI:List (Nat×List Nat×List Nat):=[(10,[0,4,5],[])]
def n56:cL where
 keep:=ax VB
 ro:=fun _=>false
 mv:=fun _=>false
 give:=fun _=>false
 free:=fun i=>match i with|4=>[(0,1),(0,2),(0,3),(0,4),(0,5),(1,5),(2,5),(3,5),(4,5),(0,6),(1,6),(2,6),(3,6),(4,6),(5,6),(0,7),(1,7),(2,7),(3,7),(4,7),(0,8),(1,8),(2,8),(3,8),(4,8),(0,9),(1,9),(2,9),(3,9),(4,9),(0,10)]|_=>[]
 alive:=av qbI
theorem qk9 (t:Nat) (x:Bool) (e:Env) (S:bH):cK n56 t x ⟨e,S⟩=atO (av qbI t x) e S:=cF rfl t x e S
theorem qhs (i:Nat):n56.keep i=ax VB i:=rfl
theorem qg1 (t:Nat):n56.mv t=(false):=rfl
theorem qhU (t:Nat):n56.give t=(false):=rfl
theorem qjD:n56.free 4= [(0,1),(0,2),(0,3),(0,4),(0,5),(1,5),(2,5),(3,5),(4,5),(0,6),(1,6),(2,6),(3,6),(4,6),(5,6),(0,7),(1,7),(2,7),(3,7),(4,7),(0,8),(1,8),(2,8),(3,8),(4,8),(0,9),(1,9),(2,9),(3,9),(4,9),(0,10)]:=rfl
theorem qfH:Tryz.f56.results.toList= []:=rfl
def b56:Code:=aU Tryz.f56
def qkA:Code:=(bE 0 (aU Tryz.f56)).getD .skip
theorem qdD:bE 0 b56=some qkA:=rfl
def uQ (p0:Int) (s:Int×iu):St:=⟨[(0,.ptr 0 0),(4,.v (.i .u64 p0)),(5,.I s.1)],[[.own 1 (ah cE s.2.fb)]]⟩
def wU (p0:Int) (r:iu):Option (Ex×St):=some (.normal,⟨[],[[.own 1 (ah cE r.fb)]]⟩)
theorem Ge (C:aj)  (p0:Int) (s:Int×iu) (o:(Int×iu)⊕iu) (hF:oA p0 s=some o):evW TT C.wide n56 b56 0 (uQ p0 s)=Sum.elim (fun s=>evW TT C.wide n56 b56 0 (uQ p0 s)) (fun r=>wU p0 r) o:=by
 obtain⟨p1,p2⟩:=s
 rw [cG TT n56 qdD]
 revert hF
 unfold oA
 try dsimp only
 refine ip (fun h1=>oC fun h2=>?_) ?_
 all_goals (rintro⟨⟩;intros;show cN _ _ _ (aH _ _ _ _ (Code.seq _ _) _)=_;simp (maxSteps:=4000000) only [*,uQ,wU,qk9,qbI,qhs,VB,qjD,qg1,qhU,↓RP,RB,RC,↓ab,Nat.reduceBEq,List.map,Nat.reduceMul,Nat.reduceSub,Nat.reduceLeDiff,bne,↓ao,↓am,↓aa,↓aq,ty3,ty5,AJ,Pi,Ps])
theorem OB (C:aj)  (p0:Int) (p1:iu) (r:iu) (hF:ng p0 p1=some r):cR TT C.wide (evW TT C.wide n56 b56) n56 Tryz.f56.results.toList (aU Tryz.f56) [.ptr 0 0,.I p0] [[.own 1 (ah cE p1.fb)]]=some (.tup [],[[.own 1 (ah cE r.fb)]]):=by
 revert hF
 unfold ng
 refine az ?_
 rintro x1 h1
 have g1:=cH _ _ (Ge C (IntKind.u64.wrap (IntKind.i64.wrap (p0+4611686018427387904)))) h1
 try simp only [uQ,wU] at g1
 all_goals (rintro⟨⟩;rw [bk];show cC _ _ _ (aH _ _ _ _ (Code.seq _ _) _)=_;simp (maxSteps:=4000000) only [*,qfH,qhs,VB,↓RP,RB,RC,Nat.reduceBEq,List.map,Nat.reduceAdd,↓ao,↓aa,ty3,Ps])
def qcu:List (Nat×List Nat):=[(0,[])]
def n57:cL where
 keep:=ax qcu
 ro:=fun _=>false
 mv:=fun _=>false
 give:=fun _=>false
 free:=fun _=>[]
theorem qmR (i:Nat):n57.keep i=ax qcu i:=rfl
theorem qjS (t:Nat):n57.mv t=(false):=rfl
theorem qkm (t:Nat):n57.give t=(false):=rfl
theorem qk3:Tryz.f57.results.toList= []:=rfl
def b57:Code:=aU Tryz.f57
theorem QC (C:aj)  (p0:Int) (p1:iu) (r:iu) (hF:qE p0 p1=some r):cR TT C.wide (evW TT C.wide n57 b57) n57 Tryz.f57.results.toList (aU Tryz.f57) [.ptr 0 0,.I p0] [[.own 1 (ah cE p1.fb)]]=some (.tup [],[[.own 1 (ah cE r.fb)]]):=by
 revert hF
 unfold qE
 refine oC fun h1=>?_
 all_goals (rintro⟨⟩;rw [bk];show cC _ _ _ (aH _ _ _ _ (Code.region _ _ _) _)=_;simp (maxSteps:=4000000) only [*,qk3,qmR,qcu,qjS,qkm,↓RP,RB,RC,Nat.reduceBEq,List.map,Nat.reduceAdd,Nat.reduceMul,Nat.reduceLeDiff,bne,↓aa,ty3,ty5,AJ,Pi])
def qfb:List (Nat×List Nat):=[(0,[0,1]),(1,[])]
def n58:cL where
 keep:=ax qfb
 ro:=fun _=>false
 mv:=fun _=>false
 give:=fun _=>false
 free:=fun _=>[]
theorem qmM (i:Nat):n58.keep i=ax qfb i:=rfl
theorem qj1 (t:Nat):n58.mv t=(false):=rfl
theorem qjZ (t:Nat):n58.give t=(false):=rfl
theorem qjl:Tryz.f58.results.toList= []:=rfl
def b58:Code:=aU Tryz.f58
theorem Tw (C:aj) (mY:rz C) (p0:ByteArray) (p1:iu) (r:iu) (hF:uo p0 p1=some r):cR TT C.wide (evW TT C.wide n58 b58) n58 Tryz.f58.results.toList (aU Tryz.f58) [.ptr 0 0,.v (.s p0)] [[.own 1 (ah cE p1.fb)]]=some (.tup [],[[.own 1 (ah cE r.fb)]]):=by
 revert hF
 unfold uo
 refine az fun x1 h1=>?_
 have g1:C.wide 57 [.ptr 0 0,.I (p0.size:Int)] [[.own 1 (ah cE p1.fb)]]=some (.tup [],[[.own 1 (ah cE x1.fb)]]):=cX [0] rfl rfl rfl rfl (mY (p0.size:Int) p1 _ h1) rfl rfl
 refine oC fun h2=>?_
 all_goals (rintro⟨⟩;rw [bk];show cC _ _ _ (aH _ _ _ _ (Code.seq _ _) _)=_;simp (maxSteps:=4000000) only [*,qjl,qmM,qfb,qj1,qjZ,↓RP,RB,RC,Nat.reduceBEq,List.map,Nat.reduceAdd,Nat.reduceLeDiff,bne,↓ao,↓aa,bB,ty5,ty9,AJ,Pi,bB])
def Wu:List (Nat×List Nat):=[(0,[0,1]),(1,[0,1,10,11,12]),(2,[0,1,10,11,12,13]),(3,[0,1,5,10,11,12]),(4,[0,1,10,11,12]),(5,[0,1,10,11,12])]
def qaS:List (Nat×List Nat×List Nat):=[(13,[0,1,10,11,12],[])]
def n60:cL where
 keep:=ax Wu
 ro:=fun _=>false
 mv:=fun _=>false
 give:=fun _=>false
 free:=fun _=>[]
 alive:=av qaS
theorem qmW (t:Nat) (x:Bool) (e:Env) (S:bH):cK n60 t x ⟨e,S⟩=atO (av qaS t x) e S:=cF rfl t x e S
theorem qjE (i:Nat):n60.keep i=ax Wu i:=rfl
theorem qkc (t:Nat):n60.mv t=(false):=rfl
theorem Yt (t:Nat):n60.give t=(false):=rfl
theorem qfL:Tryz.f60.results.toList= []:=rfl
def b60:Code:=aU Tryz.f60
def qgz:Code:=(bE 0 (aU Tryz.f60)).getD .skip
theorem qdz:bE 0 b60=some qgz:=rfl
def vP (p0:List ByteArray) (p1:Int) (s:Int×iu):St:=⟨[(0,.ptr 0 0),(1,.v (.sl 1 (ah bY p0))),(10,.v (.sl 1 (ah bY p0))),(11,.I p1),(12,.I s.1)],[[.own 1 (ah cE s.2.fb)]]⟩
def yh (p0:List ByteArray) (p1:Int) (r:iu):Option (Ex×St):=some (.normal,⟨[],[[.own 1 (ah cE r.fb)]]⟩)
theorem JN (C:aj) (ld:rh C) (p0:List ByteArray) (p1:Int) (s:Int×iu) (o:(Int×iu)⊕iu) (hF:rK p0 p1 s=some o):evW TT C.wide n60 b60 0 (vP p0 p1 s)=Sum.elim (fun s=>evW TT C.wide n60 b60 0 (vP p0 p1 s)) (fun r=>yh p0 p1 r) o:=by
 obtain⟨p2,p3⟩:=s
 rw [cG TT n60 qdz]
 revert hF
 unfold rK
 try dsimp only
 refine ip (fun h1=>az fun x1 h2=>?_) ?_
 have g1:decide (0<=p2)=true:=(cp h2).1
 have g2:(ah bY p0)[(p2:Int).toNat]? =some [.s x1]:=cn _ h2
 refine az fun x2 h3=>?_
 have g3:C.wide 58 [.ptr 0 0,.v (.s x1)] [[.own 1 (ah cE p3.fb)]]=some (.tup [],[[.own 1 (ah cE x2.fb)]]):=cX [0] rfl rfl rfl rfl (ld x1 p3 _ h3) rfl rfl
 all_goals (rintro⟨⟩;intros;show cN _ _ _ (aH _ _ _ _ (Code.seq _ _) _)=_;simp (maxSteps:=4000000) only [*,vP,yh,qmW,qaS,qjE,Wu,qkc,Yt,↓RP,RB,RC,↓ai,Nat.reduceBEq,List.map,↓ao,↓am,↓aa,ty3,ty9,mJ])
theorem QP (C:aj) (mY:rz C) (ld:rh C) (p0:List ByteArray) (p1:iu) (r:iu) (hF:wK p0 p1=some r):cR TT C.wide (evW TT C.wide n60 b60) n60 Tryz.f60.results.toList (aU Tryz.f60) [.ptr 0 0,.v (.sl 1 (ah bY p0))] [[.own 1 (ah cE p1.fb)]]=some (.tup [],[[.own 1 (ah cE r.fb)]]):=by
 revert hF
 unfold wK
 refine az fun x1 h1=>?_
 have g1:C.wide 57 [.ptr 0 0,.I (p0.length:Int)] [[.own 1 (ah cE p1.fb)]]=some (.tup [],[[.own 1 (ah cE x1.fb)]]):=cX [0] rfl rfl rfl rfl (mY (p0.length:Int) p1 _ h1) rfl rfl
 refine az ?_
 rintro x2 h2
 have g2:=cH _ _ (JN C ld p0 (p0.length:Int)) h2
 try simp only [vP,yh] at g2
 all_goals (rintro⟨⟩;rw [bk];show cC _ _ _ (aH _ _ _ _ (Code.seq _ _) _)=_;simp (maxSteps:=4000000) only [*,qfL,qjE,Wu,Yt,↓RP,RB,RC,Nat.reduceBEq,List.map,Nat.reduceAdd,↓ao,↓aa,mJ])
def RU:List (Nat×List Nat):=[(0,[0,3]),(1,[0,3]),(2,[0,3]),(3,[0,3]),(4,[0,3]),(5,[0,3,26,27,28]),(6,[0,3,26,27,28,29]),(7,[0,3,5,26,27,28]),(8,[0,3,5,26,27,28]),(9,[0,3,26,27,28]),(10,[0,3,26,27,28]),(11,[0,3]),(12,[0,3]),(13,[0,51,52,53]),(14,[0,51,52,53,54]),(15,[0,7,51,52,53]),(16,[0,7,51,52,53]),(17,[0,51,52,53]),(18,[0,51,52,53])]
def WB:List (Nat×List Nat×List Nat):=[(29,[0,3,26,27,28],[0,3]),(54,[0,51,52,53],[])]
def n59:cL where
 keep:=ax RU
 ro:=fun t=>t==3
 mv:=fun _=>false
 give:=fun _=>false
 free:=fun _=>[]
 alive:=av WB
theorem qhq (t:Nat) (x:Bool) (e:Env) (S:bH):cK n59 t x ⟨e,S⟩=atO (av WB t x) e S:=cF rfl t x e S
theorem Zh (i:Nat):n59.keep i=ax RU i:=rfl
theorem qir (t:Nat):n59.ro t=(t==3):=rfl
theorem RS (t:Nat):n59.mv t=(false):=rfl
theorem UG (t:Nat):n59.give t=(false):=rfl
theorem qf9:Tryz.f59.results.toList= []:=rfl
def b59:Code:=aU Tryz.f59
def qgk:Code:=(bE 0 (aU Tryz.f59)).getD .skip
theorem qbW:bE 0 b59=some qgk:=rfl
def qka:Code:=(bE 2 (aU Tryz.f59)).getD .skip
theorem qbG:bE 2 b59=some qka:=rfl
def vV (p0:ae) (p1:List iC) (p2:Int) (s:Int×iu):St:=⟨[(0,.ptr 0 0),(3,.rp (rGValue p0)),(26,.v (.sl 2 (ah iC.row p1))),(27,.I p2),(28,.I s.1)],[[.own 1 (ah cE s.2.fb)]]⟩
def yi (p0:ae) (p1:List iC) (p2:Int) (r:iu):Option (Ex×St):=some (.normal,⟨[(0,.ptr 0 0),(3,.rp (rGValue p0))],[[.own 1 (ah cE r.fb)]]⟩)
theorem Kh (C:aj) (ld:rh C) (p0:ae) (p1:List iC) (p2:Int) (s:Int×iu) (o:(Int×iu)⊕iu) (hF:rB p0 p1 p2 s=some o):evW TT C.wide n59 b59 0 (vV p0 p1 p2 s)=Sum.elim (fun s=>evW TT C.wide n59 b59 0 (vV p0 p1 p2 s)) (fun r=>yi p0 p1 p2 r) o:=by
 obtain⟨p3,p4⟩:=s
 rw [cG TT n59 qbW]
 revert hF
 unfold rB
 try dsimp only
 refine ip (fun h1=>az fun x1 h2=>?_) ?_
 have g1:decide (0<=p3)=true:=(cp h2).1
 have g2:(ah iC.row p1)[(p3:Int).toNat]? =some (rGPair x1):=cn _ h2
 refine az fun x2 h3=>?_
 have g3:C.wide 58 [.ptr 0 0,.v (.s x1.iN)] [[.own 1 (ah cE p4.fb)],cGPair x1]=some (.tup [],[[.own 1 (ah cE x2.fb)],cGPair x1]):=cX [0] rfl rfl rfl rfl (ld x1.iN p4 _ h3) rfl rfl
 refine az fun x3 h4=>?_
 have g4:C.wide 58 [.ptr 0 0,.v (.s x1.iq)] [[.own 1 (ah cE x2.fb)],cGPair x1]=some (.tup [],[[.own 1 (ah cE x3.fb)],cGPair x1]):=cX [0] rfl rfl rfl rfl (ld x1.iq x2 _ h4) rfl rfl
 all_goals (rintro⟨⟩;intros;show cN _ _ _ (aH _ _ _ _ (Code.seq _ _) _)=_;simp (maxSteps:=4000000) only [*,cGPair,rGPair,rGValue,vV,yi,qhq,WB,Zh,RU,RS,UG,↓RP,RB,RC,↓ai,Nat.reduceBEq,bP,List.map,Nat.reduceAdd,Nat.reduceLT,Nat.reduceLeDiff,bne,↓ao,↓am,↓aa,ty3,ty9,ti,AE])
def vN (p0:List f5) (p1:Int) (s:Int×iu):St:=⟨[(0,.ptr 0 0),(51,.v (.sl 2 (ah f5.row p0))),(52,.I p1),(53,.I s.1)],[[.own 1 (ah cE s.2.fb)]]⟩
def yt (p0:List f5) (p1:Int) (r:iu):Option (Ex×St):=some (.normal,⟨[],[[.own 1 (ah cE r.fb)]]⟩)
theorem JE (C:aj) (ld:rh C) (kt:qW C) (p0:List f5) (p1:Int) (s:Int×iu) (o:(Int×iu)⊕iu) (hF:rj p0 p1 s=some o):evW TT C.wide n59 b59 2 (vN p0 p1 s)=Sum.elim (fun s=>evW TT C.wide n59 b59 2 (vN p0 p1 s)) (fun r=>yt p0 p1 r) o:=by
 obtain⟨p2,p3⟩:=s
 rw [cG TT n59 qbG]
 revert hF
 unfold rj
 try dsimp only
 refine ip (fun h1=>az fun x1 h2=>?_) ?_
 have g1:decide (0<=p2)=true:=(cp h2).1
 have g2:(ah f5.row p0)[(p2:Int).toNat]? =some (rGScore x1):=cn _ h2
 refine az fun x2 h3=>?_
 have g3:C.wide 58 [.ptr 0 0,.v (.s x1.i6)] [[.own 1 (ah cE p3.fb)],cGScore x1]=some (.tup [],[[.own 1 (ah cE x2.fb)],cGScore x1]):=cX [0] rfl rfl rfl rfl (ld x1.i6 p3 _ h3) rfl rfl
 refine az fun x3 h4=>?_
 have g4:C.wide 56 [.ptr 0 0,.I x1.fN] [[.own 1 (ah cE x2.fb)],cGScore x1]=some (.tup [],[[.own 1 (ah cE x3.fb)],cGScore x1]):=cX [0] rfl rfl rfl rfl (kt x1.fN x2 _ h4) rfl rfl
 all_goals (rintro⟨⟩;intros;show cN _ _ _ (aH _ _ _ _ (Code.seq _ _) _)=_;simp (maxSteps:=4000000) only [*,cGScore,rGScore,vN,yt,qhq,WB,Zh,RU,RS,UG,↓RP,RB,RC,↓ai,Nat.reduceBEq,bP,List.map,Nat.reduceAdd,Nat.reduceLT,Nat.reduceLeDiff,bne,↓ao,↓am,↓aa,ty3,ty9,oN,ua])
theorem QG (C:aj) (mY:rz C) (ld:rh C) (kt:qW C) (yb:xF C) (p0:ae) (p1:iu) (r:iu) (hF:yd p0 p1=some r):cR TT C.wide (evW TT C.wide n59 b59) n59 Tryz.f59.results.toList (aU Tryz.f59) [.ptr 0 0,.agg (cGValue p0)] [[.own 1 (ah cE p1.fb)]]=some (.tup [],[[.own 1 (ah cE r.fb)]]):=by
 revert hF
 unfold yd
 refine az fun x1 h1=>?_
 have g1:C.wide 57 [.ptr 0 0,.I p0.e5] [[.own 1 (ah cE p1.fb)]]=some (.tup [],[[.own 1 (ah cE x1.fb)]]):=cX [0] rfl rfl rfl rfl (mY p0.e5 p1 _ h1) rfl rfl
 refine az fun x2 h2=>?_
 have g2:C.wide 58 [.ptr 0 0,.v (.s p0.iq)] [[.own 1 (ah cE x1.fb)]]=some (.tup [],[[.own 1 (ah cE x2.fb)]]):=cX [0] rfl rfl rfl rfl (ld p0.iq x1 _ h2) rfl rfl
 refine az fun x3 h3=>?_
 have g3:C.wide 56 [.ptr 0 0,.I p0.iO] [[.own 1 (ah cE x2.fb)]]=some (.tup [],[[.own 1 (ah cE x3.fb)]]):=cX [0] rfl rfl rfl rfl (kt p0.iO x2 _ h3) rfl rfl
 refine az fun x4 h4=>?_
 have g4:C.wide 57 [.ptr 0 0,.I (p0.iz.length:Int)] [[.own 1 (ah cE x3.fb)]]=some (.tup [],[[.own 1 (ah cE x4.fb)]]):=cX [0] rfl rfl rfl rfl (mY (p0.iz.length:Int) x3 _ h4) rfl rfl
 refine az ?_
 rintro x5 h5
 unfold AW
 have g5:=cH _ _ (Kh C ld p0 p0.iz (p0.iz.length:Int)) h5
 try simp only [vV,yi] at g5
 refine az fun x6 h6=>?_
 have g6:C.wide 60 [.ptr 0 0,.v (.sl 1 (ah bY p0.af))] [[.own 1 (ah cE x5.fb)]]=some (.tup [],[[.own 1 (ah cE x6.fb)]]):=cX [0] rfl rfl rfl rfl (yb p0.af x5 _ h6) rfl rfl
 refine az fun x7 h7=>?_
 have g7:C.wide 57 [.ptr 0 0,.I (p0.f9.length:Int)] [[.own 1 (ah cE x6.fb)]]=some (.tup [],[[.own 1 (ah cE x7.fb)]]):=cX [0] rfl rfl rfl rfl (mY (p0.f9.length:Int) x6 _ h7) rfl rfl
 refine az ?_
 rintro x8 h8
 have g8:=cH _ _ (JE C ld kt p0.f9 (p0.f9.length:Int)) h8
 try simp only [vN,yt] at g8
 all_goals (rintro⟨⟩;rw [bk];show cC _ _ _ (aH _ _ _ _ (Code.seq _ _) _)=_;simp (maxSteps:=4000000) only [*,cGValue,rGValue,qf9,Zh,RU,qir,RS,UG,↓RP,RB,RC,Nat.reduceBEq,bP,List.map,Nat.reduceAdd,↓ao,↓aa,ty3,ty9,ti,mJ,oN,kU])
def SJ:List (Nat×List Nat):=[(0,[1]),(1,[1,4]),(2,[1,4,13]),(3,[2,3,101]),(4,[1,5]),(5,[1,5]),(6,[1,5]),(7,[1,5,30,31,32]),(8,[1,5,30,31,32,33]),(9,[1,5,7,30,31,32]),(10,[1,5,7,30,31,32]),(11,[1,5,7,30,31,32]),(12,[1,5,30,31,32]),(13,[1,5,30,31,32]),(14,[1,5]),(15,[1,5]),(16,[5,59,60,61]),(17,[5,59,60,61,62]),(18,[5,9,59,60,61]),(19,[5,9,59,60,61]),(20,[5,9,59,60,61]),(21,[5,9,59,60,61]),(22,[5,9,59,60,61]),(23,[5,9,59,60,61]),(24,[5,9,59,60,61]),(25,[5,59,60,61]),(26,[5,59,60,61]),(27,[2,3,101])]
def Uq:List (Nat×List Nat×List Nat):=[(13,[4],[1]),(33,[1,5,30,31,32],[1,5]),(62,[5,59,60,61],[5])]
def n28:cL where
 keep:=ax SJ
 ro:=fun t=>t==1
 mv:=fun t=>t==101
 give:=fun _=>false
 free:=fun _=>[]
 alive:=av Uq
theorem qd3 (t:Nat) (x:Bool) (e:Env) (S:bH):cK n28 t x ⟨e,S⟩=atO (av Uq t x) e S:=cF rfl t x e S
theorem qbr (i:Nat):n28.keep i=ax SJ i:=rfl
theorem qkR (t:Nat):n28.ro t=(t==1):=rfl
theorem SF (t:Nat):n28.mv t=(t==101):=rfl
theorem Tj (t:Nat):n28.give t=(false):=rfl
theorem qg8:Tryz.f28.results.toList= [.tmp 2,.tmp 3]:=rfl
def b28:Code:=aU Tryz.f28
def qgV:Code:=(bE 0 (aU Tryz.f28)).getD .skip
theorem Z1:bE 0 b28=some qgV:=rfl
def qij:Code:=(bE 2 (aU Tryz.f28)).getD .skip
theorem qbp:bE 2 b28=some qij:=rfl
def rQ (p0:ad) (p1:List gi) (p2:Int) (s:Int×iu):St:=⟨[(1,.rp (rGMachine p0)),(5,.ptr 0 0),(30,.v (.sl 8 (ah gi.row p1))),(31,.I p2),(32,.I s.1)],[[.own 1 (ah cE s.2.fb)]]⟩
def ue (p0:ad) (p1:List gi) (p2:Int) (r:iu):Option (Ex×St):=some (.normal,⟨[(1,.rp (rGMachine p0)),(5,.ptr 0 0)],[[.own 1 (ah cE r.fb)]]⟩)
theorem CM (C:aj) (ld:rh C) (B6:Cu C) (kt:qW C) (p0:ad) (p1:List gi) (p2:Int) (s:Int×iu) (o:(Int×iu)⊕iu) (hF:mZ p0 p1 p2 s=some o):evW TT C.wide n28 b28 0 (rQ p0 p1 p2 s)=Sum.elim (fun s=>evW TT C.wide n28 b28 0 (rQ p0 p1 p2 s)) (fun r=>ue p0 p1 p2 r) o:=by
 obtain⟨p3,p4⟩:=s
 rw [cG TT n28 Z1]
 revert hF
 unfold mZ
 try dsimp only
 refine ip (fun h1=>az fun x1 h2=>?_) ?_
 have g1:decide (0<=p3)=true:=(cp h2).1
 have g2:(ah gi.row p1)[(p3:Int).toNat]? =some (rGEntry x1):=cn _ h2
 refine az fun x2 h3=>?_
 have g3:C.wide 58 [.ptr 0 0,.v (.s x1.jm)] [[.own 1 (ah cE p4.fb)],cGEntry x1]=some (.tup [],[[.own 1 (ah cE x2.fb)],cGEntry x1]):=cX [0] rfl rfl rfl rfl (ld x1.jm p4 _ h3) rfl rfl
 refine az fun x3 h4=>?_
 have g4:C.wide 59 [.ptr 0 0,.agg (cGValue x1.jt)] [[.own 1 (ah cE x2.fb)],cGEntry x1]=some (.tup [],[[.own 1 (ah cE x3.fb)],cGEntry x1]):=cX [0] rfl rfl rfl rfl (B6 x1.jt x2 _ h4) rfl rfl
 refine az fun x4 h5=>?_
 have g5:C.wide 56 [.ptr 0 0,.I x1.jX] [[.own 1 (ah cE x3.fb)],cGEntry x1]=some (.tup [],[[.own 1 (ah cE x4.fb)],cGEntry x1]):=cX [0] rfl rfl rfl rfl (kt x1.jX x3 _ h5) rfl rfl
 all_goals (rintro⟨⟩;intros;show cN _ _ _ (aH _ _ _ _ (Code.seq _ _) _)=_;simp (maxSteps:=4000000) only [*,cGEntry,rGEntry,rGMachine,rQ,ue,qd3,Uq,qbr,SJ,SF,Tj,↓RP,RB,RC,↓ai,Nat.reduceBEq,bP,List.map,Nat.reduceAdd,Nat.reduceLT,Nat.reduceLeDiff,bne,↓ao,↓am,↓aa,aP,ty3,ty9,Ad,kU,zO])
def rl (p0:List cc) (p1:Int) (s:Int×iu):St:=⟨[(5,.ptr 0 0),(59,.v (.sl 7 (ah cc.row p0))),(60,.I p1),(61,.I s.1)],[[.own 1 (ah cE s.2.fb)]]⟩
def uz (p0:List cc) (p1:Int) (r:iu):Option (Ex×St):=some (.normal,⟨[(5,.ptr 0 0)],[[.own 1 (ah cE r.fb)]]⟩)
theorem Cl (C:aj) (kt:qW C) (mY:rz C) (ld:rh C) (yb:xF C) (p0:List cc) (p1:Int) (s:Int×iu) (o:(Int×iu)⊕iu) (hF:m4 p0 p1 s=some o):evW TT C.wide n28 b28 2 (rl p0 p1 s)=Sum.elim (fun s=>evW TT C.wide n28 b28 2 (rl p0 p1 s)) (fun r=>uz p0 p1 r) o:=by
 obtain⟨p2,p3⟩:=s
 rw [cG TT n28 qbp]
 revert hF
 unfold m4
 try dsimp only
 refine ip (fun h1=>az fun x1 h2=>?_) ?_
 unfold rW
 have g1:decide (0<=p2)=true:=(cp h2).1
 have g2:(ah cc.row p0)[(p2:Int).toNat]? =some (rGClient x1):=cn _ h2
 refine az fun x2 h3=>?_
 have g3:C.wide 56 [.ptr 0 0,.I x1.fId] [[.own 1 (ah cE p3.fb)],cGClient x1]=some (.tup [],[[.own 1 (ah cE x2.fb)],cGClient x1]):=cX [0] rfl rfl rfl rfl (kt x1.fId p3 _ h3) rfl rfl
 refine az fun x3 h4=>?_
 have g4:C.wide 56 [.ptr 0 0,.I x1.jQ] [[.own 1 (ah cE x2.fb)],cGClient x1]=some (.tup [],[[.own 1 (ah cE x3.fb)],cGClient x1]):=cX [0] rfl rfl rfl rfl (kt x1.jQ x2 _ h4) rfl rfl
 refine az fun x4 h5=>?_
 have g5:C.wide 56 [.ptr 0 0,.I x1.iZ] [[.own 1 (ah cE x3.fb)],cGClient x1]=some (.tup [],[[.own 1 (ah cE x4.fb)],cGClient x1]):=cX [0] rfl rfl rfl rfl (kt x1.iZ x3 _ h5) rfl rfl
 refine az fun x5 h6=>?_
 have g6:C.wide 57 [.ptr 0 0,.I x1.i5.j9] [[.own 1 (ah cE x4.fb)],cGClient x1]=some (.tup [],[[.own 1 (ah cE x5.fb)],cGClient x1]):=cX [0] rfl rfl rfl rfl (mY x1.i5.j9 x4 _ h6) rfl rfl
 refine az fun x6 h7=>?_
 have g7:C.wide 58 [.ptr 0 0,.v (.s x1.i5.iq)] [[.own 1 (ah cE x5.fb)],cGClient x1]=some (.tup [],[[.own 1 (ah cE x6.fb)],cGClient x1]):=cX [0] rfl rfl rfl rfl (ld x1.i5.iq x5 _ h7) rfl rfl
 refine az fun x7 h8=>?_
 have g8:C.wide 56 [.ptr 0 0,.I x1.i5.fN] [[.own 1 (ah cE x6.fb)],cGClient x1]=some (.tup [],[[.own 1 (ah cE x7.fb)],cGClient x1]):=cX [0] rfl rfl rfl rfl (kt x1.i5.fN x6 _ h8) rfl rfl
 refine az fun x8 h9=>?_
 have g9:C.wide 60 [.ptr 0 0,.v (.sl 1 (ah bY x1.i5.jG))] [[.own 1 (ah cE x7.fb)],cGClient x1]=some (.tup [],[[.own 1 (ah cE x8.fb)],cGClient x1]):=cX [0] rfl rfl rfl rfl (yb x1.i5.jG x7 _ h9) rfl rfl
 all_goals (rintro⟨⟩;intros;show cN _ _ _ (aH _ _ _ _ (Code.seq _ _) _)=_;simp (maxSteps:=4000000) only [*,cGClient,rGClient,rl,uz,qd3,Uq,qbr,SJ,SF,Tj,↓RP,RB,RC,↓ai,Nat.reduceBEq,bP,List.map,Nat.reduceAdd,Nat.reduceLT,Nat.reduceLeDiff,bne,↓ao,↓am,↓aa,ty3,ty9,kQ,xm,mJ,wQ,zm])
theorem GB (C:aj) (Lh:DV C) (kt:qW C) (mY:rz C) (ld:rh C) (B6:Cu C) (yb:xF C) (p0:ad) (r:(List Int)×Int) (hF:rf p0=some r):cR TT C.wide (evW TT C.wide n28 b28) n28 Tryz.f28.results.toList (aU Tryz.f28) [.agg (cGMachine p0)] []=some (.tup [.v (.sl 1 (ah cE r.1)),.I r.2],[]):=by
 revert hF
 unfold rf
 refine az fun x1 h1=>?_
 have g1:=bK (Lh p0 _ h1)
 refine ip (fun h2=>az fun x2 h3=>?_) ?_
 have g2:C.wide 56 [.ptr 0 0,.I p0.e7.iS] [[.own 1 []]]=some (.tup [],[[.own 1 (ah cE x2.fb)]]):=cX [0] rfl rfl rfl rfl (kt p0.e7.iS (iu.mk []) _ h3) rfl rfl
 refine az fun x3 h4=>?_
 have g3:C.wide 57 [.ptr 0 0,.I (p0.e7.f6.length:Int)] [[.own 1 (ah cE x2.fb)]]=some (.tup [],[[.own 1 (ah cE x3.fb)]]):=cX [0] rfl rfl rfl rfl (mY (p0.e7.f6.length:Int) x2 _ h4) rfl rfl
 refine az ?_
 rintro x4 h5
 unfold wv
 have g4:=cH _ _ (CM C ld B6 kt p0 p0.e7.f6 (p0.e7.f6.length:Int)) h5
 try simp only [rQ,ue] at g4
 refine az fun x5 h6=>?_
 have g5:C.wide 56 [.ptr 0 0,.I p0.iI] [[.own 1 (ah cE x4.fb)]]=some (.tup [],[[.own 1 (ah cE x5.fb)]]):=cX [0] rfl rfl rfl rfl (kt p0.iI x4 _ h6) rfl rfl
 refine az fun x6 h7=>?_
 have g6:C.wide 57 [.ptr 0 0,.I (p0.cO.length:Int)] [[.own 1 (ah cE x5.fb)]]=some (.tup [],[[.own 1 (ah cE x6.fb)]]):=cX [0] rfl rfl rfl rfl (mY (p0.cO.length:Int) x5 _ h7) rfl rfl
 refine az ?_
 rintro x7 h8
 have g7:=cH _ _ (Cl C kt mY ld yb p0.cO (p0.cO.length:Int)) h8
 try simp only [rl,uz] at g7
 all_goals (rintro⟨⟩;intros;rw [bk];show cC _ _ _ (aH _ _ _ _ (Code.seq _ _) _)=_;simp (maxSteps:=4000000) only [*,cGMachine,rGMachine,qg8,qd3,Uq,qbr,SJ,qkR,SF,Tj,↓RP,RB,RC,Nat.reduceBEq,bP,List.map,Nat.reduceAdd,bne,↓ao,↓am,↓aa,ty3,AJ,kQ,Ad,ug,xm,sm,qgS,Pi])
def VS:List (Nat×List Nat):=[(0,[0]),(1,[0,4]),(2,[2,7]),(3,[2,7])]
def qmt:List (Nat×List Nat×List Nat):=[(4,[],[0])]
def n40:cL where
 keep:=ax VS
 ro:=fun _=>false
 mv:=fun _=>false
 give:=fun _=>false
 free:=fun _=>[]
 alive:=av qmt
theorem qiN (i:Nat):n40.keep i=ax VS i:=rfl
set_option maxRecDepth 100000 in
theorem CB (C:aj) (l:List (List V)) (h:dh l.length 1=true):dH TT C n40 (aU Tryz.f40) ⟨enter 0 [.v (.sl 1 l)],[]⟩ (J1 TT 0 Tryz.f40.results.toList (.own 1 l) []):=by
 cases l with
 |nil=>
  simp only [List.length_nil] at h
  simp only [h,Tryz.f40,qiN,VS,aU,Option.getD_some,↓cond_true,↓cond_false,enter,List.toList_toArray,cond_false,aQ,be,cond_true,bf,aJ,Mx.bl,opnd,Mx.bI,Nat.reduceBEq,bQ,Mx.fit,co,List.isEmpty_nil,Bool.false_or,Bool.or_false,Bool.true_or,Bool.or_true,Bool.and_true,Bool.true_and,Bool.not_true,Bool.not_false,Bool.and_self,gS,zX,aN,aA,Mx.put,ofConst,ofCell,Mx.prune,List.map_cons,iM,aK,putDst,hJ,aw,ar,List.length_cons,List.length_nil,List.map,List.take_zero,Nat.reduceMul,Nat.zero_add,Nat.add_zero,cz,aO,eq_self,reduceCtorEq,aC,bu,bx,cA,bS,bJ,aM,lowC,List.take_zero,List.length_nil,kill,spendLoc,spendOk,bO,frz,cq,bG,takeParts,bv,aR,List.append_nil,Nat.reduceBNe,Nat.reduceLeDiff,decide_true,beq_self_eq_true,bq,gG,ie,ax,ty5,AJ,dH,yH,yk,J1,List.mem_cons,List.not_mem_nil,forall_eq_or_imp,forall_eq,exists_eq_left',Option.some.injEq,or_true,or_false,and_true,true_and]
 |cons x l=>
  simp only [List.length_cons] at h
  simp only [h,Tryz.f40,qiN,VS,aU,Option.getD_some,↓cond_true,↓cond_false,enter,List.toList_toArray,Bool.false_and,cond_false,aQ,be,cond_true,bf,aJ,Mx.bl,opnd,Mx.bI,Nat.reduceBEq,bQ,Mx.fit,co,List.isEmpty_cons,List.isEmpty_nil,Bool.false_or,Bool.or_false,Bool.or_true,Bool.and_true,Bool.not_true,Bool.not_false,Bool.and_self,gS,zX,aN,aA,Mx.put,ofConst,ofCell,Mx.prune,List.map_cons,iM,aK,putDst,hJ,aw,ar,List.length_cons,List.length_nil,List.map,List.take_zero,Nat.reduceMul,Nat.zero_add,cz,aO,eq_self,reduceCtorEq,aC,bu,bx,cA,bS,bJ,aM,lowC,List.take_zero,List.length_nil,kill,spendLoc,spendOk,bO,frz,cq,bG,takeParts,bv,aR,List.nil_append,Nat.reduceBNe,Nat.reduceLeDiff,decide_true,beq_self_eq_true,bq,gG,ie,ax,ty5,AJ,dH,yH,yk,J1,List.mem_cons,List.not_mem_nil,forall_eq,exists_eq_left',Option.some.injEq,or_true,or_false,true_and]
theorem Dw (C:aj) (l r:List Int) (h:ol l=some r):dH TT C n40 (aU Tryz.f40) ⟨enter 0 [.v (.sl 1 (ah cE l))],[]⟩ (J1 TT 0 Tryz.f40.results.toList (.own 1 (ah cE r)) []):=by
 unfold ol at h
 cases hq:dh l.length 1 with
 |false=>rw [hq] at h;cases h
 |true=>
  rw [hq,cond_true] at h
  obtain rfl:=Option.some.inj h
  exact CB C _ (by rw [A5];exact hq)
def qe2:List (Nat×List Nat):=[(0,[0,1]),(1,[0,1,18]),(2,[]),(3,[4,5,25,27,37]),(4,[0,1,5,25,27]),(5,[5,25,27]),(6,[4,5,25,27,37])]
def qab:List (Nat×List Nat×List Nat):=[(18,[0],[0,1])]
def n96:cL where
 keep:=ax qe2
 ro:=fun _=>false
 mv:=fun _=>false
 give:=fun _=>false
 free:=fun _=>[]
 alive:=av qab
theorem ql6 (t:Nat) (x:Bool) (e:Env) (S:bH):cK n96 t x ⟨e,S⟩=atO (av qab t x) e S:=cF rfl t x e S
theorem qmo (i:Nat):n96.keep i=ax qe2 i:=rfl
theorem qjq (t:Nat):n96.mv t=(false):=rfl
theorem qfX (t:Nat):n96.give t=(false):=rfl
theorem qgI:Tryz.f96.results.toList= [.tmp 4]:=rfl
def b96:Code:=aU Tryz.f96
theorem Sc (C:aj)  (p0:Int) (p1:f7) (r:(List Int)×f7) (hF:wn p0 p1=some r): ∃d S,cR TT C.wide (evW TT C.wide n96 b96) n96 Tryz.f96.results.toList (aU Tryz.f96) [.ptr 0 0,.I p0] [cGreader p1]=some (d,S)/\bD d=true/\(frz d,S)=(.v (.sl 1 (ah cE r.1)),[cGreader r.2]):=by
 revert hF
 unfold wn
 refine aX (fun h1=>?_) (fun h1=>?_)
 focus
  intro hF
  have hR:=Option.some.inj hF
  clear hF
  subst hR
  refine⟨.own 1 [],[[.v (.sl 1 (ah cE p1.frest)),.v (.b true)]],?_,rfl,by first|rfl|(simp only [*];done)|(simp only [*];rfl)⟩
 rotate_left 1
 refine aX (fun h2=>?_) (fun h2=>?_)
 focus
  intro hF
  have hR:=Option.some.inj hF
  clear hF
  subst hR
  refine⟨.own 1 [],[[.v (.sl 1 (ah cE p1.frest)),.v (.b true)]],?_,rfl,by first|rfl|(simp only [*];done)|(simp only [*];rfl)⟩
 rotate_left 1
 refine oC fun h3=>oC fun h4=>?_
 intro hF
 have hR:=Option.some.inj hF
 clear hF
 subst hR
 refine⟨.v (.sl 1 (ah cE (dm p1.frest 0 p0))),[[.v (.sl 1 (ah cE (dm p1.frest p0 (p1.frest.length:Int)))),.v (.b false)]],?_,rfl,by first|rfl|(simp only [*];done)|(simp only [*];rfl)⟩
 all_goals (rw [bk];show cC _ _ _ (aH _ _ _ _ (Code.seq _ _) _)=_;simp (maxSteps:=4000000) only [*,cGreader,qgI,ql6,qab,qmo,qe2,qjq,qfX,↓RP,RB,RC,Nat.reduceBEq,List.map,Nat.reduceAdd,Nat.reduceLeDiff,↓ao,↓am,↓aa,ty3,ty4,ty5,AJ,C8])
def Wr:List (Nat×List Nat):=[(0,[0]),(1,[0,3]),(2,[3,7,8,9]),(3,[3,7,8,9,10]),(4,[3,5,7,8,9]),(5,[3,7,8,9]),(6,[3,7,8,9]),(7,[2])]
def qfv:List (Nat×List Nat×List Nat):=[(10,[3,7,8,9],[3])]
def n61:cL where
 keep:=ax Wr
 ro:=fun _=>false
 mv:=fun _=>false
 give:=fun _=>false
 free:=fun _=>[]
 alive:=av qfv
theorem qlN (t:Nat) (x:Bool) (e:Env) (S:bH):cK n61 t x ⟨e,S⟩=atO (av qfv t x) e S:=cF rfl t x e S
theorem qjK (i:Nat):n61.keep i=ax Wr i:=rfl
theorem qjc (t:Nat):n61.mv t=(false):=rfl
theorem qic (t:Nat):n61.give t=(false):=rfl
theorem qfS:Tryz.f61.results.toList= [.tmp 2]:=rfl
def b61:Code:=aU Tryz.f61
def qho:Code:=(bE 0 (aU Tryz.f61)).getD .skip
theorem qfd:bE 0 b61=some qho:=rfl
def u0 (p1:List Int) (p2:Int) (p4:f7) (s:Int×Int):St:=⟨[(3,.v (.i .u64 s.1)),(7,.v (.sl 1 (ah cE p1))),(8,.I p2),(9,.I s.2)],[cGreader p4]⟩
def xn (p1:List Int) (p2:Int) (p4:f7) (r:Int):Option (Ex×St):=some (.normal,⟨[(3,.v (.i .u64 r))],[cGreader p4]⟩)
theorem GG (C:aj)  (p1:List Int) (p2:Int) (p4:f7) (s:Int×Int) (o:(Int×Int)⊕Int) (hF:qp p1 p2 p4 s=some o):evW TT C.wide n61 b61 0 (u0 p1 p2 p4 s)=Sum.elim (fun s=>evW TT C.wide n61 b61 0 (u0 p1 p2 p4 s)) (fun r=>xn p1 p2 p4 r) o:=by
 obtain⟨p0,p3⟩:=s
 rw [cG TT n61 qfd]
 revert hF
 unfold qp
 try dsimp only
 refine ip (fun h1=>az fun x1 h2=>?_) ?_
 have g1:decide (0<=p3)=true:=(cp h2).1
 have g2:(ah cE p1)[(p3:Int).toNat]? =some [.i .u8 x1]:=cn _ h2
 all_goals (rintro⟨⟩;intros;show cN _ _ _ (aH _ _ _ _ (Code.seq _ _) _)=_;simp (maxSteps:=4000000) only [*,cGreader,u0,xn,qlN,qfv,qjK,Wr,qjc,↓RP,RB,RC,↓ai,Nat.reduceBEq,List.map,Int.reduceLE,↓ao,↓am,↓aa,ty3,ty5,AJ,Ps])
theorem OK (C:aj) (zh:xP C) (p0:f7) (r:Int×f7) (hF:m9 p0=some r):cR TT C.wide (evW TT C.wide n61 b61) n61 Tryz.f61.results.toList (aU Tryz.f61) [.ptr 0 0] [cGreader p0]=some (.I r.1,[cGreader r.2]):=by
 revert hF
 unfold m9
 refine az ?_
 rintro⟨x1,x2⟩ h1
 dsimp only
 have g1:C.wide 96 [.ptr 0 0,.I 8] [cGreader p0]=some (.v (.sl 1 (ah cE x1)),[cGreader x2]):=cX [0] rfl rfl rfl rfl (zh 8 p0 _ h1) rfl rfl
 refine az ?_
 rintro x3 h2
 have g2:=cH _ _ (GG C x1 (x1.length:Int) x2) h2
 try simp only [u0,xn] at g2
 all_goals (rintro⟨⟩;rw [bk];show cC _ _ _ (aH _ _ _ _ (Code.seq _ _) _)=_;simp (maxSteps:=4000000) only [*,cGreader,qfS,qjK,Wr,qic,↓RP,RB,RC,Nat.reduceBEq,List.map,↓ao,↓aa,ty3,AJ,Ps])
def Xy:List (Nat×List Nat):=[(0,[0]),(1,[6,7,8]),(2,[6,8,9]),(3,[4]),(4,[2]),(5,[6,7,8]),(6,[2])]
def qan:List (Nat×List Nat×List Nat):=[(9,[6,8],[])]
def n67:cL where
 keep:=ax Xy
 ro:=fun _=>false
 mv:=fun _=>false
 give:=fun _=>false
 free:=fun _=>[]
 alive:=av qan
theorem qlS (t:Nat) (x:Bool) (e:Env) (S:bH):cK n67 t x ⟨e,S⟩=atO (av qan t x) e S:=cF rfl t x e S
theorem qjb (i:Nat):n67.keep i=ax Xy i:=rfl
theorem qjz (t:Nat):n67.mv t=(false):=rfl
theorem qig (t:Nat):n67.give t=(false):=rfl
theorem qgh:Tryz.f67.results.toList= [.tmp 2]:=rfl
def b67:Code:=aU Tryz.f67
def qh1:Code:=(bE 0 (aU Tryz.f67)).getD .skip
theorem qeG:bE 0 b67=some qh1:=rfl
def tX (p0:List Int) (p1:Int) (p2:f7) (s:Unit):St:=⟨[(6,.v (.sl 1 (ah cE p0))),(7,.I p1),(8,.I 0)],[cGreader p2]⟩
def vW (p0:List Int) (p1:Int) (p2:f7) (r:Int⊕Unit):Option (Ex×St):=match r with
 | .inl r=>some (.ret,⟨[(2,.I r)],[cGreader p2]⟩)
 | .inr r=>some (.normal,⟨[],[cGreader p2]⟩)
theorem Bg (C:aj)  (p0:List Int) (p1:Int) (p2:f7) (s:Unit) (o:Unit⊕(Int⊕Unit)) (hF:vJ p0 p1 p2 s=some o):evW TT C.wide n67 b67 0 (tX p0 p1 p2 s)=Sum.elim (fun s=>evW TT C.wide n67 b67 0 (tX p0 p1 p2 s)) (fun r=>vW p0 p1 p2 r) o:=by
 rw [cG TT n67 qeG]
 revert hF
 unfold vJ
 try dsimp only
 refine ip (fun h1=>az fun x1 h2=>?_) ?_
 have g1:decide (0<=0)=true:=(cp h2).1
 have g2:(ah cE p0)[(0:Int).toNat]? =some [.i .u8 x1]:=cn _ h2
 all_goals (rintro⟨⟩;intros;show cN _ _ _ (aH _ _ _ _ (Code.seq _ _) _)=_;simp (maxSteps:=4000000) only [*,cGreader,tX,vW,qlS,qan,qjb,Xy,qjz,↓RP,RB,RC,↓ai,Nat.reduceBEq,List.map,Int.reduceLE,↓ao,↓am,↓aa,ty3,ty5,AJ])
theorem Rl (C:aj) (zh:xP C) (p0:f7) (r:Int×f7) (hF:nM p0=some r):cR TT C.wide (evW TT C.wide n67 b67) n67 Tryz.f67.results.toList (aU Tryz.f67) [.ptr 0 0] [cGreader p0]=some (.I r.1,[cGreader r.2]):=by
 revert hF
 unfold nM
 refine az ?_
 rintro⟨x1,x2⟩ h1
 dsimp only
 have g1:C.wide 96 [.ptr 0 0,.I 1] [cGreader p0]=some (.v (.sl 1 (ah cE x1)),[cGreader x2]):=cX [0] rfl rfl rfl rfl (zh 1 p0 _ h1) rfl rfl
 refine az ?_
 rintro (x3|_) h2
 focus
  dsimp only
  have g2:=cH _ _ (Bg C x1 (x1.length:Int) x2) h2
  try simp only [tX,vW] at g2
 rotate_left 1
 dsimp only
 have g3:=cH _ _ (Bg C x1 (x1.length:Int) x2) h2
 try simp only [tX,vW] at g3
 all_goals (rintro⟨⟩;rw [bk];show cC _ _ _ (aH _ _ _ _ (Code.seq _ _) _)=_;simp (maxSteps:=4000000) only [*,cGreader,qgh,qjb,Xy,qig,↓RP,RB,RC,Nat.reduceBEq,List.map,↓ao,↓aa,ty3,AJ])
def qcO:List (Nat×List Nat):=[(0,[0]),(1,[2])]
def n64:cL where
 keep:=ax qcO
 ro:=fun _=>false
 mv:=fun _=>false
 give:=fun _=>false
 free:=fun _=>[]
theorem qmr (i:Nat):n64.keep i=ax qcO i:=rfl
theorem qj4 (t:Nat):n64.give t=(false):=rfl
theorem qj0:Tryz.f64.results.toList= [.tmp 2]:=rfl
def b64:Code:=aU Tryz.f64
theorem SN (C:aj) (lN:lD C) (zh:xP C) (p0:f7) (r:ByteArray×f7) (hF:uy p0=some r):cR TT C.wide (evW TT C.wide n64 b64) n64 Tryz.f64.results.toList (aU Tryz.f64) [.ptr 0 0] [cGreader p0]=some (.v (.s r.1),[cGreader r.2]):=by
 revert hF
 unfold uy
 refine az ?_
 rintro⟨x1,x2⟩ h1
 dsimp only
 have g1:C.wide 67 [.ptr 0 0] [cGreader p0]=some (.I x1,[cGreader x2]):=cX [0] rfl rfl rfl rfl (lN p0 _ h1) rfl rfl
 refine az ?_
 rintro⟨x3,x4⟩ h2
 dsimp only
 have g2:C.wide 96 [.ptr 0 0,.I x1] [cGreader x2]=some (.v (.sl 1 (ah cE x3)),[cGreader x4]):=cX [0] rfl rfl rfl rfl (zh x1 x2 _ h2) rfl rfl
 refine oC fun h3=>?_
 all_goals (rintro⟨⟩;rw [bk];show cC _ _ _ (aH _ _ _ _ (Code.seq _ _) _)=_;simp (maxSteps:=4000000) only [*,cGreader,qj0,qmr,qcO,qj4,↓RP,RB,RC,Nat.reduceBEq,List.map,↓ao,↓aa,ty5,ty9,AJ])
def qe6:List (Nat×List Nat):=[(0,[])]
def n97:cL where
 keep:=ax qe6
 ro:=fun _=>false
 mv:=fun _=>false
 give:=fun _=>false
 free:=fun i=>match i with|0=>[(0,2),(1,2),(0,3),(1,3),(0,4),(1,4),(2,4),(3,4),(0,5),(1,5),(0,6),(1,6),(0,7),(1,7)]|_=>[]
theorem qlj (i:Nat):n97.keep i=ax qe6 i:=rfl
theorem qiE (t:Nat):n97.mv t=(false):=rfl
theorem qj5 (t:Nat):n97.give t=(false):=rfl
theorem qki:n97.free 0= [(0,2),(1,2),(0,3),(1,3),(0,4),(1,4),(2,4),(3,4),(0,5),(1,5),(0,6),(1,6),(0,7),(1,7)]:=rfl
theorem qiS:Tryz.f97.results.toList= []:=rfl
def b97:Code:=aU Tryz.f97
theorem Gu (C:aj) (pP:pN C) (p0:f7) (p1:ae) (r:f7×ae) (hF:tl p0 p1=some r):cR TT C.wide (evW TT C.wide n97 b97) n97 Tryz.f97.results.toList (aU Tryz.f97) [.ptr 1 0,.ptr 2 0] [cGreader p0,[.I p1.e5,.v (.s p1.iq),.I p1.iO,.own 2 (ah iC.row p1.iz),.own 1 (ah bY p1.af),.own 2 (ah f5.row p1.f9)],[.ptr 0 0]]=some (.tup [],[cGreader r.1,[.I r.2.e5,.v (.s r.2.iq),.I r.2.iO,.own 2 (ah iC.row r.2.iz),.own 1 (ah bY r.2.af),.own 2 (ah f5.row r.2.f9)],[.ptr 0 0]]):=by
 revert hF
 unfold tl
 refine az ?_
 rintro⟨x1,x2⟩ h1
 dsimp only
 have g1:C.wide 64 [.ptr 0 0] [cGreader p0,[.I p1.e5,.v (.s p1.iq),.I p1.iO,.own 2 (ah iC.row p1.iz),.own 1 (ah bY p1.af),.own 2 (ah f5.row p1.f9)],[.ptr 0 0]]=some (.v (.s x1),[cGreader x2,[.I p1.e5,.v (.s p1.iq),.I p1.iO,.own 2 (ah iC.row p1.iz),.own 1 (ah bY p1.af),.own 2 (ah f5.row p1.f9)],[.ptr 0 0]]):=cX [0] rfl rfl rfl rfl (pP p0 _ h1) rfl rfl
 refine az ?_
 rintro⟨x3,x4⟩ h2
 dsimp only
 have g2:C.wide 64 [.ptr 0 0] [cGreader x2,[.I p1.e5,.v (.s p1.iq),.I p1.iO,.own 2 (ah iC.row p1.iz),.own 1 (ah bY p1.af),.own 2 (ah f5.row p1.f9)],[.ptr 0 0]]=some (.v (.s x3),[cGreader x4,[.I p1.e5,.v (.s p1.iq),.I p1.iO,.own 2 (ah iC.row p1.iz),.own 1 (ah bY p1.af),.own 2 (ah f5.row p1.f9)],[.ptr 0 0]]):=cX [0] rfl rfl rfl rfl (pP x2 _ h2) rfl rfl
 refine oC fun h3=>?_
 all_goals (rintro⟨⟩;rw [bk];show cC _ _ _ (aH _ _ _ _ (Code.region _ _ _) _)=_;simp (maxSteps:=4000000) only [*,cGreader,qiS,qlj,qe6,qki,qiE,qj5,↓RP,RB,RC,Nat.reduceBEq,bP,List.map,Nat.reduceAdd,Nat.reduceMul,List.foldl_cons,List.foldl_nil,List.filter_cons,List.filter_nil,Nat.reduceSub,Nat.reduceLeDiff,bne,↓aq,ty9,ti,kU,CV,AE,iC.one])
def Dm:List (Nat×List Nat):=[(0,[0,1,4]),(1,[0,1,4,15]),(2,[0,1,4]),(3,[0,1,4])]
def NB:List (Nat×List Nat×List Nat):=[(15,[0,1,4],[])]
def n62:cL where
 keep:=ax Dm
 ro:=fun _=>false
 mv:=fun _=>false
 give:=fun _=>false
 free:=fun _=>[]
 alive:=av NB
theorem SU (t:Nat) (x:Bool) (e:Env) (S:bH):cK n62 t x ⟨e,S⟩=atO (av NB t x) e S:=cF rfl t x e S
theorem GY (i:Nat):n62.keep i=ax Dm i:=rfl
theorem L8 (t:Nat):n62.mv t=(false):=rfl
theorem MZ (t:Nat):n62.give t=(false):=rfl
theorem MM:Tryz.f62.results.toList= []:=rfl
def b62:Code:=aU Tryz.f62
def qgx:Code:=(bE 0 (aU Tryz.f62)).getD .skip
theorem EP:bE 0 b62=some qgx:=rfl
end Go.Proofs.YtgcglmoogaldbaaGreat
