/- The code of these functions, run by the machine Mx, gives what the plain functions say, if their callees do (part 5). -/
import Derived.Test.YtgcglmoogaldbaaGreatWTy
import Derived.Test.YtgcglmoogaldbaaGreatTapeRecoversD
set_option linter.unusedSimpArgs false
set_option linter.unusedVariables false
set_option linter.constructorNameAsVariable false
set_option linter.unnecessarySimpa false
set_option maxRecDepth 100000
set_option maxHeartbeats 40000000
namespace Go.Proofs.YtgcglmoogaldbaaGreat
open Go Go.Mx Go.Proofs
def Ol:List (Nat×List Nat):=[(0,[0,2]),(1,[0,2,14]),(2,[2,3]),(3,[2,4]),(4,[2,4,5]),(5,[2,4,5]),(6,[2,4,5,6]),(7,[2,4,5,6,7]),(8,[2,4,5,6,7,33]),(9,[2,4,5,6,7]),(10,[2,4,5,6,7,8]),(11,[2,4,5,6,7,8]),(12,[2,4,5,6,7,8]),(13,[2,4,5,6,7,8]),(14,[2,4,5,6,7]),(15,[2,4,5]),(16,[2,4,5,6]),(17,[2,4,5,6,9]),(18,[2,4,5,6,9,66]),(19,[2,4,5,6,9]),(20,[2,4,5,6,9,10]),(21,[2,4,5,6,9,10]),(22,[2,4,5,6,9,10]),(23,[2,4,5,6,9,10]),(24,[2,4,5,6,9,10]),(25,[2,4,5,6,9,10]),(26,[2,4,5,6,9,10]),(27,[2,4,5,6,9,10]),(28,[2,4,5,6,9]),(29,[2,5,11]),(30,[2,5,11,104]),(31,[2,5,11]),(32,[2,5,11,108]),(33,[2,3]),(34,[2,3])]
def OT:List (Nat×List Nat×List Nat):=[(14,[2],[0,2]),(33,[2,4,5,6,7],[2,4,5]),(66,[2,4,5,6,9],[2,4,5]),(104,[2,5],[2,5,11]),(108,[2,11],[2,5])]
def n44:cL where
 keep:=ax Ol
 ro:=fun _=>false
 mv:=fun t=>t==49||t==97||t==111
 give:=fun _=>false
 free:=fun _=>[]
 alive:=av OT
theorem TN (t:Nat) (x:Bool) (e:Env) (S:bH):cK n44 t x ⟨e,S⟩=atO (av OT t x) e S:=cF rfl t x e S
theorem Sw (i:Nat):n44.keep i=ax Ol i:=rfl
theorem qed (t:Nat):n44.ro t=(false):=rfl
theorem NE (t:Nat):n44.mv t=(t==49||t==97||t==111):=rfl
theorem Qd (t:Nat):n44.give t=(false):=rfl
theorem qgQ:Tryz.f44.results.toList= [.cell 2 39,.tmp 3]:=rfl
noncomputable def b44:Code:=aU Tryz.f44
noncomputable def qeP:Code:=(bE 0 (aU Tryz.f44)).getD .skip
theorem Zs:bE 0 b44=some qeP:=rfl
noncomputable def qeF:Code:=(bE 2 (aU Tryz.f44)).getD .skip
theorem qaS:bE 2 b44=some qeF:=rfl
def rU (p0:Int) (s:Int×iK×iv):St:=⟨[(2,.ptr 0 0),(4,.ptr 1 0),(5,.ptr 2 0),(6,.v (.i .i64 p0)),(7,.v (.i .i64 s.1))],[[.v (.i .i64 0),.own 8 [],.v (.i .i64 0),.own 7 []],[.v (.sl 1 (ah cE s.2.1.fb)),.v (.i .i64 s.2.1.fat)],[.v (.i .i64 s.2.2.af.iL),.own 8 (ah ip.row s.2.2.af.bi),.v (.i .i64 s.2.2.iG),.own 7 (ah gi.row s.2.2.bz)]]⟩
def uj (p0:Int) (r:iK×iv):Option (Ex×St):=some (.normal,⟨[(2,.ptr 0 0),(4,.ptr 1 0),(5,.ptr 2 0)],[[.v (.i .i64 0),.own 8 [],.v (.i .i64 0),.own 7 []],[.v (.sl 1 (ah cE r.1.fb)),.v (.i .i64 r.1.fat)],[.v (.i .i64 r.2.af.iL),.own 8 (ah ip.row r.2.af.bi),.v (.i .i64 r.2.iG),.own 7 (ah gi.row r.2.bz)]]⟩)
theorem BE (C:aj) (ji:jV C) (jw:kQ C) (sZ:sS C) (jr:lA C) (p0:Int) (s:Int×iK×iv) (o:(Int×iK×iv)⊕(iK×iv)) (hF:lk p0 s=some o):evW TT C.wide n44 b44 0 (rU p0 s)=Sum.elim (fun s=>evW TT C.wide n44 b44 0 (rU p0 s)) (fun r=>uj p0 r) o:=by
 obtain⟨p1,p2,p3⟩:=s
 rw [cG TT n44 Zs]
 revert hF
 unfold lk
 try dsimp only
 refine bF (fun h1=>?_) (fun h1=>?_)
 rotate_left 1
 refine az ?_
 rintro⟨x1,x2⟩ h2
 dsimp only
 have g1:C.wide 86 [.ptr 1 0] [[.v (.i .i64 0),.own 8 [],.v (.i .i64 0),.own 7 []],[.v (.sl 1 (ah cE p2.fb)),.v (.i .i64 p2.fat)],[.v (.i .i64 p3.af.iL),.own 8 (ah ip.row p3.af.bi),.v (.i .i64 p3.iG),.own 7 (ah gi.row p3.bz)]]=some (.v (.b x1),[[.v (.i .i64 0),.own 8 [],.v (.i .i64 0),.own 7 []],[.v (.sl 1 (ah cE x2.fb)),.v (.i .i64 x2.fat)],[.v (.i .i64 p3.af.iL),.own 8 (ah ip.row p3.af.bi),.v (.i .i64 p3.iG),.own 7 (ah gi.row p3.bz)]]):=cX [1] rfl rfl rfl rfl (ji p2 _ h2) rfl rfl
 refine aX (fun h3=>?_) (fun h3=>?_)
 rotate_left 1
 refine az ?_
 rintro⟨x3,x4⟩ h4
 dsimp only
 have g2:C.wide 87 [.ptr 1 0] [[.v (.i .i64 0),.own 8 [],.v (.i .i64 0),.own 7 []],[.v (.sl 1 (ah cE x2.fb)),.v (.i .i64 x2.fat)],[.v (.i .i64 p3.af.iL),.own 8 (ah ip.row p3.af.bi),.v (.i .i64 p3.iG),.own 7 (ah gi.row p3.bz)],[.v (.s ByteArray.empty),.v (.i .i64 0),.v (.s ByteArray.empty),.v (.i .i64 0),.own 2 [],.own 1 [],.own 2 [],.v (.i .i64 0)]]=some (.v (.s x3),[[.v (.i .i64 0),.own 8 [],.v (.i .i64 0),.own 7 []],[.v (.sl 1 (ah cE x4.fb)),.v (.i .i64 x4.fat)],[.v (.i .i64 p3.af.iL),.own 8 (ah ip.row p3.af.bi),.v (.i .i64 p3.iG),.own 7 (ah gi.row p3.bz)],[.v (.s ByteArray.empty),.v (.i .i64 0),.v (.s ByteArray.empty),.v (.i .i64 0),.own 2 [],.own 1 [],.own 2 [],.v (.i .i64 0)]]):=cX [1] rfl rfl rfl rfl (jw x2 _ h4) rfl rfl
 refine az ?_
 rintro⟨x5,x6⟩ h5
 dsimp only
 have g3:C.wide 88 [.ptr 1 0] [[.v (.i .i64 0),.own 8 [],.v (.i .i64 0),.own 7 []],[.v (.sl 1 (ah cE x4.fb)),.v (.i .i64 x4.fat)],[.v (.i .i64 p3.af.iL),.own 8 (ah ip.row p3.af.bi),.v (.i .i64 p3.iG),.own 7 (ah gi.row p3.bz)],[.v (.s x3),.v (.i .i64 0),.v (.s ByteArray.empty),.v (.i .i64 0),.own 2 [],.own 1 [],.own 2 [],.v (.i .i64 0)]]=some (.agg [.v (.i .i64 x5.bt),.v (.s x5.iq),.v (.i .i64 x5.iF),.own 2 (ah iD.row x5.iA),.own 1 (ah bY x5.iC),.own 2 (ah im.row x5.il)],[[.v (.i .i64 0),.own 8 [],.v (.i .i64 0),.own 7 []],[.v (.sl 1 (ah cE x6.fb)),.v (.i .i64 x6.fat)],[.v (.i .i64 p3.af.iL),.own 8 (ah ip.row p3.af.bi),.v (.i .i64 p3.iG),.own 7 (ah gi.row p3.bz)],[.v (.s x3),.v (.i .i64 0),.v (.s ByteArray.empty),.v (.i .i64 0),.own 2 [],.own 1 [],.own 2 [],.v (.i .i64 0)]]):=cX [1] rfl rfl rfl rfl (sZ x4 _ h5) rfl rfl
 refine az ?_
 rintro⟨x7,x8⟩ h6
 dsimp only
 have g4:C.wide 84 [.ptr 1 0] [[.v (.i .i64 0),.own 8 [],.v (.i .i64 0),.own 7 []],[.v (.sl 1 (ah cE x6.fb)),.v (.i .i64 x6.fat)],[.v (.i .i64 p3.af.iL),.own 8 (ah ip.row p3.af.bi),.v (.i .i64 p3.iG),.own 7 (ah gi.row p3.bz)],[.v (.s x3),.v (.i .i64 x5.bt),.v (.s x5.iq),.v (.i .i64 x5.iF),.own 2 (ah iD.row x5.iA),.own 1 (ah bY x5.iC),.own 2 (ah im.row x5.il),.v (.i .i64 0)]]=some (.v (.i .i64 x7),[[.v (.i .i64 0),.own 8 [],.v (.i .i64 0),.own 7 []],[.v (.sl 1 (ah cE x8.fb)),.v (.i .i64 x8.fat)],[.v (.i .i64 p3.af.iL),.own 8 (ah ip.row p3.af.bi),.v (.i .i64 p3.iG),.own 7 (ah gi.row p3.bz)],[.v (.s x3),.v (.i .i64 x5.bt),.v (.s x5.iq),.v (.i .i64 x5.iF),.own 2 (ah iD.row x5.iA),.own 1 (ah bY x5.iC),.own 2 (ah im.row x5.il),.v (.i .i64 0)]]):=cX [1] rfl rfl rfl rfl (jr x6 _ h6) rfl rfl
 refine aX (fun h7=>?_) (fun _=>nofun)
 all_goals (rintro⟨⟩;show cN _ _ _ (aH _ _ _ _ (Code.seq _ _) _)=_;simp (maxSteps:=4000000) only [*,rU,uj,TN,OT,Sw,Ol,NE,Qd,↓RP,RB,RC,↓ai,Nat.reduceBEq,bP,List.map,Nat.reduceAdd,Nat.reduceMul,Nat.reduceLT,Nat.reduceLeDiff,bne,↓ao,↓am,↓aa,ty3,ty9,Bp,wv,u4,mh,zS,ip.one])
def sh (p0:Int) (s:Int×iK×iv):St:=⟨[(2,.ptr 0 0),(4,.ptr 1 0),(5,.ptr 2 0),(6,.v (.i .i64 p0)),(9,.v (.i .i64 s.1))],[[.v (.i .i64 0),.own 8 [],.v (.i .i64 0),.own 7 []],[.v (.sl 1 (ah cE s.2.1.fb)),.v (.i .i64 s.2.1.fat)],[.v (.i .i64 s.2.2.af.iL),.own 8 (ah ip.row s.2.2.af.bi),.v (.i .i64 s.2.2.iG),.own 7 (ah gi.row s.2.2.bz)]]⟩
def uC (p0:Int) (r:iK×iv):Option (Ex×St):=some (.normal,⟨[(2,.ptr 0 0),(4,.ptr 1 0),(5,.ptr 2 0)],[[.v (.i .i64 0),.own 8 [],.v (.i .i64 0),.own 7 []],[.v (.sl 1 (ah cE r.1.fb)),.v (.i .i64 r.1.fat)],[.v (.i .i64 r.2.af.iL),.own 8 (ah ip.row r.2.af.bi),.v (.i .i64 r.2.iG),.own 7 (ah gi.row r.2.bz)]]⟩)
theorem BK (C:aj) (ji:jV C) (jr:lA C) (jl:jZ C) (jw:kQ C) (su:sr C) (p0:Int) (s:Int×iK×iv) (o:(Int×iK×iv)⊕(iK×iv)) (hF:lm p0 s=some o):evW TT C.wide n44 b44 2 (sh p0 s)=Sum.elim (fun s=>evW TT C.wide n44 b44 2 (sh p0 s)) (fun r=>uC p0 r) o:=by
 obtain⟨p1,p2,p3⟩:=s
 rw [cG TT n44 qaS]
 revert hF
 unfold lm
 try dsimp only
 refine bF (fun h1=>?_) (fun h1=>?_)
 rotate_left 1
 refine az ?_
 rintro⟨x1,x2⟩ h2
 dsimp only
 have g1:C.wide 86 [.ptr 1 0] [[.v (.i .i64 0),.own 8 [],.v (.i .i64 0),.own 7 []],[.v (.sl 1 (ah cE p2.fb)),.v (.i .i64 p2.fat)],[.v (.i .i64 p3.af.iL),.own 8 (ah ip.row p3.af.bi),.v (.i .i64 p3.iG),.own 7 (ah gi.row p3.bz)]]=some (.v (.b x1),[[.v (.i .i64 0),.own 8 [],.v (.i .i64 0),.own 7 []],[.v (.sl 1 (ah cE x2.fb)),.v (.i .i64 x2.fat)],[.v (.i .i64 p3.af.iL),.own 8 (ah ip.row p3.af.bi),.v (.i .i64 p3.iG),.own 7 (ah gi.row p3.bz)]]):=cX [1] rfl rfl rfl rfl (ji p2 _ h2) rfl rfl
 refine aX (fun h3=>?_) (fun h3=>?_)
 rotate_left 1
 refine az ?_
 rintro⟨x3,x4⟩ h4
 dsimp only
 unfold sk
 have g2:C.wide 84 [.ptr 1 0] [[.v (.i .i64 0),.own 8 [],.v (.i .i64 0),.own 7 []],[.v (.sl 1 (ah cE x2.fb)),.v (.i .i64 x2.fat)],[.v (.i .i64 p3.af.iL),.own 8 (ah ip.row p3.af.bi),.v (.i .i64 p3.iG),.own 7 (ah gi.row p3.bz)],[.v (.i .i64 0),.v (.i .i64 0),.v (.i .i64 0),.v (.i .i64 0),.v (.s ByteArray.empty),.v (.i .i64 0),.own 1 []]]=some (.v (.i .i64 x3),[[.v (.i .i64 0),.own 8 [],.v (.i .i64 0),.own 7 []],[.v (.sl 1 (ah cE x4.fb)),.v (.i .i64 x4.fat)],[.v (.i .i64 p3.af.iL),.own 8 (ah ip.row p3.af.bi),.v (.i .i64 p3.iG),.own 7 (ah gi.row p3.bz)],[.v (.i .i64 0),.v (.i .i64 0),.v (.i .i64 0),.v (.i .i64 0),.v (.s ByteArray.empty),.v (.i .i64 0),.own 1 []]]):=cX [1] rfl rfl rfl rfl (jr x2 _ h4) rfl rfl
 refine az ?_
 rintro⟨x5,x6⟩ h5
 dsimp only
 have g3:C.wide 84 [.ptr 1 0] [[.v (.i .i64 0),.own 8 [],.v (.i .i64 0),.own 7 []],[.v (.sl 1 (ah cE x4.fb)),.v (.i .i64 x4.fat)],[.v (.i .i64 p3.af.iL),.own 8 (ah ip.row p3.af.bi),.v (.i .i64 p3.iG),.own 7 (ah gi.row p3.bz)],[.v (.i .i64 x3),.v (.i .i64 0),.v (.i .i64 0),.v (.i .i64 0),.v (.s ByteArray.empty),.v (.i .i64 0),.own 1 []]]=some (.v (.i .i64 x5),[[.v (.i .i64 0),.own 8 [],.v (.i .i64 0),.own 7 []],[.v (.sl 1 (ah cE x6.fb)),.v (.i .i64 x6.fat)],[.v (.i .i64 p3.af.iL),.own 8 (ah ip.row p3.af.bi),.v (.i .i64 p3.iG),.own 7 (ah gi.row p3.bz)],[.v (.i .i64 x3),.v (.i .i64 0),.v (.i .i64 0),.v (.i .i64 0),.v (.s ByteArray.empty),.v (.i .i64 0),.own 1 []]]):=cX [1] rfl rfl rfl rfl (jr x4 _ h5) rfl rfl
 refine az ?_
 rintro⟨x7,x8⟩ h6
 dsimp only
 have g4:C.wide 84 [.ptr 1 0] [[.v (.i .i64 0),.own 8 [],.v (.i .i64 0),.own 7 []],[.v (.sl 1 (ah cE x6.fb)),.v (.i .i64 x6.fat)],[.v (.i .i64 p3.af.iL),.own 8 (ah ip.row p3.af.bi),.v (.i .i64 p3.iG),.own 7 (ah gi.row p3.bz)],[.v (.i .i64 x3),.v (.i .i64 x5),.v (.i .i64 0),.v (.i .i64 0),.v (.s ByteArray.empty),.v (.i .i64 0),.own 1 []]]=some (.v (.i .i64 x7),[[.v (.i .i64 0),.own 8 [],.v (.i .i64 0),.own 7 []],[.v (.sl 1 (ah cE x8.fb)),.v (.i .i64 x8.fat)],[.v (.i .i64 p3.af.iL),.own 8 (ah ip.row p3.af.bi),.v (.i .i64 p3.iG),.own 7 (ah gi.row p3.bz)],[.v (.i .i64 x3),.v (.i .i64 x5),.v (.i .i64 0),.v (.i .i64 0),.v (.s ByteArray.empty),.v (.i .i64 0),.own 1 []]]):=cX [1] rfl rfl rfl rfl (jr x6 _ h6) rfl rfl
 refine az ?_
 rintro⟨x9,x10⟩ h7
 dsimp only
 have g5:C.wide 85 [.ptr 1 0] [[.v (.i .i64 0),.own 8 [],.v (.i .i64 0),.own 7 []],[.v (.sl 1 (ah cE x8.fb)),.v (.i .i64 x8.fat)],[.v (.i .i64 p3.af.iL),.own 8 (ah ip.row p3.af.bi),.v (.i .i64 p3.iG),.own 7 (ah gi.row p3.bz)],[.v (.i .i64 x3),.v (.i .i64 x5),.v (.i .i64 x7),.v (.i .i64 0),.v (.s ByteArray.empty),.v (.i .i64 0),.own 1 []]]=some (.v (.i .i64 x9),[[.v (.i .i64 0),.own 8 [],.v (.i .i64 0),.own 7 []],[.v (.sl 1 (ah cE x10.fb)),.v (.i .i64 x10.fat)],[.v (.i .i64 p3.af.iL),.own 8 (ah ip.row p3.af.bi),.v (.i .i64 p3.iG),.own 7 (ah gi.row p3.bz)],[.v (.i .i64 x3),.v (.i .i64 x5),.v (.i .i64 x7),.v (.i .i64 0),.v (.s ByteArray.empty),.v (.i .i64 0),.own 1 []]]):=cX [1] rfl rfl rfl rfl (jl x8 _ h7) rfl rfl
 refine az ?_
 rintro⟨x11,x12⟩ h8
 dsimp only
 have g6:C.wide 87 [.ptr 1 0] [[.v (.i .i64 0),.own 8 [],.v (.i .i64 0),.own 7 []],[.v (.sl 1 (ah cE x10.fb)),.v (.i .i64 x10.fat)],[.v (.i .i64 p3.af.iL),.own 8 (ah ip.row p3.af.bi),.v (.i .i64 p3.iG),.own 7 (ah gi.row p3.bz)],[.v (.i .i64 x3),.v (.i .i64 x5),.v (.i .i64 x7),.v (.i .i64 x9),.v (.s ByteArray.empty),.v (.i .i64 0),.own 1 []]]=some (.v (.s x11),[[.v (.i .i64 0),.own 8 [],.v (.i .i64 0),.own 7 []],[.v (.sl 1 (ah cE x12.fb)),.v (.i .i64 x12.fat)],[.v (.i .i64 p3.af.iL),.own 8 (ah ip.row p3.af.bi),.v (.i .i64 p3.iG),.own 7 (ah gi.row p3.bz)],[.v (.i .i64 x3),.v (.i .i64 x5),.v (.i .i64 x7),.v (.i .i64 x9),.v (.s ByteArray.empty),.v (.i .i64 0),.own 1 []]]):=cX [1] rfl rfl rfl rfl (jw x10 _ h8) rfl rfl
 refine az ?_
 rintro⟨x13,x14⟩ h9
 dsimp only
 have g7:C.wide 84 [.ptr 1 0] [[.v (.i .i64 0),.own 8 [],.v (.i .i64 0),.own 7 []],[.v (.sl 1 (ah cE x12.fb)),.v (.i .i64 x12.fat)],[.v (.i .i64 p3.af.iL),.own 8 (ah ip.row p3.af.bi),.v (.i .i64 p3.iG),.own 7 (ah gi.row p3.bz)],[.v (.i .i64 x3),.v (.i .i64 x5),.v (.i .i64 x7),.v (.i .i64 x9),.v (.s x11),.v (.i .i64 0),.own 1 []]]=some (.v (.i .i64 x13),[[.v (.i .i64 0),.own 8 [],.v (.i .i64 0),.own 7 []],[.v (.sl 1 (ah cE x14.fb)),.v (.i .i64 x14.fat)],[.v (.i .i64 p3.af.iL),.own 8 (ah ip.row p3.af.bi),.v (.i .i64 p3.iG),.own 7 (ah gi.row p3.bz)],[.v (.i .i64 x3),.v (.i .i64 x5),.v (.i .i64 x7),.v (.i .i64 x9),.v (.s x11),.v (.i .i64 0),.own 1 []]]):=cX [1] rfl rfl rfl rfl (jr x12 _ h9) rfl rfl
 refine az ?_
 rintro⟨x15,x16⟩ h10
 dsimp only
 have g8:C.wide 89 [.ptr 1 0] [[.v (.i .i64 0),.own 8 [],.v (.i .i64 0),.own 7 []],[.v (.sl 1 (ah cE x14.fb)),.v (.i .i64 x14.fat)],[.v (.i .i64 p3.af.iL),.own 8 (ah ip.row p3.af.bi),.v (.i .i64 p3.iG),.own 7 (ah gi.row p3.bz)],[.v (.i .i64 x3),.v (.i .i64 x5),.v (.i .i64 x7),.v (.i .i64 x9),.v (.s x11),.v (.i .i64 x13),.own 1 []]]=some (.own 1 (ah bY x15),[[.v (.i .i64 0),.own 8 [],.v (.i .i64 0),.own 7 []],[.v (.sl 1 (ah cE x16.fb)),.v (.i .i64 x16.fat)],[.v (.i .i64 p3.af.iL),.own 8 (ah ip.row p3.af.bi),.v (.i .i64 p3.iG),.own 7 (ah gi.row p3.bz)],[.v (.i .i64 x3),.v (.i .i64 x5),.v (.i .i64 x7),.v (.i .i64 x9),.v (.s x11),.v (.i .i64 x13),.own 1 []]]):=cX [1] rfl rfl rfl rfl (su x14 _ h10) rfl rfl
 refine aX (fun h11=>?_) (fun _=>nofun)
 try simp only [h3] at g6 g7 g8
 all_goals (rintro⟨⟩;show cN _ _ _ (aH _ _ _ _ (Code.seq _ _) _)=_;simp (maxSteps:=4000000) only [*,sh,uC,TN,OT,Sw,Ol,NE,Qd,↓RP,RB,RC,↓ai,Nat.reduceBEq,bP,List.map,Nat.reduceAdd,Nat.reduceMul,Nat.reduceLT,Nat.reduceLeDiff,bne,↓ao,↓am,↓aa,ty3,ty9,mD,Ab,u4,ph,zR,A5,gi.one])
theorem zE (C:aj) (pT:pE C) (p0:Int) (p1:Bool) (p2:iK) (p3:iv) (c:Code) (ho:cD 1 104 b44=some c) (r:Int) (hF:po p0 p1 p2 p3=some r): @cV TT C.wide (evW TT C.wide n44 b44) n44 1 104 ⟨[(2,.ptr 0 0),(5,.ptr 2 0),(11,.v (.i .i64 p0)),(104,.v (.b p1))],[[.v (.i .i64 0),.own 8 [],.v (.i .i64 0),.own 7 []],[.v (.sl 1 (ah cE p2.fb)),.v (.i .i64 p2.fat)],[.v (.i .i64 p3.af.iL),.own 8 (ah ip.row p3.af.bi),.v (.i .i64 p3.iG),.own 7 (ah gi.row p3.bz)]]⟩ ⟨c⟩=some (.normal,⟨[(2,.ptr 0 0),(5,.ptr 2 0),(11,.v (.i .i64 r))],[[.v (.i .i64 0),.own 8 [],.v (.i .i64 0),.own 7 []],[.v (.sl 1 (ah cE p2.fb)),.v (.i .i64 p2.fat)],[.v (.i .i64 p3.af.iL),.own 8 (ah ip.row p3.af.bi),.v (.i .i64 p3.iG),.own 7 (ah gi.row p3.bz)]]⟩):=by
 have e:=Option.some.inj (ho.symm.trans (rfl:cD 1 104 b44=some _))
 subst e
 clear ho
 show aH _ _ _ _ _ _=_
 revert hF
 unfold po
 refine bF (fun h1=>?_) (fun h1=>?_)
 rotate_left 1
 refine az fun x1 h2=>?_
 have g1:=bK (pT p3 _ h2)
 all_goals (rintro⟨⟩;simp (maxSteps:=4000000) only [*,TN,OT,Sw,Ol,NE,↓RP,RB,RC,Nat.reduceBEq,List.map,Nat.reduceAdd,↓am,aP,mD,u4,↓aa _ _ _ _ 31])
theorem Fq (C:aj) (jr:lA C) (jl:jZ C) (xK:vF C) (pT:pE C) (ji:jV C) (jw:kQ C) (sZ:sS C) (su:sr C) (p0:List Int) (r:iv×Int) (hF:rq p0=some r):cR TT C.wide (evW TT C.wide n44 b44) n44 Tryz.f44.results.toList (aU Tryz.f44) [.v (.sl 1 (ah cE p0))] []=some (.tup [.agg [.v (.i .i64 r.1.af.iL),.v (.sl 8 (ah ip.row r.1.af.bi)),.v (.i .i64 r.1.iG),.v (.sl 7 (ah gi.row r.1.bz))],.v (.i .i64 r.2)],[]):=by
 revert hF
 unfold rq
 refine aX (fun h1=>?_) (fun h1=>?_)
 rotate_left 1
 refine az ?_
 rintro⟨x1,x2⟩ h2
 dsimp only
 have g1:C.wide 84 [.ptr 1 0] [[.v (.i .i64 0),.own 8 [],.v (.i .i64 0),.own 7 []],[.v (.sl 1 (ah cE p0)),.v (.i .i64 0)],[.v (.i .i64 0),.own 8 [],.v (.i .i64 0),.own 7 []]]=some (.v (.i .i64 x1),[[.v (.i .i64 0),.own 8 [],.v (.i .i64 0),.own 7 []],[.v (.sl 1 (ah cE x2.fb)),.v (.i .i64 x2.fat)],[.v (.i .i64 0),.own 8 [],.v (.i .i64 0),.own 7 []]]):=cX [1] rfl rfl rfl rfl (jr (iK.mk p0 0) _ h2) rfl rfl
 refine az ?_
 rintro⟨x3,x4⟩ h3
 dsimp only
 have g2:C.wide 85 [.ptr 1 0] [[.v (.i .i64 0),.own 8 [],.v (.i .i64 0),.own 7 []],[.v (.sl 1 (ah cE x2.fb)),.v (.i .i64 x2.fat)],[.v (.i .i64 x1),.own 8 [],.v (.i .i64 0),.own 7 []]]=some (.v (.i .i64 x3),[[.v (.i .i64 0),.own 8 [],.v (.i .i64 0),.own 7 []],[.v (.sl 1 (ah cE x4.fb)),.v (.i .i64 x4.fat)],[.v (.i .i64 x1),.own 8 [],.v (.i .i64 0),.own 7 []]]):=cX [1] rfl rfl rfl rfl (jl x2 _ h3) rfl rfl
 refine az ?_
 rintro⟨x5,x6⟩ h4
 dsimp only
 unfold vV
 have g3:=cH _ _ (BE C ji jw sZ jr x3) h4
 try simp only [ak,rU,uj] at g3
 refine az ?_
 rintro⟨x7,x8⟩ h5
 dsimp only
 have g4:C.wide 84 [.ptr 1 0] [[.v (.i .i64 0),.own 8 [],.v (.i .i64 0),.own 7 []],[.v (.sl 1 (ah cE x5.fb)),.v (.i .i64 x5.fat)],[.v (.i .i64 x6.af.iL),.own 8 (ah ip.row x6.af.bi),.v (.i .i64 x6.iG),.own 7 (ah gi.row x6.bz)]]=some (.v (.i .i64 x7),[[.v (.i .i64 0),.own 8 [],.v (.i .i64 0),.own 7 []],[.v (.sl 1 (ah cE x8.fb)),.v (.i .i64 x8.fat)],[.v (.i .i64 x6.af.iL),.own 8 (ah ip.row x6.af.bi),.v (.i .i64 x6.iG),.own 7 (ah gi.row x6.bz)]]):=cX [1] rfl rfl rfl rfl (jr x5 _ h5) rfl rfl
 refine az ?_
 rintro⟨x9,x10⟩ h6
 dsimp only
 have g5:C.wide 85 [.ptr 1 0] [[.v (.i .i64 0),.own 8 [],.v (.i .i64 0),.own 7 []],[.v (.sl 1 (ah cE x8.fb)),.v (.i .i64 x8.fat)],[.v (.i .i64 x6.af.iL),.own 8 (ah ip.row x6.af.bi),.v (.i .i64 x7),.own 7 (ah gi.row x6.bz)]]=some (.v (.i .i64 x9),[[.v (.i .i64 0),.own 8 [],.v (.i .i64 0),.own 7 []],[.v (.sl 1 (ah cE x10.fb)),.v (.i .i64 x10.fat)],[.v (.i .i64 x6.af.iL),.own 8 (ah ip.row x6.af.bi),.v (.i .i64 x7),.own 7 (ah gi.row x6.bz)]]):=cX [1] rfl rfl rfl rfl (jl x8 _ h6) rfl rfl
 refine az ?_
 rintro⟨x11,x12⟩ h7
 dsimp only
 unfold wh
 have g6:=cH _ _ (BK C ji jr jl jw su x9) h7
 try simp only [sh,uC] at g6
 refine az ?_
 rintro⟨x13,x14⟩ h8
 dsimp only
 have g7:C.wide 83 [.ptr 1 0,.v (.b true)] [[.v (.i .i64 0),.own 8 [],.v (.i .i64 0),.own 7 []],[.v (.sl 1 (ah cE x11.fb)),.v (.i .i64 x11.fat)],[.v (.i .i64 x12.af.iL),.own 8 (ah ip.row x12.af.bi),.v (.i .i64 x12.iG),.own 7 (ah gi.row x12.bz)]]=some (.v (.i .i64 x13),[[.v (.i .i64 0),.own 8 [],.v (.i .i64 0),.own 7 []],[.v (.sl 1 (ah cE x14.fb)),.v (.i .i64 x14.fat)],[.v (.i .i64 x12.af.iL),.own 8 (ah ip.row x12.af.bi),.v (.i .i64 x12.iG),.own 7 (ah gi.row x12.bz)]]):=cX [1] rfl rfl rfl rfl (xK true x11 _ h8) rfl rfl
 refine az fun x15 h9=>?_
 have g8:=zE C pT x13 (x13==0) x14 x12 _ rfl _ h9
 refine aX (fun h10=>?_) (fun h10=>?_)
 rotate_left 1
 all_goals (rintro⟨⟩;rw [bk];show cC _ _ _ (aH _ _ _ _ (Code.seq _ _) _)=_;simp (maxSteps:=4000000) only [*,qgQ,TN,OT,Sw,Ol,qed,NE,Qd,↓RP,RB,RC,Nat.reduceBEq,bP,List.map,Nat.reduceAdd,Nat.reduceLeDiff,bne,↓ao,ty3,qM,mD,wv,Ab,u4,Vx,Kn,↓aa _ _ _ _ 0,↓aa _ _ _ _ 1,↓am _ _ _ _ 14,↓aa _ _ _ _ 2,↓aa _ _ _ _ 3,↓aa _ _ _ _ 4,↓aa _ _ _ _ 5,↓aa _ _ _ _ 6,↓aa _ _ _ _ 7,↓aa _ _ _ _ 15,↓aa _ _ _ _ 16,↓aa _ _ _ _ 17,↓aa _ _ _ _ 29,↓aa _ _ _ _ 30,↓kZ _ _ _ _ 104,↓aa _ _ _ _ 32,↓am _ _ _ _ 108,↓aa _ _ _ _ 33,↓aa _ _ _ _ 34])
def qaK:List (Nat×List Nat):=[(0,[0,2]),(1,[0,2,4]),(2,[0,2,4,20]),(3,[2,3]),(4,[0,2,4]),(5,[0,2,4,29]),(6,[0,2,4]),(7,[0,2,4]),(8,[2,3]),(9,[0,2,4,50]),(10,[0,2,4,5,6]),(11,[2,4,5,6]),(12,[2,4,6]),(13,[2,3]),(14,[0,2,4,72]),(15,[2,3]),(16,[0,2,4,7,8]),(17,[2,4,8]),(18,[2,3])]
def qa3:List (Nat×List Nat×List Nat):=[(20,[2,4],[0,2,4]),(29,[0,2,4],[0,2,4]),(50,[0,2,4],[0,2,4]),(72,[2,4],[0,2,4])]
def n20:cL where
 keep:=ax qaK
 ro:=fun _=>false
 mv:=fun _=>false
 give:=fun t=>t==2||t==4
 free:=fun i=>match i with|8=>[(0,1),(0,2),(0,3),(0,4),(0,5),(0,6),(0,7),(0,8),(7,9),(8,9)]|13=>[(0,1),(0,2),(0,3),(0,4),(0,5),(0,6),(0,7),(6,8),(7,8)]|17=>[(0,2),(1,2),(0,4),(1,4),(2,4),(3,4)]|18=>[(0,1),(0,2),(0,3),(0,4),(0,5),(0,6),(0,7),(6,8),(7,8)]|_=>[]
 alive:=av qa3
theorem qil (t:Nat) (x:Bool) (e:Env) (S:bH):cK n20 t x ⟨e,S⟩=atO (av qa3 t x) e S:=cF rfl t x e S
theorem qh3 (i:Nat):n20.keep i=ax qaK i:=rfl
theorem qc9 (t:Nat):n20.mv t=(false):=rfl
theorem qeq (t:Nat):n20.give t=(t==2||t==4):=rfl
theorem qeY:n20.free 8= [(0,1),(0,2),(0,3),(0,4),(0,5),(0,6),(0,7),(0,8),(7,9),(8,9)]:=rfl
theorem qaF:n20.free 13= [(0,1),(0,2),(0,3),(0,4),(0,5),(0,6),(0,7),(6,8),(7,8)]:=rfl
theorem Xf:n20.free 17= [(0,2),(1,2),(0,4),(1,4),(2,4),(3,4)]:=rfl
theorem Zk:n20.free 18= [(0,1),(0,2),(0,3),(0,4),(0,5),(0,6),(0,7),(6,8),(7,8)]:=rfl
theorem qc5:Tryz.f20.results.toList= [.cell 2 62,.tmp 3]:=rfl
noncomputable def b20:Code:=aU Tryz.f20
theorem Ip (C:aj) (jE:kW C) (lF:pu C) (vm:vq C) (Mc:Al C) (Fj:z7 C) (p0:List Int) (r:iw×Bool) (hF:mp p0=some r):cR TT C.wide (evW TT C.wide n20 b20) n20 Tryz.f20.results.toList (aU Tryz.f20) [.v (.sl 1 (ah cE p0))] []=some (.tup [.agg [.v (.i .i64 r.1.bt),.v (.i .i64 r.1.iI),.v (.i .i64 r.1.lz),.v (.i .i64 r.1.iT),.v (.i .i64 r.1.iz.iI),.v (.i .i64 r.1.iz.iS),.v (.b r.1.iz.jY),.v (.i .i64 r.1.iz.cO.iO),.v (.i .i64 r.1.iz.cO.je),.v (.i .i64 r.1.iz.cO.ad.bt),.v (.s r.1.iz.cO.ad.iU),.v (.s r.1.iz.cO.ad.iE),.v (.s r.1.iz.cO.ad.iq),.v (.i .i64 r.1.iz.cO.ad.fN),.v (.i .i64 r.1.iH.iT),.v (.i .i64 r.1.iH.iI),.v (.i .i64 r.1.iH.iu.af.iL),.v (.sl 8 (ah ip.row r.1.iH.iu.af.bi)),.v (.i .i64 r.1.iH.iu.iG),.v (.sl 7 (ah gi.row r.1.iH.iu.bz))],.v (.b r.2)],[]):=by
 revert hF
 unfold mp
 refine aX (fun h1=>?_) (fun h1=>?_)
 rotate_left 1
 refine az fun x1 h2=>?_
 unfold nq
 have g1:decide (0<=0)=true:=(cp h2).1
 have g2:(ah cE p0)[(0:Int).toNat]? =some [.i .u8 x1]:=cn _ h2
 have g3:=bK (jE (IntKind.i64.wrap x1) 1 3 _ (oU (IntKind.i64.wrap x1) 1 3))
 have g4:jj (IntKind.i64.wrap x1) 1 3=(decide (1<=(IntKind.i64.wrap x1))&&decide ((IntKind.i64.wrap x1)<=3)):=by first|rfl|(simp [jj];done)|(simp only [jj];decide)
 refine bF (fun h3=>?_) (fun h3=>?_)
 rotate_left 1
 refine bF (fun h4=>?_) (fun h4=>?_)
 rotate_left 1
 refine aX (fun h5=>?_) (fun h5=>?_)
 focus
  refine az fun x2 h6=>?_
  have g5:=bK (lF p0 1 _ h6)
  refine az fun x3 h7=>?_
  have g6:decide (0<=4)=true:=(cp h7).1
  have g7:(ah cE p0)[(4:Int).toNat]? =some [.i .u8 x3]:=cn _ h7
  refine bF (fun h8=>?_) (fun h8=>?_)
  rotate_left 1
  refine az fun x4 h9=>?_
  have g8:=bK (vm (iw.mk (IntKind.i64.wrap x1) x2 (IntKind.i64.wrap ((IntKind.i64.wrap x3)-1)) 0 (iV.mk 0 0 false (i8.mk 0 0 (iB.mk 0 ByteArray.empty ByteArray.empty ByteArray.empty 0))) (i5.mk 0 0 (iv.mk (iN.mk 0 []) 0 []))) _ h9)
  try simp only [ak] at g8
 rotate_left 2
 unfold sx
 refine aX (fun h6=>?_) (fun h6=>?_)
 focus
  refine aX (fun h7=>?_) (fun _=>nofun)
  refine az ?_
  rintro⟨x2,x3⟩ h8
  dsimp only
  have g9:=bK (Mc (dm p0 4 (p0.length:Int)) _ h8)
  try simp only [] at g9
  refine az fun x4 h9=>?_
  have g10:=bK (lF p0 1 _ h9)
  refine bF (fun h10=>?_) (fun h10=>?_)
  rotate_left 1
  refine az fun x5 h11=>?_
  have g11:=bK (vm (iw.mk (IntKind.i64.wrap x1) 0 0 x4 x2 (i5.mk 0 0 (iv.mk (iN.mk 0 []) 0 []))) _ h11)
  try simp only [ak] at g11
 rotate_left 2
 unfold uK
 refine aX (fun h7=>?_) (fun h7=>?_)
 rotate_left 1
 refine aX (fun h8=>?_) (fun _=>nofun)
 refine az ?_
 rintro⟨x2,x3⟩ h9
 dsimp only
 have g12:=bK (Fj (dm p0 7 (p0.length:Int)) _ h9)
 try simp only [] at g12
 refine az fun x4 h10=>?_
 have g10:=bK (lF p0 1 _ h10)
 refine az fun x5 h11=>?_
 have g13:=bK (lF p0 4 _ h11)
 refine bF (fun h12=>?_) (fun h12=>?_)
 rotate_left 1
 refine az fun x6 h13=>?_
 have g14:=bK (vm (iw.mk (IntKind.i64.wrap x1) 0 0 0 (iV.mk 0 0 false (i8.mk 0 0 (iB.mk 0 ByteArray.empty ByteArray.empty ByteArray.empty 0))) (i5.mk x4 x5 x2)) _ h13)
 try simp only [] at g14
 all_goals (rintro⟨⟩;rw [bk];show cC _ _ _ (aH _ _ _ _ (Code.seq _ _) _)=_;simp (maxSteps:=4000000) only [*,qc5,qil,qa3,qh3,qaK,qeY,qaF,Xf,Zk,qc9,qeq,↓RP,RB,RC,Nat.reduceBEq,bP,List.map,Nat.reduceAdd,Nat.reduceSub,Nat.reduceLeDiff,Int.reduceLE,bne,↓ao,↓am,↓aa,↓aq,aP,ty3,ty4,ty5,qM,mD,u4,Ah,zN,CU])
def Sk:List (Nat×List Nat):=[(0,[0,1]),(1,[0,1,5,20,33]),(2,[0,1,5,6,20,33]),(3,[0,1,5,6,11,20,33]),(4,[0,1,5,6,20,33]),(5,[0,1,5,6,20,33]),(6,[1,5,7,20,33]),(7,[1,5,7,20,24,33]),(8,[1,5,7,20,33]),(9,[1,5,7,20,33]),(10,[4,5,20,33,34])]
def Up:List (Nat×List Nat×List Nat):=[(11,[0,1,5,6,20,33],[1,5,20,33]),(24,[1,5,7,20,33],[5,20,33])]
def n21:cL where
 keep:=ax Sk
 ro:=fun _=>false
 mv:=fun _=>false
 give:=fun _=>false
 free:=fun _=>[]
 alive:=av Up
theorem qfS (t:Nat) (x:Bool) (e:Env) (S:bH):cK n21 t x ⟨e,S⟩=atO (av Up t x) e S:=cF rfl t x e S
theorem WG (i:Nat):n21.keep i=ax Sk i:=rfl
theorem qf2 (t:Nat):n21.mv t=(false):=rfl
theorem qdu:Tryz.f21.results.toList= [.tmp 4]:=rfl
noncomputable def b21:Code:=aU Tryz.f21
noncomputable def qeb:Code:=(bE 0 (aU Tryz.f21)).getD .skip
theorem Yd:bE 0 b21=some qeb:=rfl
noncomputable def qdw:Code:=(bE 2 (aU Tryz.f21)).getD .skip
theorem qb9:bE 2 b21=some qdw:=rfl
def uV (p0:List Int) (s:(List Int)×Int):St:=⟨[(0,.v (.sl 1 (ah cE p0))),(1,.v (.sl 0 [])),(5,.own 1 (ah cE s.1)),(6,.v (.i .i64 s.2)),(20,.bad),(33,.bad)],[]⟩
def w4 (p0:List Int) (r:(List Int)):Option (Ex×St):=some (.normal,⟨[(1,.v (.sl 0 [])),(5,.own 1 (ah cE r)),(20,.bad),(33,.bad)],[]⟩)
theorem Fp (C:aj)  (p0:List Int) (s:(List Int)×Int) (o:((List Int)×Int)⊕(List Int)) (hF:qA p0 s=some o):evW TT C.wide n21 b21 0 (uV p0 s)=Sum.elim (fun s=>evW TT C.wide n21 b21 0 (uV p0 s)) (fun r=>w4 p0 r) o:=by
 obtain⟨p1,p2⟩:=s
 rw [cG TT n21 Yd]
 revert hF
 unfold qA
 try dsimp only
 refine bF (fun h1=>?_) (fun h1=>?_)
 rotate_left 1
 refine az fun x1 h2=>?_
 have g1:decide (0<=p2)=true:=(cp h2).1
 have g2:(ah cE p0)[(p2:Int).toNat]? =some [.i .u8 x1]:=cn _ h2
 refine aX (fun h3=>?_) (fun _=>nofun)
 all_goals (rintro⟨⟩;show cN _ _ _ (aH _ _ _ _ (Code.seq _ _) _)=_;simp (maxSteps:=4000000) only [*,uV,w4,qfS,Up,WG,Sk,qf2,↓RP,RB,RC,↓ab,Nat.reduceBEq,List.map,Nat.reduceMul,Nat.reduceLeDiff,bne,↓ao,↓am,↓aa,ty3,ty5,qM])
def uT (p0:List Int) (s:Unit):St:=⟨[(1,.v (.sl 0 [])),(5,.own 1 (ah cE p0)),(7,.v (.i .i64 0)),(20,.bad),(33,.bad)],[]⟩
def wI (p0:List Int) (r:Unit):Option (Ex×St):=some (.normal,⟨[(5,.own 1 (ah cE p0)),(20,.bad),(33,.bad)],[]⟩)
theorem Fx (C:aj)  (p0:List Int) (s:Unit) (o:Unit⊕Unit) (hF:wZ p0 s=some o):evW TT C.wide n21 b21 2 (uT p0 s)=Sum.elim (fun s=>evW TT C.wide n21 b21 2 (uT p0 s)) (fun r=>wI p0 r) o:=by
 rw [cG TT n21 qb9]
 revert hF
 unfold wZ
 try dsimp only
 all_goals (rintro⟨⟩;show cN _ _ _ (aH _ _ _ _ (Code.seq _ _) _)=_;simp (maxSteps:=4000000) only [*,uT,wI,qfS,Up,WG,Sk,↓RP,RB,RC,Nat.reduceBEq,List.map,Int.reduceLT,↓ao,↓am,↓aa,ty3,qM])
theorem L4 (C:aj)  (p0:List Int) (r:(List Int)) (hF:tC p0=some r):cR TT C.wide (evW TT C.wide n21 b21) n21 Tryz.f21.results.toList (aU Tryz.f21) [.v (.sl 1 (ah cE p0)),.v (.sl 0 [])] []=some (.own 1 (ah cE r),[]):=by
 revert hF
 unfold tC
 refine az ?_
 rintro x1 h1
 have g1:=cH _ _ (Fp C p0) h1
 try simp only [ak,uV,w4] at g1
 refine az ?_
 rintro _ h2
 have g2:=cH _ _ (Fx C x1) h2
 try simp only [uT,wI] at g2
 all_goals (rintro⟨⟩;rw [bk];show cC _ _ _ (aH _ _ _ _ (Code.seq _ _) _)=_;simp (maxSteps:=4000000) only [*,qdu,WG,Sk,↓RP,RB,RC,Nat.reduceBEq,List.map,Nat.reduceAdd,↓ao,↓aa,ty3,qM])
def n7K:List (Nat×List Nat):=[(0,[1,3]),(1,[1,3,13]),(2,[2,3,4,5,48,56]),(3,[1,3,5,48]),(4,[1,3,5,6,48]),(5,[1,3,5,6,20,48]),(6,[1,3,5,6,7,48]),(7,[1,3,5,6,7,32,48]),(8,[1,3,5,6,7,8,9,48]),(9,[1,3,5,6,7,8,44,48]),(10,[1,3,5,7,48]),(11,[1,3,5,6,48]),(12,[1,3,5,6,10,48]),(13,[1,3,5,6,10,48,54]),(14,[1,3,5,6,10,48]),(15,[2,3,4,5,48,56])]
def n7A:List (Nat×List Nat×List Nat):=[(13,[3],[1,3]),(20,[1,3,5,6,48],[1,3,5,6,48]),(32,[1,3,5,6,48],[1,3,5,6,7,48]),(44,[1,3,5,6,48],[1,3,5,7,8,48]),(54,[1,3,5,6,48],[1,3,5,6,10,48])]
def n7:cL where
 keep:=ax n7K
 ro:=fun t=>t==1
 mv:=fun _=>false
 give:=fun _=>false
 free:=fun _=>[]
 alive:=av n7A
theorem n7a (t:Nat) (x:Bool) (e:Env) (S:bH):cK n7 t x ⟨e,S⟩=atO (av n7A t x) e S:=cF rfl t x e S
theorem n7k (i:Nat):n7.keep i=ax n7K i:=rfl
theorem qiP (t:Nat):n7.ro t=(t==1):=rfl
theorem qex (t:Nat):n7.mv t=(false):=rfl
theorem qf5 (t:Nat):n7.give t=(false):=rfl
theorem qiV:Tryz.f7.results.toList= [.tmp 2,.cell 3 24,.tmp 4]:=rfl
noncomputable def b7:Code:=aU Tryz.f7
noncomputable def qhf:Code:=(bE 0 (aU Tryz.f7)).getD .skip
theorem qdZ:bE 0 b7=some qhf:=rfl
def mG (p0:iY) (s:(List iw)×Int):St:=⟨[(1,.rp [.sl 1 (ah cE p0.iW),.i .i64 p0.iP]),(3,.ptr 0 0),(5,.own 20 (ah iw.row s.1)),(6,.v (.i .i64 s.2)),(48,.bad)],[[.own 1 [],.v (.i .i64 0)]]⟩
def oG (p0:iY) (r:((List iw)×Int)⊕((List iw)×Int×iw)):Option (Ex×St):=match r with
 | .inl r=>some (.normal,⟨[(1,.rp [.sl 1 (ah cE p0.iW),.i .i64 p0.iP]),(3,.ptr 0 0),(5,.own 20 (ah iw.row r.1)),(6,.v (.i .i64 r.2)),(48,.bad)],[[.own 1 [],.v (.i .i64 0)]]⟩)
 | .inr r=>some (.normal,⟨[(1,.rp [.sl 1 (ah cE p0.iW),.i .i64 p0.iP]),(3,.ptr 0 0),(5,.own 20 (ah iw.row r.1)),(6,.v (.i .i64 r.2.1)),(48,.bad)],[[.own 1 [],.v (.i .i64 0)],[.v (.i .i64 r.2.2.bt),.v (.i .i64 r.2.2.iI),.v (.i .i64 r.2.2.lz),.v (.i .i64 r.2.2.iT),.v (.i .i64 r.2.2.iz.iI),.v (.i .i64 r.2.2.iz.iS),.v (.b r.2.2.iz.jY),.v (.i .i64 r.2.2.iz.cO.iO),.v (.i .i64 r.2.2.iz.cO.je),.v (.i .i64 r.2.2.iz.cO.ad.bt),.v (.s r.2.2.iz.cO.ad.iU),.v (.s r.2.2.iz.cO.ad.iE),.v (.s r.2.2.iz.cO.ad.iq),.v (.i .i64 r.2.2.iz.cO.ad.fN),.v (.i .i64 r.2.2.iH.iT),.v (.i .i64 r.2.2.iH.iI),.v (.i .i64 r.2.2.iH.iu.af.iL),.v (.sl 8 (ah ip.row r.2.2.iH.iu.af.bi)),.v (.i .i64 r.2.2.iH.iu.iG),.v (.sl 7 (ah gi.row r.2.2.iH.iu.bz))]]⟩)
theorem vc (C:aj) (lF:pu C) (vC:xF C) (p0:iY) (s:(List iw)×Int) (o:((List iw)×Int)⊕(((List iw)×Int)⊕((List iw)×Int×iw))) (hF:jN p0 s=some o):evW TT C.wide n7 b7 0 (mG p0 s)=Sum.elim (fun s=>evW TT C.wide n7 b7 0 (mG p0 s)) (fun r=>oG p0 r) o:=by
 obtain⟨p1,p2⟩:=s
 rw [cG TT n7 qdZ]
 revert hF
 unfold jN
 try dsimp only
 refine bF (fun h1=>?_) (fun h1=>?_)
 rotate_left 1
 refine az fun x1 h2=>?_
 have g1:=bK (lF p0.iW p2 _ h2)
 refine aX (fun h3=>?_) (fun h3=>?_)
 rotate_left 1
 refine aX (fun h4=>?_) (fun _=>nofun)
 refine az ?_
 rintro⟨x2,x3⟩ h5
 dsimp only
 have g2:=bK (vC (dm p0.iW (IntKind.i64.wrap (p2+3)) (IntKind.i64.wrap ((IntKind.i64.wrap (p2+3))+x1))) _ h5)
 try simp only [] at g2
 refine bF (fun h6=>?_) (fun h6=>?_)
 rotate_left 1
 refine aX (fun h7=>?_) (fun _=>nofun)
 all_goals (rintro⟨⟩;show cN _ _ _ (aH _ _ _ _ (Code.seq _ _) _)=_;simp (maxSteps:=4000000) only [*,mG,oG,n7a,n7A,n7k,n7K,qex,qf5,↓RP,RB,RC,↓ai,Nat.reduceBEq,bP,List.map,Nat.reduceAdd,Nat.reduceMul,Nat.reduceLT,Nat.reduceLeDiff,bne,↓ao,↓am,↓aa,aP,ty3,ty4,ty5,qM,Dh,LF,CU,iw.one])
theorem ya (C:aj)  (p0:iY) (p1:List iw) (p2:Int) (p3:Int) (p4:Bool) (c:Code) (ho:cD 1 54 b7=some c) (r:Int) (hF:kX p0 p1 p2 p3 p4=r): @cV TT C.wide (evW TT C.wide n7 b7) n7 1 54 ⟨[(1,.rp [.sl 1 (ah cE p0.iW),.i .i64 p0.iP]),(3,.ptr 0 0),(5,.own 20 (ah iw.row p1)),(6,.v (.i .i64 p2)),(10,.v (.i .i64 p3)),(48,.bad),(54,.v (.b p4))],[[.own 1 [],.v (.i .i64 0)]]⟩ ⟨c⟩=some (.normal,⟨[(1,.rp [.sl 1 (ah cE p0.iW),.i .i64 p0.iP]),(3,.ptr 0 0),(5,.own 20 (ah iw.row p1)),(6,.v (.i .i64 p2)),(10,.v (.i .i64 r)),(48,.bad)],[[.own 1 [],.v (.i .i64 0)]]⟩):=by
 have e:=Option.some.inj (ho.symm.trans (rfl:cD 1 54 b7=some _))
 subst e
 clear ho
 show aH _ _ _ _ _ _=_
 revert hF
 unfold kX
 refine aX (fun h1=>?_) (fun h1=>?_)
 rotate_left 1
 all_goals (rintro rfl;simp (maxSteps:=4000000) only [*,n7a,n7A,n7k,n7K,↓RP,RB,RC,Nat.reduceBEq,List.map,↓am,ty3,↓aa _ _ _ _ 14])
theorem wM (C:aj)  (p0:iY) (p1:List iw) (p2:Int) (p3:Int) (p4:Bool) (p5:iw) (c:Code) (ho:cD 1 54 b7=some c) (r:Int) (hF:kH p0 p1 p2 p3 p4 p5=r): @cV TT C.wide (evW TT C.wide n7 b7) n7 1 54 ⟨[(1,.rp [.sl 1 (ah cE p0.iW),.i .i64 p0.iP]),(3,.ptr 0 0),(5,.own 20 (ah iw.row p1)),(6,.v (.i .i64 p2)),(10,.v (.i .i64 p3)),(48,.bad),(54,.v (.b p4))],[[.own 1 [],.v (.i .i64 0)],[.v (.i .i64 p5.bt),.v (.i .i64 p5.iI),.v (.i .i64 p5.lz),.v (.i .i64 p5.iT),.v (.i .i64 p5.iz.iI),.v (.i .i64 p5.iz.iS),.v (.b p5.iz.jY),.v (.i .i64 p5.iz.cO.iO),.v (.i .i64 p5.iz.cO.je),.v (.i .i64 p5.iz.cO.ad.bt),.v (.s p5.iz.cO.ad.iU),.v (.s p5.iz.cO.ad.iE),.v (.s p5.iz.cO.ad.iq),.v (.i .i64 p5.iz.cO.ad.fN),.v (.i .i64 p5.iH.iT),.v (.i .i64 p5.iH.iI),.v (.i .i64 p5.iH.iu.af.iL),.v (.sl 8 (ah ip.row p5.iH.iu.af.bi)),.v (.i .i64 p5.iH.iu.iG),.v (.sl 7 (ah gi.row p5.iH.iu.bz))]]⟩ ⟨c⟩=some (.normal,⟨[(1,.rp [.sl 1 (ah cE p0.iW),.i .i64 p0.iP]),(3,.ptr 0 0),(5,.own 20 (ah iw.row p1)),(6,.v (.i .i64 p2)),(10,.v (.i .i64 r)),(48,.bad)],[[.own 1 [],.v (.i .i64 0)],[.v (.i .i64 p5.bt),.v (.i .i64 p5.iI),.v (.i .i64 p5.lz),.v (.i .i64 p5.iT),.v (.i .i64 p5.iz.iI),.v (.i .i64 p5.iz.iS),.v (.b p5.iz.jY),.v (.i .i64 p5.iz.cO.iO),.v (.i .i64 p5.iz.cO.je),.v (.i .i64 p5.iz.cO.ad.bt),.v (.s p5.iz.cO.ad.iU),.v (.s p5.iz.cO.ad.iE),.v (.s p5.iz.cO.ad.iq),.v (.i .i64 p5.iz.cO.ad.fN),.v (.i .i64 p5.iH.iT),.v (.i .i64 p5.iH.iI),.v (.i .i64 p5.iH.iu.af.iL),.v (.sl 8 (ah ip.row p5.iH.iu.af.bi)),.v (.i .i64 p5.iH.iu.iG),.v (.sl 7 (ah gi.row p5.iH.iu.bz))]]⟩):=by
 have e:=Option.some.inj (ho.symm.trans (rfl:cD 1 54 b7=some _))
 subst e
 clear ho
 show aH _ _ _ _ _ _=_
 revert hF
 unfold kH
 refine aX (fun h1=>?_) (fun h1=>?_)
 rotate_left 1
 all_goals (rintro rfl;simp (maxSteps:=4000000) only [*,n7a,n7A,n7k,n7K,↓RP,RB,RC,Nat.reduceBEq,List.map,↓am,ty3,↓aa _ _ _ _ 14])
theorem Au (C:aj) (LA:yW C) (D1:Ao C) (lF:pu C) (vC:xF C) (p0:iY) (r:(List iw)×iY×Int) (hF:m8 p0=some r):cR TT C.wide (evW TT C.wide n7 b7) n7 Tryz.f7.results.toList (aU Tryz.f7) [.agg [.v (.sl 1 (ah cE p0.iW)),.v (.i .i64 p0.iP)]] []=some (.tup [.v (.sl 20 (ah iw.row r.1)),.agg [.v (.sl 1 (ah cE r.2.1.iW)),.v (.i .i64 r.2.1.iP)],.v (.i .i64 r.2.2)],[]):=by
 revert hF
 unfold m8
 have g1:=bK (LA p0 _ (J8 p0))
 refine bF (fun h1=>?_) (fun h1=>?_)
 rotate_left 1
 refine az ?_
 rintro (⟨x1,x2⟩|⟨x1,x2,x3⟩) h2
 focus
  dsimp only
  unfold td
  have g2:=cH _ _ (vc C lF vC p0) h2
  have g3:=ya C p0 x1 x2 p0.iP (decide (x2<p0.iP)) _ rfl (kX p0 x1 x2 p0.iP (decide (x2<p0.iP))) rfl
  try simp only [ak,mG,oG] at g2
  refine aX (fun h3=>?_) (fun _=>nofun)
  refine az fun x3 h4=>?_
  have g4:=bK (D1 (dm p0.iW 0 x2) _ h4)
 rotate_left 1
 dsimp only
 unfold sQ
 have g5:=cH _ _ (vc C lF vC p0) h2
 have g6:=wM C p0 x1 x2 p0.iP (decide (x2<p0.iP)) x3 _ rfl (kH p0 x1 x2 p0.iP (decide (x2<p0.iP)) x3) rfl
 try simp only [ak,mG,oG] at g5
 refine aX (fun h3=>?_) (fun _=>nofun)
 refine az fun x4 h4=>?_
 have g7:=bK (D1 (dm p0.iW 0 x2) _ h4)
 all_goals (rintro⟨⟩;rw [bk];show cC _ _ _ (aH _ _ _ _ (Code.seq _ _) _)=_;simp (maxSteps:=4000000) only [*,qiV,n7a,n7A,n7k,n7K,qiP,qex,qf5,↓RP,RB,RC,Nat.reduceBEq,bP,List.map,Nat.reduceAdd,Nat.reduceLeDiff,bne,↓ao,ty3,ty5,qM,Dh,LF,mD,↓aa _ _ _ _ 0,↓aa _ _ _ _ 1,↓am _ _ _ _ 13,↓aa _ _ _ _ 2,↓aa _ _ _ _ 3,↓aa _ _ _ _ 4,↓aa _ _ _ _ 12,↓aa _ _ _ _ 13,↓kZ _ _ _ _ 54,↓aa _ _ _ _ 15])
def Nj:List (Nat×List Nat):=[(0,[0,1]),(1,[0,1,10]),(2,[4]),(3,[0,1,5]),(4,[0,1,5,14]),(5,[0,1,5]),(6,[0,1,5,25]),(7,[4]),(8,[4])]
def NN:List (Nat×List Nat×List Nat):=[(10,[],[0,1]),(14,[0,1,5],[]),(25,[],[0,1,5])]
def Fo:cL where
 keep:=ax Nj
 ro:=fun _=>false
 mv:=fun _=>false
 give:=fun _=>false
 free:=fun i=>match i with|6=>[(0,1),(0,4),(1,4),(2,4),(3,4),(0,5),(1,5),(2,5),(3,5),(4,5),(0,6),(1,6),(2,6),(3,6),(0,7),(1,7),(2,7),(3,7)]|_=>[]
 alive:=av NN
theorem VG (t:Nat) (x:Bool) (e:Env) (S:bH):cK Fo t x ⟨e,S⟩=atO (av NN t x) e S:=cF rfl t x e S
theorem VK (i:Nat):Fo.keep i=ax Nj i:=rfl
theorem qas (t:Nat):Fo.mv t=(false):=rfl
theorem qaX:Fo.free 6= [(0,1),(0,4),(1,4),(2,4),(3,4),(0,5),(1,5),(2,5),(3,5),(4,5),(0,6),(1,6),(2,6),(3,6),(0,7),(1,7),(2,7),(3,7)]:=rfl
theorem X1:Tryz.f114.results.toList= [.tmp 4]:=rfl
noncomputable def Tz:Code:=aU Tryz.f114
noncomputable def XG:Code:=(bE 0 (aU Tryz.f114)).getD .skip
theorem UX:bE 0 Tz=some XG:=rfl
def pJ (p0:List ByteArray) (p1:List ByteArray) (s:Int):St:=⟨[(0,.v (.sl 1 (ah bY p0))),(1,.v (.sl 1 (ah bY p1))),(5,.v (.i .i64 s))],[]⟩
def rJ (p0:List ByteArray) (p1:List ByteArray) (r:Unit⊕Unit):Option (Ex×St):=match r with
 | .inl r=>some (.ret,⟨[(4,.v (.b false))],[]⟩)
 | .inr r=>some (.normal,⟨[],[]⟩)
theorem xr (C:aj)  (p0:List ByteArray) (p1:List ByteArray) (p2:Int) (o:Int⊕(Unit⊕Unit)) (hF:pw p0 p1 p2=some o):evW TT C.wide Fo Tz 0 (pJ p0 p1 p2)=Sum.elim (fun s=>evW TT C.wide Fo Tz 0 (pJ p0 p1 s)) (fun r=>rJ p0 p1 r) o:=by
 rw [cG TT Fo UX]
 revert hF
 unfold pw
 try dsimp only
 refine bF (fun h1=>?_) (fun h1=>?_)
 rotate_left 1
 refine az fun x1 h2=>?_
 have g1:decide (0<=p2)=true:=(cp h2).1
 have g2:(ah bY p0)[(p2:Int).toNat]? =some [.s x1]:=cn _ h2
 refine az fun x2 h3=>?_
 have g3:(ah bY p1)[(p2:Int).toNat]? =some [.s x2]:=cn _ h3
 refine aX (fun h4=>?_) (fun h4=>?_)
 rotate_left 1
 all_goals (rintro⟨⟩;show cN _ _ _ (aH _ _ _ _ (Code.seq _ _) _)=_;simp (maxSteps:=4000000) only [*,pJ,rJ,VG,NN,VK,Nj,qaX,qas,↓RP,RB,RC,↓ai,Nat.reduceBEq,List.map,↓ao,↓am,↓aa,↓aq,ty3,ty4,ty9,ph])
theorem Fe (C:aj)  (p0:List ByteArray) (p1:List ByteArray) (r:Bool) (hF:pU p0 p1=some r):cR TT C.wide (evW TT C.wide Fo Tz) Fo Tryz.f114.results.toList (aU Tryz.f114) [.v (.sl 1 (ah bY p0)),.v (.sl 1 (ah bY p1))] []=some (.v (.b r),[]):=by
 revert hF
 unfold pU
 refine bF (fun h1=>?_) (fun h1=>?_)
 rotate_left 1
 refine az ?_
 rintro (_|_) h2
 focus
  dsimp only
  have g1:=cH _ _ (xr C p0 p1) h2
  try simp only [pJ,rJ] at g1
 rotate_left 1
 dsimp only
 have g2:=cH _ _ (xr C p0 p1) h2
 try simp only [pJ,rJ] at g2
 all_goals (rintro⟨⟩;rw [bk];show cC _ _ _ (aH _ _ _ _ (Code.seq _ _) _)=_;simp (maxSteps:=4000000) only [*,X1,VG,NN,VK,Nj,↓RP,RB,RC,Nat.reduceBEq,List.map,Nat.reduceAdd,bne,↓ao,↓am,↓aa,ty3,ty4,ph])
def H5:List (Nat×List Nat):=[(0,[2,3]),(1,[2,3,51]),(2,[4]),(3,[2,3,5]),(4,[2,3,5,56]),(5,[2,3,5]),(6,[2,3,5,69]),(7,[4]),(8,[2,3,6]),(9,[2,3,6,74]),(10,[2,3,6]),(11,[2,3,6,87]),(12,[4]),(13,[4])]
def JM:List (Nat×List Nat×List Nat):=[(51,[],[2,3]),(56,[2,3,5],[2,3]),(69,[],[2,3,5]),(74,[2,3,6],[]),(87,[],[2,3,6])]
def yJ:cL where
 keep:=ax H5
 ro:=fun t=>t==2||t==3
 mv:=fun _=>false
 give:=fun _=>false
 free:=fun i=>match i with|6=>[(0,2),(1,2),(0,5),(1,5),(2,5),(3,5),(4,5),(0,6),(1,6),(2,6),(3,6),(4,6),(0,7),(1,7),(2,7),(3,7),(4,7),(5,7),(6,7),(0,8),(1,8),(2,8),(3,8),(4,8),(0,9),(1,9),(2,9),(3,9),(4,9)]|11=>[(0,2),(1,2),(0,5),(1,5),(2,5),(3,5),(4,5),(0,6),(1,6),(2,6),(3,6),(4,6),(0,7),(1,7),(2,7),(3,7),(4,7),(5,7),(6,7),(0,8),(1,8),(2,8),(3,8),(4,8),(0,9),(1,9),(2,9),(3,9),(4,9)]|_=>[]
 alive:=av JM
theorem Qv (t:Nat) (x:Bool) (e:Env) (S:bH):cK yJ t x ⟨e,S⟩=atO (av JM t x) e S:=cF rfl t x e S
theorem NC (i:Nat):yJ.keep i=ax H5 i:=rfl
theorem Yp (t:Nat):yJ.ro t=(t==2||t==3):=rfl
theorem MJ (t:Nat):yJ.mv t=(false):=rfl
theorem qbX:yJ.free 6= [(0,2),(1,2),(0,5),(1,5),(2,5),(3,5),(4,5),(0,6),(1,6),(2,6),(3,6),(4,6),(0,7),(1,7),(2,7),(3,7),(4,7),(5,7),(6,7),(0,8),(1,8),(2,8),(3,8),(4,8),(0,9),(1,9),(2,9),(3,9),(4,9)]:=rfl
theorem UL:yJ.free 11= [(0,2),(1,2),(0,5),(1,5),(2,5),(3,5),(4,5),(0,6),(1,6),(2,6),(3,6),(4,6),(0,7),(1,7),(2,7),(3,7),(4,7),(5,7),(6,7),(0,8),(1,8),(2,8),(3,8),(4,8),(0,9),(1,9),(2,9),(3,9),(4,9)]:=rfl
theorem XM:Tryz.f113.results.toList= [.tmp 4]:=rfl
noncomputable def Fv:Code:=aU Tryz.f113
noncomputable def qbV:Code:=(bE 0 (aU Tryz.f113)).getD .skip
theorem Tg:bE 0 Fv=some qbV:=rfl
noncomputable def WP:Code:=(bE 2 (aU Tryz.f113)).getD .skip
theorem Tn:bE 2 Fv=some WP:=rfl
theorem Aq (C:aj) (oW:qL C) (p0:iy) (p1:iy) (c:Code) (ho:cD 0 1 Fv=some c) (r:Bool) (hF:oD p0 p1=some r): @cV TT C.wide (evW TT C.wide yJ Fv) yJ 0 1 ⟨[(2,.rp [.i .i64 p0.bt,.s p0.iq,.i .i64 p0.iF,.sl 2 (ah iD.row p0.iA),.sl 1 (ah bY p0.iC),.sl 2 (ah im.row p0.il)]),(3,.rp [.i .i64 p1.bt,.s p1.iq,.i .i64 p1.iF,.sl 2 (ah iD.row p1.iA),.sl 1 (ah bY p1.iC),.sl 2 (ah im.row p1.il)])],[]⟩ ⟨c⟩=some (.normal,⟨[(2,.rp [.i .i64 p0.bt,.s p0.iq,.i .i64 p0.iF,.sl 2 (ah iD.row p0.iA),.sl 1 (ah bY p0.iC),.sl 2 (ah im.row p0.il)]),(3,.rp [.i .i64 p1.bt,.s p1.iq,.i .i64 p1.iF,.sl 2 (ah iD.row p1.iA),.sl 1 (ah bY p1.iC),.sl 2 (ah im.row p1.il)]),(51,.v (.b r))],[]⟩):=by
 have e:=Option.some.inj (ho.symm.trans (rfl:cD 0 1 Fv=some _))
 subst e
 clear ho
 show aH _ _ _ _ _ _=_
 revert hF
 unfold oD
 refine bF (fun h1=>?_) (fun h1=>?_)
 rotate_left 1
 refine bF (fun h2=>?_) (fun h2=>?_)
 rotate_left 1
 refine bF (fun h3=>?_) (fun h3=>?_)
 rotate_left 1
 refine bF (fun h4=>?_) (fun h4=>?_)
 rotate_left 1
 refine bF (fun h5=>?_) (fun h5=>?_)
 rotate_left 1
 refine az fun x1 h6=>?_
 have g1:=bK (oW p0.iC p1.iC _ h6)
 all_goals (rintro⟨⟩;simp (maxSteps:=4000000) only [*,NC,H5,MJ,↓RP,RB,RC,Nat.reduceBEq,List.map,bne,ty3,ty9,ue,ph,qu,mh,↓aa _ _ _ _ 1])
def pB (p0:iy) (p1:iy) (s:Int):St:=⟨[(2,.rp [.i .i64 p0.bt,.s p0.iq,.i .i64 p0.iF,.sl 2 (ah iD.row p0.iA),.sl 1 (ah bY p0.iC),.sl 2 (ah im.row p0.il)]),(3,.rp [.i .i64 p1.bt,.s p1.iq,.i .i64 p1.iF,.sl 2 (ah iD.row p1.iA),.sl 1 (ah bY p1.iC),.sl 2 (ah im.row p1.il)]),(5,.v (.i .i64 s))],[]⟩
def rS (p0:iy) (p1:iy) (r:Unit⊕Unit):Option (Ex×St):=match r with
 | .inl r=>some (.ret,⟨[(4,.v (.b false))],[]⟩)
 | .inr r=>some (.normal,⟨[(2,.rp [.i .i64 p0.bt,.s p0.iq,.i .i64 p0.iF,.sl 2 (ah iD.row p0.iA),.sl 1 (ah bY p0.iC),.sl 2 (ah im.row p0.il)]),(3,.rp [.i .i64 p1.bt,.s p1.iq,.i .i64 p1.iF,.sl 2 (ah iD.row p1.iA),.sl 1 (ah bY p1.iC),.sl 2 (ah im.row p1.il)])],[]⟩)
theorem xq (C:aj)  (p0:iy) (p1:iy) (p2:Int) (o:Int⊕(Unit⊕Unit)) (hF:pS p0 p1 p2=some o):evW TT C.wide yJ Fv 0 (pB p0 p1 p2)=Sum.elim (fun s=>evW TT C.wide yJ Fv 0 (pB p0 p1 s)) (fun r=>rS p0 p1 r) o:=by
 rw [cG TT yJ Tg]
 revert hF
 unfold pS
 try dsimp only
 refine bF (fun h1=>?_) (fun h1=>?_)
 rotate_left 1
 refine az fun x1 h2=>?_
 have g1:decide (0<=p2)=true:=(cp h2).1
 have g2:(ah iD.row p0.iA)[(p2:Int).toNat]? =some [.s x1.iE,.s x1.iq]:=cn _ h2
 refine az fun x2 h3=>?_
 have g3:(ah iD.row p1.iA)[(p2:Int).toNat]? =some [.s x2.iE,.s x2.iq]:=cn _ h3
 refine bF (fun h4=>?_) (fun h4=>?_)
 rotate_left 1
 refine aX (fun h5=>?_) (fun h5=>?_)
 rotate_left 1
 all_goals (rintro⟨⟩;show cN _ _ _ (aH _ _ _ _ (Code.seq _ _) _)=_;simp (maxSteps:=4000000) only [*,pB,rS,Qv,JM,NC,H5,qbX,MJ,↓RP,RB,RC,↓ai,Nat.reduceBEq,List.map,Nat.reduceAdd,aG,↓ao,↓am,ty3,ty4,ue,mh,AH,↓aa _ _ _ _ 4,↓aq _ _ _ _ 6,↓aa _ _ _ _ 7,↓aa _ _ _ _ 5])
def pD (p0:iy) (p1:iy) (s:Int):St:=⟨[(2,.rp [.i .i64 p0.bt,.s p0.iq,.i .i64 p0.iF,.sl 2 (ah iD.row p0.iA),.sl 1 (ah bY p0.iC),.sl 2 (ah im.row p0.il)]),(3,.rp [.i .i64 p1.bt,.s p1.iq,.i .i64 p1.iF,.sl 2 (ah iD.row p1.iA),.sl 1 (ah bY p1.iC),.sl 2 (ah im.row p1.il)]),(6,.v (.i .i64 s))],[]⟩
def rH (p0:iy) (p1:iy) (r:Unit⊕Unit):Option (Ex×St):=match r with
 | .inl r=>some (.ret,⟨[(4,.v (.b false))],[]⟩)
 | .inr r=>some (.normal,⟨[],[]⟩)
theorem w7 (C:aj)  (p0:iy) (p1:iy) (p2:Int) (o:Int⊕(Unit⊕Unit)) (hF:pq p0 p1 p2=some o):evW TT C.wide yJ Fv 2 (pD p0 p1 p2)=Sum.elim (fun s=>evW TT C.wide yJ Fv 2 (pD p0 p1 s)) (fun r=>rH p0 p1 r) o:=by
 rw [cG TT yJ Tn]
 revert hF
 unfold pq
 try dsimp only
 refine bF (fun h1=>?_) (fun h1=>?_)
 rotate_left 1
 refine az fun x1 h2=>?_
 have g1:decide (0<=p2)=true:=(cp h2).1
 have g2:(ah im.row p0.il)[(p2:Int).toNat]? =some [.s x1.iZ,.i .i64 x1.fN]:=cn _ h2
 refine az fun x2 h3=>?_
 have g3:(ah im.row p1.il)[(p2:Int).toNat]? =some [.s x2.iZ,.i .i64 x2.fN]:=cn _ h3
 refine bF (fun h4=>?_) (fun h4=>?_)
 rotate_left 1
 refine aX (fun h5=>?_) (fun h5=>?_)
 rotate_left 1
 all_goals (rintro⟨⟩;show cN _ _ _ (aH _ _ _ _ (Code.seq _ _) _)=_;simp (maxSteps:=4000000) only [*,pD,rH,Qv,JM,NC,H5,UL,MJ,↓RP,RB,RC,↓ai,Nat.reduceBEq,List.map,Nat.reduceAdd,aG,↓ao,↓am,ty3,ty4,qu,mh,u7,↓aa _ _ _ _ 9,↓aq _ _ _ _ 11,↓aa _ _ _ _ 12,↓aa _ _ _ _ 10])
theorem EV (C:aj) (oW:qL C) (p0:iy) (p1:iy) (r:Bool) (hF:rB p0 p1=some r):cR TT C.wide (evW TT C.wide yJ Fv) yJ Tryz.f113.results.toList (aU Tryz.f113) [.agg [.v (.i .i64 p0.bt),.v (.s p0.iq),.v (.i .i64 p0.iF),.v (.sl 2 (ah iD.row p0.iA)),.v (.sl 1 (ah bY p0.iC)),.v (.sl 2 (ah im.row p0.il))],.agg [.v (.i .i64 p1.bt),.v (.s p1.iq),.v (.i .i64 p1.iF),.v (.sl 2 (ah iD.row p1.iA)),.v (.sl 1 (ah bY p1.iC)),.v (.sl 2 (ah im.row p1.il))]] []=some (.v (.b r),[]):=by
 revert hF
 unfold rB
 refine az fun x1 h1=>?_
 have g1:=Aq C oW p0 p1 _ rfl _ h1
 refine aX (fun h2=>?_) (fun h2=>?_)
 rotate_left 1
 refine az ?_
 rintro (_|_) h3
 focus
  dsimp only
  have g2:=cH _ _ (xq C p0 p1) h3
  try simp only [pB,rS] at g2
 rotate_left 1
 dsimp only
 unfold wb
 have g3:=cH _ _ (xq C p0 p1) h3
 try simp only [pB,rS] at g3
 refine az ?_
 rintro (_|_) h4
 focus
  dsimp only
  have g4:=cH _ _ (w7 C p0 p1) h4
  try simp only [pD,rH] at g4
 rotate_left 1
 dsimp only
 have g5:=cH _ _ (w7 C p0 p1) h4
 try simp only [pD,rH] at g5
 all_goals (rintro⟨⟩;rw [bk];show cC _ _ _ (aH _ _ _ _ (Code.seq _ _) _)=_;simp (maxSteps:=4000000) only [*,XM,Qv,JM,NC,H5,Yp,↓RP,RB,RC,Nat.reduceBEq,bP,List.map,Nat.reduceAdd,↓ao,↓am,ty3,ty4,mh,↓aa _ _ _ _ 0,↓bg _ _ _ _ 1,↓aa _ _ _ _ 2,↓aa _ _ _ _ 3,↓aa _ _ _ _ 8,↓aa _ _ _ _ 13])
def Ks:List (Nat×List Nat):=[(0,[2,3]),(1,[2,3,21]),(2,[4]),(3,[2,3,5]),(4,[2,3,5,26]),(5,[2,3,5]),(6,[2,3,5,6]),(7,[2,3,5,6,7]),(8,[2,3,5,58]),(9,[4]),(10,[4])]
def NI:List (Nat×List Nat×List Nat):=[(21,[],[2,3]),(26,[2,3,5],[]),(58,[],[2,3,5])]
def BU:cL where
 keep:=ax Ks
 ro:=fun t=>t==2||t==3
 mv:=fun _=>false
 give:=fun _=>false
 free:=fun _=>[]
 alive:=av NI
theorem Vl (t:Nat) (x:Bool) (e:Env) (S:bH):cK BU t x ⟨e,S⟩=atO (av NI t x) e S:=cF rfl t x e S
theorem PG (i:Nat):BU.keep i=ax Ks i:=rfl
theorem qay (t:Nat):BU.ro t=(t==2||t==3):=rfl
theorem LH (t:Nat):BU.mv t=(false):=rfl
theorem WF (t:Nat):BU.give t=(false):=rfl
theorem Wt:Tryz.f102.results.toList= [.tmp 4]:=rfl
noncomputable def MI:Code:=aU Tryz.f102
noncomputable def XH:Code:=(bE 0 (aU Tryz.f102)).getD .skip
theorem SM:bE 0 MI=some XH:=rfl
theorem zM (C:aj) (qz:uU C) (p0:iN) (p1:iN) (p2:Int) (p3:ip) (p4:ip) (c:Code) (ho:cD 0 8 MI=some c) (r:Bool) (hF:ng p0 p1 p2 p3 p4=some r): @cV TT C.wide (evW TT C.wide BU MI) BU 0 8 ⟨[(2,.rp [.i .i64 p0.iL,.sl 8 (ah ip.row p0.bi)]),(3,.rp [.i .i64 p1.iL,.sl 8 (ah ip.row p1.bi)]),(5,.v (.i .i64 p2)),(6,.ptr 0 0),(7,.ptr 1 0)],[[.v (.s p3.iU),.v (.i .i64 p3.iJ.bt),.v (.s p3.iJ.iq),.v (.i .i64 p3.iJ.iF),.v (.sl 2 (ah iD.row p3.iJ.iA)),.v (.sl 1 (ah bY p3.iJ.iC)),.v (.sl 2 (ah im.row p3.iJ.il)),.v (.i .i64 p3.jQ)],[.v (.s p4.iU),.v (.i .i64 p4.iJ.bt),.v (.s p4.iJ.iq),.v (.i .i64 p4.iJ.iF),.v (.sl 2 (ah iD.row p4.iJ.iA)),.v (.sl 1 (ah bY p4.iJ.iC)),.v (.sl 2 (ah im.row p4.iJ.il)),.v (.i .i64 p4.jQ)]]⟩ ⟨c⟩=some (.normal,⟨[(2,.rp [.i .i64 p0.iL,.sl 8 (ah ip.row p0.bi)]),(3,.rp [.i .i64 p1.iL,.sl 8 (ah ip.row p1.bi)]),(5,.v (.i .i64 p2)),(58,.v (.b r))],[[.v (.s p3.iU),.v (.i .i64 p3.iJ.bt),.v (.s p3.iJ.iq),.v (.i .i64 p3.iJ.iF),.v (.sl 2 (ah iD.row p3.iJ.iA)),.v (.sl 1 (ah bY p3.iJ.iC)),.v (.sl 2 (ah im.row p3.iJ.il)),.v (.i .i64 p3.jQ)],[.v (.s p4.iU),.v (.i .i64 p4.iJ.bt),.v (.s p4.iJ.iq),.v (.i .i64 p4.iJ.iF),.v (.sl 2 (ah iD.row p4.iJ.iA)),.v (.sl 1 (ah bY p4.iJ.iC)),.v (.sl 2 (ah im.row p4.iJ.il)),.v (.i .i64 p4.jQ)]]⟩):=by
 have e:=Option.some.inj (ho.symm.trans (rfl:cD 0 8 MI=some _))
 subst e
 clear ho
 show aH _ _ _ _ _ _=_
 revert hF
 unfold ng
 refine bF (fun h1=>?_) (fun h1=>?_)
 rotate_left 1
 refine bF (fun h2=>?_) (fun h2=>?_)
 rotate_left 1
 refine az fun x1 h3=>?_
 have g1:=bK (qz p3.iJ p4.iJ _ h3)
 all_goals (rintro⟨⟩;simp (maxSteps:=4000000) only [*,PG,Ks,LH,↓RP,RB,RC,Nat.reduceBEq,List.map,Nat.reduceAdd,bne,aP,ty3,ty9,mh,zS,↓aa _ _ _ _ 8])
def pO (p0:iN) (p1:iN) (s:Int):St:=⟨[(2,.rp [.i .i64 p0.iL,.sl 8 (ah ip.row p0.bi)]),(3,.rp [.i .i64 p1.iL,.sl 8 (ah ip.row p1.bi)]),(5,.v (.i .i64 s))],[]⟩
def rM (p0:iN) (p1:iN) (r:(ip×ip)⊕Unit):Option (Ex×St):=match r with
 | .inl r=>some (.ret,⟨[(4,.v (.b false))],[[.v (.s r.1.iU),.v (.i .i64 r.1.iJ.bt),.v (.s r.1.iJ.iq),.v (.i .i64 r.1.iJ.iF),.v (.sl 2 (ah iD.row r.1.iJ.iA)),.v (.sl 1 (ah bY r.1.iJ.iC)),.v (.sl 2 (ah im.row r.1.iJ.il)),.v (.i .i64 r.1.jQ)],[.v (.s r.2.iU),.v (.i .i64 r.2.iJ.bt),.v (.s r.2.iJ.iq),.v (.i .i64 r.2.iJ.iF),.v (.sl 2 (ah iD.row r.2.iJ.iA)),.v (.sl 1 (ah bY r.2.iJ.iC)),.v (.sl 2 (ah im.row r.2.iJ.il)),.v (.i .i64 r.2.jQ)]]⟩)
 | .inr r=>some (.normal,⟨[],[]⟩)
theorem xo (C:aj) (qz:uU C) (p0:iN) (p1:iN) (p2:Int) (o:Int⊕((ip×ip)⊕Unit)) (hF:pI p0 p1 p2=some o):evW TT C.wide BU MI 0 (pO p0 p1 p2)=Sum.elim (fun s=>evW TT C.wide BU MI 0 (pO p0 p1 s)) (fun r=>rM p0 p1 r) o:=by
 rw [cG TT BU SM]
 revert hF
 unfold pI
 try dsimp only
 refine bF (fun h1=>?_) (fun h1=>?_)
 rotate_left 1
 refine az fun x1 h2=>?_
 have g1:decide (0<=p2)=true:=(cp h2).1
 have g2:(ah ip.row p0.bi)[(p2:Int).toNat]? =some [.s x1.iU,.i .i64 x1.iJ.bt,.s x1.iJ.iq,.i .i64 x1.iJ.iF,.sl 2 (ah iD.row x1.iJ.iA),.sl 1 (ah bY x1.iJ.iC),.sl 2 (ah im.row x1.iJ.il),.i .i64 x1.jQ]:=cn _ h2
 refine az fun x2 h3=>?_
 have g3:(ah ip.row p1.bi)[(p2:Int).toNat]? =some [.s x2.iU,.i .i64 x2.iJ.bt,.s x2.iJ.iq,.i .i64 x2.iJ.iF,.sl 2 (ah iD.row x2.iJ.iA),.sl 1 (ah bY x2.iJ.iC),.sl 2 (ah im.row x2.iJ.il),.i .i64 x2.jQ]:=cn _ h3
 refine az fun x3 h4=>?_
 have g4:=zM C qz p0 p1 p2 x1 x2 _ rfl _ h4
 refine aX (fun h5=>?_) (fun h5=>?_)
 rotate_left 1
 all_goals (rintro⟨⟩;show cN _ _ _ (aH _ _ _ _ (Code.seq _ _) _)=_;simp (maxSteps:=4000000) only [*,pO,rM,Vl,NI,PG,Ks,LH,WF,↓RP,RB,RC,↓ai,Nat.reduceBEq,bP,List.map,Nat.reduceAdd,Nat.reduceLeDiff,bne,↓ao,↓am,ty3,ty4,Bp,wv,zS,↓aa _ _ _ _ 4,↓aa _ _ _ _ 6,↓aa _ _ _ _ 7,↓bg _ _ _ _ 8,↓aa _ _ _ _ 9,↓aa _ _ _ _ 5])
theorem Fb (C:aj) (qz:uU C) (p0:iN) (p1:iN) (r:Bool) (hF:rF p0 p1=some r):cR TT C.wide (evW TT C.wide BU MI) BU Tryz.f102.results.toList (aU Tryz.f102) [.agg [.v (.i .i64 p0.iL),.v (.sl 8 (ah ip.row p0.bi))],.agg [.v (.i .i64 p1.iL),.v (.sl 8 (ah ip.row p1.bi))]] []=some (.v (.b r),[]):=by
 revert hF
 unfold rF
 refine bF (fun h1=>?_) (fun h1=>?_)
 rotate_left 1
 refine bF (fun h2=>?_) (fun h2=>?_)
 rotate_left 1
 refine az ?_
 rintro (⟨x1,x2⟩|_) h3
 focus
  dsimp only
  have g1:=cH _ _ (xo C qz p0 p1) h3
  try simp only [pO,rM] at g1
 rotate_left 1
 dsimp only
 have g2:=cH _ _ (xo C qz p0 p1) h3
 try simp only [pO,rM] at g2
 all_goals (rintro⟨⟩;rw [bk];show cC _ _ _ (aH _ _ _ _ (Code.seq _ _) _)=_;simp (maxSteps:=4000000) only [*,Wt,Vl,NI,PG,Ks,qay,LH,↓RP,RB,RC,Nat.reduceBEq,bP,List.map,Nat.reduceAdd,bne,↓ao,↓am,ty3,ty4,Bp,wv,↓aa _ _ _ _ 0,↓aa _ _ _ _ 1,↓aa _ _ _ _ 2,↓aa _ _ _ _ 3,↓aa _ _ _ _ 10])
def NF:List (Nat×List Nat):=[(0,[2,3]),(1,[4])]
def KR:cL where
 keep:=ax NF
 ro:=fun t=>t==2||t==3
 mv:=fun _=>false
 give:=fun _=>false
 free:=fun _=>[]
theorem Vq (i:Nat):KR.keep i=ax NF i:=rfl
theorem YH (t:Nat):KR.ro t=(t==2||t==3):=rfl
theorem Xk (t:Nat):KR.mv t=(false):=rfl
theorem ZN:Tryz.f103.results.toList= [.tmp 4]:=rfl
noncomputable def TV:Code:=aU Tryz.f103
theorem Aw (C:aj) (oW:qL C) (p0:jf) (p1:jf) (c:Code) (ho:cD 0 1 TV=some c) (r:Bool) (hF:qZ p0 p1=some r): @cV TT C.wide (evW TT C.wide KR TV) KR 0 1 ⟨[(2,.rp [.i .i64 p0.jW,.s p0.iq,.i .i64 p0.fN,.sl 1 (ah bY p0.jH)]),(3,.rp [.i .i64 p1.jW,.s p1.iq,.i .i64 p1.fN,.sl 1 (ah bY p1.jH)])],[]⟩ ⟨c⟩=some (.normal,⟨[(4,.v (.b r))],[]⟩):=by
 have e:=Option.some.inj (ho.symm.trans (rfl:cD 0 1 TV=some _))
 subst e
 clear ho
 show aH _ _ _ _ _ _=_
 revert hF
 unfold qZ
 refine bF (fun h1=>?_) (fun h1=>?_)
 rotate_left 1
 refine bF (fun h2=>?_) (fun h2=>?_)
 rotate_left 1
 refine bF (fun h3=>?_) (fun h3=>?_)
 rotate_left 1
 refine az fun x1 h4=>?_
 have g1:=bK (oW p0.jH p1.jH _ h4)
 all_goals (rintro⟨⟩;simp (maxSteps:=4000000) only [*,Vq,NF,Xk,↓RP,RB,RC,Nat.reduceBEq,List.map,ty3,ty4,ty9,mD,ph,zR,↓aa _ _ _ _ 1])
theorem Ft (C:aj) (oW:qL C) (p0:jf) (p1:jf) (r:Bool) (hF:rA p0 p1=some r):cR TT C.wide (evW TT C.wide KR TV) KR Tryz.f103.results.toList (aU Tryz.f103) [.agg [.v (.i .i64 p0.jW),.v (.s p0.iq),.v (.i .i64 p0.fN),.v (.sl 1 (ah bY p0.jH))],.agg [.v (.i .i64 p1.jW),.v (.s p1.iq),.v (.i .i64 p1.fN),.v (.sl 1 (ah bY p1.jH))]] []=some (.v (.b r),[]):=by
 revert hF
 unfold rA
 refine az fun x1 h1=>?_
 have g1:=Aw C oW p0 p1 _ rfl _ h1
 all_goals (rintro⟨⟩;rw [bk];show cC _ _ _ (aH _ _ _ _ (Code.seq _ _) _)=_;simp (maxSteps:=4000000) only [*,ZN,Vq,NF,YH,↓RP,RB,RC,Nat.reduceBEq,bP,List.map,Nat.reduceAdd,↓ao,ty4,zR,↓aa _ _ _ _ 0,↓bg _ _ _ _ 1])
def OW:List (Nat×List Nat):=[(0,[2,3]),(1,[2,3,29]),(2,[4]),(3,[2,3,5]),(4,[2,3,5,34]),(5,[2,3,5]),(6,[2,3,5,6]),(7,[2,3,5,6,7]),(8,[2,3,5,73]),(9,[4]),(10,[4])]
def Ux:List (Nat×List Nat×List Nat):=[(29,[],[2,3]),(34,[2,3,5],[]),(73,[],[2,3,5])]
def n79:cL where
 keep:=ax OW
 ro:=fun t=>t==2||t==3
 mv:=fun _=>false
 give:=fun _=>false
 free:=fun _=>[]
 alive:=av Ux
theorem qda (t:Nat) (x:Bool) (e:Env) (S:bH):cK n79 t x ⟨e,S⟩=atO (av Ux t x) e S:=cF rfl t x e S
theorem Tu (i:Nat):n79.keep i=ax OW i:=rfl
theorem qgi (t:Nat):n79.ro t=(t==2||t==3):=rfl
theorem P3 (t:Nat):n79.mv t=(false):=rfl
theorem qcv (t:Nat):n79.give t=(false):=rfl
theorem qdI:Tryz.f79.results.toList= [.tmp 4]:=rfl
noncomputable def b79:Code:=aU Tryz.f79
noncomputable def qdv:Code:=(bE 0 (aU Tryz.f79)).getD .skip
theorem YU:bE 0 b79=some qdv:=rfl
theorem zK (C:aj) (w5:uI C) (p0:iv) (p1:iv) (c:Code) (ho:cD 0 1 b79=some c) (r:Bool) (hF:nc p0 p1=some r): @cV TT C.wide (evW TT C.wide n79 b79) n79 0 1 ⟨[(2,.rp [.i .i64 p0.af.iL,.sl 8 (ah ip.row p0.af.bi),.i .i64 p0.iG,.sl 7 (ah gi.row p0.bz)]),(3,.rp [.i .i64 p1.af.iL,.sl 8 (ah ip.row p1.af.bi),.i .i64 p1.iG,.sl 7 (ah gi.row p1.bz)])],[]⟩ ⟨c⟩=some (.normal,⟨[(2,.rp [.i .i64 p0.af.iL,.sl 8 (ah ip.row p0.af.bi),.i .i64 p0.iG,.sl 7 (ah gi.row p0.bz)]),(3,.rp [.i .i64 p1.af.iL,.sl 8 (ah ip.row p1.af.bi),.i .i64 p1.iG,.sl 7 (ah gi.row p1.bz)]),(29,.v (.b r))],[]⟩):=by
 have e:=Option.some.inj (ho.symm.trans (rfl:cD 0 1 b79=some _))
 subst e
 clear ho
 show aH _ _ _ _ _ _=_
 revert hF
 unfold nc
 refine bF (fun h1=>?_) (fun h1=>?_)
 rotate_left 1
 refine az fun x1 h2=>?_
 have g1:=bK (w5 p0.af p1.af _ h2)
 refine aX (fun h3=>?_) (fun h3=>?_)
 rotate_left 1
 all_goals (rintro⟨⟩;simp (maxSteps:=4000000) only [*,Tu,OW,P3,↓RP,RB,RC,Nat.reduceBEq,List.map,Nat.reduceAdd,bne,ty3,wv,Ab,u4,↓aa _ _ _ _ 1])
theorem yC (C:aj) (qB:uL C) (p0:iv) (p1:iv) (p2:Int) (p3:gi) (p4:gi) (c:Code) (ho:cD 0 8 b79=some c) (r:Bool) (hF:mi p0 p1 p2 p3 p4=some r): @cV TT C.wide (evW TT C.wide n79 b79) n79 0 8 ⟨[(2,.rp [.i .i64 p0.af.iL,.sl 8 (ah ip.row p0.af.bi),.i .i64 p0.iG,.sl 7 (ah gi.row p0.bz)]),(3,.rp [.i .i64 p1.af.iL,.sl 8 (ah ip.row p1.af.bi),.i .i64 p1.iG,.sl 7 (ah gi.row p1.bz)]),(5,.v (.i .i64 p2)),(6,.ptr 0 0),(7,.ptr 1 0)],[[.v (.i .i64 p3.fId),.v (.i .i64 p3.je),.v (.i .i64 p3.iS),.v (.i .i64 p3.iX.jW),.v (.s p3.iX.iq),.v (.i .i64 p3.iX.fN),.v (.sl 1 (ah bY p3.iX.jH))],[.v (.i .i64 p4.fId),.v (.i .i64 p4.je),.v (.i .i64 p4.iS),.v (.i .i64 p4.iX.jW),.v (.s p4.iX.iq),.v (.i .i64 p4.iX.fN),.v (.sl 1 (ah bY p4.iX.jH))]]⟩ ⟨c⟩=some (.normal,⟨[(2,.rp [.i .i64 p0.af.iL,.sl 8 (ah ip.row p0.af.bi),.i .i64 p0.iG,.sl 7 (ah gi.row p0.bz)]),(3,.rp [.i .i64 p1.af.iL,.sl 8 (ah ip.row p1.af.bi),.i .i64 p1.iG,.sl 7 (ah gi.row p1.bz)]),(5,.v (.i .i64 p2)),(73,.v (.b r))],[[.v (.i .i64 p3.fId),.v (.i .i64 p3.je),.v (.i .i64 p3.iS),.v (.i .i64 p3.iX.jW),.v (.s p3.iX.iq),.v (.i .i64 p3.iX.fN),.v (.sl 1 (ah bY p3.iX.jH))],[.v (.i .i64 p4.fId),.v (.i .i64 p4.je),.v (.i .i64 p4.iS),.v (.i .i64 p4.iX.jW),.v (.s p4.iX.iq),.v (.i .i64 p4.iX.fN),.v (.sl 1 (ah bY p4.iX.jH))]]⟩):=by
 have e:=Option.some.inj (ho.symm.trans (rfl:cD 0 8 b79=some _))
 subst e
 clear ho
 show aH _ _ _ _ _ _=_
 revert hF
 unfold mi
 refine bF (fun h1=>?_) (fun h1=>?_)
 rotate_left 1
 refine bF (fun h2=>?_) (fun h2=>?_)
 rotate_left 1
 refine bF (fun h3=>?_) (fun h3=>?_)
 rotate_left 1
 refine az fun x1 h4=>?_
 have g1:=bK (qB p3.iX p4.iX _ h4)
 all_goals (rintro⟨⟩;simp (maxSteps:=4000000) only [*,Tu,OW,P3,↓RP,RB,RC,Nat.reduceBEq,List.map,Nat.reduceAdd,bne,aP,ty3,zR,A5,↓aa _ _ _ _ 8])
def nE (p0:iv) (p1:iv) (s:Int):St:=⟨[(2,.rp [.i .i64 p0.af.iL,.sl 8 (ah ip.row p0.af.bi),.i .i64 p0.iG,.sl 7 (ah gi.row p0.bz)]),(3,.rp [.i .i64 p1.af.iL,.sl 8 (ah ip.row p1.af.bi),.i .i64 p1.iG,.sl 7 (ah gi.row p1.bz)]),(5,.v (.i .i64 s))],[]⟩
def qd (p0:iv) (p1:iv) (r:(gi×gi)⊕Unit):Option (Ex×St):=match r with
 | .inl r=>some (.ret,⟨[(4,.v (.b false))],[[.v (.i .i64 r.1.fId),.v (.i .i64 r.1.je),.v (.i .i64 r.1.iS),.v (.i .i64 r.1.iX.jW),.v (.s r.1.iX.iq),.v (.i .i64 r.1.iX.fN),.v (.sl 1 (ah bY r.1.iX.jH))],[.v (.i .i64 r.2.fId),.v (.i .i64 r.2.je),.v (.i .i64 r.2.iS),.v (.i .i64 r.2.iX.jW),.v (.s r.2.iX.iq),.v (.i .i64 r.2.iX.fN),.v (.sl 1 (ah bY r.2.iX.jH))]]⟩)
 | .inr r=>some (.normal,⟨[],[]⟩)
theorem wa (C:aj) (qB:uL C) (p0:iv) (p1:iv) (p2:Int) (o:Int⊕((gi×gi)⊕Unit)) (hF:nJ p0 p1 p2=some o):evW TT C.wide n79 b79 0 (nE p0 p1 p2)=Sum.elim (fun s=>evW TT C.wide n79 b79 0 (nE p0 p1 s)) (fun r=>qd p0 p1 r) o:=by
 rw [cG TT n79 YU]
 revert hF
 unfold nJ
 try dsimp only
 refine bF (fun h1=>?_) (fun h1=>?_)
 rotate_left 1
 refine az fun x1 h2=>?_
 have g1:decide (0<=p2)=true:=(cp h2).1
 have g2:(ah gi.row p0.bz)[(p2:Int).toNat]? =some [.i .i64 x1.fId,.i .i64 x1.je,.i .i64 x1.iS,.i .i64 x1.iX.jW,.s x1.iX.iq,.i .i64 x1.iX.fN,.sl 1 (ah bY x1.iX.jH)]:=cn _ h2
 refine az fun x2 h3=>?_
 have g3:(ah gi.row p1.bz)[(p2:Int).toNat]? =some [.i .i64 x2.fId,.i .i64 x2.je,.i .i64 x2.iS,.i .i64 x2.iX.jW,.s x2.iX.iq,.i .i64 x2.iX.fN,.sl 1 (ah bY x2.iX.jH)]:=cn _ h3
 refine az fun x3 h4=>?_
 have g4:=yC C qB p0 p1 p2 x1 x2 _ rfl _ h4
 refine aX (fun h5=>?_) (fun h5=>?_)
 rotate_left 1
 all_goals (rintro⟨⟩;show cN _ _ _ (aH _ _ _ _ (Code.seq _ _) _)=_;simp (maxSteps:=4000000) only [*,nE,qd,qda,Ux,Tu,OW,P3,qcv,↓RP,RB,RC,↓ai,Nat.reduceBEq,bP,List.map,Nat.reduceAdd,Nat.reduceLeDiff,bne,↓ao,↓am,ty3,ty4,Ab,u4,A5,↓aa _ _ _ _ 4,↓aa _ _ _ _ 6,↓aa _ _ _ _ 7,↓bg _ _ _ _ 8,↓aa _ _ _ _ 9,↓aa _ _ _ _ 5])
theorem CM (C:aj) (w5:uI C) (qB:uL C) (p0:iv) (p1:iv) (r:Bool) (hF:oM p0 p1=some r):cR TT C.wide (evW TT C.wide n79 b79) n79 Tryz.f79.results.toList (aU Tryz.f79) [.agg [.v (.i .i64 p0.af.iL),.v (.sl 8 (ah ip.row p0.af.bi)),.v (.i .i64 p0.iG),.v (.sl 7 (ah gi.row p0.bz))],.agg [.v (.i .i64 p1.af.iL),.v (.sl 8 (ah ip.row p1.af.bi)),.v (.i .i64 p1.iG),.v (.sl 7 (ah gi.row p1.bz))]] []=some (.v (.b r),[]):=by
 revert hF
 unfold oM
 refine az fun x1 h1=>?_
 have g1:=zK C w5 p0 p1 _ rfl _ h1
 refine aX (fun h2=>?_) (fun h2=>?_)
 rotate_left 1
 refine az ?_
 rintro (⟨x2,x3⟩|_) h3
 focus
  dsimp only
  have g2:=cH _ _ (wa C qB p0 p1) h3
  try simp only [nE,qd] at g2
 rotate_left 1
 dsimp only
 have g3:=cH _ _ (wa C qB p0 p1) h3
 try simp only [nE,qd] at g3
 all_goals (rintro⟨⟩;rw [bk];show cC _ _ _ (aH _ _ _ _ (Code.seq _ _) _)=_;simp (maxSteps:=4000000) only [*,qdI,qda,Ux,Tu,OW,qgi,↓RP,RB,RC,Nat.reduceBEq,bP,List.map,Nat.reduceAdd,↓ao,↓am,ty3,ty4,u4,↓aa _ _ _ _ 0,↓bg _ _ _ _ 1,↓aa _ _ _ _ 2,↓aa _ _ _ _ 3,↓aa _ _ _ _ 10])
def SK:List (Nat×List Nat):=[(0,[2,3]),(1,[4])]
def n38:cL where
 keep:=ax SK
 ro:=fun t=>t==2||t==3
 mv:=fun _=>false
 give:=fun _=>false
 free:=fun _=>[]
theorem qgO (i:Nat):n38.keep i=ax SK i:=rfl
theorem qga (t:Nat):n38.ro t=(t==2||t==3):=rfl
theorem qcR (t:Nat):n38.mv t=(false):=rfl
theorem qfR:Tryz.f38.results.toList= [.tmp 4]:=rfl
noncomputable def b38:Code:=aU Tryz.f38
theorem Bt (C:aj) (vh:vp C) (p0:i5) (p1:i5) (c:Code) (ho:cD 0 1 b38=some c) (r:Bool) (hF:rT p0 p1=some r): @cV TT C.wide (evW TT C.wide n38 b38) n38 0 1 ⟨[(2,.rp [.i .i64 p0.iT,.i .i64 p0.iI,.i .i64 p0.iu.af.iL,.sl 8 (ah ip.row p0.iu.af.bi),.i .i64 p0.iu.iG,.sl 7 (ah gi.row p0.iu.bz)]),(3,.rp [.i .i64 p1.iT,.i .i64 p1.iI,.i .i64 p1.iu.af.iL,.sl 8 (ah ip.row p1.iu.af.bi),.i .i64 p1.iu.iG,.sl 7 (ah gi.row p1.iu.bz)])],[]⟩ ⟨c⟩=some (.normal,⟨[(4,.v (.b r))],[]⟩):=by
 have e:=Option.some.inj (ho.symm.trans (rfl:cD 0 1 b38=some _))
 subst e
 clear ho
 show aH _ _ _ _ _ _=_
 revert hF
 unfold rT
 refine bF (fun h1=>?_) (fun h1=>?_)
 rotate_left 1
 refine bF (fun h2=>?_) (fun h2=>?_)
 rotate_left 1
 refine az fun x1 h3=>?_
 have g1:=bK (vh p0.iu p1.iu _ h3)
 all_goals (rintro⟨⟩;simp (maxSteps:=4000000) only [*,qgO,SK,qcR,↓RP,RB,RC,Nat.reduceBEq,List.map,Nat.reduceAdd,ty3,ty4,u4,Ah,↓aa _ _ _ _ 1])
theorem IG (C:aj) (vh:vp C) (p0:i5) (p1:i5) (r:Bool) (hF:sP p0 p1=some r):cR TT C.wide (evW TT C.wide n38 b38) n38 Tryz.f38.results.toList (aU Tryz.f38) [.agg [.v (.i .i64 p0.iT),.v (.i .i64 p0.iI),.v (.i .i64 p0.iu.af.iL),.v (.sl 8 (ah ip.row p0.iu.af.bi)),.v (.i .i64 p0.iu.iG),.v (.sl 7 (ah gi.row p0.iu.bz))],.agg [.v (.i .i64 p1.iT),.v (.i .i64 p1.iI),.v (.i .i64 p1.iu.af.iL),.v (.sl 8 (ah ip.row p1.iu.af.bi)),.v (.i .i64 p1.iu.iG),.v (.sl 7 (ah gi.row p1.iu.bz))]] []=some (.v (.b r),[]):=by
 revert hF
 unfold sP
 refine az fun x1 h1=>?_
 have g1:=Bt C vh p0 p1 _ rfl _ h1
 all_goals (rintro⟨⟩;rw [bk];show cC _ _ _ (aH _ _ _ _ (Code.seq _ _) _)=_;simp (maxSteps:=4000000) only [*,qfR,qgO,SK,qga,↓RP,RB,RC,Nat.reduceBEq,bP,List.map,Nat.reduceAdd,↓ao,ty4,Ah,↓aa _ _ _ _ 0,↓bg _ _ _ _ 1])
def UN:List (Nat×List Nat):=[(0,[2,3]),(1,[4])]
def n22:cL where
 keep:=ax UN
 ro:=fun t=>t==2||t==3
 mv:=fun _=>false
 give:=fun _=>false
 free:=fun _=>[]
theorem qg6 (i:Nat):n22.keep i=ax UN i:=rfl
theorem qfX (t:Nat):n22.ro t=(t==2||t==3):=rfl
theorem qeO (t:Nat):n22.mv t=(false):=rfl
theorem qf6:Tryz.f22.results.toList= [.tmp 4]:=rfl
noncomputable def b22:Code:=aU Tryz.f22
theorem Aj (C:aj) (xY:xS C) (p0:iw) (p1:iw) (c:Code) (ho:cD 0 1 b22=some c) (r:Bool) (hF:qj p0 p1=some r): @cV TT C.wide (evW TT C.wide n22 b22) n22 0 1 ⟨[(2,.rp [.i .i64 p0.bt,.i .i64 p0.iI,.i .i64 p0.lz,.i .i64 p0.iT,.i .i64 p0.iz.iI,.i .i64 p0.iz.iS,.b p0.iz.jY,.i .i64 p0.iz.cO.iO,.i .i64 p0.iz.cO.je,.i .i64 p0.iz.cO.ad.bt,.s p0.iz.cO.ad.iU,.s p0.iz.cO.ad.iE,.s p0.iz.cO.ad.iq,.i .i64 p0.iz.cO.ad.fN,.i .i64 p0.iH.iT,.i .i64 p0.iH.iI,.i .i64 p0.iH.iu.af.iL,.sl 8 (ah ip.row p0.iH.iu.af.bi),.i .i64 p0.iH.iu.iG,.sl 7 (ah gi.row p0.iH.iu.bz)]),(3,.rp [.i .i64 p1.bt,.i .i64 p1.iI,.i .i64 p1.lz,.i .i64 p1.iT,.i .i64 p1.iz.iI,.i .i64 p1.iz.iS,.b p1.iz.jY,.i .i64 p1.iz.cO.iO,.i .i64 p1.iz.cO.je,.i .i64 p1.iz.cO.ad.bt,.s p1.iz.cO.ad.iU,.s p1.iz.cO.ad.iE,.s p1.iz.cO.ad.iq,.i .i64 p1.iz.cO.ad.fN,.i .i64 p1.iH.iT,.i .i64 p1.iH.iI,.i .i64 p1.iH.iu.af.iL,.sl 8 (ah ip.row p1.iH.iu.af.bi),.i .i64 p1.iH.iu.iG,.sl 7 (ah gi.row p1.iH.iu.bz)])],[]⟩ ⟨c⟩=some (.normal,⟨[(4,.v (.b r))],[]⟩):=by
 have e:=Option.some.inj (ho.symm.trans (rfl:cD 0 1 b22=some _))
 subst e
 clear ho
 show aH _ _ _ _ _ _=_
 revert hF
 unfold qj
 refine bF (fun h1=>?_) (fun h1=>?_)
 rotate_left 1
 unfold qT
 refine bF (fun h2=>?_) (fun h2=>?_)
 rotate_left 1
 refine bF (fun h3=>?_) (fun h3=>?_)
 rotate_left 1
 refine bF (fun h4=>?_) (fun h4=>?_)
 rotate_left 1
 refine bF (fun h5=>?_) (fun h5=>?_)
 rotate_left 1
 refine bF (fun h6=>?_) (fun h6=>?_)
 rotate_left 1
 refine bF (fun h7=>?_) (fun h7=>?_)
 rotate_left 1
 refine bF (fun h8=>?_) (fun h8=>?_)
 rotate_left 1
 unfold qR
 refine bF (fun h9=>?_) (fun h9=>?_)
 rotate_left 1
 refine bF (fun h10=>?_) (fun h10=>?_)
 rotate_left 1
 refine bF (fun h11=>?_) (fun h11=>?_)
 rotate_left 1
 refine bF (fun h12=>?_) (fun h12=>?_)
 rotate_left 1
 refine bF (fun h13=>?_) (fun h13=>?_)
 rotate_left 1
 refine bF (fun h14=>?_) (fun h14=>?_)
 rotate_left 1
 refine az fun x1 h15=>?_
 have g1:=bK (xY p0.iH p1.iH _ h15)
 all_goals (rintro⟨⟩;simp (maxSteps:=4000000) only [*,qg6,UN,qeO,↓RP,RB,RC,Nat.reduceBEq,List.map,Nat.reduceAdd,aG,ty3,ty4,Ah,zN,CU,↓aa _ _ _ _ 1])
theorem C7 (C:aj) (xY:xS C) (p0:iw) (p1:iw) (r:Bool) (hF:qe p0 p1=some r):cR TT C.wide (evW TT C.wide n22 b22) n22 Tryz.f22.results.toList (aU Tryz.f22) [.agg [.v (.i .i64 p0.bt),.v (.i .i64 p0.iI),.v (.i .i64 p0.lz),.v (.i .i64 p0.iT),.v (.i .i64 p0.iz.iI),.v (.i .i64 p0.iz.iS),.v (.b p0.iz.jY),.v (.i .i64 p0.iz.cO.iO),.v (.i .i64 p0.iz.cO.je),.v (.i .i64 p0.iz.cO.ad.bt),.v (.s p0.iz.cO.ad.iU),.v (.s p0.iz.cO.ad.iE),.v (.s p0.iz.cO.ad.iq),.v (.i .i64 p0.iz.cO.ad.fN),.v (.i .i64 p0.iH.iT),.v (.i .i64 p0.iH.iI),.v (.i .i64 p0.iH.iu.af.iL),.v (.sl 8 (ah ip.row p0.iH.iu.af.bi)),.v (.i .i64 p0.iH.iu.iG),.v (.sl 7 (ah gi.row p0.iH.iu.bz))],.agg [.v (.i .i64 p1.bt),.v (.i .i64 p1.iI),.v (.i .i64 p1.lz),.v (.i .i64 p1.iT),.v (.i .i64 p1.iz.iI),.v (.i .i64 p1.iz.iS),.v (.b p1.iz.jY),.v (.i .i64 p1.iz.cO.iO),.v (.i .i64 p1.iz.cO.je),.v (.i .i64 p1.iz.cO.ad.bt),.v (.s p1.iz.cO.ad.iU),.v (.s p1.iz.cO.ad.iE),.v (.s p1.iz.cO.ad.iq),.v (.i .i64 p1.iz.cO.ad.fN),.v (.i .i64 p1.iH.iT),.v (.i .i64 p1.iH.iI),.v (.i .i64 p1.iH.iu.af.iL),.v (.sl 8 (ah ip.row p1.iH.iu.af.bi)),.v (.i .i64 p1.iH.iu.iG),.v (.sl 7 (ah gi.row p1.iH.iu.bz))]] []=some (.v (.b r),[]):=by
 revert hF
 unfold qe
 refine az fun x1 h1=>?_
 have g1:=Aj C xY p0 p1 _ rfl _ h1
 all_goals (rintro⟨⟩;rw [bk];show cC _ _ _ (aH _ _ _ _ (Code.seq _ _) _)=_;simp (maxSteps:=4000000) only [*,qf6,qg6,UN,qfX,↓RP,RB,RC,Nat.reduceBEq,bP,List.map,Nat.reduceAdd,↓ao,ty4,CU,↓aa _ _ _ _ 0,↓bg _ _ _ _ 1])
def n8K:List (Nat×List Nat):=[(0,[0,1]),(1,[0,1,10]),(2,[4]),(3,[0,1,5]),(4,[0,1,5,14]),(5,[0,1,5]),(6,[0,1,5,26]),(7,[4]),(8,[4])]
def n8A:List (Nat×List Nat×List Nat):=[(10,[],[0,1]),(14,[0,1,5],[]),(26,[],[0,1,5])]
def n8:cL where
 keep:=ax n8K
 ro:=fun _=>false
 mv:=fun _=>false
 give:=fun _=>false
 free:=fun i=>match i with|6=>[(0,1),(0,4),(1,4),(2,4),(3,4),(0,5),(1,5),(2,5),(3,5),(4,5),(0,6),(1,6),(2,6),(3,6),(0,7),(1,7),(2,7),(3,7)]|_=>[]
 alive:=av n8A
theorem n8a (t:Nat) (x:Bool) (e:Env) (S:bH):cK n8 t x ⟨e,S⟩=atO (av n8A t x) e S:=cF rfl t x e S
theorem n8k (i:Nat):n8.keep i=ax n8K i:=rfl
theorem qhp (t:Nat):n8.mv t=(false):=rfl
theorem qhP:n8.free 6= [(0,1),(0,4),(1,4),(2,4),(3,4),(0,5),(1,5),(2,5),(3,5),(4,5),(0,6),(1,6),(2,6),(3,6),(0,7),(1,7),(2,7),(3,7)]:=rfl
theorem qhF:Tryz.f8.results.toList= [.tmp 4]:=rfl
noncomputable def b8:Code:=aU Tryz.f8
noncomputable def qiO:Code:=(bE 0 (aU Tryz.f8)).getD .skip
theorem qel:bE 0 b8=some qiO:=rfl
def nD (p0:List iw) (p1:List iw) (s:Int):St:=⟨[(0,.v (.sl 20 (ah iw.row p0))),(1,.v (.sl 20 (ah iw.row p1))),(5,.v (.i .i64 s))],[]⟩
def pY (p0:List iw) (p1:List iw) (r:Unit⊕Unit):Option (Ex×St):=match r with
 | .inl r=>some (.ret,⟨[(4,.v (.b false))],[]⟩)
 | .inr r=>some (.normal,⟨[],[]⟩)
theorem vR (C:aj) (tJ:vZ C) (p0:List iw) (p1:List iw) (p2:Int) (o:Int⊕(Unit⊕Unit)) (hF:nK p0 p1 p2=some o):evW TT C.wide n8 b8 0 (nD p0 p1 p2)=Sum.elim (fun s=>evW TT C.wide n8 b8 0 (nD p0 p1 s)) (fun r=>pY p0 p1 r) o:=by
 rw [cG TT n8 qel]
 revert hF
 unfold nK
 try dsimp only
 refine bF (fun h1=>?_) (fun h1=>?_)
 rotate_left 1
 refine az fun x1 h2=>?_
 have g1:decide (0<=p2)=true:=(cp h2).1
 have g2:(ah iw.row p0)[(p2:Int).toNat]? =some [.i .i64 x1.bt,.i .i64 x1.iI,.i .i64 x1.lz,.i .i64 x1.iT,.i .i64 x1.iz.iI,.i .i64 x1.iz.iS,.b x1.iz.jY,.i .i64 x1.iz.cO.iO,.i .i64 x1.iz.cO.je,.i .i64 x1.iz.cO.ad.bt,.s x1.iz.cO.ad.iU,.s x1.iz.cO.ad.iE,.s x1.iz.cO.ad.iq,.i .i64 x1.iz.cO.ad.fN,.i .i64 x1.iH.iT,.i .i64 x1.iH.iI,.i .i64 x1.iH.iu.af.iL,.sl 8 (ah ip.row x1.iH.iu.af.bi),.i .i64 x1.iH.iu.iG,.sl 7 (ah gi.row x1.iH.iu.bz)]:=cn _ h2
 refine az fun x2 h3=>?_
 have g3:(ah iw.row p1)[(p2:Int).toNat]? =some [.i .i64 x2.bt,.i .i64 x2.iI,.i .i64 x2.lz,.i .i64 x2.iT,.i .i64 x2.iz.iI,.i .i64 x2.iz.iS,.b x2.iz.jY,.i .i64 x2.iz.cO.iO,.i .i64 x2.iz.cO.je,.i .i64 x2.iz.cO.ad.bt,.s x2.iz.cO.ad.iU,.s x2.iz.cO.ad.iE,.s x2.iz.cO.ad.iq,.i .i64 x2.iz.cO.ad.fN,.i .i64 x2.iH.iT,.i .i64 x2.iH.iI,.i .i64 x2.iH.iu.af.iL,.sl 8 (ah ip.row x2.iH.iu.af.bi),.i .i64 x2.iH.iu.iG,.sl 7 (ah gi.row x2.iH.iu.bz)]:=cn _ h3
 refine az fun x3 h4=>?_
 have g4:=bK (tJ x1 x2 _ h4)
 refine aX (fun h5=>?_) (fun h5=>?_)
 rotate_left 1
 all_goals (rintro⟨⟩;show cN _ _ _ (aH _ _ _ _ (Code.seq _ _) _)=_;simp (maxSteps:=4000000) only [*,nD,pY,n8a,n8A,n8k,n8K,qhP,qhp,↓RP,RB,RC,↓ai,Nat.reduceBEq,List.map,Nat.reduceAdd,↓ao,↓am,↓aa,↓aq,ty3,ty4,LF,CU])
theorem CT (C:aj) (tJ:vZ C) (p0:List iw) (p1:List iw) (r:Bool) (hF:oY p0 p1=some r):cR TT C.wide (evW TT C.wide n8 b8) n8 Tryz.f8.results.toList (aU Tryz.f8) [.v (.sl 20 (ah iw.row p0)),.v (.sl 20 (ah iw.row p1))] []=some (.v (.b r),[]):=by
 revert hF
 unfold oY
 refine bF (fun h1=>?_) (fun h1=>?_)
 rotate_left 1
 refine az ?_
 rintro (_|_) h2
 focus
  dsimp only
  have g1:=cH _ _ (vR C tJ p0 p1) h2
  try simp only [nD,pY] at g1
 rotate_left 1
 dsimp only
 have g2:=cH _ _ (vR C tJ p0 p1) h2
 try simp only [nD,pY] at g2
 all_goals (rintro⟨⟩;rw [bk];show cC _ _ _ (aH _ _ _ _ (Code.seq _ _) _)=_;simp (maxSteps:=4000000) only [*,qhF,n8a,n8A,n8k,n8K,↓RP,RB,RC,Nat.reduceBEq,List.map,Nat.reduceAdd,bne,↓ao,↓am,↓aa,ty3,ty4,LF])
def n9K:List (Nat×List Nat):=[(0,[2,3]),(1,[4])]
def n9:cL where
 keep:=ax n9K
 ro:=fun t=>t==2||t==3
 mv:=fun _=>false
 give:=fun _=>false
 free:=fun _=>[]
theorem n9k (i:Nat):n9.keep i=ax n9K i:=rfl
theorem qiN (t:Nat):n9.ro t=(t==2||t==3):=rfl
theorem qhE (t:Nat):n9.mv t=(false):=rfl
theorem qh2:Tryz.f9.results.toList= [.tmp 4]:=rfl
noncomputable def b9:Code:=aU Tryz.f9
theorem Jm (C:aj)  (p0:iY) (p1:iY) (r:Bool) (hF:qb p0 p1=some r):cR TT C.wide (evW TT C.wide n9 b9) n9 Tryz.f9.results.toList (aU Tryz.f9) [.agg [.v (.sl 1 (ah cE p0.iW)),.v (.i .i64 p0.iP)],.agg [.v (.sl 1 (ah cE p1.iW)),.v (.i .i64 p1.iP)]] []=some (.v (.b r),[]):=by
 revert hF
 unfold qb
 refine bF (fun h1=>?_) (fun h1=>?_)
 rotate_left 1
 refine aX (fun h2=>?_) (fun _=>nofun)
 refine aX (fun h3=>?_) (fun _=>nofun)
 all_goals (rintro⟨⟩;rw [bk];show cC _ _ _ (aH _ _ _ _ (Code.seq _ _) _)=_;simp (maxSteps:=4000000) only [*,qh2,n9k,n9K,qiN,qhE,↓RP,RB,RC,Nat.reduceBEq,bP,List.map,Nat.reduceAdd,↓ao,↓aa,ty3,ty4,ty5,ty9,qM,Dh])
def n3K:List (Nat×List Nat):=[(0,[1]),(1,[1,3]),(2,[1,3,4,5,6,15]),(3,[1,3,4,5,6,7,8,9,15,21]),(4,[2])]
def n3:cL where
 keep:=ax n3K
 ro:=fun t=>t==1
 mv:=fun _=>false
 give:=fun _=>false
 free:=fun _=>[]
theorem n3k (i:Nat):n3.keep i=ax n3K i:=rfl
theorem qhL (t:Nat):n3.ro t=(t==1):=rfl
theorem qdr (t:Nat):n3.mv t=(false):=rfl
theorem qhe (t:Nat):n3.give t=(false):=rfl
theorem qiF:Tryz.f3.results.toList= [.tmp 2]:=rfl
noncomputable def b3:Code:=aU Tryz.f3
theorem y8 (C:aj) (vi:sL C) (vD:xN C) (p0:iY) (p1:List iw) (p2:Int) (p3:List iw) (p4:Int) (p5:iY) (p6:iY) (p7:iY) (c:Code) (ho:cD 0 4 b3=some c) (r:Bool) (hF:oJ p0 p1 p2 p3 p4 p5 p6 p7=some r): @cV TT C.wide (evW TT C.wide n3 b3) n3 0 4 ⟨[(1,.rp [.sl 1 (ah cE p0.iW),.i .i64 p0.iP]),(3,.ptr 0 0),(4,.v (.sl 20 (ah iw.row p1))),(5,.ptr 1 0),(6,.v (.i .i64 p2)),(7,.v (.sl 20 (ah iw.row p3))),(8,.ptr 2 0),(9,.v (.i .i64 p4)),(15,.v (.sl 20 (ah iw.row p1))),(21,.v (.sl 20 (ah iw.row p3)))],[[.v (.sl 1 (ah cE p5.iW)),.v (.i .i64 p5.iP)],[.v (.sl 1 (ah cE p6.iW)),.v (.i .i64 p6.iP)],[.v (.sl 1 (ah cE p7.iW)),.v (.i .i64 p7.iP)]]⟩ ⟨c⟩=some (.normal,⟨[(2,.v (.b r))],[[.v (.sl 1 (ah cE p5.iW)),.v (.i .i64 p5.iP)],[.v (.sl 1 (ah cE p6.iW)),.v (.i .i64 p6.iP)],[.v (.sl 1 (ah cE p7.iW)),.v (.i .i64 p7.iP)]]⟩):=by
 have e:=Option.some.inj (ho.symm.trans (rfl:cD 0 4 b3=some _))
 subst e
 clear ho
 show aH _ _ _ _ _ _=_
 revert hF
 unfold oJ
 refine bF (fun h1=>?_) (fun h1=>?_)
 rotate_left 1
 refine az fun x1 h2=>?_
 have g1:=bK (vi p1 p3 _ h2)
 refine bF (fun h3=>?_) (fun h3=>?_)
 rotate_left 1
 refine az fun x2 h4=>?_
 have g2:=bK (vD p6 p7 _ h4)
 refine bF (fun h5=>?_) (fun h5=>?_)
 rotate_left 1
 refine az fun x3 h6=>?_
 have g3:=bK (vD p5 p0 _ h6)
 all_goals (rintro⟨⟩;simp (maxSteps:=4000000) only [*,n3k,n3K,qdr,↓RP,RB,RC,Nat.reduceBEq,List.map,Nat.reduceAdd,aP,ty4,Dh,mD,↓aa _ _ _ _ 4])
theorem B3 (C:aj) (Kc:zf C) (D3:vX C) (A9:tI C) (vi:sL C) (vD:xN C) (p0:iY) (r:Bool) (hF:tH p0=some r):cR TT C.wide (evW TT C.wide n3 b3) n3 Tryz.f3.results.toList (aU Tryz.f3) [.agg [.v (.sl 1 (ah cE p0.iW)),.v (.i .i64 p0.iP)]] []=some (.v (.b r),[]):=by
 revert hF
 unfold tH
 refine az fun x1 h1=>?_
 have g1:=bK (Kc p0 _ h1)
 refine az ?_
 rintro⟨x2,x3,x4⟩ h2
 dsimp only
 have g2:=bK (D3 x1 _ h2)
 try simp only [] at g2
 refine az ?_
 rintro⟨x5,x6,x7⟩ h3
 dsimp only
 have g3:=bK (A9 p0 _ h3)
 try simp only [] at g3
 refine az fun x8 h4=>?_
 have g4:=y8 C vi vD p0 x2 x4 x5 x7 x1 x3 x6 _ rfl _ h4
 all_goals (rintro⟨⟩;rw [bk];show cC _ _ _ (aH _ _ _ _ (Code.seq _ _) _)=_;simp (maxSteps:=4000000) only [*,qiF,n3k,n3K,qhL,qdr,qhe,↓RP,RB,RC,Nat.reduceBEq,bP,List.map,Nat.reduceAdd,Nat.reduceLeDiff,bne,↓ao,aP,ty4,Dh,LF,mD,↓aa _ _ _ _ 0,↓aa _ _ _ _ 1,↓aa _ _ _ _ 2,↓aa _ _ _ _ 3,↓bg _ _ _ _ 4])
end Go.Proofs.YtgcglmoogaldbaaGreat
