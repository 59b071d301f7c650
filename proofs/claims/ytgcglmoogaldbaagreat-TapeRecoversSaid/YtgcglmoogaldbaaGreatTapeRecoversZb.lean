/- The code of these functions, run by the machine Mx, gives what the plain functions say, if their callees do (part 2). -/
import Derived.Test.YtgcglmoogaldbaaGreatWTy
import Derived.Test.YtgcglmoogaldbaaGreatTapeRecoversD
import Derived.Test.YtgcglmoogaldbaaGreatTapeRecoversZa
set_option linter.unusedSimpArgs false
set_option linter.unusedVariables false
set_option linter.constructorNameAsVariable false
set_option linter.unnecessarySimpa false
set_option maxRecDepth 100000
set_option maxHeartbeats 40000000
namespace Go.Proofs.YtgcglmoogaldbaaGreat
open Go Go.Mx Go.Proofs
def ZB:List (Nat×List Nat):=[(0,[0,1,2]),(1,[0,1,2]),(2,[1,2]),(3,[])]
def n66:cL where
 keep:=ax ZB
 ro:=fun _=>false
 mv:=fun t=>t==24
 give:=fun _=>false
 free:=fun i=>match i with|0=>[(0,2),(1,2),(0,4),(1,4),(2,4),(3,4),(0,7),(1,7),(2,7),(3,7),(4,7),(5,7),(6,7)]|1=>[(0,2),(1,2),(0,4),(1,4),(2,4),(3,4)]|_=>[]
theorem qiS (i:Nat):n66.keep i=ax ZB i:=rfl
theorem qfd (t:Nat):n66.mv t=(t==24):=rfl
theorem qf9 (t:Nat):n66.give t=(false):=rfl
theorem qd3:n66.free 0= [(0,2),(1,2),(0,4),(1,4),(2,4),(3,4),(0,7),(1,7),(2,7),(3,7),(4,7),(5,7),(6,7)]:=rfl
theorem qgI:n66.free 1= [(0,2),(1,2),(0,4),(1,4),(2,4),(3,4)]:=rfl
theorem qfg:Tryz.f66.results.toList= []:=rfl
noncomputable def b66:Code:=aU Tryz.f66
theorem Bj (C:aj) (jR:kC C) (kJ:kG C) (nb:oE C) (BY:xd C) (p0:ir) (p1:iv) (r:ir×iv) (hF:oc p0 p1=some r):cR TT C.wide (evW TT C.wide n66 b66) n66 Tryz.f66.results.toList (aU Tryz.f66) [.ptr 1 0,.ptr 2 0] [[.v (.sl 1 (ah cE p0.frest)),.v (.b p0.fshort)],[.ptr 0 0],[.v (.i .i64 p1.af.iL),.own 8 (ah ip.row p1.af.bi),.v (.i .i64 p1.iG),.own 7 (ah gi.row p1.bz)]]=some (.tup [],[[.v (.sl 1 (ah cE r.1.frest)),.v (.b r.1.fshort)],[.ptr 0 0],[.v (.i .i64 r.2.af.iL),.own 8 (ah ip.row r.2.af.bi),.v (.i .i64 r.2.iG),.own 7 (ah gi.row r.2.bz)]]):=by
 revert hF
 unfold oc
 refine az ?_
 rintro⟨x1,x2⟩ h1
 dsimp only
 unfold sR
 have g1:C.wide 61 [.ptr 0 0] [[.v (.sl 1 (ah cE p0.frest)),.v (.b p0.fshort)],[.ptr 0 0],[.v (.i .i64 p1.af.iL),.own 8 (ah ip.row p1.af.bi),.v (.i .i64 p1.iG),.own 7 (ah gi.row p1.bz)]]=some (.v (.i .i64 x1),[[.v (.sl 1 (ah cE x2.frest)),.v (.b x2.fshort)],[.ptr 0 0],[.v (.i .i64 p1.af.iL),.own 8 (ah ip.row p1.af.bi),.v (.i .i64 p1.iG),.own 7 (ah gi.row p1.bz)]]):=cX [0] rfl rfl rfl rfl (jR p0 _ h1) rfl rfl
 refine az ?_
 rintro⟨x3,x4⟩ h2
 dsimp only
 have g2:C.wide 61 [.ptr 0 0] [[.v (.sl 1 (ah cE x2.frest)),.v (.b x2.fshort)],[.ptr 0 0],[.v (.i .i64 p1.af.iL),.own 8 (ah ip.row p1.af.bi),.v (.i .i64 p1.iG),.own 7 (ah gi.row p1.bz)]]=some (.v (.i .i64 x3),[[.v (.sl 1 (ah cE x4.frest)),.v (.b x4.fshort)],[.ptr 0 0],[.v (.i .i64 p1.af.iL),.own 8 (ah ip.row p1.af.bi),.v (.i .i64 p1.iG),.own 7 (ah gi.row p1.bz)]]):=cX [0] rfl rfl rfl rfl (jR x2 _ h2) rfl rfl
 refine az ?_
 rintro⟨x5,x6⟩ h3
 dsimp only
 have g3:C.wide 61 [.ptr 0 0] [[.v (.sl 1 (ah cE x4.frest)),.v (.b x4.fshort)],[.ptr 0 0],[.v (.i .i64 p1.af.iL),.own 8 (ah ip.row p1.af.bi),.v (.i .i64 p1.iG),.own 7 (ah gi.row p1.bz)]]=some (.v (.i .i64 x5),[[.v (.sl 1 (ah cE x6.frest)),.v (.b x6.fshort)],[.ptr 0 0],[.v (.i .i64 p1.af.iL),.own 8 (ah ip.row p1.af.bi),.v (.i .i64 p1.iG),.own 7 (ah gi.row p1.bz)]]):=cX [0] rfl rfl rfl rfl (jR x4 _ h3) rfl rfl
 refine az ?_
 rintro⟨x7,x8⟩ h4
 dsimp only
 have g4:C.wide 67 [.ptr 0 0] [[.v (.sl 1 (ah cE x6.frest)),.v (.b x6.fshort)],[.ptr 0 0],[.v (.i .i64 p1.af.iL),.own 8 (ah ip.row p1.af.bi),.v (.i .i64 p1.iG),.own 7 (ah gi.row p1.bz)],[.v (.i .i64 x1),.v (.i .i64 x3),.v (.i .i64 x5),.v (.i .i64 0),.v (.s ByteArray.empty),.v (.i .i64 0),.own 1 []]]=some (.v (.i .i64 x7),[[.v (.sl 1 (ah cE x8.frest)),.v (.b x8.fshort)],[.ptr 0 0],[.v (.i .i64 p1.af.iL),.own 8 (ah ip.row p1.af.bi),.v (.i .i64 p1.iG),.own 7 (ah gi.row p1.bz)],[.v (.i .i64 x1),.v (.i .i64 x3),.v (.i .i64 x5),.v (.i .i64 0),.v (.s ByteArray.empty),.v (.i .i64 0),.own 1 []]]):=cX [0] rfl rfl rfl rfl (kJ x6 _ h4) rfl rfl
 refine az ?_
 rintro⟨x9,x10⟩ h5
 dsimp only
 have g5:C.wide 64 [.ptr 0 0] [[.v (.sl 1 (ah cE x8.frest)),.v (.b x8.fshort)],[.ptr 0 0],[.v (.i .i64 p1.af.iL),.own 8 (ah ip.row p1.af.bi),.v (.i .i64 p1.iG),.own 7 (ah gi.row p1.bz)],[.v (.i .i64 x1),.v (.i .i64 x3),.v (.i .i64 x5),.v (.i .i64 0),.v (.s ByteArray.empty),.v (.i .i64 0),.own 1 []]]=some (.v (.s x9),[[.v (.sl 1 (ah cE x10.frest)),.v (.b x10.fshort)],[.ptr 0 0],[.v (.i .i64 p1.af.iL),.own 8 (ah ip.row p1.af.bi),.v (.i .i64 p1.iG),.own 7 (ah gi.row p1.bz)],[.v (.i .i64 x1),.v (.i .i64 x3),.v (.i .i64 x5),.v (.i .i64 0),.v (.s ByteArray.empty),.v (.i .i64 0),.own 1 []]]):=cX [0] rfl rfl rfl rfl (nb x8 _ h5) rfl rfl
 refine az ?_
 rintro⟨x11,x12⟩ h6
 dsimp only
 have g6:C.wide 61 [.ptr 0 0] [[.v (.sl 1 (ah cE x10.frest)),.v (.b x10.fshort)],[.ptr 0 0],[.v (.i .i64 p1.af.iL),.own 8 (ah ip.row p1.af.bi),.v (.i .i64 p1.iG),.own 7 (ah gi.row p1.bz)],[.v (.i .i64 x1),.v (.i .i64 x3),.v (.i .i64 x5),.v (.i .i64 0),.v (.s ByteArray.empty),.v (.i .i64 0),.own 1 []]]=some (.v (.i .i64 x11),[[.v (.sl 1 (ah cE x12.frest)),.v (.b x12.fshort)],[.ptr 0 0],[.v (.i .i64 p1.af.iL),.own 8 (ah ip.row p1.af.bi),.v (.i .i64 p1.iG),.own 7 (ah gi.row p1.bz)],[.v (.i .i64 x1),.v (.i .i64 x3),.v (.i .i64 x5),.v (.i .i64 0),.v (.s ByteArray.empty),.v (.i .i64 0),.own 1 []]]):=cX [0] rfl rfl rfl rfl (jR x10 _ h6) rfl rfl
 refine az ?_
 rintro⟨x13,x14⟩ h7
 dsimp only
 have g7:C.wide 68 [.ptr 0 0] [[.v (.sl 1 (ah cE x12.frest)),.v (.b x12.fshort)],[.ptr 0 0],[.v (.i .i64 p1.af.iL),.own 8 (ah ip.row p1.af.bi),.v (.i .i64 p1.iG),.own 7 (ah gi.row p1.bz)],[.v (.i .i64 x1),.v (.i .i64 x3),.v (.i .i64 x5),.v (.i .i64 x7),.v (.s x9),.v (.i .i64 x11),.own 1 []]]=some (.own 1 (ah bY x13),[[.v (.sl 1 (ah cE x14.frest)),.v (.b x14.fshort)],[.ptr 0 0],[.v (.i .i64 p1.af.iL),.own 8 (ah ip.row p1.af.bi),.v (.i .i64 p1.iG),.own 7 (ah gi.row p1.bz)],[.v (.i .i64 x1),.v (.i .i64 x3),.v (.i .i64 x5),.v (.i .i64 x7),.v (.s x9),.v (.i .i64 x11),.own 1 []]]):=cX [0] rfl rfl rfl rfl (BY x12 _ h7) rfl rfl
 refine aX (fun h8=>?_) (fun _=>nofun)
 all_goals (rintro⟨⟩;rw [bk];show cC _ _ _ (aH _ _ _ _ (Code.seq _ _) _)=_;simp (maxSteps:=4000000) only [*,qfg,qiS,ZB,qd3,qgI,qfd,qf9,↓RP,RB,RC,Nat.reduceBEq,bP,List.map,Nat.reduceAdd,Nat.reduceMul,List.foldl_cons,List.foldl_nil,List.filter_cons,List.filter_nil,Nat.reduceSub,Nat.reduceLT,Nat.reduceLeDiff,cr,bne,↓ao,↓aa,↓aq,ty3,ty9,mD,Ab,u4,ph,zR,A5,Ap,gi.one])
def lu  (s:Int×ir×iv):St:=⟨[(0,.ptr 0 0),(1,.clo 66 [.ptr 1 0,.ptr 2 0]),(4,.v (.i .i64 s.1))],[[.v (.sl 1 (ah cE s.2.1.frest)),.v (.b s.2.1.fshort)],[.ptr 0 0],[.v (.i .i64 s.2.2.af.iL),.own 8 (ah ip.row s.2.2.af.bi),.v (.i .i64 s.2.2.iG),.own 7 (ah gi.row s.2.2.bz)]]⟩
def nj  (r:ir×iv):Option (Ex×St):=some (.normal,⟨[],[[.v (.sl 1 (ah cE r.1.frest)),.v (.b r.1.fshort)],[.ptr 0 0],[.v (.i .i64 r.2.af.iL),.own 8 (ah ip.row r.2.af.bi),.v (.i .i64 r.2.iG),.own 7 (ah gi.row r.2.bz)]]⟩)
theorem vG (C:aj) (tX:tW C)  (s:Int×ir×iv) (o:(Int×ir×iv)⊕(ir×iv)) (hF:jK  s=some o):evW TT C.wide n62 b62 0 (lu  s)=Sum.elim (fun s=>evW TT C.wide n62 b62 0 (lu  s)) (fun r=>nj  r) o:=by
 obtain⟨p0,p1,p2⟩:=s
 rw [cG TT n62 DV]
 revert hF
 unfold jK
 try dsimp only
 refine bF (fun h1=>?_) (fun h1=>?_)
 rotate_left 1
 refine aX (fun h2=>?_) (fun h2=>?_)
 rotate_left 1
 refine az ?_
 rintro⟨x1,x2⟩ h3
 dsimp only
 have g1:C.wide 66 [.ptr 1 0,.ptr 2 0] [[.v (.sl 1 (ah cE p1.frest)),.v (.b false)],[.ptr 0 0],[.v (.i .i64 p2.af.iL),.own 8 (ah ip.row p2.af.bi),.v (.i .i64 p2.iG),.own 7 (ah gi.row p2.bz)]]=some (.tup [],[[.v (.sl 1 (ah cE x1.frest)),.v (.b x1.fshort)],[.ptr 0 0],[.v (.i .i64 x2.af.iL),.own 8 (ah ip.row x2.af.bi),.v (.i .i64 x2.iG),.own 7 (ah gi.row x2.bz)]]):=sA [1,2] [0,1,2] rfl rfl rfl rfl rfl rfl rfl rfl (tX (ir.mk p1.frest false) p2 _ h3) rfl rfl
 all_goals (rintro⟨⟩;show cN _ _ _ (aH _ _ _ _ (Code.seq _ _) _)=_;simp (maxSteps:=4000000) only [*,lu,nj,RA,MM,E4,CE,Lp,↓RP,RB,RC,↓ab,Nat.reduceBEq,List.map,Nat.reduceAdd,↓ao,↓am,↓aa,ty3,ty4,AU])
theorem wN (C:aj) (kJ:kG C) (tX:tW C) (p0:ir) (p1:iv) (r:ir×iv) (hF:kw p0 p1=some r):cR TT C.wide (evW TT C.wide n62 b62) n62 Tryz.f62.results.toList (aU Tryz.f62) [.ptr 0 0,.clo 66 [.ptr 1 0,.ptr 2 0]] [[.v (.sl 1 (ah cE p0.frest)),.v (.b p0.fshort)],[.ptr 0 0],[.v (.i .i64 p1.af.iL),.own 8 (ah ip.row p1.af.bi),.v (.i .i64 p1.iG),.own 7 (ah gi.row p1.bz)]]=some (.tup [],[[.v (.sl 1 (ah cE r.1.frest)),.v (.b r.1.fshort)],[.ptr 0 0],[.v (.i .i64 r.2.af.iL),.own 8 (ah ip.row r.2.af.bi),.v (.i .i64 r.2.iG),.own 7 (ah gi.row r.2.bz)]]):=by
 revert hF
 unfold kw
 refine az ?_
 rintro⟨x1,x2⟩ h1
 dsimp only
 have g1:C.wide 67 [.ptr 0 0] [[.v (.sl 1 (ah cE p0.frest)),.v (.b p0.fshort)],[.ptr 0 0],[.v (.i .i64 p1.af.iL),.own 8 (ah ip.row p1.af.bi),.v (.i .i64 p1.iG),.own 7 (ah gi.row p1.bz)]]=some (.v (.i .i64 x1),[[.v (.sl 1 (ah cE x2.frest)),.v (.b x2.fshort)],[.ptr 0 0],[.v (.i .i64 p1.af.iL),.own 8 (ah ip.row p1.af.bi),.v (.i .i64 p1.iG),.own 7 (ah gi.row p1.bz)]]):=cX [0] rfl rfl rfl rfl (kJ p0 _ h1) rfl rfl
 refine az ?_
 rintro⟨x3,x4⟩ h2
 dsimp only
 have g2:=cH _ _ (vG C tX) h2
 try simp only [lu,nj] at g2
 all_goals (rintro⟨⟩;rw [bk];show cC _ _ _ (aH _ _ _ _ (Code.seq _ _) _)=_;simp (maxSteps:=4000000) only [*,KP,E4,CE,Ku,↓RP,RB,RC,Nat.reduceBEq,List.map,Nat.reduceAdd,↓ao,↓aa,ty3])
def Q0:List (Nat×List Nat):=[(0,[1]),(1,[2])]
def Ph:cL where
 keep:=ax Q0
 ro:=fun t=>t==1
 mv:=fun _=>false
 give:=fun _=>false
 free:=fun _=>[]
theorem qeR (i:Nat):Ph.keep i=ax Q0 i:=rfl
theorem qam (t:Nat):Ph.ro t=(t==1):=rfl
theorem qby (t:Nat):Ph.mv t=(false):=rfl
theorem Xq:Tryz.f123.results.toList= [.tmp 2]:=rfl
noncomputable def qhW:Code:=aU Tryz.f123
theorem BH (C:aj)  (p0:iy) (r:Int) (hF:rC p0=some r):cR TT C.wide (evW TT C.wide Ph qhW) Ph Tryz.f123.results.toList (aU Tryz.f123) [.agg [.v (.i .i64 p0.bt),.v (.s p0.iq),.v (.i .i64 p0.iF),.v (.sl 2 (ah iD.row p0.iA)),.v (.sl 1 (ah bY p0.iC)),.v (.sl 2 (ah im.row p0.il))]] []=some (.v (.i .i64 r),[]):=by
 revert hF
 unfold rC
 refine yw ?_
 unfold lp
 all_goals (rintro rfl;rw [bk];show cC _ _ _ (aH _ _ _ _ (Code.seq _ _) _)=_;simp (maxSteps:=4000000) only [*,Xq,qeR,Q0,qam,qby,↓RP,RB,RC,Nat.reduceBEq,bP,List.map,↓ao,↓aa,ty3,ue,ph,qu,mh])
def Sm:List (Nat×List Nat):=[(0,[0]),(1,[2])]
def Ub:cL where
 keep:=ax Sm
 ro:=fun _=>false
 mv:=fun _=>false
 give:=fun _=>false
 free:=fun _=>[]
theorem qfU (i:Nat):Ub.keep i=ax Sm i:=rfl
theorem YZ:Tryz.f124.results.toList= [.tmp 2]:=rfl
noncomputable def qhO:Code:=aU Tryz.f124
theorem Ox (C:aj) (ke:lc C) (p0:ByteArray) (r:Bool) (hF:zD p0=some r):cR TT C.wide (evW TT C.wide Ub qhO) Ub Tryz.f124.results.toList (aU Tryz.f124) [.v (.s p0)] []=some (.v (.b r),[]):=by
 revert hF
 unfold zD
 have g1:=bK (ke p0 _ (mw p0))
 all_goals (rintro⟨⟩;rw [bk];show cC _ _ _ (aH _ _ _ _ (Code.seq _ _) _)=_;simp (maxSteps:=4000000) only [*,YZ,qfU,Sm,↓RP,RB,RC,Nat.reduceBEq,List.map,↓ao,↓aa,ty4])
def Gm:List (Nat×List Nat):=[(0,[0,1]),(1,[0,1,7,8]),(2,[0,1,7,8,9]),(3,[0,1,5,7,8]),(4,[0,1,5,7,8,16]),(5,[4]),(6,[0,1,7,8]),(7,[4])]
def Na:List (Nat×List Nat×List Nat):=[(9,[0,1,7,8],[]),(16,[5],[0,1,7,8])]
def zH:cL where
 keep:=ax Gm
 ro:=fun _=>false
 mv:=fun _=>false
 give:=fun _=>false
 free:=fun _=>[]
 alive:=av Na
theorem V1 (t:Nat) (x:Bool) (e:Env) (S:bH):cK zH t x ⟨e,S⟩=atO (av Na t x) e S:=cF rfl t x e S
theorem Nx (i:Nat):zH.keep i=ax Gm i:=rfl
theorem Qg (t:Nat):zH.mv t=(false):=rfl
theorem P7 (t:Nat):zH.give t=(false):=rfl
theorem Rw:Tryz.f137.results.toList= [.tmp 4]:=rfl
noncomputable def M2:Code:=aU Tryz.f137
noncomputable def qbv:Code:=(bE 0 (aU Tryz.f137)).getD .skip
theorem Nk:bE 0 M2=some qbv:=rfl
def qn (p0:List ByteArray) (p1:Int) (s:Int):St:=⟨[(0,.v (.sl 1 (ah bY p0))),(1,.clo 124 []),(7,.v (.i .i64 p1)),(8,.v (.i .i64 s))],[]⟩
def sF (p0:List ByteArray) (p1:Int) (r:Int⊕Unit):Option (Ex×St):=match r with
 | .inl r=>some (.ret,⟨[(4,.v (.i .i64 r))],[]⟩)
 | .inr r=>some (.normal,⟨[],[]⟩)
theorem yi (C:aj) (zA:Bu C) (p0:List ByteArray) (p1:Int) (p2:Int) (o:Int⊕(Int⊕Unit)) (hF:ou p0 p1 p2=some o):evW TT C.wide zH M2 0 (qn p0 p1 p2)=Sum.elim (fun s=>evW TT C.wide zH M2 0 (qn p0 p1 s)) (fun r=>sF p0 p1 r) o:=by
 rw [cG TT zH Nk]
 revert hF
 unfold ou
 try dsimp only
 refine bF (fun h1=>?_) (fun h1=>?_)
 rotate_left 1
 refine az fun x1 h2=>?_
 have g1:decide (0<=p2)=true:=(cp h2).1
 have g2:(ah bY p0)[(p2:Int).toNat]? =some [.s x1]:=cn _ h2
 have g3:=bK (zA x1 _ (OG x1))
 refine aX (fun h3=>?_) (fun h3=>?_)
 rotate_left 1
 all_goals (rintro⟨⟩;show cN _ _ _ (aH _ _ _ _ (Code.seq _ _) _)=_;simp (maxSteps:=4000000) only [*,qn,sF,V1,Na,Nx,Gm,Qg,P7,↓RP,RB,RC,↓ai,Nat.reduceBEq,List.map,↓ao,↓am,↓aa,ty3,ty9,ph])
theorem JF (C:aj) (zA:Bu C) (p0:List ByteArray) (r:Int) (hF:ur p0=some r):cR TT C.wide (evW TT C.wide zH M2) zH Tryz.f137.results.toList (aU Tryz.f137) [.v (.sl 1 (ah bY p0)),.clo 124 []] []=some (.v (.i .i64 r),[]):=by
 revert hF
 unfold ur
 refine az ?_
 rintro (x1|_) h1
 focus
  dsimp only
  have g1:=cH _ _ (yi C zA p0 (p0.length:Int)) h1
  try simp only [qn,sF] at g1
 rotate_left 1
 dsimp only
 have g2:=cH _ _ (yi C zA p0 (p0.length:Int)) h1
 try simp only [qn,sF] at g2
 all_goals (rintro⟨⟩;rw [bk];show cC _ _ _ (aH _ _ _ _ (Code.seq _ _) _)=_;simp (maxSteps:=4000000) only [*,Rw,Nx,Gm,↓RP,RB,RC,Nat.reduceBEq,List.map,Nat.reduceAdd,Int.reduceNeg,↓ao,↓aa,ty3,ph])
def NK:List (Nat×List Nat):=[(0,[0,1]),(1,[4])]
def Mr:cL where
 keep:=ax NK
 ro:=fun _=>false
 mv:=fun _=>false
 give:=fun _=>false
 free:=fun _=>[]
theorem V2 (i:Nat):Mr.keep i=ax NK i:=rfl
theorem Rh:Tryz.f110.results.toList= [.tmp 4]:=rfl
noncomputable def qgW:Code:=aU Tryz.f110
theorem I5 (C:aj) (Jr:Bi C) (p0:List ByteArray) (r:Bool) (hF:sX p0=some r):cR TT C.wide (evW TT C.wide Mr qgW) Mr Tryz.f110.results.toList (aU Tryz.f110) [.v (.sl 1 (ah bY p0)),.clo 124 []] []=some (.v (.b r),[]):=by
 revert hF
 unfold sX
 refine az fun x1 h1=>?_
 have g1:=bK (Jr p0 _ h1)
 all_goals (rintro⟨⟩;rw [bk];show cC _ _ _ (aH _ _ _ _ (Code.seq _ _) _)=_;simp (maxSteps:=4000000) only [*,Rh,V2,NK,↓RP,RB,RC,Nat.reduceBEq,List.map,Nat.reduceAdd,↓ao,↓aa,ty3,ty4])
def Su:List (Nat×List Nat):=[(0,[1]),(1,[2])]
def OY:cL where
 keep:=ax Su
 ro:=fun t=>t==1
 mv:=fun _=>false
 give:=fun _=>false
 free:=fun _=>[]
theorem qee (i:Nat):OY.keep i=ax Su i:=rfl
theorem Zu (t:Nat):OY.ro t=(t==1):=rfl
theorem ZJ (t:Nat):OY.mv t=(false):=rfl
theorem qbY:Tryz.f126.results.toList= [.tmp 2]:=rfl
noncomputable def qij:Code:=aU Tryz.f126
theorem Pw (C:aj) (oQ:qJ C) (ke:lc C) (p0:iD) (r:Bool) (hF:zp p0=some r):cR TT C.wide (evW TT C.wide OY qij) OY Tryz.f126.results.toList (aU Tryz.f126) [.agg [.v (.s p0.iE),.v (.s p0.iq)]] []=some (.v (.b r),[]):=by
 revert hF
 unfold zp
 have g1:=bK (oQ p0.iE _ (uN p0.iE))
 refine aX (fun h1=>?_) (fun h1=>?_)
 focus
  have g2:=bK (ke p0.iq _ (mw p0.iq))
 rotate_left 1
 all_goals (rintro⟨⟩;rw [bk];show cC _ _ _ (aH _ _ _ _ (Code.seq _ _) _)=_;simp (maxSteps:=4000000) only [*,qbY,qee,Su,Zu,ZJ,↓RP,RB,RC,Nat.reduceBEq,bP,List.map,↓ao,↓aa,ty4,ty9,AH])
def NO:List (Nat×List Nat):=[(0,[0,1]),(1,[0,1,7,8]),(2,[0,1,7,8,9]),(3,[0,1,5,7,8]),(4,[0,1,5,7,8,16]),(5,[4]),(6,[0,1,7,8]),(7,[4])]
def Q3:List (Nat×List Nat×List Nat):=[(9,[0,1,7,8],[]),(16,[5],[0,1,7,8])]
def Fd:cL where
 keep:=ax NO
 ro:=fun _=>false
 mv:=fun _=>false
 give:=fun _=>false
 free:=fun _=>[]
 alive:=av Q3
theorem qfQ (t:Nat) (x:Bool) (e:Env) (S:bH):cK Fd t x ⟨e,S⟩=atO (av Q3 t x) e S:=cF rfl t x e S
theorem VR (i:Nat):Fd.keep i=ax NO i:=rfl
theorem XZ (t:Nat):Fd.mv t=(false):=rfl
theorem Z3 (t:Nat):Fd.give t=(false):=rfl
theorem WJ:Tryz.f141.results.toList= [.tmp 4]:=rfl
noncomputable def TR:Code:=aU Tryz.f141
noncomputable def XU:Code:=(bE 0 (aU Tryz.f141)).getD .skip
theorem Uz:bE 0 TR=some XU:=rfl
def ql (p0:List iD) (p1:Int) (s:Int):St:=⟨[(0,.v (.sl 2 (ah iD.row p0))),(1,.clo 126 []),(7,.v (.i .i64 p1)),(8,.v (.i .i64 s))],[]⟩
def sN (p0:List iD) (p1:Int) (r:Int⊕Unit):Option (Ex×St):=match r with
 | .inl r=>some (.ret,⟨[(4,.v (.i .i64 r))],[]⟩)
 | .inr r=>some (.normal,⟨[],[]⟩)
theorem yx (C:aj) (zr:Bx C) (p0:List iD) (p1:Int) (p2:Int) (o:Int⊕(Int⊕Unit)) (hF:oh p0 p1 p2=some o):evW TT C.wide Fd TR 0 (ql p0 p1 p2)=Sum.elim (fun s=>evW TT C.wide Fd TR 0 (ql p0 p1 s)) (fun r=>sN p0 p1 r) o:=by
 rw [cG TT Fd Uz]
 revert hF
 unfold oh
 try dsimp only
 refine bF (fun h1=>?_) (fun h1=>?_)
 rotate_left 1
 refine az fun x1 h2=>?_
 have g1:decide (0<=p2)=true:=(cp h2).1
 have g2:(ah iD.row p0)[(p2:Int).toNat]? =some [.s x1.iE,.s x1.iq]:=cn _ h2
 have g3:=bK (zr x1 _ (PC x1))
 refine aX (fun h3=>?_) (fun h3=>?_)
 rotate_left 1
 all_goals (rintro⟨⟩;show cN _ _ _ (aH _ _ _ _ (Code.seq _ _) _)=_;simp (maxSteps:=4000000) only [*,ql,sN,qfQ,Q3,VR,NO,XZ,Z3,↓RP,RB,RC,↓ai,Nat.reduceBEq,List.map,Nat.reduceAdd,↓ao,↓am,↓aa,ty3,ue,AH])
theorem IA (C:aj) (zr:Bx C) (p0:List iD) (r:Int) (hF:uu p0=some r):cR TT C.wide (evW TT C.wide Fd TR) Fd Tryz.f141.results.toList (aU Tryz.f141) [.v (.sl 2 (ah iD.row p0)),.clo 126 []] []=some (.v (.i .i64 r),[]):=by
 revert hF
 unfold uu
 refine az ?_
 rintro (x1|_) h1
 focus
  dsimp only
  have g1:=cH _ _ (yx C zr p0 (p0.length:Int)) h1
  try simp only [ql,sN] at g1
 rotate_left 1
 dsimp only
 have g2:=cH _ _ (yx C zr p0 (p0.length:Int)) h1
 try simp only [ql,sN] at g2
 all_goals (rintro⟨⟩;rw [bk];show cC _ _ _ (aH _ _ _ _ (Code.seq _ _) _)=_;simp (maxSteps:=4000000) only [*,WJ,VR,NO,↓RP,RB,RC,Nat.reduceBEq,List.map,Nat.reduceAdd,Int.reduceNeg,↓ao,↓aa,ty3,ue])
def Se:List (Nat×List Nat):=[(0,[0,1]),(1,[4])]
def Tc:cL where
 keep:=ax Se
 ro:=fun _=>false
 mv:=fun _=>false
 give:=fun _=>false
 free:=fun _=>[]
theorem qdD (i:Nat):Tc.keep i=ax Se i:=rfl
theorem ZK:Tryz.f125.results.toList= [.tmp 4]:=rfl
noncomputable def qhS:Code:=aU Tryz.f125
theorem Jh (C:aj) (IN:AY C) (p0:List iD) (r:Bool) (hF:sW p0=some r):cR TT C.wide (evW TT C.wide Tc qhS) Tc Tryz.f125.results.toList (aU Tryz.f125) [.v (.sl 2 (ah iD.row p0)),.clo 126 []] []=some (.v (.b r),[]):=by
 revert hF
 unfold sW
 refine az fun x1 h1=>?_
 have g1:=bK (IN p0 _ h1)
 all_goals (rintro⟨⟩;rw [bk];show cC _ _ _ (aH _ _ _ _ (Code.seq _ _) _)=_;simp (maxSteps:=4000000) only [*,ZK,qdD,Se,↓RP,RB,RC,Nat.reduceBEq,List.map,Nat.reduceAdd,↓ao,↓aa,ty3,ty4])
def QI:List (Nat×List Nat):=[(0,[1]),(1,[2])]
def Po:cL where
 keep:=ax QI
 ro:=fun t=>t==1
 mv:=fun _=>false
 give:=fun _=>false
 free:=fun _=>[]
theorem qgb (i:Nat):Po.keep i=ax QI i:=rfl
theorem WC (t:Nat):Po.ro t=(t==1):=rfl
theorem Wr (t:Nat):Po.mv t=(false):=rfl
theorem Zv:Tryz.f128.results.toList= [.tmp 2]:=rfl
noncomputable def qhg:Code:=aU Tryz.f128
theorem Oq (C:aj) (ke:lc C) (p0:im) (r:Bool) (hF:zk p0=some r):cR TT C.wide (evW TT C.wide Po qhg) Po Tryz.f128.results.toList (aU Tryz.f128) [.agg [.v (.s p0.iZ),.v (.i .i64 p0.fN)]] []=some (.v (.b r),[]):=by
 revert hF
 unfold zk
 have g1:=bK (ke p0.iZ _ (mw p0.iZ))
 all_goals (rintro⟨⟩;rw [bk];show cC _ _ _ (aH _ _ _ _ (Code.seq _ _) _)=_;simp (maxSteps:=4000000) only [*,Zv,qgb,QI,WC,Wr,↓RP,RB,RC,Nat.reduceBEq,bP,List.map,↓ao,↓aa,ty4,ty9,u7])
def Cy:List (Nat×List Nat):=[(0,[0,1]),(1,[0,1,7,8]),(2,[0,1,7,8,9]),(3,[0,1,5,7,8]),(4,[0,1,5,7,8,16]),(5,[4]),(6,[0,1,7,8]),(7,[4])]
def Kf:List (Nat×List Nat×List Nat):=[(9,[0,1,7,8],[]),(16,[5],[0,1,7,8])]
def wu:cL where
 keep:=ax Cy
 ro:=fun _=>false
 mv:=fun _=>false
 give:=fun _=>false
 free:=fun _=>[]
 alive:=av Kf
theorem Ry (t:Nat) (x:Bool) (e:Env) (S:bH):cK wu t x ⟨e,S⟩=atO (av Kf t x) e S:=cF rfl t x e S
theorem HB (i:Nat):wu.keep i=ax Cy i:=rfl
theorem Me (t:Nat):wu.mv t=(false):=rfl
theorem Mv (t:Nat):wu.give t=(false):=rfl
theorem LW:Tryz.f142.results.toList= [.tmp 4]:=rfl
noncomputable def Fn:Code:=aU Tryz.f142
noncomputable def Y7:Code:=(bE 0 (aU Tryz.f142)).getD .skip
theorem IS:bE 0 Fn=some Y7:=rfl
def qs (p0:List im) (p1:Int) (s:Int):St:=⟨[(0,.v (.sl 2 (ah im.row p0))),(1,.clo 128 []),(7,.v (.i .i64 p1)),(8,.v (.i .i64 s))],[]⟩
def sM (p0:List im) (p1:Int) (r:Int⊕Unit):Option (Ex×St):=match r with
 | .inl r=>some (.ret,⟨[(4,.v (.i .i64 r))],[]⟩)
 | .inr r=>some (.normal,⟨[],[]⟩)
theorem yj (C:aj) (zB:B7 C) (p0:List im) (p1:Int) (p2:Int) (o:Int⊕(Int⊕Unit)) (hF:oe p0 p1 p2=some o):evW TT C.wide wu Fn 0 (qs p0 p1 p2)=Sum.elim (fun s=>evW TT C.wide wu Fn 0 (qs p0 p1 s)) (fun r=>sM p0 p1 r) o:=by
 rw [cG TT wu IS]
 revert hF
 unfold oe
 try dsimp only
 refine bF (fun h1=>?_) (fun h1=>?_)
 rotate_left 1
 refine az fun x1 h2=>?_
 have g1:decide (0<=p2)=true:=(cp h2).1
 have g2:(ah im.row p0)[(p2:Int).toNat]? =some [.s x1.iZ,.i .i64 x1.fN]:=cn _ h2
 have g3:=bK (zB x1 _ (OZ x1))
 refine aX (fun h3=>?_) (fun h3=>?_)
 rotate_left 1
 all_goals (rintro⟨⟩;show cN _ _ _ (aH _ _ _ _ (Code.seq _ _) _)=_;simp (maxSteps:=4000000) only [*,qs,sM,Ry,Kf,HB,Cy,Me,Mv,↓RP,RB,RC,↓ai,Nat.reduceBEq,List.map,Nat.reduceAdd,↓ao,↓am,↓aa,ty3,qu,u7])
theorem Io (C:aj) (zB:B7 C) (p0:List im) (r:Int) (hF:ul p0=some r):cR TT C.wide (evW TT C.wide wu Fn) wu Tryz.f142.results.toList (aU Tryz.f142) [.v (.sl 2 (ah im.row p0)),.clo 128 []] []=some (.v (.i .i64 r),[]):=by
 revert hF
 unfold ul
 refine az ?_
 rintro (x1|_) h1
 focus
  dsimp only
  have g1:=cH _ _ (yj C zB p0 (p0.length:Int)) h1
  try simp only [qs,sM] at g1
 rotate_left 1
 dsimp only
 have g2:=cH _ _ (yj C zB p0 (p0.length:Int)) h1
 try simp only [qs,sM] at g2
 all_goals (rintro⟨⟩;rw [bk];show cC _ _ _ (aH _ _ _ _ (Code.seq _ _) _)=_;simp (maxSteps:=4000000) only [*,LW,HB,Cy,↓RP,RB,RC,Nat.reduceBEq,List.map,Nat.reduceAdd,Int.reduceNeg,↓ao,↓aa,ty3,qu])
def ND:List (Nat×List Nat):=[(0,[0,1]),(1,[4])]
def MC:cL where
 keep:=ax ND
 ro:=fun _=>false
 mv:=fun _=>false
 give:=fun _=>false
 free:=fun _=>[]
theorem Vg (i:Nat):MC.keep i=ax ND i:=rfl
theorem Sr:Tryz.f127.results.toList= [.tmp 4]:=rfl
noncomputable def qfG:Code:=aU Tryz.f127
theorem IP (C:aj) (I9:AK C) (p0:List im) (r:Bool) (hF:sV p0=some r):cR TT C.wide (evW TT C.wide MC qfG) MC Tryz.f127.results.toList (aU Tryz.f127) [.v (.sl 2 (ah im.row p0)),.clo 128 []] []=some (.v (.b r),[]):=by
 revert hF
 unfold sV
 refine az fun x1 h1=>?_
 have g1:=bK (I9 p0 _ h1)
 all_goals (rintro⟨⟩;rw [bk];show cC _ _ _ (aH _ _ _ _ (Code.seq _ _) _)=_;simp (maxSteps:=4000000) only [*,Sr,Vg,ND,↓RP,RB,RC,Nat.reduceBEq,List.map,Nat.reduceAdd,↓ao,↓aa,ty3,ty4])
def P5:List (Nat×List Nat):=[(0,[1]),(1,[2])]
def PB:cL where
 keep:=ax P5
 ro:=fun t=>t==1
 mv:=fun _=>false
 give:=fun _=>false
 free:=fun _=>[]
theorem qdk (i:Nat):PB.keep i=ax P5 i:=rfl
theorem qa9 (t:Nat):PB.ro t=(t==1):=rfl
theorem qb6 (t:Nat):PB.mv t=(false):=rfl
theorem W1:Tryz.f129.results.toList= [.tmp 2]:=rfl
noncomputable def qhU:Code:=aU Tryz.f129
theorem OR (C:aj) (sn:qC C) (p0:im) (r:Bool) (hF:zq p0=some r):cR TT C.wide (evW TT C.wide PB qhU) PB Tryz.f129.results.toList (aU Tryz.f129) [.agg [.v (.s p0.iZ),.v (.i .i64 p0.fN)]] []=some (.v (.b r),[]):=by
 revert hF
 unfold zq
 have g1:=bK (sn p0.fN _ (wW p0.fN))
 all_goals (rintro⟨⟩;rw [bk];show cC _ _ _ (aH _ _ _ _ (Code.seq _ _) _)=_;simp (maxSteps:=4000000) only [*,W1,qdk,P5,qa9,qb6,↓RP,RB,RC,Nat.reduceBEq,bP,List.map,↓ao,↓aa,ty3,ty4,u7])
def qr (p0:List im) (p1:Int) (s:Int):St:=⟨[(0,.v (.sl 2 (ah im.row p0))),(1,.clo 129 []),(7,.v (.i .i64 p1)),(8,.v (.i .i64 s))],[]⟩
def sJ (p0:List im) (p1:Int) (r:Int⊕Unit):Option (Ex×St):=match r with
 | .inl r=>some (.ret,⟨[(4,.v (.i .i64 r))],[]⟩)
 | .inr r=>some (.normal,⟨[],[]⟩)
theorem yv (C:aj) (zs:Ce C) (p0:List im) (p1:Int) (p2:Int) (o:Int⊕(Int⊕Unit)) (hF:oj p0 p1 p2=some o):evW TT C.wide wu Fn 0 (qr p0 p1 p2)=Sum.elim (fun s=>evW TT C.wide wu Fn 0 (qr p0 p1 s)) (fun r=>sJ p0 p1 r) o:=by
 rw [cG TT wu IS]
 revert hF
 unfold oj
 try dsimp only
 refine bF (fun h1=>?_) (fun h1=>?_)
 rotate_left 1
 refine az fun x1 h2=>?_
 have g1:decide (0<=p2)=true:=(cp h2).1
 have g2:(ah im.row p0)[(p2:Int).toNat]? =some [.s x1.iZ,.i .i64 x1.fN]:=cn _ h2
 have g3:=bK (zs x1 _ (OD x1))
 refine aX (fun h3=>?_) (fun h3=>?_)
 rotate_left 1
 all_goals (rintro⟨⟩;show cN _ _ _ (aH _ _ _ _ (Code.seq _ _) _)=_;simp (maxSteps:=4000000) only [*,qr,sJ,Ry,Kf,HB,Cy,Me,Mv,↓RP,RB,RC,↓ai,Nat.reduceBEq,List.map,Nat.reduceAdd,↓ao,↓am,↓aa,ty3,qu,u7])
theorem IX (C:aj) (zs:Ce C) (p0:List im) (r:Int) (hF:uF p0=some r):cR TT C.wide (evW TT C.wide wu Fn) wu Tryz.f142.results.toList (aU Tryz.f142) [.v (.sl 2 (ah im.row p0)),.clo 129 []] []=some (.v (.i .i64 r),[]):=by
 revert hF
 unfold uF
 refine az ?_
 rintro (x1|_) h1
 focus
  dsimp only
  have g1:=cH _ _ (yv C zs p0 (p0.length:Int)) h1
  try simp only [qr,sJ] at g1
 rotate_left 1
 dsimp only
 have g2:=cH _ _ (yv C zs p0 (p0.length:Int)) h1
 try simp only [qr,sJ] at g2
 all_goals (rintro⟨⟩;rw [bk];show cC _ _ _ (aH _ _ _ _ (Code.seq _ _) _)=_;simp (maxSteps:=4000000) only [*,LW,HB,Cy,↓RP,RB,RC,Nat.reduceBEq,List.map,Nat.reduceAdd,Int.reduceNeg,↓ao,↓aa,ty3,qu])
theorem Jk (C:aj) (JC:AO C) (p0:List im) (r:Bool) (hF:ta p0=some r):cR TT C.wide (evW TT C.wide MC qfG) MC Tryz.f127.results.toList (aU Tryz.f127) [.v (.sl 2 (ah im.row p0)),.clo 129 []] []=some (.v (.b r),[]):=by
 revert hF
 unfold ta
 refine az fun x1 h1=>?_
 have g1:=bK (JC p0 _ h1)
 all_goals (rintro⟨⟩;rw [bk];show cC _ _ _ (aH _ _ _ _ (Code.seq _ _) _)=_;simp (maxSteps:=4000000) only [*,Sr,Vg,ND,↓RP,RB,RC,Nat.reduceBEq,List.map,Nat.reduceAdd,↓ao,↓aa,ty3,ty4])
def PW:List (Nat×List Nat):=[(0,[0,1]),(1,[4])]
def TW:cL where
 keep:=ax PW
 ro:=fun _=>false
 mv:=fun _=>false
 give:=fun _=>false
 free:=fun _=>[]
theorem qfv (i:Nat):TW.keep i=ax PW i:=rfl
theorem qan:Tryz.f145.results.toList= [.tmp 4]:=rfl
noncomputable def qho:Code:=aU Tryz.f145
theorem AC (C:aj) (Ke:Cw C) (p0:ByteArray) (p1:ByteArray) (r:Int) (hF:qt p0 p1=some r):cR TT C.wide (evW TT C.wide TW qho) TW Tryz.f145.results.toList (aU Tryz.f145) [.v (.s p0),.v (.s p1)] []=some (.v (.i .i64 r),[]):=by
 revert hF
 unfold qt
 refine yw ?_
 unfold q7
 have g1:=bK (Ke p0 p1 _ (Lt p0 p1))
 all_goals (rintro rfl;rw [bk];show cC _ _ _ (aH _ _ _ _ (Code.seq _ _) _)=_;simp (maxSteps:=4000000) only [*,qan,qfv,PW,↓RP,RB,RC,Nat.reduceBEq,List.map,Nat.reduceAdd,↓ao,↓aa,ty3])
def R4:List (Nat×List Nat):=[(0,[0,1]),(1,[4])]
def SY:cL where
 keep:=ax R4
 ro:=fun _=>false
 mv:=fun _=>false
 give:=fun _=>false
 free:=fun _=>[]
theorem qfq (i:Nat):SY.keep i=ax R4 i:=rfl
theorem qav:Tryz.f135.results.toList= [.tmp 4]:=rfl
noncomputable def qh6:Code:=aU Tryz.f135
theorem Ax (C:aj) (Bg:wC C) (p0:ByteArray) (p1:ByteArray) (r:Int) (hF:qp p0 p1=some r):cR TT C.wide (evW TT C.wide SY qh6) SY Tryz.f135.results.toList (aU Tryz.f135) [.v (.s p0),.v (.s p1)] []=some (.v (.i .i64 r),[]):=by
 revert hF
 unfold qp
 refine yw ?_
 unfold kE
 have g1:=bK (Bg p0 p1 _ (Bf p0 p1))
 all_goals (rintro rfl;rw [bk];show cC _ _ _ (aH _ _ _ _ (Code.seq _ _) _)=_;simp (maxSteps:=4000000) only [*,qav,qfq,R4,↓RP,RB,RC,Nat.reduceBEq,List.map,Nat.reduceAdd,↓ao,↓aa,ty3])
def RK:List (Nat×List Nat):=[(0,[2,3]),(1,[4])]
def Pf:cL where
 keep:=ax RK
 ro:=fun t=>t==2||t==3
 mv:=fun _=>false
 give:=fun _=>false
 free:=fun _=>[]
theorem qcx (i:Nat):Pf.keep i=ax RK i:=rfl
theorem qaH (t:Nat):Pf.ro t=(t==2||t==3):=rfl
theorem WU (t:Nat):Pf.mv t=(false):=rfl
theorem Yr:Tryz.f131.results.toList= [.tmp 4]:=rfl
noncomputable def qiJ:Code:=aU Tryz.f131
theorem CJ (C:aj) (kU:lP C) (p0:iD) (p1:iD) (r:Int) (hF:sB p0 p1=some r):cR TT C.wide (evW TT C.wide Pf qiJ) Pf Tryz.f131.results.toList (aU Tryz.f131) [.agg [.v (.s p0.iE),.v (.s p0.iq)],.agg [.v (.s p1.iE),.v (.s p1.iq)]] []=some (.v (.i .i64 r),[]):=by
 revert hF
 unfold sB
 refine yw ?_
 unfold qm
 have g1:=bK (kU p0.iE p1.iE _ (tV p0.iE p1.iE))
 all_goals (rintro rfl;rw [bk];show cC _ _ _ (aH _ _ _ _ (Code.seq _ _) _)=_;simp (maxSteps:=4000000) only [*,Yr,qcx,RK,qaH,WU,↓RP,RB,RC,Nat.reduceBEq,bP,List.map,Nat.reduceAdd,↓ao,↓aa,ty3,ty9,AH])
def Nc:List (Nat×List Nat):=[(0,[0,1]),(1,[0,1,5]),(2,[0,1,5,9]),(3,[0,1,5]),(4,[0,1,5,23]),(5,[4]),(6,[4])]
def Ra:List (Nat×List Nat×List Nat):=[(9,[0,1,5],[]),(23,[],[0,1,5])]
def EK:cL where
 keep:=ax Nc
 ro:=fun _=>false
 mv:=fun _=>false
 give:=fun _=>false
 free:=fun i=>match i with|4=>[(0,1),(0,2),(1,2),(0,3),(1,3),(0,4),(0,5),(0,6),(1,6),(2,6),(3,6),(4,6),(5,6),(0,7),(1,7),(2,7),(3,7),(4,7),(5,7),(6,7),(0,8),(1,8),(2,8),(3,8),(4,8),(5,8),(0,9),(1,9),(2,9),(3,9),(4,9),(5,9)]|_=>[]
 alive:=av Ra
theorem qet (t:Nat) (x:Bool) (e:Env) (S:bH):cK EK t x ⟨e,S⟩=atO (av Ra t x) e S:=cF rfl t x e S
theorem Vc (i:Nat):EK.keep i=ax Nc i:=rfl
theorem Ya (t:Nat):EK.mv t=(false):=rfl
theorem Yk (t:Nat):EK.give t=(false):=rfl
theorem Wf:EK.free 4= [(0,1),(0,2),(1,2),(0,3),(1,3),(0,4),(0,5),(0,6),(1,6),(2,6),(3,6),(4,6),(5,6),(0,7),(1,7),(2,7),(3,7),(4,7),(5,7),(6,7),(0,8),(1,8),(2,8),(3,8),(4,8),(5,8),(0,9),(1,9),(2,9),(3,9),(4,9),(5,9)]:=rfl
theorem qbe:Tryz.f130.results.toList= [.tmp 4]:=rfl
noncomputable def UC:Code:=aU Tryz.f130
noncomputable def Zi:Code:=(bE 0 (aU Tryz.f130)).getD .skip
theorem TL:bE 0 UC=some Zi:=rfl
def jG (p0:List iD) (s:Int):St:=⟨[(0,.v (.sl 2 (ah iD.row p0))),(1,.clo 131 []),(5,.v (.i .i64 s))],[]⟩
def kc (p0:List iD) (r:Unit⊕Unit):Option (Ex×St):=match r with
 | .inl r=>some (.ret,⟨[(4,.v (.b false))],[]⟩)
 | .inr r=>some (.normal,⟨[],[]⟩)
theorem nh (C:aj) (sO:vv C) (p0:List iD) (p1:Int) (o:Int⊕(Unit⊕Unit)) (hF:jx p0 p1=some o):evW TT C.wide EK UC 0 (jG p0 p1)=Sum.elim (fun s=>evW TT C.wide EK UC 0 (jG p0 s)) (fun r=>kc p0 r) o:=by
 rw [cG TT EK TL]
 revert hF
 unfold jx
 try dsimp only
 refine bF (fun h1=>?_) (fun h1=>?_)
 rotate_left 1
 refine az fun x1 h2=>?_
 have g1:decide (0<=(IntKind.i64.wrap (p1-1)))=true:=(cp h2).1
 have g2:(ah iD.row p0)[((IntKind.i64.wrap (p1-1)):Int).toNat]? =some [.s x1.iE,.s x1.iq]:=cn _ h2
 refine az fun x2 h3=>?_
 have g3:decide (0<=p1)=true:=(cp h3).1
 have g4:(ah iD.row p0)[(p1:Int).toNat]? =some [.s x2.iE,.s x2.iq]:=cn _ h3
 have g5:=bK (sO x1 x2 _ (CQ x1 x2))
 refine aX (fun h4=>?_) (fun h4=>?_)
 rotate_left 1
 all_goals (rintro⟨⟩;show cN _ _ _ (aH _ _ _ _ (Code.seq _ _) _)=_;simp (maxSteps:=4000000) only [*,jG,kc,qet,Ra,Vc,Nc,Wf,Ya,Yk,↓RP,RB,RC,↓ai,Nat.reduceBEq,List.map,Nat.reduceAdd,List.foldl_cons,List.foldl_nil,List.filter_nil,↓ao,↓am,↓aa,↓aq,ty3,ty4,ue,AH])
theorem tA (C:aj) (sO:vv C) (p0:List iD) (r:Bool) (hF:jy p0=some r):cR TT C.wide (evW TT C.wide EK UC) EK Tryz.f130.results.toList (aU Tryz.f130) [.v (.sl 2 (ah iD.row p0)),.clo 131 []] []=some (.v (.b r),[]):=by
 revert hF
 unfold jy
 refine az ?_
 rintro (_|_) h1
 focus
  dsimp only
  have g1:=cH _ _ (nh C sO p0) h1
  try simp only [jG,kc] at g1
 rotate_left 1
 dsimp only
 have g2:=cH _ _ (nh C sO p0) h1
 try simp only [jG,kc] at g2
 all_goals (rintro⟨⟩;rw [bk];show cC _ _ _ (aH _ _ _ _ (Code.seq _ _) _)=_;simp (maxSteps:=4000000) only [*,qbe,Vc,Nc,↓RP,RB,RC,Nat.reduceBEq,List.map,Nat.reduceAdd,↓ao,↓aa,ty3,ty4])
def PY:List (Nat×List Nat):=[(0,[0]),(1,[2])]
def T3:cL where
 keep:=ax PY
 ro:=fun _=>false
 mv:=fun _=>false
 give:=fun _=>false
 free:=fun _=>[]
theorem qcw (i:Nat):T3.keep i=ax PY i:=rfl
theorem Xa:Tryz.f147.results.toList= [.tmp 2]:=rfl
noncomputable def qio:Code:=aU Tryz.f147
theorem CF (C:aj)  (p0:Int) (r:Bool) (hF:qF p0=some r):cR TT C.wide (evW TT C.wide T3 qio) T3 Tryz.f147.results.toList (aU Tryz.f147) [.v (.i .i64 p0)] []=some (.v (.b r),[]):=by
 revert hF
 unfold qF
 all_goals (rintro⟨⟩;rw [bk];show cC _ _ _ (aH _ _ _ _ (Code.seq _ _) _)=_;simp (maxSteps:=4000000) only [*,Xa,qcw,PY,↓RP,RB,RC,Nat.reduceBEq,List.map,bne,↓ao,↓aa,ty3,ty4])
def PP:List (Nat×List Nat):=[(0,[0,1]),(1,[0,1,5]),(2,[0,1,5,6]),(3,[0,1,6,11]),(4,[12]),(5,[4]),(6,[4]),(7,[0,1,13]),(8,[4]),(9,[0,1,16]),(10,[4]),(11,[19]),(12,[4]),(13,[4])]
def Qt:List (Nat×List Nat×List Nat):=[(11,[6],[0,1,6]),(12,[],[]),(13,[],[0,1]),(16,[],[0,1]),(19,[],[])]
def PE:cL where
 keep:=ax PP
 ro:=fun _=>false
 mv:=fun _=>false
 give:=fun _=>false
 free:=fun _=>[]
 alive:=av Qt
theorem qc2 (t:Nat) (x:Bool) (e:Env) (S:bH):cK PE t x ⟨e,S⟩=atO (av Qt t x) e S:=cF rfl t x e S
theorem qgJ (i:Nat):PE.keep i=ax PP i:=rfl
theorem qaG:Tryz.f144.results.toList= [.tmp 4]:=rfl
noncomputable def qiQ:Code:=aU Tryz.f144
theorem Bh (C:aj) (yn:yk C) (p0:Int) (p1:Int) (r:Int) (hF:qw p0 p1=some r):cR TT C.wide (evW TT C.wide PE qiQ) PE Tryz.f144.results.toList (aU Tryz.f144) [.v (.i .i64 p0),.v (.i .i64 p1)] []=some (.v (.i .i64 r),[]):=by
 revert hF
 unfold qw
 refine yw ?_
 unfold mU
 have g1:=bK (yn p0 _ (yl p0))
 have g2:=bK (yn p1 _ (yl p1))
 refine aX (fun h1=>?_) (fun h1=>?_)
 focus
  refine aX (fun h2=>?_) (fun h2=>?_)
  rotate_left 1
 rotate_left 2
 refine aX (fun h2=>?_) (fun h2=>?_)
 rotate_left 1
 refine aX (fun h3=>?_) (fun h3=>?_)
 rotate_left 1
 refine aX (fun h4=>?_) (fun h4=>?_)
 rotate_left 1
 all_goals (rintro rfl;rw [bk];show cC _ _ _ (aH _ _ _ _ (Code.seq _ _) _)=_;simp (maxSteps:=4000000) only [*,qaG,qc2,Qt,qgJ,PP,↓RP,RB,RC,Nat.reduceBEq,List.map,Nat.reduceAdd,Int.reduceNeg,↓ao,↓am,↓aa,ty3,ty4])
def NS:List (Nat×List Nat):=[(0,[0]),(1,[0,3]),(2,[0,3,6,7,8]),(3,[0,3,6,7,8,9]),(4,[0,3,5,6,7,8]),(5,[0,3,5,6,7,8,14]),(6,[2]),(7,[0,3,6,7,8]),(8,[2])]
def QB:List (Nat×List Nat×List Nat):=[(9,[0,3,6,7,8],[3]),(14,[5],[0,3,6,7,8])]
def Jq:cL where
 keep:=ax NS
 ro:=fun _=>false
 mv:=fun _=>false
 give:=fun _=>false
 free:=fun _=>[]
 alive:=av QB
theorem qdJ (t:Nat) (x:Bool) (e:Env) (S:bH):cK Jq t x ⟨e,S⟩=atO (av QB t x) e S:=cF rfl t x e S
theorem VI (i:Nat):Jq.keep i=ax NS i:=rfl
theorem Yv (t:Nat):Jq.mv t=(false):=rfl
theorem Wz:Tryz.f143.results.toList= [.tmp 2]:=rfl
noncomputable def T7:Code:=aU Tryz.f143
noncomputable def Xb:Code:=(bE 0 (aU Tryz.f143)).getD .skip
theorem UO:bE 0 T7=some Xb:=rfl
def qq (p0:List Int) (p1:Int) (s:Int):St:=⟨[(0,.v (.sl 1 (ah xc p0))),(3,.v (.i .i64 0)),(6,.v (.sl 1 (ah xc p0))),(7,.v (.i .i64 p1)),(8,.v (.i .i64 s))],[]⟩
def sK (p0:List Int) (p1:Int) (r:Int⊕Unit):Option (Ex×St):=match r with
 | .inl r=>some (.ret,⟨[(2,.v (.i .i64 r))],[]⟩)
 | .inr r=>some (.normal,⟨[(3,.v (.i .i64 0))],[]⟩)
theorem yo (C:aj)  (p0:List Int) (p1:Int) (p2:Int) (o:Int⊕(Int⊕Unit)) (hF:od p0 p1 p2=some o):evW TT C.wide Jq T7 0 (qq p0 p1 p2)=Sum.elim (fun s=>evW TT C.wide Jq T7 0 (qq p0 p1 s)) (fun r=>sK p0 p1 r) o:=by
 rw [cG TT Jq UO]
 revert hF
 unfold od
 try dsimp only
 refine bF (fun h1=>?_) (fun h1=>?_)
 rotate_left 1
 refine az fun x1 h2=>?_
 have g1:decide (0<=p2)=true:=(cp h2).1
 have g2:(ah xc p0)[(p2:Int).toNat]? =some [.i .i64 x1]:=cn _ h2
 refine aX (fun h3=>?_) (fun h3=>?_)
 rotate_left 1
 all_goals (rintro⟨⟩;show cN _ _ _ (aH _ _ _ _ (Code.seq _ _) _)=_;simp (maxSteps:=4000000) only [*,qq,sK,qdJ,QB,VI,NS,Yv,↓RP,RB,RC,↓ai,Nat.reduceBEq,List.map,bne,↓ao,↓am,↓aa,ty3,RZ])
theorem IB (C:aj)  (p0:List Int) (r:Int) (hF:te p0=some r):cR TT C.wide (evW TT C.wide Jq T7) Jq Tryz.f143.results.toList (aU Tryz.f143) [.v (.sl 1 (ah xc p0))] []=some (.v (.i .i64 r),[]):=by
 revert hF
 unfold te
 refine az ?_
 rintro (x1|_) h1
 focus
  dsimp only
  have g1:=cH _ _ (yo C p0 (p0.length:Int)) h1
  try simp only [qq,sK] at g1
 rotate_left 1
 dsimp only
 have g2:=cH _ _ (yo C p0 (p0.length:Int)) h1
 try simp only [qq,sK] at g2
 all_goals (rintro⟨⟩;rw [bk];show cC _ _ _ (aH _ _ _ _ (Code.seq _ _) _)=_;simp (maxSteps:=4000000) only [*,Wz,VI,NS,↓RP,RB,RC,Nat.reduceBEq,List.map,↓ao,↓aa,ty3,RZ])
def Q5:List (Nat×List Nat):=[(0,[2,3]),(1,[4])]
def M9:cL where
 keep:=ax Q5
 ro:=fun t=>t==2||t==3
 mv:=fun _=>false
 give:=fun _=>false
 free:=fun i=>match i with|1=>[(0,2),(1,2),(0,3),(1,3),(0,5),(1,5),(2,5),(3,5),(4,5),(0,6),(1,6),(2,6),(3,6),(4,6),(0,7),(1,7),(2,7),(3,7),(4,7),(5,7),(6,7),(0,8),(1,8),(2,8),(3,8),(4,8),(5,8),(6,8)]|_=>[]
theorem qcK (i:Nat):M9.keep i=ax Q5 i:=rfl
theorem qaU (t:Nat):M9.ro t=(t==2||t==3):=rfl
theorem Zc (t:Nat):M9.mv t=(false):=rfl
theorem YL:M9.free 1= [(0,2),(1,2),(0,3),(1,3),(0,5),(1,5),(2,5),(3,5),(4,5),(0,6),(1,6),(2,6),(3,6),(4,6),(0,7),(1,7),(2,7),(3,7),(4,7),(5,7),(6,7),(0,8),(1,8),(2,8),(3,8),(4,8),(5,8),(6,8)]:=rfl
theorem qbN:Tryz.f133.results.toList= [.tmp 4]:=rfl
noncomputable def qhz:Code:=aU Tryz.f133
theorem CP (C:aj) (AL:ua C) (kU:lP C) (Jx:AI C) (p0:im) (p1:im) (r:Int) (hF:oS p0 p1=some r):cR TT C.wide (evW TT C.wide M9 qhz) M9 Tryz.f133.results.toList (aU Tryz.f133) [.agg [.v (.s p0.iZ),.v (.i .i64 p0.fN)],.agg [.v (.s p1.iZ),.v (.i .i64 p1.fN)]] []=some (.v (.i .i64 r),[]):=by
 revert hF
 unfold oS
 have g1:=bK (AL p0.fN p1.fN _ (AV p0.fN p1.fN))
 have g2:=bK (kU p0.iZ p1.iZ _ (tV p0.iZ p1.iZ))
 refine az fun x1 h1=>?_
 have g3:=bK (Jx [(mU p0.fN p1.fN),(kE p0.iZ p1.iZ)] _ h1)
 all_goals (rintro⟨⟩;rw [bk];show cC _ _ _ (aH _ _ _ _ (Code.seq _ _) _)=_;simp (maxSteps:=4000000) only [*,qbN,qcK,Q5,YL,qaU,Zc,↓RP,RB,RC,Nat.reduceBEq,bP,List.map,Nat.reduceAdd,Nat.reduceMul,Nat.reduceLeDiff,bne,↓ao,↓aa,↓aq,ty3,ty9,u7,RZ])
def NA:List (Nat×List Nat):=[(0,[0,1]),(1,[0,1,5]),(2,[0,1,5,9]),(3,[0,1,5]),(4,[0,1,5,23]),(5,[4]),(6,[4])]
def Sl:List (Nat×List Nat×List Nat):=[(9,[0,1,5],[]),(23,[],[0,1,5])]
def D9:cL where
 keep:=ax NA
 ro:=fun _=>false
 mv:=fun _=>false
 give:=fun _=>false
 free:=fun i=>match i with|4=>[(0,1),(0,2),(1,2),(0,3),(1,3),(0,4),(0,5),(0,6),(1,6),(2,6),(3,6),(4,6),(5,6),(0,7),(1,7),(2,7),(3,7),(4,7),(5,7),(6,7),(0,8),(1,8),(2,8),(3,8),(4,8),(5,8),(0,9),(1,9),(2,9),(3,9),(4,9),(5,9)]|_=>[]
 alive:=av Sl
theorem qdY (t:Nat) (x:Bool) (e:Env) (S:bH):cK D9 t x ⟨e,S⟩=atO (av Sl t x) e S:=cF rfl t x e S
theorem Vz (i:Nat):D9.keep i=ax NA i:=rfl
theorem Xy (t:Nat):D9.mv t=(false):=rfl
theorem YJ (t:Nat):D9.give t=(false):=rfl
theorem Xd:D9.free 4= [(0,1),(0,2),(1,2),(0,3),(1,3),(0,4),(0,5),(0,6),(1,6),(2,6),(3,6),(4,6),(5,6),(0,7),(1,7),(2,7),(3,7),(4,7),(5,7),(6,7),(0,8),(1,8),(2,8),(3,8),(4,8),(5,8),(0,9),(1,9),(2,9),(3,9),(4,9),(5,9)]:=rfl
theorem Z8:Tryz.f132.results.toList= [.tmp 4]:=rfl
noncomputable def SP:Code:=aU Tryz.f132
noncomputable def W9:Code:=(bE 0 (aU Tryz.f132)).getD .skip
theorem U7:bE 0 SP=some W9:=rfl
def jC (p0:List im) (s:Int):St:=⟨[(0,.v (.sl 2 (ah im.row p0))),(1,.clo 133 []),(5,.v (.i .i64 s))],[]⟩
def j8 (p0:List im) (r:Unit⊕Unit):Option (Ex×St):=match r with
 | .inl r=>some (.ret,⟨[(4,.v (.b false))],[]⟩)
 | .inr r=>some (.normal,⟨[],[]⟩)
theorem m0 (C:aj) (sE:vk C) (p0:List im) (p1:Int) (o:Int⊕(Unit⊕Unit)) (hF:ju p0 p1=some o):evW TT C.wide D9 SP 0 (jC p0 p1)=Sum.elim (fun s=>evW TT C.wide D9 SP 0 (jC p0 s)) (fun r=>j8 p0 r) o:=by
 rw [cG TT D9 U7]
 revert hF
 unfold ju
 try dsimp only
 refine bF (fun h1=>?_) (fun h1=>?_)
 rotate_left 1
 refine az fun x1 h2=>?_
 have g1:decide (0<=(IntKind.i64.wrap (p1-1)))=true:=(cp h2).1
 have g2:(ah im.row p0)[((IntKind.i64.wrap (p1-1)):Int).toNat]? =some [.s x1.iZ,.i .i64 x1.fN]:=cn _ h2
 refine az fun x2 h3=>?_
 have g3:decide (0<=p1)=true:=(cp h3).1
 have g4:(ah im.row p0)[(p1:Int).toNat]? =some [.s x2.iZ,.i .i64 x2.fN]:=cn _ h3
 refine az fun x3 h4=>?_
 have g5:=bK (sE x1 x2 _ h4)
 refine aX (fun h5=>?_) (fun h5=>?_)
 rotate_left 1
 all_goals (rintro⟨⟩;show cN _ _ _ (aH _ _ _ _ (Code.seq _ _) _)=_;simp (maxSteps:=4000000) only [*,jC,j8,qdY,Sl,Vz,NA,Xd,Xy,YJ,↓RP,RB,RC,↓ai,Nat.reduceBEq,List.map,Nat.reduceAdd,List.foldl_cons,List.foldl_nil,List.filter_nil,↓ao,↓am,↓aa,↓aq,ty3,ty4,qu,u7])
theorem tc (C:aj) (sE:vk C) (p0:List im) (r:Bool) (hF:jv p0=some r):cR TT C.wide (evW TT C.wide D9 SP) D9 Tryz.f132.results.toList (aU Tryz.f132) [.v (.sl 2 (ah im.row p0)),.clo 133 []] []=some (.v (.b r),[]):=by
 revert hF
 unfold jv
 refine az ?_
 rintro (_|_) h1
 focus
  dsimp only
  have g1:=cH _ _ (m0 C sE p0) h1
  try simp only [jC,j8] at g1
 rotate_left 1
 dsimp only
 have g2:=cH _ _ (m0 C sE p0) h1
 try simp only [jC,j8] at g2
 all_goals (rintro⟨⟩;rw [bk];show cC _ _ _ (aH _ _ _ _ (Code.seq _ _) _)=_;simp (maxSteps:=4000000) only [*,Z8,Vz,NA,↓RP,RB,RC,Nat.reduceBEq,List.map,Nat.reduceAdd,↓ao,↓aa,ty3,ty4])
def NX:List (Nat×List Nat):=[(0,[0,1]),(1,[0,1,5]),(2,[0,1,5,9]),(3,[0,1,5]),(4,[0,1,5,23]),(5,[4]),(6,[4])]
def Rm:List (Nat×List Nat×List Nat):=[(9,[0,1,5],[]),(23,[],[0,1,5])]
def EC:cL where
 keep:=ax NX
 ro:=fun _=>false
 mv:=fun _=>false
 give:=fun _=>false
 free:=fun i=>match i with|4=>[(0,1),(0,2),(1,2),(0,3),(1,3),(0,4),(0,5),(0,6),(1,6),(2,6),(3,6),(4,6),(5,6),(0,7),(1,7),(2,7),(3,7),(4,7),(5,7),(6,7),(0,8),(1,8),(2,8),(3,8),(4,8),(5,8),(0,9),(1,9),(2,9),(3,9),(4,9),(5,9)]|_=>[]
 alive:=av Rm
theorem qfe (t:Nat) (x:Bool) (e:Env) (S:bH):cK EC t x ⟨e,S⟩=atO (av Rm t x) e S:=cF rfl t x e S
theorem Vi (i:Nat):EC.keep i=ax NX i:=rfl
theorem qbF (t:Nat):EC.mv t=(false):=rfl
theorem Xi (t:Nat):EC.give t=(false):=rfl
theorem Z4:EC.free 4= [(0,1),(0,2),(1,2),(0,3),(1,3),(0,4),(0,5),(0,6),(1,6),(2,6),(3,6),(4,6),(5,6),(0,7),(1,7),(2,7),(3,7),(4,7),(5,7),(6,7),(0,8),(1,8),(2,8),(3,8),(4,8),(5,8),(0,9),(1,9),(2,9),(3,9),(4,9),(5,9)]:=rfl
theorem qb4:Tryz.f134.results.toList= [.tmp 4]:=rfl
noncomputable def Uv:Code:=aU Tryz.f134
noncomputable def XS:Code:=(bE 0 (aU Tryz.f134)).getD .skip
theorem UI:bE 0 Uv=some XS:=rfl
def jB (p0:List ByteArray) (s:Int):St:=⟨[(0,.v (.sl 1 (ah bY p0))),(1,.clo 135 []),(5,.v (.i .i64 s))],[]⟩
def jT (p0:List ByteArray) (r:Unit⊕Unit):Option (Ex×St):=match r with
 | .inl r=>some (.ret,⟨[(4,.v (.b false))],[]⟩)
 | .inr r=>some (.normal,⟨[],[]⟩)
theorem l9 (C:aj) (kU:lP C) (p0:List ByteArray) (p1:Int) (o:Int⊕(Unit⊕Unit)) (hF:jh p0 p1=some o):evW TT C.wide EC Uv 0 (jB p0 p1)=Sum.elim (fun s=>evW TT C.wide EC Uv 0 (jB p0 s)) (fun r=>jT p0 r) o:=by
 rw [cG TT EC UI]
 revert hF
 unfold jh
 try dsimp only
 refine bF (fun h1=>?_) (fun h1=>?_)
 rotate_left 1
 refine az fun x1 h2=>?_
 have g1:decide (0<=(IntKind.i64.wrap (p1-1)))=true:=(cp h2).1
 have g2:(ah bY p0)[((IntKind.i64.wrap (p1-1)):Int).toNat]? =some [.s x1]:=cn _ h2
 refine az fun x2 h3=>?_
 have g3:decide (0<=p1)=true:=(cp h3).1
 have g4:(ah bY p0)[(p1:Int).toNat]? =some [.s x2]:=cn _ h3
 have g5:=bK (kU x1 x2 _ (tV x1 x2))
 refine aX (fun h4=>?_) (fun h4=>?_)
 rotate_left 1
 all_goals (rintro⟨⟩;show cN _ _ _ (aH _ _ _ _ (Code.seq _ _) _)=_;simp (maxSteps:=4000000) only [*,jB,jT,qfe,Rm,Vi,NX,Z4,qbF,Xi,↓RP,RB,RC,↓ai,Nat.reduceBEq,List.map,List.foldl_cons,List.foldl_nil,List.filter_nil,↓ao,↓am,↓aa,↓aq,ty3,ty4,ty9,ph])
theorem rP (C:aj) (kU:lP C) (p0:List ByteArray) (r:Bool) (hF:jk p0=some r):cR TT C.wide (evW TT C.wide EC Uv) EC Tryz.f134.results.toList (aU Tryz.f134) [.v (.sl 1 (ah bY p0)),.clo 135 []] []=some (.v (.b r),[]):=by
 revert hF
 unfold jk
 refine az ?_
 rintro (_|_) h1
 focus
  dsimp only
  have g1:=cH _ _ (l9 C kU p0) h1
  try simp only [jB,jT] at g1
 rotate_left 1
 dsimp only
 have g2:=cH _ _ (l9 C kU p0) h1
 try simp only [jB,jT] at g2
 all_goals (rintro⟨⟩;rw [bk];show cC _ _ _ (aH _ _ _ _ (Code.seq _ _) _)=_;simp (maxSteps:=4000000) only [*,qb4,Vi,NX,↓RP,RB,RC,Nat.reduceBEq,List.map,Nat.reduceAdd,↓ao,↓aa,ty3,ty4])
def PX:List (Nat×List Nat):=[(0,[1,2]),(1,[3])]
def OL:cL where
 keep:=ax PX
 ro:=fun t=>t==2
 mv:=fun _=>false
 give:=fun _=>false
 free:=fun _=>[]
theorem qfO (i:Nat):OL.keep i=ax PX i:=rfl
theorem qcg (t:Nat):OL.ro t=(t==2):=rfl
theorem Z5 (t:Nat):OL.mv t=(false):=rfl
theorem Y9:Tryz.f146.results.toList= [.tmp 3]:=rfl
noncomputable def qhQ:Code:=aU Tryz.f146
theorem Cb (C:aj)  (p0:im) (p1:ByteArray) (r:Bool×ByteArray) (hF:pP p0 p1=some r):cR TT C.wide (evW TT C.wide OL qhQ) OL Tryz.f146.results.toList (aU Tryz.f146) [.agg [.v (.s p0.iZ),.v (.i .i64 p0.fN)],.ptr 0 0] [[.v (.s p1)]]=some (.v (.b r.1),[[.v (.s r.2)]]):=by
 revert hF
 unfold pP
 all_goals (rintro⟨⟩;rw [bk];show cC _ _ _ (aH _ _ _ _ (Code.seq _ _) _)=_;simp (maxSteps:=4000000) only [*,Y9,qfO,PX,qcg,Z5,↓RP,RB,RC,Nat.reduceBEq,bP,List.map,Nat.reduceAdd,↓ao,↓aa,ty4,ty9,u7])
def lM (p0:List im) (p1:Int) (s:Int×ByteArray):St:=⟨[(0,.v (.sl 2 (ah im.row p0))),(1,.clo 146 [.ptr 0 0]),(7,.v (.i .i64 p1)),(8,.v (.i .i64 s.1))],[[.v (.s s.2)]]⟩
def nm (p0:List im) (p1:Int) (r:(Int×ByteArray)⊕ByteArray):Option (Ex×St):=match r with
 | .inl r=>some (.ret,⟨[(4,.v (.i .i64 r.1))],[[.v (.s r.2)]]⟩)
 | .inr r=>some (.normal,⟨[],[[.v (.s r)]]⟩)
theorem tZ (C:aj) (rZ:uz C) (p0:List im) (p1:Int) (s:Int×ByteArray) (o:(Int×ByteArray)⊕((Int×ByteArray)⊕ByteArray)) (hF:kP p0 p1 s=some o):evW TT C.wide wu Fn 0 (lM p0 p1 s)=Sum.elim (fun s=>evW TT C.wide wu Fn 0 (lM p0 p1 s)) (fun r=>nm p0 p1 r) o:=by
 obtain⟨p2,p3⟩:=s
 rw [cG TT wu IS]
 revert hF
 unfold kP
 try dsimp only
 refine bF (fun h1=>?_) (fun h1=>?_)
 rotate_left 1
 refine az fun x1 h2=>?_
 have g1:decide (0<=p2)=true:=(cp h2).1
 have g2:(ah im.row p0)[(p2:Int).toNat]? =some [.s x1.iZ,.i .i64 x1.fN]:=cn _ h2
 refine az ?_
 rintro⟨x2,x3⟩ h3
 dsimp only
 have g3:C.wide 146 [.agg [.v (.s x1.iZ),.v (.i .i64 x1.fN)],.ptr 0 0] [[.v (.s p3)]]=some (.v (.b x2),[[.v (.s x3)]]):=cX [0] rfl rfl rfl rfl (rZ x1 p3 _ h3) rfl rfl
 refine aX (fun h4=>?_) (fun h4=>?_)
 rotate_left 1
 all_goals (rintro⟨⟩;show cN _ _ _ (aH _ _ _ _ (Code.seq _ _) _)=_;simp (maxSteps:=4000000) only [*,lM,nm,Ry,Kf,HB,Cy,Me,Mv,↓RP,RB,RC,↓ai,Nat.reduceBEq,List.map,Nat.reduceAdd,↓ao,↓am,↓aa,ty3,qu,u7])
theorem zP (C:aj) (rZ:uz C) (p0:List im) (p1:ByteArray) (r:Int×ByteArray) (hF:mN p0 p1=some r):cR TT C.wide (evW TT C.wide wu Fn) wu Tryz.f142.results.toList (aU Tryz.f142) [.v (.sl 2 (ah im.row p0)),.clo 146 [.ptr 0 0]] [[.v (.s p1)]]=some (.v (.i .i64 r.1),[[.v (.s r.2)]]):=by
 revert hF
 unfold mN
 refine az ?_
 rintro (⟨x1,x2⟩|x1) h1
 focus
  dsimp only
  have g1:=cH _ _ (tZ C rZ p0 (p0.length:Int)) h1
  try simp only [lM,nm] at g1
 rotate_left 1
 dsimp only
 have g2:=cH _ _ (tZ C rZ p0 (p0.length:Int)) h1
 try simp only [lM,nm] at g2
 all_goals (rintro⟨⟩;rw [bk];show cC _ _ _ (aH _ _ _ _ (Code.seq _ _) _)=_;simp (maxSteps:=4000000) only [*,LW,HB,Cy,↓RP,RB,RC,Nat.reduceBEq,List.map,Nat.reduceAdd,Int.reduceNeg,↓ao,↓aa,ty3,qu])
def PS:List (Nat×List Nat):=[(0,[0,3]),(1,[4])]
def Pc:cL where
 keep:=ax PS
 ro:=fun _=>false
 mv:=fun _=>false
 give:=fun _=>false
 free:=fun _=>[]
theorem qeG (i:Nat):Pc.keep i=ax PS i:=rfl
theorem Wn (t:Nat):Pc.ro t=(false):=rfl
theorem Yf (t:Nat):Pc.give t=(false):=rfl
theorem W8:Tryz.f136.results.toList= [.tmp 4]:=rfl
noncomputable def qis:Code:=aU Tryz.f136
theorem I8 (C:aj) (zF:vz C) (p0:List im) (p1:ByteArray) (r:Int) (hF:tb p0 p1=some r):cR TT C.wide (evW TT C.wide Pc qis) Pc Tryz.f136.results.toList (aU Tryz.f136) [.v (.sl 2 (ah im.row p0)),.v (.s p1)] []=some (.v (.i .i64 r),[]):=by
 revert hF
 unfold tb
 refine az ?_
 rintro⟨x1,x2⟩ h1
 dsimp only
 have g1:C.wide 142 [.v (.sl 2 (ah im.row p0)),.clo 146 [.ptr 0 0]] [[.v (.s p1)]]=some (.v (.i .i64 x1),[[.v (.s x2)]]):=cX [0] rfl rfl rfl rfl (zF p0 p1 _ h1) rfl rfl
 all_goals (rintro⟨⟩;rw [bk];show cC _ _ _ (aH _ _ _ _ (Code.seq _ _) _)=_;simp (maxSteps:=4000000) only [*,W8,qeG,PS,Wn,Yf,↓RP,RB,RC,Nat.reduceBEq,List.map,Nat.reduceAdd,↓ao,↓aa,ty3,ty9])
def yO:List (Nat×List Nat):=[(0,[1]),(1,[1,14]),(2,[2]),(3,[1,3]),(4,[1,3,17]),(5,[1,3]),(6,[1,3,17,19]),(7,[1,3]),(8,[1,3,17,22]),(9,[1,3]),(10,[1,3,17,25]),(11,[1,3]),(12,[1,3,28]),(13,[1,3]),(14,[1,43]),(15,[2]),(16,[1,56]),(17,[2]),(18,[1,65]),(19,[2]),(20,[1,68]),(21,[2]),(22,[1,71]),(23,[2]),(24,[1,80]),(25,[2]),(26,[1,4]),(27,[1,4,100,101,102]),(28,[1,4,100,101,102,103]),(29,[1,4,5,6,100,101,102]),(30,[1,4,100,101,102]),(31,[1,4,100,101,102]),(32,[120]),(33,[2]),(34,[2])]
def Cn:List (Nat×List Nat×List Nat):=[(14,[],[1]),(19,[1,3],[1,3,17]),(22,[1,3],[1,3,17]),(25,[1,3],[1,3,17]),(28,[1,3],[1,3]),(43,[],[1]),(56,[],[1]),(65,[],[1]),(68,[],[1]),(71,[],[1]),(80,[],[1]),(103,[1,4,100,101,102],[4]),(120,[],[])]
def u0:cL where
 keep:=ax yO
 ro:=fun t=>t==1
 mv:=fun _=>false
 give:=fun t=>t==18||t==27||t==30
 free:=fun i=>match i with|30=>[(2,4),(3,4),(2,6),(3,6),(4,6),(5,6),(2,7),(3,7),(4,7),(5,7)]|_=>[]
 alive:=av Cn
theorem Hs (t:Nat) (x:Bool) (e:Env) (S:bH):cK u0 t x ⟨e,S⟩=atO (av Cn t x) e S:=cF rfl t x e S
theorem AW (i:Nat):u0.keep i=ax yO i:=rfl
theorem ZC (t:Nat):u0.ro t=(t==1):=rfl
theorem Dm (t:Nat):u0.mv t=(false):=rfl
theorem B8 (t:Nat):u0.give t=(t==18||t==27||t==30):=rfl
theorem TM:u0.free 30= [(2,4),(3,4),(2,6),(3,6),(4,6),(5,6),(2,7),(3,7),(4,7),(5,7)]:=rfl
theorem X0:Tryz.f109.results.toList= [.tmp 2]:=rfl
noncomputable def vj:Code:=aU Tryz.f109
noncomputable def Yn:Code:=(bE 1 (aU Tryz.f109)).getD .skip
theorem Ti:bE 1 vj=some Yn:=rfl
theorem LZ (C:aj)  (p0:iy) (p1:Bool) (c:Code) (ho:cD 1 28 vj=some c) (r:iy) (hF:tQ p0 p1=r): @cV TT C.wide (evW TT C.wide u0 vj) u0 1 28 ⟨[(1,.rp [.i .i64 p0.bt,.s p0.iq,.i .i64 p0.iF,.sl 2 (ah iD.row p0.iA),.sl 1 (ah bY p0.iC),.sl 2 (ah im.row p0.il)]),(3,.ptr 0 0),(28,.v (.b p1))],[[.v (.i .i64 p0.bt),.v (.s p0.iq),.v (.i .i64 p0.iF),.v (.sl 2 (ah iD.row p0.iA)),.v (.sl 1 (ah bY p0.iC)),.v (.sl 2 (ah im.row p0.il))]]⟩ ⟨c⟩=some (.normal,⟨[(1,.rp [.i .i64 p0.bt,.s p0.iq,.i .i64 p0.iF,.sl 2 (ah iD.row p0.iA),.sl 1 (ah bY p0.iC),.sl 2 (ah im.row p0.il)]),(3,.ptr 0 0)],[[.v (.i .i64 r.bt),.v (.s r.iq),.v (.i .i64 r.iF),.v (.sl 2 (ah iD.row r.iA)),.v (.sl 1 (ah bY r.iC)),.v (.sl 2 (ah im.row r.il))]]⟩):=by
 have e:=Option.some.inj (ho.symm.trans (rfl:cD 1 28 vj=some _))
 subst e
 clear ho
 show aH _ _ _ _ _ _=_
 revert hF
 unfold tQ
 refine aX (fun h1=>?_) (fun h1=>?_)
 rotate_left 1
 all_goals (rintro rfl;simp (maxSteps:=4000000) only [*,Hs,Cn,AW,yO,B8,↓RP,RB,RC,Nat.reduceBEq,List.map,Nat.reduceAdd,Nat.reduceLeDiff,↓am,ph,qu,mh,↓aa _ _ _ _ 13,↓aa _ _ _ _ 5])
theorem L0 (C:aj)  (p0:iy) (p1:Int) (p2:Bool) (c:Code) (ho:cD 1 25 vj=some c) (r:iy) (hF:tY p0 p1 p2=r): @cV TT C.wide (evW TT C.wide u0 vj) u0 1 25 ⟨[(1,.rp [.i .i64 p0.bt,.s p0.iq,.i .i64 p0.iF,.sl 2 (ah iD.row p0.iA),.sl 1 (ah bY p0.iC),.sl 2 (ah im.row p0.il)]),(3,.ptr 0 0),(17,.v (.i .i64 p1)),(25,.v (.b p2))],[[.v (.i .i64 p0.bt),.v (.s p0.iq),.v (.i .i64 p0.iF),.v (.sl 2 (ah iD.row p0.iA)),.v (.sl 1 (ah bY p0.iC)),.v (.sl 2 (ah im.row p0.il))]]⟩ ⟨c⟩=some (.normal,⟨[(1,.rp [.i .i64 p0.bt,.s p0.iq,.i .i64 p0.iF,.sl 2 (ah iD.row p0.iA),.sl 1 (ah bY p0.iC),.sl 2 (ah im.row p0.il)]),(3,.ptr 0 0)],[[.v (.i .i64 r.bt),.v (.s r.iq),.v (.i .i64 r.iF),.v (.sl 2 (ah iD.row r.iA)),.v (.sl 1 (ah bY r.iC)),.v (.sl 2 (ah im.row r.il))]]⟩):=by
 have e:=Option.some.inj (ho.symm.trans (rfl:cD 1 25 vj=some _))
 subst e
 clear ho
 show aH _ _ _ _ _ _=_
 revert hF
 unfold tY
 refine aX (fun h1=>?_) (fun h1=>?_)
 rotate_left 1
 have g1:=LZ C p0 (p1==6) _ rfl (tQ p0 (p1==6)) rfl
 all_goals (rintro rfl;simp (maxSteps:=4000000) only [*,Hs,Cn,AW,yO,B8,↓RP,RB,RC,Nat.reduceBEq,List.map,Nat.reduceAdd,Nat.reduceLeDiff,↓ao,ty3,ty4,ue,mh,↓am _ _ _ _ 25,↓aa _ _ _ _ 11,↓aa _ _ _ _ 12,↓kZ _ _ _ _ 28])
theorem MY (C:aj)  (p0:iy) (p1:Int) (p2:Bool) (c:Code) (ho:cD 1 22 vj=some c) (r:iy) (hF:tU p0 p1 p2=r): @cV TT C.wide (evW TT C.wide u0 vj) u0 1 22 ⟨[(1,.rp [.i .i64 p0.bt,.s p0.iq,.i .i64 p0.iF,.sl 2 (ah iD.row p0.iA),.sl 1 (ah bY p0.iC),.sl 2 (ah im.row p0.il)]),(3,.ptr 0 0),(17,.v (.i .i64 p1)),(22,.v (.b p2))],[[.v (.i .i64 p0.bt),.v (.s p0.iq),.v (.i .i64 p0.iF),.v (.sl 2 (ah iD.row p0.iA)),.v (.sl 1 (ah bY p0.iC)),.v (.sl 2 (ah im.row p0.il))]]⟩ ⟨c⟩=some (.normal,⟨[(1,.rp [.i .i64 p0.bt,.s p0.iq,.i .i64 p0.iF,.sl 2 (ah iD.row p0.iA),.sl 1 (ah bY p0.iC),.sl 2 (ah im.row p0.il)]),(3,.ptr 0 0)],[[.v (.i .i64 r.bt),.v (.s r.iq),.v (.i .i64 r.iF),.v (.sl 2 (ah iD.row r.iA)),.v (.sl 1 (ah bY r.iC)),.v (.sl 2 (ah im.row r.il))]]⟩):=by
 have e:=Option.some.inj (ho.symm.trans (rfl:cD 1 22 vj=some _))
 subst e
 clear ho
 show aH _ _ _ _ _ _=_
 revert hF
 unfold tU
 refine aX (fun h1=>?_) (fun h1=>?_)
 rotate_left 1
 have g1:=L0 C p0 p1 (p1==3) _ rfl (tY p0 p1 (p1==3)) rfl
 all_goals (rintro rfl;simp (maxSteps:=4000000) only [*,Hs,Cn,AW,yO,B8,↓RP,RB,RC,Nat.reduceBEq,List.map,Nat.reduceAdd,Nat.reduceLeDiff,↓ao,ty3,ty4,mh,↓am _ _ _ _ 22,↓aa _ _ _ _ 9,↓aa _ _ _ _ 10,↓kZ _ _ _ _ 25])
theorem Mh (C:aj)  (p0:iy) (p1:Int) (p2:Bool) (c:Code) (ho:cD 1 19 vj=some c) (r:iy) (hF:jU p0 p1 p2=r): @cV TT C.wide (evW TT C.wide u0 vj) u0 1 19 ⟨[(1,.rp [.i .i64 p0.bt,.s p0.iq,.i .i64 p0.iF,.sl 2 (ah iD.row p0.iA),.sl 1 (ah bY p0.iC),.sl 2 (ah im.row p0.il)]),(3,.ptr 0 0),(17,.v (.i .i64 p1)),(19,.v (.b p2))],[[.v (.i .i64 p0.bt),.v (.s p0.iq),.v (.i .i64 p0.iF),.v (.sl 2 (ah iD.row p0.iA)),.v (.sl 1 (ah bY p0.iC)),.v (.sl 2 (ah im.row p0.il))]]⟩ ⟨c⟩=some (.normal,⟨[(1,.rp [.i .i64 p0.bt,.s p0.iq,.i .i64 p0.iF,.sl 2 (ah iD.row p0.iA),.sl 1 (ah bY p0.iC),.sl 2 (ah im.row p0.il)]),(3,.ptr 0 0)],[[.v (.i .i64 r.bt),.v (.s r.iq),.v (.i .i64 r.iF),.v (.sl 2 (ah iD.row r.iA)),.v (.sl 1 (ah bY r.iC)),.v (.sl 2 (ah im.row r.il))]]⟩):=by
 have e:=Option.some.inj (ho.symm.trans (rfl:cD 1 19 vj=some _))
 subst e
 clear ho
 show aH _ _ _ _ _ _=_
 revert hF
 unfold jU
 refine aX (fun h1=>?_) (fun h1=>?_)
 rotate_left 1
 have g1:=MY C p0 p1 (p1==2) _ rfl (tU p0 p1 (p1==2)) rfl
 all_goals (rintro rfl;simp (maxSteps:=4000000) only [*,Hs,Cn,AW,yO,B8,↓RP,RB,RC,Nat.reduceBEq,List.map,Nat.reduceAdd,Nat.reduceLeDiff,↓ao,ty3,ty4,ty9,mh,↓am _ _ _ _ 19,↓aa _ _ _ _ 7,↓aa _ _ _ _ 8,↓kZ _ _ _ _ 22])
theorem LM (C:aj) (nz:pr C) (p0:iy) (p1:iy) (c:Code) (ho:cD 0 14 vj=some c) (r:Bool) (hF:rI p0 p1=r): @cV TT C.wide (evW TT C.wide u0 vj) u0 0 14 ⟨[(1,.rp [.i .i64 p0.bt,.s p0.iq,.i .i64 p0.iF,.sl 2 (ah iD.row p0.iA),.sl 1 (ah bY p0.iC),.sl 2 (ah im.row p0.il)]),(3,.ptr 0 0)],[[.v (.i .i64 p1.bt),.v (.s p1.iq),.v (.i .i64 p1.iF),.v (.sl 2 (ah iD.row p1.iA)),.v (.sl 1 (ah bY p1.iC)),.v (.sl 2 (ah im.row p1.il))]]⟩ ⟨c⟩=some (.normal,⟨[(1,.rp [.i .i64 p0.bt,.s p0.iq,.i .i64 p0.iF,.sl 2 (ah iD.row p0.iA),.sl 1 (ah bY p0.iC),.sl 2 (ah im.row p0.il)]),(43,.v (.b r))],[[.v (.i .i64 p1.bt),.v (.s p1.iq),.v (.i .i64 p1.iF),.v (.sl 2 (ah iD.row p1.iA)),.v (.sl 1 (ah bY p1.iC)),.v (.sl 2 (ah im.row p1.il))]]⟩):=by
 have e:=Option.some.inj (ho.symm.trans (rfl:cD 0 14 vj=some _))
 subst e
 clear ho
 show aH _ _ _ _ _ _=_
 revert hF
 unfold rI
 refine bF (fun h1=>?_) (fun h1=>?_)
 rotate_left 1
 refine aX (fun h2=>?_) (fun h2=>?_)
 focus
  have g1:=bK (nz p1 _ (xm p1))
 rotate_left 1
 all_goals (rintro rfl;simp (maxSteps:=4000000) only [*,AW,yO,Dm,↓RP,RB,RC,Nat.reduceBEq,List.map,Nat.reduceAdd,bne,aP,ty3,ty9,mh,↓aa _ _ _ _ 14])
theorem MH (C:aj) (nz:pr C) (p0:iy) (p1:iy) (c:Code) (ho:cD 0 16 vj=some c) (r:Bool) (hF:qg p0 p1=r): @cV TT C.wide (evW TT C.wide u0 vj) u0 0 16 ⟨[(1,.rp [.i .i64 p0.bt,.s p0.iq,.i .i64 p0.iF,.sl 2 (ah iD.row p0.iA),.sl 1 (ah bY p0.iC),.sl 2 (ah im.row p0.il)])],[[.v (.i .i64 p1.bt),.v (.s p1.iq),.v (.i .i64 p1.iF),.v (.sl 2 (ah iD.row p1.iA)),.v (.sl 1 (ah bY p1.iC)),.v (.sl 2 (ah im.row p1.il))]]⟩ ⟨c⟩=some (.normal,⟨[(1,.rp [.i .i64 p0.bt,.s p0.iq,.i .i64 p0.iF,.sl 2 (ah iD.row p0.iA),.sl 1 (ah bY p0.iC),.sl 2 (ah im.row p0.il)]),(56,.v (.b r))],[[.v (.i .i64 p1.bt),.v (.s p1.iq),.v (.i .i64 p1.iF),.v (.sl 2 (ah iD.row p1.iA)),.v (.sl 1 (ah bY p1.iC)),.v (.sl 2 (ah im.row p1.il))]]⟩):=by
 have e:=Option.some.inj (ho.symm.trans (rfl:cD 0 16 vj=some _))
 subst e
 clear ho
 show aH _ _ _ _ _ _=_
 revert hF
 unfold qg
 refine bF (fun h1=>?_) (fun h1=>?_)
 rotate_left 1
 have g1:=bK (nz p0 _ (xm p0))
 refine aX (fun h2=>?_) (fun h2=>?_)
 rotate_left 1
 all_goals (rintro rfl;simp (maxSteps:=4000000) only [*,AW,yO,Dm,↓RP,RB,RC,Nat.reduceBEq,List.map,Nat.reduceAdd,ty3,mh,↓aa _ _ _ _ 16])
theorem MO (C:aj) (lv:kA C) (li:kt C) (kL:j9 C) (p0:iy) (p1:iy) (c:Code) (ho:cD 0 26 vj=some c) (r:Bool) (hF:xZ p0 p1=some r): @cV TT C.wide (evW TT C.wide u0 vj) u0 0 26 ⟨[(1,.rp [.i .i64 p0.bt,.s p0.iq,.i .i64 p0.iF,.sl 2 (ah iD.row p0.iA),.sl 1 (ah bY p0.iC),.sl 2 (ah im.row p0.il)])],[[.v (.i .i64 p1.bt),.v (.s p1.iq),.v (.i .i64 p1.iF),.v (.sl 2 (ah iD.row p1.iA)),.v (.sl 1 (ah bY p1.iC)),.v (.sl 2 (ah im.row p1.il))]]⟩ ⟨c⟩=some (.normal,⟨[(1,.rp [.i .i64 p0.bt,.s p0.iq,.i .i64 p0.iF,.sl 2 (ah iD.row p0.iA),.sl 1 (ah bY p0.iC),.sl 2 (ah im.row p0.il)]),(4,.v (.b r))],[[.v (.i .i64 p1.bt),.v (.s p1.iq),.v (.i .i64 p1.iF),.v (.sl 2 (ah iD.row p1.iA)),.v (.sl 1 (ah bY p1.iC)),.v (.sl 2 (ah im.row p1.il))]]⟩):=by
 have e:=Option.some.inj (ho.symm.trans (rfl:cD 0 26 vj=some _))
 subst e
 clear ho
 show aH _ _ _ _ _ _=_
 revert hF
 unfold xZ
 refine az fun x1 h1=>?_
 have g1:=bK (lv p0.iA _ h1)
 refine bF (fun h2=>?_) (fun h2=>?_)
 rotate_left 1
 refine az fun x2 h3=>?_
 have g2:=bK (li p0.il _ h3)
 refine bF (fun h4=>?_) (fun h4=>?_)
 rotate_left 1
 refine bF (fun h5=>?_) (fun h5=>?_)
 rotate_left 1
 refine az fun x3 h6=>?_
 have g3:=bK (kL p0.iC _ h6)
 all_goals (rintro⟨⟩;simp (maxSteps:=4000000) only [*,AW,yO,Dm,↓RP,RB,RC,Nat.reduceBEq,List.map,bne,ty3,ty4,ue,ph,qu,mh,↓aa _ _ _ _ 26])
def A3 (p0:iy) (p2:List im) (p3:Int) (p5:iy) (s:Bool×Int):St:=⟨[(1,.rp [.i .i64 p0.bt,.s p0.iq,.i .i64 p0.iF,.sl 2 (ah iD.row p0.iA),.sl 1 (ah bY p0.iC),.sl 2 (ah im.row p0.il)]),(4,.v (.b s.1)),(100,.v (.sl 2 (ah im.row p2))),(101,.v (.i .i64 p3)),(102,.v (.i .i64 s.2))],[[.v (.i .i64 p5.bt),.v (.s p5.iq),.v (.i .i64 p5.iF),.v (.sl 2 (ah iD.row p5.iA)),.v (.sl 1 (ah bY p5.iC)),.v (.sl 2 (ah im.row p5.il))]]⟩
def C5 (p0:iy) (p2:List im) (p3:Int) (p5:iy) (r:Bool):Option (Ex×St):=some (.normal,⟨[(4,.v (.b r))],[[.v (.i .i64 p5.bt),.v (.s p5.iq),.v (.i .i64 p5.iF),.v (.sl 2 (ah iD.row p5.iA)),.v (.sl 1 (ah bY p5.iC)),.v (.sl 2 (ah im.row p5.il))]]⟩)
theorem RR (C:aj) (xP:yf C) (p0:iy) (p2:List im) (p3:Int) (p5:iy) (s:Bool×Int) (o:(Bool×Int)⊕Bool) (hF:wj p0 p2 p3 p5 s=some o):evW TT C.wide u0 vj 1 (A3 p0 p2 p3 p5 s)=Sum.elim (fun s=>evW TT C.wide u0 vj 1 (A3 p0 p2 p3 p5 s)) (fun r=>C5 p0 p2 p3 p5 r) o:=by
 obtain⟨p1,p4⟩:=s
 rw [cG TT u0 Ti]
 revert hF
 unfold wj
 try dsimp only
 refine bF (fun h1=>?_) (fun h1=>?_)
 rotate_left 1
 refine az fun x1 h2=>?_
 have g1:decide (0<=p4)=true:=(cp h2).1
 have g2:(ah im.row p2)[(p4:Int).toNat]? =some [.s x1.iZ,.i .i64 x1.fN]:=cn _ h2
 refine bF (fun h3=>?_) (fun h3=>?_)
 rotate_left 1
 refine aX (fun h4=>?_) (fun _=>nofun)
 refine az fun x2 h5=>?_
 have g3:=bK (xP (dm p0.il 0 p4) x1.iZ _ h5)
 all_goals (rintro⟨⟩;show cN _ _ _ (aH _ _ _ _ (Code.seq _ _) _)=_;simp (maxSteps:=4000000) only [*,A3,C5,Hs,Cn,AW,yO,TM,Dm,B8,↓RP,RB,RC,↓ai,Nat.reduceBEq,bP,List.map,Nat.reduceAdd,Nat.reduceSub,Nat.reduceLeDiff,bne,↓ao,ty3,ty4,ty9,qu,mh,u7,↓aa _ _ _ _ 28,↓am _ _ _ _ 103,↓aa _ _ _ _ 29,↓aq _ _ _ _ 30,↓aa _ _ _ _ 31])
theorem qgk (C:aj) (nz:pr C) (ke:lc C) (Iy:xL C) (Jd:xG C) (Jc:xX C) (sn:qC C) (IR:ye C) (lv:kA C) (li:kt C) (kL:j9 C) (xP:yf C) (p0:iy) (r:Int) (hF:vaC p0=some r):cR TT C.wide (evW TT C.wide u0 vj) u0 Tryz.f109.results.toList (aU Tryz.f109) [.agg [.v (.i .i64 p0.bt),.v (.s p0.iq),.v (.i .i64 p0.iF),.v (.sl 2 (ah iD.row p0.iA)),.v (.sl 1 (ah bY p0.iC)),.v (.sl 2 (ah im.row p0.il))]] []=some (.v (.i .i64 r),[]):=by
 revert hF
 unfold vaC
 refine aX (fun h1=>?_) (fun h1=>?_)
 rotate_left 1
 refine aX (fun h2=>?_) (fun h2=>?_)
 rotate_left 1
 have g1:=Mh C p0 p0.bt (p0.bt==1) _ rfl (jU p0 p0.bt (p0.bt==1)) rfl
 have g2:=LM C nz p0 (jU p0 p0.bt (p0.bt==1)) _ rfl (rI p0 (jU p0 p0.bt (p0.bt==1))) rfl
 refine aX (fun h3=>?_) (fun h3=>?_)
 rotate_left 1
 unfold Bw
 have g3:=MH C nz p0 (jU p0 p0.bt (p0.bt==1)) _ rfl (qg p0 (jU p0 p0.bt (p0.bt==1))) rfl
 refine aX (fun h4=>?_) (fun h4=>?_)
 rotate_left 1
 have g4:=bK (ke p0.iq _ (mw p0.iq))
 refine bF (fun h5=>?_) (fun h5=>?_)
 rotate_left 1
 refine az fun x1 h6=>?_
 have g5:=bK (Iy p0.iC _ h6)
 refine aX (fun h7=>?_) (fun h7=>?_)
 rotate_left 1
 refine az fun x2 h8=>?_
 have g6:=bK (Jd p0.iA _ h8)
 refine aX (fun h9=>?_) (fun h9=>?_)
 rotate_left 1
 refine az fun x3 h10=>?_
 unfold Mq
 have g7:=bK (Jc p0.il _ h10)
 refine aX (fun h11=>?_) (fun h11=>?_)
 rotate_left 1
 have g8:=bK (sn p0.iF _ (wW p0.iF))
 refine bF (fun h12=>?_) (fun h12=>?_)
 rotate_left 1
 refine az fun x4 h13=>?_
 have g9:=bK (IR p0.il _ h13)
 refine aX (fun h14=>?_) (fun h14=>?_)
 rotate_left 1
 refine az fun x5 h15=>?_
 have g10:=MO C lv li kL p0 (jU p0 p0.bt (p0.bt==1)) _ rfl _ h15
 refine az ?_
 rintro x6 h16
 have g11:=cH _ _ (RR C xP p0 p0.il (p0.il.length:Int) (jU p0 p0.bt (p0.bt==1))) h16
 try simp only [A3,C5] at g11
 refine aX (fun h17=>?_) (fun h17=>?_)
 rotate_left 1
 all_goals (rintro⟨⟩;rw [bk];show cC _ _ _ (aH _ _ _ _ (Code.seq _ _) _)=_;simp (maxSteps:=4000000) only [*,X0,Hs,Cn,AW,yO,ZC,Dm,B8,↓RP,RB,RC,↓ai,Nat.reduceBEq,bP,List.map,Nat.reduceAdd,Nat.reduceLeDiff,bne,↓ao,ty3,ty4,ty9,mD,ue,ph,qu,mh,↓aa _ _ _ _ 0,↓aa _ _ _ _ 1,↓am _ _ _ _ 14,↓aa _ _ _ _ 2,↓aa _ _ _ _ 3,↓aa _ _ _ _ 4,↓aa _ _ _ _ 6,↓kZ _ _ _ _ 19,↓bg _ _ _ _ 14,↓am _ _ _ _ 43,↓aa _ _ _ _ 15,↓bg _ _ _ _ 16,↓am _ _ _ _ 56,↓aa _ _ _ _ 17,↓aa _ _ _ _ 18,↓am _ _ _ _ 65,↓aa _ _ _ _ 19,↓aa _ _ _ _ 20,↓am _ _ _ _ 68,↓aa _ _ _ _ 21,↓aa _ _ _ _ 22,↓am _ _ _ _ 71,↓aa _ _ _ _ 23,↓aa _ _ _ _ 24,↓am _ _ _ _ 80,↓aa _ _ _ _ 25,↓bg _ _ _ _ 26,↓aa _ _ _ _ 27,↓aa _ _ _ _ 32,↓am _ _ _ _ 120,↓aa _ _ _ _ 33,↓aa _ _ _ _ 34])
def LQ:List (Nat×List Nat):=[(0,[1]),(1,[1,18]),(2,[2]),(3,[1,20,21,22]),(4,[1,20,21,22,23]),(5,[1,3,4,20,21,22]),(6,[1,4,20,21,22,58]),(7,[2]),(8,[1,20,21,22,73]),(9,[2]),(10,[1,20,21,22]),(11,[2])]
def UB:List (Nat×List Nat×List Nat):=[(18,[],[1]),(23,[1,20,21,22],[]),(58,[],[1,4,20,21,22]),(73,[],[1,20,21,22])]
def n94:cL where
 keep:=ax LQ
 ro:=fun t=>t==1
 mv:=fun _=>false
 give:=fun _=>false
 free:=fun i=>match i with|6=>[(20,22),(21,22),(20,23),(21,23),(20,27),(21,27),(22,27),(23,27),(24,27),(25,27),(26,27),(20,28),(21,28),(22,28),(23,28),(24,28),(25,28),(26,28)]|_=>[]
 alive:=av UB
theorem qgw (t:Nat) (x:Bool) (e:Env) (S:bH):cK n94 t x ⟨e,S⟩=atO (av UB t x) e S:=cF rfl t x e S
theorem RU (i:Nat):n94.keep i=ax LQ i:=rfl
theorem qen (t:Nat):n94.ro t=(t==1):=rfl
theorem JY (t:Nat):n94.mv t=(false):=rfl
theorem qc6 (t:Nat):n94.give t=(false):=rfl
theorem qfM:n94.free 6= [(20,22),(21,22),(20,23),(21,23),(20,27),(21,27),(22,27),(23,27),(24,27),(25,27),(26,27),(20,28),(21,28),(22,28),(23,28),(24,28),(25,28),(26,28)]:=rfl
theorem qgX:Tryz.f94.results.toList= [.tmp 2]:=rfl
noncomputable def b94:Code:=aU Tryz.f94
noncomputable def qeL:Code:=(bE 0 (aU Tryz.f94)).getD .skip
theorem X4:bE 0 b94=some qeL:=rfl
theorem AM (C:aj)  (p0:iN) (c:Code) (ho:cD 0 1 b94=some c) (r:Bool) (hF:lX p0=r): @cV TT C.wide (evW TT C.wide n94 b94) n94 0 1 ⟨[(1,.rp [.i .i64 p0.iL,.sl 8 (ah ip.row p0.bi)])],[]⟩ ⟨c⟩=some (.normal,⟨[(1,.rp [.i .i64 p0.iL,.sl 8 (ah ip.row p0.bi)]),(18,.v (.b r))],[]⟩):=by
 have e:=Option.some.inj (ho.symm.trans (rfl:cD 0 1 b94=some _))
 subst e
 clear ho
 show aH _ _ _ _ _ _=_
 revert hF
 unfold lX
 refine aX (fun h1=>?_) (fun h1=>?_)
 rotate_left 1
 refine aX (fun h2=>?_) (fun h2=>?_)
 rotate_left 1
 all_goals (rintro rfl;simp (maxSteps:=4000000) only [*,RU,LQ,JY,↓RP,RB,RC,Nat.reduceBEq,List.map,ty3,Bp,wv,↓aa _ _ _ _ 1])
theorem zL (C:aj) (Gx:NW C) (p0:iN) (p1:Int) (p2:List ip) (p3:Int) (p4:ip) (c:Code) (ho:cD 0 6 b94=some c) (r:Bool) (hF:ni p0 p1 p2 p3 p4=some r): @cV TT C.wide (evW TT C.wide n94 b94) n94 0 6 ⟨[(1,.rp [.i .i64 p0.iL,.sl 8 (ah ip.row p0.bi)]),(3,.v (.i .i64 p1)),(4,.ptr 0 0),(20,.v (.sl 8 (ah ip.row p2))),(21,.v (.i .i64 p3)),(22,.v (.i .i64 p1))],[[.v (.s p4.iU),.v (.i .i64 p4.iJ.bt),.v (.s p4.iJ.iq),.v (.i .i64 p4.iJ.iF),.v (.sl 2 (ah iD.row p4.iJ.iA)),.v (.sl 1 (ah bY p4.iJ.iC)),.v (.sl 2 (ah im.row p4.iJ.il)),.v (.i .i64 p4.jQ)]]⟩ ⟨c⟩=some (.normal,⟨[(1,.rp [.i .i64 p0.iL,.sl 8 (ah ip.row p0.bi)]),(4,.ptr 0 0),(20,.v (.sl 8 (ah ip.row p2))),(21,.v (.i .i64 p3)),(22,.v (.i .i64 p1)),(58,.v (.b r))],[[.v (.s p4.iU),.v (.i .i64 p4.iJ.bt),.v (.s p4.iJ.iq),.v (.i .i64 p4.iJ.iF),.v (.sl 2 (ah iD.row p4.iJ.iA)),.v (.sl 1 (ah bY p4.iJ.iC)),.v (.sl 2 (ah im.row p4.iJ.il)),.v (.i .i64 p4.jQ)]]⟩):=by
 have e:=Option.some.inj (ho.symm.trans (rfl:cD 0 6 b94=some _))
 subst e
 clear ho
 show aH _ _ _ _ _ _=_
 revert hF
 unfold ni
 refine aX (fun h1=>?_) (fun h1=>?_)
 rotate_left 1
 refine aX (fun h2=>?_) (fun h2=>?_)
 rotate_left 1
 refine az fun x1 h3=>?_
 have g1:=bK (Gx p4.iJ _ h3)
 refine bF (fun h4=>?_) (fun h4=>?_)
 rotate_left 1
 refine bF (fun h5=>?_) (fun h5=>?_)
 rotate_left 1
 refine az fun x2 h6=>?_
 have g2:decide (0<=(IntKind.i64.wrap (p1-1)))=true:=(cp h6).1
 have g3:(ah ip.row p0.bi)[((IntKind.i64.wrap (p1-1)):Int).toNat]? =some [.s x2.iU,.i .i64 x2.iJ.bt,.s x2.iJ.iq,.i .i64 x2.iJ.iF,.sl 2 (ah iD.row x2.iJ.iA),.sl 1 (ah bY x2.iJ.iC),.sl 2 (ah im.row x2.iJ.il),.i .i64 x2.jQ]:=cn _ h6
 all_goals (rintro⟨⟩;simp (maxSteps:=4000000) only [*,RU,LQ,qfM,JY,↓RP,RB,RC,Nat.reduceBEq,List.map,Nat.reduceAdd,Nat.reduceSub,bne,aP,ty3,ty9,mD,Bp,wv,mh,zS,↓aq _ _ _ _ 6])
theorem zG (C:aj)  (p0:iN) (p1:List ip) (p2:Int) (p3:Int) (p4:ip) (c:Code) (ho:cD 0 8 b94=some c) (r:Bool) (hF:l8 p0 p1 p2 p3 p4=r): @cV TT C.wide (evW TT C.wide n94 b94) n94 0 8 ⟨[(1,.rp [.i .i64 p0.iL,.sl 8 (ah ip.row p0.bi)]),(4,.ptr 0 0),(20,.v (.sl 8 (ah ip.row p1))),(21,.v (.i .i64 p2)),(22,.v (.i .i64 p3))],[[.v (.s p4.iU),.v (.i .i64 p4.iJ.bt),.v (.s p4.iJ.iq),.v (.i .i64 p4.iJ.iF),.v (.sl 2 (ah iD.row p4.iJ.iA)),.v (.sl 1 (ah bY p4.iJ.iC)),.v (.sl 2 (ah im.row p4.iJ.il)),.v (.i .i64 p4.jQ)]]⟩ ⟨c⟩=some (.normal,⟨[(1,.rp [.i .i64 p0.iL,.sl 8 (ah ip.row p0.bi)]),(20,.v (.sl 8 (ah ip.row p1))),(21,.v (.i .i64 p2)),(22,.v (.i .i64 p3)),(73,.v (.b r))],[[.v (.s p4.iU),.v (.i .i64 p4.iJ.bt),.v (.s p4.iJ.iq),.v (.i .i64 p4.iJ.iF),.v (.sl 2 (ah iD.row p4.iJ.iA)),.v (.sl 1 (ah bY p4.iJ.iC)),.v (.sl 2 (ah im.row p4.iJ.il)),.v (.i .i64 p4.jQ)]]⟩):=by
 have e:=Option.some.inj (ho.symm.trans (rfl:cD 0 8 b94=some _))
 subst e
 clear ho
 show aH _ _ _ _ _ _=_
 revert hF
 unfold l8
 refine aX (fun h1=>?_) (fun h1=>?_)
 rotate_left 1
 refine aX (fun h2=>?_) (fun h2=>?_)
 rotate_left 1
 all_goals (rintro rfl;simp (maxSteps:=4000000) only [*,RU,LQ,JY,↓RP,RB,RC,Nat.reduceBEq,List.map,bne,ty3,wv,zS,↓aa _ _ _ _ 8])
def pQ (p0:iN) (p1:List ip) (p2:Int) (s:Int):St:=⟨[(1,.rp [.i .i64 p0.iL,.sl 8 (ah ip.row p0.bi)]),(20,.v (.sl 8 (ah ip.row p1))),(21,.v (.i .i64 p2)),(22,.v (.i .i64 s))],[]⟩
def rN (p0:iN) (p1:List ip) (p2:Int) (r:ip⊕Unit):Option (Ex×St):=match r with
 | .inl r=>some (.ret,⟨[(2,.v (.i .i64 13))],[[.v (.s r.iU),.v (.i .i64 r.iJ.bt),.v (.s r.iJ.iq),.v (.i .i64 r.iJ.iF),.v (.sl 2 (ah iD.row r.iJ.iA)),.v (.sl 1 (ah bY r.iJ.iC)),.v (.sl 2 (ah im.row r.iJ.il)),.v (.i .i64 r.jQ)]]⟩)
 | .inr r=>some (.normal,⟨[],[]⟩)
theorem xw (C:aj) (Gx:NW C) (p0:iN) (p1:List ip) (p2:Int) (p3:Int) (o:Int⊕(ip⊕Unit)) (hF:nv p0 p1 p2 p3=some o):evW TT C.wide n94 b94 0 (pQ p0 p1 p2 p3)=Sum.elim (fun s=>evW TT C.wide n94 b94 0 (pQ p0 p1 p2 s)) (fun r=>rN p0 p1 p2 r) o:=by
 rw [cG TT n94 X4]
 revert hF
 unfold nv
 try dsimp only
 refine bF (fun h1=>?_) (fun h1=>?_)
 rotate_left 1
 refine az fun x1 h2=>?_
 have g1:decide (0<=p3)=true:=(cp h2).1
 have g2:(ah ip.row p1)[(p3:Int).toNat]? =some [.s x1.iU,.i .i64 x1.iJ.bt,.s x1.iJ.iq,.i .i64 x1.iJ.iF,.sl 2 (ah iD.row x1.iJ.iA),.sl 1 (ah bY x1.iJ.iC),.sl 2 (ah im.row x1.iJ.il),.i .i64 x1.jQ]:=cn _ h2
 refine az fun x2 h3=>?_
 have g3:=zL C Gx p0 p3 p1 p2 x1 _ rfl _ h3
 refine aX (fun h4=>?_) (fun h4=>?_)
 rotate_left 1
 have g4:=zG C p0 p1 p2 p3 x1 _ rfl (l8 p0 p1 p2 p3 x1) rfl
 refine aX (fun h5=>?_) (fun h5=>?_)
 rotate_left 1
 all_goals (rintro⟨⟩;show cN _ _ _ (aH _ _ _ _ (Code.seq _ _) _)=_;simp (maxSteps:=4000000) only [*,pQ,rN,qgw,UB,RU,LQ,JY,qc6,↓RP,RB,RC,↓ai,Nat.reduceBEq,bP,List.map,Nat.reduceAdd,Nat.reduceLeDiff,bne,↓ao,↓am,ty3,mD,Bp,zS,↓aa _ _ _ _ 4,↓aa _ _ _ _ 5,↓bg _ _ _ _ 6,↓aa _ _ _ _ 7,↓bg _ _ _ _ 8,↓aa _ _ _ _ 9,↓aa _ _ _ _ 10])
theorem FA (C:aj) (Gx:NW C) (p0:iN) (r:Int) (hF:rn p0=some r):cR TT C.wide (evW TT C.wide n94 b94) n94 Tryz.f94.results.toList (aU Tryz.f94) [.agg [.v (.i .i64 p0.iL),.v (.sl 8 (ah ip.row p0.bi))]] []=some (.v (.i .i64 r),[]):=by
 revert hF
 unfold rn
 have g1:=AM C p0 _ rfl (lX p0) rfl
 refine aX (fun h1=>?_) (fun h1=>?_)
 rotate_left 1
 refine az ?_
 rintro (x1|_) h2
 focus
  dsimp only
  have g2:=cH _ _ (xw C Gx p0 p0.bi (p0.bi.length:Int)) h2
  try simp only [pQ,rN] at g2
 rotate_left 1
 dsimp only
 have g3:=cH _ _ (xw C Gx p0 p0.bi (p0.bi.length:Int)) h2
 try simp only [pQ,rN] at g3
 all_goals (rintro⟨⟩;rw [bk];show cC _ _ _ (aH _ _ _ _ (Code.seq _ _) _)=_;simp (maxSteps:=4000000) only [*,qgX,qgw,UB,RU,LQ,qen,JY,↓RP,RB,RC,Nat.reduceBEq,bP,List.map,↓ao,↓am,mD,Bp,wv,↓aa _ _ _ _ 0,↓bg _ _ _ _ 1,↓aa _ _ _ _ 2,↓aa _ _ _ _ 3,↓aa _ _ _ _ 11])
def Qh:List (Nat×List Nat):=[(0,[0]),(1,[2])]
def UE:cL where
 keep:=ax Qh
 ro:=fun _=>false
 mv:=fun _=>false
 give:=fun _=>false
 free:=fun _=>[]
theorem qea (i:Nat):UE.keep i=ax Qh i:=rfl
theorem qaR:Tryz.f111.results.toList= [.tmp 2]:=rfl
noncomputable def qiK:Code:=aU Tryz.f111
theorem DU (C:aj)  (p0:ByteArray) (r:Bool) (hF:rV p0=some r):cR TT C.wide (evW TT C.wide UE qiK) UE Tryz.f111.results.toList (aU Tryz.f111) [.v (.s p0)] []=some (.v (.b r),[]):=by
 revert hF
 unfold rV
 all_goals (rintro⟨⟩;rw [bk];show cC _ _ _ (aH _ _ _ _ (Code.seq _ _) _)=_;simp (maxSteps:=4000000) only [*,qaR,qea,Qh,↓RP,RB,RC,Nat.reduceBEq,List.map,↓ao,↓aa,ty3,ty4,ty9])
def mH (p0:List ByteArray) (p1:Int) (s:Int):St:=⟨[(0,.v (.sl 1 (ah bY p0))),(1,.clo 111 []),(7,.v (.i .i64 p1)),(8,.v (.i .i64 s))],[]⟩
def ov (p0:List ByteArray) (p1:Int) (r:Int⊕Unit):Option (Ex×St):=match r with
 | .inl r=>some (.ret,⟨[(4,.v (.i .i64 r))],[]⟩)
 | .inr r=>some (.normal,⟨[],[]⟩)
theorem uX (C:aj) (tO:vU C) (p0:List ByteArray) (p1:Int) (p2:Int) (o:Int⊕(Int⊕Unit)) (hF:ll p0 p1 p2=some o):evW TT C.wide zH M2 0 (mH p0 p1 p2)=Sum.elim (fun s=>evW TT C.wide zH M2 0 (mH p0 p1 s)) (fun r=>ov p0 p1 r) o:=by
 rw [cG TT zH Nk]
 revert hF
 unfold ll
 try dsimp only
 refine bF (fun h1=>?_) (fun h1=>?_)
 rotate_left 1
 refine az fun x1 h2=>?_
 have g1:decide (0<=p2)=true:=(cp h2).1
 have g2:(ah bY p0)[(p2:Int).toNat]? =some [.s x1]:=cn _ h2
 have g3:=bK (tO x1 _ (Ee x1))
 refine aX (fun h3=>?_) (fun h3=>?_)
 rotate_left 1
 all_goals (rintro⟨⟩;show cN _ _ _ (aH _ _ _ _ (Code.seq _ _) _)=_;simp (maxSteps:=4000000) only [*,mH,ov,V1,Na,Nx,Gm,Qg,P7,↓RP,RB,RC,↓ai,Nat.reduceBEq,List.map,↓ao,↓am,↓aa,ty3,ty9,ph])
theorem At (C:aj) (tO:vU C) (p0:List ByteArray) (r:Int) (hF:ol p0=some r):cR TT C.wide (evW TT C.wide zH M2) zH Tryz.f137.results.toList (aU Tryz.f137) [.v (.sl 1 (ah bY p0)),.clo 111 []] []=some (.v (.i .i64 r),[]):=by
 revert hF
 unfold ol
 refine az ?_
 rintro (x1|_) h1
 focus
  dsimp only
  have g1:=cH _ _ (uX C tO p0 (p0.length:Int)) h1
  try simp only [mH,ov] at g1
 rotate_left 1
 dsimp only
 have g2:=cH _ _ (uX C tO p0 (p0.length:Int)) h1
 try simp only [mH,ov] at g2
 all_goals (rintro⟨⟩;rw [bk];show cC _ _ _ (aH _ _ _ _ (Code.seq _ _) _)=_;simp (maxSteps:=4000000) only [*,Rw,Nx,Gm,↓RP,RB,RC,Nat.reduceBEq,List.map,Nat.reduceAdd,Int.reduceNeg,↓ao,↓aa,ty3,ph])
theorem AD (C:aj) (AA:wF C) (p0:List ByteArray) (r:Bool) (hF:m9 p0=some r):cR TT C.wide (evW TT C.wide Mr qgW) Mr Tryz.f110.results.toList (aU Tryz.f110) [.v (.sl 1 (ah bY p0)),.clo 111 []] []=some (.v (.b r),[]):=by
 revert hF
 unfold m9
 refine az fun x1 h1=>?_
 have g1:=bK (AA p0 _ h1)
 all_goals (rintro⟨⟩;rw [bk];show cC _ _ _ (aH _ _ _ _ (Code.seq _ _) _)=_;simp (maxSteps:=4000000) only [*,Rh,V2,NK,↓RP,RB,RC,Nat.reduceBEq,List.map,Nat.reduceAdd,↓ao,↓aa,ty3,ty4])
def Yz:List (Nat×List Nat):=[(0,[1]),(1,[1,10]),(2,[2]),(3,[1,20]),(4,[2]),(5,[1,23]),(6,[2]),(7,[31]),(8,[2]),(9,[2])]
def qbP:List (Nat×List Nat×List Nat):=[(10,[],[1]),(20,[],[1]),(23,[],[1]),(31,[],[])]
def n95:cL where
 keep:=ax Yz
 ro:=fun t=>t==1
 mv:=fun _=>false
 give:=fun _=>false
 free:=fun _=>[]
 alive:=av qbP
theorem qhr (t:Nat) (x:Bool) (e:Env) (S:bH):cK n95 t x ⟨e,S⟩=atO (av qbP t x) e S:=cF rfl t x e S
theorem qh5 (i:Nat):n95.keep i=ax Yz i:=rfl
theorem qdQ (t:Nat):n95.ro t=(t==1):=rfl
theorem qdP (t:Nat):n95.mv t=(false):=rfl
theorem qcM:Tryz.f95.results.toList= [.tmp 2]:=rfl
noncomputable def b95:Code:=aU Tryz.f95
theorem Ma (C:aj) (A2:wy C) (p0:jf) (r:Int) (hF:wo p0=some r):cR TT C.wide (evW TT C.wide n95 b95) n95 Tryz.f95.results.toList (aU Tryz.f95) [.agg [.v (.i .i64 p0.jW),.v (.s p0.iq),.v (.i .i64 p0.fN),.v (.sl 1 (ah bY p0.jH))]] []=some (.v (.i .i64 r),[]):=by
 revert hF
 unfold wo
 refine aX (fun h1=>?_) (fun h1=>?_)
 rotate_left 1
 unfold yS
 refine aX (fun h2=>?_) (fun h2=>?_)
 rotate_left 1
 refine aX (fun h3=>?_) (fun h3=>?_)
 rotate_left 1
 refine aX (fun h4=>?_) (fun h4=>?_)
 rotate_left 1
 refine az fun x1 h5=>?_
 have g1:=bK (A2 p0.jH _ h5)
 refine aX (fun h6=>?_) (fun h6=>?_)
 rotate_left 1
 refine aX (fun h7=>?_) (fun h7=>?_)
 rotate_left 1
 refine aX (fun h8=>?_) (fun h8=>?_)
 rotate_left 1
 all_goals (rintro⟨⟩;rw [bk];show cC _ _ _ (aH _ _ _ _ (Code.seq _ _) _)=_;simp (maxSteps:=4000000) only [*,qcM,qhr,qbP,qh5,Yz,qdQ,qdP,↓RP,RB,RC,Nat.reduceBEq,bP,List.map,Int.reduceNeg,↓ao,↓am,↓aa,ty3,ty9,mD,ph,zR])
end Go.Proofs.YtgcglmoogaldbaaGreat
