/- The code of these functions, run by the machine Mx, gives what the plain functions say, if their callees do (part 1). -/
import Derived.Test.YtgcglmoogaldbaaGreatWTy
import Derived.Test.YtgcglmoogaldbaaGreatTapeRecoversD
set_option linter.unusedSimpArgs false
set_option linter.unusedVariables false
set_option linter.constructorNameAsVariable false
set_option linter.unnecessarySimpa false
set_option maxRecDepth 100000
set_option maxHeartbeats 40000000
namespace Go.Proofs.YtgcglmoogaldbaaGreat
open Go Go.Mx Go.Proofs
def qau:List (Nat×List Nat):=[(0,[0]),(1,[2,4])]
def n14:cL where
 keep:=ax qau
 ro:=fun _=>false
 mv:=fun _=>false
 give:=fun _=>false
 free:=fun _=>[]
theorem qhZ (i:Nat):n14.keep i=ax qau i:=rfl
theorem qgo:Tryz.f14.results.toList= [.tmp 2]:=rfl
noncomputable def b14:Code:=aU Tryz.f14
theorem I6 (C:aj)  (p0:List Int) (r:(List Int)) (hF:uD p0=some r): ∃d S,cR TT C.wide (evW TT C.wide n14 b14) n14 Tryz.f14.results.toList (aU Tryz.f14) [.v (.sl 1 (ah cE p0))] []=some (d,S)/\bD d=true/\(frz d,S)=(.v (.sl 1 (ah cE r)),[]):=by
 revert hF
 unfold uD
 refine aX (fun h1=>?_) (fun _=>nofun)
 intro hF
 have hR:=Option.some.inj hF
 clear hF
 subst hR
 refine⟨.own 1 (ah cE p0),[],?_,rfl,by first|rfl|(simp only [*];done)|(simp only [*];rfl)⟩
 all_goals (rw [bk];show cC _ _ _ (aH _ _ _ _ (Code.seq _ _) _)=_;simp (maxSteps:=4000000) only [*,qgo,qhZ,qau,↓RP,RB,RC,Nat.reduceBEq,List.map,bne,↓ao,↓aa,ty5,qM])
def n5K:List (Nat×List Nat):=[(0,[1,2]),(1,[2])]
def n5:cL where
 keep:=ax n5K
 ro:=fun t=>t==1
 mv:=fun _=>false
 give:=fun _=>false
 free:=fun i=>match i with|1=>[(0,3),(1,3),(2,3),(0,4),(1,4),(2,4)]|_=>[]
theorem n5k (i:Nat):n5.keep i=ax n5K i:=rfl
theorem qif (t:Nat):n5.ro t=(t==1):=rfl
theorem qhT (t:Nat):n5.mv t=(false):=rfl
theorem qhM (t:Nat):n5.give t=(false):=rfl
theorem qir:n5.free 1= [(0,3),(1,3),(2,3),(0,4),(1,4),(2,4)]:=rfl
theorem qiB:Tryz.f5.results.toList= [.cell 2 24]:=rfl
noncomputable def b5:Code:=aU Tryz.f5
theorem Kg (C:aj) (Ji:Ay C) (p0:iY) (r:iY) (hF:vK p0=some r): ∃d S,cR TT C.wide (evW TT C.wide n5 b5) n5 Tryz.f5.results.toList (aU Tryz.f5) [.agg [.v (.sl 1 (ah cE p0.iW)),.v (.i .i64 p0.iP)]] []=some (d,S)/\bD d=true/\(frz d,S)=(.agg [.v (.sl 1 (ah cE r.iW)),.v (.i .i64 r.iP)],[]):=by
 revert hF
 unfold vK
 refine az fun x1 h1=>?_
 have g1:=bK (Ji p0.iW _ h1)
 intro hF
 have hR:=Option.some.inj hF
 clear hF
 subst hR
 refine⟨.agg [.v (.sl 1 (ah cE x1)),.v (.i .i64 p0.iP)],[],?_,rfl,by first|rfl|(simp only [*];done)|(simp only [*];rfl)⟩
 all_goals (rw [bk];show cC _ _ _ (aH _ _ _ _ (Code.seq _ _) _)=_;simp (maxSteps:=4000000) only [*,qiB,n5k,n5K,qir,qif,qhT,qhM,↓RP,RB,RC,Nat.reduceBEq,bP,List.map,Nat.reduceAdd,Nat.reduceLeDiff,bne,↓ao,↓aa,↓aq,ty3,qM,Dh])
def Od:List (Nat×List Nat):=[(0,[0]),(1,[0,4]),(2,[2,7]),(3,[2,7])]
def qiL:List (Nat×List Nat×List Nat):=[(4,[],[0])]
def n40:cL where
 keep:=ax Od
 ro:=fun _=>false
 mv:=fun _=>false
 give:=fun _=>false
 free:=fun _=>[]
 alive:=av qiL
theorem SR (i:Nat):n40.keep i=ax Od i:=rfl
set_option maxRecDepth 100000 in
theorem Dl (C:aj) (l:List (List V)) (h:dh l.length 1=true):dH TT C n40 (aU Tryz.f40) ⟨enter 0 [.v (.sl 1 l)],[]⟩ (It TT 0 Tryz.f40.results.toList (.own 1 l) []):=by
 cases l with
 |nil=>
  simp only [List.length_nil] at h
  simp only [h,Tryz.f40,SR,Od,aU,Option.getD_some,↓cond_true,↓cond_false,enter,List.toList_toArray,cond_false,aQ,be,cond_true,bf,aJ,Mx.bl,opnd,Mx.bI,Nat.reduceBEq,bQ,Mx.fit,co,List.isEmpty_nil,Bool.false_or,Bool.or_false,Bool.true_or,Bool.or_true,Bool.and_true,Bool.true_and,Bool.not_true,Bool.not_false,Bool.and_self,gS,zt,aN,aA,Mx.put,ofConst,ofCell,Mx.prune,List.map_cons,iR,aK,putDst,hJ,aw,ar,List.length_cons,List.length_nil,List.map,List.take_zero,Nat.reduceMul,Nat.zero_add,Nat.add_zero,cz,aO,eq_self,reduceCtorEq,aC,bu,bx,cA,bS,bJ,aM,lowC,List.take_zero,List.length_nil,kill,spendLoc,spendOk,bO,frz,cq,bG,takeParts,bv,aR,List.append_nil,Nat.reduceBNe,Nat.reduceLeDiff,decide_true,beq_self_eq_true,bq,gG,ie,ax,ty5,qM,dH,xV,xU,It,List.mem_cons,List.not_mem_nil,forall_eq_or_imp,forall_eq,exists_eq_left',Option.some.injEq,or_true,or_false,and_true,true_and]
 |cons x l=>
  simp only [List.length_cons] at h
  simp only [h,Tryz.f40,SR,Od,aU,Option.getD_some,↓cond_true,↓cond_false,enter,List.toList_toArray,Bool.false_and,cond_false,aQ,be,cond_true,bf,aJ,Mx.bl,opnd,Mx.bI,Nat.reduceBEq,bQ,Mx.fit,co,List.isEmpty_cons,List.isEmpty_nil,Bool.false_or,Bool.or_false,Bool.or_true,Bool.and_true,Bool.not_true,Bool.not_false,Bool.and_self,gS,zt,aN,aA,Mx.put,ofConst,ofCell,Mx.prune,List.map_cons,iR,aK,putDst,hJ,aw,ar,List.length_cons,List.length_nil,List.map,List.take_zero,Nat.reduceMul,Nat.zero_add,cz,aO,eq_self,reduceCtorEq,aC,bu,bx,cA,bS,bJ,aM,lowC,List.take_zero,List.length_nil,kill,spendLoc,spendOk,bO,frz,cq,bG,takeParts,bv,aR,List.nil_append,Nat.reduceBNe,Nat.reduceLeDiff,decide_true,beq_self_eq_true,bq,gG,ie,ax,ty5,qM,dH,xV,xU,It,List.mem_cons,List.not_mem_nil,forall_eq,exists_eq_left',Option.some.injEq,or_true,or_false,true_and]
theorem Fm (C:aj) (l r:List Int) (h:tz l=some r):dH TT C n40 (aU Tryz.f40) ⟨enter 0 [.v (.sl 1 (ah cE l))],[]⟩ (It TT 0 Tryz.f40.results.toList (.own 1 (ah cE r)) []):=by
 unfold tz at h
 cases hq:dh l.length 1 with
 |false=>rw [hq] at h;cases h
 |true=>
  rw [hq,cond_true] at h
  obtain rfl:=Option.some.inj h
  exact Dl C _ (by rw [AF];exact hq)
def Tj:List (Nat×List Nat):=[(0,[1,2]),(1,[1,2,20]),(2,[2,3]),(3,[2,3])]
def Ym:List (Nat×List Nat×List Nat):=[(20,[2],[1,2])]
def n15:cL where
 keep:=ax Tj
 ro:=fun t=>t==1
 mv:=fun _=>false
 give:=fun _=>false
 free:=fun i=>match i with|3=>[(0,3),(1,3),(2,3),(0,4),(1,4),(2,4)]|_=>[]
 alive:=av Ym
theorem qiM (t:Nat) (x:Bool) (e:Env) (S:bH):cK n15 t x ⟨e,S⟩=atO (av Ym t x) e S:=cF rfl t x e S
theorem qe7 (i:Nat):n15.keep i=ax Tj i:=rfl
theorem qfb (t:Nat):n15.ro t=(t==1):=rfl
theorem U9 (t:Nat):n15.mv t=(false):=rfl
theorem qcZ (t:Nat):n15.give t=(false):=rfl
theorem qfr:n15.free 3= [(0,3),(1,3),(2,3),(0,4),(1,4),(2,4)]:=rfl
theorem qfY:Tryz.f15.results.toList= [.cell 2 24,.tmp 3]:=rfl
noncomputable def b15:Code:=aU Tryz.f15
theorem CO (C:aj)  (p0:iY) (c:Code) (ho:cD 0 1 b15=some c) (r:Bool) (hF:mT p0=r): @cV TT C.wide (evW TT C.wide n15 b15) n15 0 1 ⟨[(1,.rp [.sl 1 (ah cE p0.iW),.i .i64 p0.iP]),(2,.ptr 0 0)],[[.own 1 [],.v (.i .i64 0)]]⟩ ⟨c⟩=some (.normal,⟨[(1,.rp [.sl 1 (ah cE p0.iW),.i .i64 p0.iP]),(2,.ptr 0 0),(20,.v (.b r))],[[.own 1 [],.v (.i .i64 0)]]⟩):=by
 have e:=Option.some.inj (ho.symm.trans (rfl:cD 0 1 b15=some _))
 subst e
 clear ho
 show aH _ _ _ _ _ _=_
 revert hF
 unfold mT
 refine aX (fun h1=>?_) (fun h1=>?_)
 rotate_left 1
 refine aX (fun h2=>?_) (fun h2=>?_)
 rotate_left 1
 all_goals (rintro rfl;simp (maxSteps:=4000000) only [*,qe7,Tj,U9,↓RP,RB,RC,Nat.reduceBEq,List.map,ty3,qM,Dh,↓aa _ _ _ _ 1])
theorem J5 (C:aj) (EW:zU C) (p0:iY) (r:iY×Bool) (hF:vM p0=some r):cR TT C.wide (evW TT C.wide n15 b15) n15 Tryz.f15.results.toList (aU Tryz.f15) [.agg [.v (.sl 1 (ah cE p0.iW)),.v (.i .i64 p0.iP)]] []=some (.tup [.agg [.v (.sl 1 (ah cE r.1.iW)),.v (.i .i64 r.1.iP)],.v (.b r.2)],[]):=by
 revert hF
 unfold vM
 have g1:=CO C p0 _ rfl (mT p0) rfl
 refine aX (fun h1=>?_) (fun h1=>?_)
 rotate_left 1
 refine az fun x1 h2=>?_
 have g2:=bK (EW p0.iW _ h2)
 all_goals (rintro⟨⟩;rw [bk];show cC _ _ _ (aH _ _ _ _ (Code.seq _ _) _)=_;simp (maxSteps:=4000000) only [*,qfY,qiM,Ym,qe7,Tj,qfr,qfb,U9,qcZ,↓RP,RB,RC,Nat.reduceBEq,bP,List.map,Nat.reduceAdd,Nat.reduceLeDiff,bne,↓ao,↓am,ty3,ty4,qM,Dh,↓aa _ _ _ _ 0,↓bg _ _ _ _ 1,↓aa _ _ _ _ 2,↓aq _ _ _ _ 3])
def Xo:List (Nat×List Nat):=[(0,[0]),(1,[2])]
def n16:cL where
 keep:=ax Xo
 ro:=fun _=>false
 mv:=fun _=>false
 give:=fun _=>false
 free:=fun i=>match i with|1=>[(0,5),(1,5),(2,5),(3,5),(4,5),(0,6),(1,6),(2,6),(3,6),(4,6),(0,7),(1,7),(2,7),(3,7),(4,7),(0,8),(1,8),(2,8),(3,8),(4,8),(0,9),(1,9),(2,9),(3,9),(4,9),(0,11),(1,11),(2,11),(3,11),(4,11),(5,11),(6,11),(7,11),(8,11),(9,11),(10,11),(0,12),(1,12),(2,12),(3,12),(4,12),(5,12),(6,12),(7,12),(8,12),(9,12),(10,12),(0,13),(1,13),(2,13),(3,13),(4,13),(5,13),(6,13),(7,13),(8,13),(9,13),(10,13),(0,14),(1,14),(2,14),(3,14),(4,14),(5,14),(6,14),(7,14),(8,14),(9,14),(10,14)]|_=>[]
theorem qhj (i:Nat):n16.keep i=ax Xo i:=rfl
theorem qdX (t:Nat):n16.mv t=(false):=rfl
theorem qfx:n16.free 1= [(0,5),(1,5),(2,5),(3,5),(4,5),(0,6),(1,6),(2,6),(3,6),(4,6),(0,7),(1,7),(2,7),(3,7),(4,7),(0,8),(1,8),(2,8),(3,8),(4,8),(0,9),(1,9),(2,9),(3,9),(4,9),(0,11),(1,11),(2,11),(3,11),(4,11),(5,11),(6,11),(7,11),(8,11),(9,11),(10,11),(0,12),(1,12),(2,12),(3,12),(4,12),(5,12),(6,12),(7,12),(8,12),(9,12),(10,12),(0,13),(1,13),(2,13),(3,13),(4,13),(5,13),(6,13),(7,13),(8,13),(9,13),(10,13),(0,14),(1,14),(2,14),(3,14),(4,14),(5,14),(6,14),(7,14),(8,14),(9,14),(10,14)]:=rfl
theorem qc7:Tryz.f16.results.toList= [.tmp 2]:=rfl
noncomputable def b16:Code:=aU Tryz.f16
theorem Iu (C:aj)  (p0:List Int) (r:Int) (hF:kx p0=some r):cR TT C.wide (evW TT C.wide n16 b16) n16 Tryz.f16.results.toList (aU Tryz.f16) [.v (.sl 1 (ah cE p0))] []=some (.v (.i .i64 r),[]):=by
 revert hF
 unfold kx
 refine az fun x1 h1=>?_
 have g1:decide (0<=0)=true:=(cp h1).1
 have g2:(ah cE p0)[(0:Int).toNat]? =some [.i .u8 x1]:=cn _ h1
 refine az fun x2 h2=>?_
 have g3:decide (0<=1)=true:=(cp h2).1
 have g4:(ah cE p0)[(1:Int).toNat]? =some [.i .u8 x2]:=cn _ h2
 refine az fun x3 h3=>?_
 have g5:decide (0<=2)=true:=(cp h3).1
 have g6:(ah cE p0)[(2:Int).toNat]? =some [.i .u8 x3]:=cn _ h3
 all_goals (rintro⟨⟩;rw [bk];show cC _ _ _ (aH _ _ _ _ (Code.seq _ _) _)=_;simp (maxSteps:=4000000) only [*,qc7,qhj,Xo,qfx,qdX,↓RP,RB,RC,Nat.reduceBEq,List.map,Int.reduceLE,↓ao,↓aa,↓aq,ty3,ty5,qM])
def W5:List (Nat×List Nat):=[(0,[0,1]),(1,[0,1,18]),(2,[]),(3,[4,5,25,27,37]),(4,[0,1,5,25,27]),(5,[5,25,27]),(6,[4,5,25,27,37])]
def Zm:List (Nat×List Nat×List Nat):=[(18,[0],[0,1])]
def n96:cL where
 keep:=ax W5
 ro:=fun _=>false
 mv:=fun _=>false
 give:=fun _=>false
 free:=fun _=>[]
 alive:=av Zm
theorem qia (t:Nat) (x:Bool) (e:Env) (S:bH):cK n96 t x ⟨e,S⟩=atO (av Zm t x) e S:=cF rfl t x e S
theorem qhG (i:Nat):n96.keep i=ax W5 i:=rfl
theorem qfD (t:Nat):n96.mv t=(false):=rfl
theorem qd7 (t:Nat):n96.give t=(false):=rfl
theorem qef:Tryz.f96.results.toList= [.tmp 4]:=rfl
noncomputable def b96:Code:=aU Tryz.f96
theorem Re (C:aj)  (p0:Int) (p1:ir) (r:(List Int)×ir) (hF:qW p0 p1=some r): ∃d S,cR TT C.wide (evW TT C.wide n96 b96) n96 Tryz.f96.results.toList (aU Tryz.f96) [.ptr 0 0,.v (.i .i64 p0)] [[.v (.sl 1 (ah cE p1.frest)),.v (.b p1.fshort)]]=some (d,S)/\bD d=true/\(frz d,S)=(.v (.sl 1 (ah cE r.1)),[[.v (.sl 1 (ah cE r.2.frest)),.v (.b r.2.fshort)]]):=by
 revert hF
 unfold qW
 refine aX (fun h1=>?_) (fun h1=>?_)
 focus
  intro hF
  have hR:=Option.some.inj hF
  clear hF
  subst hR
  refine⟨.own 1 [],[[.v (.sl 1 (ah cE p1.frest)),.v (.b true)]],?_,rfl,by first|rfl|(simp only [*];done)|(simp only [*];rfl)⟩
 rotate_left 1
 refine aX (fun h2=>?_) (fun h2=>?_)
 focus
  intro hF
  have hR:=Option.some.inj hF
  clear hF
  subst hR
  refine⟨.own 1 [],[[.v (.sl 1 (ah cE p1.frest)),.v (.b true)]],?_,rfl,by first|rfl|(simp only [*];done)|(simp only [*];rfl)⟩
 rotate_left 1
 refine aX (fun h3=>?_) (fun _=>nofun)
 refine aX (fun h4=>?_) (fun _=>nofun)
 intro hF
 have hR:=Option.some.inj hF
 clear hF
 subst hR
 refine⟨.v (.sl 1 (ah cE (dm p1.frest 0 p0))),[[.v (.sl 1 (ah cE (dm p1.frest p0 (p1.frest.length:Int)))),.v (.b false)]],?_,rfl,by first|rfl|(simp only [*];done)|(simp only [*];rfl)⟩
 all_goals (rw [bk];show cC _ _ _ (aH _ _ _ _ (Code.seq _ _) _)=_;simp (maxSteps:=4000000) only [*,qef,qia,Zm,qhG,W5,qfD,qd7,↓RP,RB,RC,Nat.reduceBEq,List.map,Nat.reduceAdd,Nat.reduceLeDiff,↓ao,↓am,↓aa,ty3,ty4,ty5,qM,AU])
def U5:List (Nat×List Nat):=[(0,[0]),(1,[0,3]),(2,[3,7,8,9]),(3,[3,7,8,9,10]),(4,[3,5,7,8,9]),(5,[3,7,8,9]),(6,[3,7,8,9]),(7,[2])]
def qb8:List (Nat×List Nat×List Nat):=[(10,[3,7,8,9],[3])]
def n61:cL where
 keep:=ax U5
 ro:=fun _=>false
 mv:=fun _=>false
 give:=fun _=>false
 free:=fun _=>[]
 alive:=av qb8
theorem qhY (t:Nat) (x:Bool) (e:Env) (S:bH):cK n61 t x ⟨e,S⟩=atO (av qb8 t x) e S:=cF rfl t x e S
theorem qgY (i:Nat):n61.keep i=ax U5 i:=rfl
theorem qgZ (t:Nat):n61.mv t=(false):=rfl
theorem qfn (t:Nat):n61.give t=(false):=rfl
theorem qeZ:Tryz.f61.results.toList= [.tmp 2]:=rfl
noncomputable def b61:Code:=aU Tryz.f61
noncomputable def qeU:Code:=(bE 0 (aU Tryz.f61)).getD .skip
theorem Wj:bE 0 b61=some qeU:=rfl
def uH (p1:List Int) (p2:Int) (p4:ir) (s:Int×Int):St:=⟨[(3,.v (.i .u64 s.1)),(7,.v (.sl 1 (ah cE p1))),(8,.v (.i .i64 p2)),(9,.v (.i .i64 s.2))],[[.v (.sl 1 (ah cE p4.frest)),.v (.b p4.fshort)]]⟩
def wP (p1:List Int) (p2:Int) (p4:ir) (r:Int):Option (Ex×St):=some (.normal,⟨[(3,.v (.i .u64 r))],[[.v (.sl 1 (ah cE p4.frest)),.v (.b p4.fshort)]]⟩)
theorem E6 (C:aj)  (p1:List Int) (p2:Int) (p4:ir) (s:Int×Int) (o:(Int×Int)⊕Int) (hF:qy p1 p2 p4 s=some o):evW TT C.wide n61 b61 0 (uH p1 p2 p4 s)=Sum.elim (fun s=>evW TT C.wide n61 b61 0 (uH p1 p2 p4 s)) (fun r=>wP p1 p2 p4 r) o:=by
 obtain⟨p0,p3⟩:=s
 rw [cG TT n61 Wj]
 revert hF
 unfold qy
 try dsimp only
 refine bF (fun h1=>?_) (fun h1=>?_)
 rotate_left 1
 refine az fun x1 h2=>?_
 have g1:decide (0<=p3)=true:=(cp h2).1
 have g2:(ah cE p1)[(p3:Int).toNat]? =some [.i .u8 x1]:=cn _ h2
 all_goals (rintro⟨⟩;show cN _ _ _ (aH _ _ _ _ (Code.seq _ _) _)=_;simp (maxSteps:=4000000) only [*,uH,wP,qhY,qb8,qgY,U5,qgZ,↓RP,RB,RC,↓ai,Nat.reduceBEq,List.map,Int.reduceLE,↓ao,↓am,↓aa,ty3,ty5,qM,Vf])
theorem My (C:aj) (y7:xB C) (p0:ir) (r:Int×ir) (hF:kz p0=some r):cR TT C.wide (evW TT C.wide n61 b61) n61 Tryz.f61.results.toList (aU Tryz.f61) [.ptr 0 0] [[.v (.sl 1 (ah cE p0.frest)),.v (.b p0.fshort)]]=some (.v (.i .i64 r.1),[[.v (.sl 1 (ah cE r.2.frest)),.v (.b r.2.fshort)]]):=by
 revert hF
 unfold kz
 refine az ?_
 rintro⟨x1,x2⟩ h1
 dsimp only
 have g1:C.wide 96 [.ptr 0 0,.v (.i .i64 8)] [[.v (.sl 1 (ah cE p0.frest)),.v (.b p0.fshort)]]=some (.v (.sl 1 (ah cE x1)),[[.v (.sl 1 (ah cE x2.frest)),.v (.b x2.fshort)]]):=cX [0] rfl rfl rfl rfl (y7 8 p0 _ h1) rfl rfl
 refine az ?_
 rintro x3 h2
 have g2:=cH _ _ (E6 C x1 (x1.length:Int) x2) h2
 try simp only [uH,wP] at g2
 all_goals (rintro⟨⟩;rw [bk];show cC _ _ _ (aH _ _ _ _ (Code.seq _ _) _)=_;simp (maxSteps:=4000000) only [*,qeZ,qgY,U5,qfn,↓RP,RB,RC,Nat.reduceBEq,List.map,↓ao,↓aa,ty3,qM,Vf])
def UZ:List (Nat×List Nat):=[(0,[0]),(1,[6,7,8]),(2,[6,8,9]),(3,[4]),(4,[2]),(5,[6,7,8]),(6,[2])]
def qbp:List (Nat×List Nat×List Nat):=[(9,[6,8],[])]
def n67:cL where
 keep:=ax UZ
 ro:=fun _=>false
 mv:=fun _=>false
 give:=fun _=>false
 free:=fun _=>[]
 alive:=av qbp
theorem qib (t:Nat) (x:Bool) (e:Env) (S:bH):cK n67 t x ⟨e,S⟩=atO (av qbp t x) e S:=cF rfl t x e S
theorem qem (i:Nat):n67.keep i=ax UZ i:=rfl
theorem qct (t:Nat):n67.mv t=(false):=rfl
theorem qej (t:Nat):n67.give t=(false):=rfl
theorem qf7:Tryz.f67.results.toList= [.tmp 2]:=rfl
noncomputable def b67:Code:=aU Tryz.f67
noncomputable def qe6:Code:=(bE 0 (aU Tryz.f67)).getD .skip
theorem Wo:bE 0 b67=some qe6:=rfl
def tB (p0:List Int) (p1:Int) (p2:ir) (s:Unit):St:=⟨[(6,.v (.sl 1 (ah cE p0))),(7,.v (.i .i64 p1)),(8,.v (.i .i64 0))],[[.v (.sl 1 (ah cE p2.frest)),.v (.b p2.fshort)]]⟩
def vI (p0:List Int) (p1:Int) (p2:ir) (r:Int⊕Unit):Option (Ex×St):=match r with
 | .inl r=>some (.ret,⟨[(2,.v (.i .i64 r))],[[.v (.sl 1 (ah cE p2.frest)),.v (.b p2.fshort)]]⟩)
 | .inr r=>some (.normal,⟨[],[[.v (.sl 1 (ah cE p2.frest)),.v (.b p2.fshort)]]⟩)
theorem AJ (C:aj)  (p0:List Int) (p1:Int) (p2:ir) (s:Unit) (o:Unit⊕(Int⊕Unit)) (hF:tD p0 p1 p2 s=some o):evW TT C.wide n67 b67 0 (tB p0 p1 p2 s)=Sum.elim (fun s=>evW TT C.wide n67 b67 0 (tB p0 p1 p2 s)) (fun r=>vI p0 p1 p2 r) o:=by
 rw [cG TT n67 Wo]
 revert hF
 unfold tD
 try dsimp only
 refine bF (fun h1=>?_) (fun h1=>?_)
 rotate_left 1
 refine az fun x1 h2=>?_
 have g1:decide (0<=0)=true:=(cp h2).1
 have g2:(ah cE p0)[(0:Int).toNat]? =some [.i .u8 x1]:=cn _ h2
 all_goals (rintro⟨⟩;show cN _ _ _ (aH _ _ _ _ (Code.seq _ _) _)=_;simp (maxSteps:=4000000) only [*,tB,vI,qib,qbp,qem,UZ,qct,↓RP,RB,RC,↓ai,Nat.reduceBEq,List.map,Int.reduceLE,↓ao,↓am,↓aa,ty3,ty5,qM])
theorem Pn (C:aj) (y7:xB C) (p0:ir) (r:Int×ir) (hF:nn p0=some r):cR TT C.wide (evW TT C.wide n67 b67) n67 Tryz.f67.results.toList (aU Tryz.f67) [.ptr 0 0] [[.v (.sl 1 (ah cE p0.frest)),.v (.b p0.fshort)]]=some (.v (.i .i64 r.1),[[.v (.sl 1 (ah cE r.2.frest)),.v (.b r.2.fshort)]]):=by
 revert hF
 unfold nn
 refine az ?_
 rintro⟨x1,x2⟩ h1
 dsimp only
 have g1:C.wide 96 [.ptr 0 0,.v (.i .i64 1)] [[.v (.sl 1 (ah cE p0.frest)),.v (.b p0.fshort)]]=some (.v (.sl 1 (ah cE x1)),[[.v (.sl 1 (ah cE x2.frest)),.v (.b x2.fshort)]]):=cX [0] rfl rfl rfl rfl (y7 1 p0 _ h1) rfl rfl
 refine az ?_
 rintro (x3|_) h2
 focus
  dsimp only
  have g2:=cH _ _ (AJ C x1 (x1.length:Int) x2) h2
  try simp only [tB,vI] at g2
 rotate_left 1
 dsimp only
 have g3:=cH _ _ (AJ C x1 (x1.length:Int) x2) h2
 try simp only [tB,vI] at g3
 all_goals (rintro⟨⟩;rw [bk];show cC _ _ _ (aH _ _ _ _ (Code.seq _ _) _)=_;simp (maxSteps:=4000000) only [*,qf7,qem,UZ,qej,↓RP,RB,RC,Nat.reduceBEq,List.map,↓ao,↓aa,ty3,qM])
def Wu:List (Nat×List Nat):=[(0,[0]),(1,[2])]
def n64:cL where
 keep:=ax Wu
 ro:=fun _=>false
 mv:=fun _=>false
 give:=fun _=>false
 free:=fun _=>[]
theorem qiE (i:Nat):n64.keep i=ax Wu i:=rfl
theorem qfT (t:Nat):n64.give t=(false):=rfl
theorem qfP:Tryz.f64.results.toList= [.tmp 2]:=rfl
noncomputable def b64:Code:=aU Tryz.f64
theorem Rz (C:aj) (kJ:kG C) (y7:xB C) (p0:ir) (r:ByteArray×ir) (hF:qN p0=some r):cR TT C.wide (evW TT C.wide n64 b64) n64 Tryz.f64.results.toList (aU Tryz.f64) [.ptr 0 0] [[.v (.sl 1 (ah cE p0.frest)),.v (.b p0.fshort)]]=some (.v (.s r.1),[[.v (.sl 1 (ah cE r.2.frest)),.v (.b r.2.fshort)]]):=by
 revert hF
 unfold qN
 refine az ?_
 rintro⟨x1,x2⟩ h1
 dsimp only
 have g1:C.wide 67 [.ptr 0 0] [[.v (.sl 1 (ah cE p0.frest)),.v (.b p0.fshort)]]=some (.v (.i .i64 x1),[[.v (.sl 1 (ah cE x2.frest)),.v (.b x2.fshort)]]):=cX [0] rfl rfl rfl rfl (kJ p0 _ h1) rfl rfl
 refine az ?_
 rintro⟨x3,x4⟩ h2
 dsimp only
 have g2:C.wide 96 [.ptr 0 0,.v (.i .i64 x1)] [[.v (.sl 1 (ah cE x2.frest)),.v (.b x2.fshort)]]=some (.v (.sl 1 (ah cE x3)),[[.v (.sl 1 (ah cE x4.frest)),.v (.b x4.fshort)]]):=cX [0] rfl rfl rfl rfl (y7 x1 x2 _ h2) rfl rfl
 refine aX (fun h3=>?_) (fun _=>nofun)
 all_goals (rintro⟨⟩;rw [bk];show cC _ _ _ (aH _ _ _ _ (Code.seq _ _) _)=_;simp (maxSteps:=4000000) only [*,qfP,qiE,Wu,qfT,↓RP,RB,RC,Nat.reduceBEq,List.map,↓ao,↓aa,ty5,ty9,qM])
def Q7:List (Nat×List Nat):=[(0,[0,2]),(1,[0,2,3]),(2,[0,2,3]),(3,[2,3]),(4,[2])]
def Pe:cL where
 keep:=ax Q7
 ro:=fun _=>false
 mv:=fun _=>false
 give:=fun _=>false
 free:=fun _=>[]
theorem qfL (i:Nat):Pe.keep i=ax Q7 i:=rfl
theorem ZG (t:Nat):Pe.mv t=(false):=rfl
theorem qaJ (t:Nat):Pe.give t=(false):=rfl
theorem qaL:Tryz.f115.results.toList= [.cell 2 56]:=rfl
noncomputable def qik:Code:=aU Tryz.f115
theorem KZ (C:aj) (kJ:kG C) (nb:oE C) (jR:kC C) (p0:ir) (r:iB×ir) (hF:uh p0=some r):cR TT C.wide (evW TT C.wide Pe qik) Pe Tryz.f115.results.toList (aU Tryz.f115) [.ptr 0 0] [[.v (.sl 1 (ah cE p0.frest)),.v (.b p0.fshort)]]=some (.agg [.v (.i .i64 r.1.bt),.v (.s r.1.iU),.v (.s r.1.iE),.v (.s r.1.iq),.v (.i .i64 r.1.fN)],[[.v (.sl 1 (ah cE r.2.frest)),.v (.b r.2.fshort)]]):=by
 revert hF
 unfold uh
 refine az ?_
 rintro⟨x1,x2⟩ h1
 dsimp only
 have g1:C.wide 67 [.ptr 0 0] [[.v (.sl 1 (ah cE p0.frest)),.v (.b p0.fshort)],[.v (.i .i64 0),.v (.s ByteArray.empty),.v (.s ByteArray.empty),.v (.s ByteArray.empty),.v (.i .i64 0)]]=some (.v (.i .i64 x1),[[.v (.sl 1 (ah cE x2.frest)),.v (.b x2.fshort)],[.v (.i .i64 0),.v (.s ByteArray.empty),.v (.s ByteArray.empty),.v (.s ByteArray.empty),.v (.i .i64 0)]]):=cX [0] rfl rfl rfl rfl (kJ p0 _ h1) rfl rfl
 refine az ?_
 rintro⟨x3,x4⟩ h2
 dsimp only
 have g2:C.wide 64 [.ptr 0 0] [[.v (.sl 1 (ah cE x2.frest)),.v (.b x2.fshort)],[.v (.i .i64 0),.v (.s ByteArray.empty),.v (.s ByteArray.empty),.v (.s ByteArray.empty),.v (.i .i64 0)],[.v (.i .i64 x1),.v (.s ByteArray.empty),.v (.s ByteArray.empty),.v (.s ByteArray.empty),.v (.i .i64 0)]]=some (.v (.s x3),[[.v (.sl 1 (ah cE x4.frest)),.v (.b x4.fshort)],[.v (.i .i64 0),.v (.s ByteArray.empty),.v (.s ByteArray.empty),.v (.s ByteArray.empty),.v (.i .i64 0)],[.v (.i .i64 x1),.v (.s ByteArray.empty),.v (.s ByteArray.empty),.v (.s ByteArray.empty),.v (.i .i64 0)]]):=cX [0] rfl rfl rfl rfl (nb x2 _ h2) rfl rfl
 refine az ?_
 rintro⟨x5,x6⟩ h3
 dsimp only
 have g3:C.wide 64 [.ptr 0 0] [[.v (.sl 1 (ah cE x4.frest)),.v (.b x4.fshort)],[.v (.i .i64 0),.v (.s ByteArray.empty),.v (.s ByteArray.empty),.v (.s ByteArray.empty),.v (.i .i64 0)],[.v (.i .i64 x1),.v (.s ByteArray.empty),.v (.s ByteArray.empty),.v (.s ByteArray.empty),.v (.i .i64 0)]]=some (.v (.s x5),[[.v (.sl 1 (ah cE x6.frest)),.v (.b x6.fshort)],[.v (.i .i64 0),.v (.s ByteArray.empty),.v (.s ByteArray.empty),.v (.s ByteArray.empty),.v (.i .i64 0)],[.v (.i .i64 x1),.v (.s ByteArray.empty),.v (.s ByteArray.empty),.v (.s ByteArray.empty),.v (.i .i64 0)]]):=cX [0] rfl rfl rfl rfl (nb x4 _ h3) rfl rfl
 refine az ?_
 rintro⟨x7,x8⟩ h4
 dsimp only
 have g4:C.wide 64 [.ptr 0 0] [[.v (.sl 1 (ah cE x6.frest)),.v (.b x6.fshort)],[.v (.i .i64 0),.v (.s ByteArray.empty),.v (.s ByteArray.empty),.v (.s ByteArray.empty),.v (.i .i64 0)],[.v (.i .i64 x1),.v (.s ByteArray.empty),.v (.s ByteArray.empty),.v (.s ByteArray.empty),.v (.i .i64 0)]]=some (.v (.s x7),[[.v (.sl 1 (ah cE x8.frest)),.v (.b x8.fshort)],[.v (.i .i64 0),.v (.s ByteArray.empty),.v (.s ByteArray.empty),.v (.s ByteArray.empty),.v (.i .i64 0)],[.v (.i .i64 x1),.v (.s ByteArray.empty),.v (.s ByteArray.empty),.v (.s ByteArray.empty),.v (.i .i64 0)]]):=cX [0] rfl rfl rfl rfl (nb x6 _ h4) rfl rfl
 refine az ?_
 rintro⟨x9,x10⟩ h5
 dsimp only
 have g5:C.wide 61 [.ptr 0 0] [[.v (.sl 1 (ah cE x8.frest)),.v (.b x8.fshort)],[.v (.i .i64 0),.v (.s ByteArray.empty),.v (.s ByteArray.empty),.v (.s ByteArray.empty),.v (.i .i64 0)],[.v (.i .i64 x1),.v (.s x3),.v (.s x5),.v (.s x7),.v (.i .i64 0)]]=some (.v (.i .i64 x9),[[.v (.sl 1 (ah cE x10.frest)),.v (.b x10.fshort)],[.v (.i .i64 0),.v (.s ByteArray.empty),.v (.s ByteArray.empty),.v (.s ByteArray.empty),.v (.i .i64 0)],[.v (.i .i64 x1),.v (.s x3),.v (.s x5),.v (.s x7),.v (.i .i64 0)]]):=cX [0] rfl rfl rfl rfl (jR x8 _ h5) rfl rfl
 all_goals (rintro⟨⟩;rw [bk];show cC _ _ _ (aH _ _ _ _ (Code.seq _ _) _)=_;simp (maxSteps:=4000000) only [*,qaL,qfL,Q7,ZG,qaJ,↓RP,RB,RC,Nat.reduceBEq,bP,List.map,Nat.reduceAdd,Nat.reduceLeDiff,bne,↓ao,↓aa,aP,ty3,ty9,yd])
def Nl:List (Nat×List Nat):=[(0,[0,2]),(1,[0,2,3]),(2,[0,2,3,9]),(3,[0,2,3]),(4,[2,3]),(5,[2])]
def R7:List (Nat×List Nat×List Nat):=[(9,[0,2,3],[2,3])]
def IU:cL where
 keep:=ax Nl
 ro:=fun _=>false
 mv:=fun _=>false
 give:=fun _=>false
 free:=fun _=>[]
 alive:=av R7
theorem qfj (t:Nat) (x:Bool) (e:Env) (S:bH):cK IU t x ⟨e,S⟩=atO (av R7 t x) e S:=cF rfl t x e S
theorem Va (i:Nat):IU.keep i=ax Nl i:=rfl
theorem WS (t:Nat):IU.mv t=(false):=rfl
theorem Rr (t:Nat):IU.give t=(false):=rfl
theorem Z1:Tryz.f104.results.toList= [.cell 2 58]:=rfl
noncomputable def US:Code:=aU Tryz.f104
theorem IC (C:aj) (jR:kC C) (za:zi C) (p0:Bool) (p1:ir) (p2:Int) (c:Code) (ho:cD 1 9 US=some c) (r:ir×i8) (hF:pX p0 p1 p2=some r): @cV TT C.wide (evW TT C.wide IU US) IU 1 9 ⟨[(0,.ptr 0 0),(2,.ptr 1 0),(3,.ptr 2 0),(9,.v (.b p0))],[[.v (.sl 1 (ah cE p1.frest)),.v (.b p1.fshort)],[.v (.i .i64 0),.v (.i .i64 0),.v (.i .i64 0),.v (.s ByteArray.empty),.v (.s ByteArray.empty),.v (.s ByteArray.empty),.v (.i .i64 0)],[.v (.i .i64 p2),.v (.i .i64 0),.v (.i .i64 0),.v (.s ByteArray.empty),.v (.s ByteArray.empty),.v (.s ByteArray.empty),.v (.i .i64 0)]]⟩ ⟨c⟩=some (.normal,⟨[(2,.ptr 1 0),(3,.ptr 2 0)],[[.v (.sl 1 (ah cE r.1.frest)),.v (.b r.1.fshort)],[.v (.i .i64 0),.v (.i .i64 0),.v (.i .i64 0),.v (.s ByteArray.empty),.v (.s ByteArray.empty),.v (.s ByteArray.empty),.v (.i .i64 0)],[.v (.i .i64 r.2.iO),.v (.i .i64 r.2.je),.v (.i .i64 r.2.ad.bt),.v (.s r.2.ad.iU),.v (.s r.2.ad.iE),.v (.s r.2.ad.iq),.v (.i .i64 r.2.ad.fN)]]⟩):=by
 have e:=Option.some.inj (ho.symm.trans (rfl:cD 1 9 US=some _))
 subst e
 clear ho
 show aH _ _ _ _ _ _=_
 revert hF
 unfold pX
 refine bF (fun h1=>?_) (fun h1=>?_)
 rotate_left 1
 refine az ?_
 rintro⟨x1,x2⟩ h2
 dsimp only
 have g1:C.wide 61 [.ptr 0 0] [[.v (.sl 1 (ah cE p1.frest)),.v (.b p1.fshort)],[.v (.i .i64 0),.v (.i .i64 0),.v (.i .i64 0),.v (.s ByteArray.empty),.v (.s ByteArray.empty),.v (.s ByteArray.empty),.v (.i .i64 0)],[.v (.i .i64 p2),.v (.i .i64 0),.v (.i .i64 0),.v (.s ByteArray.empty),.v (.s ByteArray.empty),.v (.s ByteArray.empty),.v (.i .i64 0)]]=some (.v (.i .i64 x1),[[.v (.sl 1 (ah cE x2.frest)),.v (.b x2.fshort)],[.v (.i .i64 0),.v (.i .i64 0),.v (.i .i64 0),.v (.s ByteArray.empty),.v (.s ByteArray.empty),.v (.s ByteArray.empty),.v (.i .i64 0)],[.v (.i .i64 p2),.v (.i .i64 0),.v (.i .i64 0),.v (.s ByteArray.empty),.v (.s ByteArray.empty),.v (.s ByteArray.empty),.v (.i .i64 0)]]):=cX [0] rfl rfl rfl rfl (jR p1 _ h2) rfl rfl
 refine az ?_
 rintro⟨x3,x4⟩ h3
 dsimp only
 have g2:C.wide 115 [.ptr 0 0] [[.v (.sl 1 (ah cE x2.frest)),.v (.b x2.fshort)],[.v (.i .i64 0),.v (.i .i64 0),.v (.i .i64 0),.v (.s ByteArray.empty),.v (.s ByteArray.empty),.v (.s ByteArray.empty),.v (.i .i64 0)],[.v (.i .i64 p2),.v (.i .i64 x1),.v (.i .i64 0),.v (.s ByteArray.empty),.v (.s ByteArray.empty),.v (.s ByteArray.empty),.v (.i .i64 0)]]=some (.agg [.v (.i .i64 x3.bt),.v (.s x3.iU),.v (.s x3.iE),.v (.s x3.iq),.v (.i .i64 x3.fN)],[[.v (.sl 1 (ah cE x4.frest)),.v (.b x4.fshort)],[.v (.i .i64 0),.v (.i .i64 0),.v (.i .i64 0),.v (.s ByteArray.empty),.v (.s ByteArray.empty),.v (.s ByteArray.empty),.v (.i .i64 0)],[.v (.i .i64 p2),.v (.i .i64 x1),.v (.i .i64 0),.v (.s ByteArray.empty),.v (.s ByteArray.empty),.v (.s ByteArray.empty),.v (.i .i64 0)]]):=cX [0] rfl rfl rfl rfl (za x2 _ h3) rfl rfl
 all_goals (rintro⟨⟩;simp (maxSteps:=4000000) only [*,qfj,R7,Va,Nl,Rr,↓RP,RB,RC,Nat.reduceBEq,bP,List.map,Nat.reduceAdd,Nat.reduceLeDiff,↓ao,↓am,ty3,yd,CI,↓aa _ _ _ _ 3,↓aa _ _ _ _ 4])
theorem Qp (C:aj) (jR:kC C) (za:zi C) (p0:ir) (r:i8×ir) (hF:Bz p0=some r):cR TT C.wide (evW TT C.wide IU US) IU Tryz.f104.results.toList (aU Tryz.f104) [.ptr 0 0] [[.v (.sl 1 (ah cE p0.frest)),.v (.b p0.fshort)]]=some (.agg [.v (.i .i64 r.1.iO),.v (.i .i64 r.1.je),.v (.i .i64 r.1.ad.bt),.v (.s r.1.ad.iU),.v (.s r.1.ad.iE),.v (.s r.1.ad.iq),.v (.i .i64 r.1.ad.fN)],[[.v (.sl 1 (ah cE r.2.frest)),.v (.b r.2.fshort)]]):=by
 revert hF
 unfold Bz
 refine az ?_
 rintro⟨x1,x2⟩ h1
 dsimp only
 have g1:C.wide 61 [.ptr 0 0] [[.v (.sl 1 (ah cE p0.frest)),.v (.b p0.fshort)],[.v (.i .i64 0),.v (.i .i64 0),.v (.i .i64 0),.v (.s ByteArray.empty),.v (.s ByteArray.empty),.v (.s ByteArray.empty),.v (.i .i64 0)]]=some (.v (.i .i64 x1),[[.v (.sl 1 (ah cE x2.frest)),.v (.b x2.fshort)],[.v (.i .i64 0),.v (.i .i64 0),.v (.i .i64 0),.v (.s ByteArray.empty),.v (.s ByteArray.empty),.v (.s ByteArray.empty),.v (.i .i64 0)]]):=cX [0] rfl rfl rfl rfl (jR p0 _ h1) rfl rfl
 refine az ?_
 rintro⟨x3,x4⟩ h2
 dsimp only
 have g2:=IC C jR za (!(x1==0)) x2 x1 _ rfl _ h2
 try simp only [] at g2
 all_goals (rintro⟨⟩;rw [bk];show cC _ _ _ (aH _ _ _ _ (Code.seq _ _) _)=_;simp (maxSteps:=4000000) only [*,Z1,Va,Nl,WS,Rr,↓RP,RB,RC,Nat.reduceBEq,bP,List.map,Nat.reduceAdd,Nat.reduceLeDiff,bne,↓ao,aP,ty3,yd,CI,↓aa _ _ _ _ 0,↓aa _ _ _ _ 1,↓aa _ _ _ _ 2,↓kZ _ _ _ _ 9,↓aa _ _ _ _ 5])
def qb7:List (Nat×List Nat):=[(0,[0,2]),(1,[0,2,4]),(2,[0,2,4,11]),(3,[2,3]),(4,[0,2,4,11,13]),(5,[2,4]),(6,[2,4,18]),(7,[2,4]),(8,[2,3])]
def qbZ:List (Nat×List Nat×List Nat):=[(13,[0,2,4],[2,4,11]),(18,[2,4],[2,4])]
def n81:cL where
 keep:=ax qb7
 ro:=fun _=>false
 mv:=fun _=>false
 give:=fun _=>false
 free:=fun _=>[]
 alive:=av qbZ
theorem qhb (t:Nat) (x:Bool) (e:Env) (S:bH):cK n81 t x ⟨e,S⟩=atO (av qbZ t x) e S:=cF rfl t x e S
theorem qih (i:Nat):n81.keep i=ax qb7 i:=rfl
theorem qeS (t:Nat):n81.mv t=(false):=rfl
theorem qdV (t:Nat):n81.give t=(false):=rfl
theorem qdN:Tryz.f81.results.toList= [.cell 2 60,.tmp 3]:=rfl
noncomputable def b81:Code:=aU Tryz.f81
theorem QK (C:aj) (jR:kC C) (kJ:kG C) (Rg:Ko C) (p0:ir) (r:iV×Bool×ir) (hF:Ai p0=some r):cR TT C.wide (evW TT C.wide n81 b81) n81 Tryz.f81.results.toList (aU Tryz.f81) [.ptr 0 0] [[.v (.sl 1 (ah cE p0.frest)),.v (.b p0.fshort)]]=some (.tup [.agg [.v (.i .i64 r.1.iI),.v (.i .i64 r.1.iS),.v (.b r.1.jY),.v (.i .i64 r.1.cO.iO),.v (.i .i64 r.1.cO.je),.v (.i .i64 r.1.cO.ad.bt),.v (.s r.1.cO.ad.iU),.v (.s r.1.cO.ad.iE),.v (.s r.1.cO.ad.iq),.v (.i .i64 r.1.cO.ad.fN)],.v (.b r.2.1)],[[.v (.sl 1 (ah cE r.2.2.frest)),.v (.b r.2.2.fshort)]]):=by
 revert hF
 unfold Ai
 refine az ?_
 rintro⟨x1,x2⟩ h1
 dsimp only
 have g1:C.wide 61 [.ptr 0 0] [[.v (.sl 1 (ah cE p0.frest)),.v (.b p0.fshort)],[.v (.i .i64 0),.v (.i .i64 0),.v (.b false),.v (.i .i64 0),.v (.i .i64 0),.v (.i .i64 0),.v (.s ByteArray.empty),.v (.s ByteArray.empty),.v (.s ByteArray.empty),.v (.i .i64 0)]]=some (.v (.i .i64 x1),[[.v (.sl 1 (ah cE x2.frest)),.v (.b x2.fshort)],[.v (.i .i64 0),.v (.i .i64 0),.v (.b false),.v (.i .i64 0),.v (.i .i64 0),.v (.i .i64 0),.v (.s ByteArray.empty),.v (.s ByteArray.empty),.v (.s ByteArray.empty),.v (.i .i64 0)]]):=cX [0] rfl rfl rfl rfl (jR p0 _ h1) rfl rfl
 refine az ?_
 rintro⟨x3,x4⟩ h2
 dsimp only
 have g2:C.wide 61 [.ptr 0 0] [[.v (.sl 1 (ah cE x2.frest)),.v (.b x2.fshort)],[.v (.i .i64 0),.v (.i .i64 0),.v (.b false),.v (.i .i64 0),.v (.i .i64 0),.v (.i .i64 0),.v (.s ByteArray.empty),.v (.s ByteArray.empty),.v (.s ByteArray.empty),.v (.i .i64 0)]]=some (.v (.i .i64 x3),[[.v (.sl 1 (ah cE x4.frest)),.v (.b x4.fshort)],[.v (.i .i64 0),.v (.i .i64 0),.v (.b false),.v (.i .i64 0),.v (.i .i64 0),.v (.i .i64 0),.v (.s ByteArray.empty),.v (.s ByteArray.empty),.v (.s ByteArray.empty),.v (.i .i64 0)]]):=cX [0] rfl rfl rfl rfl (jR x2 _ h2) rfl rfl
 refine az ?_
 rintro⟨x5,x6⟩ h3
 dsimp only
 have g3:C.wide 67 [.ptr 0 0] [[.v (.sl 1 (ah cE x4.frest)),.v (.b x4.fshort)],[.v (.i .i64 0),.v (.i .i64 0),.v (.b false),.v (.i .i64 0),.v (.i .i64 0),.v (.i .i64 0),.v (.s ByteArray.empty),.v (.s ByteArray.empty),.v (.s ByteArray.empty),.v (.i .i64 0)],[.v (.i .i64 x1),.v (.i .i64 x3),.v (.b false),.v (.i .i64 0),.v (.i .i64 0),.v (.i .i64 0),.v (.s ByteArray.empty),.v (.s ByteArray.empty),.v (.s ByteArray.empty),.v (.i .i64 0)]]=some (.v (.i .i64 x5),[[.v (.sl 1 (ah cE x6.frest)),.v (.b x6.fshort)],[.v (.i .i64 0),.v (.i .i64 0),.v (.b false),.v (.i .i64 0),.v (.i .i64 0),.v (.i .i64 0),.v (.s ByteArray.empty),.v (.s ByteArray.empty),.v (.s ByteArray.empty),.v (.i .i64 0)],[.v (.i .i64 x1),.v (.i .i64 x3),.v (.b false),.v (.i .i64 0),.v (.i .i64 0),.v (.i .i64 0),.v (.s ByteArray.empty),.v (.s ByteArray.empty),.v (.s ByteArray.empty),.v (.i .i64 0)]]):=cX [0] rfl rfl rfl rfl (kJ x4 _ h3) rfl rfl
 refine aX (fun h4=>?_) (fun h4=>?_)
 focus
  refine az ?_
  rintro⟨x7,x8⟩ h5
  dsimp only
  have g4:C.wide 104 [.ptr 0 0] [[.v (.sl 1 (ah cE x6.frest)),.v (.b x6.fshort)],[.v (.i .i64 0),.v (.i .i64 0),.v (.b false),.v (.i .i64 0),.v (.i .i64 0),.v (.i .i64 0),.v (.s ByteArray.empty),.v (.s ByteArray.empty),.v (.s ByteArray.empty),.v (.i .i64 0)],[.v (.i .i64 x1),.v (.i .i64 x3),.v (.b false),.v (.i .i64 0),.v (.i .i64 0),.v (.i .i64 0),.v (.s ByteArray.empty),.v (.s ByteArray.empty),.v (.s ByteArray.empty),.v (.i .i64 0)]]=some (.agg [.v (.i .i64 x7.iO),.v (.i .i64 x7.je),.v (.i .i64 x7.ad.bt),.v (.s x7.ad.iU),.v (.s x7.ad.iE),.v (.s x7.ad.iq),.v (.i .i64 x7.ad.fN)],[[.v (.sl 1 (ah cE x8.frest)),.v (.b x8.fshort)],[.v (.i .i64 0),.v (.i .i64 0),.v (.b false),.v (.i .i64 0),.v (.i .i64 0),.v (.i .i64 0),.v (.s ByteArray.empty),.v (.s ByteArray.empty),.v (.s ByteArray.empty),.v (.i .i64 0)],[.v (.i .i64 x1),.v (.i .i64 x3),.v (.b false),.v (.i .i64 0),.v (.i .i64 0),.v (.i .i64 0),.v (.s ByteArray.empty),.v (.s ByteArray.empty),.v (.s ByteArray.empty),.v (.i .i64 0)]]):=cX [0] rfl rfl rfl rfl (Rg x6 _ h5) rfl rfl
 rotate_left 1
 refine aX (fun h5=>?_) (fun h5=>?_)
 rotate_left 1
 all_goals (rintro⟨⟩;rw [bk];show cC _ _ _ (aH _ _ _ _ (Code.seq _ _) _)=_;simp (maxSteps:=4000000) only [*,qdN,qhb,qbZ,qih,qb7,qeS,qdV,↓RP,RB,RC,↓ai,Nat.reduceBEq,bP,List.map,Nat.reduceAdd,Nat.reduceLeDiff,bne,↓ao,↓am,↓aa,aP,ty3,ty4,CI,zN])
def V4:List (Nat×List Nat):=[(0,[0,1]),(1,[0,1,5]),(2,[4]),(3,[10]),(4,[4]),(5,[4])]
def WE:List (Nat×List Nat×List Nat):=[(5,[],[0,1]),(10,[],[])]
def n69:cL where
 keep:=ax V4
 ro:=fun _=>false
 mv:=fun _=>false
 give:=fun _=>false
 free:=fun _=>[]
 alive:=av WE
theorem qiw (t:Nat) (x:Bool) (e:Env) (S:bH):cK n69 t x ⟨e,S⟩=atO (av WE t x) e S:=cF rfl t x e S
theorem qhR (i:Nat):n69.keep i=ax V4 i:=rfl
theorem qdA (t:Nat):n69.mv t=(false):=rfl
theorem qeK:Tryz.f69.results.toList= [.tmp 4]:=rfl
noncomputable def b69:Code:=aU Tryz.f69
theorem UG (C:aj)  (p0:Bool) (p1:ir) (r:Int×ir) (hF:Ct p0 p1=some r):cR TT C.wide (evW TT C.wide n69 b69) n69 Tryz.f69.results.toList (aU Tryz.f69) [.ptr 0 0,.v (.b p0)] [[.v (.sl 1 (ah cE p1.frest)),.v (.b p1.fshort)]]=some (.v (.i .i64 r.1),[[.v (.sl 1 (ah cE r.2.frest)),.v (.b r.2.fshort)]]):=by
 revert hF
 unfold Ct
 refine aX (fun h1=>?_) (fun h1=>?_)
 rotate_left 1
 refine bF (fun h2=>?_) (fun h2=>?_)
 rotate_left 1
 refine aX (fun h3=>?_) (fun h3=>?_)
 rotate_left 1
 all_goals (rintro⟨⟩;rw [bk];show cC _ _ _ (aH _ _ _ _ (Code.seq _ _) _)=_;simp (maxSteps:=4000000) only [*,qeK,qiw,WE,qhR,V4,qdA,↓RP,RB,RC,↓ai,Nat.reduceBEq,List.map,Nat.reduceAdd,↓ao,↓am,↓aa,ty3,ty4,qM,mD,AU])
def RW:List (Nat×List Nat):=[(0,[0]),(1,[2])]
def Sy:cL where
 keep:=ax RW
 ro:=fun _=>false
 mv:=fun _=>false
 give:=fun _=>false
 free:=fun _=>[]
theorem qe4 (i:Nat):Sy.keep i=ax RW i:=rfl
theorem qbG:Tryz.f107.results.toList= [.tmp 2]:=rfl
noncomputable def qip:Code:=aU Tryz.f107
theorem CR (C:aj)  (p0:Int) (r:Bool) (hF:qD p0=some r):cR TT C.wide (evW TT C.wide Sy qip) Sy Tryz.f107.results.toList (aU Tryz.f107) [.v (.i .i64 p0)] []=some (.v (.b r),[]):=by
 revert hF
 unfold qD
 refine aX (fun h1=>?_) (fun h1=>?_)
 rotate_left 1
 all_goals (rintro⟨⟩;rw [bk];show cC _ _ _ (aH _ _ _ _ (Code.seq _ _) _)=_;simp (maxSteps:=4000000) only [*,qbG,qe4,RW,↓RP,RB,RC,Nat.reduceBEq,List.map,↓ao,↓aa,ty3,ty4])
def Sf:List (Nat×List Nat):=[(0,[0]),(1,[2])]
def Uc:cL where
 keep:=ax Sf
 ro:=fun _=>false
 mv:=fun _=>false
 give:=fun _=>false
 free:=fun _=>[]
theorem qeB (i:Nat):Uc.keep i=ax Sf i:=rfl
theorem qbE:Tryz.f120.results.toList= [.tmp 2]:=rfl
noncomputable def qiq:Code:=aU Tryz.f120
theorem Fu (C:aj)  (p0:ByteArray) (r:Bool) (hF:tu p0=some r):cR TT C.wide (evW TT C.wide Uc qiq) Uc Tryz.f120.results.toList (aU Tryz.f120) [.v (.s p0)] []=some (.v (.b r),[]):=by
 revert hF
 unfold tu
 refine aX (fun h1=>?_) (fun h1=>?_)
 rotate_left 1
 all_goals (rintro⟨⟩;rw [bk];show cC _ _ _ (aH _ _ _ _ (Code.seq _ _) _)=_;simp (maxSteps:=4000000) only [*,qbE,qeB,Sf,↓RP,RB,RC,Nat.reduceBEq,List.map,↓ao,↓aa,ty3,ty4,ty9])
def Qb:List (Nat×List Nat):=[(0,[0]),(1,[2])]
def UJ:cL where
 keep:=ax Qb
 ro:=fun _=>false
 mv:=fun _=>false
 give:=fun _=>false
 free:=fun _=>[]
theorem qfN (i:Nat):UJ.keep i=ax Qb i:=rfl
theorem qaQ:Tryz.f121.results.toList= [.tmp 2]:=rfl
noncomputable def qhu:Code:=aU Tryz.f121
theorem Iv (C:aj)  (p0:ByteArray) (r:Bool) (hF:uE p0=some r):cR TT C.wide (evW TT C.wide UJ qhu) UJ Tryz.f121.results.toList (aU Tryz.f121) [.v (.s p0)] []=some (.v (.b r),[]):=by
 revert hF
 unfold uE
 all_goals (rintro⟨⟩;rw [bk];show cC _ _ _ (aH _ _ _ _ (Code.seq _ _) _)=_;simp (maxSteps:=4000000) only [*,qaQ,qfN,Qb,↓RP,RB,RC,Nat.reduceBEq,List.map,↓ao,↓aa,ty3,ty4,ty9])
def RQ:List (Nat×List Nat):=[(0,[0]),(1,[2])]
def Ut:cL where
 keep:=ax RQ
 ro:=fun _=>false
 mv:=fun _=>false
 give:=fun _=>false
 free:=fun _=>[]
theorem qfh (i:Nat):Ut.keep i=ax RQ i:=rfl
theorem qca:Tryz.f122.results.toList= [.tmp 2]:=rfl
noncomputable def qiT:Code:=aU Tryz.f122
theorem FD (C:aj)  (p0:Int) (r:Bool) (hF:tm p0=some r):cR TT C.wide (evW TT C.wide Ut qiT) Ut Tryz.f122.results.toList (aU Tryz.f122) [.v (.i .i64 p0)] []=some (.v (.b r),[]):=by
 revert hF
 unfold tm
 refine aX (fun h1=>?_) (fun h1=>?_)
 rotate_left 1
 all_goals (rintro⟨⟩;rw [bk];show cC _ _ _ (aH _ _ _ _ (Code.seq _ _) _)=_;simp (maxSteps:=4000000) only [*,qca,qfh,RQ,↓RP,RB,RC,Nat.reduceBEq,List.map,Int.reduceNeg,↓ao,↓aa,ty3,ty4])
def Ci:List (Nat×List Nat):=[(0,[1]),(1,[1,11]),(2,[2]),(3,[1,3]),(4,[1,3,18]),(5,[1,3,18,19]),(6,[1,3,18,19]),(7,[1,3,18,19]),(8,[1,3,18,19]),(9,[1,3,18,19]),(10,[1,3,18,19]),(11,[1,3,18,19]),(12,[1,3,18,19]),(13,[1,3]),(14,[1,3,18,31]),(15,[1,3,18,31]),(16,[1,3]),(17,[1,3,18,37]),(18,[1,3]),(19,[1,3,18,45]),(20,[1,3,18,45]),(21,[1,3]),(22,[1,3,18,51]),(23,[1,3]),(24,[1,3,59]),(25,[1,3]),(26,[1,64]),(27,[2]),(28,[1,95]),(29,[2]),(30,[99]),(31,[2]),(32,[2])]
def DH:List (Nat×List Nat×List Nat):=[(11,[],[1]),(19,[1,3,18,19],[1,3,18]),(31,[1,3,18,31],[1,3,18]),(37,[1,3],[1,3,18]),(45,[1,3,18,45],[1,3,18]),(51,[1,3],[1,3,18]),(59,[1,3],[1,3]),(64,[],[1]),(95,[],[1]),(99,[],[])]
def xp:cL where
 keep:=ax Ci
 ro:=fun t=>t==1
 mv:=fun _=>false
 give:=fun _=>false
 free:=fun i=>match i with|18=>[(0,2),(1,2),(0,3),(1,3),(2,4),(3,4),(2,5),(3,5)]|23=>[(0,2),(1,2),(0,3),(1,3),(2,4),(3,4),(2,5),(3,5)]|_=>[]
 alive:=av DH
theorem JN (t:Nat) (x:Bool) (e:Env) (S:bH):cK xp t x ⟨e,S⟩=atO (av DH t x) e S:=cF rfl t x e S
theorem FT (i:Nat):xp.keep i=ax Ci i:=rfl
theorem qbd (t:Nat):xp.ro t=(t==1):=rfl
theorem DY (t:Nat):xp.mv t=(false):=rfl
theorem Db (t:Nat):xp.give t=(false):=rfl
theorem TC:xp.free 18= [(0,2),(1,2),(0,3),(1,3),(2,4),(3,4),(2,5),(3,5)]:=rfl
theorem TH:xp.free 23= [(0,2),(1,2),(0,3),(1,3),(2,4),(3,4),(2,5),(3,5)]:=rfl
theorem Wa:Tryz.f108.results.toList= [.tmp 2]:=rfl
noncomputable def zJ:Code:=aU Tryz.f108
theorem Az (C:aj)  (p0:iB) (p1:Bool) (p2:Int) (p3:ByteArray) (c:Code) (ho:cD 1 59 zJ=some c) (r:iB) (hF:pk p0 p1 p2 p3=r): @cV TT C.wide (evW TT C.wide xp zJ) xp 1 59 ⟨[(1,.rp [.i .i64 p0.bt,.s p0.iU,.s p0.iE,.s p0.iq,.i .i64 p0.fN]),(3,.ptr 0 0),(59,.v (.b p1))],[[.v (.i .i64 p2),.v (.s p3),.v (.s ByteArray.empty),.v (.s ByteArray.empty),.v (.i .i64 0)]]⟩ ⟨c⟩=some (.normal,⟨[(1,.rp [.i .i64 p0.bt,.s p0.iU,.s p0.iE,.s p0.iq,.i .i64 p0.fN]),(3,.ptr 0 0)],[[.v (.i .i64 r.bt),.v (.s r.iU),.v (.s r.iE),.v (.s r.iq),.v (.i .i64 r.fN)]]⟩):=by
 have e:=Option.some.inj (ho.symm.trans (rfl:cD 1 59 zJ=some _))
 subst e
 clear ho
 show aH _ _ _ _ _ _=_
 revert hF
 unfold pk
 refine aX (fun h1=>?_) (fun h1=>?_)
 rotate_left 1
 all_goals (rintro rfl;simp (maxSteps:=4000000) only [*,JN,DH,FT,Ci,Db,↓RP,RB,RC,Nat.reduceBEq,List.map,Nat.reduceAdd,Nat.reduceLeDiff,↓am,ty9,yd,↓aa _ _ _ _ 25])
theorem Bb (C:aj)  (p0:iB) (p1:Int) (p2:Bool) (p3:ByteArray) (c:Code) (ho:cD 1 51 zJ=some c) (r:iB) (hF:pj p0 p1 p2 p3=r): @cV TT C.wide (evW TT C.wide xp zJ) xp 1 51 ⟨[(1,.rp [.i .i64 p0.bt,.s p0.iU,.s p0.iE,.s p0.iq,.i .i64 p0.fN]),(3,.ptr 0 0),(18,.v (.i .i64 p1)),(51,.v (.b p2))],[[.v (.i .i64 p1),.v (.s p3),.v (.s ByteArray.empty),.v (.s ByteArray.empty),.v (.i .i64 0)]]⟩ ⟨c⟩=some (.normal,⟨[(1,.rp [.i .i64 p0.bt,.s p0.iU,.s p0.iE,.s p0.iq,.i .i64 p0.fN]),(3,.ptr 0 0)],[[.v (.i .i64 r.bt),.v (.s r.iU),.v (.s r.iE),.v (.s r.iq),.v (.i .i64 r.fN)]]⟩):=by
 have e:=Option.some.inj (ho.symm.trans (rfl:cD 1 51 zJ=some _))
 subst e
 clear ho
 show aH _ _ _ _ _ _=_
 revert hF
 unfold pj
 refine aX (fun h1=>?_) (fun h1=>?_)
 rotate_left 1
 have g1:=Az C p0 (p1==22) p1 p3 _ rfl (pk p0 (p1==22) p1 p3) rfl
 all_goals (rintro rfl;simp (maxSteps:=4000000) only [*,JN,DH,FT,Ci,TH,DY,Db,↓RP,RB,RC,Nat.reduceBEq,List.map,Nat.reduceAdd,Nat.reduceLeDiff,cr,↓ao,ty3,ty4,ty9,yd,↓am _ _ _ _ 51,↓aq _ _ _ _ 23,↓aa _ _ _ _ 24,↓kZ _ _ _ _ 59])
theorem Av (C:aj)  (p0:iB) (p1:Int) (p2:Bool) (p3:ByteArray) (c:Code) (ho:cD 1 37 zJ=some c) (r:iB) (hF:pi p0 p1 p2 p3=r): @cV TT C.wide (evW TT C.wide xp zJ) xp 1 37 ⟨[(1,.rp [.i .i64 p0.bt,.s p0.iU,.s p0.iE,.s p0.iq,.i .i64 p0.fN]),(3,.ptr 0 0),(18,.v (.i .i64 p1)),(37,.v (.b p2))],[[.v (.i .i64 p1),.v (.s p3),.v (.s ByteArray.empty),.v (.s ByteArray.empty),.v (.i .i64 0)]]⟩ ⟨c⟩=some (.normal,⟨[(1,.rp [.i .i64 p0.bt,.s p0.iU,.s p0.iE,.s p0.iq,.i .i64 p0.fN]),(3,.ptr 0 0)],[[.v (.i .i64 r.bt),.v (.s r.iU),.v (.s r.iE),.v (.s r.iq),.v (.i .i64 r.fN)]]⟩):=by
 have e:=Option.some.inj (ho.symm.trans (rfl:cD 1 37 zJ=some _))
 subst e
 clear ho
 show aH _ _ _ _ _ _=_
 revert hF
 unfold pi
 refine aX (fun h1=>?_) (fun h1=>?_)
 rotate_left 1
 refine aX (fun h2=>?_) (fun h2=>?_)
 rotate_left 1
 refine aX (fun h3=>?_) (fun h3=>?_)
 rotate_left 1
 have g1:=Bb C p0 p1 (p1==14) p3 _ rfl (pj p0 p1 (p1==14) p3) rfl
 all_goals (rintro rfl;simp (maxSteps:=4000000) only [*,JN,DH,FT,Ci,TC,DY,Db,↓RP,RB,RC,Nat.reduceBEq,List.map,Nat.reduceAdd,Nat.reduceLeDiff,cr,↓ao,ty3,ty4,ty9,yd,↓am _ _ _ _ 37,↓aq _ _ _ _ 18,↓aa _ _ _ _ 19,↓am _ _ _ _ 45,↓aa _ _ _ _ 20,↓aa _ _ _ _ 21,↓aa _ _ _ _ 22,↓kZ _ _ _ _ 51])
theorem BZ (C:aj)  (p0:iB) (p1:Int) (p2:ByteArray) (c:Code) (ho:cD 2 0 zJ=some c) (r:iB) (hF:jF p0 p1 p2=r): @cV TT C.wide (evW TT C.wide xp zJ) xp 2 0 ⟨[(1,.rp [.i .i64 p0.bt,.s p0.iU,.s p0.iE,.s p0.iq,.i .i64 p0.fN]),(3,.ptr 0 0),(18,.v (.i .i64 p1))],[[.v (.i .i64 p1),.v (.s p2),.v (.s ByteArray.empty),.v (.s ByteArray.empty),.v (.i .i64 0)]]⟩ ⟨c⟩=some (.normal,⟨[(1,.rp [.i .i64 p0.bt,.s p0.iU,.s p0.iE,.s p0.iq,.i .i64 p0.fN]),(3,.ptr 0 0)],[[.v (.i .i64 r.bt),.v (.s r.iU),.v (.s r.iE),.v (.s r.iq),.v (.i .i64 r.fN)]]⟩):=by
 have e:=Option.some.inj (ho.symm.trans (rfl:cD 2 0 zJ=some _))
 subst e
 clear ho
 show aH _ _ _ _ _ _=_
 revert hF
 unfold jF
 refine aX (fun h1=>?_) (fun h1=>?_)
 rotate_left 1
 refine aX (fun h2=>?_) (fun h2=>?_)
 rotate_left 1
 refine aX (fun h3=>?_) (fun h3=>?_)
 rotate_left 1
 unfold uc
 refine aX (fun h4=>?_) (fun h4=>?_)
 rotate_left 1
 refine aX (fun h5=>?_) (fun h5=>?_)
 rotate_left 1
 refine aX (fun h6=>?_) (fun h6=>?_)
 rotate_left 1
 refine aX (fun h7=>?_) (fun h7=>?_)
 rotate_left 1
 refine aX (fun h8=>?_) (fun h8=>?_)
 rotate_left 1
 refine aX (fun h9=>?_) (fun h9=>?_)
 rotate_left 1
 refine aX (fun h10=>?_) (fun h10=>?_)
 rotate_left 1
 have g1:=Av C p0 p1 (p1==4) p2 _ rfl (pi p0 p1 (p1==4) p2) rfl
 all_goals (rintro rfl;simp (maxSteps:=4000000) only [*,JN,DH,FT,Ci,DY,Db,↓RP,RB,RC,↓ai,Nat.reduceBEq,List.map,Nat.reduceAdd,Nat.reduceLeDiff,↓ao,ty3,ty4,ty9,yd,↓aa _ _ _ _ 5,↓am _ _ _ _ 19,↓aa _ _ _ _ 6,↓aa _ _ _ _ 7,↓aa _ _ _ _ 8,↓aa _ _ _ _ 9,↓aa _ _ _ _ 10,↓aa _ _ _ _ 11,↓aa _ _ _ _ 12,↓aa _ _ _ _ 13,↓aa _ _ _ _ 14,↓am _ _ _ _ 31,↓aa _ _ _ _ 15,↓aa _ _ _ _ 16,↓aa _ _ _ _ 17,↓kZ _ _ _ _ 37])
theorem AQ (C:aj) (oQ:qJ C) (ke:lc C) (p0:iB) (p1:iB) (c:Code) (ho:cD 0 28 zJ=some c) (r:Bool) (hF:ne p0 p1=r): @cV TT C.wide (evW TT C.wide xp zJ) xp 0 28 ⟨[(1,.rp [.i .i64 p0.bt,.s p0.iU,.s p0.iE,.s p0.iq,.i .i64 p0.fN])],[[.v (.i .i64 p1.bt),.v (.s p1.iU),.v (.s p1.iE),.v (.s p1.iq),.v (.i .i64 p1.fN)]]⟩ ⟨c⟩=some (.normal,⟨[(1,.rp [.i .i64 p0.bt,.s p0.iU,.s p0.iE,.s p0.iq,.i .i64 p0.fN]),(95,.v (.b r))],[[.v (.i .i64 p1.bt),.v (.s p1.iU),.v (.s p1.iE),.v (.s p1.iq),.v (.i .i64 p1.fN)]]⟩):=by
 have e:=Option.some.inj (ho.symm.trans (rfl:cD 0 28 zJ=some _))
 subst e
 clear ho
 show aH _ _ _ _ _ _=_
 revert hF
 unfold ne
 refine aX (fun h1=>?_) (fun h1=>?_)
 focus
  refine bF (fun h2=>?_) (fun h2=>?_)
  focus
   have g1:=bK (ke p0.iq _ (mw p0.iq))
  rotate_left 1
  refine bF (fun h3=>?_) (fun h3=>?_)
  focus
   have g1:=bK (ke p0.iq _ (mw p0.iq))
  rotate_left 1
  have g2:=bK (oQ p0.iE _ (uN p0.iE))
  refine aX (fun h4=>?_) (fun h4=>?_)
  focus
   have g1:=bK (ke p0.iq _ (mw p0.iq))
  rotate_left 1
 rotate_left 4
 unfold qf
 have g3:=bK (oQ p0.iU _ (uN p0.iU))
 refine bF (fun h2=>?_) (fun h2=>?_)
 rotate_left 1
 refine bF (fun h3=>?_) (fun h3=>?_)
 focus
  have g1:=bK (ke p0.iq _ (mw p0.iq))
 rotate_left 1
 refine bF (fun h4=>?_) (fun h4=>?_)
 focus
  have g1:=bK (ke p0.iq _ (mw p0.iq))
 rotate_left 1
 have g2:=bK (oQ p0.iE _ (uN p0.iE))
 refine aX (fun h5=>?_) (fun h5=>?_)
 focus
  have g1:=bK (ke p0.iq _ (mw p0.iq))
 rotate_left 1
 all_goals (rintro rfl;simp (maxSteps:=4000000) only [*,FT,Ci,DY,↓RP,RB,RC,Nat.reduceBEq,List.map,bne,ty3,ty9,yd,↓aa _ _ _ _ 28])
theorem Jt (C:aj) (oQ:qJ C) (ke:lc C) (sn:qC C) (p0:iB) (r:Int) (hF:wc p0=some r):cR TT C.wide (evW TT C.wide xp zJ) xp Tryz.f108.results.toList (aU Tryz.f108) [.agg [.v (.i .i64 p0.bt),.v (.s p0.iU),.v (.s p0.iE),.v (.s p0.iq),.v (.i .i64 p0.fN)]] []=some (.v (.i .i64 r),[]):=by
 revert hF
 unfold wc
 refine yw ?_
 unfold rO
 refine aX (fun h1=>?_) (fun h1=>?_)
 rotate_left 1
 refine aX (fun h2=>?_) (fun h2=>?_)
 rotate_left 1
 unfold vw
 have g1:=BZ C p0 p0.bt p0.iU _ rfl (jF p0 p0.bt p0.iU) rfl
 refine bF (fun h3=>?_) (fun h3=>?_)
 rotate_left 1
 refine bF (fun h4=>?_) (fun h4=>?_)
 rotate_left 1
 refine bF (fun h5=>?_) (fun h5=>?_)
 rotate_left 1
 refine bF (fun h6=>?_) (fun h6=>?_)
 rotate_left 1
 refine bF (fun h7=>?_) (fun h7=>?_)
 rotate_left 1
 have g2:=AQ C oQ ke p0 (jF p0 p0.bt p0.iU) _ rfl (ne p0 (jF p0 p0.bt p0.iU)) rfl
 refine aX (fun h8=>?_) (fun h8=>?_)
 rotate_left 1
 have g3:=bK (sn p0.fN _ (wW p0.fN))
 refine aX (fun h9=>?_) (fun h9=>?_)
 rotate_left 1
 all_goals (rintro rfl;rw [bk];show cC _ _ _ (aH _ _ _ _ (Code.seq _ _) _)=_;simp (maxSteps:=4000000) only [*,Wa,JN,DH,FT,Ci,qbd,DY,Db,↓RP,RB,RC,Nat.reduceBEq,bP,List.map,Nat.reduceAdd,aG,Nat.reduceLeDiff,bne,↓ao,aP,ty3,ty9,mD,yd,↓aa _ _ _ _ 0,↓aa _ _ _ _ 1,↓am _ _ _ _ 11,↓aa _ _ _ _ 2,↓aa _ _ _ _ 3,↓aa _ _ _ _ 4,↓Fy _ _ _ _ 0,↓aa _ _ _ _ 26,↓am _ _ _ _ 64,↓aa _ _ _ _ 27,↓bg _ _ _ _ 28,↓am _ _ _ _ 95,↓aa _ _ _ _ 29,↓aa _ _ _ _ 30,↓am _ _ _ _ 99,↓aa _ _ _ _ 31,↓aa _ _ _ _ 32])
def Zh:List (Nat×List Nat):=[(0,[1]),(1,[1,5]),(2,[8]),(3,[2]),(4,[2]),(5,[1,18]),(6,[2]),(7,[2])]
def qbW:List (Nat×List Nat×List Nat):=[(5,[1],[1]),(8,[],[]),(18,[],[1])]
def n91:cL where
 keep:=ax Zh
 ro:=fun t=>t==1
 mv:=fun _=>false
 give:=fun _=>false
 free:=fun _=>[]
 alive:=av qbW
theorem qiU (t:Nat) (x:Bool) (e:Env) (S:bH):cK n91 t x ⟨e,S⟩=atO (av qbW t x) e S:=cF rfl t x e S
theorem qim (i:Nat):n91.keep i=ax Zh i:=rfl
theorem qgV (t:Nat):n91.ro t=(t==1):=rfl
theorem qdW (t:Nat):n91.mv t=(false):=rfl
theorem qgC:Tryz.f91.results.toList= [.tmp 2]:=rfl
noncomputable def b91:Code:=aU Tryz.f91
theorem OA (C:aj) (yu:vr C) (JG:AG C) (p0:i8) (r:Int) (hF:Bd p0=some r):cR TT C.wide (evW TT C.wide n91 b91) n91 Tryz.f91.results.toList (aU Tryz.f91) [.agg [.v (.i .i64 p0.iO),.v (.i .i64 p0.je),.v (.i .i64 p0.ad.bt),.v (.s p0.ad.iU),.v (.s p0.ad.iE),.v (.s p0.ad.iq),.v (.i .i64 p0.ad.fN)]] []=some (.v (.i .i64 r),[]):=by
 revert hF
 unfold Bd
 refine yw ?_
 unfold ux
 refine bF (fun h1=>?_) (fun h1=>?_)
 focus
  have g1:=bK (yu p0.iO _ (yt p0.iO))
  refine bF (fun h2=>?_) (fun h2=>?_)
  rotate_left 1
  have g2:=bK (yu p0.je _ (yt p0.je))
  refine aX (fun h3=>?_) (fun h3=>?_)
  focus
   have g3:=bK (JG p0.ad _ (Jv p0.ad))
  rotate_left 1
 rotate_left 3
 unfold vB
 refine bF (fun h2=>?_) (fun h2=>?_)
 rotate_left 1
 refine bF (fun h3=>?_) (fun h3=>?_)
 rotate_left 1
 refine bF (fun h4=>?_) (fun h4=>?_)
 rotate_left 1
 refine bF (fun h5=>?_) (fun h5=>?_)
 rotate_left 1
 refine bF (fun h6=>?_) (fun h6=>?_)
 rotate_left 1
 refine aX (fun h7=>?_) (fun h7=>?_)
 rotate_left 1
 all_goals (rintro rfl;rw [bk];show cC _ _ _ (aH _ _ _ _ (Code.seq _ _) _)=_;simp (maxSteps:=4000000) only [*,qgC,qiU,qbW,qim,Zh,qgV,qdW,↓RP,RB,RC,Nat.reduceBEq,bP,List.map,Nat.reduceAdd,aG,bne,↓ao,↓am,↓aa,ty3,mD,yd,CI])
def Tq:List (Nat×List Nat):=[(0,[1]),(1,[1,20]),(2,[2]),(3,[1,22]),(4,[26]),(5,[2]),(6,[2]),(7,[2])]
def XV:List (Nat×List Nat×List Nat):=[(20,[],[1]),(22,[1],[1]),(26,[],[])]
def n49:cL where
 keep:=ax Tq
 ro:=fun t=>t==1
 mv:=fun _=>false
 give:=fun _=>false
 free:=fun _=>[]
 alive:=av XV
theorem qhH (t:Nat) (x:Bool) (e:Env) (S:bH):cK n49 t x ⟨e,S⟩=atO (av XV t x) e S:=cF rfl t x e S
theorem qfW (i:Nat):n49.keep i=ax Tq i:=rfl
theorem qdS (t:Nat):n49.ro t=(t==1):=rfl
theorem Vm (t:Nat):n49.mv t=(false):=rfl
theorem qdd:Tryz.f49.results.toList= [.tmp 2]:=rfl
noncomputable def b49:Code:=aU Tryz.f49
theorem zh (C:aj)  (p0:iV) (c:Code) (ho:cD 0 1 b49=some c) (r:Bool) (hF:ku p0=r): @cV TT C.wide (evW TT C.wide n49 b49) n49 0 1 ⟨[(1,.rp [.i .i64 p0.iI,.i .i64 p0.iS,.b p0.jY,.i .i64 p0.cO.iO,.i .i64 p0.cO.je,.i .i64 p0.cO.ad.bt,.s p0.cO.ad.iU,.s p0.cO.ad.iE,.s p0.cO.ad.iq,.i .i64 p0.cO.ad.fN])],[]⟩ ⟨c⟩=some (.normal,⟨[(1,.rp [.i .i64 p0.iI,.i .i64 p0.iS,.b p0.jY,.i .i64 p0.cO.iO,.i .i64 p0.cO.je,.i .i64 p0.cO.ad.bt,.s p0.cO.ad.iU,.s p0.cO.ad.iE,.s p0.cO.ad.iq,.i .i64 p0.cO.ad.fN]),(20,.v (.b r))],[]⟩):=by
 have e:=Option.some.inj (ho.symm.trans (rfl:cD 0 1 b49=some _))
 subst e
 clear ho
 show aH _ _ _ _ _ _=_
 revert hF
 unfold ku
 refine aX (fun h1=>?_) (fun h1=>?_)
 rotate_left 1
 refine aX (fun h2=>?_) (fun h2=>?_)
 rotate_left 1
 refine aX (fun h3=>?_) (fun h3=>?_)
 rotate_left 1
 all_goals (rintro rfl;simp (maxSteps:=4000000) only [*,qfW,Tq,Vm,↓RP,RB,RC,Nat.reduceBEq,List.map,ty3,zN,↓aa _ _ _ _ 1])
theorem BA (C:aj) (ON:HE C) (p0:iV) (r:Int) (hF:rm p0=some r):cR TT C.wide (evW TT C.wide n49 b49) n49 Tryz.f49.results.toList (aU Tryz.f49) [.agg [.v (.i .i64 p0.iI),.v (.i .i64 p0.iS),.v (.b p0.jY),.v (.i .i64 p0.cO.iO),.v (.i .i64 p0.cO.je),.v (.i .i64 p0.cO.ad.bt),.v (.s p0.cO.ad.iU),.v (.s p0.cO.ad.iE),.v (.s p0.cO.ad.iq),.v (.i .i64 p0.cO.ad.fN)]] []=some (.v (.i .i64 r),[]):=by
 revert hF
 unfold rm
 refine yw ?_
 unfold kh
 have g1:=zh C p0 _ rfl (ku p0) rfl
 refine aX (fun h1=>?_) (fun h1=>?_)
 rotate_left 1
 refine bF (fun h2=>?_) (fun h2=>?_)
 focus
  have g2:=bK (ON p0.cO _ (Oe p0.cO))
  try simp only [h2] at g1
 rotate_left 1
 unfold pp
 refine bF (fun h3=>?_) (fun h3=>?_)
 focus
  try simp only [h2] at g1
 rotate_left 1
 refine bF (fun h4=>?_) (fun h4=>?_)
 focus
  try simp only [h2] at g1
 rotate_left 1
 refine bF (fun h5=>?_) (fun h5=>?_)
 focus
  try simp only [h2] at g1
 rotate_left 1
 refine bF (fun h6=>?_) (fun h6=>?_)
 focus
  try simp only [h2] at g1
 rotate_left 1
 refine bF (fun h7=>?_) (fun h7=>?_)
 focus
  try simp only [h2] at g1
 rotate_left 1
 refine bF (fun h8=>?_) (fun h8=>?_)
 focus
  try simp only [h2] at g1
 rotate_left 1
 refine aX (fun h9=>?_) (fun h9=>?_)
 focus
  try simp only [h2] at g1
 rotate_left 1
 try simp only [h2] at g1
 all_goals (rintro rfl;rw [bk];show cC _ _ _ (aH _ _ _ _ (Code.seq _ _) _)=_;simp (maxSteps:=4000000) only [*,qdd,qhH,XV,qfW,Tq,qdS,Vm,↓RP,RB,RC,Nat.reduceBEq,bP,List.map,Nat.reduceAdd,aG,bne,↓ao,↓am,ty3,ty4,mD,yd,CI,zN,↓aa _ _ _ _ 0,↓bg _ _ _ _ 1,↓aa _ _ _ _ 2,↓aa _ _ _ _ 3,↓aa _ _ _ _ 4,↓aa _ _ _ _ 5,↓aa _ _ _ _ 6,↓aa _ _ _ _ 7])
def Wb:List (Nat×List Nat):=[(0,[0,2]),(1,[0,2,11]),(2,[2,3]),(3,[2,4]),(4,[2,4,5,6]),(5,[2,5,7]),(6,[2,5,7,25]),(7,[2,3]),(8,[2,5,8]),(9,[2,5,8,31]),(10,[2,3]),(11,[2,3])]
def qaM:List (Nat×List Nat×List Nat):=[(11,[2],[0,2]),(25,[2,7],[2,5]),(31,[2,8],[2,5])]
def n41:cL where
 keep:=ax Wb
 ro:=fun _=>false
 mv:=fun _=>false
 give:=fun _=>false
 free:=fun _=>[]
 alive:=av qaM
theorem qiD (t:Nat) (x:Bool) (e:Env) (S:bH):cK n41 t x ⟨e,S⟩=atO (av qaM t x) e S:=cF rfl t x e S
theorem qhB (i:Nat):n41.keep i=ax Wb i:=rfl
theorem qdL (t:Nat):n41.ro t=(false):=rfl
theorem qgz (t:Nat):n41.mv t=(false):=rfl
theorem qfy (t:Nat):n41.give t=(false):=rfl
theorem qcI:Tryz.f41.results.toList= [.cell 2 60,.tmp 3]:=rfl
noncomputable def b41:Code:=aU Tryz.f41
theorem Be (C:aj) (Rb:Ey C) (I3:C1 C) (uk:pt C) (p0:List Int) (r:iV×Int) (hF:l5 p0=some r):cR TT C.wide (evW TT C.wide n41 b41) n41 Tryz.f41.results.toList (aU Tryz.f41) [.v (.sl 1 (ah cE p0))] []=some (.tup [.agg [.v (.i .i64 r.1.iI),.v (.i .i64 r.1.iS),.v (.b r.1.jY),.v (.i .i64 r.1.cO.iO),.v (.i .i64 r.1.cO.je),.v (.i .i64 r.1.cO.ad.bt),.v (.s r.1.cO.ad.iU),.v (.s r.1.cO.ad.iE),.v (.s r.1.cO.ad.iq),.v (.i .i64 r.1.cO.ad.fN)],.v (.i .i64 r.2)],[]):=by
 revert hF
 unfold l5
 refine aX (fun h1=>?_) (fun h1=>?_)
 rotate_left 1
 refine az ?_
 rintro⟨x1,x2,x3⟩ h2
 dsimp only
 have g1:C.wide 81 [.ptr 1 0] [[.v (.i .i64 0),.v (.i .i64 0),.v (.b false),.v (.i .i64 0),.v (.i .i64 0),.v (.i .i64 0),.v (.s ByteArray.empty),.v (.s ByteArray.empty),.v (.s ByteArray.empty),.v (.i .i64 0)],[.v (.sl 1 (ah cE p0)),.v (.b false)]]=some (.tup [.agg [.v (.i .i64 x1.iI),.v (.i .i64 x1.iS),.v (.b x1.jY),.v (.i .i64 x1.cO.iO),.v (.i .i64 x1.cO.je),.v (.i .i64 x1.cO.ad.bt),.v (.s x1.cO.ad.iU),.v (.s x1.cO.ad.iE),.v (.s x1.cO.ad.iq),.v (.i .i64 x1.cO.ad.fN)],.v (.b x2)],[[.v (.i .i64 0),.v (.i .i64 0),.v (.b false),.v (.i .i64 0),.v (.i .i64 0),.v (.i .i64 0),.v (.s ByteArray.empty),.v (.s ByteArray.empty),.v (.s ByteArray.empty),.v (.i .i64 0)],[.v (.sl 1 (ah cE x3.frest)),.v (.b x3.fshort)]]):=cX [1] rfl rfl rfl rfl (Rb (ir.mk p0 false) _ h2) rfl rfl
 refine az ?_
 rintro⟨x4,x5⟩ h3
 dsimp only
 have g2:C.wide 69 [.ptr 1 0,.v (.b x2)] [[.v (.i .i64 0),.v (.i .i64 0),.v (.b false),.v (.i .i64 0),.v (.i .i64 0),.v (.i .i64 0),.v (.s ByteArray.empty),.v (.s ByteArray.empty),.v (.s ByteArray.empty),.v (.i .i64 0)],[.v (.sl 1 (ah cE x3.frest)),.v (.b x3.fshort)],[.v (.i .i64 x1.iI),.v (.i .i64 x1.iS),.v (.b x1.jY),.v (.i .i64 x1.cO.iO),.v (.i .i64 x1.cO.je),.v (.i .i64 x1.cO.ad.bt),.v (.s x1.cO.ad.iU),.v (.s x1.cO.ad.iE),.v (.s x1.cO.ad.iq),.v (.i .i64 x1.cO.ad.fN)]]=some (.v (.i .i64 x4),[[.v (.i .i64 0),.v (.i .i64 0),.v (.b false),.v (.i .i64 0),.v (.i .i64 0),.v (.i .i64 0),.v (.s ByteArray.empty),.v (.s ByteArray.empty),.v (.s ByteArray.empty),.v (.i .i64 0)],[.v (.sl 1 (ah cE x5.frest)),.v (.b x5.fshort)],[.v (.i .i64 x1.iI),.v (.i .i64 x1.iS),.v (.b x1.jY),.v (.i .i64 x1.cO.iO),.v (.i .i64 x1.cO.je),.v (.i .i64 x1.cO.ad.bt),.v (.s x1.cO.ad.iU),.v (.s x1.cO.ad.iE),.v (.s x1.cO.ad.iq),.v (.i .i64 x1.cO.ad.fN)]]):=cX [1] rfl rfl rfl rfl (I3 x2 x3 _ h3) rfl rfl
 refine bF (fun h4=>?_) (fun h4=>?_)
 rotate_left 1
 have g3:=bK (uk x1 _ (xk x1))
 refine aX (fun h5=>?_) (fun h5=>?_)
 rotate_left 1
 all_goals (rintro⟨⟩;rw [bk];show cC _ _ _ (aH _ _ _ _ (Code.seq _ _) _)=_;simp (maxSteps:=4000000) only [*,qcI,qiD,qaM,qhB,Wb,qdL,qgz,qfy,↓RP,RB,RC,Nat.reduceBEq,bP,List.map,Nat.reduceAdd,Nat.reduceLeDiff,bne,↓ao,↓am,↓aa,aP,ty3,ty4,qM,mD,CI,zN,Ap,AU])
set_option maxRecDepth 100000 in
theorem B6 (C:aj) (l:List (List V)) (h:dh l.length 1=true):dH TT C n40 (aU Tryz.f40) ⟨enter 0 [.v (.sl 1 l)],[]⟩ (It TT 0 Tryz.f40.results.toList (.own 1 l) []):=by
 cases l with
 |nil=>
  simp only [List.length_nil] at h
  simp only [h,Tryz.f40,SR,Od,aU,Option.getD_some,↓cond_true,↓cond_false,enter,List.toList_toArray,cond_false,aQ,be,cond_true,bf,aJ,Mx.bl,opnd,Mx.bI,Nat.reduceBEq,bQ,Mx.fit,co,List.isEmpty_nil,Bool.false_or,Bool.or_false,Bool.true_or,Bool.or_true,Bool.and_true,Bool.true_and,Bool.not_true,Bool.not_false,Bool.and_self,gS,zt,aN,aA,Mx.put,ofConst,ofCell,Mx.prune,List.map_cons,iR,aK,putDst,hJ,aw,ar,List.length_cons,List.length_nil,List.map,List.take_zero,Nat.reduceMul,Nat.zero_add,Nat.add_zero,cz,aO,eq_self,reduceCtorEq,aC,bu,bx,cA,bS,bJ,aM,lowC,List.take_zero,List.length_nil,kill,spendLoc,spendOk,bO,frz,cq,bG,takeParts,bv,aR,List.append_nil,Nat.reduceBNe,Nat.reduceLeDiff,decide_true,beq_self_eq_true,bq,gG,ie,ax,ty5,qM,dH,xV,xU,It,List.mem_cons,List.not_mem_nil,forall_eq_or_imp,forall_eq,exists_eq_left',Option.some.injEq,or_true,or_false,and_true,true_and]
 |cons x l=>
  simp only [List.length_cons] at h
  simp only [h,Tryz.f40,SR,Od,aU,Option.getD_some,↓cond_true,↓cond_false,enter,List.toList_toArray,Bool.false_and,cond_false,aQ,be,cond_true,bf,aJ,Mx.bl,opnd,Mx.bI,Nat.reduceBEq,bQ,Mx.fit,co,List.isEmpty_cons,List.isEmpty_nil,Bool.false_or,Bool.or_false,Bool.or_true,Bool.and_true,Bool.not_true,Bool.not_false,Bool.and_self,gS,zt,aN,aA,Mx.put,ofConst,ofCell,Mx.prune,List.map_cons,iR,aK,putDst,hJ,aw,ar,List.length_cons,List.length_nil,List.map,List.take_zero,Nat.reduceMul,Nat.zero_add,cz,aO,eq_self,reduceCtorEq,aC,bu,bx,cA,bS,bJ,aM,lowC,List.take_zero,List.length_nil,kill,spendLoc,spendOk,bO,frz,cq,bG,takeParts,bv,aR,List.nil_append,Nat.reduceBNe,Nat.reduceLeDiff,decide_true,beq_self_eq_true,bq,gG,ie,ax,ty5,qM,dH,xV,xU,It,List.mem_cons,List.not_mem_nil,forall_eq,exists_eq_left',Option.some.injEq,or_true,or_false,true_and]
theorem CN (C:aj) (l r:List Int) (h:qK l=some r):dH TT C n40 (aU Tryz.f40) ⟨enter 0 [.v (.sl 1 (ah cE l))],[]⟩ (It TT 0 Tryz.f40.results.toList (.own 1 (ah cE r)) []):=by
 unfold qK at h
 cases hq:dh l.length 1 with
 |false=>rw [hq] at h;cases h
 |true=>
  rw [hq,cond_true] at h
  obtain rfl:=Option.some.inj h
  exact B6 C _ (by rw [AF];exact hq)
def V9:List (Nat×List Nat):=[(0,[])]
def n97:cL where
 keep:=ax V9
 ro:=fun _=>false
 mv:=fun _=>false
 give:=fun _=>false
 free:=fun i=>match i with|0=>[(0,2),(1,2),(0,3),(1,3),(0,4),(1,4),(2,4),(3,4),(0,5),(1,5),(0,6),(1,6),(0,7),(1,7)]|_=>[]
theorem qh9 (i:Nat):n97.keep i=ax V9 i:=rfl
theorem qcC (t:Nat):n97.mv t=(false):=rfl
theorem qfA (t:Nat):n97.give t=(false):=rfl
theorem qd9:n97.free 0= [(0,2),(1,2),(0,3),(1,3),(0,4),(1,4),(2,4),(3,4),(0,5),(1,5),(0,6),(1,6),(0,7),(1,7)]:=rfl
theorem qcB:Tryz.f97.results.toList= []:=rfl
noncomputable def b97:Code:=aU Tryz.f97
theorem Fw (C:aj) (nb:oE C) (p0:ir) (p1:iy) (r:ir×iy) (hF:tv p0 p1=some r):cR TT C.wide (evW TT C.wide n97 b97) n97 Tryz.f97.results.toList (aU Tryz.f97) [.ptr 1 0,.ptr 2 0] [[.v (.sl 1 (ah cE p0.frest)),.v (.b p0.fshort)],[.v (.i .i64 p1.bt),.v (.s p1.iq),.v (.i .i64 p1.iF),.own 2 (ah iD.row p1.iA),.own 1 (ah bY p1.iC),.own 2 (ah im.row p1.il)],[.ptr 0 0]]=some (.tup [],[[.v (.sl 1 (ah cE r.1.frest)),.v (.b r.1.fshort)],[.v (.i .i64 r.2.bt),.v (.s r.2.iq),.v (.i .i64 r.2.iF),.own 2 (ah iD.row r.2.iA),.own 1 (ah bY r.2.iC),.own 2 (ah im.row r.2.il)],[.ptr 0 0]]):=by
 revert hF
 unfold tv
 refine az ?_
 rintro⟨x1,x2⟩ h1
 dsimp only
 have g1:C.wide 64 [.ptr 0 0] [[.v (.sl 1 (ah cE p0.frest)),.v (.b p0.fshort)],[.v (.i .i64 p1.bt),.v (.s p1.iq),.v (.i .i64 p1.iF),.own 2 (ah iD.row p1.iA),.own 1 (ah bY p1.iC),.own 2 (ah im.row p1.il)],[.ptr 0 0]]=some (.v (.s x1),[[.v (.sl 1 (ah cE x2.frest)),.v (.b x2.fshort)],[.v (.i .i64 p1.bt),.v (.s p1.iq),.v (.i .i64 p1.iF),.own 2 (ah iD.row p1.iA),.own 1 (ah bY p1.iC),.own 2 (ah im.row p1.il)],[.ptr 0 0]]):=cX [0] rfl rfl rfl rfl (nb p0 _ h1) rfl rfl
 refine az ?_
 rintro⟨x3,x4⟩ h2
 dsimp only
 have g2:C.wide 64 [.ptr 0 0] [[.v (.sl 1 (ah cE x2.frest)),.v (.b x2.fshort)],[.v (.i .i64 p1.bt),.v (.s p1.iq),.v (.i .i64 p1.iF),.own 2 (ah iD.row p1.iA),.own 1 (ah bY p1.iC),.own 2 (ah im.row p1.il)],[.ptr 0 0]]=some (.v (.s x3),[[.v (.sl 1 (ah cE x4.frest)),.v (.b x4.fshort)],[.v (.i .i64 p1.bt),.v (.s p1.iq),.v (.i .i64 p1.iF),.own 2 (ah iD.row p1.iA),.own 1 (ah bY p1.iC),.own 2 (ah im.row p1.il)],[.ptr 0 0]]):=cX [0] rfl rfl rfl rfl (nb x2 _ h2) rfl rfl
 refine aX (fun h3=>?_) (fun _=>nofun)
 all_goals (rintro⟨⟩;rw [bk];show cC _ _ _ (aH _ _ _ _ (Code.region _ _ _) _)=_;simp (maxSteps:=4000000) only [*,qcB,qh9,V9,qd9,qcC,qfA,↓RP,RB,RC,Nat.reduceBEq,bP,List.map,Nat.reduceAdd,Nat.reduceMul,List.foldl_cons,List.foldl_nil,List.filter_cons,List.filter_nil,Nat.reduceSub,Nat.reduceLeDiff,bne,↓aq,ty9,ue,mh,Ap,AH,iD.one])
def CE:List (Nat×List Nat):=[(0,[0,1,4]),(1,[0,1,4,15]),(2,[0,1,4]),(3,[0,1,4])]
def MM:List (Nat×List Nat×List Nat):=[(15,[0,1,4],[])]
def n62:cL where
 keep:=ax CE
 ro:=fun _=>false
 mv:=fun _=>false
 give:=fun _=>false
 free:=fun _=>[]
 alive:=av MM
theorem RA (t:Nat) (x:Bool) (e:Env) (S:bH):cK n62 t x ⟨e,S⟩=atO (av MM t x) e S:=cF rfl t x e S
theorem E4 (i:Nat):n62.keep i=ax CE i:=rfl
theorem Lp (t:Nat):n62.mv t=(false):=rfl
theorem Ku (t:Nat):n62.give t=(false):=rfl
theorem KP:Tryz.f62.results.toList= []:=rfl
noncomputable def b62:Code:=aU Tryz.f62
noncomputable def qdg:Code:=(bE 0 (aU Tryz.f62)).getD .skip
theorem DV:bE 0 b62=some qdg:=rfl
def mM  (s:Int×ir×iy):St:=⟨[(0,.ptr 0 0),(1,.clo 97 [.ptr 1 0,.ptr 2 0]),(4,.v (.i .i64 s.1))],[[.v (.sl 1 (ah cE s.2.1.frest)),.v (.b s.2.1.fshort)],[.v (.i .i64 s.2.2.bt),.v (.s s.2.2.iq),.v (.i .i64 s.2.2.iF),.own 2 (ah iD.row s.2.2.iA),.own 1 (ah bY s.2.2.iC),.own 2 (ah im.row s.2.2.il)],[.ptr 0 0]]⟩
def pM  (r:ir×iy):Option (Ex×St):=some (.normal,⟨[],[[.v (.sl 1 (ah cE r.1.frest)),.v (.b r.1.fshort)],[.v (.i .i64 r.2.bt),.v (.s r.2.iq),.v (.i .i64 r.2.iF),.own 2 (ah iD.row r.2.iA),.own 1 (ah bY r.2.iC),.own 2 (ah im.row r.2.il)],[.ptr 0 0]]⟩)
theorem xb (C:aj) (wH:wL C)  (s:Int×ir×iy) (o:(Int×ir×iy)⊕(ir×iy)) (hF:kl  s=some o):evW TT C.wide n62 b62 0 (mM  s)=Sum.elim (fun s=>evW TT C.wide n62 b62 0 (mM  s)) (fun r=>pM  r) o:=by
 obtain⟨p0,p1,p2⟩:=s
 rw [cG TT n62 DV]
 revert hF
 unfold kl
 try dsimp only
 refine bF (fun h1=>?_) (fun h1=>?_)
 rotate_left 1
 refine aX (fun h2=>?_) (fun h2=>?_)
 rotate_left 1
 refine az ?_
 rintro⟨x1,x2⟩ h3
 dsimp only
 have g1:C.wide 97 [.ptr 1 0,.ptr 2 0] [[.v (.sl 1 (ah cE p1.frest)),.v (.b false)],[.v (.i .i64 p2.bt),.v (.s p2.iq),.v (.i .i64 p2.iF),.own 2 (ah iD.row p2.iA),.own 1 (ah bY p2.iC),.own 2 (ah im.row p2.il)],[.ptr 0 0]]=some (.tup [],[[.v (.sl 1 (ah cE x1.frest)),.v (.b x1.fshort)],[.v (.i .i64 x2.bt),.v (.s x2.iq),.v (.i .i64 x2.iF),.own 2 (ah iD.row x2.iA),.own 1 (ah bY x2.iC),.own 2 (ah im.row x2.il)],[.ptr 0 0]]):=sA [1,2] [0,1,2] rfl rfl rfl rfl rfl rfl rfl rfl (wH (ir.mk p1.frest false) p2 _ h3) rfl rfl
 all_goals (rintro⟨⟩;show cN _ _ _ (aH _ _ _ _ (Code.seq _ _) _)=_;simp (maxSteps:=4000000) only [*,mM,pM,RA,MM,E4,CE,Lp,↓RP,RB,RC,↓ab,Nat.reduceBEq,List.map,Nat.reduceAdd,↓ao,↓am,↓aa,ty3,ty4,AU])
theorem yV (C:aj) (kJ:kG C) (wH:wL C) (p0:ir) (p1:iy) (r:ir×iy) (hF:lj p0 p1=some r):cR TT C.wide (evW TT C.wide n62 b62) n62 Tryz.f62.results.toList (aU Tryz.f62) [.ptr 0 0,.clo 97 [.ptr 1 0,.ptr 2 0]] [[.v (.sl 1 (ah cE p0.frest)),.v (.b p0.fshort)],[.v (.i .i64 p1.bt),.v (.s p1.iq),.v (.i .i64 p1.iF),.own 2 (ah iD.row p1.iA),.own 1 (ah bY p1.iC),.own 2 (ah im.row p1.il)],[.ptr 0 0]]=some (.tup [],[[.v (.sl 1 (ah cE r.1.frest)),.v (.b r.1.fshort)],[.v (.i .i64 r.2.bt),.v (.s r.2.iq),.v (.i .i64 r.2.iF),.own 2 (ah iD.row r.2.iA),.own 1 (ah bY r.2.iC),.own 2 (ah im.row r.2.il)],[.ptr 0 0]]):=by
 revert hF
 unfold lj
 refine az ?_
 rintro⟨x1,x2⟩ h1
 dsimp only
 have g1:C.wide 67 [.ptr 0 0] [[.v (.sl 1 (ah cE p0.frest)),.v (.b p0.fshort)],[.v (.i .i64 p1.bt),.v (.s p1.iq),.v (.i .i64 p1.iF),.own 2 (ah iD.row p1.iA),.own 1 (ah bY p1.iC),.own 2 (ah im.row p1.il)],[.ptr 0 0]]=some (.v (.i .i64 x1),[[.v (.sl 1 (ah cE x2.frest)),.v (.b x2.fshort)],[.v (.i .i64 p1.bt),.v (.s p1.iq),.v (.i .i64 p1.iF),.own 2 (ah iD.row p1.iA),.own 1 (ah bY p1.iC),.own 2 (ah im.row p1.il)],[.ptr 0 0]]):=cX [0] rfl rfl rfl rfl (kJ p0 _ h1) rfl rfl
 refine az ?_
 rintro⟨x3,x4⟩ h2
 dsimp only
 have g2:=cH _ _ (xb C wH) h2
 try simp only [mM,pM] at g2
 all_goals (rintro⟨⟩;rw [bk];show cC _ _ _ (aH _ _ _ _ (Code.seq _ _) _)=_;simp (maxSteps:=4000000) only [*,KP,E4,CE,Ku,↓RP,RB,RC,Nat.reduceBEq,List.map,Nat.reduceAdd,↓ao,↓aa,ty3])
def YI:List (Nat×List Nat):=[(0,[])]
def n99:cL where
 keep:=ax YI
 ro:=fun _=>false
 mv:=fun _=>false
 give:=fun _=>false
 free:=fun i=>match i with|0=>[(0,1),(0,2),(0,3)]|_=>[]
theorem qie (i:Nat):n99.keep i=ax YI i:=rfl
theorem qew (t:Nat):n99.mv t=(false):=rfl
theorem qdG (t:Nat):n99.give t=(false):=rfl
theorem qes:n99.free 0= [(0,1),(0,2),(0,3)]:=rfl
theorem qd2:Tryz.f99.results.toList= []:=rfl
noncomputable def b99:Code:=aU Tryz.f99
theorem E2 (C:aj) (nb:oE C) (p0:ir) (p1:List ByteArray) (r:ir×(List ByteArray)) (hF:ti p0 p1=some r):cR TT C.wide (evW TT C.wide n99 b99) n99 Tryz.f99.results.toList (aU Tryz.f99) [.ptr 1 0,.ptr 2 0] [[.v (.sl 1 (ah cE p0.frest)),.v (.b p0.fshort)],[.own 1 (ah bY p1)],[.ptr 0 0]]=some (.tup [],[[.v (.sl 1 (ah cE r.1.frest)),.v (.b r.1.fshort)],[.own 1 (ah bY r.2)],[.ptr 0 0]]):=by
 revert hF
 unfold ti
 refine az ?_
 rintro⟨x1,x2⟩ h1
 dsimp only
 have g1:C.wide 64 [.ptr 0 0] [[.v (.sl 1 (ah cE p0.frest)),.v (.b p0.fshort)],[.own 1 (ah bY p1)],[.ptr 0 0]]=some (.v (.s x1),[[.v (.sl 1 (ah cE x2.frest)),.v (.b x2.fshort)],[.own 1 (ah bY p1)],[.ptr 0 0]]):=cX [0] rfl rfl rfl rfl (nb p0 _ h1) rfl rfl
 refine aX (fun h2=>?_) (fun _=>nofun)
 all_goals (rintro⟨⟩;rw [bk];show cC _ _ _ (aH _ _ _ _ (Code.region _ _ _) _)=_;simp (maxSteps:=4000000) only [*,qd2,qie,YI,qes,qew,qdG,↓RP,RB,RC,Nat.reduceBEq,List.map,Nat.reduceAdd,Nat.reduceMul,List.foldl_cons,List.foldl_nil,List.filter_cons,List.filter_nil,Nat.reduceSub,Nat.reduceLeDiff,bne,↓aq,ty9,ph,Ap])
def mZ  (s:Int×ir×(List ByteArray)):St:=⟨[(0,.ptr 0 0),(1,.clo 99 [.ptr 1 0,.ptr 2 0]),(4,.v (.i .i64 s.1))],[[.v (.sl 1 (ah cE s.2.1.frest)),.v (.b s.2.1.fshort)],[.own 1 (ah bY s.2.2)],[.ptr 0 0]]⟩
def pR  (r:ir×(List ByteArray)):Option (Ex×St):=some (.normal,⟨[],[[.v (.sl 1 (ah cE r.1.frest)),.v (.b r.1.fshort)],[.own 1 (ah bY r.2)],[.ptr 0 0]]⟩)
theorem xf (C:aj) (w6:wK C)  (s:Int×ir×(List ByteArray)) (o:(Int×ir×(List ByteArray))⊕(ir×(List ByteArray))) (hF:kf  s=some o):evW TT C.wide n62 b62 0 (mZ  s)=Sum.elim (fun s=>evW TT C.wide n62 b62 0 (mZ  s)) (fun r=>pR  r) o:=by
 obtain⟨p0,p1,p2⟩:=s
 rw [cG TT n62 DV]
 revert hF
 unfold kf
 try dsimp only
 refine bF (fun h1=>?_) (fun h1=>?_)
 rotate_left 1
 refine aX (fun h2=>?_) (fun h2=>?_)
 rotate_left 1
 refine az ?_
 rintro⟨x1,x2⟩ h3
 dsimp only
 have g1:C.wide 99 [.ptr 1 0,.ptr 2 0] [[.v (.sl 1 (ah cE p1.frest)),.v (.b false)],[.own 1 (ah bY p2)],[.ptr 0 0]]=some (.tup [],[[.v (.sl 1 (ah cE x1.frest)),.v (.b x1.fshort)],[.own 1 (ah bY x2)],[.ptr 0 0]]):=sA [1,2] [0,1,2] rfl rfl rfl rfl rfl rfl rfl rfl (w6 (ir.mk p1.frest false) p2 _ h3) rfl rfl
 all_goals (rintro⟨⟩;show cN _ _ _ (aH _ _ _ _ (Code.seq _ _) _)=_;simp (maxSteps:=4000000) only [*,mZ,pR,RA,MM,E4,CE,Lp,↓RP,RB,RC,↓ab,Nat.reduceBEq,List.map,Nat.reduceAdd,↓ao,↓am,↓aa,ty3,ty4,AU])
theorem yG (C:aj) (kJ:kG C) (w6:wK C) (p0:ir) (p1:List ByteArray) (r:ir×(List ByteArray)) (hF:mq p0 p1=some r):cR TT C.wide (evW TT C.wide n62 b62) n62 Tryz.f62.results.toList (aU Tryz.f62) [.ptr 0 0,.clo 99 [.ptr 1 0,.ptr 2 0]] [[.v (.sl 1 (ah cE p0.frest)),.v (.b p0.fshort)],[.own 1 (ah bY p1)],[.ptr 0 0]]=some (.tup [],[[.v (.sl 1 (ah cE r.1.frest)),.v (.b r.1.fshort)],[.own 1 (ah bY r.2)],[.ptr 0 0]]):=by
 revert hF
 unfold mq
 refine az ?_
 rintro⟨x1,x2⟩ h1
 dsimp only
 have g1:C.wide 67 [.ptr 0 0] [[.v (.sl 1 (ah cE p0.frest)),.v (.b p0.fshort)],[.own 1 (ah bY p1)],[.ptr 0 0]]=some (.v (.i .i64 x1),[[.v (.sl 1 (ah cE x2.frest)),.v (.b x2.fshort)],[.own 1 (ah bY p1)],[.ptr 0 0]]):=cX [0] rfl rfl rfl rfl (kJ p0 _ h1) rfl rfl
 refine az ?_
 rintro⟨x3,x4⟩ h2
 dsimp only
 have g2:=cH _ _ (xf C w6) h2
 try simp only [mZ,pR] at g2
 all_goals (rintro⟨⟩;rw [bk];show cC _ _ _ (aH _ _ _ _ (Code.seq _ _) _)=_;simp (maxSteps:=4000000) only [*,KP,E4,CE,Ku,↓RP,RB,RC,Nat.reduceBEq,List.map,Nat.reduceAdd,↓ao,↓aa,ty3])
def qbT:List (Nat×List Nat):=[(0,[1]),(1,[1,3]),(2,[3]),(3,[2,7])]
def n68:cL where
 keep:=ax qbT
 ro:=fun _=>false
 mv:=fun t=>t==7
 give:=fun _=>false
 free:=fun _=>[]
theorem qiC (i:Nat):n68.keep i=ax qbT i:=rfl
theorem qdy (t:Nat):n68.ro t=(false):=rfl
theorem qfm (t:Nat):n68.mv t=(t==7):=rfl
theorem qdn (t:Nat):n68.give t=(false):=rfl
theorem qe5:Tryz.f68.results.toList= [.tmp 2]:=rfl
noncomputable def b68:Code:=aU Tryz.f68
theorem OF (C:aj) (yN:u3 C) (p0:ir) (r:(List ByteArray)×ir) (hF:wD p0=some r):cR TT C.wide (evW TT C.wide n68 b68) n68 Tryz.f68.results.toList (aU Tryz.f68) [.ptr 0 0] [[.v (.sl 1 (ah cE p0.frest)),.v (.b p0.fshort)]]=some (.own 1 (ah bY r.1),[[.v (.sl 1 (ah cE r.2.frest)),.v (.b r.2.fshort)]]):=by
 revert hF
 unfold wD
 refine az ?_
 rintro⟨x1,x2⟩ h1
 dsimp only
 have g1:C.wide 62 [.ptr 0 0,.clo 99 [.ptr 2 0,.ptr 1 0]] [[.v (.sl 1 (ah cE p0.frest)),.v (.b p0.fshort)],[.ptr 0 0],[.own 1 []]]=some (.tup [],[[.v (.sl 1 (ah cE x1.frest)),.v (.b x1.fshort)],[.ptr 0 0],[.own 1 (ah bY x2)]]):=sA [0,2,1] [0,2,1] rfl rfl rfl rfl rfl rfl rfl rfl (yN p0 [] _ h1) rfl rfl
 all_goals (rintro⟨⟩;rw [bk];show cC _ _ _ (aH _ _ _ _ (Code.seq _ _) _)=_;simp (maxSteps:=4000000) only [*,qe5,qiC,qbT,qdy,qfm,qdn,↓RP,RB,RC,Nat.reduceBEq,List.map,Nat.reduceAdd,bne,↓ao,↓aa,ph,Ap])
def Yo:List (Nat×List Nat):=[(0,[])]
def n98:cL where
 keep:=ax Yo
 ro:=fun _=>false
 mv:=fun _=>false
 give:=fun _=>false
 free:=fun i=>match i with|0=>[(0,2),(1,2),(0,3),(1,3),(0,4),(1,4),(2,4),(3,4),(0,5),(1,5),(0,6),(1,6),(0,7),(1,7)]|_=>[]
theorem qhC (i:Nat):n98.keep i=ax Yo i:=rfl
theorem qfz (t:Nat):n98.mv t=(false):=rfl
theorem qfa (t:Nat):n98.give t=(false):=rfl
theorem qdl:n98.free 0= [(0,2),(1,2),(0,3),(1,3),(0,4),(1,4),(2,4),(3,4),(0,5),(1,5),(0,6),(1,6),(0,7),(1,7)]:=rfl
theorem qgx:Tryz.f98.results.toList= []:=rfl
noncomputable def b98:Code:=aU Tryz.f98
theorem Fs (C:aj) (nb:oE C) (jR:kC C) (p0:ir) (p1:iy) (r:ir×iy) (hF:tq p0 p1=some r):cR TT C.wide (evW TT C.wide n98 b98) n98 Tryz.f98.results.toList (aU Tryz.f98) [.ptr 1 0,.ptr 2 0] [[.v (.sl 1 (ah cE p0.frest)),.v (.b p0.fshort)],[.v (.i .i64 p1.bt),.v (.s p1.iq),.v (.i .i64 p1.iF),.own 2 (ah iD.row p1.iA),.own 1 (ah bY p1.iC),.own 2 (ah im.row p1.il)],[.ptr 0 0]]=some (.tup [],[[.v (.sl 1 (ah cE r.1.frest)),.v (.b r.1.fshort)],[.v (.i .i64 r.2.bt),.v (.s r.2.iq),.v (.i .i64 r.2.iF),.own 2 (ah iD.row r.2.iA),.own 1 (ah bY r.2.iC),.own 2 (ah im.row r.2.il)],[.ptr 0 0]]):=by
 revert hF
 unfold tq
 refine az ?_
 rintro⟨x1,x2⟩ h1
 dsimp only
 have g1:C.wide 64 [.ptr 0 0] [[.v (.sl 1 (ah cE p0.frest)),.v (.b p0.fshort)],[.v (.i .i64 p1.bt),.v (.s p1.iq),.v (.i .i64 p1.iF),.own 2 (ah iD.row p1.iA),.own 1 (ah bY p1.iC),.own 2 (ah im.row p1.il)],[.ptr 0 0]]=some (.v (.s x1),[[.v (.sl 1 (ah cE x2.frest)),.v (.b x2.fshort)],[.v (.i .i64 p1.bt),.v (.s p1.iq),.v (.i .i64 p1.iF),.own 2 (ah iD.row p1.iA),.own 1 (ah bY p1.iC),.own 2 (ah im.row p1.il)],[.ptr 0 0]]):=cX [0] rfl rfl rfl rfl (nb p0 _ h1) rfl rfl
 refine az ?_
 rintro⟨x3,x4⟩ h2
 dsimp only
 have g2:C.wide 61 [.ptr 0 0] [[.v (.sl 1 (ah cE x2.frest)),.v (.b x2.fshort)],[.v (.i .i64 p1.bt),.v (.s p1.iq),.v (.i .i64 p1.iF),.own 2 (ah iD.row p1.iA),.own 1 (ah bY p1.iC),.own 2 (ah im.row p1.il)],[.ptr 0 0]]=some (.v (.i .i64 x3),[[.v (.sl 1 (ah cE x4.frest)),.v (.b x4.fshort)],[.v (.i .i64 p1.bt),.v (.s p1.iq),.v (.i .i64 p1.iF),.own 2 (ah iD.row p1.iA),.own 1 (ah bY p1.iC),.own 2 (ah im.row p1.il)],[.ptr 0 0]]):=cX [0] rfl rfl rfl rfl (jR x2 _ h2) rfl rfl
 refine aX (fun h3=>?_) (fun _=>nofun)
 all_goals (rintro⟨⟩;rw [bk];show cC _ _ _ (aH _ _ _ _ (Code.region _ _ _) _)=_;simp (maxSteps:=4000000) only [*,qgx,qhC,Yo,qdl,qfz,qfa,↓RP,RB,RC,Nat.reduceBEq,bP,List.map,Nat.reduceAdd,Nat.reduceMul,List.foldl_cons,List.foldl_nil,List.filter_cons,List.filter_nil,Nat.reduceSub,Nat.reduceLeDiff,bne,↓aq,ty3,ty9,qu,mh,Ap,u7,im.one])
def mY  (s:Int×ir×iy):St:=⟨[(0,.ptr 0 0),(1,.clo 98 [.ptr 1 0,.ptr 2 0]),(4,.v (.i .i64 s.1))],[[.v (.sl 1 (ah cE s.2.1.frest)),.v (.b s.2.1.fshort)],[.v (.i .i64 s.2.2.bt),.v (.s s.2.2.iq),.v (.i .i64 s.2.2.iF),.own 2 (ah iD.row s.2.2.iA),.own 1 (ah bY s.2.2.iC),.own 2 (ah im.row s.2.2.il)],[.ptr 0 0]]⟩
def pv  (r:ir×iy):Option (Ex×St):=some (.normal,⟨[],[[.v (.sl 1 (ah cE r.1.frest)),.v (.b r.1.fshort)],[.v (.i .i64 r.2.bt),.v (.s r.2.iq),.v (.i .i64 r.2.iF),.own 2 (ah iD.row r.2.iA),.own 1 (ah bY r.2.iC),.own 2 (ah im.row r.2.il)],[.ptr 0 0]]⟩)
theorem xn (C:aj) (wQ:wJ C)  (s:Int×ir×iy) (o:(Int×ir×iy)⊕(ir×iy)) (hF:km  s=some o):evW TT C.wide n62 b62 0 (mY  s)=Sum.elim (fun s=>evW TT C.wide n62 b62 0 (mY  s)) (fun r=>pv  r) o:=by
 obtain⟨p0,p1,p2⟩:=s
 rw [cG TT n62 DV]
 revert hF
 unfold km
 try dsimp only
 refine bF (fun h1=>?_) (fun h1=>?_)
 rotate_left 1
 refine aX (fun h2=>?_) (fun h2=>?_)
 rotate_left 1
 refine az ?_
 rintro⟨x1,x2⟩ h3
 dsimp only
 have g1:C.wide 98 [.ptr 1 0,.ptr 2 0] [[.v (.sl 1 (ah cE p1.frest)),.v (.b false)],[.v (.i .i64 p2.bt),.v (.s p2.iq),.v (.i .i64 p2.iF),.own 2 (ah iD.row p2.iA),.own 1 (ah bY p2.iC),.own 2 (ah im.row p2.il)],[.ptr 0 0]]=some (.tup [],[[.v (.sl 1 (ah cE x1.frest)),.v (.b x1.fshort)],[.v (.i .i64 x2.bt),.v (.s x2.iq),.v (.i .i64 x2.iF),.own 2 (ah iD.row x2.iA),.own 1 (ah bY x2.iC),.own 2 (ah im.row x2.il)],[.ptr 0 0]]):=sA [1,2] [0,1,2] rfl rfl rfl rfl rfl rfl rfl rfl (wQ (ir.mk p1.frest false) p2 _ h3) rfl rfl
 all_goals (rintro⟨⟩;show cN _ _ _ (aH _ _ _ _ (Code.seq _ _) _)=_;simp (maxSteps:=4000000) only [*,mY,pv,RA,MM,E4,CE,Lp,↓RP,RB,RC,↓ab,Nat.reduceBEq,List.map,Nat.reduceAdd,↓ao,↓am,↓aa,ty3,ty4,AU])
theorem yT (C:aj) (kJ:kG C) (wQ:wJ C) (p0:ir) (p1:iy) (r:ir×iy) (hF:lg p0 p1=some r):cR TT C.wide (evW TT C.wide n62 b62) n62 Tryz.f62.results.toList (aU Tryz.f62) [.ptr 0 0,.clo 98 [.ptr 1 0,.ptr 2 0]] [[.v (.sl 1 (ah cE p0.frest)),.v (.b p0.fshort)],[.v (.i .i64 p1.bt),.v (.s p1.iq),.v (.i .i64 p1.iF),.own 2 (ah iD.row p1.iA),.own 1 (ah bY p1.iC),.own 2 (ah im.row p1.il)],[.ptr 0 0]]=some (.tup [],[[.v (.sl 1 (ah cE r.1.frest)),.v (.b r.1.fshort)],[.v (.i .i64 r.2.bt),.v (.s r.2.iq),.v (.i .i64 r.2.iF),.own 2 (ah iD.row r.2.iA),.own 1 (ah bY r.2.iC),.own 2 (ah im.row r.2.il)],[.ptr 0 0]]):=by
 revert hF
 unfold lg
 refine az ?_
 rintro⟨x1,x2⟩ h1
 dsimp only
 have g1:C.wide 67 [.ptr 0 0] [[.v (.sl 1 (ah cE p0.frest)),.v (.b p0.fshort)],[.v (.i .i64 p1.bt),.v (.s p1.iq),.v (.i .i64 p1.iF),.own 2 (ah iD.row p1.iA),.own 1 (ah bY p1.iC),.own 2 (ah im.row p1.il)],[.ptr 0 0]]=some (.v (.i .i64 x1),[[.v (.sl 1 (ah cE x2.frest)),.v (.b x2.fshort)],[.v (.i .i64 p1.bt),.v (.s p1.iq),.v (.i .i64 p1.iF),.own 2 (ah iD.row p1.iA),.own 1 (ah bY p1.iC),.own 2 (ah im.row p1.il)],[.ptr 0 0]]):=cX [0] rfl rfl rfl rfl (kJ p0 _ h1) rfl rfl
 refine az ?_
 rintro⟨x3,x4⟩ h2
 dsimp only
 have g2:=cH _ _ (xn C wQ) h2
 try simp only [mY,pv] at g2
 all_goals (rintro⟨⟩;rw [bk];show cC _ _ _ (aH _ _ _ _ (Code.seq _ _) _)=_;simp (maxSteps:=4000000) only [*,KP,E4,CE,Ku,↓RP,RB,RC,Nat.reduceBEq,List.map,Nat.reduceAdd,↓ao,↓aa,ty3])
def qbm:List (Nat×List Nat):=[(0,[1,2]),(1,[1,2,3]),(2,[1,2,3]),(3,[1,2,3]),(4,[2,3]),(5,[2])]
def n65:cL where
 keep:=ax qbm
 ro:=fun _=>false
 mv:=fun t=>t==20
 give:=fun _=>false
 free:=fun i=>match i with|1=>[(0,2),(1,2),(0,4),(1,4),(2,4),(3,4),(0,7),(1,7),(2,7),(3,7),(4,7),(5,7),(6,7)]|_=>[]
theorem qix (i:Nat):n65.keep i=ax qbm i:=rfl
theorem qgH (t:Nat):n65.ro t=(false):=rfl
theorem qgh (t:Nat):n65.mv t=(t==20):=rfl
theorem qf4 (t:Nat):n65.give t=(false):=rfl
theorem qcq:n65.free 1= [(0,2),(1,2),(0,4),(1,4),(2,4),(3,4),(0,7),(1,7),(2,7),(3,7),(4,7),(5,7),(6,7)]:=rfl
theorem qgc:Tryz.f65.results.toList= [.cell 2 109]:=rfl
noncomputable def b65:Code:=aU Tryz.f65
theorem On (C:aj) (kJ:kG C) (nb:oE C) (jR:kC C) (yH:rx C) (BY:xd C) (yL:uY C) (p0:ir) (r:iy×ir) (hF:xH p0=some r):cR TT C.wide (evW TT C.wide n65 b65) n65 Tryz.f65.results.toList (aU Tryz.f65) [.ptr 0 0] [[.v (.sl 1 (ah cE p0.frest)),.v (.b p0.fshort)]]=some (.agg [.v (.i .i64 r.1.bt),.v (.s r.1.iq),.v (.i .i64 r.1.iF),.own 2 (ah iD.row r.1.iA),.own 1 (ah bY r.1.iC),.own 2 (ah im.row r.1.il)],[[.v (.sl 1 (ah cE r.2.frest)),.v (.b r.2.fshort)]]):=by
 revert hF
 unfold xH
 refine az ?_
 rintro⟨x1,x2⟩ h1
 dsimp only
 have g1:C.wide 67 [.ptr 0 0] [[.v (.sl 1 (ah cE p0.frest)),.v (.b p0.fshort)],[.ptr 0 0],[.v (.i .i64 0),.v (.s ByteArray.empty),.v (.i .i64 0),.own 2 [],.own 1 [],.own 2 []]]=some (.v (.i .i64 x1),[[.v (.sl 1 (ah cE x2.frest)),.v (.b x2.fshort)],[.ptr 0 0],[.v (.i .i64 0),.v (.s ByteArray.empty),.v (.i .i64 0),.own 2 [],.own 1 [],.own 2 []]]):=cX [0] rfl rfl rfl rfl (kJ p0 _ h1) rfl rfl
 refine az ?_
 rintro⟨x3,x4⟩ h2
 dsimp only
 have g2:C.wide 64 [.ptr 0 0] [[.v (.sl 1 (ah cE x2.frest)),.v (.b x2.fshort)],[.ptr 0 0],[.v (.i .i64 0),.v (.s ByteArray.empty),.v (.i .i64 0),.own 2 [],.own 1 [],.own 2 []]]=some (.v (.s x3),[[.v (.sl 1 (ah cE x4.frest)),.v (.b x4.fshort)],[.ptr 0 0],[.v (.i .i64 0),.v (.s ByteArray.empty),.v (.i .i64 0),.own 2 [],.own 1 [],.own 2 []]]):=cX [0] rfl rfl rfl rfl (nb x2 _ h2) rfl rfl
 refine az ?_
 rintro⟨x5,x6⟩ h3
 dsimp only
 have g3:C.wide 61 [.ptr 0 0] [[.v (.sl 1 (ah cE x4.frest)),.v (.b x4.fshort)],[.ptr 0 0],[.v (.i .i64 0),.v (.s ByteArray.empty),.v (.i .i64 0),.own 2 [],.own 1 [],.own 2 []]]=some (.v (.i .i64 x5),[[.v (.sl 1 (ah cE x6.frest)),.v (.b x6.fshort)],[.ptr 0 0],[.v (.i .i64 0),.v (.s ByteArray.empty),.v (.i .i64 0),.own 2 [],.own 1 [],.own 2 []]]):=cX [0] rfl rfl rfl rfl (jR x4 _ h3) rfl rfl
 refine az ?_
 rintro⟨x7,x8⟩ h4
 dsimp only
 have g4:C.wide 62 [.ptr 0 0,.clo 97 [.ptr 3 0,.ptr 1 0]] [[.v (.sl 1 (ah cE x6.frest)),.v (.b x6.fshort)],[.ptr 0 0],[.v (.i .i64 0),.v (.s ByteArray.empty),.v (.i .i64 0),.own 2 [],.own 1 [],.own 2 []],[.v (.i .i64 x1),.v (.s x3),.v (.i .i64 x5),.own 2 [],.own 1 [],.own 2 []]]=some (.tup [],[[.v (.sl 1 (ah cE x7.frest)),.v (.b x7.fshort)],[.ptr 0 0],[.v (.i .i64 0),.v (.s ByteArray.empty),.v (.i .i64 0),.own 2 [],.own 1 [],.own 2 []],[.v (.i .i64 x8.bt),.v (.s x8.iq),.v (.i .i64 x8.iF),.own 2 (ah iD.row x8.iA),.own 1 (ah bY x8.iC),.own 2 (ah im.row x8.il)]]):=sA [0,3,1] [0,3,1] rfl rfl rfl rfl rfl rfl rfl rfl (yH x6 (iy.mk x1 x3 x5 [] [] []) _ h4) rfl rfl
 refine az ?_
 rintro⟨x9,x10⟩ h5
 dsimp only
 have g5:C.wide 68 [.ptr 0 0] [[.v (.sl 1 (ah cE x7.frest)),.v (.b x7.fshort)],[.ptr 0 0],[.v (.i .i64 0),.v (.s ByteArray.empty),.v (.i .i64 0),.own 2 [],.own 1 [],.own 2 []],[.v (.i .i64 x8.bt),.v (.s x8.iq),.v (.i .i64 x8.iF),.own 2 (ah iD.row x8.iA),.own 1 (ah bY x8.iC),.own 2 (ah im.row x8.il)]]=some (.own 1 (ah bY x9),[[.v (.sl 1 (ah cE x10.frest)),.v (.b x10.fshort)],[.ptr 0 0],[.v (.i .i64 0),.v (.s ByteArray.empty),.v (.i .i64 0),.own 2 [],.own 1 [],.own 2 []],[.v (.i .i64 x8.bt),.v (.s x8.iq),.v (.i .i64 x8.iF),.own 2 (ah iD.row x8.iA),.own 1 (ah bY x8.iC),.own 2 (ah im.row x8.il)]]):=cX [0] rfl rfl rfl rfl (BY x7 _ h5) rfl rfl
 refine az ?_
 rintro⟨x11,x12⟩ h6
 dsimp only
 have g6:C.wide 62 [.ptr 0 0,.clo 98 [.ptr 3 0,.ptr 1 0]] [[.v (.sl 1 (ah cE x10.frest)),.v (.b x10.fshort)],[.ptr 0 0],[.v (.i .i64 0),.v (.s ByteArray.empty),.v (.i .i64 0),.own 2 [],.own 1 [],.own 2 []],[.v (.i .i64 x8.bt),.v (.s x8.iq),.v (.i .i64 x8.iF),.own 2 (ah iD.row x8.iA),.own 1 (ah bY x9),.own 2 (ah im.row x8.il)]]=some (.tup [],[[.v (.sl 1 (ah cE x11.frest)),.v (.b x11.fshort)],[.ptr 0 0],[.v (.i .i64 0),.v (.s ByteArray.empty),.v (.i .i64 0),.own 2 [],.own 1 [],.own 2 []],[.v (.i .i64 x12.bt),.v (.s x12.iq),.v (.i .i64 x12.iF),.own 2 (ah iD.row x12.iA),.own 1 (ah bY x12.iC),.own 2 (ah im.row x12.il)]]):=sA [0,3,1] [0,3,1] rfl rfl rfl rfl rfl rfl rfl rfl (yL x10 (iy.mk x8.bt x8.iq x8.iF x8.iA x9 x8.il) _ h6) rfl rfl
 all_goals (rintro⟨⟩;rw [bk];show cC _ _ _ (aH _ _ _ _ (Code.seq _ _) _)=_;simp (maxSteps:=4000000) only [*,qgc,qix,qbm,qcq,qgH,qgh,qf4,↓RP,RB,RC,Nat.reduceBEq,bP,List.map,Nat.reduceAdd,List.foldl_cons,List.foldl_nil,List.filter_cons,List.filter_nil,Nat.reduceSub,Nat.reduceLT,Nat.reduceLeDiff,cr,bne,↓ao,↓aa,↓aq,ty3,ty9,ue,ph,qu,mh,Ap])
def Wx:List (Nat×List Nat):=[(0,[])]
def n63:cL where
 keep:=ax Wx
 ro:=fun _=>false
 mv:=fun _=>false
 give:=fun _=>false
 free:=fun i=>match i with|0=>[(0,3),(1,3),(2,3),(0,4),(1,4),(2,4),(0,5),(1,5),(2,5),(3,5),(4,5),(0,6),(1,6),(2,6),(0,7),(1,7),(2,7),(3,7),(4,7),(5,7),(6,7),(0,8),(1,8),(2,8),(0,9),(1,9),(2,9),(0,10),(1,10),(2,10)]|_=>[]
theorem qin (i:Nat):n63.keep i=ax Wx i:=rfl
theorem qc3 (t:Nat):n63.mv t=(false):=rfl
theorem qgq (t:Nat):n63.give t=(false):=rfl
theorem qcr:n63.free 0= [(0,3),(1,3),(2,3),(0,4),(1,4),(2,4),(0,5),(1,5),(2,5),(3,5),(4,5),(0,6),(1,6),(2,6),(0,7),(1,7),(2,7),(3,7),(4,7),(5,7),(6,7),(0,8),(1,8),(2,8),(0,9),(1,9),(2,9),(0,10),(1,10),(2,10)]:=rfl
theorem qfl:Tryz.f63.results.toList= []:=rfl
noncomputable def b63:Code:=aU Tryz.f63
theorem AN (C:aj) (nb:oE C) (Oz:Hi C) (jR:kC C) (p0:ir) (p1:iv) (r:ir×iv) (hF:oq p0 p1=some r):cR TT C.wide (evW TT C.wide n63 b63) n63 Tryz.f63.results.toList (aU Tryz.f63) [.ptr 1 0,.ptr 2 0] [[.v (.sl 1 (ah cE p0.frest)),.v (.b p0.fshort)],[.v (.i .i64 p1.af.iL),.own 8 (ah ip.row p1.af.bi),.v (.i .i64 p1.iG),.own 7 (ah gi.row p1.bz)],[.ptr 0 0]]=some (.tup [],[[.v (.sl 1 (ah cE r.1.frest)),.v (.b r.1.fshort)],[.v (.i .i64 r.2.af.iL),.own 8 (ah ip.row r.2.af.bi),.v (.i .i64 r.2.iG),.own 7 (ah gi.row r.2.bz)],[.ptr 0 0]]):=by
 revert hF
 unfold oq
 refine az ?_
 rintro⟨x1,x2⟩ h1
 dsimp only
 have g1:C.wide 64 [.ptr 0 0] [[.v (.sl 1 (ah cE p0.frest)),.v (.b p0.fshort)],[.v (.i .i64 p1.af.iL),.own 8 (ah ip.row p1.af.bi),.v (.i .i64 p1.iG),.own 7 (ah gi.row p1.bz)],[.ptr 0 0]]=some (.v (.s x1),[[.v (.sl 1 (ah cE x2.frest)),.v (.b x2.fshort)],[.v (.i .i64 p1.af.iL),.own 8 (ah ip.row p1.af.bi),.v (.i .i64 p1.iG),.own 7 (ah gi.row p1.bz)],[.ptr 0 0]]):=cX [0] rfl rfl rfl rfl (nb p0 _ h1) rfl rfl
 refine az ?_
 rintro⟨x3,x4⟩ h2
 dsimp only
 have g2:C.wide 65 [.ptr 0 0] [[.v (.sl 1 (ah cE x2.frest)),.v (.b x2.fshort)],[.v (.i .i64 p1.af.iL),.own 8 (ah ip.row p1.af.bi),.v (.i .i64 p1.iG),.own 7 (ah gi.row p1.bz)],[.ptr 0 0]]=some (.agg [.v (.i .i64 x3.bt),.v (.s x3.iq),.v (.i .i64 x3.iF),.own 2 (ah iD.row x3.iA),.own 1 (ah bY x3.iC),.own 2 (ah im.row x3.il)],[[.v (.sl 1 (ah cE x4.frest)),.v (.b x4.fshort)],[.v (.i .i64 p1.af.iL),.own 8 (ah ip.row p1.af.bi),.v (.i .i64 p1.iG),.own 7 (ah gi.row p1.bz)],[.ptr 0 0]]):=cX [0] rfl rfl rfl rfl (Oz x2 _ h2) rfl rfl
 refine az ?_
 rintro⟨x5,x6⟩ h3
 dsimp only
 have g3:C.wide 61 [.ptr 0 0] [[.v (.sl 1 (ah cE x4.frest)),.v (.b x4.fshort)],[.v (.i .i64 p1.af.iL),.own 8 (ah ip.row p1.af.bi),.v (.i .i64 p1.iG),.own 7 (ah gi.row p1.bz)],[.ptr 0 0]]=some (.v (.i .i64 x5),[[.v (.sl 1 (ah cE x6.frest)),.v (.b x6.fshort)],[.v (.i .i64 p1.af.iL),.own 8 (ah ip.row p1.af.bi),.v (.i .i64 p1.iG),.own 7 (ah gi.row p1.bz)],[.ptr 0 0]]):=cX [0] rfl rfl rfl rfl (jR x4 _ h3) rfl rfl
 refine aX (fun h4=>?_) (fun _=>nofun)
 all_goals (rintro⟨⟩;rw [bk];show cC _ _ _ (aH _ _ _ _ (Code.region _ _ _) _)=_;simp (maxSteps:=4000000) only [*,qfl,qin,Wx,qcr,qc3,qgq,↓RP,RB,RC,Nat.reduceBEq,bP,List.map,Nat.reduceAdd,Nat.reduceMul,List.foldl_cons,List.foldl_nil,List.filter_cons,List.filter_nil,Nat.reduceSub,Nat.reduceLeDiff,bne,↓aq,ty3,ty9,Bp,wv,u4,mh,zS,Ap,ip.one])
def lr  (s:Int×ir×iv):St:=⟨[(0,.ptr 0 0),(1,.clo 63 [.ptr 1 0,.ptr 2 0]),(4,.v (.i .i64 s.1))],[[.v (.sl 1 (ah cE s.2.1.frest)),.v (.b s.2.1.fshort)],[.v (.i .i64 s.2.2.af.iL),.own 8 (ah ip.row s.2.2.af.bi),.v (.i .i64 s.2.2.iG),.own 7 (ah gi.row s.2.2.bz)],[.ptr 0 0]]⟩
def nl  (r:ir×iv):Option (Ex×St):=some (.normal,⟨[],[[.v (.sl 1 (ah cE r.1.frest)),.v (.b r.1.fshort)],[.v (.i .i64 r.2.af.iL),.own 8 (ah ip.row r.2.af.bi),.v (.i .i64 r.2.iG),.own 7 (ah gi.row r.2.bz)],[.ptr 0 0]]⟩)
theorem vH (C:aj) (tL:tK C)  (s:Int×ir×iv) (o:(Int×ir×iv)⊕(ir×iv)) (hF:jI  s=some o):evW TT C.wide n62 b62 0 (lr  s)=Sum.elim (fun s=>evW TT C.wide n62 b62 0 (lr  s)) (fun r=>nl  r) o:=by
 obtain⟨p0,p1,p2⟩:=s
 rw [cG TT n62 DV]
 revert hF
 unfold jI
 try dsimp only
 refine bF (fun h1=>?_) (fun h1=>?_)
 rotate_left 1
 refine aX (fun h2=>?_) (fun h2=>?_)
 rotate_left 1
 refine az ?_
 rintro⟨x1,x2⟩ h3
 dsimp only
 have g1:C.wide 63 [.ptr 1 0,.ptr 2 0] [[.v (.sl 1 (ah cE p1.frest)),.v (.b false)],[.v (.i .i64 p2.af.iL),.own 8 (ah ip.row p2.af.bi),.v (.i .i64 p2.iG),.own 7 (ah gi.row p2.bz)],[.ptr 0 0]]=some (.tup [],[[.v (.sl 1 (ah cE x1.frest)),.v (.b x1.fshort)],[.v (.i .i64 x2.af.iL),.own 8 (ah ip.row x2.af.bi),.v (.i .i64 x2.iG),.own 7 (ah gi.row x2.bz)],[.ptr 0 0]]):=sA [1,2] [0,1,2] rfl rfl rfl rfl rfl rfl rfl rfl (tL (ir.mk p1.frest false) p2 _ h3) rfl rfl
 all_goals (rintro⟨⟩;show cN _ _ _ (aH _ _ _ _ (Code.seq _ _) _)=_;simp (maxSteps:=4000000) only [*,lr,nl,RA,MM,E4,CE,Lp,↓RP,RB,RC,↓ab,Nat.reduceBEq,List.map,Nat.reduceAdd,↓ao,↓am,↓aa,ty3,ty4,AU])
theorem wY (C:aj) (kJ:kG C) (tL:tK C) (p0:ir) (p1:iv) (r:ir×iv) (hF:kv p0 p1=some r):cR TT C.wide (evW TT C.wide n62 b62) n62 Tryz.f62.results.toList (aU Tryz.f62) [.ptr 0 0,.clo 63 [.ptr 1 0,.ptr 2 0]] [[.v (.sl 1 (ah cE p0.frest)),.v (.b p0.fshort)],[.v (.i .i64 p1.af.iL),.own 8 (ah ip.row p1.af.bi),.v (.i .i64 p1.iG),.own 7 (ah gi.row p1.bz)],[.ptr 0 0]]=some (.tup [],[[.v (.sl 1 (ah cE r.1.frest)),.v (.b r.1.fshort)],[.v (.i .i64 r.2.af.iL),.own 8 (ah ip.row r.2.af.bi),.v (.i .i64 r.2.iG),.own 7 (ah gi.row r.2.bz)],[.ptr 0 0]]):=by
 revert hF
 unfold kv
 refine az ?_
 rintro⟨x1,x2⟩ h1
 dsimp only
 have g1:C.wide 67 [.ptr 0 0] [[.v (.sl 1 (ah cE p0.frest)),.v (.b p0.fshort)],[.v (.i .i64 p1.af.iL),.own 8 (ah ip.row p1.af.bi),.v (.i .i64 p1.iG),.own 7 (ah gi.row p1.bz)],[.ptr 0 0]]=some (.v (.i .i64 x1),[[.v (.sl 1 (ah cE x2.frest)),.v (.b x2.fshort)],[.v (.i .i64 p1.af.iL),.own 8 (ah ip.row p1.af.bi),.v (.i .i64 p1.iG),.own 7 (ah gi.row p1.bz)],[.ptr 0 0]]):=cX [0] rfl rfl rfl rfl (kJ p0 _ h1) rfl rfl
 refine az ?_
 rintro⟨x3,x4⟩ h2
 dsimp only
 have g2:=cH _ _ (vH C tL) h2
 try simp only [lr,nl] at g2
 all_goals (rintro⟨⟩;rw [bk];show cC _ _ _ (aH _ _ _ _ (Code.seq _ _) _)=_;simp (maxSteps:=4000000) only [*,KP,E4,CE,Ku,↓RP,RB,RC,Nat.reduceBEq,List.map,Nat.reduceAdd,↓ao,↓aa,ty3])
end Go.Proofs.YtgcglmoogaldbaaGreat
