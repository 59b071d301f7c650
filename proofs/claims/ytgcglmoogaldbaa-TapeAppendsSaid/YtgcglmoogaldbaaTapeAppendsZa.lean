/- The code of these functions, run by the machine Mx, gives what the plain functions say, if their callees do (part 1). -/
import Derived.Test.YtgcglmoogaldbaaWTy
import Derived.Test.YtgcglmoogaldbaaTapeAppendsD
set_option linter.unusedSimpArgs false
set_option linter.unusedVariables false
set_option linter.constructorNameAsVariable false
set_option linter.unnecessarySimpa false
set_option maxRecDepth 100000
set_option maxHeartbeats 40000000
noncomputable section
namespace Go.Proofs.Ytgcglmoogaldbaa
open Go Go.Mx Go.Proofs
def n8K:List (Nat×List Nat):=[(0,[0]),(1,[2,4])]
def n8:cL where
 keep:=ax n8K
 ro:=fun _=>false
 mv:=fun _=>false
 give:=fun _=>false
 free:=fun _=>[]
theorem n8k (i:Nat):n8.keep i=ax n8K i:=rfl
theorem qdz:Try.f8.results.toList= [.tmp 2]:=rfl
def b8:Code:=aU Try.f8
theorem Fz (C:aj)  (p0:List Int) (r:(List Int)) (hF:sb p0=some r): ∃d S,cR TT C.wide (evW TT C.wide n8 b8) n8 Try.f8.results.toList (aU Try.f8) [.v (.sl 1 (ah cE p0))] []=some (d,S)/\bD d=true/\(frz d,S)=(.v (.sl 1 (ah cE r)),[]):=by
 revert hF
 unfold sb
 refine mt fun h1=>?_
 intro hF
 have hR:=Option.some.inj hF
 clear hF
 subst hR
 refine⟨.own 1 (ah cE p0),[],?_,rfl,by first|rfl|(simp only [*];done)|(simp only [*];rfl)⟩
 all_goals (rw [bk];show cC _ _ _ (aH _ _ _ _ (Code.seq _ _) _)=_;simp (maxSteps:=4000000) only [*,qdz,n8k,n8K,↓RP,RB,RC,Nat.reduceBEq,List.map,bne,↓ao,↓aa,ty5,pg])
def Tn:List (Nat×List Nat):=[(0,[1,2]),(1,[2])]
def n19:cL where
 keep:=ax Tn
 ro:=fun t=>t==1
 mv:=fun _=>false
 give:=fun _=>false
 free:=fun i=>match i with|1=>[(0,3),(1,3),(2,3),(0,4),(1,4),(2,4)]|_=>[]
theorem qcY (i:Nat):n19.keep i=ax Tn i:=rfl
theorem qbj (t:Nat):n19.ro t=(t==1):=rfl
theorem qbk (t:Nat):n19.mv t=(false):=rfl
theorem qb0 (t:Nat):n19.give t=(false):=rfl
theorem qbF:n19.free 1= [(0,3),(1,3),(2,3),(0,4),(1,4),(2,4)]:=rfl
theorem qaI:Try.f19.results.toList= [.cell 2 58]:=rfl
def b19:Code:=aU Try.f19
theorem GE (C:aj) (FK:ym C) (p0:iK) (r:iK) (hF:sc p0=some r): ∃d S,cR TT C.wide (evW TT C.wide n19 b19) n19 Try.f19.results.toList (aU Try.f19) [.agg (cGTape p0)] []=some (d,S)/\bD d=true/\(frz d,S)=(.agg (cGTape r),[]):=by
 revert hF
 unfold sc
 refine az fun x1 h1=>?_
 have g1:=bK (FK p0.j9 _ h1)
 intro hF
 have hR:=Option.some.inj hF
 clear hF
 subst hR
 refine⟨.agg [.v (.sl 1 (ah cE x1)),.I p0.kg],[],?_,rfl,by first|rfl|(simp only [*];done)|(simp only [*];rfl)⟩
 all_goals (rw [bk];show cC _ _ _ (aH _ _ _ _ (Code.seq _ _) _)=_;simp (maxSteps:=4000000) only [*,cGTape,qaI,qcY,Tn,qbF,qbj,qbk,qb0,↓RP,RB,RC,Nat.reduceBEq,bP,List.map,Nat.reduceAdd,Nat.reduceLeDiff,jA,bne,↓ao,↓aa,↓aq,ty3,pg,E4])
def DY:List (Nat×List Nat):=[(0,[1,2]),(1,[1,2,3]),(2,[1,2,3,4]),(3,[1,2,3,4,18]),(4,[1,2,3,4]),(5,[1,2,3,4]),(6,[1,2,3,5]),(7,[1,2,3,5,35]),(8,[1,2,3,5]),(9,[1,2,3,5]),(10,[1,2,3,6]),(11,[1,2,3,6,52]),(12,[1,2,3,6]),(13,[1,2,3,6]),(14,[2])]
def H9:List (Nat×List Nat×List Nat):=[(18,[1,2,3,4],[1,2,3]),(35,[1,2,3,5],[1,2,3]),(52,[1,2,3,6],[2,3])]
def u3:cL where
 keep:=ax DY
 ro:=fun t=>t==1
 mv:=fun t=>t==65
 give:=fun _=>false
 free:=fun i=>match i with|5=>[(0,2),(1,2),(0,3),(1,3),(0,4),(1,4),(2,4),(3,4),(0,5),(1,5),(0,6),(1,6),(0,7),(1,7)]|9=>[(0,2),(1,2),(0,3),(1,3),(0,4),(1,4),(2,4),(3,4),(0,5),(1,5),(0,6),(1,6),(0,7),(1,7)]|13=>[(0,2),(1,2),(0,3),(1,3),(0,4),(1,4),(2,4),(3,4),(0,5),(1,5),(0,6),(1,6),(0,7),(1,7)]|_=>[]
 alive:=av H9
theorem Mk (t:Nat) (x:Bool) (e:Env) (S:bH):cK u3 t x ⟨e,S⟩=atO (av H9 t x) e S:=cF rfl t x e S
theorem Km (i:Nat):u3.keep i=ax DY i:=rfl
theorem UE (t:Nat):u3.ro t=(t==1):=rfl
theorem FH (t:Nat):u3.mv t=(t==65):=rfl
theorem ER (t:Nat):u3.give t=(false):=rfl
theorem WI:u3.free 5= [(0,2),(1,2),(0,3),(1,3),(0,4),(1,4),(2,4),(3,4),(0,5),(1,5),(0,6),(1,6),(0,7),(1,7)]:=rfl
theorem Ul:u3.free 9= [(0,2),(1,2),(0,3),(1,3),(0,4),(1,4),(2,4),(3,4),(0,5),(1,5),(0,6),(1,6),(0,7),(1,7)]:=rfl
theorem PF:u3.free 13= [(0,2),(1,2),(0,3),(1,3),(0,4),(1,4),(2,4),(3,4),(0,5),(1,5),(0,6),(1,6),(0,7),(1,7)]:=rfl
theorem Sk:Try.f102.results.toList= [.cell 2 74]:=rfl
def Cz:Code:=aU Try.f102
def TX:Code:=(bE 0 (aU Try.f102)).getD .skip
theorem Qe:bE 0 Cz=some TX:=rfl
def SV:Code:=(bE 2 (aU Try.f102)).getD .skip
theorem P6:bE 2 Cz=some SV:=rfl
def Vy:Code:=(bE 4 (aU Try.f102)).getD .skip
theorem Qt:bE 4 Cz=some Vy:=rfl
def pR (p0:ad) (s:Int×ad):St:=⟨[(1,.rp (rGValue p0)),(2,.ptr 0 0),(3,.ptr 1 0),(4,.I s.1)],[[.I 0,.v (.s ByteArray.empty),.I 0,.own 2 [],.own 1 [],.own 2 []],[.I s.2.af,.v (.s s.2.gi),.I s.2.i8,.own 2 (ah iw.row s.2.iD),.own 1 (ah bY s.2.iG),.own 2 (ah ae.row s.2.cO)]]⟩
def si (p0:ad) (r:ad):Option (Ex×St):=some (.normal,⟨[(1,.rp (rGValue p0)),(2,.ptr 0 0),(3,.ptr 1 0)],[[.I 0,.v (.s ByteArray.empty),.I 0,.own 2 [],.own 1 [],.own 2 []],[.I r.af,.v (.s r.gi),.I r.i8,.own 2 (ah iw.row r.iD),.own 1 (ah bY r.iG),.own 2 (ah ae.row r.cO)]]⟩)
theorem zl (C:aj)  (p0:ad) (s:Int×ad) (o:(Int×ad)⊕ad) (hF:mB p0 s=some o):evW TT C.wide u3 Cz 0 (pR p0 s)=Sum.elim (fun s=>evW TT C.wide u3 Cz 0 (pR p0 s)) (fun r=>si p0 r) o:=by
 obtain⟨p1,p2⟩:=s
 rw [cG TT u3 Qe]
 revert hF
 unfold mB
 try dsimp only
 refine ip (fun h1=>az fun x1 h2=>?_) ?_
 have g1:decide (0<=p1)=true:=(cp h2).1
 have g2:(ah iw.row p0.iD)[(p1:Int).toNat]? =some (rGPair x1):=cn _ h2
 refine mt fun h3=>?_
 all_goals (rintro⟨⟩;intros;show cN _ _ _ (aH _ _ _ _ (Code.seq _ _) _)=_;simp (maxSteps:=4000000) only [*,rGPair,rGValue,pR,si,Mk,H9,Km,DY,WI,FH,ER,↓RP,RB,RC,↓ab,Nat.reduceBEq,List.map,Nat.reduceAdd,Nat.reduceMul,Nat.reduceSub,Nat.reduceLeDiff,bne,↓ao,↓am,↓aa,↓aq,ty3,wb,pK,xP,iw.one])
def pY (p0:ad) (s:Int×ad):St:=⟨[(1,.rp (rGValue p0)),(2,.ptr 0 0),(3,.ptr 1 0),(5,.I s.1)],[[.I 0,.v (.s ByteArray.empty),.I 0,.own 2 [],.own 1 [],.own 2 []],[.I s.2.af,.v (.s s.2.gi),.I s.2.i8,.own 2 (ah iw.row s.2.iD),.own 1 (ah bY s.2.iG),.own 2 (ah ae.row s.2.cO)]]⟩
def rZ (p0:ad) (r:ad):Option (Ex×St):=some (.normal,⟨[(1,.rp (rGValue p0)),(2,.ptr 0 0),(3,.ptr 1 0)],[[.I 0,.v (.s ByteArray.empty),.I 0,.own 2 [],.own 1 [],.own 2 []],[.I r.af,.v (.s r.gi),.I r.i8,.own 2 (ah iw.row r.iD),.own 1 (ah bY r.iG),.own 2 (ah ae.row r.cO)]]⟩)
theorem yD (C:aj)  (p0:ad) (s:Int×ad) (o:(Int×ad)⊕ad) (hF:mJ p0 s=some o):evW TT C.wide u3 Cz 2 (pY p0 s)=Sum.elim (fun s=>evW TT C.wide u3 Cz 2 (pY p0 s)) (fun r=>rZ p0 r) o:=by
 obtain⟨p1,p2⟩:=s
 rw [cG TT u3 P6]
 revert hF
 unfold mJ
 try dsimp only
 refine ip (fun h1=>az fun x1 h2=>?_) ?_
 have g1:decide (0<=p1)=true:=(cp h2).1
 have g2:(ah bY p0.iG)[(p1:Int).toNat]? =some [.s x1]:=cn _ h2
 refine mt fun h3=>?_
 all_goals (rintro⟨⟩;intros;show cN _ _ _ (aH _ _ _ _ (Code.seq _ _) _)=_;simp (maxSteps:=4000000) only [*,rGValue,pY,rZ,Mk,H9,Km,DY,Ul,FH,ER,↓RP,RB,RC,↓ab,Nat.reduceBEq,List.map,Nat.reduceAdd,Nat.reduceMul,Nat.reduceSub,Nat.reduceLeDiff,bne,↓ao,↓am,↓aa,↓aq,ty3,ty9,rG,pK])
def qa (p0:ad) (s:Int×ad):St:=⟨[(1,.rp (rGValue p0)),(2,.ptr 0 0),(3,.ptr 1 0),(6,.I s.1)],[[.I 0,.v (.s ByteArray.empty),.I 0,.own 2 [],.own 1 [],.own 2 []],[.I s.2.af,.v (.s s.2.gi),.I s.2.i8,.own 2 (ah iw.row s.2.iD),.own 1 (ah bY s.2.iG),.own 2 (ah ae.row s.2.cO)]]⟩
def sk (p0:ad) (r:ad):Option (Ex×St):=some (.normal,⟨[(2,.ptr 0 0),(3,.ptr 1 0)],[[.I 0,.v (.s ByteArray.empty),.I 0,.own 2 [],.own 1 [],.own 2 []],[.I r.af,.v (.s r.gi),.I r.i8,.own 2 (ah iw.row r.iD),.own 1 (ah bY r.iG),.own 2 (ah ae.row r.cO)]]⟩)
theorem za (C:aj)  (p0:ad) (s:Int×ad) (o:(Int×ad)⊕ad) (hF:mF p0 s=some o):evW TT C.wide u3 Cz 4 (qa p0 s)=Sum.elim (fun s=>evW TT C.wide u3 Cz 4 (qa p0 s)) (fun r=>sk p0 r) o:=by
 obtain⟨p1,p2⟩:=s
 rw [cG TT u3 Qt]
 revert hF
 unfold mF
 try dsimp only
 refine ip (fun h1=>az fun x1 h2=>?_) ?_
 have g1:decide (0<=p1)=true:=(cp h2).1
 have g2:(ah ae.row p0.cO)[(p1:Int).toNat]? =some (rGScore x1):=cn _ h2
 refine mt fun h3=>?_
 all_goals (rintro⟨⟩;intros;show cN _ _ _ (aH _ _ _ _ (Code.seq _ _) _)=_;simp (maxSteps:=4000000) only [*,rGScore,rGValue,qa,sk,Mk,H9,Km,DY,PF,FH,ER,↓RP,RB,RC,↓ab,Nat.reduceBEq,List.map,Nat.reduceAdd,Nat.reduceMul,Nat.reduceSub,Nat.reduceLeDiff,bne,↓ao,↓am,↓aa,↓aq,ty3,sY,pK,sQ,ae.one])
theorem Ch (C:aj)  (p0:ad) (r:ad) (hF:pF p0=some r):cR TT C.wide (evW TT C.wide u3 Cz) u3 Try.f102.results.toList (aU Try.f102) [.agg (cGValue p0)] []=some (.agg [.I r.af,.v (.s r.gi),.I r.i8,.own 2 (ah iw.row r.iD),.own 1 (ah bY r.iG),.own 2 (ah ae.row r.cO)],[]):=by
 revert hF
 unfold pF
 refine az ?_
 rintro x1 h1
 unfold tS
 have g1:=cH _ _ (zl C p0) h1
 try simp only [ak,pR,si] at g1
 refine az ?_
 rintro x2 h2
 have g2:=cH _ _ (yD C p0) h2
 try simp only [pY,rZ] at g2
 refine az ?_
 rintro x3 h3
 have g3:=cH _ _ (za C p0) h3
 try simp only [qa,sk] at g3
 all_goals (rintro⟨⟩;rw [bk];show cC _ _ _ (aH _ _ _ _ (Code.seq _ _) _)=_;simp (maxSteps:=4000000) only [*,cGValue,rGValue,Sk,Km,DY,UE,FH,ER,↓RP,RB,RC,Nat.reduceBEq,bP,List.map,Nat.reduceAdd,Nat.reduceLeDiff,bne,↓ao,↓aa,ty3,ty9,wb,rG,sY,pK])
def Pz:List (Nat×List Nat):=[(0,[1,2]),(1,[1,2,3]),(2,[1,2,3,4]),(3,[1,2,3,4,13]),(4,[1,2,3,4]),(5,[1,2,3,4,5]),(6,[1,2,3,4]),(7,[2])]
def Vl:List (Nat×List Nat×List Nat):=[(13,[1,2,3,4],[2,3])]
def n81:cL where
 keep:=ax Pz
 ro:=fun t=>t==1
 mv:=fun t=>t==34
 give:=fun _=>false
 free:=fun i=>match i with|6=>[(0,2),(1,2),(0,3),(1,3),(0,4),(1,4),(2,4),(3,4),(0,5),(1,5),(2,5),(3,5),(0,6),(1,6),(2,6),(3,6),(0,7),(1,7),(2,7),(3,7),(4,7),(5,7),(6,7),(0,8),(1,8),(2,8),(3,8),(4,8),(5,8),(6,8),(0,9),(1,9),(0,10),(1,10)]|_=>[]
 alive:=av Vl
theorem qdu (t:Nat) (x:Bool) (e:Env) (S:bH):cK n81 t x ⟨e,S⟩=atO (av Vl t x) e S:=cF rfl t x e S
theorem qad (i:Nat):n81.keep i=ax Pz i:=rfl
theorem qaW (t:Nat):n81.ro t=(t==1):=rfl
theorem QJ (t:Nat):n81.mv t=(t==34):=rfl
theorem Rw (t:Nat):n81.give t=(false):=rfl
theorem Ze:n81.free 6= [(0,2),(1,2),(0,3),(1,3),(0,4),(1,4),(2,4),(3,4),(0,5),(1,5),(2,5),(3,5),(0,6),(1,6),(2,6),(3,6),(0,7),(1,7),(2,7),(3,7),(4,7),(5,7),(6,7),(0,8),(1,8),(2,8),(3,8),(4,8),(5,8),(6,8),(0,9),(1,9),(0,10),(1,10)]:=rfl
theorem qbG:Try.f81.results.toList= [.cell 2 25]:=rfl
def b81:Code:=aU Try.f81
def Z3:Code:=(bE 0 (aU Try.f81)).getD .skip
theorem ST:bE 0 b81=some Z3:=rfl
def qk (p0:iE) (s:Int×iE):St:=⟨[(1,.rp (rGStore p0)),(2,.ptr 0 0),(3,.ptr 1 0),(4,.I s.1)],[[.I 0,.own 8 []],[.I s.2.jv,.own 8 (ah hM.row s.2.im)]]⟩
def sr (p0:iE) (r:iE):Option (Ex×St):=some (.normal,⟨[(2,.ptr 0 0),(3,.ptr 1 0)],[[.I 0,.own 8 []],[.I r.jv,.own 8 (ah hM.row r.im)]]⟩)
theorem yY (C:aj) (uA:uD C) (p0:iE) (s:Int×iE) (o:(Int×iE)⊕iE) (hF:mC p0 s=some o):evW TT C.wide n81 b81 0 (qk p0 s)=Sum.elim (fun s=>evW TT C.wide n81 b81 0 (qk p0 s)) (fun r=>sr p0 r) o:=by
 obtain⟨p1,p2⟩:=s
 rw [cG TT n81 ST]
 revert hF
 unfold mC
 try dsimp only
 refine ip (fun h1=>az fun x1 h2=>?_) ?_
 have g1:decide (0<=p1)=true:=(cp h2).1
 have g2:(ah hM.row p0.im)[(p1:Int).toNat]? =some (rGEntry x1):=cn _ h2
 refine az fun x2 h3=>?_
 have g3:=bK (uA x1.jG _ h3)
 refine mt fun h4=>?_
 all_goals (rintro⟨⟩;intros;show cN _ _ _ (aH _ _ _ _ (Code.seq _ _) _)=_;simp (maxSteps:=4000000) only [*,rGEntry,rGStore,qk,sr,qdu,Vl,qad,Pz,Ze,QJ,Rw,↓RP,RB,RC,↓ai,Nat.reduceBEq,bP,List.map,Nat.reduceAdd,Nat.reduceMul,Nat.reduceSub,Nat.reduceLT,Nat.reduceLeDiff,jA,bne,↓ao,↓am,↓aa,↓aq,aP,ty3,ty9,xq,uQ,pK,FJ,hM.one,iw.flat,ae.flat])
theorem Cj (C:aj) (uA:uD C) (p0:iE) (r:iE) (hF:pC p0=some r):cR TT C.wide (evW TT C.wide n81 b81) n81 Try.f81.results.toList (aU Try.f81) [.agg (cGStore p0)] []=some (.agg [.I r.jv,.own 8 (ah hM.row r.im)],[]):=by
 revert hF
 unfold pC
 refine az ?_
 rintro x1 h1
 have g1:=cH _ _ (yY C uA p0) h1
 try simp only [ak,qk,sr] at g1
 all_goals (rintro⟨⟩;rw [bk];show cC _ _ _ (aH _ _ _ _ (Code.seq _ _) _)=_;simp (maxSteps:=4000000) only [*,cGStore,qbG,qad,Pz,qaW,QJ,Rw,↓RP,RB,RC,Nat.reduceBEq,bP,List.map,Nat.reduceAdd,Nat.reduceLeDiff,bne,↓ao,↓aa,ty3,xq,uQ])
def Pn:List (Nat×List Nat):=[(0,[1,2]),(1,[1,2,3]),(2,[1,2,3,4]),(3,[1,2,3,4,16]),(4,[1,2,3,4]),(5,[1,2,3,4]),(6,[2])]
def WK:List (Nat×List Nat×List Nat):=[(16,[1,2,3,4],[2,3])]
def n82:cL where
 keep:=ax Pn
 ro:=fun t=>t==1
 mv:=fun t=>t==29
 give:=fun _=>false
 free:=fun i=>match i with|5=>[(0,2),(1,2),(0,3),(1,3),(0,4),(1,4),(2,4),(3,4),(0,5),(1,5),(0,6),(1,6),(0,7),(1,7)]|_=>[]
 alive:=av WK
theorem qc0 (t:Nat) (x:Bool) (e:Env) (S:bH):cK n82 t x ⟨e,S⟩=atO (av WK t x) e S:=cF rfl t x e S
theorem qbc (i:Nat):n82.keep i=ax Pn i:=rfl
theorem qbH (t:Nat):n82.ro t=(t==1):=rfl
theorem Ru (t:Nat):n82.mv t=(t==29):=rfl
theorem Rb (t:Nat):n82.give t=(false):=rfl
theorem ZQ:n82.free 5= [(0,2),(1,2),(0,3),(1,3),(0,4),(1,4),(2,4),(3,4),(0,5),(1,5),(0,6),(1,6),(0,7),(1,7)]:=rfl
theorem qcg:Try.f82.results.toList= [.cell 2 79]:=rfl
def b82:Code:=aU Try.f82
def qbh:Code:=(bE 0 (aU Try.f82)).getD .skip
theorem WZ:bE 0 b82=some qbh:=rfl
def pX (p0:iM) (s:Int×iM):St:=⟨[(1,.rp (rGReply p0)),(2,.ptr 0 0),(3,.ptr 1 0),(4,.I s.1)],[[.I 0,.v (.s ByteArray.empty),.I 0,.own 1 []],[.I s.2.ky,.v (.s s.2.gi),.I s.2.fN,.own 1 (ah bY s.2.jW)]]⟩
def sq (p0:iM) (r:iM):Option (Ex×St):=some (.normal,⟨[(2,.ptr 0 0),(3,.ptr 1 0)],[[.I 0,.v (.s ByteArray.empty),.I 0,.own 1 []],[.I r.ky,.v (.s r.gi),.I r.fN,.own 1 (ah bY r.jW)]]⟩)
theorem yI (C:aj)  (p0:iM) (s:Int×iM) (o:(Int×iM)⊕iM) (hF:mI p0 s=some o):evW TT C.wide n82 b82 0 (pX p0 s)=Sum.elim (fun s=>evW TT C.wide n82 b82 0 (pX p0 s)) (fun r=>sq p0 r) o:=by
 obtain⟨p1,p2⟩:=s
 rw [cG TT n82 WZ]
 revert hF
 unfold mI
 try dsimp only
 refine ip (fun h1=>az fun x1 h2=>?_) ?_
 have g1:decide (0<=p1)=true:=(cp h2).1
 have g2:(ah bY p0.jW)[(p1:Int).toNat]? =some [.s x1]:=cn _ h2
 refine mt fun h3=>?_
 all_goals (rintro⟨⟩;intros;show cN _ _ _ (aH _ _ _ _ (Code.seq _ _) _)=_;simp (maxSteps:=4000000) only [*,rGReply,pX,sq,qc0,WK,qbc,Pn,ZQ,Ru,Rb,↓RP,RB,RC,↓ab,Nat.reduceBEq,List.map,Nat.reduceAdd,Nat.reduceMul,Nat.reduceSub,Nat.reduceLeDiff,bne,↓ao,↓am,↓aa,↓aq,ty3,ty9,rG,Cb])
theorem BZ (C:aj)  (p0:iM) (r:iM) (hF:pN p0=some r):cR TT C.wide (evW TT C.wide n82 b82) n82 Try.f82.results.toList (aU Try.f82) [.agg (cGReply p0)] []=some (.agg [.I r.ky,.v (.s r.gi),.I r.fN,.own 1 (ah bY r.jW)],[]):=by
 revert hF
 unfold pN
 refine az ?_
 rintro x1 h1
 have g1:=cH _ _ (yI C p0) h1
 try simp only [ak,pX,sq] at g1
 all_goals (rintro⟨⟩;rw [bk];show cC _ _ _ (aH _ _ _ _ (Code.seq _ _) _)=_;simp (maxSteps:=4000000) only [*,cGReply,qcg,qbc,Pn,qbH,Ru,Rb,↓RP,RB,RC,Nat.reduceBEq,bP,List.map,Nat.reduceAdd,Nat.reduceLeDiff,bne,↓ao,↓aa,ty3,ty9,mR,rG,Cb])
def P5:List (Nat×List Nat):=[(0,[1,2]),(1,[1,2,3]),(2,[1,2,3,4]),(3,[1,2,3,4,16]),(4,[1,2,3,4]),(5,[1,2,3,4,5]),(6,[1,2,3,4]),(7,[2])]
def UZ:List (Nat×List Nat×List Nat):=[(16,[1,2,3,4],[2,3])]
def n55:cL where
 keep:=ax P5
 ro:=fun t=>t==1
 mv:=fun t=>t==39
 give:=fun _=>false
 free:=fun i=>match i with|1=>[(0,3),(1,3),(2,3),(0,4),(1,4),(2,4),(0,6),(1,6),(2,6),(3,6),(4,6),(5,6)]|6=>[(0,2),(1,2),(0,3),(1,3),(0,4),(1,4),(2,4),(3,4),(0,5),(1,5),(2,5),(3,5),(0,6),(1,6),(2,6),(3,6),(4,6),(5,6),(0,7),(1,7),(2,7),(3,7),(4,7),(5,7),(0,8),(1,8),(2,8),(3,8),(4,8),(5,8),(6,8),(7,8),(0,9),(1,9),(2,9),(3,9),(4,9),(5,9),(6,9),(7,9),(0,10),(1,10),(2,10),(3,10),(4,10),(5,10),(6,10),(7,10),(0,11),(1,11),(0,12),(1,12)]|_=>[]
 alive:=av UZ
theorem qdn (t:Nat) (x:Bool) (e:Env) (S:bH):cK n55 t x ⟨e,S⟩=atO (av UZ t x) e S:=cF rfl t x e S
theorem qaw (i:Nat):n55.keep i=ax P5 i:=rfl
theorem Zk (t:Nat):n55.ro t=(t==1):=rfl
theorem QY (t:Nat):n55.mv t=(t==39):=rfl
theorem Rc (t:Nat):n55.give t=(false):=rfl
theorem qbA:n55.free 1= [(0,3),(1,3),(2,3),(0,4),(1,4),(2,4),(0,6),(1,6),(2,6),(3,6),(4,6),(5,6)]:=rfl
theorem qaC:n55.free 6= [(0,2),(1,2),(0,3),(1,3),(0,4),(1,4),(2,4),(3,4),(0,5),(1,5),(2,5),(3,5),(0,6),(1,6),(2,6),(3,6),(4,6),(5,6),(0,7),(1,7),(2,7),(3,7),(4,7),(5,7),(0,8),(1,8),(2,8),(3,8),(4,8),(5,8),(6,8),(7,8),(0,9),(1,9),(2,9),(3,9),(4,9),(5,9),(6,9),(7,9),(0,10),(1,10),(2,10),(3,10),(4,10),(5,10),(6,10),(7,10),(0,11),(1,11),(0,12),(1,12)]:=rfl
theorem qbv:Try.f55.results.toList= [.cell 2 28]:=rfl
def b55:Code:=aU Try.f55
def qct:Code:=(bE 0 (aU Try.f55)).getD .skip
theorem Xl:bE 0 b55=some qct:=rfl
def nk (p0:cc) (s:Int×cc):St:=⟨[(1,.rp (rGMachine p0)),(2,.ptr 0 0),(3,.ptr 1 0),(4,.I s.1)],[[.I 0,.own 8 [],.I 0,.own 7 []],[.I s.2.iA.jv,.own 8 (ah hM.row s.2.iA.im),.I s.2.ji,.own 7 (ah f7.row s.2.ir)]]⟩
def pw (p0:cc) (r:cc):Option (Ex×St):=some (.normal,⟨[(2,.ptr 0 0),(3,.ptr 1 0)],[[.I 0,.own 8 [],.I 0,.own 7 []],[.I r.iA.jv,.own 8 (ah hM.row r.iA.im),.I r.ji,.own 7 (ah f7.row r.ir)]]⟩)
theorem wn (C:aj) (uO:uP C) (p0:cc) (s:Int×cc) (o:(Int×cc)⊕cc) (hF:kQ p0 s=some o):evW TT C.wide n55 b55 0 (nk p0 s)=Sum.elim (fun s=>evW TT C.wide n55 b55 0 (nk p0 s)) (fun r=>pw p0 r) o:=by
 obtain⟨p1,p2⟩:=s
 rw [cG TT n55 Xl]
 revert hF
 unfold kQ
 try dsimp only
 refine ip (fun h1=>az fun x1 h2=>?_) ?_
 have g1:decide (0<=p1)=true:=(cp h2).1
 have g2:(ah f7.row p0.ir)[(p1:Int).toNat]? =some (rGClient x1):=cn _ h2
 refine az fun x2 h3=>?_
 have g3:=bK (uO x1.jd _ h3)
 refine mt fun h4=>?_
 all_goals (rintro⟨⟩;intros;show cN _ _ _ (aH _ _ _ _ (Code.seq _ _) _)=_;simp (maxSteps:=4000000) only [*,rGClient,rGMachine,nk,pw,qdn,UZ,qaw,P5,qaC,QY,Rc,↓RP,RB,RC,↓ai,Nat.reduceBEq,bP,List.map,Nat.reduceAdd,Nat.reduceMul,Nat.reduceSub,Nat.reduceLT,Nat.reduceLeDiff,jA,bne,↓ao,↓am,↓aa,↓aq,aP,ty3,xt,un,Cb,GB,f7.one])
theorem xY (C:aj) (Cd:uG C) (uO:uP C) (p0:cc) (r:cc) (hF:mg p0=some r): ∃d S,cR TT C.wide (evW TT C.wide n55 b55) n55 Try.f55.results.toList (aU Try.f55) [.agg (cGMachine p0)] []=some (d,S)/\bD d=true/\(frz d,S)=(.agg (cGMachine r),[]):=by
 revert hF
 unfold mg
 refine az fun x1 h1=>?_
 have g1:=bK (Cd p0.iA _ h1)
 refine az ?_
 rintro x2 h2
 have g2:=cH _ _ (wn C uO p0) h2
 try simp only [ak,nk,pw] at g2
 intro hF
 have hR:=Option.some.inj hF
 clear hF
 subst hR
 refine⟨.agg [.I x2.iA.jv,.own 8 (ah hM.row x2.iA.im),.I x2.ji,.own 7 (ah f7.row x2.ir)],[],?_,rfl,by first|rfl|(simp only [*];done)|(simp only [*];rfl)⟩
 all_goals (rw [bk];show cC _ _ _ (aH _ _ _ _ (Code.seq _ _) _)=_;simp (maxSteps:=4000000) only [*,cGMachine,qbv,qaw,P5,qbA,Zk,QY,Rc,↓RP,RB,RC,Nat.reduceBEq,bP,List.map,Nat.reduceAdd,Nat.reduceLeDiff,cr,jA,bne,↓ao,↓aa,↓aq,ty3,uQ,xt,un])
def S6:List (Nat×List Nat):=[(0,[1,2]),(1,[2])]
def n16:cL where
 keep:=ax S6
 ro:=fun t=>t==1
 mv:=fun _=>false
 give:=fun _=>false
 free:=fun i=>match i with|1=>[(0,2),(1,2),(0,3),(1,3),(0,4),(1,4),(2,4),(3,4),(0,5),(1,5),(2,5),(3,5),(0,6),(1,6),(2,6),(3,6)]|_=>[]
theorem qdX (i:Nat):n16.keep i=ax S6 i:=rfl
theorem Zn (t:Nat):n16.ro t=(t==1):=rfl
theorem YF (t:Nat):n16.mv t=(false):=rfl
theorem qcr (t:Nat):n16.give t=(false):=rfl
theorem Y9:n16.free 1= [(0,2),(1,2),(0,3),(1,3),(0,4),(1,4),(2,4),(3,4),(0,5),(1,5),(2,5),(3,5),(0,6),(1,6),(2,6),(3,6)]:=rfl
theorem YO:Try.f16.results.toList= [.cell 2 42]:=rfl
def b16:Code:=aU Try.f16
theorem He (C:aj) (yw:uz C) (p0:jr) (r:jr) (hF:tK p0=some r): ∃d S,cR TT C.wide (evW TT C.wide n16 b16) n16 Try.f16.results.toList (aU Try.f16) [.agg (cGSnap p0)] []=some (d,S)/\bD d=true/\(frz d,S)=(.agg (cGSnap r),[]):=by
 revert hF
 unfold tK
 refine az fun x1 h1=>?_
 have g1:=bK (yw p0.iC _ h1)
 intro hF
 have hR:=Option.some.inj hF
 clear hF
 subst hR
 refine⟨.agg [.I p0.jg,.I p0.iO,.I x1.iA.jv,.v (.sl 8 (ah hM.row x1.iA.im)),.I x1.ji,.v (.sl 7 (ah f7.row x1.ir))],[],?_,rfl,by first|rfl|(simp only [*];done)|(simp only [*];rfl)⟩
 all_goals (rw [bk];show cC _ _ _ (aH _ _ _ _ (Code.seq _ _) _)=_;simp (maxSteps:=4000000) only [*,cGSnap,YO,qdX,S6,Y9,Zn,YF,qcr,↓RP,RB,RC,Nat.reduceBEq,bP,List.map,Nat.reduceAdd,Nat.reduceLeDiff,jA,bne,↓ao,↓aa,↓aq,ty3,un,yk])
def VF:List (Nat×List Nat):=[(0,[1,2]),(1,[1,2]),(2,[2])]
def n12:cL where
 keep:=ax VF
 ro:=fun _=>false
 mv:=fun _=>false
 give:=fun _=>false
 free:=fun _=>[]
theorem qda (i:Nat):n12.keep i=ax VF i:=rfl
theorem ZJ (t:Nat):n12.ro t=(false):=rfl
theorem qaV (t:Nat):n12.mv t=(false):=rfl
theorem qas (t:Nat):n12.give t=(false):=rfl
theorem ZA:Try.f12.results.toList= [.cell 2 44]:=rfl
def b12:Code:=aU Try.f12
theorem Fh (C:aj) (Hb:zC C) (p0:iu) (r:iu) (hF:qP p0=some r): ∃d S,cR TT C.wide (evW TT C.wide n12 b12) n12 Try.f12.results.toList (aU Try.f12) [.agg (cGRecord p0)] []=some (d,S)/\bD d=true/\(frz d,S)=(.agg (cGRecord r),[]):=by
 revert hF
 unfold qP
 refine az fun x1 h1=>?_
 have g1:=bK (Hb p0.iS _ h1)
 intro hF
 have hR:=Option.some.inj hF
 clear hF
 subst hR
 refine⟨.agg [.I p0.af,.I p0.iO,.I p0.qu,.I p0.jg,.I p0.iN.iO,.I p0.iN.i6,.v (.b p0.iN.tj),.I p0.iN.iz.iP,.I p0.iN.iz.jT,.I p0.iN.iz.bt.af,.v (.s p0.iN.iz.bt.jj),.v (.s p0.iN.iz.bt.iv),.v (.s p0.iN.iz.bt.gi),.I p0.iN.iz.bt.fN,.I x1.jg,.I x1.iO,.I x1.iC.iA.jv,.v (.sl 8 (ah hM.row x1.iC.iA.im)),.I x1.iC.ji,.v (.sl 7 (ah f7.row x1.iC.ir))],[],?_,rfl,by first|rfl|(simp only [*];done)|(simp only [*];rfl)⟩
 all_goals (rw [bk];show cC _ _ _ (aH _ _ _ _ (Code.seq _ _) _)=_;simp (maxSteps:=4000000) only [*,cGRecord,ZA,qda,VF,ZJ,qaV,qas,↓RP,RB,RC,Nat.reduceBEq,bP,List.map,Nat.reduceAdd,Nat.reduceLeDiff,jA,bne,↓ao,↓aa,aP,yk,A6])
def Qi:List (Nat×List Nat):=[(0,[0]),(1,[0,4]),(2,[2,7]),(3,[2,7])]
def qd0:List (Nat×List Nat×List Nat):=[(4,[],[0])]
def n23:cL where
 keep:=ax Qi
 ro:=fun _=>false
 mv:=fun _=>false
 give:=fun _=>false
 free:=fun _=>[]
 alive:=av qd0
theorem YW (i:Nat):n23.keep i=ax Qi i:=rfl
set_option maxRecDepth 100000 in
theorem zj (C:aj) (l:List (List V)) (h:dh l.length 1=true):dH TT C n23 (aU Try.f23) ⟨enter 0 [.v (.sl 1 l)],[]⟩ (Nb TT 0 Try.f23.results.toList (.own 1 l) []):=by
 cases l with
 |nil=>
  simp only [List.length_nil] at h
  simp only [h,Try.f23,YW,Qi,aU,Option.getD_some,↓cond_true,↓cond_false,enter,List.toList_toArray,cond_false,aQ,be,cond_true,bf,aJ,Mx.bl,opnd,Mx.bI,Nat.reduceBEq,bQ,Mx.fit,co,List.isEmpty_nil,Bool.false_or,Bool.or_false,Bool.true_or,Bool.or_true,Bool.and_true,Bool.true_and,Bool.not_true,Bool.not_false,Bool.and_self,gS,Al,aN,aA,Mx.put,ofConst,ofCell,Mx.prune,List.map_cons,iy,aK,putDst,hJ,aw,ar,List.length_cons,List.length_nil,List.map,List.take_zero,Nat.reduceMul,Nat.zero_add,Nat.add_zero,cz,aO,eq_self,reduceCtorEq,aC,bu,bx,cA,bS,bJ,aM,lowC,List.take_zero,List.length_nil,kill,spendLoc,spendOk,bO,frz,cq,bG,takeParts,bv,aR,List.append_nil,Nat.reduceBNe,Nat.reduceLeDiff,decide_true,beq_self_eq_true,bq,gG,ie,ax,ty5,pg,dH,xn,yp,Nb,List.mem_cons,List.not_mem_nil,forall_eq_or_imp,forall_eq,exists_eq_left',Option.some.injEq,or_true,or_false,and_true,true_and]
 |cons x l=>
  simp only [List.length_cons] at h
  simp only [h,Try.f23,YW,Qi,aU,Option.getD_some,↓cond_true,↓cond_false,enter,List.toList_toArray,Bool.false_and,cond_false,aQ,be,cond_true,bf,aJ,Mx.bl,opnd,Mx.bI,Nat.reduceBEq,bQ,Mx.fit,co,List.isEmpty_cons,List.isEmpty_nil,Bool.false_or,Bool.or_false,Bool.or_true,Bool.and_true,Bool.not_true,Bool.not_false,Bool.and_self,gS,Al,aN,aA,Mx.put,ofConst,ofCell,Mx.prune,List.map_cons,iy,aK,putDst,hJ,aw,ar,List.length_cons,List.length_nil,List.map,List.take_zero,Nat.reduceMul,Nat.zero_add,cz,aO,eq_self,reduceCtorEq,aC,bu,bx,cA,bS,bJ,aM,lowC,List.take_zero,List.length_nil,kill,spendLoc,spendOk,bO,frz,cq,bG,takeParts,bv,aR,List.nil_append,Nat.reduceBNe,Nat.reduceLeDiff,decide_true,beq_self_eq_true,bq,gG,ie,ax,ty5,pg,dH,xn,yp,Nb,List.mem_cons,List.not_mem_nil,forall_eq,exists_eq_left',Option.some.injEq,or_true,or_false,true_and]
theorem Ai (C:aj) (l r:List Int) (h:oS l=some r):dH TT C n23 (aU Try.f23) ⟨enter 0 [.v (.sl 1 (ah cE l))],[]⟩ (Nb TT 0 Try.f23.results.toList (.own 1 (ah cE r)) []):=by
 unfold oS at h
 cases hq:dh l.length 1 with
 |false=>rw [hq] at h;cases h
 |true=>
  rw [hq,cond_true] at h
  obtain rfl:=Option.some.inj h
  exact zj C _ (by rw [Bl];exact hq)
def Qd:List (Nat×List Nat):=[(0,[1,2]),(1,[1,2,20]),(2,[2,3]),(3,[2,3])]
def Wo:List (Nat×List Nat×List Nat):=[(20,[2],[1,2])]
def n59:cL where
 keep:=ax Qd
 ro:=fun t=>t==1
 mv:=fun _=>false
 give:=fun _=>false
 free:=fun i=>match i with|3=>[(0,3),(1,3),(2,3),(0,4),(1,4),(2,4)]|_=>[]
 alive:=av Wo
theorem qdL (t:Nat) (x:Bool) (e:Env) (S:bH):cK n59 t x ⟨e,S⟩=atO (av Wo t x) e S:=cF rfl t x e S
theorem qa5 (i:Nat):n59.keep i=ax Qd i:=rfl
theorem Yr (t:Nat):n59.ro t=(t==1):=rfl
theorem QM (t:Nat):n59.mv t=(false):=rfl
theorem qaD (t:Nat):n59.give t=(false):=rfl
theorem qb9:n59.free 3= [(0,3),(1,3),(2,3),(0,4),(1,4),(2,4)]:=rfl
theorem qaA:Try.f59.results.toList= [.cell 2 58,.tmp 3]:=rfl
def b59:Code:=aU Try.f59
theorem z3 (C:aj)  (p0:iK) (c:Code) (ho:cD 0 1 b59=some c) (r:Bool) (hF:ma p0=r): @cV TT C.wide (evW TT C.wide n59 b59) n59 0 1 ⟨[(1,.rp (rGTape p0)),(2,.ptr 0 0)],[[.own 1 [],.I 0]]⟩ ⟨c⟩=some (.normal,⟨[(1,.rp (rGTape p0)),(2,.ptr 0 0),(20,.v (.b r))],[[.own 1 [],.I 0]]⟩):=by
 have e:=Option.some.inj (ho.symm.trans (rfl:cD 0 1 b59=some _))
 subst e
 clear ho
 show aH _ _ _ _ _ _=_
 revert hF
 unfold ma
 refine iq (fun h1=>iq (fun h2=>?_) ?_) ?_
 all_goals (rintro rfl;intros;simp (maxSteps:=4000000) only [*,rGTape,qa5,Qd,QM,↓RP,RB,RC,Nat.reduceBEq,List.map,ty3,pg,E4,↓aa _ _ _ _ 1])
theorem H8 (C:aj) (Aa:vV C) (p0:iK) (r:iK×Bool) (hF:tD p0=some r):cR TT C.wide (evW TT C.wide n59 b59) n59 Try.f59.results.toList (aU Try.f59) [.agg (cGTape p0)] []=some (.tup [.agg (cGTape r.1),.v (.b r.2)],[]):=by
 revert hF
 unfold tD
 have g1:=z3 C p0 _ rfl (ma p0) rfl
 refine iq (fun h1=>az fun x1 h2=>?_) ?_
 have g2:=bK (Aa p0.j9 _ h2)
 all_goals (rintro⟨⟩;intros;rw [bk];show cC _ _ _ (aH _ _ _ _ (Code.seq _ _) _)=_;simp (maxSteps:=4000000) only [*,cGTape,rGTape,qaA,qdL,Wo,qa5,Qd,qb9,Yr,QM,qaD,↓RP,RB,RC,Nat.reduceBEq,bP,List.map,Nat.reduceAdd,Nat.reduceLeDiff,jA,bne,↓ao,↓am,ty3,ty4,pg,E4,↓aa _ _ _ _ 0,↓bg _ _ _ _ 1,↓aa _ _ _ _ 2,↓aq _ _ _ _ 3])
def PY:List (Nat×List Nat):=[(0,[1]),(1,[1,3]),(2,[2])]
def n44:cL where
 keep:=ax PY
 ro:=fun t=>t==1
 mv:=fun _=>false
 give:=fun _=>false
 free:=fun _=>[]
theorem qbb (i:Nat):n44.keep i=ax PY i:=rfl
theorem Zy (t:Nat):n44.ro t=(t==1):=rfl
theorem Q5 (t:Nat):n44.mv t=(false):=rfl
theorem YI (t:Nat):n44.give t=(false):=rfl
theorem qag:Try.f44.results.toList= [.tmp 2]:=rfl
def b44:Code:=aU Try.f44
theorem yo (C:aj)  (p0:jr) (p1:cc) (c:Code) (ho:cD 0 2 b44=some c) (r:Bool) (hF:lq p0 p1=r): @cV TT C.wide (evW TT C.wide n44 b44) n44 0 2 ⟨[(1,.rp (rGSnap p0)),(3,.ptr 0 0)],[cGMachine p1]⟩ ⟨c⟩=some (.normal,⟨[(2,.v (.b r))],[cGMachine p1]⟩):=by
 have e:=Option.some.inj (ho.symm.trans (rfl:cD 0 2 b44=some _))
 subst e
 clear ho
 show aH _ _ _ _ _ _=_
 revert hF
 unfold lq
 refine ip (fun h1=>ip (fun h2=>ip (fun h3=>ip (fun h4=>iq (fun h5=>?_) ?_) ?_) ?_) ?_) ?_
 all_goals (rintro rfl;intros;simp (maxSteps:=4000000) only [*,cGMachine,rGSnap,qbb,PY,Q5,↓RP,RB,RC,Nat.reduceBEq,List.map,ty3,ty4,xq,uQ,xt,un,yk,↓aa _ _ _ _ 2])
theorem CA (C:aj)  (p0:jr) (r:Bool) (hF:qY p0=some r):cR TT C.wide (evW TT C.wide n44 b44) n44 Try.f44.results.toList (aU Try.f44) [.agg (cGSnap p0)] []=some (.v (.b r),[]):=by
 revert hF
 unfold qY
 have g1:=yo C p0 p0.iC _ rfl (lq p0 p0.iC) rfl
 all_goals (rintro⟨⟩;rw [bk];show cC _ _ _ (aH _ _ _ _ (Code.seq _ _) _)=_;simp (maxSteps:=4000000) only [*,cGMachine,cGSnap,qag,qbb,PY,Zy,Q5,YI,↓RP,RB,RC,Nat.reduceBEq,bP,List.map,Nat.reduceAdd,Nat.reduceLeDiff,bne,↓ao,ty4,un,yk,↓aa _ _ _ _ 0,↓aa _ _ _ _ 1,↓bg _ _ _ _ 2])
def Xu:List (Nat×List Nat):=[(0,[0]),(1,[2])]
def n45:cL where
 keep:=ax Xu
 ro:=fun _=>false
 mv:=fun _=>false
 give:=fun _=>false
 free:=fun _=>[]
theorem qdo (i:Nat):n45.keep i=ax Xu i:=rfl
theorem qck:Try.f45.results.toList= [.tmp 2]:=rfl
def b45:Code:=aU Try.f45
theorem B8 (C:aj)  (p0:Int) (r:Bool) (hF:qW p0=some r):cR TT C.wide (evW TT C.wide n45 b45) n45 Try.f45.results.toList (aU Try.f45) [.I p0] []=some (.v (.b r),[]):=by
 revert hF
 unfold qW
 refine iq (fun h1=>?_) ?_
 all_goals (rintro⟨⟩;intros;rw [bk];show cC _ _ _ (aH _ _ _ _ (Code.seq _ _) _)=_;simp (maxSteps:=4000000) only [*,qck,qdo,Xu,↓RP,RB,RC,Nat.reduceBEq,List.map,↓ao,↓aa,ty3,ty4])
def XJ:List (Nat×List Nat):=[(0,[0]),(1,[2])]
def n97:cL where
 keep:=ax XJ
 ro:=fun _=>false
 mv:=fun _=>false
 give:=fun _=>false
 free:=fun _=>[]
theorem qcD (i:Nat):n97.keep i=ax XJ i:=rfl
theorem qay:Try.f97.results.toList= [.tmp 2]:=rfl
def b97:Code:=aU Try.f97
theorem z4 (C:aj)  (p0:Int) (r:Bool) (hF:oW p0=some r):cR TT C.wide (evW TT C.wide n97 b97) n97 Try.f97.results.toList (aU Try.f97) [.I p0] []=some (.v (.b r),[]):=by
 revert hF
 unfold oW
 refine iq (fun h1=>?_) ?_
 all_goals (rintro⟨⟩;intros;rw [bk];show cC _ _ _ (aH _ _ _ _ (Code.seq _ _) _)=_;simp (maxSteps:=4000000) only [*,qay,qcD,XJ,↓RP,RB,RC,Nat.reduceBEq,List.map,↓ao,↓aa,ty3,ty4])
def MV:List (Nat×List Nat):=[(0,[0]),(1,[2])]
def OJ:cL where
 keep:=ax MV
 ro:=fun _=>false
 mv:=fun _=>false
 give:=fun _=>false
 free:=fun _=>[]
theorem qa1 (i:Nat):OJ.keep i=ax MV i:=rfl
theorem UT:Try.f119.results.toList= [.tmp 2]:=rfl
def qdj:Code:=aU Try.f119
theorem Cx (C:aj)  (p0:ByteArray) (r:Bool) (hF:q5 p0=some r):cR TT C.wide (evW TT C.wide OJ qdj) OJ Try.f119.results.toList (aU Try.f119) [.v (.s p0)] []=some (.v (.b r),[]):=by
 revert hF
 unfold q5
 refine iq (fun h1=>?_) ?_
 all_goals (rintro⟨⟩;intros;rw [bk];show cC _ _ _ (aH _ _ _ _ (Code.seq _ _) _)=_;simp (maxSteps:=4000000) only [*,UT,qa1,MV,↓RP,RB,RC,Nat.reduceBEq,List.map,↓ao,↓aa,ty3,ty4,ty9])
def ML:List (Nat×List Nat):=[(0,[0]),(1,[2])]
def Qn:cL where
 keep:=ax ML
 ro:=fun _=>false
 mv:=fun _=>false
 give:=fun _=>false
 free:=fun _=>[]
theorem qa7 (i:Nat):Qn.keep i=ax ML i:=rfl
theorem Xn:Try.f115.results.toList= [.tmp 2]:=rfl
def qc8:Code:=aU Try.f115
theorem Fy (C:aj)  (p0:ByteArray) (r:Bool) (hF:rO p0=some r):cR TT C.wide (evW TT C.wide Qn qc8) Qn Try.f115.results.toList (aU Try.f115) [.v (.s p0)] []=some (.v (.b r),[]):=by
 revert hF
 unfold rO
 all_goals (rintro⟨⟩;rw [bk];show cC _ _ _ (aH _ _ _ _ (Code.seq _ _) _)=_;simp (maxSteps:=4000000) only [*,Xn,qa7,ML,↓RP,RB,RC,Nat.reduceBEq,List.map,↓ao,↓aa,ty3,ty4,ty9])
def MC:List (Nat×List Nat):=[(0,[0]),(1,[2])]
def P2:cL where
 keep:=ax MC
 ro:=fun _=>false
 mv:=fun _=>false
 give:=fun _=>false
 free:=fun _=>[]
theorem qax (i:Nat):P2.keep i=ax MC i:=rfl
theorem Sh:Try.f122.results.toList= [.tmp 2]:=rfl
def qdd:Code:=aU Try.f122
theorem Co (C:aj)  (p0:Int) (r:Bool) (hF:qX p0=some r):cR TT C.wide (evW TT C.wide P2 qdd) P2 Try.f122.results.toList (aU Try.f122) [.I p0] []=some (.v (.b r),[]):=by
 revert hF
 unfold qX
 refine iq (fun h1=>?_) ?_
 all_goals (rintro⟨⟩;intros;rw [bk];show cC _ _ _ (aH _ _ _ _ (Code.seq _ _) _)=_;simp (maxSteps:=4000000) only [*,Sh,qax,MC,↓RP,RB,RC,Nat.reduceBEq,List.map,Int.reduceNeg,↓ao,↓aa,ty3,ty4])
def GN:List (Nat×List Nat):=[(0,[1]),(1,[1,11]),(2,[2]),(3,[1,3]),(4,[1,3,18]),(5,[1,3,18,19]),(6,[1,3,18,19]),(7,[1,3,18,19]),(8,[1,3,18,19]),(9,[1,3,18,19]),(10,[1,3,18,19]),(11,[1,3,18,19]),(12,[1,3,18,19]),(13,[1,3]),(14,[1,3,18,31]),(15,[1,3,18,31]),(16,[1,3]),(17,[1,3,18,37]),(18,[1,3]),(19,[1,3,18,45]),(20,[1,3,18,45]),(21,[1,3]),(22,[1,3,18,51]),(23,[1,3]),(24,[1,3,59]),(25,[1,3]),(26,[1,64]),(27,[2]),(28,[1,95]),(29,[2]),(30,[99]),(31,[2]),(32,[2])]
def Io:List (Nat×List Nat×List Nat):=[(11,[],[1]),(19,[1,3,18,19],[1,3,18]),(31,[1,3,18,31],[1,3,18]),(37,[1,3],[1,3,18]),(45,[1,3,18,45],[1,3,18]),(51,[1,3],[1,3,18]),(59,[1,3],[1,3]),(64,[],[1]),(95,[],[1]),(99,[],[])]
def n98:cL where
 keep:=ax GN
 ro:=fun t=>t==1
 mv:=fun _=>false
 give:=fun _=>false
 free:=fun i=>match i with|18=>[(0,2),(1,2),(0,3),(1,3),(2,4),(3,4),(2,5),(3,5)]|23=>[(0,2),(1,2),(0,3),(1,3),(2,4),(3,4),(2,5),(3,5)]|_=>[]
 alive:=av Io
theorem Of (t:Nat) (x:Bool) (e:Env) (S:bH):cK n98 t x ⟨e,S⟩=atO (av Io t x) e S:=cF rfl t x e S
theorem LI (i:Nat):n98.keep i=ax GN i:=rfl
theorem qbm (t:Nat):n98.ro t=(t==1):=rfl
theorem Hy (t:Nat):n98.mv t=(false):=rfl
theorem GR (t:Nat):n98.give t=(false):=rfl
theorem XT:n98.free 18= [(0,2),(1,2),(0,3),(1,3),(2,4),(3,4),(2,5),(3,5)]:=rfl
theorem UM:n98.free 23= [(0,2),(1,2),(0,3),(1,3),(2,4),(3,4),(2,5),(3,5)]:=rfl
theorem qbC:Try.f98.results.toList= [.tmp 2]:=rfl
def b98:Code:=aU Try.f98
theorem yA (C:aj)  (p0:f5) (p1:Bool) (p2:Int) (p3:ByteArray) (c:Code) (ho:cD 1 59 b98=some c) (r:f5) (hF:nN p0 p1 p2 p3=r): @cV TT C.wide (evW TT C.wide n98 b98) n98 1 59 ⟨[(1,.rp (rGCommand p0)),(3,.ptr 0 0),(59,.v (.b p1))],[[.I p2,.v (.s p3),.v (.s ByteArray.empty),.v (.s ByteArray.empty),.I 0]]⟩ ⟨c⟩=some (.normal,⟨[(1,.rp (rGCommand p0)),(3,.ptr 0 0)],[cGCommand r]⟩):=by
 have e:=Option.some.inj (ho.symm.trans (rfl:cD 1 59 b98=some _))
 subst e
 clear ho
 show aH _ _ _ _ _ _=_
 revert hF
 unfold nN
 refine iq (fun h1=>?_) ?_
 all_goals (rintro rfl;intros;simp (maxSteps:=4000000) only [*,cGCommand,rGCommand,Of,Io,LI,GN,GR,↓RP,RB,RC,Nat.reduceBEq,List.map,Nat.reduceAdd,Nat.reduceLeDiff,↓am,ty9,v9,↓aa _ _ _ _ 25])
theorem yc (C:aj)  (p0:f5) (p1:Int) (p2:Bool) (p3:ByteArray) (c:Code) (ho:cD 1 51 b98=some c) (r:f5) (hF:nJ p0 p1 p2 p3=r): @cV TT C.wide (evW TT C.wide n98 b98) n98 1 51 ⟨[(1,.rp (rGCommand p0)),(3,.ptr 0 0),(18,.I p1),(51,.v (.b p2))],[[.I p1,.v (.s p3),.v (.s ByteArray.empty),.v (.s ByteArray.empty),.I 0]]⟩ ⟨c⟩=some (.normal,⟨[(1,.rp (rGCommand p0)),(3,.ptr 0 0)],[cGCommand r]⟩):=by
 have e:=Option.some.inj (ho.symm.trans (rfl:cD 1 51 b98=some _))
 subst e
 clear ho
 show aH _ _ _ _ _ _=_
 revert hF
 unfold nJ
 refine iq (fun h1=>?_) ?_
 have g1:=yA C p0 (p1==22) p1 p3 _ rfl (nN p0 (p1==22) p1 p3) rfl
 all_goals (rintro rfl;intros;simp (maxSteps:=4000000) only [*,cGCommand,rGCommand,Of,Io,LI,GN,UM,Hy,GR,↓RP,RB,RC,Nat.reduceBEq,List.map,Nat.reduceAdd,Nat.reduceLeDiff,cr,↓ao,ty3,ty4,ty9,v9,↓am _ _ _ _ 51,↓aq _ _ _ _ 23,↓aa _ _ _ _ 24,↓da _ _ _ _ 59])
theorem yj (C:aj)  (p0:f5) (p1:Int) (p2:Bool) (p3:ByteArray) (c:Code) (ho:cD 1 37 b98=some c) (r:f5) (hF:nF p0 p1 p2 p3=r): @cV TT C.wide (evW TT C.wide n98 b98) n98 1 37 ⟨[(1,.rp (rGCommand p0)),(3,.ptr 0 0),(18,.I p1),(37,.v (.b p2))],[[.I p1,.v (.s p3),.v (.s ByteArray.empty),.v (.s ByteArray.empty),.I 0]]⟩ ⟨c⟩=some (.normal,⟨[(1,.rp (rGCommand p0)),(3,.ptr 0 0)],[cGCommand r]⟩):=by
 have e:=Option.some.inj (ho.symm.trans (rfl:cD 1 37 b98=some _))
 subst e
 clear ho
 show aH _ _ _ _ _ _=_
 revert hF
 unfold nF
 refine iq (fun h1=>iq (fun h2=>iq (fun h3=>?_) ?_) ?_) ?_
 have g1:=yc C p0 p1 (p1==14) p3 _ rfl (nJ p0 p1 (p1==14) p3) rfl
 all_goals (rintro rfl;intros;simp (maxSteps:=4000000) only [*,cGCommand,rGCommand,Of,Io,LI,GN,XT,Hy,GR,↓RP,RB,RC,Nat.reduceBEq,List.map,Nat.reduceAdd,Nat.reduceLeDiff,cr,↓ao,ty3,ty4,ty9,v9,↓am _ _ _ _ 37,↓aq _ _ _ _ 18,↓aa _ _ _ _ 19,↓am _ _ _ _ 45,↓aa _ _ _ _ 20,↓aa _ _ _ _ 21,↓aa _ _ _ _ 22,↓da _ _ _ _ 51])
theorem zd (C:aj)  (p0:f5) (p1:Int) (p2:ByteArray) (c:Code) (ho:cD 2 0 b98=some c) (r:f5) (hF:jw p0 p1 p2=r): @cV TT C.wide (evW TT C.wide n98 b98) n98 2 0 ⟨[(1,.rp (rGCommand p0)),(3,.ptr 0 0),(18,.I p1)],[[.I p1,.v (.s p2),.v (.s ByteArray.empty),.v (.s ByteArray.empty),.I 0]]⟩ ⟨c⟩=some (.normal,⟨[(1,.rp (rGCommand p0)),(3,.ptr 0 0)],[cGCommand r]⟩):=by
 have e:=Option.some.inj (ho.symm.trans (rfl:cD 2 0 b98=some _))
 subst e
 clear ho
 show aH _ _ _ _ _ _=_
 revert hF
 unfold jw
 refine iq (fun h1=>iq (fun h2=>iq (fun h3=>?_) ?_) ?_) ?_
 unfold rI
 refine iq (fun h4=>iq (fun h5=>iq (fun h6=>iq (fun h7=>iq (fun h8=>iq (fun h9=>iq (fun h10=>?_) ?_) ?_) ?_) ?_) ?_) ?_) ?_
 have g1:=yj C p0 p1 (p1==4) p2 _ rfl (nF p0 p1 (p1==4) p2) rfl
 all_goals (rintro rfl;intros;simp (maxSteps:=4000000) only [*,cGCommand,rGCommand,Of,Io,LI,GN,Hy,GR,↓RP,RB,RC,↓ai,Nat.reduceBEq,List.map,Nat.reduceAdd,Nat.reduceLeDiff,↓ao,ty3,ty4,ty9,v9,↓aa _ _ _ _ 5,↓am _ _ _ _ 19,↓aa _ _ _ _ 6,↓aa _ _ _ _ 7,↓aa _ _ _ _ 8,↓aa _ _ _ _ 9,↓aa _ _ _ _ 10,↓aa _ _ _ _ 11,↓aa _ _ _ _ 12,↓aa _ _ _ _ 13,↓aa _ _ _ _ 14,↓am _ _ _ _ 31,↓aa _ _ _ _ 15,↓aa _ _ _ _ 16,↓aa _ _ _ _ 17,↓da _ _ _ _ 37])
theorem yx (C:aj) (nB:pd C) (jQ:kC C) (p0:f5) (p1:f5) (c:Code) (ho:cD 0 28 b98=some c) (r:Bool) (hF:mn p0 p1=r): @cV TT C.wide (evW TT C.wide n98 b98) n98 0 28 ⟨[(1,.rp (rGCommand p0))],[cGCommand p1]⟩ ⟨c⟩=some (.normal,⟨[(1,.rp (rGCommand p0)),(95,.v (.b r))],[cGCommand p1]⟩):=by
 have e:=Option.some.inj (ho.symm.trans (rfl:cD 0 28 b98=some _))
 subst e
 clear ho
 show aH _ _ _ _ _ _=_
 revert hF
 unfold mn
 refine aX (fun h1=>?_) (fun h1=>?_)
 focus
  refine bF (fun h2=>?_) (fun h2=>?_)
  focus
   have g1:=bK (jQ p0.gi _ (lG p0.gi))
  rotate_left 1
  refine bF (fun h3=>?_) (fun h3=>?_)
  focus
   have g1:=bK (jQ p0.gi _ (lG p0.gi))
  rotate_left 1
  have g2:=bK (nB p0.iv _ (sF p0.iv))
  refine aX (fun h4=>?_) (fun h4=>?_)
  focus
   have g1:=bK (jQ p0.gi _ (lG p0.gi))
  rotate_left 1
 rotate_left 4
 unfold ov
 have g3:=bK (nB p0.jj _ (sF p0.jj))
 refine ip (fun h2=>bF (fun h3=>?_) (fun h3=>?_)) ?_
 focus
  have g1:=bK (jQ p0.gi _ (lG p0.gi))
 rotate_left 1
 refine bF (fun h4=>?_) (fun h4=>?_)
 focus
  have g1:=bK (jQ p0.gi _ (lG p0.gi))
 rotate_left 1
 have g2:=bK (nB p0.iv _ (sF p0.iv))
 refine aX (fun h5=>?_) (fun h5=>?_)
 focus
  have g1:=bK (jQ p0.gi _ (lG p0.gi))
 rotate_left 1
 all_goals (rintro rfl;intros;simp (maxSteps:=4000000) only [*,cGCommand,rGCommand,LI,GN,Hy,↓RP,RB,RC,Nat.reduceBEq,List.map,jA,bne,ty3,ty9,v9,↓aa _ _ _ _ 28])
theorem Fj (C:aj) (nB:pd C) (jQ:kC C) (qv:oV C) (p0:f5) (r:Int) (hF:uj p0=some r):cR TT C.wide (evW TT C.wide n98 b98) n98 Try.f98.results.toList (aU Try.f98) [.agg (cGCommand p0)] []=some (.I r,[]):=by
 revert hF
 unfold uj
 refine vL ?_
 unfold pW
 refine iq (fun h1=>iq (fun h2=>?_) ?_) ?_
 unfold th
 have g1:=zd C p0 p0.af p0.jj _ rfl (jw p0 p0.af p0.jj) rfl
 refine ip (fun h3=>ip (fun h4=>ip (fun h5=>ip (fun h6=>ip (fun h7=>?_) ?_) ?_) ?_) ?_) ?_
 have g2:=yx C nB jQ p0 (jw p0 p0.af p0.jj) _ rfl (mn p0 (jw p0 p0.af p0.jj)) rfl
 refine iq (fun h8=>?_) ?_
 have g3:=bK (qv p0.fN _ (uI p0.fN))
 refine iq (fun h9=>?_) ?_
 all_goals (rintro rfl;intros;rw [bk];show cC _ _ _ (aH _ _ _ _ (Code.seq _ _) _)=_;simp (maxSteps:=4000000) only [*,cGCommand,rGCommand,qbC,Of,Io,LI,GN,qbm,Hy,GR,↓RP,RB,RC,Nat.reduceBEq,bP,List.map,Nat.reduceAdd,aG,Nat.reduceLeDiff,jA,bne,↓ao,aP,ty3,ty9,mR,v9,↓aa _ _ _ _ 0,↓aa _ _ _ _ 1,↓am _ _ _ _ 11,↓aa _ _ _ _ 2,↓aa _ _ _ _ 3,↓aa _ _ _ _ 4,↓Ct _ _ _ _ 0,↓aa _ _ _ _ 26,↓am _ _ _ _ 64,↓aa _ _ _ _ 27,↓bg _ _ _ _ 28,↓am _ _ _ _ 95,↓aa _ _ _ _ 29,↓aa _ _ _ _ 30,↓am _ _ _ _ 99,↓aa _ _ _ _ 31,↓aa _ _ _ _ 32])
def Xp:List (Nat×List Nat):=[(0,[1]),(1,[1,5]),(2,[8]),(3,[2]),(4,[2]),(5,[1,18]),(6,[2]),(7,[2])]
def U5:List (Nat×List Nat×List Nat):=[(5,[1],[1]),(8,[],[]),(18,[],[1])]
def n77:cL where
 keep:=ax Xp
 ro:=fun t=>t==1
 mv:=fun _=>false
 give:=fun _=>false
 free:=fun _=>[]
 alive:=av U5
theorem qdg (t:Nat) (x:Bool) (e:Env) (S:bH):cK n77 t x ⟨e,S⟩=atO (av U5 t x) e S:=cF rfl t x e S
theorem qcI (i:Nat):n77.keep i=ax Xp i:=rfl
theorem Zl (t:Nat):n77.ro t=(t==1):=rfl
theorem YJ (t:Nat):n77.mv t=(false):=rfl
theorem Z0:Try.f77.results.toList= [.tmp 2]:=rfl
def b77:Code:=aU Try.f77
theorem KX (C:aj) (vT:tm C) (Fo:xU C) (p0:jB) (r:Int) (hF:yr p0=some r):cR TT C.wide (evW TT C.wide n77 b77) n77 Try.f77.results.toList (aU Try.f77) [.agg (cGCall p0)] []=some (.I r,[]):=by
 revert hF
 unfold yr
 refine vL ?_
 unfold rU
 refine bF (fun h1=>?_) (fun h1=>?_)
 focus
  have g1:=bK (vT p0.iP _ (vP p0.iP))
  refine ip (fun h2=>?_) ?_
  have g2:=bK (vT p0.jT _ (vP p0.jT))
  refine aX (fun h3=>?_) (fun h3=>?_)
  focus
   have g3:=bK (Fo p0.bt _ (Fx p0.bt))
  rotate_left 1
 rotate_left 3
 unfold tw
 refine ip (fun h2=>ip (fun h3=>ip (fun h4=>ip (fun h5=>ip (fun h6=>iq (fun h7=>?_) ?_) ?_) ?_) ?_) ?_) ?_
 all_goals (rintro rfl;intros;rw [bk];show cC _ _ _ (aH _ _ _ _ (Code.seq _ _) _)=_;simp (maxSteps:=4000000) only [*,cGCall,Z0,qdg,U5,qcI,Xp,Zl,YJ,↓RP,RB,RC,Nat.reduceBEq,bP,List.map,Nat.reduceAdd,aG,jA,bne,↓ao,↓am,↓aa,ty3,mR,v9,B4])
def OM:List (Nat×List Nat):=[(0,[1]),(1,[1,20]),(2,[2]),(3,[1,22]),(4,[26]),(5,[2]),(6,[2]),(7,[2])]
def XC:List (Nat×List Nat×List Nat):=[(20,[],[1]),(22,[1],[1]),(26,[],[])]
def n46:cL where
 keep:=ax OM
 ro:=fun t=>t==1
 mv:=fun _=>false
 give:=fun _=>false
 free:=fun _=>[]
 alive:=av XC
theorem qdZ (t:Nat) (x:Bool) (e:Env) (S:bH):cK n46 t x ⟨e,S⟩=atO (av XC t x) e S:=cF rfl t x e S
theorem qbW (i:Nat):n46.keep i=ax OM i:=rfl
theorem qbz (t:Nat):n46.ro t=(t==1):=rfl
theorem Rt (t:Nat):n46.mv t=(false):=rfl
theorem qcf:Try.f46.results.toList= [.tmp 2]:=rfl
def b46:Code:=aU Try.f46
theorem wy (C:aj)  (p0:iX) (c:Code) (ho:cD 0 1 b46=some c) (r:Bool) (hF:j0 p0=r): @cV TT C.wide (evW TT C.wide n46 b46) n46 0 1 ⟨[(1,.rp (rGItem p0))],[]⟩ ⟨c⟩=some (.normal,⟨[(1,.rp (rGItem p0)),(20,.v (.b r))],[]⟩):=by
 have e:=Option.some.inj (ho.symm.trans (rfl:cD 0 1 b46=some _))
 subst e
 clear ho
 show aH _ _ _ _ _ _=_
 revert hF
 unfold j0
 refine iq (fun h1=>iq (fun h2=>iq (fun h3=>?_) ?_) ?_) ?_
 all_goals (rintro rfl;intros;simp (maxSteps:=4000000) only [*,rGItem,qbW,OM,Rt,↓RP,RB,RC,Nat.reduceBEq,List.map,ty3,z1,↓aa _ _ _ _ 1])
theorem zk (C:aj) (KR:Db C) (p0:iX) (r:Int) (hF:pL p0=some r):cR TT C.wide (evW TT C.wide n46 b46) n46 Try.f46.results.toList (aU Try.f46) [.agg (cGItem p0)] []=some (.I r,[]):=by
 revert hF
 unfold pL
 refine vL ?_
 unfold jn
 have g1:=wy C p0 _ rfl (j0 p0) rfl
 refine iq (fun h1=>bF (fun h2=>?_) (fun h2=>?_)) ?_
 focus
  have g2:=bK (KR p0.iz _ (L0 p0.iz))
  try simp only [rGItem,h2] at g1
 rotate_left 1
 unfold nK
 refine bF (fun h3=>?_) (fun h3=>?_)
 focus
  try simp only [rGItem,h2] at g1
 rotate_left 1
 refine bF (fun h4=>?_) (fun h4=>?_)
 focus
  try simp only [rGItem,h2] at g1
 rotate_left 1
 refine bF (fun h5=>?_) (fun h5=>?_)
 focus
  try simp only [rGItem,h2] at g1
 rotate_left 1
 refine bF (fun h6=>?_) (fun h6=>?_)
 focus
  try simp only [rGItem,h2] at g1
 rotate_left 1
 refine bF (fun h7=>?_) (fun h7=>?_)
 focus
  try simp only [rGItem,h2] at g1
 rotate_left 1
 refine bF (fun h8=>?_) (fun h8=>?_)
 focus
  try simp only [rGItem,h2] at g1
 rotate_left 1
 refine aX (fun h9=>?_) (fun h9=>?_)
 focus
  try simp only [rGItem,h2] at g1
 rotate_left 1
 try simp only [rGItem,h2] at g1
 all_goals (rintro rfl;intros;rw [bk];show cC _ _ _ (aH _ _ _ _ (Code.seq _ _) _)=_;simp (maxSteps:=4000000) only [*,cGItem,rGItem,qcf,qdZ,XC,qbW,OM,qbz,Rt,↓RP,RB,RC,Nat.reduceBEq,bP,List.map,Nat.reduceAdd,aG,jA,bne,↓ao,↓am,ty3,ty4,mR,v9,B4,z1,↓aa _ _ _ _ 0,↓bg _ _ _ _ 1,↓aa _ _ _ _ 2,↓aa _ _ _ _ 3,↓aa _ _ _ _ 4,↓aa _ _ _ _ 5,↓aa _ _ _ _ 6,↓aa _ _ _ _ 7])
def Oy:List (Nat×List Nat):=[(0,[1]),(1,[2])]
def LW:cL where
 keep:=ax Oy
 ro:=fun t=>t==1
 mv:=fun _=>false
 give:=fun _=>false
 free:=fun _=>[]
theorem YD (i:Nat):LW.keep i=ax Oy i:=rfl
theorem Vv (t:Nat):LW.ro t=(t==1):=rfl
theorem Vm (t:Nat):LW.mv t=(false):=rfl
theorem SI:Try.f114.results.toList= [.tmp 2]:=rfl
def qdQ:Code:=aU Try.f114
theorem zc (C:aj)  (p0:ad) (r:Int) (hF:pM p0=some r):cR TT C.wide (evW TT C.wide LW qdQ) LW Try.f114.results.toList (aU Try.f114) [.agg (cGValue p0)] []=some (.I r,[]):=by
 revert hF
 unfold pM
 refine vL ?_
 unfold kN
 all_goals (rintro rfl;rw [bk];show cC _ _ _ (aH _ _ _ _ (Code.seq _ _) _)=_;simp (maxSteps:=4000000) only [*,cGValue,SI,YD,Oy,Vv,Vm,↓RP,RB,RC,Nat.reduceBEq,bP,List.map,↓ao,↓aa,ty3,wb,rG,sY,pK])
def ND:List (Nat×List Nat):=[(0,[0]),(1,[2])]
def Om:cL where
 keep:=ax ND
 ro:=fun _=>false
 mv:=fun _=>false
 give:=fun _=>false
 free:=fun _=>[]
theorem qb6 (i:Nat):Om.keep i=ax ND i:=rfl
theorem U6 (t:Nat):Om.mv t=(false):=rfl
theorem T9:Try.f116.results.toList= [.tmp 2]:=rfl
def qdi:Code:=aU Try.f116
theorem Ln (C:aj) (jQ:kC C) (p0:ByteArray) (r:Bool) (hF:wR p0=some r):cR TT C.wide (evW TT C.wide Om qdi) Om Try.f116.results.toList (aU Try.f116) [.v (.s p0)] []=some (.v (.b r),[]):=by
 revert hF
 unfold wR
 have g1:=bK (jQ p0 _ (lG p0))
 all_goals (rintro⟨⟩;rw [bk];show cC _ _ _ (aH _ _ _ _ (Code.seq _ _) _)=_;simp (maxSteps:=4000000) only [*,T9,qb6,ND,U6,↓RP,RB,RC,Nat.reduceBEq,List.map,jA,↓ao,↓aa,ty4])
def D9:List (Nat×List Nat):=[(0,[0,1]),(1,[0,1,7,8]),(2,[0,1,7,8,9]),(3,[0,1,5,7,8]),(4,[0,1,5,7,8,16]),(5,[4]),(6,[0,1,7,8]),(7,[4])]
def JW:List (Nat×List Nat×List Nat):=[(9,[0,1,7,8],[]),(16,[5],[0,1,7,8])]
def wY:cL where
 keep:=ax D9
 ro:=fun _=>false
 mv:=fun _=>false
 give:=fun _=>false
 free:=fun _=>[]
 alive:=av JW
theorem QE (t:Nat) (x:Bool) (e:Env) (S:bH):cK wY t x ⟨e,S⟩=atO (av JW t x) e S:=cF rfl t x e S
theorem JG (i:Nat):wY.keep i=ax D9 i:=rfl
theorem Nr (t:Nat):wY.mv t=(false):=rfl
theorem N0 (t:Nat):wY.give t=(false):=rfl
theorem Ob:Try.f131.results.toList= [.tmp 4]:=rfl
def IO:Code:=aU Try.f131
def XR:Code:=(bE 0 (aU Try.f131)).getD .skip
theorem JA:bE 0 IO=some XR:=rfl
def oM (p0:List ByteArray) (p1:Int) (s:Int):St:=⟨[(0,.v (.sl 1 (ah bY p0))),(1,.clo 116 []),(7,.I p1),(8,.I s)],[]⟩
def qG (p0:List ByteArray) (p1:Int) (r:Int⊕Unit):Option (Ex×St):=match r with
 | .inl r=>some (.ret,⟨[(4,.I r)],[]⟩)
 | .inr r=>some (.normal,⟨[],[]⟩)
theorem v3 (C:aj) (wS:zs C) (p0:List ByteArray) (p1:Int) (p2:Int) (o:Int⊕(Int⊕Unit)) (hF:m7 p0 p1 p2=some o):evW TT C.wide wY IO 0 (oM p0 p1 p2)=Sum.elim (fun s=>evW TT C.wide wY IO 0 (oM p0 p1 s)) (fun r=>qG p0 p1 r) o:=by
 rw [cG TT wY JA]
 revert hF
 unfold m7
 try dsimp only
 refine ip (fun h1=>az fun x1 h2=>?_) ?_
 have g1:decide (0<=p2)=true:=(cp h2).1
 have g2:(ah bY p0)[(p2:Int).toNat]? =some [.s x1]:=cn _ h2
 have g3:=bK (wS x1 _ (Lk x1))
 refine iq (fun h3=>?_) ?_
 all_goals (rintro⟨⟩;intros;show cN _ _ _ (aH _ _ _ _ (Code.seq _ _) _)=_;simp (maxSteps:=4000000) only [*,oM,qG,QE,JW,JG,D9,Nr,N0,↓RP,RB,RC,↓ai,Nat.reduceBEq,List.map,↓ao,↓am,↓aa,ty3,ty9,rG])
theorem FB (C:aj) (wS:zs C) (p0:List ByteArray) (r:Int) (hF:rV p0=some r):cR TT C.wide (evW TT C.wide wY IO) wY Try.f131.results.toList (aU Try.f131) [.v (.sl 1 (ah bY p0)),.clo 116 []] []=some (.I r,[]):=by
 revert hF
 unfold rV
 refine az ?_
 rintro (x1|_) h1
 focus
  dsimp only
  have g1:=cH _ _ (v3 C wS p0 (p0.length:Int)) h1
  try simp only [oM,qG] at g1
 rotate_left 1
 dsimp only
 have g2:=cH _ _ (v3 C wS p0 (p0.length:Int)) h1
 try simp only [oM,qG] at g2
 all_goals (rintro⟨⟩;rw [bk];show cC _ _ _ (aH _ _ _ _ (Code.seq _ _) _)=_;simp (maxSteps:=4000000) only [*,Ob,JG,D9,↓RP,RB,RC,Nat.reduceBEq,List.map,Nat.reduceAdd,Int.reduceNeg,↓ao,↓aa,ty3,rG])
def Pj:List (Nat×List Nat):=[(0,[0,1]),(1,[4])]
def n91:cL where
 keep:=ax Pj
 ro:=fun _=>false
 mv:=fun _=>false
 give:=fun _=>false
 free:=fun _=>[]
theorem qbd (i:Nat):n91.keep i=ax Pj i:=rfl
theorem QF (t:Nat):n91.mv t=(false):=rfl
theorem QR:Try.f91.results.toList= [.tmp 4]:=rfl
def b91:Code:=aU Try.f91
theorem E7 (C:aj) (Fs:yl C) (p0:List ByteArray) (r:Bool) (hF:qR p0=some r):cR TT C.wide (evW TT C.wide n91 b91) n91 Try.f91.results.toList (aU Try.f91) [.v (.sl 1 (ah bY p0)),.clo 116 []] []=some (.v (.b r),[]):=by
 revert hF
 unfold qR
 refine az fun x1 h1=>?_
 have g1:=bK (Fs p0 _ h1)
 all_goals (rintro⟨⟩;rw [bk];show cC _ _ _ (aH _ _ _ _ (Code.seq _ _) _)=_;simp (maxSteps:=4000000) only [*,QR,qbd,Pj,QF,↓RP,RB,RC,Nat.reduceBEq,List.map,Nat.reduceAdd,jA,↓ao,↓aa,ty3,ty4])
def On:List (Nat×List Nat):=[(0,[1]),(1,[2])]
def L3:cL where
 keep:=ax On
 ro:=fun t=>t==1
 mv:=fun _=>false
 give:=fun _=>false
 free:=fun _=>[]
theorem ZG (i:Nat):L3.keep i=ax On i:=rfl
theorem Xc (t:Nat):L3.ro t=(t==1):=rfl
theorem TS (t:Nat):L3.mv t=(false):=rfl
theorem Vq:Try.f118.results.toList= [.tmp 2]:=rfl
def qdc:Code:=aU Try.f118
theorem La (C:aj) (nB:pd C) (jQ:kC C) (p0:iw) (r:Bool) (hF:wW p0=some r):cR TT C.wide (evW TT C.wide L3 qdc) L3 Try.f118.results.toList (aU Try.f118) [.agg (cGPair p0)] []=some (.v (.b r),[]):=by
 revert hF
 unfold wW
 have g1:=bK (nB p0.iv _ (sF p0.iv))
 refine aX (fun h1=>?_) (fun h1=>?_)
 focus
  have g2:=bK (jQ p0.gi _ (lG p0.gi))
 rotate_left 1
 all_goals (rintro⟨⟩;rw [bk];show cC _ _ _ (aH _ _ _ _ (Code.seq _ _) _)=_;simp (maxSteps:=4000000) only [*,cGPair,Vq,ZG,On,Xc,TS,↓RP,RB,RC,Nat.reduceBEq,bP,List.map,jA,↓ao,↓aa,ty4,ty9,xP])
def Kb:List (Nat×List Nat):=[(0,[0,1]),(1,[0,1,7,8]),(2,[0,1,7,8,9]),(3,[0,1,5,7,8]),(4,[0,1,5,7,8,16]),(5,[4]),(6,[0,1,7,8]),(7,[4])]
def Nx:List (Nat×List Nat×List Nat):=[(9,[0,1,7,8],[]),(16,[5],[0,1,7,8])]
def Cr:cL where
 keep:=ax Kb
 ro:=fun _=>false
 mv:=fun _=>false
 give:=fun _=>false
 free:=fun _=>[]
 alive:=av Nx
theorem Y2 (t:Nat) (x:Bool) (e:Env) (S:bH):cK Cr t x ⟨e,S⟩=atO (av Nx t x) e S:=cF rfl t x e S
theorem QN (i:Nat):Cr.keep i=ax Kb i:=rfl
theorem VV (t:Nat):Cr.mv t=(false):=rfl
theorem Uh (t:Nat):Cr.give t=(false):=rfl
theorem Um:Try.f136.results.toList= [.tmp 4]:=rfl
def Pp:Code:=aU Try.f136
def Vs:Code:=(bE 0 (aU Try.f136)).getD .skip
theorem PJ:bE 0 Pp=some Vs:=rfl
def oL (p0:List iw) (p1:Int) (s:Int):St:=⟨[(0,.v (.sl 2 (ah iw.row p0))),(1,.clo 118 []),(7,.I p1),(8,.I s)],[]⟩
def qF (p0:List iw) (p1:Int) (r:Int⊕Unit):Option (Ex×St):=match r with
 | .inl r=>some (.ret,⟨[(4,.I r)],[]⟩)
 | .inr r=>some (.normal,⟨[],[]⟩)
theorem vM (C:aj) (wG:zz C) (p0:List iw) (p1:Int) (p2:Int) (o:Int⊕(Int⊕Unit)) (hF:nf p0 p1 p2=some o):evW TT C.wide Cr Pp 0 (oL p0 p1 p2)=Sum.elim (fun s=>evW TT C.wide Cr Pp 0 (oL p0 p1 s)) (fun r=>qF p0 p1 r) o:=by
 rw [cG TT Cr PJ]
 revert hF
 unfold nf
 try dsimp only
 refine ip (fun h1=>az fun x1 h2=>?_) ?_
 have g1:decide (0<=p2)=true:=(cp h2).1
 have g2:(ah iw.row p0)[(p2:Int).toNat]? =some (rGPair x1):=cn _ h2
 have g3:=bK (wG x1 _ (KK x1))
 refine iq (fun h3=>?_) ?_
 all_goals (rintro⟨⟩;intros;show cN _ _ _ (aH _ _ _ _ (Code.seq _ _) _)=_;simp (maxSteps:=4000000) only [*,rGPair,oL,qF,Y2,Nx,QN,Kb,VV,Uh,↓RP,RB,RC,↓ai,Nat.reduceBEq,List.map,Nat.reduceAdd,↓ao,↓am,↓aa,ty3,wb,xP])
theorem Fb (C:aj) (wG:zz C) (p0:List iw) (r:Int) (hF:rP p0=some r):cR TT C.wide (evW TT C.wide Cr Pp) Cr Try.f136.results.toList (aU Try.f136) [.v (.sl 2 (ah iw.row p0)),.clo 118 []] []=some (.I r,[]):=by
 revert hF
 unfold rP
 refine az ?_
 rintro (x1|_) h1
 focus
  dsimp only
  have g1:=cH _ _ (vM C wG p0 (p0.length:Int)) h1
  try simp only [oL,qF] at g1
 rotate_left 1
 dsimp only
 have g2:=cH _ _ (vM C wG p0 (p0.length:Int)) h1
 try simp only [oL,qF] at g2
 all_goals (rintro⟨⟩;rw [bk];show cC _ _ _ (aH _ _ _ _ (Code.seq _ _) _)=_;simp (maxSteps:=4000000) only [*,Um,QN,Kb,↓RP,RB,RC,Nat.reduceBEq,List.map,Nat.reduceAdd,Int.reduceNeg,↓ao,↓aa,ty3,wb])
def Ni:List (Nat×List Nat):=[(0,[0,1]),(1,[4])]
def Ok:cL where
 keep:=ax Ni
 ro:=fun _=>false
 mv:=fun _=>false
 give:=fun _=>false
 free:=fun _=>[]
theorem ZF (i:Nat):Ok.keep i=ax Ni i:=rfl
theorem Yo (t:Nat):Ok.mv t=(false):=rfl
theorem SK:Try.f117.results.toList= [.tmp 4]:=rfl
def qcN:Code:=aU Try.f117
theorem FQ (C:aj) (Fi:xB C) (p0:List iw) (r:Bool) (hF:qL p0=some r):cR TT C.wide (evW TT C.wide Ok qcN) Ok Try.f117.results.toList (aU Try.f117) [.v (.sl 2 (ah iw.row p0)),.clo 118 []] []=some (.v (.b r),[]):=by
 revert hF
 unfold qL
 refine az fun x1 h1=>?_
 have g1:=bK (Fi p0 _ h1)
 all_goals (rintro⟨⟩;rw [bk];show cC _ _ _ (aH _ _ _ _ (Code.seq _ _) _)=_;simp (maxSteps:=4000000) only [*,SK,ZF,Ni,Yo,↓RP,RB,RC,Nat.reduceBEq,List.map,Nat.reduceAdd,jA,↓ao,↓aa,ty3,ty4])
def M0:List (Nat×List Nat):=[(0,[1]),(1,[2])]
def LM:cL where
 keep:=ax M0
 ro:=fun t=>t==1
 mv:=fun _=>false
 give:=fun _=>false
 free:=fun _=>[]
theorem qcl (i:Nat):LM.keep i=ax M0 i:=rfl
theorem Tk (t:Nat):LM.ro t=(t==1):=rfl
theorem RS (t:Nat):LM.mv t=(false):=rfl
theorem Vj:Try.f121.results.toList= [.tmp 2]:=rfl
def qdK:Code:=aU Try.f121
theorem Lt (C:aj) (jQ:kC C) (p0:ae) (r:Bool) (hF:wL p0=some r):cR TT C.wide (evW TT C.wide LM qdK) LM Try.f121.results.toList (aU Try.f121) [.agg (cGScore p0)] []=some (.v (.b r),[]):=by
 revert hF
 unfold wL
 have g1:=bK (jQ p0.iU _ (lG p0.iU))
 all_goals (rintro⟨⟩;rw [bk];show cC _ _ _ (aH _ _ _ _ (Code.seq _ _) _)=_;simp (maxSteps:=4000000) only [*,cGScore,Vj,qcl,M0,Tk,RS,↓RP,RB,RC,Nat.reduceBEq,bP,List.map,jA,↓ao,↓aa,ty4,ty9,sQ])
def zM:List (Nat×List Nat):=[(0,[0,1]),(1,[0,1,7,8]),(2,[0,1,7,8,9]),(3,[0,1,5,7,8]),(4,[0,1,5,7,8,16]),(5,[4]),(6,[0,1,7,8]),(7,[4])]
def HX:List (Nat×List Nat×List Nat):=[(9,[0,1,7,8],[]),(16,[5],[0,1,7,8])]
def uk:cL where
 keep:=ax zM
 ro:=fun _=>false
 mv:=fun _=>false
 give:=fun _=>false
 free:=fun _=>[]
 alive:=av HX
theorem L7 (t:Nat) (x:Bool) (e:Env) (S:bH):cK uk t x ⟨e,S⟩=atO (av HX t x) e S:=cF rfl t x e S
theorem ED (i:Nat):uk.keep i=ax zM i:=rfl
theorem Jd (t:Nat):uk.mv t=(false):=rfl
theorem In (t:Nat):uk.give t=(false):=rfl
theorem Jw:Try.f137.results.toList= [.tmp 4]:=rfl
def Ck:Code:=aU Try.f137
def W7:Code:=(bE 0 (aU Try.f137)).getD .skip
theorem FM:bE 0 Ck=some W7:=rfl
def oH (p0:List ae) (p1:Int) (s:Int):St:=⟨[(0,.v (.sl 2 (ah ae.row p0))),(1,.clo 121 []),(7,.I p1),(8,.I s)],[]⟩
def qE (p0:List ae) (p1:Int) (r:Int⊕Unit):Option (Ex×St):=match r with
 | .inl r=>some (.ret,⟨[(4,.I r)],[]⟩)
 | .inr r=>some (.normal,⟨[],[]⟩)
theorem v5 (C:aj) (wI:yV C) (p0:List ae) (p1:Int) (p2:Int) (o:Int⊕(Int⊕Unit)) (hF:ne p0 p1 p2=some o):evW TT C.wide uk Ck 0 (oH p0 p1 p2)=Sum.elim (fun s=>evW TT C.wide uk Ck 0 (oH p0 p1 s)) (fun r=>qE p0 p1 r) o:=by
 rw [cG TT uk FM]
 revert hF
 unfold ne
 try dsimp only
 refine ip (fun h1=>az fun x1 h2=>?_) ?_
 have g1:decide (0<=p2)=true:=(cp h2).1
 have g2:(ah ae.row p0)[(p2:Int).toNat]? =some (rGScore x1):=cn _ h2
 have g3:=bK (wI x1 _ (Lm x1))
 refine iq (fun h3=>?_) ?_
 all_goals (rintro⟨⟩;intros;show cN _ _ _ (aH _ _ _ _ (Code.seq _ _) _)=_;simp (maxSteps:=4000000) only [*,rGScore,oH,qE,L7,HX,ED,zM,Jd,In,↓RP,RB,RC,↓ai,Nat.reduceBEq,List.map,Nat.reduceAdd,↓ao,↓am,↓aa,ty3,sY,sQ])
theorem Gl (C:aj) (wI:yV C) (p0:List ae) (r:Int) (hF:rN p0=some r):cR TT C.wide (evW TT C.wide uk Ck) uk Try.f137.results.toList (aU Try.f137) [.v (.sl 2 (ah ae.row p0)),.clo 121 []] []=some (.I r,[]):=by
 revert hF
 unfold rN
 refine az ?_
 rintro (x1|_) h1
 focus
  dsimp only
  have g1:=cH _ _ (v5 C wI p0 (p0.length:Int)) h1
  try simp only [oH,qE] at g1
 rotate_left 1
 dsimp only
 have g2:=cH _ _ (v5 C wI p0 (p0.length:Int)) h1
 try simp only [oH,qE] at g2
 all_goals (rintro⟨⟩;rw [bk];show cC _ _ _ (aH _ _ _ _ (Code.seq _ _) _)=_;simp (maxSteps:=4000000) only [*,Jw,ED,zM,↓RP,RB,RC,Nat.reduceBEq,List.map,Nat.reduceAdd,Int.reduceNeg,↓ao,↓aa,ty3,sY])
def JV:List (Nat×List Nat):=[(0,[0,1]),(1,[4])]
def GQ:cL where
 keep:=ax JV
 ro:=fun _=>false
 mv:=fun _=>false
 give:=fun _=>false
 free:=fun _=>[]
theorem Q2 (i:Nat):GQ.keep i=ax JV i:=rfl
theorem Nj (t:Nat):GQ.mv t=(false):=rfl
theorem Mr:Try.f120.results.toList= [.tmp 4]:=rfl
def qb8:Code:=aU Try.f120
theorem EX (C:aj) (Fd:yn C) (p0:List ae) (r:Bool) (hF:qM p0=some r):cR TT C.wide (evW TT C.wide GQ qb8) GQ Try.f120.results.toList (aU Try.f120) [.v (.sl 2 (ah ae.row p0)),.clo 121 []] []=some (.v (.b r),[]):=by
 revert hF
 unfold qM
 refine az fun x1 h1=>?_
 have g1:=bK (Fd p0 _ h1)
 all_goals (rintro⟨⟩;rw [bk];show cC _ _ _ (aH _ _ _ _ (Code.seq _ _) _)=_;simp (maxSteps:=4000000) only [*,Mr,Q2,JV,Nj,↓RP,RB,RC,Nat.reduceBEq,List.map,Nat.reduceAdd,jA,↓ao,↓aa,ty3,ty4])
def Mo:List (Nat×List Nat):=[(0,[1]),(1,[2])]
def LL:cL where
 keep:=ax Mo
 ro:=fun t=>t==1
 mv:=fun _=>false
 give:=fun _=>false
 free:=fun _=>[]
theorem Z5 (i:Nat):LL.keep i=ax Mo i:=rfl
theorem Vd (t:Nat):LL.ro t=(t==1):=rfl
theorem RY (t:Nat):LL.mv t=(false):=rfl
theorem V5:Try.f123.results.toList= [.tmp 2]:=rfl
def qcJ:Code:=aU Try.f123
theorem Lr (C:aj) (qv:oV C) (p0:ae) (r:Bool) (hF:wH p0=some r):cR TT C.wide (evW TT C.wide LL qcJ) LL Try.f123.results.toList (aU Try.f123) [.agg (cGScore p0)] []=some (.v (.b r),[]):=by
 revert hF
 unfold wH
 have g1:=bK (qv p0.fN _ (uI p0.fN))
 all_goals (rintro⟨⟩;rw [bk];show cC _ _ _ (aH _ _ _ _ (Code.seq _ _) _)=_;simp (maxSteps:=4000000) only [*,cGScore,V5,Z5,Mo,Vd,RY,↓RP,RB,RC,Nat.reduceBEq,bP,List.map,jA,↓ao,↓aa,ty3,ty4,sQ])
def oF (p0:List ae) (p1:Int) (s:Int):St:=⟨[(0,.v (.sl 2 (ah ae.row p0))),(1,.clo 123 []),(7,.I p1),(8,.I s)],[]⟩
def qH (p0:List ae) (p1:Int) (r:Int⊕Unit):Option (Ex×St):=match r with
 | .inl r=>some (.ret,⟨[(4,.I r)],[]⟩)
 | .inr r=>some (.normal,⟨[],[]⟩)
theorem vR (C:aj) (wV:yJ C) (p0:List ae) (p1:Int) (p2:Int) (o:Int⊕(Int⊕Unit)) (hF:m9 p0 p1 p2=some o):evW TT C.wide uk Ck 0 (oF p0 p1 p2)=Sum.elim (fun s=>evW TT C.wide uk Ck 0 (oF p0 p1 s)) (fun r=>qH p0 p1 r) o:=by
 rw [cG TT uk FM]
 revert hF
 unfold m9
 try dsimp only
 refine ip (fun h1=>az fun x1 h2=>?_) ?_
 have g1:decide (0<=p2)=true:=(cp h2).1
 have g2:(ah ae.row p0)[(p2:Int).toNat]? =some (rGScore x1):=cn _ h2
 have g3:=bK (wV x1 _ (KU x1))
 refine iq (fun h3=>?_) ?_
 all_goals (rintro⟨⟩;intros;show cN _ _ _ (aH _ _ _ _ (Code.seq _ _) _)=_;simp (maxSteps:=4000000) only [*,rGScore,oF,qH,L7,HX,ED,zM,Jd,In,↓RP,RB,RC,↓ai,Nat.reduceBEq,List.map,Nat.reduceAdd,↓ao,↓am,↓aa,ty3,sY,sQ])
theorem EW (C:aj) (wV:yJ C) (p0:List ae) (r:Int) (hF:su p0=some r):cR TT C.wide (evW TT C.wide uk Ck) uk Try.f137.results.toList (aU Try.f137) [.v (.sl 2 (ah ae.row p0)),.clo 123 []] []=some (.I r,[]):=by
 revert hF
 unfold su
 refine az ?_
 rintro (x1|_) h1
 focus
  dsimp only
  have g1:=cH _ _ (vR C wV p0 (p0.length:Int)) h1
  try simp only [oF,qH] at g1
 rotate_left 1
 dsimp only
 have g2:=cH _ _ (vR C wV p0 (p0.length:Int)) h1
 try simp only [oF,qH] at g2
 all_goals (rintro⟨⟩;rw [bk];show cC _ _ _ (aH _ _ _ _ (Code.seq _ _) _)=_;simp (maxSteps:=4000000) only [*,Jw,ED,zM,↓RP,RB,RC,Nat.reduceBEq,List.map,Nat.reduceAdd,Int.reduceNeg,↓ao,↓aa,ty3,sY])
theorem E6 (C:aj) (FU:xZ C) (p0:List ae) (r:Bool) (hF:qQ p0=some r):cR TT C.wide (evW TT C.wide GQ qb8) GQ Try.f120.results.toList (aU Try.f120) [.v (.sl 2 (ah ae.row p0)),.clo 123 []] []=some (.v (.b r),[]):=by
 revert hF
 unfold qQ
 refine az fun x1 h1=>?_
 have g1:=bK (FU p0 _ h1)
 all_goals (rintro⟨⟩;rw [bk];show cC _ _ _ (aH _ _ _ _ (Code.seq _ _) _)=_;simp (maxSteps:=4000000) only [*,Mr,Q2,JV,Nj,↓RP,RB,RC,Nat.reduceBEq,List.map,Nat.reduceAdd,jA,↓ao,↓aa,ty3,ty4])
def Mg:List (Nat×List Nat):=[(0,[0,1]),(1,[4])]
def Mj:cL where
 keep:=ax Mg
 ro:=fun _=>false
 mv:=fun _=>false
 give:=fun _=>false
 free:=fun _=>[]
theorem qcB (i:Nat):Mj.keep i=ax Mg i:=rfl
theorem T5 (t:Nat):Mj.mv t=(false):=rfl
theorem Td:Try.f140.results.toList= [.tmp 4]:=rfl
def qdC:Code:=aU Try.f140
theorem yq (C:aj) (G7:zF C) (p0:ByteArray) (p1:ByteArray) (r:Int) (hF:oI p0 p1=some r):cR TT C.wide (evW TT C.wide Mj qdC) Mj Try.f140.results.toList (aU Try.f140) [.v (.s p0),.v (.s p1)] []=some (.I r,[]):=by
 revert hF
 unfold oI
 refine vL ?_
 unfold pn
 have g1:=bK (G7 p0 p1 _ (HE p0 p1))
 all_goals (rintro rfl;rw [bk];show cC _ _ _ (aH _ _ _ _ (Code.seq _ _) _)=_;simp (maxSteps:=4000000) only [*,Td,qcB,Mg,T5,↓RP,RB,RC,Nat.reduceBEq,List.map,Nat.reduceAdd,jA,↓ao,↓aa,ty3])
def MS:List (Nat×List Nat):=[(0,[0,1]),(1,[4])]
def NQ:cL where
 keep:=ax MS
 ro:=fun _=>false
 mv:=fun _=>false
 give:=fun _=>false
 free:=fun _=>[]
theorem qbx (i:Nat):NQ.keep i=ax MS i:=rfl
theorem Tg (t:Nat):NQ.mv t=(false):=rfl
theorem VD:Try.f129.results.toList= [.tmp 4]:=rfl
def qdx:Code:=aU Try.f129
theorem xO (C:aj) (xR:uq C) (p0:ByteArray) (p1:ByteArray) (r:Int) (hF:oJ p0 p1=some r):cR TT C.wide (evW TT C.wide NQ qdx) NQ Try.f129.results.toList (aU Try.f129) [.v (.s p0),.v (.s p1)] []=some (.I r,[]):=by
 revert hF
 unfold oJ
 refine vL ?_
 unfold kh
 have g1:=bK (xR p0 p1 _ (xE p0 p1))
 all_goals (rintro rfl;rw [bk];show cC _ _ _ (aH _ _ _ _ (Code.seq _ _) _)=_;simp (maxSteps:=4000000) only [*,VD,qbx,MS,Tg,↓RP,RB,RC,Nat.reduceBEq,List.map,Nat.reduceAdd,jA,↓ao,↓aa,ty3])
def M1:List (Nat×List Nat):=[(0,[2,3]),(1,[4])]
def Ky:cL where
 keep:=ax M1
 ro:=fun t=>t==2||t==3
 mv:=fun _=>false
 give:=fun _=>false
 free:=fun _=>[]
theorem qae (i:Nat):Ky.keep i=ax M1 i:=rfl
theorem Uz (t:Nat):Ky.ro t=(t==2||t==3):=rfl
theorem WO (t:Nat):Ky.mv t=(false):=rfl
theorem Wd:Try.f125.results.toList= [.tmp 4]:=rfl
def qcC:Code:=aU Try.f125
theorem z9 (C:aj) (ku:lg C) (p0:iw) (p1:iw) (r:Int) (hF:qt p0 p1=some r):cR TT C.wide (evW TT C.wide Ky qcC) Ky Try.f125.results.toList (aU Try.f125) [.agg (cGPair p0),.agg (cGPair p1)] []=some (.I r,[]):=by
 revert hF
 unfold qt
 refine vL ?_
 unfold oG
 have g1:=bK (ku p0.iv p1.iv _ (rx p0.iv p1.iv))
 all_goals (rintro rfl;rw [bk];show cC _ _ _ (aH _ _ _ _ (Code.seq _ _) _)=_;simp (maxSteps:=4000000) only [*,cGPair,Wd,qae,M1,Uz,WO,↓RP,RB,RC,Nat.reduceBEq,bP,List.map,Nat.reduceAdd,jA,↓ao,↓aa,ty3,ty9,xP])
def Ka:List (Nat×List Nat):=[(0,[0,1]),(1,[0,1,5]),(2,[0,1,5,9]),(3,[0,1,5]),(4,[0,1,5,23]),(5,[4]),(6,[4])]
def Mw:List (Nat×List Nat×List Nat):=[(9,[0,1,5],[]),(23,[],[0,1,5])]
def A3:cL where
 keep:=ax Ka
 ro:=fun _=>false
 mv:=fun _=>false
 give:=fun _=>false
 free:=fun i=>match i with|4=>[(0,1),(0,2),(1,2),(0,3),(1,3),(0,4),(0,5),(0,6),(1,6),(2,6),(3,6),(4,6),(5,6),(0,7),(1,7),(2,7),(3,7),(4,7),(5,7),(6,7),(0,8),(1,8),(2,8),(3,8),(4,8),(5,8),(0,9),(1,9),(2,9),(3,9),(4,9),(5,9)]|_=>[]
 alive:=av Mw
theorem qat (t:Nat) (x:Bool) (e:Env) (S:bH):cK A3 t x ⟨e,S⟩=atO (av Mw t x) e S:=cF rfl t x e S
theorem Rm (i:Nat):A3.keep i=ax Ka i:=rfl
theorem RZ (t:Nat):A3.mv t=(false):=rfl
theorem Xj (t:Nat):A3.give t=(false):=rfl
theorem SU:A3.free 4= [(0,1),(0,2),(1,2),(0,3),(1,3),(0,4),(0,5),(0,6),(1,6),(2,6),(3,6),(4,6),(5,6),(0,7),(1,7),(2,7),(3,7),(4,7),(5,7),(6,7),(0,8),(1,8),(2,8),(3,8),(4,8),(5,8),(0,9),(1,9),(2,9),(3,9),(4,9),(5,9)]:=rfl
theorem UO:Try.f124.results.toList= [.tmp 4]:=rfl
def Pl:Code:=aU Try.f124
def Xv:Code:=(bE 0 (aU Try.f124)).getD .skip
theorem P0:bE 0 Pl=some Xv:=rfl
def jz (p0:List iw) (s:Int):St:=⟨[(0,.v (.sl 2 (ah iw.row p0))),(1,.clo 125 []),(5,.I s)],[]⟩
def jR (p0:List iw) (r:Unit⊕Unit):Option (Ex×St):=match r with
 | .inl r=>some (.ret,⟨[(4,.v (.b false))],[]⟩)
 | .inr r=>some (.normal,⟨[],[]⟩)
theorem mj (C:aj) (qJ:tl C) (p0:List iw) (p1:Int) (o:Int⊕(Unit⊕Unit)) (hF:jh p0 p1=some o):evW TT C.wide A3 Pl 0 (jz p0 p1)=Sum.elim (fun s=>evW TT C.wide A3 Pl 0 (jz p0 s)) (fun r=>jR p0 r) o:=by
 rw [cG TT A3 P0]
 revert hF
 unfold jh
 try dsimp only
 refine ip (fun h1=>az fun x1 h2=>?_) ?_
 have g1:decide (0<=(IntKind.i64.wrap (p1-1)))=true:=(cp h2).1
 have g2:(ah iw.row p0)[((IntKind.i64.wrap (p1-1)):Int).toNat]? =some (rGPair x1):=cn _ h2
 refine az fun x2 h3=>?_
 have g3:decide (0<=p1)=true:=(cp h3).1
 have g4:(ah iw.row p0)[(p1:Int).toNat]? =some (rGPair x2):=cn _ h3
 have g5:=bK (qJ x1 x2 _ (Aj x1 x2))
 refine iq (fun h4=>?_) ?_
 all_goals (rintro⟨⟩;intros;show cN _ _ _ (aH _ _ _ _ (Code.seq _ _) _)=_;simp (maxSteps:=4000000) only [*,rGPair,jz,jR,qat,Mw,Rm,Ka,SU,RZ,Xj,↓RP,RB,RC,↓ai,Nat.reduceBEq,List.map,Nat.reduceAdd,List.foldl_cons,List.foldl_nil,List.filter_nil,↓ao,↓am,↓aa,↓aq,ty3,ty4,wb,xP])
theorem ra (C:aj) (qJ:tl C) (p0:List iw) (r:Bool) (hF:jk p0=some r):cR TT C.wide (evW TT C.wide A3 Pl) A3 Try.f124.results.toList (aU Try.f124) [.v (.sl 2 (ah iw.row p0)),.clo 125 []] []=some (.v (.b r),[]):=by
 revert hF
 unfold jk
 refine az ?_
 rintro (_|_) h1
 focus
  dsimp only
  have g1:=cH _ _ (mj C qJ p0) h1
  try simp only [jz,jR] at g1
 rotate_left 1
 dsimp only
 have g2:=cH _ _ (mj C qJ p0) h1
 try simp only [jz,jR] at g2
 all_goals (rintro⟨⟩;rw [bk];show cC _ _ _ (aH _ _ _ _ (Code.seq _ _) _)=_;simp (maxSteps:=4000000) only [*,UO,Rm,Ka,↓RP,RB,RC,Nat.reduceBEq,List.map,Nat.reduceAdd,↓ao,↓aa,ty3,ty4])
def M6:List (Nat×List Nat):=[(0,[0]),(1,[2])]
def OU:cL where
 keep:=ax M6
 ro:=fun _=>false
 mv:=fun _=>false
 give:=fun _=>false
 free:=fun _=>[]
theorem YC (i:Nat):OU.keep i=ax M6 i:=rfl
theorem Tc:Try.f143.results.toList= [.tmp 2]:=rfl
def qd3:Code:=aU Try.f143
theorem z6 (C:aj)  (p0:Int) (r:Bool) (hF:oQ p0=some r):cR TT C.wide (evW TT C.wide OU qd3) OU Try.f143.results.toList (aU Try.f143) [.I p0] []=some (.v (.b r),[]):=by
 revert hF
 unfold oQ
 all_goals (rintro⟨⟩;rw [bk];show cC _ _ _ (aH _ _ _ _ (Code.seq _ _) _)=_;simp (maxSteps:=4000000) only [*,Tc,YC,M6,↓RP,RB,RC,Nat.reduceBEq,List.map,bne,↓ao,↓aa,ty3,ty4])
def L4:List (Nat×List Nat):=[(0,[0,1]),(1,[0,1,5]),(2,[0,1,5,6]),(3,[0,1,6,11]),(4,[12]),(5,[4]),(6,[4]),(7,[0,1,13]),(8,[4]),(9,[0,1,16]),(10,[4]),(11,[19]),(12,[4]),(13,[4])]
def N7:List (Nat×List Nat×List Nat):=[(11,[6],[0,1,6]),(12,[],[]),(13,[],[0,1]),(16,[],[0,1]),(19,[],[])]
def KV:cL where
 keep:=ax L4
 ro:=fun _=>false
 mv:=fun _=>false
 give:=fun _=>false
 free:=fun _=>[]
 alive:=av N7
theorem YL (t:Nat) (x:Bool) (e:Env) (S:bH):cK KV t x ⟨e,S⟩=atO (av N7 t x) e S:=cF rfl t x e S
theorem qah (i:Nat):KV.keep i=ax L4 i:=rfl
theorem WW (t:Nat):KV.mv t=(false):=rfl
theorem Sa:Try.f139.results.toList= [.tmp 4]:=rfl
def qcX:Code:=aU Try.f139
theorem yt (C:aj) (vY:vQ C) (p0:Int) (p1:Int) (r:Int) (hF:oE p0 p1=some r):cR TT C.wide (evW TT C.wide KV qcX) KV Try.f139.results.toList (aU Try.f139) [.I p0,.I p1] []=some (.I r,[]):=by
 revert hF
 unfold oE
 refine vL ?_
 unfold me
 have g1:=bK (vY p0 _ (v8 p0))
 have g2:=bK (vY p1 _ (v8 p1))
 refine aX (fun h1=>?_) (fun h1=>?_)
 focus
  refine iq (fun h2=>?_) ?_
 rotate_left 2
 refine iq (fun h2=>iq (fun h3=>iq (fun h4=>?_) ?_) ?_) ?_
 all_goals (rintro rfl;intros;rw [bk];show cC _ _ _ (aH _ _ _ _ (Code.seq _ _) _)=_;simp (maxSteps:=4000000) only [*,Sa,YL,N7,qah,L4,WW,↓RP,RB,RC,Nat.reduceBEq,List.map,Nat.reduceAdd,Int.reduceNeg,jA,↓ao,↓am,↓aa,ty3,ty4])
def Kh:List (Nat×List Nat):=[(0,[0]),(1,[0,3]),(2,[0,3,6,7,8]),(3,[0,3,6,7,8,9]),(4,[0,3,5,6,7,8]),(5,[0,3,5,6,7,8,14]),(6,[2]),(7,[0,3,6,7,8]),(8,[2])]
def Oz:List (Nat×List Nat×List Nat):=[(9,[0,3,6,7,8],[3]),(14,[5],[0,3,6,7,8])]
def Fl:cL where
 keep:=ax Kh
 ro:=fun _=>false
 mv:=fun _=>false
 give:=fun _=>false
 free:=fun _=>[]
 alive:=av Oz
theorem qav (t:Nat) (x:Bool) (e:Env) (S:bH):cK Fl t x ⟨e,S⟩=atO (av Oz t x) e S:=cF rfl t x e S
theorem Q9 (i:Nat):Fl.keep i=ax Kh i:=rfl
theorem V0 (t:Nat):Fl.mv t=(false):=rfl
theorem Xz:Try.f138.results.toList= [.tmp 2]:=rfl
def PD:Code:=aU Try.f138
def Ym:Code:=(bE 0 (aU Try.f138)).getD .skip
theorem Qw:bE 0 PD=some Ym:=rfl
def oK (p0:List Int) (p1:Int) (s:Int):St:=⟨[(0,.v (.sl 1 (ah u1 p0))),(3,.I 0),(6,.v (.sl 1 (ah u1 p0))),(7,.I p1),(8,.I s)],[]⟩
def qC (p0:List Int) (p1:Int) (r:Int⊕Unit):Option (Ex×St):=match r with
 | .inl r=>some (.ret,⟨[(2,.I r)],[]⟩)
 | .inr r=>some (.normal,⟨[(3,.I 0)],[]⟩)
theorem vX (C:aj)  (p0:List Int) (p1:Int) (p2:Int) (o:Int⊕(Int⊕Unit)) (hF:m8 p0 p1 p2=some o):evW TT C.wide Fl PD 0 (oK p0 p1 p2)=Sum.elim (fun s=>evW TT C.wide Fl PD 0 (oK p0 p1 s)) (fun r=>qC p0 p1 r) o:=by
 rw [cG TT Fl Qw]
 revert hF
 unfold m8
 try dsimp only
 refine ip (fun h1=>az fun x1 h2=>?_) ?_
 have g1:decide (0<=p2)=true:=(cp h2).1
 have g2:(ah u1 p0)[(p2:Int).toNat]? =some [.I x1]:=cn _ h2
 refine iq (fun h3=>?_) ?_
 all_goals (rintro⟨⟩;intros;show cN _ _ _ (aH _ _ _ _ (Code.seq _ _) _)=_;simp (maxSteps:=4000000) only [*,oK,qC,qav,Oz,Q9,Kh,V0,↓RP,RB,RC,↓ai,Nat.reduceBEq,List.map,bne,↓ao,↓am,↓aa,ty3,NA])
theorem Fe (C:aj)  (p0:List Int) (r:Int) (hF:qN p0=some r):cR TT C.wide (evW TT C.wide Fl PD) Fl Try.f138.results.toList (aU Try.f138) [.v (.sl 1 (ah u1 p0))] []=some (.I r,[]):=by
 revert hF
 unfold qN
 refine az ?_
 rintro (x1|_) h1
 focus
  dsimp only
  have g1:=cH _ _ (vX C p0 (p0.length:Int)) h1
  try simp only [oK,qC] at g1
 rotate_left 1
 dsimp only
 have g2:=cH _ _ (vX C p0 (p0.length:Int)) h1
 try simp only [oK,qC] at g2
 all_goals (rintro⟨⟩;rw [bk];show cC _ _ _ (aH _ _ _ _ (Code.seq _ _) _)=_;simp (maxSteps:=4000000) only [*,Xz,Q9,Kh,↓RP,RB,RC,Nat.reduceBEq,List.map,↓ao,↓aa,ty3,NA])
def Nc:List (Nat×List Nat):=[(0,[2,3]),(1,[4])]
def IF:cL where
 keep:=ax Nc
 ro:=fun t=>t==2||t==3
 mv:=fun _=>false
 give:=fun _=>false
 free:=fun i=>match i with|1=>[(0,2),(1,2),(0,3),(1,3),(0,5),(1,5),(2,5),(3,5),(4,5),(0,6),(1,6),(2,6),(3,6),(4,6),(0,7),(1,7),(2,7),(3,7),(4,7),(5,7),(6,7),(0,8),(1,8),(2,8),(3,8),(4,8),(5,8),(6,8)]|_=>[]
theorem qb2 (i:Nat):IF.keep i=ax Nc i:=rfl
theorem VP (t:Nat):IF.ro t=(t==2||t==3):=rfl
theorem Up (t:Nat):IF.mv t=(false):=rfl
theorem XE:IF.free 1= [(0,2),(1,2),(0,3),(1,3),(0,5),(1,5),(2,5),(3,5),(4,5),(0,6),(1,6),(2,6),(3,6),(4,6),(0,7),(1,7),(2,7),(3,7),(4,7),(5,7),(6,7),(0,8),(1,8),(2,8),(3,8),(4,8),(5,8),(6,8)]:=rfl
theorem Sw:Try.f127.results.toList= [.tmp 4]:=rfl
def qdw:Code:=aU Try.f127
theorem Af (C:aj) (xN:ri C) (ku:lg C) (E3:ya C) (p0:ae) (p1:ae) (r:Int) (hF:nx p0 p1=some r):cR TT C.wide (evW TT C.wide IF qdw) IF Try.f127.results.toList (aU Try.f127) [.agg (cGScore p0),.agg (cGScore p1)] []=some (.I r,[]):=by
 revert hF
 unfold nx
 have g1:=bK (xN p0.fN p1.fN _ (yf p0.fN p1.fN))
 have g2:=bK (ku p0.iU p1.iU _ (rx p0.iU p1.iU))
 refine az fun x1 h1=>?_
 have g3:=bK (E3 [(me p0.fN p1.fN),(kh p0.iU p1.iU)] _ h1)
 all_goals (rintro⟨⟩;rw [bk];show cC _ _ _ (aH _ _ _ _ (Code.seq _ _) _)=_;simp (maxSteps:=4000000) only [*,cGScore,Sw,qb2,Nc,XE,VP,Up,↓RP,RB,RC,Nat.reduceBEq,bP,List.map,Nat.reduceAdd,Nat.reduceMul,Nat.reduceLeDiff,jA,bne,↓ao,↓aa,↓aq,ty3,ty9,sQ,NA])
def Kp:List (Nat×List Nat):=[(0,[0,1]),(1,[0,1,5]),(2,[0,1,5,9]),(3,[0,1,5]),(4,[0,1,5,23]),(5,[4]),(6,[4])]
def L8:List (Nat×List Nat×List Nat):=[(9,[0,1,5],[]),(23,[],[0,1,5])]
def Bm:cL where
 keep:=ax Kp
 ro:=fun _=>false
 mv:=fun _=>false
 give:=fun _=>false
 free:=fun i=>match i with|4=>[(0,1),(0,2),(1,2),(0,3),(1,3),(0,4),(0,5),(0,6),(1,6),(2,6),(3,6),(4,6),(5,6),(0,7),(1,7),(2,7),(3,7),(4,7),(5,7),(6,7),(0,8),(1,8),(2,8),(3,8),(4,8),(5,8),(0,9),(1,9),(2,9),(3,9),(4,9),(5,9)]|_=>[]
 alive:=av L8
theorem qbK (t:Nat) (x:Bool) (e:Env) (S:bH):cK Bm t x ⟨e,S⟩=atO (av L8 t x) e S:=cF rfl t x e S
theorem Q8 (i:Nat):Bm.keep i=ax Kp i:=rfl
theorem UX (t:Nat):Bm.mv t=(false):=rfl
theorem TO (t:Nat):Bm.give t=(false):=rfl
theorem Wq:Bm.free 4= [(0,1),(0,2),(1,2),(0,3),(1,3),(0,4),(0,5),(0,6),(1,6),(2,6),(3,6),(4,6),(5,6),(0,7),(1,7),(2,7),(3,7),(4,7),(5,7),(6,7),(0,8),(1,8),(2,8),(3,8),(4,8),(5,8),(0,9),(1,9),(2,9),(3,9),(4,9),(5,9)]:=rfl
theorem Ua:Try.f126.results.toList= [.tmp 4]:=rfl
def Pe:Code:=aU Try.f126
def VC:Code:=(bE 0 (aU Try.f126)).getD .skip
theorem Po:bE 0 Pe=some VC:=rfl
def jt (p0:List ae) (s:Int):St:=⟨[(0,.v (.sl 2 (ah ae.row p0))),(1,.clo 127 []),(5,.I s)],[]⟩
def jP (p0:List ae) (r:Unit⊕Unit):Option (Ex×St):=match r with
 | .inl r=>some (.ret,⟨[(4,.v (.b false))],[]⟩)
 | .inr r=>some (.normal,⟨[],[]⟩)
theorem lT (C:aj) (qD:sX C) (p0:List ae) (p1:Int) (o:Int⊕(Unit⊕Unit)) (hF:jc p0 p1=some o):evW TT C.wide Bm Pe 0 (jt p0 p1)=Sum.elim (fun s=>evW TT C.wide Bm Pe 0 (jt p0 s)) (fun r=>jP p0 r) o:=by
 rw [cG TT Bm Po]
 revert hF
 unfold jc
 try dsimp only
 refine ip (fun h1=>az fun x1 h2=>?_) ?_
 have g1:decide (0<=(IntKind.i64.wrap (p1-1)))=true:=(cp h2).1
 have g2:(ah ae.row p0)[((IntKind.i64.wrap (p1-1)):Int).toNat]? =some (rGScore x1):=cn _ h2
 refine az fun x2 h3=>?_
 have g3:decide (0<=p1)=true:=(cp h3).1
 have g4:(ah ae.row p0)[(p1:Int).toNat]? =some (rGScore x2):=cn _ h3
 refine az fun x3 h4=>?_
 have g5:=bK (qD x1 x2 _ h4)
 refine iq (fun h5=>?_) ?_
 all_goals (rintro⟨⟩;intros;show cN _ _ _ (aH _ _ _ _ (Code.seq _ _) _)=_;simp (maxSteps:=4000000) only [*,rGScore,jt,jP,qbK,L8,Q8,Kp,Wq,UX,TO,↓RP,RB,RC,↓ai,Nat.reduceBEq,List.map,Nat.reduceAdd,List.foldl_cons,List.foldl_nil,List.filter_nil,↓ao,↓am,↓aa,↓aq,ty3,ty4,sY,sQ])
theorem qK (C:aj) (qD:sX C) (p0:List ae) (r:Bool) (hF:jf p0=some r):cR TT C.wide (evW TT C.wide Bm Pe) Bm Try.f126.results.toList (aU Try.f126) [.v (.sl 2 (ah ae.row p0)),.clo 127 []] []=some (.v (.b r),[]):=by
 revert hF
 unfold jf
 refine az ?_
 rintro (_|_) h1
 focus
  dsimp only
  have g1:=cH _ _ (lT C qD p0) h1
  try simp only [jt,jP] at g1
 rotate_left 1
 dsimp only
 have g2:=cH _ _ (lT C qD p0) h1
 try simp only [jt,jP] at g2
 all_goals (rintro⟨⟩;rw [bk];show cC _ _ _ (aH _ _ _ _ (Code.seq _ _) _)=_;simp (maxSteps:=4000000) only [*,Ua,Q8,Kp,↓RP,RB,RC,Nat.reduceBEq,List.map,Nat.reduceAdd,↓ao,↓aa,ty3,ty4])
def JE:List (Nat×List Nat):=[(0,[0,1]),(1,[0,1,5]),(2,[0,1,5,9]),(3,[0,1,5]),(4,[0,1,5,23]),(5,[4]),(6,[4])]
def NT:List (Nat×List Nat×List Nat):=[(9,[0,1,5],[]),(23,[],[0,1,5])]
def BF:cL where
 keep:=ax JE
 ro:=fun _=>false
 mv:=fun _=>false
 give:=fun _=>false
 free:=fun i=>match i with|4=>[(0,1),(0,2),(1,2),(0,3),(1,3),(0,4),(0,5),(0,6),(1,6),(2,6),(3,6),(4,6),(5,6),(0,7),(1,7),(2,7),(3,7),(4,7),(5,7),(6,7),(0,8),(1,8),(2,8),(3,8),(4,8),(5,8),(0,9),(1,9),(2,9),(3,9),(4,9),(5,9)]|_=>[]
 alive:=av NT
theorem qch (t:Nat) (x:Bool) (e:Env) (S:bH):cK BF t x ⟨e,S⟩=atO (av NT t x) e S:=cF rfl t x e S
theorem QC (i:Nat):BF.keep i=ax JE i:=rfl
theorem Vt (t:Nat):BF.mv t=(false):=rfl
theorem Vo (t:Nat):BF.give t=(false):=rfl
theorem Ti:BF.free 4= [(0,1),(0,2),(1,2),(0,3),(1,3),(0,4),(0,5),(0,6),(1,6),(2,6),(3,6),(4,6),(5,6),(0,7),(1,7),(2,7),(3,7),(4,7),(5,7),(6,7),(0,8),(1,8),(2,8),(3,8),(4,8),(5,8),(0,9),(1,9),(2,9),(3,9),(4,9),(5,9)]:=rfl
theorem TI:Try.f128.results.toList= [.tmp 4]:=rfl
def PS:Code:=aU Try.f128
def W8:Code:=(bE 0 (aU Try.f128)).getD .skip
theorem Pw:bE 0 PS=some W8:=rfl
def jm (p0:List ByteArray) (s:Int):St:=⟨[(0,.v (.sl 1 (ah bY p0))),(1,.clo 129 []),(5,.I s)],[]⟩
def jJ (p0:List ByteArray) (r:Unit⊕Unit):Option (Ex×St):=match r with
 | .inl r=>some (.ret,⟨[(4,.v (.b false))],[]⟩)
 | .inr r=>some (.normal,⟨[],[]⟩)
theorem lC (C:aj) (ku:lg C) (p0:List ByteArray) (p1:Int) (o:Int⊕(Unit⊕Unit)) (hF:iY p0 p1=some o):evW TT C.wide BF PS 0 (jm p0 p1)=Sum.elim (fun s=>evW TT C.wide BF PS 0 (jm p0 s)) (fun r=>jJ p0 r) o:=by
 rw [cG TT BF Pw]
 revert hF
 unfold iY
 try dsimp only
 refine ip (fun h1=>az fun x1 h2=>?_) ?_
 have g1:decide (0<=(IntKind.i64.wrap (p1-1)))=true:=(cp h2).1
 have g2:(ah bY p0)[((IntKind.i64.wrap (p1-1)):Int).toNat]? =some [.s x1]:=cn _ h2
 refine az fun x2 h3=>?_
 have g3:decide (0<=p1)=true:=(cp h3).1
 have g4:(ah bY p0)[(p1:Int).toNat]? =some [.s x2]:=cn _ h3
 have g5:=bK (ku x1 x2 _ (rx x1 x2))
 refine iq (fun h4=>?_) ?_
 all_goals (rintro⟨⟩;intros;show cN _ _ _ (aH _ _ _ _ (Code.seq _ _) _)=_;simp (maxSteps:=4000000) only [*,jm,jJ,qch,NT,QC,JE,Ti,Vt,Vo,↓RP,RB,RC,↓ai,Nat.reduceBEq,List.map,List.foldl_cons,List.foldl_nil,List.filter_nil,↓ao,↓am,↓aa,↓aq,ty3,ty4,ty9,rG])
theorem qi (C:aj) (ku:lg C) (p0:List ByteArray) (r:Bool) (hF:i4 p0=some r):cR TT C.wide (evW TT C.wide BF PS) BF Try.f128.results.toList (aU Try.f128) [.v (.sl 1 (ah bY p0)),.clo 129 []] []=some (.v (.b r),[]):=by
 revert hF
 unfold i4
 refine az ?_
 rintro (_|_) h1
 focus
  dsimp only
  have g1:=cH _ _ (lC C ku p0) h1
  try simp only [jm,jJ] at g1
 rotate_left 1
 dsimp only
 have g2:=cH _ _ (lC C ku p0) h1
 try simp only [jm,jJ] at g2
 all_goals (rintro⟨⟩;rw [bk];show cC _ _ _ (aH _ _ _ _ (Code.seq _ _) _)=_;simp (maxSteps:=4000000) only [*,TI,QC,JE,↓RP,RB,RC,Nat.reduceBEq,List.map,Nat.reduceAdd,↓ao,↓aa,ty3,ty4])
def Mp:List (Nat×List Nat):=[(0,[1,2]),(1,[3])]
def KW:cL where
 keep:=ax Mp
 ro:=fun t=>t==2
 mv:=fun _=>false
 give:=fun _=>false
 free:=fun _=>[]
theorem ZX (i:Nat):KW.keep i=ax Mp i:=rfl
theorem VY (t:Nat):KW.ro t=(t==2):=rfl
theorem VX (t:Nat):KW.mv t=(false):=rfl
theorem TM:Try.f141.results.toList= [.tmp 3]:=rfl
def qdM:Code:=aU Try.f141
theorem yP (C:aj)  (p0:ae) (p1:ByteArray) (r:Bool×ByteArray) (hF:nV p0 p1=some r):cR TT C.wide (evW TT C.wide KW qdM) KW Try.f141.results.toList (aU Try.f141) [.agg (cGScore p0),.ptr 0 0] [[.v (.s p1)]]=some (.v (.b r.1),[[.v (.s r.2)]]):=by
 revert hF
 unfold nV
 all_goals (rintro⟨⟩;rw [bk];show cC _ _ _ (aH _ _ _ _ (Code.seq _ _) _)=_;simp (maxSteps:=4000000) only [*,cGScore,TM,ZX,Mp,VY,VX,↓RP,RB,RC,Nat.reduceBEq,bP,List.map,Nat.reduceAdd,↓ao,↓aa,ty4,ty9,sQ])
def ld (p0:List ae) (p1:Int) (s:Int×ByteArray):St:=⟨[(0,.v (.sl 2 (ah ae.row p0))),(1,.clo 141 [.ptr 0 0]),(7,.I p1),(8,.I s.1)],[[.v (.s s.2)]]⟩
def mo (p0:List ae) (p1:Int) (r:(Int×ByteArray)⊕ByteArray):Option (Ex×St):=match r with
 | .inl r=>some (.ret,⟨[(4,.I r.1)],[[.v (.s r.2)]]⟩)
 | .inr r=>some (.normal,⟨[],[[.v (.s r)]]⟩)
theorem rl (C:aj) (qb:rL C) (p0:List ae) (p1:Int) (s:Int×ByteArray) (o:(Int×ByteArray)⊕((Int×ByteArray)⊕ByteArray)) (hF:kq p0 p1 s=some o):evW TT C.wide uk Ck 0 (ld p0 p1 s)=Sum.elim (fun s=>evW TT C.wide uk Ck 0 (ld p0 p1 s)) (fun r=>mo p0 p1 r) o:=by
 obtain⟨p2,p3⟩:=s
 rw [cG TT uk FM]
 revert hF
 unfold kq
 try dsimp only
 refine ip (fun h1=>az fun x1 h2=>?_) ?_
 have g1:decide (0<=p2)=true:=(cp h2).1
 have g2:(ah ae.row p0)[(p2:Int).toNat]? =some (rGScore x1):=cn _ h2
 refine az ?_
 rintro⟨x2,x3⟩ h3
 dsimp only
 have g3:C.wide 141 [.agg (cGScore x1),.ptr 0 0] [[.v (.s p3)]]=some (.v (.b x2),[[.v (.s x3)]]):=cX [0] rfl rfl rfl rfl (qb x1 p3 _ h3) rfl rfl
 refine iq (fun h4=>?_) ?_
 all_goals (rintro⟨⟩;intros;show cN _ _ _ (aH _ _ _ _ (Code.seq _ _) _)=_;simp (maxSteps:=4000000) only [*,rGScore,ld,mo,L7,HX,ED,zM,Jd,In,↓RP,RB,RC,↓ai,Nat.reduceBEq,List.map,Nat.reduceAdd,↓ao,↓am,↓aa,ty3,sY,sQ])
theorem w6 (C:aj) (qb:rL C) (p0:List ae) (p1:ByteArray) (r:Int×ByteArray) (hF:l5 p0 p1=some r):cR TT C.wide (evW TT C.wide uk Ck) uk Try.f137.results.toList (aU Try.f137) [.v (.sl 2 (ah ae.row p0)),.clo 141 [.ptr 0 0]] [[.v (.s p1)]]=some (.I r.1,[[.v (.s r.2)]]):=by
 revert hF
 unfold l5
 refine az ?_
 rintro (⟨x1,x2⟩|x1) h1
 focus
  dsimp only
  have g1:=cH _ _ (rl C qb p0 (p0.length:Int)) h1
  try simp only [ld,mo] at g1
 rotate_left 1
 dsimp only
 have g2:=cH _ _ (rl C qb p0 (p0.length:Int)) h1
 try simp only [ld,mo] at g2
 all_goals (rintro⟨⟩;rw [bk];show cC _ _ _ (aH _ _ _ _ (Code.seq _ _) _)=_;simp (maxSteps:=4000000) only [*,Jw,ED,zM,↓RP,RB,RC,Nat.reduceBEq,List.map,Nat.reduceAdd,Int.reduceNeg,↓ao,↓aa,ty3,sY])
end Go.Proofs.Ytgcglmoogaldbaa
