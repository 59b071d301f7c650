/- The code of these functions, run by the machine Mx, gives what the plain functions say, if their callees do (part 1). -/
import Derived.Test.YtgcglmoogaldbaaGreatWTy
import Derived.Test.YtgcglmoogaldbaaGreatTapeFoldsD
set_option linter.unusedSimpArgs false
set_option linter.unusedVariables false
set_option linter.constructorNameAsVariable false
set_option linter.unnecessarySimpa false
set_option maxRecDepth 100000
set_option maxHeartbeats 40000000
noncomputable section
namespace Go.Proofs.YtgcglmoogaldbaaGreat
open Go Go.Mx Go.Proofs
def HM:List (Nat×List Nat):=[(0,[1,2]),(1,[1,2,3]),(2,[1,2,3,4]),(3,[1,2,3,4,18]),(4,[1,2,3,4]),(5,[1,2,3,4]),(6,[1,2,3,5]),(7,[1,2,3,5,35]),(8,[1,2,3,5]),(9,[1,2,3,5]),(10,[1,2,3,6]),(11,[1,2,3,6,52]),(12,[1,2,3,6]),(13,[1,2,3,6]),(14,[2])]
def Na:List (Nat×List Nat×List Nat):=[(18,[1,2,3,4],[1,2,3]),(35,[1,2,3,5],[1,2,3]),(52,[1,2,3,6],[2,3])]
def xA:cL where
 keep:=ax HM
 ro:=fun t=>t==1
 mv:=fun t=>t==65
 give:=fun _=>false
 free:=fun i=>match i with|5=>[(0,2),(1,2),(0,3),(1,3),(0,4),(1,4),(2,4),(3,4),(0,5),(1,5),(0,6),(1,6),(0,7),(1,7)]|9=>[(0,2),(1,2),(0,3),(1,3),(0,4),(1,4),(2,4),(3,4),(0,5),(1,5),(0,6),(1,6),(0,7),(1,7)]|13=>[(0,2),(1,2),(0,3),(1,3),(0,4),(1,4),(2,4),(3,4),(0,5),(1,5),(0,6),(1,6),(0,7),(1,7)]|_=>[]
 alive:=av Na
theorem Tk (t:Nat) (x:Bool) (e:Env) (S:bH):cK xA t x ⟨e,S⟩=atO (av Na t x) e S:=cF rfl t x e S
theorem PS (i:Nat):xA.keep i=ax HM i:=rfl
theorem qdj (t:Nat):xA.ro t=(t==1):=rfl
theorem Kk (t:Nat):xA.mv t=(t==65):=rfl
theorem J2 (t:Nat):xA.give t=(false):=rfl
theorem qcT:xA.free 5= [(0,2),(1,2),(0,3),(1,3),(0,4),(1,4),(2,4),(3,4),(0,5),(1,5),(0,6),(1,6),(0,7),(1,7)]:=rfl
theorem qff:xA.free 9= [(0,2),(1,2),(0,3),(1,3),(0,4),(1,4),(2,4),(3,4),(0,5),(1,5),(0,6),(1,6),(0,7),(1,7)]:=rfl
theorem WL:xA.free 13= [(0,2),(1,2),(0,3),(1,3),(0,4),(1,4),(2,4),(3,4),(0,5),(1,5),(0,6),(1,6),(0,7),(1,7)]:=rfl
theorem qeH:Tryz.f101.results.toList= [.cell 2 109]:=rfl
def Gn:Code:=aU Tryz.f101
def qe0:Code:=(bE 0 (aU Tryz.f101)).getD .skip
theorem Xj:bE 0 Gn=some qe0:=rfl
def qbT:Code:=(bE 2 (aU Tryz.f101)).getD .skip
theorem Vy:bE 2 Gn=some qbT:=rfl
def qeg:Code:=(bE 4 (aU Tryz.f101)).getD .skip
theorem VI:bE 4 Gn=some qeg:=rfl
def rD (p0:ae) (s:Int×ae):St:=⟨[(1,.rp (rGValue p0)),(2,.ptr 0 0),(3,.ptr 1 0),(4,.I s.1)],[[.I 0,.v (.s ByteArray.empty),.I 0,.own 2 [],.own 1 [],.own 2 []],[.I s.2.e5,.v (.s s.2.iq),.I s.2.iO,.own 2 (ah iC.row s.2.iz),.own 1 (ah bY s.2.af),.own 2 (ah f5.row s.2.f9)]]⟩
def un (p0:ae) (r:ae):Option (Ex×St):=some (.normal,⟨[(1,.rp (rGValue p0)),(2,.ptr 0 0),(3,.ptr 1 0)],[[.I 0,.v (.s ByteArray.empty),.I 0,.own 2 [],.own 1 [],.own 2 []],[.I r.e5,.v (.s r.iq),.I r.iO,.own 2 (ah iC.row r.iz),.own 1 (ah bY r.af),.own 2 (ah f5.row r.f9)]]⟩)
theorem CJ (C:aj)  (p0:ae) (s:Int×ae) (o:(Int×ae)⊕ae) (hF:mP p0 s=some o):evW TT C.wide xA Gn 0 (rD p0 s)=Sum.elim (fun s=>evW TT C.wide xA Gn 0 (rD p0 s)) (fun r=>un p0 r) o:=by
 obtain⟨p1,p2⟩:=s
 rw [cG TT xA Xj]
 revert hF
 unfold mP
 try dsimp only
 refine ip (fun h1=>az fun x1 h2=>?_) ?_
 have g1:decide (0<=p1)=true:=(cp h2).1
 have g2:(ah iC.row p0.iz)[(p1:Int).toNat]? =some (rGPair x1):=cn _ h2
 refine oC fun h3=>?_
 all_goals (rintro⟨⟩;intros;show cN _ _ _ (aH _ _ _ _ (Code.seq _ _) _)=_;simp (maxSteps:=4000000) only [*,rGPair,rGValue,rD,un,Tk,Na,PS,HM,qcT,Kk,J2,↓RP,RB,RC,↓ab,Nat.reduceBEq,List.map,Nat.reduceAdd,Nat.reduceMul,Nat.reduceSub,Nat.reduceLeDiff,bne,↓ao,↓am,↓aa,↓aq,ty3,ti,kU,AE,iC.one])
def rk (p0:ae) (s:Int×ae):St:=⟨[(1,.rp (rGValue p0)),(2,.ptr 0 0),(3,.ptr 1 0),(5,.I s.1)],[[.I 0,.v (.s ByteArray.empty),.I 0,.own 2 [],.own 1 [],.own 2 []],[.I s.2.e5,.v (.s s.2.iq),.I s.2.iO,.own 2 (ah iC.row s.2.iz),.own 1 (ah bY s.2.af),.own 2 (ah f5.row s.2.f9)]]⟩
def uJ (p0:ae) (r:ae):Option (Ex×St):=some (.normal,⟨[(1,.rp (rGValue p0)),(2,.ptr 0 0),(3,.ptr 1 0)],[[.I 0,.v (.s ByteArray.empty),.I 0,.own 2 [],.own 1 [],.own 2 []],[.I r.e5,.v (.s r.iq),.I r.iO,.own 2 (ah iC.row r.iz),.own 1 (ah bY r.af),.own 2 (ah f5.row r.f9)]]⟩)
theorem Cb (C:aj)  (p0:ae) (s:Int×ae) (o:(Int×ae)⊕ae) (hF:mW p0 s=some o):evW TT C.wide xA Gn 2 (rk p0 s)=Sum.elim (fun s=>evW TT C.wide xA Gn 2 (rk p0 s)) (fun r=>uJ p0 r) o:=by
 obtain⟨p1,p2⟩:=s
 rw [cG TT xA Vy]
 revert hF
 unfold mW
 try dsimp only
 refine ip (fun h1=>az fun x1 h2=>?_) ?_
 have g1:decide (0<=p1)=true:=(cp h2).1
 have g2:(ah bY p0.af)[(p1:Int).toNat]? =some [.s x1]:=cn _ h2
 refine oC fun h3=>?_
 all_goals (rintro⟨⟩;intros;show cN _ _ _ (aH _ _ _ _ (Code.seq _ _) _)=_;simp (maxSteps:=4000000) only [*,rGValue,rk,uJ,Tk,Na,PS,HM,qff,Kk,J2,↓RP,RB,RC,↓ab,Nat.reduceBEq,List.map,Nat.reduceAdd,Nat.reduceMul,Nat.reduceSub,Nat.reduceLeDiff,bne,↓ao,↓am,↓aa,↓aq,ty3,ty9,mJ,kU])
def rx (p0:ae) (s:Int×ae):St:=⟨[(1,.rp (rGValue p0)),(2,.ptr 0 0),(3,.ptr 1 0),(6,.I s.1)],[[.I 0,.v (.s ByteArray.empty),.I 0,.own 2 [],.own 1 [],.own 2 []],[.I s.2.e5,.v (.s s.2.iq),.I s.2.iO,.own 2 (ah iC.row s.2.iz),.own 1 (ah bY s.2.af),.own 2 (ah f5.row s.2.f9)]]⟩
def uw (p0:ae) (r:ae):Option (Ex×St):=some (.normal,⟨[(2,.ptr 0 0),(3,.ptr 1 0)],[[.I 0,.v (.s ByteArray.empty),.I 0,.own 2 [],.own 1 [],.own 2 []],[.I r.e5,.v (.s r.iq),.I r.iO,.own 2 (ah iC.row r.iz),.own 1 (ah bY r.af),.own 2 (ah f5.row r.f9)]]⟩)
theorem Ca (C:aj)  (p0:ae) (s:Int×ae) (o:(Int×ae)⊕ae) (hF:mX p0 s=some o):evW TT C.wide xA Gn 4 (rx p0 s)=Sum.elim (fun s=>evW TT C.wide xA Gn 4 (rx p0 s)) (fun r=>uw p0 r) o:=by
 obtain⟨p1,p2⟩:=s
 rw [cG TT xA VI]
 revert hF
 unfold mX
 try dsimp only
 refine ip (fun h1=>az fun x1 h2=>?_) ?_
 have g1:decide (0<=p1)=true:=(cp h2).1
 have g2:(ah f5.row p0.f9)[(p1:Int).toNat]? =some (rGScore x1):=cn _ h2
 refine oC fun h3=>?_
 all_goals (rintro⟨⟩;intros;show cN _ _ _ (aH _ _ _ _ (Code.seq _ _) _)=_;simp (maxSteps:=4000000) only [*,rGScore,rGValue,rx,uw,Tk,Na,PS,HM,WL,Kk,J2,↓RP,RB,RC,↓ab,Nat.reduceBEq,List.map,Nat.reduceAdd,Nat.reduceMul,Nat.reduceSub,Nat.reduceLeDiff,bne,↓ao,↓am,↓aa,↓aq,ty3,oN,kU,ua,f5.one])
theorem G6 (C:aj)  (p0:ae) (r:ae) (hF:re p0=some r):cR TT C.wide (evW TT C.wide xA Gn) xA Tryz.f101.results.toList (aU Tryz.f101) [.agg (cGValue p0)] []=some (.agg [.I r.e5,.v (.s r.iq),.I r.iO,.own 2 (ah iC.row r.iz),.own 1 (ah bY r.af),.own 2 (ah f5.row r.f9)],[]):=by
 revert hF
 unfold re
 refine az ?_
 rintro x1 h1
 unfold wb
 have g1:=cH _ _ (CJ C p0) h1
 try simp only [ak,rD,un] at g1
 refine az ?_
 rintro x2 h2
 have g2:=cH _ _ (Cb C p0) h2
 try simp only [rk,uJ] at g2
 refine az ?_
 rintro x3 h3
 have g3:=cH _ _ (Ca C p0) h3
 try simp only [rx,uw] at g3
 all_goals (rintro⟨⟩;rw [bk];show cC _ _ _ (aH _ _ _ _ (Code.seq _ _) _)=_;simp (maxSteps:=4000000) only [*,cGValue,rGValue,qeH,PS,HM,qdj,Kk,J2,↓RP,RB,RC,Nat.reduceBEq,bP,List.map,Nat.reduceAdd,Nat.reduceLeDiff,bne,↓ao,↓aa,ty3,ty9,ti,mJ,oN,kU])
def U8:List (Nat×List Nat):=[(0,[1,2]),(1,[1,2,3]),(2,[1,2,3,4]),(3,[1,2,3,4,13]),(4,[1,2,3,4]),(5,[1,2,3,4,5]),(6,[1,2,3,4]),(7,[2])]
def qaI:List (Nat×List Nat×List Nat):=[(13,[1,2,3,4],[2,3])]
def n77:cL where
 keep:=ax U8
 ro:=fun t=>t==1
 mv:=fun t=>t==34
 give:=fun _=>false
 free:=fun i=>match i with|6=>[(0,2),(1,2),(0,3),(1,3),(0,4),(1,4),(2,4),(3,4),(0,5),(1,5),(2,5),(3,5),(0,6),(1,6),(2,6),(3,6),(0,7),(1,7),(2,7),(3,7),(4,7),(5,7),(6,7),(0,8),(1,8),(2,8),(3,8),(4,8),(5,8),(6,8),(0,9),(1,9),(0,10),(1,10)]|_=>[]
 alive:=av qaI
theorem ql7 (t:Nat) (x:Bool) (e:Env) (S:bH):cK n77 t x ⟨e,S⟩=atO (av qaI t x) e S:=cF rfl t x e S
theorem qgX (i:Nat):n77.keep i=ax U8 i:=rfl
theorem qjB (t:Nat):n77.ro t=(t==1):=rfl
theorem YL (t:Nat):n77.mv t=(t==34):=rfl
theorem YX (t:Nat):n77.give t=(false):=rfl
theorem qkD:n77.free 6= [(0,2),(1,2),(0,3),(1,3),(0,4),(1,4),(2,4),(3,4),(0,5),(1,5),(2,5),(3,5),(0,6),(1,6),(2,6),(3,6),(0,7),(1,7),(2,7),(3,7),(4,7),(5,7),(6,7),(0,8),(1,8),(2,8),(3,8),(4,8),(5,8),(6,8),(0,9),(1,9),(0,10),(1,10)]:=rfl
theorem qiU:Tryz.f77.results.toList= [.cell 2 36]:=rfl
def b77:Code:=aU Tryz.f77
def qhM:Code:=(bE 0 (aU Tryz.f77)).getD .skip
theorem qaT:bE 0 b77=some qhM:=rfl
def ry (p0:iJ) (s:Int×iJ):St:=⟨[(1,.rp (rGStore p0)),(2,.ptr 0 0),(3,.ptr 1 0),(4,.I s.1)],[[.I 0,.own 8 []],[.I s.2.iS,.own 8 (ah gi.row s.2.f6)]]⟩
def uC (p0:iJ) (r:iJ):Option (Ex×St):=some (.normal,⟨[(2,.ptr 0 0),(3,.ptr 1 0)],[[.I 0,.own 8 []],[.I r.iS,.own 8 (ah gi.row r.f6)]]⟩)
theorem B0 (C:aj) (xh:xc C) (p0:iJ) (s:Int×iJ) (o:(Int×iJ)⊕iJ) (hF:mR p0 s=some o):evW TT C.wide n77 b77 0 (ry p0 s)=Sum.elim (fun s=>evW TT C.wide n77 b77 0 (ry p0 s)) (fun r=>uC p0 r) o:=by
 obtain⟨p1,p2⟩:=s
 rw [cG TT n77 qaT]
 revert hF
 unfold mR
 try dsimp only
 refine ip (fun h1=>az fun x1 h2=>?_) ?_
 have g1:decide (0<=p1)=true:=(cp h2).1
 have g2:(ah gi.row p0.f6)[(p1:Int).toNat]? =some (rGEntry x1):=cn _ h2
 refine az fun x2 h3=>?_
 have g3:=bK (xh x1.jt _ h3)
 refine oC fun h4=>?_
 all_goals (rintro⟨⟩;intros;show cN _ _ _ (aH _ _ _ _ (Code.seq _ _) _)=_;simp (maxSteps:=4000000) only [*,rGEntry,rGStore,ry,uC,ql7,qaI,qgX,U8,qkD,YL,YX,↓RP,RB,RC,↓ai,Nat.reduceBEq,bP,List.map,Nat.reduceAdd,Nat.reduceMul,Nat.reduceSub,Nat.reduceLT,Nat.reduceLeDiff,bne,↓ao,↓am,↓aa,↓aq,aP,ty3,ty9,Ad,ug,kU,zO,gi.one,iC.flat,f5.flat])
theorem FN (C:aj) (xh:xc C) (p0:iJ) (r:iJ) (hF:po p0=some r):cR TT C.wide (evW TT C.wide n77 b77) n77 Tryz.f77.results.toList (aU Tryz.f77) [.agg (cGStore p0)] []=some (.agg [.I r.iS,.own 8 (ah gi.row r.f6)],[]):=by
 revert hF
 unfold po
 refine az ?_
 rintro x1 h1
 have g1:=cH _ _ (B0 C xh p0) h1
 try simp only [ak,ry,uC] at g1
 all_goals (rintro⟨⟩;rw [bk];show cC _ _ _ (aH _ _ _ _ (Code.seq _ _) _)=_;simp (maxSteps:=4000000) only [*,cGStore,qiU,qgX,U8,qjB,YL,YX,↓RP,RB,RC,Nat.reduceBEq,bP,List.map,Nat.reduceAdd,Nat.reduceLeDiff,bne,↓ao,↓aa,ty3,Ad,ug])
def Wc:List (Nat×List Nat):=[(0,[1,2]),(1,[1,2,3]),(2,[1,2,3,4]),(3,[1,2,3,4,16]),(4,[1,2,3,4]),(5,[1,2,3,4]),(6,[2])]
def qbi:List (Nat×List Nat×List Nat):=[(16,[1,2,3,4],[2,3])]
def n78:cL where
 keep:=ax Wc
 ro:=fun t=>t==1
 mv:=fun t=>t==29
 give:=fun _=>false
 free:=fun i=>match i with|5=>[(0,2),(1,2),(0,3),(1,3),(0,4),(1,4),(2,4),(3,4),(0,5),(1,5),(0,6),(1,6),(0,7),(1,7)]|_=>[]
 alive:=av qbi
theorem qlF (t:Nat) (x:Bool) (e:Env) (S:bH):cK n78 t x ⟨e,S⟩=atO (av qbi t x) e S:=cF rfl t x e S
theorem qgJ (i:Nat):n78.keep i=ax Wc i:=rfl
theorem qkg (t:Nat):n78.ro t=(t==1):=rfl
theorem X6 (t:Nat):n78.mv t=(t==29):=rfl
theorem Yo (t:Nat):n78.give t=(false):=rfl
theorem qg5:n78.free 5= [(0,2),(1,2),(0,3),(1,3),(0,4),(1,4),(2,4),(3,4),(0,5),(1,5),(0,6),(1,6),(0,7),(1,7)]:=rfl
theorem qih:Tryz.f78.results.toList= [.cell 2 115]:=rfl
def b78:Code:=aU Tryz.f78
def qhP:Code:=(bE 0 (aU Tryz.f78)).getD .skip
theorem qaf:bE 0 b78=some qhP:=rfl
def rN (p0:iT) (s:Int×iT):St:=⟨[(1,.rp (rGReply p0)),(2,.ptr 0 0),(3,.ptr 1 0),(4,.I s.1)],[[.I 0,.v (.s ByteArray.empty),.I 0,.own 1 []],[.I s.2.j9,.v (.s s.2.iq),.I s.2.fN,.own 1 (ah bY s.2.jG)]]⟩
def ur (p0:iT) (r:iT):Option (Ex×St):=some (.normal,⟨[(2,.ptr 0 0),(3,.ptr 1 0)],[[.I 0,.v (.s ByteArray.empty),.I 0,.own 1 []],[.I r.j9,.v (.s r.iq),.I r.fN,.own 1 (ah bY r.jG)]]⟩)
theorem CN (C:aj)  (p0:iT) (s:Int×iT) (o:(Int×iT)⊕iT) (hF:mS p0 s=some o):evW TT C.wide n78 b78 0 (rN p0 s)=Sum.elim (fun s=>evW TT C.wide n78 b78 0 (rN p0 s)) (fun r=>ur p0 r) o:=by
 obtain⟨p1,p2⟩:=s
 rw [cG TT n78 qaf]
 revert hF
 unfold mS
 try dsimp only
 refine ip (fun h1=>az fun x1 h2=>?_) ?_
 have g1:decide (0<=p1)=true:=(cp h2).1
 have g2:(ah bY p0.jG)[(p1:Int).toNat]? =some [.s x1]:=cn _ h2
 refine oC fun h3=>?_
 all_goals (rintro⟨⟩;intros;show cN _ _ _ (aH _ _ _ _ (Code.seq _ _) _)=_;simp (maxSteps:=4000000) only [*,rGReply,rN,ur,qlF,qbi,qgJ,Wc,qg5,X6,Yo,↓RP,RB,RC,↓ab,Nat.reduceBEq,List.map,Nat.reduceAdd,Nat.reduceMul,Nat.reduceSub,Nat.reduceLeDiff,bne,↓ao,↓am,↓aa,↓aq,ty3,ty9,mJ,wQ])
theorem GK (C:aj)  (p0:iT) (r:iT) (hF:pq p0=some r):cR TT C.wide (evW TT C.wide n78 b78) n78 Tryz.f78.results.toList (aU Tryz.f78) [.agg (cGReply p0)] []=some (.agg [.I r.j9,.v (.s r.iq),.I r.fN,.own 1 (ah bY r.jG)],[]):=by
 revert hF
 unfold pq
 refine az ?_
 rintro x1 h1
 have g1:=cH _ _ (CN C p0) h1
 try simp only [ak,rN,ur] at g1
 all_goals (rintro⟨⟩;rw [bk];show cC _ _ _ (aH _ _ _ _ (Code.seq _ _) _)=_;simp (maxSteps:=4000000) only [*,cGReply,qih,qgJ,Wc,qkg,X6,Yo,↓RP,RB,RC,Nat.reduceBEq,bP,List.map,Nat.reduceAdd,Nat.reduceLeDiff,bne,↓ao,↓aa,ty3,ty9,kQ,mJ,wQ])
def RM:List (Nat×List Nat):=[(0,[1,2]),(1,[1,2,3]),(2,[1,2,3,4]),(3,[1,2,3,4,16]),(4,[1,2,3,4]),(5,[1,2,3,4,5]),(6,[1,2,3,4]),(7,[2])]
def WU:List (Nat×List Nat×List Nat):=[(16,[1,2,3,4],[2,3])]
def n36:cL where
 keep:=ax RM
 ro:=fun t=>t==1
 mv:=fun t=>t==39
 give:=fun _=>false
 free:=fun i=>match i with|1=>[(0,3),(1,3),(2,3),(0,4),(1,4),(2,4),(0,6),(1,6),(2,6),(3,6),(4,6),(5,6)]|6=>[(0,2),(1,2),(0,3),(1,3),(0,4),(1,4),(2,4),(3,4),(0,5),(1,5),(2,5),(3,5),(0,6),(1,6),(2,6),(3,6),(4,6),(5,6),(0,7),(1,7),(2,7),(3,7),(4,7),(5,7),(0,8),(1,8),(2,8),(3,8),(4,8),(5,8),(6,8),(7,8),(0,9),(1,9),(2,9),(3,9),(4,9),(5,9),(6,9),(7,9),(0,10),(1,10),(2,10),(3,10),(4,10),(5,10),(6,10),(7,10),(0,11),(1,11),(0,12),(1,12)]|_=>[]
 alive:=av WU
theorem qib (t:Nat) (x:Bool) (e:Env) (S:bH):cK n36 t x ⟨e,S⟩=atO (av WU t x) e S:=cF rfl t x e S
theorem We (i:Nat):n36.keep i=ax RM i:=rfl
theorem Yz (t:Nat):n36.ro t=(t==1):=rfl
theorem PA (t:Nat):n36.mv t=(t==39):=rfl
theorem Qk (t:Nat):n36.give t=(false):=rfl
theorem YD:n36.free 1= [(0,3),(1,3),(2,3),(0,4),(1,4),(2,4),(0,6),(1,6),(2,6),(3,6),(4,6),(5,6)]:=rfl
theorem YJ:n36.free 6= [(0,2),(1,2),(0,3),(1,3),(0,4),(1,4),(2,4),(3,4),(0,5),(1,5),(2,5),(3,5),(0,6),(1,6),(2,6),(3,6),(4,6),(5,6),(0,7),(1,7),(2,7),(3,7),(4,7),(5,7),(0,8),(1,8),(2,8),(3,8),(4,8),(5,8),(6,8),(7,8),(0,9),(1,9),(2,9),(3,9),(4,9),(5,9),(6,9),(7,9),(0,10),(1,10),(2,10),(3,10),(4,10),(5,10),(6,10),(7,10),(0,11),(1,11),(0,12),(1,12)]:=rfl
theorem Yi:Tryz.f36.results.toList= [.cell 2 39]:=rfl
def b36:Code:=aU Tryz.f36
def qiW:Code:=(bE 0 (aU Tryz.f36)).getD .skip
theorem Tg:bE 0 b36=some qiW:=rfl
def nL (p0:ad) (s:Int×ad):St:=⟨[(1,.rp (rGMachine p0)),(2,.ptr 0 0),(3,.ptr 1 0),(4,.I s.1)],[[.I 0,.own 8 [],.I 0,.own 7 []],[.I s.2.e7.iS,.own 8 (ah gi.row s.2.e7.f6),.I s.2.iI,.own 7 (ah cc.row s.2.cO)]]⟩
def rg (p0:ad) (r:ad):Option (Ex×St):=some (.normal,⟨[(2,.ptr 0 0),(3,.ptr 1 0)],[[.I 0,.own 8 [],.I 0,.own 7 []],[.I r.e7.iS,.own 8 (ah gi.row r.e7.f6),.I r.iI,.own 7 (ah cc.row r.cO)]]⟩)
theorem zC (C:aj) (nV:ql C) (p0:ad) (s:Int×ad) (o:(Int×ad)⊕ad) (hF:kJ p0 s=some o):evW TT C.wide n36 b36 0 (nL p0 s)=Sum.elim (fun s=>evW TT C.wide n36 b36 0 (nL p0 s)) (fun r=>rg p0 r) o:=by
 obtain⟨p1,p2⟩:=s
 rw [cG TT n36 Tg]
 revert hF
 unfold kJ
 try dsimp only
 refine ip (fun h1=>az fun x1 h2=>?_) ?_
 have g1:decide (0<=p1)=true:=(cp h2).1
 have g2:(ah cc.row p0.cO)[(p1:Int).toNat]? =some (rGClient x1):=cn _ h2
 refine az fun x2 h3=>?_
 have g3:=bK (nV x1.i5 _ h3)
 refine oC fun h4=>?_
 all_goals (rintro⟨⟩;intros;show cN _ _ _ (aH _ _ _ _ (Code.seq _ _) _)=_;simp (maxSteps:=4000000) only [*,rGClient,rGMachine,nL,rg,qib,WU,We,RM,YJ,PA,Qk,↓RP,RB,RC,↓ai,Nat.reduceBEq,bP,List.map,Nat.reduceAdd,Nat.reduceMul,Nat.reduceSub,Nat.reduceLT,Nat.reduceLeDiff,bne,↓ao,↓am,↓aa,↓aq,aP,ty3,xm,sm,wQ,zm,cc.one])
theorem Be (C:aj) (xf:sc C) (nV:ql C) (p0:ad) (r:ad) (hF:my p0=some r): ∃d S,cR TT C.wide (evW TT C.wide n36 b36) n36 Tryz.f36.results.toList (aU Tryz.f36) [.agg (cGMachine p0)] []=some (d,S)/\bD d=true/\(frz d,S)=(.agg (cGMachine r),[]):=by
 revert hF
 unfold my
 refine az fun x1 h1=>?_
 have g1:=bK (xf p0.e7 _ h1)
 refine az ?_
 rintro x2 h2
 have g2:=cH _ _ (zC C nV p0) h2
 try simp only [ak,nL,rg] at g2
 intro hF
 have hR:=Option.some.inj hF
 clear hF
 subst hR
 refine⟨.agg [.I x2.e7.iS,.own 8 (ah gi.row x2.e7.f6),.I x2.iI,.own 7 (ah cc.row x2.cO)],[],?_,rfl,by first|rfl|(simp only [*];done)|(simp only [*];rfl)⟩
 all_goals (rw [bk];show cC _ _ _ (aH _ _ _ _ (Code.seq _ _) _)=_;simp (maxSteps:=4000000) only [*,cGMachine,Yi,We,RM,YD,Yz,PA,Qk,↓RP,RB,RC,Nat.reduceBEq,bP,List.map,Nat.reduceAdd,Nat.reduceLeDiff,cr,bne,↓ao,↓aa,↓aq,ty3,ug,xm,sm])
def qcm:List (Nat×List Nat):=[(0,[1,2]),(1,[2])]
def n45:cL where
 keep:=ax qcm
 ro:=fun t=>t==1
 mv:=fun _=>false
 give:=fun _=>false
 free:=fun i=>match i with|1=>[(0,2),(1,2),(0,3),(1,3),(0,4),(1,4),(2,4),(3,4),(0,5),(1,5),(2,5),(3,5),(0,6),(1,6),(2,6),(3,6)]|_=>[]
theorem qmS (i:Nat):n45.keep i=ax qcm i:=rfl
theorem qhT (t:Nat):n45.ro t=(t==1):=rfl
theorem qjM (t:Nat):n45.mv t=(false):=rfl
theorem qh9 (t:Nat):n45.give t=(false):=rfl
theorem qiq:n45.free 1= [(0,2),(1,2),(0,3),(1,3),(0,4),(1,4),(2,4),(3,4),(0,5),(1,5),(2,5),(3,5),(0,6),(1,6),(2,6),(3,6)]:=rfl
theorem qf4:Tryz.f45.results.toList= [.cell 2 41]:=rfl
def b45:Code:=aU Tryz.f45
theorem LL (C:aj) (Bb:wO C) (p0:i4) (r:i4) (hF:v4 p0=some r): ∃d S,cR TT C.wide (evW TT C.wide n45 b45) n45 Tryz.f45.results.toList (aU Tryz.f45) [.agg (cGSnap p0)] []=some (d,S)/\bD d=true/\(frz d,S)=(.agg (cGSnap r),[]):=by
 revert hF
 unfold v4
 refine az fun x1 h1=>?_
 have g1:=bK (Bb p0.iy _ h1)
 intro hF
 have hR:=Option.some.inj hF
 clear hF
 subst hR
 refine⟨.agg [.I p0.iB,.I p0.iK,.I x1.e7.iS,.v (.sl 8 (ah gi.row x1.e7.f6)),.I x1.iI,.v (.sl 7 (ah cc.row x1.cO))],[],?_,rfl,by first|rfl|(simp only [*];done)|(simp only [*];rfl)⟩
 all_goals (rw [bk];show cC _ _ _ (aH _ _ _ _ (Code.seq _ _) _)=_;simp (maxSteps:=4000000) only [*,cGSnap,qf4,qmS,qcm,qiq,qhT,qjM,qh9,↓RP,RB,RC,Nat.reduceBEq,bP,List.map,Nat.reduceAdd,Nat.reduceLeDiff,bne,↓ao,↓aa,↓aq,ty3,sm,tZ])
def qfs:List (Nat×List Nat):=[(0,[1,2]),(1,[1,2]),(2,[2])]
def n23:cL where
 keep:=ax qfs
 ro:=fun _=>false
 mv:=fun _=>false
 give:=fun _=>false
 free:=fun _=>[]
theorem qlC (i:Nat):n23.keep i=ax qfs i:=rfl
theorem qfU (t:Nat):n23.ro t=(false):=rfl
theorem qgM (t:Nat):n23.mv t=(false):=rfl
theorem qgp (t:Nat):n23.give t=(false):=rfl
theorem qkF:Tryz.f23.results.toList= [.cell 2 62]:=rfl
def b23:Code:=aU Tryz.f23
theorem Kg (C:aj) (Mr:Db C) (p0:bi) (r:bi) (hF:uf p0=some r): ∃d S,cR TT C.wide (evW TT C.wide n23 b23) n23 Tryz.f23.results.toList (aU Tryz.f23) [.agg (cGRecord p0)] []=some (d,S)/\bD d=true/\(frz d,S)=(.agg (cGRecord r),[]):=by
 revert hF
 unfold uf
 refine az fun x1 h1=>?_
 have g1:=bK (Mr p0.iG _ h1)
 intro hF
 have hR:=Option.some.inj hF
 clear hF
 subst hR
 refine⟨.agg [.I p0.e5,.I p0.iK,.I p0.lS,.I p0.iB,.I p0.iR.iK,.I p0.iR.iZ,.v (.b p0.iR.wF),.I p0.iR.iQ.jv,.I p0.iR.iQ.jQ,.I p0.iR.iQ.ir.e5,.v (.s p0.iR.iQ.ir.jm),.v (.s p0.iR.iQ.ir.iN),.v (.s p0.iR.iQ.ir.iq),.I p0.iR.iQ.ir.fN,.I x1.iB,.I x1.iK,.I x1.iy.e7.iS,.v (.sl 8 (ah gi.row x1.iy.e7.f6)),.I x1.iy.iI,.v (.sl 7 (ah cc.row x1.iy.cO))],[],?_,rfl,by first|rfl|(simp only [*];done)|(simp only [*];rfl)⟩
 all_goals (rw [bk];show cC _ _ _ (aH _ _ _ _ (Code.seq _ _) _)=_;simp (maxSteps:=4000000) only [*,cGRecord,qkF,qlC,qfs,qfU,qgM,qgp,↓RP,RB,RC,Nat.reduceBEq,bP,List.map,Nat.reduceAdd,Nat.reduceLeDiff,bne,↓ao,↓aa,aP,tZ,y9])
def VJ:List (Nat×List Nat):=[(0,[0]),(1,[0,3,20]),(2,[0,3,4,20]),(3,[0,3,4,9,20]),(4,[0,3,4,20]),(5,[0,3,4,5,20]),(6,[0,3,4,20]),(7,[2,3,20,21])]
def qas:List (Nat×List Nat×List Nat):=[(9,[0,3,4,20],[3,20])]
def n10:cL where
 keep:=ax VJ
 ro:=fun _=>false
 mv:=fun _=>false
 give:=fun _=>false
 free:=fun _=>[]
 alive:=av qas
theorem ql5 (t:Nat) (x:Bool) (e:Env) (S:bH):cK n10 t x ⟨e,S⟩=atO (av qas t x) e S:=cF rfl t x e S
theorem qgO (i:Nat):n10.keep i=ax VJ i:=rfl
theorem qjY (t:Nat):n10.mv t=(false):=rfl
theorem qiQ (t:Nat):n10.give t=(false):=rfl
theorem qfN:Tryz.f10.results.toList= [.tmp 2]:=rfl
def b10:Code:=aU Tryz.f10
def qhW:Code:=(bE 0 (aU Tryz.f10)).getD .skip
theorem qfA:bE 0 b10=some qhW:=rfl
def rJ (p0:List bi) (s:(List bi)×Int):St:=⟨[(0,.v (.sl 20 (ah bi.row p0))),(3,.own 20 (ah bi.row s.1)),(4,.I s.2),(20,.bad)],[]⟩
def uq (p0:List bi) (r:(List bi)):Option (Ex×St):=some (.normal,⟨[(3,.own 20 (ah bi.row r)),(20,.bad)],[]⟩)
theorem BQ (C:aj) (yf:yz C) (p0:List bi) (s:(List bi)×Int) (o:((List bi)×Int)⊕(List bi)) (hF:mT p0 s=some o):evW TT C.wide n10 b10 0 (rJ p0 s)=Sum.elim (fun s=>evW TT C.wide n10 b10 0 (rJ p0 s)) (fun r=>uq p0 r) o:=by
 obtain⟨p1,p2⟩:=s
 rw [cG TT n10 qfA]
 revert hF
 unfold mT
 try dsimp only
 refine ip (fun h1=>az fun x1 h2=>?_) ?_
 have g1:decide (0<=p2)=true:=(cp h2).1
 have g2:(ah bi.row p0)[(p2:Int).toNat]? =some (rGRecord x1):=cn _ h2
 refine az fun x2 h3=>?_
 have g3:=bK (yf x1 _ h3)
 refine oC fun h4=>?_
 all_goals (rintro⟨⟩;intros;show cN _ _ _ (aH _ _ _ _ (Code.seq _ _) _)=_;simp (maxSteps:=4000000) only [*,rGRecord,rJ,uq,ql5,qas,qgO,VJ,qjY,qiQ,↓RP,RB,RC,↓ai,Nat.reduceBEq,bP,List.map,Nat.reduceAdd,Nat.reduceMul,Nat.reduceLeDiff,bne,↓ao,↓am,↓aa,aP,ty3,M8,y9,bi.one])
theorem Ga (C:aj) (yf:yz C) (p0:List bi) (r:(List bi)) (hF:qS p0=some r): ∃d S,cR TT C.wide (evW TT C.wide n10 b10) n10 Tryz.f10.results.toList (aU Tryz.f10) [.v (.sl 20 (ah bi.row p0))] []=some (d,S)/\bD d=true/\(frz d,S)=(.v (.sl 20 (ah bi.row r)),[]):=by
 revert hF
 unfold qS
 refine az ?_
 rintro x1 h1
 have g1:=cH _ _ (BQ C yf p0) h1
 try simp only [ak,rJ,uq] at g1
 intro hF
 have hR:=Option.some.inj hF
 clear hF
 subst hR
 refine⟨.own 20 (ah bi.row x1),[],?_,rfl,by first|rfl|(simp only [*];done)|(simp only [*];rfl)⟩
 all_goals (rw [bk];show cC _ _ _ (aH _ _ _ _ (Code.seq _ _) _)=_;simp (maxSteps:=4000000) only [*,qfN,qgO,VJ,↓RP,RB,RC,Nat.reduceBEq,List.map,↓ao,↓aa,ty3,M8])
def ZG:List (Nat×List Nat):=[(0,[0]),(1,[0])]
def n46:cL where
 keep:=ax ZG
 ro:=fun _=>false
 mv:=fun _=>false
 give:=fun _=>false
 free:=fun _=>[]
theorem qlK (i:Nat):n46.keep i=ax ZG i:=rfl
theorem qhm (t:Nat):n46.give t=(false):=rfl
theorem qfZ:Tryz.f46.results.toList= [.cell 0 39]:=rfl
def b46:Code:=aU Tryz.f46
theorem Lb (C:aj)   (r:ad) (hF:wa=some r):cR TT C.wide (evW TT C.wide n46 b46) n46 Tryz.f46.results.toList (aU Tryz.f46) [] []=some (.agg [.I r.e7.iS,.own 8 (ah gi.row r.e7.f6),.I r.iI,.own 7 (ah cc.row r.cO)],[]):=by
 revert hF
 unfold wa
 refine vg ?_
 unfold vL
 all_goals (rintro rfl;rw [bk];show cC _ _ _ (aH _ _ _ _ (Code.seq _ _) _)=_;simp (maxSteps:=4000000) only [*,qfZ,qlK,ZG,qhm,↓RP,RB,RC,Nat.reduceBEq,bP,List.map,Nat.reduceAdd,Nat.reduceLeDiff,bne,↓ao,↓aa,ty3,ug,xm,sm])
def qap:List (Nat×List Nat):=[(0,[0]),(1,[0])]
def n24:cL where
 keep:=ax qap
 ro:=fun _=>false
 mv:=fun _=>false
 give:=fun _=>false
 free:=fun _=>[]
theorem qmw (i:Nat):n24.keep i=ax qap i:=rfl
theorem qhE (t:Nat):n24.give t=(false):=rfl
theorem qgm:Tryz.f24.results.toList= [.cell 0 46]:=rfl
def b24:Code:=aU Tryz.f24
theorem OS (C:aj) (KZ:By C)  (r:iL) (hF:ze=some r):cR TT C.wide (evW TT C.wide n24 b24) n24 Tryz.f24.results.toList (aU Tryz.f24) [] []=some (.agg [.I r.iK,.I r.lS,.I r.iG.iB,.I r.iG.iK,.I r.iG.iy.e7.iS,.own 8 (ah gi.row r.iG.iy.e7.f6),.I r.iG.iy.iI,.own 7 (ah cc.row r.iG.iy.cO),.I r.jh.iD,.I r.jh.iw,.own 10 (ah iE.row r.jh.af)],[]):=by
 revert hF
 unfold ze
 refine vg ?_
 unfold sL
 have g1:=bK (KZ  _ (Ku))
 all_goals (rintro rfl;rw [bk];show cC _ _ _ (aH _ _ _ _ (Code.seq _ _) _)=_;simp (maxSteps:=4000000) only [*,qgm,qmw,qap,qhE,↓RP,RB,RC,Nat.reduceBEq,bP,List.map,Nat.reduceAdd,Nat.reduceLeDiff,Int.reduceNeg,bne,↓ao,↓aa,ty3,sm,tZ,sj,An])
def WO:List (Nat×List Nat):=[(0,[1]),(1,[1,3]),(2,[2])]
def n47:cL where
 keep:=ax WO
 ro:=fun t=>t==1
 mv:=fun _=>false
 give:=fun _=>false
 free:=fun _=>[]
theorem qi4 (i:Nat):n47.keep i=ax WO i:=rfl
theorem qiM (t:Nat):n47.ro t=(t==1):=rfl
theorem YT (t:Nat):n47.mv t=(false):=rfl
theorem qjQ (t:Nat):n47.give t=(false):=rfl
theorem qjt:Tryz.f47.results.toList= [.tmp 2]:=rfl
def b47:Code:=aU Tryz.f47
theorem BK (C:aj)  (p0:i4) (p1:ad) (c:Code) (ho:cD 0 2 b47=some c) (r:Bool) (hF:lv p0 p1=r): @cV TT C.wide (evW TT C.wide n47 b47) n47 0 2 ⟨[(1,.rp (rGSnap p0)),(3,.ptr 0 0)],[cGMachine p1]⟩ ⟨c⟩=some (.normal,⟨[(2,.v (.b r))],[cGMachine p1]⟩):=by
 have e:=Option.some.inj (ho.symm.trans (rfl:cD 0 2 b47=some _))
 subst e
 clear ho
 show aH _ _ _ _ _ _=_
 revert hF
 unfold lv
 refine ip (fun h1=>ip (fun h2=>ip (fun h3=>ip (fun h4=>iv (fun h5=>?_) ?_) ?_) ?_) ?_) ?_
 all_goals (rintro rfl;intros;simp (maxSteps:=4000000) only [*,cGMachine,rGSnap,qi4,WO,YT,↓RP,RB,RC,Nat.reduceBEq,List.map,ty3,ty4,Ad,ug,xm,sm,tZ,↓aa _ _ _ _ 2])
theorem GT (C:aj)  (p0:i4) (r:Bool) (hF:sW p0=some r):cR TT C.wide (evW TT C.wide n47 b47) n47 Tryz.f47.results.toList (aU Tryz.f47) [.agg (cGSnap p0)] []=some (.v (.b r),[]):=by
 revert hF
 unfold sW
 have g1:=BK C p0 p0.iy _ rfl (lv p0 p0.iy) rfl
 all_goals (rintro⟨⟩;rw [bk];show cC _ _ _ (aH _ _ _ _ (Code.seq _ _) _)=_;simp (maxSteps:=4000000) only [*,cGMachine,cGSnap,qjt,qi4,WO,qiM,YT,qjQ,↓RP,RB,RC,Nat.reduceBEq,bP,List.map,Nat.reduceAdd,Nat.reduceLeDiff,bne,↓ao,ty4,sm,tZ,↓aa _ _ _ _ 0,↓aa _ _ _ _ 1,↓bg _ _ _ _ 2])
def ZR:List (Nat×List Nat):=[(0,[0]),(1,[2])]
def n48:cL where
 keep:=ax ZR
 ro:=fun _=>false
 mv:=fun _=>false
 give:=fun _=>false
 free:=fun _=>[]
theorem qlM (i:Nat):n48.keep i=ax ZR i:=rfl
theorem qkE:Tryz.f48.results.toList= [.tmp 2]:=rfl
def b48:Code:=aU Tryz.f48
theorem GA (C:aj)  (p0:Int) (r:Bool) (hF:tj p0=some r):cR TT C.wide (evW TT C.wide n48 b48) n48 Tryz.f48.results.toList (aU Tryz.f48) [.I p0] []=some (.v (.b r),[]):=by
 revert hF
 unfold tj
 refine iv (fun h1=>?_) ?_
 all_goals (rintro⟨⟩;intros;rw [bk];show cC _ _ _ (aH _ _ _ _ (Code.seq _ _) _)=_;simp (maxSteps:=4000000) only [*,qkE,qlM,ZR,↓RP,RB,RC,Nat.reduceBEq,List.map,↓ao,↓aa,ty3,ty4])
def T5:List (Nat×List Nat):=[(0,[0]),(1,[2])]
def Vp:cL where
 keep:=ax T5
 ro:=fun _=>false
 mv:=fun _=>false
 give:=fun _=>false
 free:=fun _=>[]
theorem qgv (i:Nat):Vp.keep i=ax T5 i:=rfl
theorem qaz:Tryz.f107.results.toList= [.tmp 2]:=rfl
def qmj:Code:=aU Tryz.f107
theorem Dt (C:aj)  (p0:Int) (r:Bool) (hF:qg p0=some r):cR TT C.wide (evW TT C.wide Vp qmj) Vp Tryz.f107.results.toList (aU Tryz.f107) [.I p0] []=some (.v (.b r),[]):=by
 revert hF
 unfold qg
 refine iv (fun h1=>?_) ?_
 all_goals (rintro⟨⟩;intros;rw [bk];show cC _ _ _ (aH _ _ _ _ (Code.seq _ _) _)=_;simp (maxSteps:=4000000) only [*,qaz,qgv,T5,↓RP,RB,RC,Nat.reduceBEq,List.map,↓ao,↓aa,ty3,ty4])
def Sf:List (Nat×List Nat):=[(0,[0]),(1,[2])]
def Vs:cL where
 keep:=ax Sf
 ro:=fun _=>false
 mv:=fun _=>false
 give:=fun _=>false
 free:=fun _=>[]
theorem qjs (i:Nat):Vs.keep i=ax Sf i:=rfl
theorem qcH:Tryz.f120.results.toList= [.tmp 2]:=rfl
def qmE:Code:=aU Tryz.f120
theorem GQ (C:aj)  (p0:ByteArray) (r:Bool) (hF:td p0=some r):cR TT C.wide (evW TT C.wide Vs qmE) Vs Tryz.f120.results.toList (aU Tryz.f120) [.v (.s p0)] []=some (.v (.b r),[]):=by
 revert hF
 unfold td
 refine iv (fun h1=>?_) ?_
 all_goals (rintro⟨⟩;intros;rw [bk];show cC _ _ _ (aH _ _ _ _ (Code.seq _ _) _)=_;simp (maxSteps:=4000000) only [*,qcH,qjs,Sf,↓RP,RB,RC,Nat.reduceBEq,List.map,↓ao,↓aa,ty3,ty4,ty9])
def Uk:List (Nat×List Nat):=[(0,[0]),(1,[2])]
def Xx:cL where
 keep:=ax Uk
 ro:=fun _=>false
 mv:=fun _=>false
 give:=fun _=>false
 free:=fun _=>[]
theorem qj3 (i:Nat):Xx.keep i=ax Uk i:=rfl
theorem qa7:Tryz.f121.results.toList= [.tmp 2]:=rfl
def qlG:Code:=aU Tryz.f121
theorem Kt (C:aj)  (p0:ByteArray) (r:Bool) (hF:uM p0=some r):cR TT C.wide (evW TT C.wide Xx qlG) Xx Tryz.f121.results.toList (aU Tryz.f121) [.v (.s p0)] []=some (.v (.b r),[]):=by
 revert hF
 unfold uM
 all_goals (rintro⟨⟩;rw [bk];show cC _ _ _ (aH _ _ _ _ (Code.seq _ _) _)=_;simp (maxSteps:=4000000) only [*,qa7,qj3,Uk,↓RP,RB,RC,Nat.reduceBEq,List.map,↓ao,↓aa,ty3,ty4,ty9])
def TM:List (Nat×List Nat):=[(0,[0]),(1,[2])]
def U9:cL where
 keep:=ax TM
 ro:=fun _=>false
 mv:=fun _=>false
 give:=fun _=>false
 free:=fun _=>[]
theorem qk7 (i:Nat):U9.keep i=ax TM i:=rfl
theorem Z5:Tryz.f122.results.toList= [.tmp 2]:=rfl
def qli:Code:=aU Tryz.f122
theorem GL (C:aj)  (p0:Int) (r:Bool) (hF:tf p0=some r):cR TT C.wide (evW TT C.wide U9 qli) U9 Tryz.f122.results.toList (aU Tryz.f122) [.I p0] []=some (.v (.b r),[]):=by
 revert hF
 unfold tf
 refine iv (fun h1=>?_) ?_
 all_goals (rintro⟨⟩;intros;rw [bk];show cC _ _ _ (aH _ _ _ _ (Code.seq _ _) _)=_;simp (maxSteps:=4000000) only [*,Z5,qk7,TM,↓RP,RB,RC,Nat.reduceBEq,List.map,Int.reduceNeg,↓ao,↓aa,ty3,ty4])
def Dj:List (Nat×List Nat):=[(0,[1]),(1,[1,11]),(2,[2]),(3,[1,3]),(4,[1,3,18]),(5,[1,3,18,19]),(6,[1,3,18,19]),(7,[1,3,18,19]),(8,[1,3,18,19]),(9,[1,3,18,19]),(10,[1,3,18,19]),(11,[1,3,18,19]),(12,[1,3,18,19]),(13,[1,3]),(14,[1,3,18,31]),(15,[1,3,18,31]),(16,[1,3]),(17,[1,3,18,37]),(18,[1,3]),(19,[1,3,18,45]),(20,[1,3,18,45]),(21,[1,3]),(22,[1,3,18,51]),(23,[1,3]),(24,[1,3,59]),(25,[1,3]),(26,[1,64]),(27,[2]),(28,[1,95]),(29,[2]),(30,[99]),(31,[2]),(32,[2])]
def Es:List (Nat×List Nat×List Nat):=[(11,[],[1]),(19,[1,3,18,19],[1,3,18]),(31,[1,3,18,31],[1,3,18]),(37,[1,3],[1,3,18]),(45,[1,3,18,45],[1,3,18]),(51,[1,3],[1,3,18]),(59,[1,3],[1,3]),(64,[],[1]),(95,[],[1]),(99,[],[])]
def xD:cL where
 keep:=ax Dj
 ro:=fun t=>t==1
 mv:=fun _=>false
 give:=fun _=>false
 free:=fun i=>match i with|18=>[(0,2),(1,2),(0,3),(1,3),(2,4),(3,4),(2,5),(3,5)]|23=>[(0,2),(1,2),(0,3),(1,3),(2,4),(3,4),(2,5),(3,5)]|_=>[]
 alive:=av Es
theorem LP (t:Nat) (x:Bool) (e:Env) (S:bH):cK xD t x ⟨e,S⟩=atO (av Es t x) e S:=cF rfl t x e S
theorem He (i:Nat):xD.keep i=ax Dj i:=rfl
theorem qce (t:Nat):xD.ro t=(t==1):=rfl
theorem Eu (t:Nat):xD.mv t=(false):=rfl
theorem ER (t:Nat):xD.give t=(false):=rfl
theorem Xk:xD.free 18= [(0,2),(1,2),(0,3),(1,3),(2,4),(3,4),(2,5),(3,5)]:=rfl
theorem Vf:xD.free 23= [(0,2),(1,2),(0,3),(1,3),(2,4),(3,4),(2,5),(3,5)]:=rfl
theorem qdq:Tryz.f108.results.toList= [.tmp 2]:=rfl
def Ak:Code:=aU Tryz.f108
theorem Bt (C:aj)  (p0:iA) (p1:Bool) (p2:Int) (p3:ByteArray) (c:Code) (ho:cD 1 59 Ak=some c) (r:iA) (hF:oG p0 p1 p2 p3=r): @cV TT C.wide (evW TT C.wide xD Ak) xD 1 59 ⟨[(1,.rp (rGCommand p0)),(3,.ptr 0 0),(59,.v (.b p1))],[[.I p2,.v (.s p3),.v (.s ByteArray.empty),.v (.s ByteArray.empty),.I 0]]⟩ ⟨c⟩=some (.normal,⟨[(1,.rp (rGCommand p0)),(3,.ptr 0 0)],[cGCommand r]⟩):=by
 have e:=Option.some.inj (ho.symm.trans (rfl:cD 1 59 Ak=some _))
 subst e
 clear ho
 show aH _ _ _ _ _ _=_
 revert hF
 unfold oG
 refine iv (fun h1=>?_) ?_
 all_goals (rintro rfl;intros;simp (maxSteps:=4000000) only [*,cGCommand,rGCommand,LP,Es,He,Dj,ER,↓RP,RB,RC,Nat.reduceBEq,List.map,Nat.reduceAdd,Nat.reduceLeDiff,↓am,ty9,AX,↓aa _ _ _ _ 25])
theorem Bk (C:aj)  (p0:iA) (p1:Int) (p2:Bool) (p3:ByteArray) (c:Code) (ho:cD 1 51 Ak=some c) (r:iA) (hF:oF p0 p1 p2 p3=r): @cV TT C.wide (evW TT C.wide xD Ak) xD 1 51 ⟨[(1,.rp (rGCommand p0)),(3,.ptr 0 0),(18,.I p1),(51,.v (.b p2))],[[.I p1,.v (.s p3),.v (.s ByteArray.empty),.v (.s ByteArray.empty),.I 0]]⟩ ⟨c⟩=some (.normal,⟨[(1,.rp (rGCommand p0)),(3,.ptr 0 0)],[cGCommand r]⟩):=by
 have e:=Option.some.inj (ho.symm.trans (rfl:cD 1 51 Ak=some _))
 subst e
 clear ho
 show aH _ _ _ _ _ _=_
 revert hF
 unfold oF
 refine iv (fun h1=>?_) ?_
 have g1:=Bt C p0 (p1==22) p1 p3 _ rfl (oG p0 (p1==22) p1 p3) rfl
 all_goals (rintro rfl;intros;simp (maxSteps:=4000000) only [*,cGCommand,rGCommand,LP,Es,He,Dj,Vf,Eu,ER,↓RP,RB,RC,Nat.reduceBEq,List.map,Nat.reduceAdd,Nat.reduceLeDiff,cr,↓ao,ty3,ty4,ty9,AX,↓am _ _ _ _ 51,↓aq _ _ _ _ 23,↓aa _ _ _ _ 24,↓da _ _ _ _ 59])
theorem A4 (C:aj)  (p0:iA) (p1:Int) (p2:Bool) (p3:ByteArray) (c:Code) (ho:cD 1 37 Ak=some c) (r:iA) (hF:oI p0 p1 p2 p3=r): @cV TT C.wide (evW TT C.wide xD Ak) xD 1 37 ⟨[(1,.rp (rGCommand p0)),(3,.ptr 0 0),(18,.I p1),(37,.v (.b p2))],[[.I p1,.v (.s p3),.v (.s ByteArray.empty),.v (.s ByteArray.empty),.I 0]]⟩ ⟨c⟩=some (.normal,⟨[(1,.rp (rGCommand p0)),(3,.ptr 0 0)],[cGCommand r]⟩):=by
 have e:=Option.some.inj (ho.symm.trans (rfl:cD 1 37 Ak=some _))
 subst e
 clear ho
 show aH _ _ _ _ _ _=_
 revert hF
 unfold oI
 refine iv (fun h1=>iv (fun h2=>iv (fun h3=>?_) ?_) ?_) ?_
 have g1:=Bk C p0 p1 (p1==14) p3 _ rfl (oF p0 p1 (p1==14) p3) rfl
 all_goals (rintro rfl;intros;simp (maxSteps:=4000000) only [*,cGCommand,rGCommand,LP,Es,He,Dj,Xk,Eu,ER,↓RP,RB,RC,Nat.reduceBEq,List.map,Nat.reduceAdd,Nat.reduceLeDiff,cr,↓ao,ty3,ty4,ty9,AX,↓am _ _ _ _ 37,↓aq _ _ _ _ 18,↓aa _ _ _ _ 19,↓am _ _ _ _ 45,↓aa _ _ _ _ 20,↓aa _ _ _ _ 21,↓aa _ _ _ _ 22,↓da _ _ _ _ 51])
theorem B8 (C:aj)  (p0:iA) (p1:Int) (p2:ByteArray) (c:Code) (ho:cD 2 0 Ak=some c) (r:iA) (hF:ju p0 p1 p2=r): @cV TT C.wide (evW TT C.wide xD Ak) xD 2 0 ⟨[(1,.rp (rGCommand p0)),(3,.ptr 0 0),(18,.I p1)],[[.I p1,.v (.s p2),.v (.s ByteArray.empty),.v (.s ByteArray.empty),.I 0]]⟩ ⟨c⟩=some (.normal,⟨[(1,.rp (rGCommand p0)),(3,.ptr 0 0)],[cGCommand r]⟩):=by
 have e:=Option.some.inj (ho.symm.trans (rfl:cD 2 0 Ak=some _))
 subst e
 clear ho
 show aH _ _ _ _ _ _=_
 revert hF
 unfold ju
 refine iv (fun h1=>iv (fun h2=>iv (fun h3=>?_) ?_) ?_) ?_
 unfold uc
 refine iv (fun h4=>iv (fun h5=>iv (fun h6=>iv (fun h7=>iv (fun h8=>iv (fun h9=>iv (fun h10=>?_) ?_) ?_) ?_) ?_) ?_) ?_) ?_
 have g1:=A4 C p0 p1 (p1==4) p2 _ rfl (oI p0 p1 (p1==4) p2) rfl
 all_goals (rintro rfl;intros;simp (maxSteps:=4000000) only [*,cGCommand,rGCommand,LP,Es,He,Dj,Eu,ER,↓RP,RB,RC,↓ai,Nat.reduceBEq,List.map,Nat.reduceAdd,Nat.reduceLeDiff,↓ao,ty3,ty4,ty9,AX,↓aa _ _ _ _ 5,↓am _ _ _ _ 19,↓aa _ _ _ _ 6,↓aa _ _ _ _ 7,↓aa _ _ _ _ 8,↓aa _ _ _ _ 9,↓aa _ _ _ _ 10,↓aa _ _ _ _ 11,↓aa _ _ _ _ 12,↓aa _ _ _ _ 13,↓aa _ _ _ _ 14,↓am _ _ _ _ 31,↓aa _ _ _ _ 15,↓aa _ _ _ _ 16,↓aa _ _ _ _ 17,↓da _ _ _ _ 37])
theorem A2 (C:aj) (oe:sh C) (jN:lh C) (p0:iA) (p1:iA) (c:Code) (ho:cD 0 28 Ak=some c) (r:Bool) (hF:mC p0 p1=r): @cV TT C.wide (evW TT C.wide xD Ak) xD 0 28 ⟨[(1,.rp (rGCommand p0))],[cGCommand p1]⟩ ⟨c⟩=some (.normal,⟨[(1,.rp (rGCommand p0)),(95,.v (.b r))],[cGCommand p1]⟩):=by
 have e:=Option.some.inj (ho.symm.trans (rfl:cD 0 28 Ak=some _))
 subst e
 clear ho
 show aH _ _ _ _ _ _=_
 revert hF
 unfold mC
 refine aX (fun h1=>?_) (fun h1=>?_)
 focus
  refine bF (fun h2=>?_) (fun h2=>?_)
  focus
   have g1:=bK (jN p0.iq _ (lR p0.iq))
  rotate_left 1
  refine bF (fun h3=>?_) (fun h3=>?_)
  focus
   have g1:=bK (jN p0.iq _ (lR p0.iq))
  rotate_left 1
  have g2:=bK (oe p0.iN _ (uT p0.iN))
  refine aX (fun h4=>?_) (fun h4=>?_)
  focus
   have g1:=bK (jN p0.iq _ (lR p0.iq))
  rotate_left 1
 rotate_left 4
 unfold pv
 have g3:=bK (oe p0.jm _ (uT p0.jm))
 refine ip (fun h2=>bF (fun h3=>?_) (fun h3=>?_)) ?_
 focus
  have g1:=bK (jN p0.iq _ (lR p0.iq))
 rotate_left 1
 refine bF (fun h4=>?_) (fun h4=>?_)
 focus
  have g1:=bK (jN p0.iq _ (lR p0.iq))
 rotate_left 1
 have g2:=bK (oe p0.iN _ (uT p0.iN))
 refine aX (fun h5=>?_) (fun h5=>?_)
 focus
  have g1:=bK (jN p0.iq _ (lR p0.iq))
 rotate_left 1
 all_goals (rintro rfl;intros;simp (maxSteps:=4000000) only [*,cGCommand,rGCommand,He,Dj,Eu,↓RP,RB,RC,Nat.reduceBEq,List.map,bne,ty3,ty9,AX,↓aa _ _ _ _ 28])
theorem JS (C:aj) (oe:sh C) (jN:lh C) (sb:qi C) (p0:iA) (r:Int) (hF:wl p0=some r):cR TT C.wide (evW TT C.wide xD Ak) xD Tryz.f108.results.toList (aU Tryz.f108) [.agg (cGCommand p0)] []=some (.I r,[]):=by
 revert hF
 unfold wl
 refine vg ?_
 unfold rA
 refine iv (fun h1=>iv (fun h2=>?_) ?_) ?_
 unfold vt
 have g1:=B8 C p0 p0.e5 p0.jm _ rfl (ju p0 p0.e5 p0.jm) rfl
 refine ip (fun h3=>ip (fun h4=>ip (fun h5=>ip (fun h6=>ip (fun h7=>?_) ?_) ?_) ?_) ?_) ?_
 have g2:=A2 C oe jN p0 (ju p0 p0.e5 p0.jm) _ rfl (mC p0 (ju p0 p0.e5 p0.jm)) rfl
 refine iv (fun h8=>?_) ?_
 have g3:=bK (sb p0.fN _ (xd p0.fN))
 refine iv (fun h9=>?_) ?_
 all_goals (rintro rfl;intros;rw [bk];show cC _ _ _ (aH _ _ _ _ (Code.seq _ _) _)=_;simp (maxSteps:=4000000) only [*,cGCommand,rGCommand,qdq,LP,Es,He,Dj,qce,Eu,ER,↓RP,RB,RC,Nat.reduceBEq,bP,List.map,Nat.reduceAdd,aG,Nat.reduceLeDiff,bne,↓ao,aP,ty3,ty9,kQ,AX,↓aa _ _ _ _ 0,↓aa _ _ _ _ 1,↓am _ _ _ _ 11,↓aa _ _ _ _ 2,↓aa _ _ _ _ 3,↓aa _ _ _ _ 4,↓GX _ _ _ _ 0,↓aa _ _ _ _ 26,↓am _ _ _ _ 64,↓aa _ _ _ _ 27,↓bg _ _ _ _ 28,↓am _ _ _ _ 95,↓aa _ _ _ _ 29,↓aa _ _ _ _ 30,↓am _ _ _ _ 99,↓aa _ _ _ _ 31,↓aa _ _ _ _ 32])
def qaN:List (Nat×List Nat):=[(0,[1]),(1,[1,5]),(2,[8]),(3,[2]),(4,[2]),(5,[1,18]),(6,[2]),(7,[2])]
def ZI:List (Nat×List Nat×List Nat):=[(5,[1],[1]),(8,[],[]),(18,[],[1])]
def n91:cL where
 keep:=ax qaN
 ro:=fun t=>t==1
 mv:=fun _=>false
 give:=fun _=>false
 free:=fun _=>[]
 alive:=av ZI
theorem qlg (t:Nat) (x:Bool) (e:Env) (S:bH):cK n91 t x ⟨e,S⟩=atO (av ZI t x) e S:=cF rfl t x e S
theorem qlx (i:Nat):n91.keep i=ax qaN i:=rfl
theorem qjI (t:Nat):n91.ro t=(t==1):=rfl
theorem qhy (t:Nat):n91.mv t=(false):=rfl
theorem qf7:Tryz.f91.results.toList= [.tmp 2]:=rfl
def b91:Code:=aU Tryz.f91
theorem Rz (C:aj) (yX:vD C) (Ks:Bc C) (p0:jM) (r:Int) (hF:A6 p0=some r):cR TT C.wide (evW TT C.wide n91 b91) n91 Tryz.f91.results.toList (aU Tryz.f91) [.agg (cGCall p0)] []=some (.I r,[]):=by
 revert hF
 unfold A6
 refine vg ?_
 unfold uI
 refine bF (fun h1=>?_) (fun h1=>?_)
 focus
  have g1:=bK (yX p0.jv _ (yQ p0.jv))
  refine ip (fun h2=>?_) ?_
  have g2:=bK (yX p0.jQ _ (yQ p0.jQ))
  refine aX (fun h3=>?_) (fun h3=>?_)
  focus
   have g3:=bK (Ks p0.ir _ (J7 p0.ir))
  rotate_left 1
 rotate_left 3
 unfold vO
 refine ip (fun h2=>ip (fun h3=>ip (fun h4=>ip (fun h5=>ip (fun h6=>iv (fun h7=>?_) ?_) ?_) ?_) ?_) ?_) ?_
 all_goals (rintro rfl;intros;rw [bk];show cC _ _ _ (aH _ _ _ _ (Code.seq _ _) _)=_;simp (maxSteps:=4000000) only [*,cGCall,qf7,qlg,ZI,qlx,qaN,qjI,qhy,↓RP,RB,RC,Nat.reduceBEq,bP,List.map,Nat.reduceAdd,aG,bne,↓ao,↓am,↓aa,ty3,kQ,AX,Rv])
def X3:List (Nat×List Nat):=[(0,[1]),(1,[1,20]),(2,[2]),(3,[1,22]),(4,[26]),(5,[2]),(6,[2]),(7,[2])]
def qeo:List (Nat×List Nat×List Nat):=[(20,[],[1]),(22,[1],[1]),(26,[],[])]
def n49:cL where
 keep:=ax X3
 ro:=fun t=>t==1
 mv:=fun _=>false
 give:=fun _=>false
 free:=fun _=>[]
 alive:=av qeo
theorem qlb (t:Nat) (x:Bool) (e:Env) (S:bH):cK n49 t x ⟨e,S⟩=atO (av qeo t x) e S:=cF rfl t x e S
theorem qga (i:Nat):n49.keep i=ax X3 i:=rfl
theorem qi6 (t:Nat):n49.ro t=(t==1):=rfl
theorem YA (t:Nat):n49.mv t=(false):=rfl
theorem qhf:Tryz.f49.results.toList= [.tmp 2]:=rfl
def b49:Code:=aU Tryz.f49
theorem zQ (C:aj)  (p0:iE) (c:Code) (ho:cD 0 1 b49=some c) (r:Bool) (hF:jU p0=r): @cV TT C.wide (evW TT C.wide n49 b49) n49 0 1 ⟨[(1,.rp (rGItem p0))],[]⟩ ⟨c⟩=some (.normal,⟨[(1,.rp (rGItem p0)),(20,.v (.b r))],[]⟩):=by
 have e:=Option.some.inj (ho.symm.trans (rfl:cD 0 1 b49=some _))
 subst e
 clear ho
 show aH _ _ _ _ _ _=_
 revert hF
 unfold jU
 refine iv (fun h1=>iv (fun h2=>iv (fun h3=>?_) ?_) ?_) ?_
 all_goals (rintro rfl;intros;simp (maxSteps:=4000000) only [*,rGItem,qga,X3,YA,↓RP,RB,RC,Nat.reduceBEq,List.map,ty3,vR,↓aa _ _ _ _ 1])
theorem Cd (C:aj) (QJ:Ju C) (p0:iE) (r:Int) (hF:qL p0=some r):cR TT C.wide (evW TT C.wide n49 b49) n49 Tryz.f49.results.toList (aU Tryz.f49) [.agg (cGItem p0)] []=some (.I r,[]):=by
 revert hF
 unfold qL
 refine vg ?_
 unfold jl
 have g1:=zQ C p0 _ rfl (jU p0) rfl
 refine iv (fun h1=>bF (fun h2=>?_) (fun h2=>?_)) ?_
 focus
  have g2:=bK (QJ p0.iQ _ (RJ p0.iQ))
  try simp only [rGItem,h2] at g1
 rotate_left 1
 unfold oJ
 refine bF (fun h3=>?_) (fun h3=>?_)
 focus
  try simp only [rGItem,h2] at g1
 rotate_left 1
 refine bF (fun h4=>?_) (fun h4=>?_)
 focus
  try simp only [rGItem,h2] at g1
 rotate_left 1
 refine bF (fun h5=>?_) (fun h5=>?_)
 focus
  try simp only [rGItem,h2] at g1
 rotate_left 1
 refine bF (fun h6=>?_) (fun h6=>?_)
 focus
  try simp only [rGItem,h2] at g1
 rotate_left 1
 refine bF (fun h7=>?_) (fun h7=>?_)
 focus
  try simp only [rGItem,h2] at g1
 rotate_left 1
 refine bF (fun h8=>?_) (fun h8=>?_)
 focus
  try simp only [rGItem,h2] at g1
 rotate_left 1
 refine aX (fun h9=>?_) (fun h9=>?_)
 focus
  try simp only [rGItem,h2] at g1
 rotate_left 1
 try simp only [rGItem,h2] at g1
 all_goals (rintro rfl;intros;rw [bk];show cC _ _ _ (aH _ _ _ _ (Code.seq _ _) _)=_;simp (maxSteps:=4000000) only [*,cGItem,rGItem,qhf,qlb,qeo,qga,X3,qi6,YA,↓RP,RB,RC,Nat.reduceBEq,bP,List.map,Nat.reduceAdd,aG,bne,↓ao,↓am,ty3,ty4,kQ,AX,Rv,vR,↓aa _ _ _ _ 0,↓bg _ _ _ _ 1,↓aa _ _ _ _ 2,↓aa _ _ _ _ 3,↓aa _ _ _ _ 4,↓aa _ _ _ _ 5,↓aa _ _ _ _ 6,↓aa _ _ _ _ 7])
def Ug:List (Nat×List Nat):=[(0,[1]),(1,[2])]
def Ro:cL where
 keep:=ax Ug
 ro:=fun t=>t==1
 mv:=fun _=>false
 give:=fun _=>false
 free:=fun _=>[]
theorem qk2 (i:Nat):Ro.keep i=ax Ug i:=rfl
theorem qbf (t:Nat):Ro.ro t=(t==1):=rfl
theorem qfC (t:Nat):Ro.mv t=(false):=rfl
theorem qcI:Tryz.f123.results.toList= [.tmp 2]:=rfl
def qlU:Code:=aU Tryz.f123
theorem CK (C:aj)  (p0:ae) (r:Int) (hF:q5 p0=some r):cR TT C.wide (evW TT C.wide Ro qlU) Ro Tryz.f123.results.toList (aU Tryz.f123) [.agg (cGValue p0)] []=some (.I r,[]):=by
 revert hF
 unfold q5
 refine vg ?_
 unfold kM
 all_goals (rintro rfl;rw [bk];show cC _ _ _ (aH _ _ _ _ (Code.seq _ _) _)=_;simp (maxSteps:=4000000) only [*,cGValue,qcI,qk2,Ug,qbf,qfC,↓RP,RB,RC,Nat.reduceBEq,bP,List.map,↓ao,↓aa,ty3,ti,mJ,oN,kU])
def UR:List (Nat×List Nat):=[(0,[0]),(1,[2])]
def Xz:cL where
 keep:=ax UR
 ro:=fun _=>false
 mv:=fun _=>false
 give:=fun _=>false
 free:=fun _=>[]
theorem qhF (i:Nat):Xz.keep i=ax UR i:=rfl
theorem qdY:Tryz.f124.results.toList= [.tmp 2]:=rfl
def qln:Code:=aU Tryz.f124
theorem Qu (C:aj) (jN:lh C) (p0:ByteArray) (r:Bool) (hF:zY p0=some r):cR TT C.wide (evW TT C.wide Xz qln) Xz Tryz.f124.results.toList (aU Tryz.f124) [.v (.s p0)] []=some (.v (.b r),[]):=by
 revert hF
 unfold zY
 have g1:=bK (jN p0 _ (lR p0))
 all_goals (rintro⟨⟩;rw [bk];show cC _ _ _ (aH _ _ _ _ (Code.seq _ _) _)=_;simp (maxSteps:=4000000) only [*,qdY,qhF,UR,↓RP,RB,RC,Nat.reduceBEq,List.map,↓ao,↓aa,ty4])
def H8:List (Nat×List Nat):=[(0,[0,1]),(1,[0,1,7,8]),(2,[0,1,7,8,9]),(3,[0,1,5,7,8]),(4,[0,1,5,7,8,16]),(5,[4]),(6,[0,1,7,8]),(7,[4])]
def Pw:List (Nat×List Nat×List Nat):=[(9,[0,1,7,8],[]),(16,[5],[0,1,7,8])]
def Ah:cL where
 keep:=ax H8
 ro:=fun _=>false
 mv:=fun _=>false
 give:=fun _=>false
 free:=fun _=>[]
 alive:=av Pw
theorem X5 (t:Nat) (x:Bool) (e:Env) (S:bH):cK Ah t x ⟨e,S⟩=atO (av Pw t x) e S:=cF rfl t x e S
theorem PX (i:Nat):Ah.keep i=ax H8 i:=rfl
theorem UU (t:Nat):Ah.mv t=(false):=rfl
theorem Uo (t:Nat):Ah.give t=(false):=rfl
theorem U3:Tryz.f137.results.toList= [.tmp 4]:=rfl
def Ot:Code:=aU Tryz.f137
def qbU:Code:=(bE 0 (aU Tryz.f137)).getD .skip
theorem Qd:bE 0 Ot=some qbU:=rfl
def pZ (p0:List ByteArray) (p1:Int) (s:Int):St:=⟨[(0,.v (.sl 1 (ah bY p0))),(1,.clo 124 []),(7,.I p1),(8,.I s)],[]⟩
def sD (p0:List ByteArray) (p1:Int) (r:Int⊕Unit):Option (Ex×St):=match r with
 | .inl r=>some (.ret,⟨[(4,.I r)],[]⟩)
 | .inr r=>some (.normal,⟨[],[]⟩)
theorem yW (C:aj) (zS:B2 C) (p0:List ByteArray) (p1:Int) (p2:Int) (o:Int⊕(Int⊕Unit)) (hF:nF p0 p1 p2=some o):evW TT C.wide Ah Ot 0 (pZ p0 p1 p2)=Sum.elim (fun s=>evW TT C.wide Ah Ot 0 (pZ p0 p1 s)) (fun r=>sD p0 p1 r) o:=by
 rw [cG TT Ah Qd]
 revert hF
 unfold nF
 try dsimp only
 refine ip (fun h1=>az fun x1 h2=>?_) ?_
 have g1:decide (0<=p2)=true:=(cp h2).1
 have g2:(ah bY p0)[(p2:Int).toNat]? =some [.s x1]:=cn _ h2
 have g3:=bK (zS x1 _ (Ri x1))
 refine iv (fun h3=>?_) ?_
 all_goals (rintro⟨⟩;intros;show cN _ _ _ (aH _ _ _ _ (Code.seq _ _) _)=_;simp (maxSteps:=4000000) only [*,pZ,sD,X5,Pw,PX,H8,UU,Uo,↓RP,RB,RC,↓ai,Nat.reduceBEq,List.map,↓ao,↓am,↓aa,ty3,ty9,mJ])
theorem JM (C:aj) (zS:B2 C) (p0:List ByteArray) (r:Int) (hF:uh p0=some r):cR TT C.wide (evW TT C.wide Ah Ot) Ah Tryz.f137.results.toList (aU Tryz.f137) [.v (.sl 1 (ah bY p0)),.clo 124 []] []=some (.I r,[]):=by
 revert hF
 unfold uh
 refine az ?_
 rintro (x1|_) h1
 focus
  dsimp only
  have g1:=cH _ _ (yW C zS p0 (p0.length:Int)) h1
  try simp only [pZ,sD] at g1
 rotate_left 1
 dsimp only
 have g2:=cH _ _ (yW C zS p0 (p0.length:Int)) h1
 try simp only [pZ,sD] at g2
 all_goals (rintro⟨⟩;rw [bk];show cC _ _ _ (aH _ _ _ _ (Code.seq _ _) _)=_;simp (maxSteps:=4000000) only [*,U3,PX,H8,↓RP,RB,RC,Nat.reduceBEq,List.map,Nat.reduceAdd,Int.reduceNeg,↓ao,↓aa,ty3,mJ])
def P2:List (Nat×List Nat):=[(0,[0,1]),(1,[4])]
def N2:cL where
 keep:=ax P2
 ro:=fun _=>false
 mv:=fun _=>false
 give:=fun _=>false
 free:=fun _=>[]
theorem YB (i:Nat):N2.keep i=ax P2 i:=rfl
theorem UQ:Tryz.f110.results.toList= [.tmp 4]:=rfl
def qii:Code:=aU Tryz.f110
theorem KH (C:aj) (Ka:Bq C) (p0:List ByteArray) (r:Bool) (hF:sJ p0=some r):cR TT C.wide (evW TT C.wide N2 qii) N2 Tryz.f110.results.toList (aU Tryz.f110) [.v (.sl 1 (ah bY p0)),.clo 124 []] []=some (.v (.b r),[]):=by
 revert hF
 unfold sJ
 refine az fun x1 h1=>?_
 have g1:=bK (Ka p0 _ h1)
 all_goals (rintro⟨⟩;rw [bk];show cC _ _ _ (aH _ _ _ _ (Code.seq _ _) _)=_;simp (maxSteps:=4000000) only [*,UQ,YB,P2,↓RP,RB,RC,Nat.reduceBEq,List.map,Nat.reduceAdd,↓ao,↓aa,ty3,ty4])
def TH:List (Nat×List Nat):=[(0,[1]),(1,[2])]
def Rw:cL where
 keep:=ax TH
 ro:=fun t=>t==1
 mv:=fun _=>false
 give:=fun _=>false
 free:=fun _=>[]
theorem qhQ (i:Nat):Rw.keep i=ax TH i:=rfl
theorem qea (t:Nat):Rw.ro t=(t==1):=rfl
theorem ZZ (t:Nat):Rw.mv t=(false):=rfl
theorem qeQ:Tryz.f126.results.toList= [.tmp 2]:=rfl
def qlh:Code:=aU Tryz.f126
theorem QT (C:aj) (oe:sh C) (jN:lh C) (p0:iC) (r:Bool) (hF:zT p0=some r):cR TT C.wide (evW TT C.wide Rw qlh) Rw Tryz.f126.results.toList (aU Tryz.f126) [.agg (cGPair p0)] []=some (.v (.b r),[]):=by
 revert hF
 unfold zT
 have g1:=bK (oe p0.iN _ (uT p0.iN))
 refine aX (fun h1=>?_) (fun h1=>?_)
 focus
  have g2:=bK (jN p0.iq _ (lR p0.iq))
 rotate_left 1
 all_goals (rintro⟨⟩;rw [bk];show cC _ _ _ (aH _ _ _ _ (Code.seq _ _) _)=_;simp (maxSteps:=4000000) only [*,cGPair,qeQ,qhQ,TH,qea,ZZ,↓RP,RB,RC,Nat.reduceBEq,bP,List.map,↓ao,↓aa,ty4,ty9,AE])
def PG:List (Nat×List Nat):=[(0,[0,1]),(1,[0,1,7,8]),(2,[0,1,7,8,9]),(3,[0,1,5,7,8]),(4,[0,1,5,7,8,16]),(5,[4]),(6,[0,1,7,8]),(7,[4])]
def RT:List (Nat×List Nat×List Nat):=[(9,[0,1,7,8],[]),(16,[5],[0,1,7,8])]
def FZ:cL where
 keep:=ax PG
 ro:=fun _=>false
 mv:=fun _=>false
 give:=fun _=>false
 free:=fun _=>[]
 alive:=av RT
theorem qke (t:Nat) (x:Bool) (e:Env) (S:bH):cK FZ t x ⟨e,S⟩=atO (av RT t x) e S:=cF rfl t x e S
theorem Yr (i:Nat):FZ.keep i=ax PG i:=rfl
theorem qdZ (t:Nat):FZ.mv t=(false):=rfl
theorem ZJ (t:Nat):FZ.give t=(false):=rfl
theorem qds:Tryz.f141.results.toList= [.tmp 4]:=rfl
def V3:Code:=aU Tryz.f141
def qfz:Code:=(bE 0 (aU Tryz.f141)).getD .skip
theorem Xi:bE 0 V3=some qfz:=rfl
def pW (p0:List iC) (p1:Int) (s:Int):St:=⟨[(0,.v (.sl 2 (ah iC.row p0))),(1,.clo 126 []),(7,.I p1),(8,.I s)],[]⟩
def sA (p0:List iC) (p1:Int) (r:Int⊕Unit):Option (Ex×St):=match r with
 | .inl r=>some (.ret,⟨[(4,.I r)],[]⟩)
 | .inr r=>some (.normal,⟨[],[]⟩)
theorem yT (C:aj) (zV:Co C) (p0:List iC) (p1:Int) (p2:Int) (o:Int⊕(Int⊕Unit)) (hF:nG p0 p1 p2=some o):evW TT C.wide FZ V3 0 (pW p0 p1 p2)=Sum.elim (fun s=>evW TT C.wide FZ V3 0 (pW p0 p1 s)) (fun r=>sA p0 p1 r) o:=by
 rw [cG TT FZ Xi]
 revert hF
 unfold nG
 try dsimp only
 refine ip (fun h1=>az fun x1 h2=>?_) ?_
 have g1:decide (0<=p2)=true:=(cp h2).1
 have g2:(ah iC.row p0)[(p2:Int).toNat]? =some (rGPair x1):=cn _ h2
 have g3:=bK (zV x1 _ (QL x1))
 refine iv (fun h3=>?_) ?_
 all_goals (rintro⟨⟩;intros;show cN _ _ _ (aH _ _ _ _ (Code.seq _ _) _)=_;simp (maxSteps:=4000000) only [*,rGPair,pW,sA,qke,RT,Yr,PG,qdZ,ZJ,↓RP,RB,RC,↓ai,Nat.reduceBEq,List.map,Nat.reduceAdd,↓ao,↓am,↓aa,ty3,ti,AE])
theorem Kl (C:aj) (zV:Co C) (p0:List iC) (r:Int) (hF:uk p0=some r):cR TT C.wide (evW TT C.wide FZ V3) FZ Tryz.f141.results.toList (aU Tryz.f141) [.v (.sl 2 (ah iC.row p0)),.clo 126 []] []=some (.I r,[]):=by
 revert hF
 unfold uk
 refine az ?_
 rintro (x1|_) h1
 focus
  dsimp only
  have g1:=cH _ _ (yT C zV p0 (p0.length:Int)) h1
  try simp only [pW,sA] at g1
 rotate_left 1
 dsimp only
 have g2:=cH _ _ (yT C zV p0 (p0.length:Int)) h1
 try simp only [pW,sA] at g2
 all_goals (rintro⟨⟩;rw [bk];show cC _ _ _ (aH _ _ _ _ (Code.seq _ _) _)=_;simp (maxSteps:=4000000) only [*,qds,Yr,PG,↓RP,RB,RC,Nat.reduceBEq,List.map,Nat.reduceAdd,Int.reduceNeg,↓ao,↓aa,ty3,ti])
def T0:List (Nat×List Nat):=[(0,[0,1]),(1,[4])]
def XL:cL where
 keep:=ax T0
 ro:=fun _=>false
 mv:=fun _=>false
 give:=fun _=>false
 free:=fun _=>[]
theorem qjL (i:Nat):XL.keep i=ax T0 i:=rfl
theorem qfm:Tryz.f125.results.toList= [.tmp 4]:=rfl
def qmz:Code:=aU Tryz.f125
theorem KT (C:aj) (KU:Bm C) (p0:List iC) (r:Bool) (hF:sU p0=some r):cR TT C.wide (evW TT C.wide XL qmz) XL Tryz.f125.results.toList (aU Tryz.f125) [.v (.sl 2 (ah iC.row p0)),.clo 126 []] []=some (.v (.b r),[]):=by
 revert hF
 unfold sU
 refine az fun x1 h1=>?_
 have g1:=bK (KU p0 _ h1)
 all_goals (rintro⟨⟩;rw [bk];show cC _ _ _ (aH _ _ _ _ (Code.seq _ _) _)=_;simp (maxSteps:=4000000) only [*,qfm,qjL,T0,↓RP,RB,RC,Nat.reduceBEq,List.map,Nat.reduceAdd,↓ao,↓aa,ty3,ty4])
def UO:List (Nat×List Nat):=[(0,[1]),(1,[2])]
def QO:cL where
 keep:=ax UO
 ro:=fun t=>t==1
 mv:=fun _=>false
 give:=fun _=>false
 free:=fun _=>[]
theorem qiO (i:Nat):QO.keep i=ax UO i:=rfl
theorem qbt (t:Nat):QO.ro t=(t==1):=rfl
theorem qac (t:Nat):QO.mv t=(false):=rfl
theorem qcM:Tryz.f128.results.toList= [.tmp 2]:=rfl
def qlq:Code:=aU Tryz.f128
theorem Qt (C:aj) (jN:lh C) (p0:f5) (r:Bool) (hF:Ab p0=some r):cR TT C.wide (evW TT C.wide QO qlq) QO Tryz.f128.results.toList (aU Tryz.f128) [.agg (cGScore p0)] []=some (.v (.b r),[]):=by
 revert hF
 unfold Ab
 have g1:=bK (jN p0.i6 _ (lR p0.i6))
 all_goals (rintro⟨⟩;rw [bk];show cC _ _ _ (aH _ _ _ _ (Code.seq _ _) _)=_;simp (maxSteps:=4000000) only [*,cGScore,qcM,qiO,UO,qbt,qac,↓RP,RB,RC,Nat.reduceBEq,bP,List.map,↓ao,↓aa,ty4,ty9,ua])
def C4:List (Nat×List Nat):=[(0,[0,1]),(1,[0,1,7,8]),(2,[0,1,7,8,9]),(3,[0,1,5,7,8]),(4,[0,1,5,7,8,16]),(5,[4]),(6,[0,1,7,8]),(7,[4])]
def Nb:List (Nat×List Nat×List Nat):=[(9,[0,1,7,8],[]),(16,[5],[0,1,7,8])]
def wD:cL where
 keep:=ax C4
 ro:=fun _=>false
 mv:=fun _=>false
 give:=fun _=>false
 free:=fun _=>[]
 alive:=av Nb
theorem SP (t:Nat) (x:Bool) (e:Env) (S:bH):cK wD t x ⟨e,S⟩=atO (av Nb t x) e S:=cF rfl t x e S
theorem Iy (i:Nat):wD.keep i=ax C4 i:=rfl
theorem Nw (t:Nat):wD.mv t=(false):=rfl
theorem NN (t:Nat):wD.give t=(false):=rfl
theorem Oh:Tryz.f142.results.toList= [.tmp 4]:=rfl
def GH:Code:=aU Tryz.f142
def qa8:Code:=(bE 0 (aU Tryz.f142)).getD .skip
theorem Kv:bE 0 GH=some qa8:=rfl
def pX (p0:List f5) (p1:Int) (s:Int):St:=⟨[(0,.v (.sl 2 (ah f5.row p0))),(1,.clo 128 []),(7,.I p1),(8,.I s)],[]⟩
def sC (p0:List f5) (p1:Int) (r:Int⊕Unit):Option (Ex×St):=match r with
 | .inl r=>some (.ret,⟨[(4,.I r)],[]⟩)
 | .inr r=>some (.normal,⟨[],[]⟩)
theorem yR (C:aj) (zW:CC C) (p0:List f5) (p1:Int) (p2:Int) (o:Int⊕(Int⊕Unit)) (hF:nD p0 p1 p2=some o):evW TT C.wide wD GH 0 (pX p0 p1 p2)=Sum.elim (fun s=>evW TT C.wide wD GH 0 (pX p0 p1 s)) (fun r=>sC p0 p1 r) o:=by
 rw [cG TT wD Kv]
 revert hF
 unfold nD
 try dsimp only
 refine ip (fun h1=>az fun x1 h2=>?_) ?_
 have g1:decide (0<=p2)=true:=(cp h2).1
 have g2:(ah f5.row p0)[(p2:Int).toNat]? =some (rGScore x1):=cn _ h2
 have g3:=bK (zW x1 _ (RA x1))
 refine iv (fun h3=>?_) ?_
 all_goals (rintro⟨⟩;intros;show cN _ _ _ (aH _ _ _ _ (Code.seq _ _) _)=_;simp (maxSteps:=4000000) only [*,rGScore,pX,sC,SP,Nb,Iy,C4,Nw,NN,↓RP,RB,RC,↓ai,Nat.reduceBEq,List.map,Nat.reduceAdd,↓ao,↓am,↓aa,ty3,oN,ua])
theorem KS (C:aj) (zW:CC C) (p0:List f5) (r:Int) (hF:uF p0=some r):cR TT C.wide (evW TT C.wide wD GH) wD Tryz.f142.results.toList (aU Tryz.f142) [.v (.sl 2 (ah f5.row p0)),.clo 128 []] []=some (.I r,[]):=by
 revert hF
 unfold uF
 refine az ?_
 rintro (x1|_) h1
 focus
  dsimp only
  have g1:=cH _ _ (yR C zW p0 (p0.length:Int)) h1
  try simp only [pX,sC] at g1
 rotate_left 1
 dsimp only
 have g2:=cH _ _ (yR C zW p0 (p0.length:Int)) h1
 try simp only [pX,sC] at g2
 all_goals (rintro⟨⟩;rw [bk];show cC _ _ _ (aH _ _ _ _ (Code.seq _ _) _)=_;simp (maxSteps:=4000000) only [*,Oh,Iy,C4,↓RP,RB,RC,Nat.reduceBEq,List.map,Nat.reduceAdd,Int.reduceNeg,↓ao,↓aa,ty3,oN])
def Qh:List (Nat×List Nat):=[(0,[0,1]),(1,[4])]
def OY:cL where
 keep:=ax Qh
 ro:=fun _=>false
 mv:=fun _=>false
 give:=fun _=>false
 free:=fun _=>[]
theorem Ys (i:Nat):OY.keep i=ax Qh i:=rfl
theorem Su:Tryz.f127.results.toList= [.tmp 4]:=rfl
def qhb:Code:=aU Tryz.f127
theorem KF (C:aj) (Kx:BN C) (p0:List f5) (r:Bool) (hF:sH p0=some r):cR TT C.wide (evW TT C.wide OY qhb) OY Tryz.f127.results.toList (aU Tryz.f127) [.v (.sl 2 (ah f5.row p0)),.clo 128 []] []=some (.v (.b r),[]):=by
 revert hF
 unfold sH
 refine az fun x1 h1=>?_
 have g1:=bK (Kx p0 _ h1)
 all_goals (rintro⟨⟩;rw [bk];show cC _ _ _ (aH _ _ _ _ (Code.seq _ _) _)=_;simp (maxSteps:=4000000) only [*,Su,Ys,Qh,↓RP,RB,RC,Nat.reduceBEq,List.map,Nat.reduceAdd,↓ao,↓aa,ty3,ty4])
def UC:List (Nat×List Nat):=[(0,[1]),(1,[2])]
def Rc:cL where
 keep:=ax UC
 ro:=fun t=>t==1
 mv:=fun _=>false
 give:=fun _=>false
 free:=fun _=>[]
theorem qiP (i:Nat):Rc.keep i=ax UC i:=rfl
theorem qah (t:Nat):Rc.ro t=(t==1):=rfl
theorem qfi (t:Nat):Rc.mv t=(false):=rfl
theorem qaB:Tryz.f129.results.toList= [.tmp 2]:=rfl
def qld:Code:=aU Tryz.f129
theorem Qw (C:aj) (sb:qi C) (p0:f5) (r:Bool) (hF:zU p0=some r):cR TT C.wide (evW TT C.wide Rc qld) Rc Tryz.f129.results.toList (aU Tryz.f129) [.agg (cGScore p0)] []=some (.v (.b r),[]):=by
 revert hF
 unfold zU
 have g1:=bK (sb p0.fN _ (xd p0.fN))
 all_goals (rintro⟨⟩;rw [bk];show cC _ _ _ (aH _ _ _ _ (Code.seq _ _) _)=_;simp (maxSteps:=4000000) only [*,cGScore,qaB,qiP,UC,qah,qfi,↓RP,RB,RC,Nat.reduceBEq,bP,List.map,↓ao,↓aa,ty3,ty4,ua])
def pQ (p0:List f5) (p1:Int) (s:Int):St:=⟨[(0,.v (.sl 2 (ah f5.row p0))),(1,.clo 129 []),(7,.I p1),(8,.I s)],[]⟩
def su (p0:List f5) (p1:Int) (r:Int⊕Unit):Option (Ex×St):=match r with
 | .inl r=>some (.ret,⟨[(4,.I r)],[]⟩)
 | .inr r=>some (.normal,⟨[],[]⟩)
theorem yZ (C:aj) (zZ:BZ C) (p0:List f5) (p1:Int) (p2:Int) (o:Int⊕(Int⊕Unit)) (hF:nE p0 p1 p2=some o):evW TT C.wide wD GH 0 (pQ p0 p1 p2)=Sum.elim (fun s=>evW TT C.wide wD GH 0 (pQ p0 p1 s)) (fun r=>su p0 p1 r) o:=by
 rw [cG TT wD Kv]
 revert hF
 unfold nE
 try dsimp only
 refine ip (fun h1=>az fun x1 h2=>?_) ?_
 have g1:decide (0<=p2)=true:=(cp h2).1
 have g2:(ah f5.row p0)[(p2:Int).toNat]? =some (rGScore x1):=cn _ h2
 have g3:=bK (zZ x1 _ (Q6 x1))
 refine iv (fun h3=>?_) ?_
 all_goals (rintro⟨⟩;intros;show cN _ _ _ (aH _ _ _ _ (Code.seq _ _) _)=_;simp (maxSteps:=4000000) only [*,rGScore,pQ,su,SP,Nb,Iy,C4,Nw,NN,↓RP,RB,RC,↓ai,Nat.reduceBEq,List.map,Nat.reduceAdd,↓ao,↓am,↓aa,ty3,oN,ua])
theorem JY (C:aj) (zZ:BZ C) (p0:List f5) (r:Int) (hF:ud p0=some r):cR TT C.wide (evW TT C.wide wD GH) wD Tryz.f142.results.toList (aU Tryz.f142) [.v (.sl 2 (ah f5.row p0)),.clo 129 []] []=some (.I r,[]):=by
 revert hF
 unfold ud
 refine az ?_
 rintro (x1|_) h1
 focus
  dsimp only
  have g1:=cH _ _ (yZ C zZ p0 (p0.length:Int)) h1
  try simp only [pQ,su] at g1
 rotate_left 1
 dsimp only
 have g2:=cH _ _ (yZ C zZ p0 (p0.length:Int)) h1
 try simp only [pQ,su] at g2
 all_goals (rintro⟨⟩;rw [bk];show cC _ _ _ (aH _ _ _ _ (Code.seq _ _) _)=_;simp (maxSteps:=4000000) only [*,Oh,Iy,C4,↓RP,RB,RC,Nat.reduceBEq,List.map,Nat.reduceAdd,Int.reduceNeg,↓ao,↓aa,ty3,oN])
theorem KR (C:aj) (JX:Bl C) (p0:List f5) (r:Bool) (hF:sI p0=some r):cR TT C.wide (evW TT C.wide OY qhb) OY Tryz.f127.results.toList (aU Tryz.f127) [.v (.sl 2 (ah f5.row p0)),.clo 129 []] []=some (.v (.b r),[]):=by
 revert hF
 unfold sI
 refine az fun x1 h1=>?_
 have g1:=bK (JX p0 _ h1)
 all_goals (rintro⟨⟩;rw [bk];show cC _ _ _ (aH _ _ _ _ (Code.seq _ _) _)=_;simp (maxSteps:=4000000) only [*,Su,Ys,Qh,↓RP,RB,RC,Nat.reduceBEq,List.map,Nat.reduceAdd,↓ao,↓aa,ty3,ty4])
def TA:List (Nat×List Nat):=[(0,[0,1]),(1,[4])]
def Vi:cL where
 keep:=ax TA
 ro:=fun _=>false
 mv:=fun _=>false
 give:=fun _=>false
 free:=fun _=>[]
theorem qie (i:Nat):Vi.keep i=ax TA i:=rfl
theorem qeT:Tryz.f145.results.toList= [.tmp 4]:=rfl
def qmx:Code:=aU Tryz.f145
theorem Bo (C:aj) (Mb:De C) (p0:ByteArray) (p1:ByteArray) (r:Int) (hF:pV p0 p1=some r):cR TT C.wide (evW TT C.wide Vi qmx) Vi Tryz.f145.results.toList (aU Tryz.f145) [.v (.s p0),.v (.s p1)] []=some (.I r,[]):=by
 revert hF
 unfold pV
 refine vg ?_
 unfold qD
 have g1:=bK (Mb p0 p1 _ (LD p0 p1))
 all_goals (rintro rfl;rw [bk];show cC _ _ _ (aH _ _ _ _ (Code.seq _ _) _)=_;simp (maxSteps:=4000000) only [*,qeT,qie,TA,↓RP,RB,RC,Nat.reduceBEq,List.map,Nat.reduceAdd,↓ao,↓aa,ty3])
def SX:List (Nat×List Nat):=[(0,[0,1]),(1,[4])]
def Ve:cL where
 keep:=ax SX
 ro:=fun _=>false
 mv:=fun _=>false
 give:=fun _=>false
 free:=fun _=>[]
theorem qiI (i:Nat):Ve.keep i=ax SX i:=rfl
theorem qdR:Tryz.f135.results.toList= [.tmp 4]:=rfl
def qlv:Code:=aU Tryz.f135
theorem BA (C:aj) (A3:wT C) (p0:ByteArray) (p1:ByteArray) (r:Int) (hF:pU p0 p1=some r):cR TT C.wide (evW TT C.wide Ve qlv) Ve Tryz.f135.results.toList (aU Tryz.f135) [.v (.s p0),.v (.s p1)] []=some (.I r,[]):=by
 revert hF
 unfold pU
 refine vg ?_
 unfold kb
 have g1:=bK (A3 p0 p1 _ (Bu p0 p1))
 all_goals (rintro rfl;rw [bk];show cC _ _ _ (aH _ _ _ _ (Code.seq _ _) _)=_;simp (maxSteps:=4000000) only [*,qdR,qiI,SX,↓RP,RB,RC,Nat.reduceBEq,List.map,Nat.reduceAdd,↓ao,↓aa,ty3])
def TC:List (Nat×List Nat):=[(0,[2,3]),(1,[4])]
def QI:cL where
 keep:=ax TC
 ro:=fun t=>t==2||t==3
 mv:=fun _=>false
 give:=fun _=>false
 free:=fun _=>[]
theorem qk5 (i:Nat):QI.keep i=ax TC i:=rfl
theorem Za (t:Nat):QI.ro t=(t==2||t==3):=rfl
theorem qcz (t:Nat):QI.mv t=(false):=rfl
theorem qaV:Tryz.f131.results.toList= [.tmp 4]:=rfl
def qlO:Code:=aU Tryz.f131
theorem Dv (C:aj) (ku:li C) (p0:iC) (p1:iC) (r:Int) (hF:sn p0 p1=some r):cR TT C.wide (evW TT C.wide QI qlO) QI Tryz.f131.results.toList (aU Tryz.f131) [.agg (cGPair p0),.agg (cGPair p1)] []=some (.I r,[]):=by
 revert hF
 unfold sn
 refine vg ?_
 unfold qc
 have g1:=bK (ku p0.iN p1.iN _ (tQ p0.iN p1.iN))
 all_goals (rintro rfl;rw [bk];show cC _ _ _ (aH _ _ _ _ (Code.seq _ _) _)=_;simp (maxSteps:=4000000) only [*,cGPair,qaV,qk5,TC,Za,qcz,↓RP,RB,RC,Nat.reduceBEq,bP,List.map,Nat.reduceAdd,↓ao,↓aa,ty3,ty9,AE])
def PH:List (Nat×List Nat):=[(0,[0,1]),(1,[0,1,5]),(2,[0,1,5,9]),(3,[0,1,5]),(4,[0,1,5,23]),(5,[4]),(6,[4])]
def S7:List (Nat×List Nat×List Nat):=[(9,[0,1,5],[]),(23,[],[0,1,5])]
def D4:cL where
 keep:=ax PH
 ro:=fun _=>false
 mv:=fun _=>false
 give:=fun _=>false
 free:=fun i=>match i with|4=>[(0,1),(0,2),(1,2),(0,3),(1,3),(0,4),(0,5),(0,6),(1,6),(2,6),(3,6),(4,6),(5,6),(0,7),(1,7),(2,7),(3,7),(4,7),(5,7),(6,7),(0,8),(1,8),(2,8),(3,8),(4,8),(5,8),(0,9),(1,9),(2,9),(3,9),(4,9),(5,9)]|_=>[]
 alive:=av S7
theorem qhA (t:Nat) (x:Bool) (e:Env) (S:bH):cK D4 t x ⟨e,S⟩=atO (av S7 t x) e S:=cF rfl t x e S
theorem Ym (i:Nat):D4.keep i=ax PH i:=rfl
theorem qdL (t:Nat):D4.mv t=(false):=rfl
theorem qdx (t:Nat):D4.give t=(false):=rfl
theorem qe9:D4.free 4= [(0,1),(0,2),(1,2),(0,3),(1,3),(0,4),(0,5),(0,6),(1,6),(2,6),(3,6),(4,6),(5,6),(0,7),(1,7),(2,7),(3,7),(4,7),(5,7),(6,7),(0,8),(1,8),(2,8),(3,8),(4,8),(5,8),(0,9),(1,9),(2,9),(3,9),(4,9),(5,9)]:=rfl
theorem qe7:Tryz.f130.results.toList= [.tmp 4]:=rfl
def W7:Code:=aU Tryz.f130
def qbQ:Code:=(bE 0 (aU Tryz.f130)).getD .skip
theorem VG:bE 0 W7=some qbQ:=rfl
def jw (p0:List iC) (s:Int):St:=⟨[(0,.v (.sl 2 (ah iC.row p0))),(1,.clo 131 []),(5,.I s)],[]⟩
def jO (p0:List iC) (r:Unit⊕Unit):Option (Ex×St):=match r with
 | .inl r=>some (.ret,⟨[(4,.v (.b false))],[]⟩)
 | .inr r=>some (.normal,⟨[],[]⟩)
theorem mD (C:aj) (sy:vr C) (p0:List iC) (p1:Int) (o:Int⊕(Unit⊕Unit)) (hF:jk p0 p1=some o):evW TT C.wide D4 W7 0 (jw p0 p1)=Sum.elim (fun s=>evW TT C.wide D4 W7 0 (jw p0 s)) (fun r=>jO p0 r) o:=by
 rw [cG TT D4 VG]
 revert hF
 unfold jk
 try dsimp only
 refine ip (fun h1=>az fun x1 h2=>?_) ?_
 have g1:decide (0<=(IntKind.i64.wrap (p1-1)))=true:=(cp h2).1
 have g2:(ah iC.row p0)[((IntKind.i64.wrap (p1-1)):Int).toNat]? =some (rGPair x1):=cn _ h2
 refine az fun x2 h3=>?_
 have g3:decide (0<=p1)=true:=(cp h3).1
 have g4:(ah iC.row p0)[(p1:Int).toNat]? =some (rGPair x2):=cn _ h3
 have g5:=bK (sy x1 x2 _ (Du x1 x2))
 refine iv (fun h4=>?_) ?_
 all_goals (rintro⟨⟩;intros;show cN _ _ _ (aH _ _ _ _ (Code.seq _ _) _)=_;simp (maxSteps:=4000000) only [*,rGPair,jw,jO,qhA,S7,Ym,PH,qe9,qdL,qdx,↓RP,RB,RC,↓ai,Nat.reduceBEq,List.map,Nat.reduceAdd,List.foldl_cons,List.foldl_nil,List.filter_nil,↓ao,↓am,↓aa,↓aq,ty3,ty4,ti,AE])
theorem tn (C:aj) (sy:vr C) (p0:List iC) (r:Bool) (hF:jn p0=some r):cR TT C.wide (evW TT C.wide D4 W7) D4 Tryz.f130.results.toList (aU Tryz.f130) [.v (.sl 2 (ah iC.row p0)),.clo 131 []] []=some (.v (.b r),[]):=by
 revert hF
 unfold jn
 refine az ?_
 rintro (_|_) h1
 focus
  dsimp only
  have g1:=cH _ _ (mD C sy p0) h1
  try simp only [jw,jO] at g1
 rotate_left 1
 dsimp only
 have g2:=cH _ _ (mD C sy p0) h1
 try simp only [jw,jO] at g2
 all_goals (rintro⟨⟩;rw [bk];show cC _ _ _ (aH _ _ _ _ (Code.seq _ _) _)=_;simp (maxSteps:=4000000) only [*,qe7,Ym,PH,↓RP,RB,RC,Nat.reduceBEq,List.map,Nat.reduceAdd,↓ao,↓aa,ty3,ty4])
def Uw:List (Nat×List Nat):=[(0,[0]),(1,[2])]
def XP:cL where
 keep:=ax Uw
 ro:=fun _=>false
 mv:=fun _=>false
 give:=fun _=>false
 free:=fun _=>[]
theorem qjn (i:Nat):XP.keep i=ax Uw i:=rfl
theorem qaP:Tryz.f147.results.toList= [.tmp 2]:=rfl
def qms:Code:=aU Tryz.f147
theorem Dn (C:aj)  (p0:Int) (r:Bool) (hF:qj p0=some r):cR TT C.wide (evW TT C.wide XP qms) XP Tryz.f147.results.toList (aU Tryz.f147) [.I p0] []=some (.v (.b r),[]):=by
 revert hF
 unfold qj
 all_goals (rintro⟨⟩;rw [bk];show cC _ _ _ (aH _ _ _ _ (Code.seq _ _) _)=_;simp (maxSteps:=4000000) only [*,qaP,qjn,Uw,↓RP,RB,RC,Nat.reduceBEq,List.map,bne,↓ao,↓aa,ty3,ty4])
def UW:List (Nat×List Nat):=[(0,[0,1]),(1,[0,1,5]),(2,[0,1,5,6]),(3,[0,1,6,11]),(4,[12]),(5,[4]),(6,[4]),(7,[0,1,13]),(8,[4]),(9,[0,1,16]),(10,[4]),(11,[19]),(12,[4]),(13,[4])]
def Tc:List (Nat×List Nat×List Nat):=[(11,[6],[0,1,6]),(12,[],[]),(13,[],[0,1]),(16,[],[0,1]),(19,[],[])]
def Tt:cL where
 keep:=ax UW
 ro:=fun _=>false
 mv:=fun _=>false
 give:=fun _=>false
 free:=fun _=>[]
 alive:=av Tc
theorem qjJ (t:Nat) (x:Bool) (e:Env) (S:bH):cK Tt t x ⟨e,S⟩=atO (av Tc t x) e S:=cF rfl t x e S
theorem qjX (i:Nat):Tt.keep i=ax UW i:=rfl
theorem qd9:Tryz.f144.results.toList= [.tmp 4]:=rfl
def qlH:Code:=aU Tryz.f144
theorem Ba (C:aj) (yJ:yM C) (p0:Int) (p1:Int) (r:Int) (hF:qd p0 p1=some r):cR TT C.wide (evW TT C.wide Tt qlH) Tt Tryz.f144.results.toList (aU Tryz.f144) [.I p0,.I p1] []=some (.I r,[]):=by
 revert hF
 unfold qd
 refine vg ?_
 unfold mi
 have g1:=bK (yJ p0 _ (yL p0))
 have g2:=bK (yJ p1 _ (yL p1))
 refine aX (fun h1=>?_) (fun h1=>?_)
 focus
  refine iv (fun h2=>?_) ?_
 rotate_left 2
 refine iv (fun h2=>iv (fun h3=>iv (fun h4=>?_) ?_) ?_) ?_
 all_goals (rintro rfl;intros;rw [bk];show cC _ _ _ (aH _ _ _ _ (Code.seq _ _) _)=_;simp (maxSteps:=4000000) only [*,qd9,qjJ,Tc,qjX,UW,↓RP,RB,RC,Nat.reduceBEq,List.map,Nat.reduceAdd,Int.reduceNeg,↓ao,↓am,↓aa,ty3,ty4])
def Pm:List (Nat×List Nat):=[(0,[0]),(1,[0,3]),(2,[0,3,6,7,8]),(3,[0,3,6,7,8,9]),(4,[0,3,5,6,7,8]),(5,[0,3,5,6,7,8,14]),(6,[2]),(7,[0,3,6,7,8]),(8,[2])]
def T9:List (Nat×List Nat×List Nat):=[(9,[0,3,6,7,8],[3]),(14,[5],[0,3,6,7,8])]
def Kp:cL where
 keep:=ax Pm
 ro:=fun _=>false
 mv:=fun _=>false
 give:=fun _=>false
 free:=fun _=>[]
 alive:=av T9
theorem qgH (t:Nat) (x:Bool) (e:Env) (S:bH):cK Kp t x ⟨e,S⟩=atO (av T9 t x) e S:=cF rfl t x e S
theorem Yc (i:Nat):Kp.keep i=ax Pm i:=rfl
theorem qep (t:Nat):Kp.mv t=(false):=rfl
theorem qeP:Tryz.f143.results.toList= [.tmp 2]:=rfl
def WQ:Code:=aU Tryz.f143
def Zc:Code:=(bE 0 (aU Tryz.f143)).getD .skip
theorem WJ:bE 0 WQ=some Zc:=rfl
def pT (p0:List Int) (p1:Int) (s:Int):St:=⟨[(0,.v (.sl 1 (ah xU p0))),(3,.I 0),(6,.v (.sl 1 (ah xU p0))),(7,.I p1),(8,.I s)],[]⟩
def sx (p0:List Int) (p1:Int) (r:Int⊕Unit):Option (Ex×St):=match r with
 | .inl r=>some (.ret,⟨[(2,.I r)],[]⟩)
 | .inr r=>some (.normal,⟨[(3,.I 0)],[]⟩)
theorem yO (C:aj)  (p0:List Int) (p1:Int) (p2:Int) (o:Int⊕(Int⊕Unit)) (hF:nI p0 p1 p2=some o):evW TT C.wide Kp WQ 0 (pT p0 p1 p2)=Sum.elim (fun s=>evW TT C.wide Kp WQ 0 (pT p0 p1 s)) (fun r=>sx p0 p1 r) o:=by
 rw [cG TT Kp WJ]
 revert hF
 unfold nI
 try dsimp only
 refine ip (fun h1=>az fun x1 h2=>?_) ?_
 have g1:decide (0<=p2)=true:=(cp h2).1
 have g2:(ah xU p0)[(p2:Int).toNat]? =some [.I x1]:=cn _ h2
 refine iv (fun h3=>?_) ?_
 all_goals (rintro⟨⟩;intros;show cN _ _ _ (aH _ _ _ _ (Code.seq _ _) _)=_;simp (maxSteps:=4000000) only [*,pT,sx,qgH,T9,Yc,Pm,qep,↓RP,RB,RC,↓ai,Nat.reduceBEq,List.map,bne,↓ao,↓am,↓aa,ty3,TB])
theorem Lc (C:aj)  (p0:List Int) (r:Int) (hF:sO p0=some r):cR TT C.wide (evW TT C.wide Kp WQ) Kp Tryz.f143.results.toList (aU Tryz.f143) [.v (.sl 1 (ah xU p0))] []=some (.I r,[]):=by
 revert hF
 unfold sO
 refine az ?_
 rintro (x1|_) h1
 focus
  dsimp only
  have g1:=cH _ _ (yO C p0 (p0.length:Int)) h1
  try simp only [pT,sx] at g1
 rotate_left 1
 dsimp only
 have g2:=cH _ _ (yO C p0 (p0.length:Int)) h1
 try simp only [pT,sx] at g2
 all_goals (rintro⟨⟩;rw [bk];show cC _ _ _ (aH _ _ _ _ (Code.seq _ _) _)=_;simp (maxSteps:=4000000) only [*,qeP,Yc,Pm,↓RP,RB,RC,Nat.reduceBEq,List.map,↓ao,↓aa,ty3,TB])
def Tf:List (Nat×List Nat):=[(0,[2,3]),(1,[4])]
def Og:cL where
 keep:=ax Tf
 ro:=fun t=>t==2||t==3
 mv:=fun _=>false
 give:=fun _=>false
 free:=fun i=>match i with|1=>[(0,2),(1,2),(0,3),(1,3),(0,5),(1,5),(2,5),(3,5),(4,5),(0,6),(1,6),(2,6),(3,6),(4,6),(0,7),(1,7),(2,7),(3,7),(4,7),(5,7),(6,7),(0,8),(1,8),(2,8),(3,8),(4,8),(5,8),(6,8)]|_=>[]
theorem qg0 (i:Nat):Og.keep i=ax Tf i:=rfl
theorem qei (t:Nat):Og.ro t=(t==2||t==3):=rfl
theorem qaR (t:Nat):Og.mv t=(false):=rfl
theorem qck:Og.free 1= [(0,2),(1,2),(0,3),(1,3),(0,5),(1,5),(2,5),(3,5),(4,5),(0,6),(1,6),(2,6),(3,6),(4,6),(0,7),(1,7),(2,7),(3,7),(4,7),(5,7),(6,7),(0,8),(1,8),(2,8),(3,8),(4,8),(5,8),(6,8)]:=rfl
theorem qdA:Tryz.f133.results.toList= [.tmp 4]:=rfl
def qlt:Code:=aU Tryz.f133
theorem Dq (C:aj) (BB:tC C) (ku:li C) (Kj:BF C) (p0:f5) (p1:f5) (r:Int) (hF:nX p0 p1=some r):cR TT C.wide (evW TT C.wide Og qlt) Og Tryz.f133.results.toList (aU Tryz.f133) [.agg (cGScore p0),.agg (cGScore p1)] []=some (.I r,[]):=by
 revert hF
 unfold nX
 have g1:=bK (BB p0.fN p1.fN _ (Bz p0.fN p1.fN))
 have g2:=bK (ku p0.i6 p1.i6 _ (tQ p0.i6 p1.i6))
 refine az fun x1 h1=>?_
 have g3:=bK (Kj [(mi p0.fN p1.fN),(kb p0.i6 p1.i6)] _ h1)
 all_goals (rintro⟨⟩;rw [bk];show cC _ _ _ (aH _ _ _ _ (Code.seq _ _) _)=_;simp (maxSteps:=4000000) only [*,cGScore,qdA,qg0,Tf,qck,qei,qaR,↓RP,RB,RC,Nat.reduceBEq,bP,List.map,Nat.reduceAdd,Nat.reduceMul,Nat.reduceLeDiff,bne,↓ao,↓aa,↓aq,ty3,ty9,ua,TB])
def PV:List (Nat×List Nat):=[(0,[0,1]),(1,[0,1,5]),(2,[0,1,5,9]),(3,[0,1,5]),(4,[0,1,5,23]),(5,[4]),(6,[4])]
def Sd:List (Nat×List Nat×List Nat):=[(9,[0,1,5],[]),(23,[],[0,1,5])]
def Er:cL where
 keep:=ax PV
 ro:=fun _=>false
 mv:=fun _=>false
 give:=fun _=>false
 free:=fun i=>match i with|4=>[(0,1),(0,2),(1,2),(0,3),(1,3),(0,4),(0,5),(0,6),(1,6),(2,6),(3,6),(4,6),(5,6),(0,7),(1,7),(2,7),(3,7),(4,7),(5,7),(6,7),(0,8),(1,8),(2,8),(3,8),(4,8),(5,8),(0,9),(1,9),(2,9),(3,9),(4,9),(5,9)]|_=>[]
 alive:=av Sd
theorem qfO (t:Nat) (x:Bool) (e:Env) (S:bH):cK Er t x ⟨e,S⟩=atO (av Sd t x) e S:=cF rfl t x e S
theorem YG (i:Nat):Er.keep i=ax PV i:=rfl
theorem qfg (t:Nat):Er.mv t=(false):=rfl
theorem qdW (t:Nat):Er.give t=(false):=rfl
theorem qeZ:Er.free 4= [(0,1),(0,2),(1,2),(0,3),(1,3),(0,4),(0,5),(0,6),(1,6),(2,6),(3,6),(4,6),(5,6),(0,7),(1,7),(2,7),(3,7),(4,7),(5,7),(6,7),(0,8),(1,8),(2,8),(3,8),(4,8),(5,8),(0,9),(1,9),(2,9),(3,9),(4,9),(5,9)]:=rfl
theorem qfe:Tryz.f132.results.toList= [.tmp 4]:=rfl
def Xa:Code:=aU Tryz.f132
def qbX:Code:=(bE 0 (aU Tryz.f132)).getD .skip
theorem Vv:bE 0 Xa=some qbX:=rfl
def js (p0:List f5) (s:Int):St:=⟨[(0,.v (.sl 2 (ah f5.row p0))),(1,.clo 133 []),(5,.I s)],[]⟩
def jI (p0:List f5) (r:Unit⊕Unit):Option (Ex×St):=match r with
 | .inl r=>some (.ret,⟨[(4,.v (.b false))],[]⟩)
 | .inr r=>some (.normal,⟨[],[]⟩)
theorem mo (C:aj) (sv:vn C) (p0:List f5) (p1:Int) (o:Int⊕(Unit⊕Unit)) (hF:ji p0 p1=some o):evW TT C.wide Er Xa 0 (js p0 p1)=Sum.elim (fun s=>evW TT C.wide Er Xa 0 (js p0 s)) (fun r=>jI p0 r) o:=by
 rw [cG TT Er Vv]
 revert hF
 unfold ji
 try dsimp only
 refine ip (fun h1=>az fun x1 h2=>?_) ?_
 have g1:decide (0<=(IntKind.i64.wrap (p1-1)))=true:=(cp h2).1
 have g2:(ah f5.row p0)[((IntKind.i64.wrap (p1-1)):Int).toNat]? =some (rGScore x1):=cn _ h2
 refine az fun x2 h3=>?_
 have g3:decide (0<=p1)=true:=(cp h3).1
 have g4:(ah f5.row p0)[(p1:Int).toNat]? =some (rGScore x2):=cn _ h3
 refine az fun x3 h4=>?_
 have g5:=bK (sv x1 x2 _ h4)
 refine iv (fun h5=>?_) ?_
 all_goals (rintro⟨⟩;intros;show cN _ _ _ (aH _ _ _ _ (Code.seq _ _) _)=_;simp (maxSteps:=4000000) only [*,rGScore,js,jI,qfO,Sd,YG,PV,qeZ,qfg,qdW,↓RP,RB,RC,↓ai,Nat.reduceBEq,List.map,Nat.reduceAdd,List.foldl_cons,List.foldl_nil,List.filter_nil,↓ao,↓am,↓aa,↓aq,ty3,ty4,oN,ua])
theorem sS (C:aj) (sv:vn C) (p0:List f5) (r:Bool) (hF:jj p0=some r):cR TT C.wide (evW TT C.wide Er Xa) Er Tryz.f132.results.toList (aU Tryz.f132) [.v (.sl 2 (ah f5.row p0)),.clo 133 []] []=some (.v (.b r),[]):=by
 revert hF
 unfold jj
 refine az ?_
 rintro (_|_) h1
 focus
  dsimp only
  have g1:=cH _ _ (mo C sv p0) h1
  try simp only [js,jI] at g1
 rotate_left 1
 dsimp only
 have g2:=cH _ _ (mo C sv p0) h1
 try simp only [js,jI] at g2
 all_goals (rintro⟨⟩;rw [bk];show cC _ _ _ (aH _ _ _ _ (Code.seq _ _) _)=_;simp (maxSteps:=4000000) only [*,qfe,YG,PV,↓RP,RB,RC,Nat.reduceBEq,List.map,Nat.reduceAdd,↓ao,↓aa,ty3,ty4])
def PY:List (Nat×List Nat):=[(0,[0,1]),(1,[0,1,5]),(2,[0,1,5,9]),(3,[0,1,5]),(4,[0,1,5,23]),(5,[4]),(6,[4])]
def Sl:List (Nat×List Nat×List Nat):=[(9,[0,1,5],[]),(23,[],[0,1,5])]
def Fs:cL where
 keep:=ax PY
 ro:=fun _=>false
 mv:=fun _=>false
 give:=fun _=>false
 free:=fun i=>match i with|4=>[(0,1),(0,2),(1,2),(0,3),(1,3),(0,4),(0,5),(0,6),(1,6),(2,6),(3,6),(4,6),(5,6),(0,7),(1,7),(2,7),(3,7),(4,7),(5,7),(6,7),(0,8),(1,8),(2,8),(3,8),(4,8),(5,8),(0,9),(1,9),(2,9),(3,9),(4,9),(5,9)]|_=>[]
 alive:=av Sl
theorem qkr (t:Nat) (x:Bool) (e:Env) (S:bH):cK Fs t x ⟨e,S⟩=atO (av Sl t x) e S:=cF rfl t x e S
theorem Yk (i:Nat):Fs.keep i=ax PY i:=rfl
theorem qcZ (t:Nat):Fs.mv t=(false):=rfl
theorem qcB (t:Nat):Fs.give t=(false):=rfl
theorem Z2:Fs.free 4= [(0,1),(0,2),(1,2),(0,3),(1,3),(0,4),(0,5),(0,6),(1,6),(2,6),(3,6),(4,6),(5,6),(0,7),(1,7),(2,7),(3,7),(4,7),(5,7),(6,7),(0,8),(1,8),(2,8),(3,8),(4,8),(5,8),(0,9),(1,9),(2,9),(3,9),(4,9),(5,9)]:=rfl
theorem qdv:Tryz.f134.results.toList= [.tmp 4]:=rfl
def Xu:Code:=aU Tryz.f134
def qay:Code:=(bE 0 (aU Tryz.f134)).getD .skip
theorem Wn:bE 0 Xu=some qay:=rfl
def jp (p0:List ByteArray) (s:Int):St:=⟨[(0,.v (.sl 1 (ah bY p0))),(1,.clo 135 []),(5,.I s)],[]⟩
def jB (p0:List ByteArray) (r:Unit⊕Unit):Option (Ex×St):=match r with
 | .inl r=>some (.ret,⟨[(4,.v (.b false))],[]⟩)
 | .inr r=>some (.normal,⟨[],[]⟩)
theorem lH (C:aj) (ku:li C) (p0:List ByteArray) (p1:Int) (o:Int⊕(Unit⊕Unit)) (hF:i9 p0 p1=some o):evW TT C.wide Fs Xu 0 (jp p0 p1)=Sum.elim (fun s=>evW TT C.wide Fs Xu 0 (jp p0 s)) (fun r=>jB p0 r) o:=by
 rw [cG TT Fs Wn]
 revert hF
 unfold i9
 try dsimp only
 refine ip (fun h1=>az fun x1 h2=>?_) ?_
 have g1:decide (0<=(IntKind.i64.wrap (p1-1)))=true:=(cp h2).1
 have g2:(ah bY p0)[((IntKind.i64.wrap (p1-1)):Int).toNat]? =some [.s x1]:=cn _ h2
 refine az fun x2 h3=>?_
 have g3:decide (0<=p1)=true:=(cp h3).1
 have g4:(ah bY p0)[(p1:Int).toNat]? =some [.s x2]:=cn _ h3
 have g5:=bK (ku x1 x2 _ (tQ x1 x2))
 refine iv (fun h4=>?_) ?_
 all_goals (rintro⟨⟩;intros;show cN _ _ _ (aH _ _ _ _ (Code.seq _ _) _)=_;simp (maxSteps:=4000000) only [*,jp,jB,qkr,Sl,Yk,PY,Z2,qcZ,qcB,↓RP,RB,RC,↓ai,Nat.reduceBEq,List.map,List.foldl_cons,List.foldl_nil,List.filter_nil,↓ao,↓am,↓aa,↓aq,ty3,ty4,ty9,mJ])
theorem rP (C:aj) (ku:li C) (p0:List ByteArray) (r:Bool) (hF:jd p0=some r):cR TT C.wide (evW TT C.wide Fs Xu) Fs Tryz.f134.results.toList (aU Tryz.f134) [.v (.sl 1 (ah bY p0)),.clo 135 []] []=some (.v (.b r),[]):=by
 revert hF
 unfold jd
 refine az ?_
 rintro (_|_) h1
 focus
  dsimp only
  have g1:=cH _ _ (lH C ku p0) h1
  try simp only [jp,jB] at g1
 rotate_left 1
 dsimp only
 have g2:=cH _ _ (lH C ku p0) h1
 try simp only [jp,jB] at g2
 all_goals (rintro⟨⟩;rw [bk];show cC _ _ _ (aH _ _ _ _ (Code.seq _ _) _)=_;simp (maxSteps:=4000000) only [*,qdv,Yk,PY,↓RP,RB,RC,Nat.reduceBEq,List.map,Nat.reduceAdd,↓ao,↓aa,ty3,ty4])
def Sv:List (Nat×List Nat):=[(0,[1,2]),(1,[3])]
def Q9:cL where
 keep:=ax Sv
 ro:=fun t=>t==2
 mv:=fun _=>false
 give:=fun _=>false
 free:=fun _=>[]
theorem qiv (i:Nat):Q9.keep i=ax Sv i:=rfl
theorem qeI (t:Nat):Q9.ro t=(t==2):=rfl
theorem Zd (t:Nat):Q9.mv t=(false):=rfl
theorem qex:Tryz.f146.results.toList= [.tmp 3]:=rfl
def qmP:Code:=aU Tryz.f146
theorem BR (C:aj)  (p0:f5) (p1:ByteArray) (r:Bool×ByteArray) (hF:pm p0 p1=some r):cR TT C.wide (evW TT C.wide Q9 qmP) Q9 Tryz.f146.results.toList (aU Tryz.f146) [.agg (cGScore p0),.ptr 0 0] [[.v (.s p1)]]=some (.v (.b r.1),[[.v (.s r.2)]]):=by
 revert hF
 unfold pm
 all_goals (rintro⟨⟩;rw [bk];show cC _ _ _ (aH _ _ _ _ (Code.seq _ _) _)=_;simp (maxSteps:=4000000) only [*,cGScore,qex,qiv,Sv,qeI,Zd,↓RP,RB,RC,Nat.reduceBEq,bP,List.map,Nat.reduceAdd,↓ao,↓aa,ty4,ty9,ua])
def lc (p0:List f5) (p1:Int) (s:Int×ByteArray):St:=⟨[(0,.v (.sl 2 (ah f5.row p0))),(1,.clo 146 [.ptr 0 0]),(7,.I p1),(8,.I s.1)],[[.v (.s s.2)]]⟩
def mG (p0:List f5) (p1:Int) (r:(Int×ByteArray)⊕ByteArray):Option (Ex×St):=match r with
 | .inl r=>some (.ret,⟨[(4,.I r.1)],[[.v (.s r.2)]]⟩)
 | .inr r=>some (.normal,⟨[],[[.v (.s r)]]⟩)
theorem tw (C:aj) (ru:uE C) (p0:List f5) (p1:Int) (s:Int×ByteArray) (o:(Int×ByteArray)⊕((Int×ByteArray)⊕ByteArray)) (hF:ko p0 p1 s=some o):evW TT C.wide wD GH 0 (lc p0 p1 s)=Sum.elim (fun s=>evW TT C.wide wD GH 0 (lc p0 p1 s)) (fun r=>mG p0 p1 r) o:=by
 obtain⟨p2,p3⟩:=s
 rw [cG TT wD Kv]
 revert hF
 unfold ko
 try dsimp only
 refine ip (fun h1=>az fun x1 h2=>?_) ?_
 have g1:decide (0<=p2)=true:=(cp h2).1
 have g2:(ah f5.row p0)[(p2:Int).toNat]? =some (rGScore x1):=cn _ h2
 refine az ?_
 rintro⟨x2,x3⟩ h3
 dsimp only
 have g3:C.wide 146 [.agg (cGScore x1),.ptr 0 0] [[.v (.s p3)]]=some (.v (.b x2),[[.v (.s x3)]]):=cX [0] rfl rfl rfl rfl (ru x1 p3 _ h3) rfl rfl
 refine iv (fun h4=>?_) ?_
 all_goals (rintro⟨⟩;intros;show cN _ _ _ (aH _ _ _ _ (Code.seq _ _) _)=_;simp (maxSteps:=4000000) only [*,rGScore,lc,mG,SP,Nb,Iy,C4,Nw,NN,↓RP,RB,RC,↓ai,Nat.reduceBEq,List.map,Nat.reduceAdd,↓ao,↓am,↓aa,ty3,oN,ua])
theorem Al (C:aj) (ru:uE C) (p0:List f5) (p1:ByteArray) (r:Int×ByteArray) (hF:mq p0 p1=some r):cR TT C.wide (evW TT C.wide wD GH) wD Tryz.f142.results.toList (aU Tryz.f142) [.v (.sl 2 (ah f5.row p0)),.clo 146 [.ptr 0 0]] [[.v (.s p1)]]=some (.I r.1,[[.v (.s r.2)]]):=by
 revert hF
 unfold mq
 refine az ?_
 rintro (⟨x1,x2⟩|x1) h1
 focus
  dsimp only
  have g1:=cH _ _ (tw C ru p0 (p0.length:Int)) h1
  try simp only [lc,mG] at g1
 rotate_left 1
 dsimp only
 have g2:=cH _ _ (tw C ru p0 (p0.length:Int)) h1
 try simp only [lc,mG] at g2
 all_goals (rintro⟨⟩;rw [bk];show cC _ _ _ (aH _ _ _ _ (Code.seq _ _) _)=_;simp (maxSteps:=4000000) only [*,Oh,Iy,C4,↓RP,RB,RC,Nat.reduceBEq,List.map,Nat.reduceAdd,Int.reduceNeg,↓ao,↓aa,ty3,oN])
def UZ:List (Nat×List Nat):=[(0,[0,3]),(1,[4])]
def QZ:cL where
 keep:=ax UZ
 ro:=fun _=>false
 mv:=fun _=>false
 give:=fun _=>false
 free:=fun _=>[]
theorem qjf (i:Nat):QZ.keep i=ax UZ i:=rfl
theorem qb5 (t:Nat):QZ.ro t=(false):=rfl
theorem qdG (t:Nat):QZ.give t=(false):=rfl
theorem ZT:Tryz.f136.results.toList= [.tmp 4]:=rfl
def qmf:Code:=aU Tryz.f136
theorem KV (C:aj) (Aq:vI C) (p0:List f5) (p1:ByteArray) (r:Int) (hF:sK p0 p1=some r):cR TT C.wide (evW TT C.wide QZ qmf) QZ Tryz.f136.results.toList (aU Tryz.f136) [.v (.sl 2 (ah f5.row p0)),.v (.s p1)] []=some (.I r,[]):=by
 revert hF
 unfold sK
 refine az ?_
 rintro⟨x1,x2⟩ h1
 dsimp only
 have g1:C.wide 142 [.v (.sl 2 (ah f5.row p0)),.clo 146 [.ptr 0 0]] [[.v (.s p1)]]=some (.I x1,[[.v (.s x2)]]):=cX [0] rfl rfl rfl rfl (Aq p0 p1 _ h1) rfl rfl
 all_goals (rintro⟨⟩;rw [bk];show cC _ _ _ (aH _ _ _ _ (Code.seq _ _) _)=_;simp (maxSteps:=4000000) only [*,ZT,qjf,UZ,qb5,qdG,↓RP,RB,RC,Nat.reduceBEq,List.map,Nat.reduceAdd,↓ao,↓aa,ty3,ty9])
end Go.Proofs.YtgcglmoogaldbaaGreat
