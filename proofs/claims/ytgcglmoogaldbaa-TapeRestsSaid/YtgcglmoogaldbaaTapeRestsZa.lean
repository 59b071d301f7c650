/- The code of these functions, run by the machine Mx, gives what the plain functions say, if their callees do (part 1). -/
import Derived.Test.YtgcglmoogaldbaaWTy
import Derived.Test.YtgcglmoogaldbaaTapeRestsD
set_option linter.unusedSimpArgs false
set_option linter.unusedVariables false
set_option linter.constructorNameAsVariable false
set_option linter.unnecessarySimpa false
set_option maxRecDepth 100000
set_option maxHeartbeats 40000000
namespace Go.Proofs.Ytgcglmoogaldbaa
open Go Go.Mx Go.Proofs
def n15K:List (Nat×List Nat):=[(0,[1,2]),(1,[1,2,3]),(2,[1,2,3,4]),(3,[1,2,3,4,14]),(4,[1,2,3,4]),(5,[1,2,3,4]),(6,[2])]
def n15A:List (Nat×List Nat×List Nat):=[(14,[1,2,3,4],[2,3])]
def n15:cL where
 keep:=ax n15K
 ro:=fun t=>t==1
 mv:=fun t=>t==27
 give:=fun _=>false
 free:=fun i=>match i with|5=>[(0,2),(1,2),(0,3),(1,3),(0,4),(1,4),(2,4),(3,4),(0,5),(1,5),(0,6),(1,6),(0,7),(1,7)]|_=>[]
 alive:=av n15A
theorem n15a (t:Nat) (x:Bool) (e:Env) (S:bH):cK n15 t x ⟨e,S⟩=atO (av n15A t x) e S:=cF rfl t x e S
theorem n15k (i:Nat):n15.keep i=ax n15K i:=rfl
theorem n15ro (t:Nat):n15.ro t=(t==1):=rfl
theorem n15mv (t:Nat):n15.mv t=(t==27):=rfl
theorem n15f5:n15.free 5= [(0,2),(1,2),(0,3),(1,3),(0,4),(1,4),(2,4),(3,4),(0,5),(1,5),(0,6),(1,6),(0,7),(1,7)]:=rfl
theorem res15:Try.f15.results.toList= [.cell 2 50]:=rfl
noncomputable def b15:Code:=aU Try.f15
noncomputable def c15_0:Code:=(bE 0 (aU Try.f15)).getD .skip
theorem fl15_0:bE 0 b15=some c15_0:=rfl
def hd_rrLogCopy_z_0 (p0:GLog) (s:Int×GLog):St:=⟨[(1,.rp [.i .i64 p0.fBase,.i .i64 p0.fBaseTerm,.sl 10 (ah GItem.row p0.fItems)]),(2,.ptr 0 0),(3,.ptr 1 0),(4,.v (.i .i64 s.1))],[[.v (.i .i64 0),.v (.i .i64 0),.own 10 []],[.v (.i .i64 s.2.fBase),.v (.i .i64 s.2.fBaseTerm),.own 10 (ah GItem.row s.2.fItems)]]⟩
def ou_rrLogCopy_z_0 (p0:GLog) (r:GLog):Option (Ex×St):=some (.normal,⟨[(2,.ptr 0 0),(3,.ptr 1 0)],[[.v (.i .i64 0),.v (.i .i64 0),.own 10 []],[.v (.i .i64 r.fBase),.v (.i .i64 r.fBaseTerm),.own 10 (ah GItem.row r.fItems)]]⟩)
theorem sl_rrLogCopy_z_0 (C:aj)  (p0:GLog) (s:Int×GLog) (o:(Int×GLog)⊕GLog) (hF:st_rrLogCopy_z_0 p0 s=some o):evW TT C.wide n15 b15 0 (hd_rrLogCopy_z_0 p0 s)=Sum.elim (fun s=>evW TT C.wide n15 b15 0 (hd_rrLogCopy_z_0 p0 s)) (fun r=>ou_rrLogCopy_z_0 p0 r) o:=by
 obtain⟨p1,p2⟩:=s
 rw [cG TT n15 fl15_0]
 revert hF
 unfold st_rrLogCopy_z_0
 try dsimp only
 refine bF (fun h1=>?_) (fun h1=>?_)
 rotate_left 1
 refine az fun x1 h2=>?_
 have g1:decide (0≤p1)=true:=(cp h2).1
 have g2:(ah GItem.row p0.fItems)[(p1:Int).toNat]? =some [.i .i64 x1.fTerm,.i .i64 x1.fTime,.b x1.fNop,.i .i64 x1.fCall.fClient,.i .i64 x1.fCall.fSeq,.i .i64 x1.fCall.fCommand.fKind,.s x1.fCall.fCommand.fKey,.s x1.fCall.fCommand.fField,.s x1.fCall.fCommand.fText,.i .i64 x1.fCall.fCommand.fN]:=cn _ h2
 refine aX (fun h3=>?_) (fun _=>nofun)
 all_goals (rintro⟨⟩;show cN _ _ _ (aH _ _ _ _ (Code.seq _ _) _)=_;simp (maxSteps:=4000000) only [*,hd_rrLogCopy_z_0,ou_rrLogCopy_z_0,n15a,n15A,n15k,n15K,n15f5,n15mv,↓RP,RB,↓ab,be,bf,aJ,Mx.bl,opnd,Mx.bI,Nat.reduceBEq,bQ,Mx.fit,co,toVs,cellsOf,toV,aN,aA,ay,Mx.put,ofConst,ofCell,Mx.prune,killB,killBs,aK,putDst,aw,aE,loadAt,bT,List.map,Nat.reduceAdd,Nat.reduceMul,cz,cB,cu,aO,bJ,aM,bD,lowC,bj,kill,spendLoc,spendOk,bG,setCells,takeParts,bv,aR,Nat.reduceSub,Nat.reduceLeDiff,bM,cd,au,aI,aY,cm,bL,cv,ch,bo,aL,bm,bp,bd,Op.operands,ax,av,atO,cy,cx,bne,↓ao,↓am,↓aa,↓aq,br,aF,bN,ty3,ty40,ty48,ty50,GItem.one])
theorem r_rrLogCopy_z (C:aj)  (p0:GLog) (r:GLog) (hF:rrLogCopy_z p0=some r): ∃d S,cR TT C.wide (evW TT C.wide n15 b15) n15 Try.f15.results.toList (aU Try.f15) [.agg [.v (.i .i64 p0.fBase),.v (.i .i64 p0.fBaseTerm),.v (.sl 10 (ah GItem.row p0.fItems))]] []=some (d,S)∧bD d=true∧(frz d,S)=(.agg [.v (.i .i64 r.fBase),.v (.i .i64 r.fBaseTerm),.v (.sl 10 (ah GItem.row r.fItems))],[]):=by
 revert hF
 unfold rrLogCopy_z
 refine az ?_
 rintro x1 h1
 have g1:=cH _ _ (sl_rrLogCopy_z_0 C p0) h1
 try simp only [ak,hd_rrLogCopy_z_0,ou_rrLogCopy_z_0] at g1
 intro hF
 have hR:=Option.some.inj hF
 clear hF
 subst hR
 refine⟨.agg [.v (.i .i64 x1.fBase),.v (.i .i64 x1.fBaseTerm),.own 10 (ah GItem.row x1.fItems)],[],?_,rfl,by first|rfl|(simp only [*];done)|(simp only [*];rfl)⟩
 all_goals (rw [bk];show cC _ _ _ (aH _ _ _ _ (Code.seq _ _) _)=_;simp (maxSteps:=4000000) only [*,res15,n15k,n15K,n15ro,n15mv,↓RP,RB,enter,be,bf,aJ,Mx.bl,opnd,Mx.bI,Nat.reduceBEq,bQ,Mx.fit,bP,co,toVs,cellsOf,toV,aN,aA,ay,Mx.put,ofConst,ofCell,Mx.prune,killB,killBs,aK,putDst,aw,aE,loadAt,bT,List.map,Nat.reduceAdd,aC,bu,bx,cA,bS,bJ,aM,bD,lowC,kill,bG,ce,fill,setCells,takeParts,Nat.reduceLeDiff,ax,bne,↓ao,↓aa,ty3,ty48,ty50])
def n102K:List (Nat×List Nat):=[(0,[1,2]),(1,[1,2,3]),(2,[1,2,3,4]),(3,[1,2,3,4,18]),(4,[1,2,3,4]),(5,[1,2,3,4]),(6,[1,2,3,5]),(7,[1,2,3,5,35]),(8,[1,2,3,5]),(9,[1,2,3,5]),(10,[1,2,3,6]),(11,[1,2,3,6,52]),(12,[1,2,3,6]),(13,[1,2,3,6]),(14,[2])]
def n102A:List (Nat×List Nat×List Nat):=[(18,[1,2,3,4],[1,2,3]),(35,[1,2,3,5],[1,2,3]),(52,[1,2,3,6],[2,3])]
def n102:cL where
 keep:=ax n102K
 ro:=fun t=>t==1
 mv:=fun t=>t==65
 give:=fun _=>false
 free:=fun i=>match i with|5=>[(0,2),(1,2),(0,3),(1,3),(0,4),(1,4),(2,4),(3,4),(0,5),(1,5),(0,6),(1,6),(0,7),(1,7)]|9=>[(0,2),(1,2),(0,3),(1,3),(0,4),(1,4),(2,4),(3,4),(0,5),(1,5),(0,6),(1,6),(0,7),(1,7)]|13=>[(0,2),(1,2),(0,3),(1,3),(0,4),(1,4),(2,4),(3,4),(0,5),(1,5),(0,6),(1,6),(0,7),(1,7)]|_=>[]
 alive:=av n102A
theorem n102a (t:Nat) (x:Bool) (e:Env) (S:bH):cK n102 t x ⟨e,S⟩=atO (av n102A t x) e S:=cF rfl t x e S
theorem n102k (i:Nat):n102.keep i=ax n102K i:=rfl
theorem n102ro (t:Nat):n102.ro t=(t==1):=rfl
theorem n102mv (t:Nat):n102.mv t=(t==65):=rfl
theorem n102f5:n102.free 5= [(0,2),(1,2),(0,3),(1,3),(0,4),(1,4),(2,4),(3,4),(0,5),(1,5),(0,6),(1,6),(0,7),(1,7)]:=rfl
theorem n102f9:n102.free 9= [(0,2),(1,2),(0,3),(1,3),(0,4),(1,4),(2,4),(3,4),(0,5),(1,5),(0,6),(1,6),(0,7),(1,7)]:=rfl
theorem n102f13:n102.free 13= [(0,2),(1,2),(0,3),(1,3),(0,4),(1,4),(2,4),(3,4),(0,5),(1,5),(0,6),(1,6),(0,7),(1,7)]:=rfl
theorem res102:Try.f102.results.toList= [.cell 2 74]:=rfl
noncomputable def b102:Code:=aU Try.f102
noncomputable def c102_0:Code:=(bE 0 (aU Try.f102)).getD .skip
theorem fl102_0:bE 0 b102=some c102_0:=rfl
noncomputable def c102_2:Code:=(bE 2 (aU Try.f102)).getD .skip
theorem fl102_2:bE 2 b102=some c102_2:=rfl
noncomputable def c102_4:Code:=(bE 4 (aU Try.f102)).getD .skip
theorem fl102_4:bE 4 b102=some c102_4:=rfl
def hd_rrValueCopy_0 (p0:GValue) (s:Int×GValue):St:=⟨[(1,.rp [.i .i64 p0.fKind,.s p0.fText,.i .i64 p0.fCount,.sl 2 (ah GPair.row p0.fPairs),.sl 1 (ah bY p0.fItems),.sl 2 (ah GScore.row p0.fScores)]),(2,.ptr 0 0),(3,.ptr 1 0),(4,.v (.i .i64 s.1))],[[.v (.i .i64 0),.v (.s ByteArray.empty),.v (.i .i64 0),.own 2 [],.own 1 [],.own 2 []],[.v (.i .i64 s.2.fKind),.v (.s s.2.fText),.v (.i .i64 s.2.fCount),.own 2 (ah GPair.row s.2.fPairs),.own 1 (ah bY s.2.fItems),.own 2 (ah GScore.row s.2.fScores)]]⟩
def ou_rrValueCopy_0 (p0:GValue) (r:GValue):Option (Ex×St):=some (.normal,⟨[(1,.rp [.i .i64 p0.fKind,.s p0.fText,.i .i64 p0.fCount,.sl 2 (ah GPair.row p0.fPairs),.sl 1 (ah bY p0.fItems),.sl 2 (ah GScore.row p0.fScores)]),(2,.ptr 0 0),(3,.ptr 1 0)],[[.v (.i .i64 0),.v (.s ByteArray.empty),.v (.i .i64 0),.own 2 [],.own 1 [],.own 2 []],[.v (.i .i64 r.fKind),.v (.s r.fText),.v (.i .i64 r.fCount),.own 2 (ah GPair.row r.fPairs),.own 1 (ah bY r.fItems),.own 2 (ah GScore.row r.fScores)]]⟩)
theorem sl_rrValueCopy_0 (C:aj)  (p0:GValue) (s:Int×GValue) (o:(Int×GValue)⊕GValue) (hF:st_rrValueCopy_0 p0 s=some o):evW TT C.wide n102 b102 0 (hd_rrValueCopy_0 p0 s)=Sum.elim (fun s=>evW TT C.wide n102 b102 0 (hd_rrValueCopy_0 p0 s)) (fun r=>ou_rrValueCopy_0 p0 r) o:=by
 obtain⟨p1,p2⟩:=s
 rw [cG TT n102 fl102_0]
 revert hF
 unfold st_rrValueCopy_0
 try dsimp only
 refine bF (fun h1=>?_) (fun h1=>?_)
 rotate_left 1
 refine az fun x1 h2=>?_
 have g1:decide (0≤p1)=true:=(cp h2).1
 have g2:(ah GPair.row p0.fPairs)[(p1:Int).toNat]? =some [.s x1.fField,.s x1.fText]:=cn _ h2
 refine aX (fun h3=>?_) (fun _=>nofun)
 all_goals (rintro⟨⟩;show cN _ _ _ (aH _ _ _ _ (Code.seq _ _) _)=_;simp (maxSteps:=4000000) only [*,hd_rrValueCopy_0,ou_rrValueCopy_0,n102a,n102A,n102k,n102K,n102f5,n102mv,↓RP,RB,↓ab,be,bf,aJ,Mx.bl,opnd,Mx.bI,Nat.reduceBEq,bQ,Mx.fit,co,toVs,cellsOf,toV,aN,aA,ay,Mx.put,ofConst,ofCell,Mx.prune,killB,killBs,aK,putDst,aw,aE,loadAt,bT,List.map,Nat.reduceAdd,Nat.reduceMul,cz,cB,cu,aO,bJ,aM,bD,lowC,bj,kill,spendLoc,spendOk,bG,setCells,takeParts,bv,aR,Nat.reduceSub,Nat.reduceLeDiff,bM,cd,au,aI,aY,cm,bL,cv,ch,bo,aL,bm,bp,bd,Op.operands,ax,av,atO,cy,cx,bne,↓ao,↓am,↓aa,↓aq,br,aF,bN,ty3,ty70,ty74,ty110,GPair.one])
def hd_rrValueCopy_2 (p0:GValue) (s:Int×GValue):St:=⟨[(1,.rp [.i .i64 p0.fKind,.s p0.fText,.i .i64 p0.fCount,.sl 2 (ah GPair.row p0.fPairs),.sl 1 (ah bY p0.fItems),.sl 2 (ah GScore.row p0.fScores)]),(2,.ptr 0 0),(3,.ptr 1 0),(5,.v (.i .i64 s.1))],[[.v (.i .i64 0),.v (.s ByteArray.empty),.v (.i .i64 0),.own 2 [],.own 1 [],.own 2 []],[.v (.i .i64 s.2.fKind),.v (.s s.2.fText),.v (.i .i64 s.2.fCount),.own 2 (ah GPair.row s.2.fPairs),.own 1 (ah bY s.2.fItems),.own 2 (ah GScore.row s.2.fScores)]]⟩
def ou_rrValueCopy_2 (p0:GValue) (r:GValue):Option (Ex×St):=some (.normal,⟨[(1,.rp [.i .i64 p0.fKind,.s p0.fText,.i .i64 p0.fCount,.sl 2 (ah GPair.row p0.fPairs),.sl 1 (ah bY p0.fItems),.sl 2 (ah GScore.row p0.fScores)]),(2,.ptr 0 0),(3,.ptr 1 0)],[[.v (.i .i64 0),.v (.s ByteArray.empty),.v (.i .i64 0),.own 2 [],.own 1 [],.own 2 []],[.v (.i .i64 r.fKind),.v (.s r.fText),.v (.i .i64 r.fCount),.own 2 (ah GPair.row r.fPairs),.own 1 (ah bY r.fItems),.own 2 (ah GScore.row r.fScores)]]⟩)
theorem sl_rrValueCopy_2 (C:aj)  (p0:GValue) (s:Int×GValue) (o:(Int×GValue)⊕GValue) (hF:st_rrValueCopy_2 p0 s=some o):evW TT C.wide n102 b102 2 (hd_rrValueCopy_2 p0 s)=Sum.elim (fun s=>evW TT C.wide n102 b102 2 (hd_rrValueCopy_2 p0 s)) (fun r=>ou_rrValueCopy_2 p0 r) o:=by
 obtain⟨p1,p2⟩:=s
 rw [cG TT n102 fl102_2]
 revert hF
 unfold st_rrValueCopy_2
 try dsimp only
 refine bF (fun h1=>?_) (fun h1=>?_)
 rotate_left 1
 refine az fun x1 h2=>?_
 have g1:decide (0≤p1)=true:=(cp h2).1
 have g2:(ah bY p0.fItems)[(p1:Int).toNat]? =some [.s x1]:=cn _ h2
 refine aX (fun h3=>?_) (fun _=>nofun)
 all_goals (rintro⟨⟩;show cN _ _ _ (aH _ _ _ _ (Code.seq _ _) _)=_;simp (maxSteps:=4000000) only [*,hd_rrValueCopy_2,ou_rrValueCopy_2,n102a,n102A,n102k,n102K,n102f9,n102mv,↓RP,RB,↓ab,be,bf,aJ,Mx.bl,opnd,Mx.bI,Nat.reduceBEq,bQ,Mx.fit,co,toVs,cellsOf,toV,aN,aA,ay,Mx.put,ofConst,ofCell,Mx.prune,killB,aK,putDst,aw,aE,loadAt,bT,List.map,Nat.reduceAdd,Nat.reduceMul,cz,cB,cu,aO,bJ,aM,bD,lowC,bj,kill,spendLoc,spendOk,bG,setCells,takeParts,bv,aR,Nat.reduceSub,Nat.reduceLeDiff,bM,cd,au,aI,aY,cm,bL,cv,ch,bo,aL,bm,bp,bd,Op.operands,ax,av,atO,cy,cx,bne,↓ao,↓am,↓aa,↓aq,br,aF,bN,ty3,ty9,ty71,ty74])
def hd_rrValueCopy_4 (p0:GValue) (s:Int×GValue):St:=⟨[(1,.rp [.i .i64 p0.fKind,.s p0.fText,.i .i64 p0.fCount,.sl 2 (ah GPair.row p0.fPairs),.sl 1 (ah bY p0.fItems),.sl 2 (ah GScore.row p0.fScores)]),(2,.ptr 0 0),(3,.ptr 1 0),(6,.v (.i .i64 s.1))],[[.v (.i .i64 0),.v (.s ByteArray.empty),.v (.i .i64 0),.own 2 [],.own 1 [],.own 2 []],[.v (.i .i64 s.2.fKind),.v (.s s.2.fText),.v (.i .i64 s.2.fCount),.own 2 (ah GPair.row s.2.fPairs),.own 1 (ah bY s.2.fItems),.own 2 (ah GScore.row s.2.fScores)]]⟩
def ou_rrValueCopy_4 (p0:GValue) (r:GValue):Option (Ex×St):=some (.normal,⟨[(2,.ptr 0 0),(3,.ptr 1 0)],[[.v (.i .i64 0),.v (.s ByteArray.empty),.v (.i .i64 0),.own 2 [],.own 1 [],.own 2 []],[.v (.i .i64 r.fKind),.v (.s r.fText),.v (.i .i64 r.fCount),.own 2 (ah GPair.row r.fPairs),.own 1 (ah bY r.fItems),.own 2 (ah GScore.row r.fScores)]]⟩)
theorem sl_rrValueCopy_4 (C:aj)  (p0:GValue) (s:Int×GValue) (o:(Int×GValue)⊕GValue) (hF:st_rrValueCopy_4 p0 s=some o):evW TT C.wide n102 b102 4 (hd_rrValueCopy_4 p0 s)=Sum.elim (fun s=>evW TT C.wide n102 b102 4 (hd_rrValueCopy_4 p0 s)) (fun r=>ou_rrValueCopy_4 p0 r) o:=by
 obtain⟨p1,p2⟩:=s
 rw [cG TT n102 fl102_4]
 revert hF
 unfold st_rrValueCopy_4
 try dsimp only
 refine bF (fun h1=>?_) (fun h1=>?_)
 rotate_left 1
 refine az fun x1 h2=>?_
 have g1:decide (0≤p1)=true:=(cp h2).1
 have g2:(ah GScore.row p0.fScores)[(p1:Int).toNat]? =some [.s x1.fMember,.i .i64 x1.fN]:=cn _ h2
 refine aX (fun h3=>?_) (fun _=>nofun)
 all_goals (rintro⟨⟩;show cN _ _ _ (aH _ _ _ _ (Code.seq _ _) _)=_;simp (maxSteps:=4000000) only [*,hd_rrValueCopy_4,ou_rrValueCopy_4,n102a,n102A,n102k,n102K,n102f13,n102mv,↓RP,RB,↓ab,be,bf,aJ,Mx.bl,opnd,Mx.bI,Nat.reduceBEq,bQ,Mx.fit,co,toVs,cellsOf,toV,aN,aA,ay,Mx.put,ofConst,ofCell,Mx.prune,killB,killBs,aK,putDst,aw,aE,loadAt,bT,List.map,Nat.reduceAdd,Nat.reduceMul,cz,cB,cu,aO,bJ,aM,bD,lowC,bj,kill,spendLoc,spendOk,bG,setCells,takeParts,bv,aR,Nat.reduceSub,Nat.reduceLeDiff,bM,cd,au,aI,aY,cm,bL,cv,ch,bo,aL,bm,bp,bd,Op.operands,ax,av,atO,cy,cx,bne,↓ao,↓am,↓aa,↓aq,br,aF,bN,ty3,ty72,ty74,ty112,GScore.one])
theorem r_rrValueCopy (C:aj)  (p0:GValue) (r:GValue) (hF:rrValueCopy p0=some r):cR TT C.wide (evW TT C.wide n102 b102) n102 Try.f102.results.toList (aU Try.f102) [.agg [.v (.i .i64 p0.fKind),.v (.s p0.fText),.v (.i .i64 p0.fCount),.v (.sl 2 (ah GPair.row p0.fPairs)),.v (.sl 1 (ah bY p0.fItems)),.v (.sl 2 (ah GScore.row p0.fScores))]] []=some (.agg [.v (.i .i64 r.fKind),.v (.s r.fText),.v (.i .i64 r.fCount),.own 2 (ah GPair.row r.fPairs),.own 1 (ah bY r.fItems),.own 2 (ah GScore.row r.fScores)],[]):=by
 revert hF
 unfold rrValueCopy
 refine az ?_
 rintro x1 h1
 unfold rrValueCopy_c0
 have g1:=cH _ _ (sl_rrValueCopy_0 C p0) h1
 try simp only [ak,hd_rrValueCopy_0,ou_rrValueCopy_0] at g1
 refine az ?_
 rintro x2 h2
 have g2:=cH _ _ (sl_rrValueCopy_2 C p0) h2
 try simp only [hd_rrValueCopy_2,ou_rrValueCopy_2] at g2
 refine az ?_
 rintro x3 h3
 have g3:=cH _ _ (sl_rrValueCopy_4 C p0) h3
 try simp only [hd_rrValueCopy_4,ou_rrValueCopy_4] at g3
 all_goals (rintro⟨⟩;rw [bk];show cC _ _ _ (aH _ _ _ _ (Code.seq _ _) _)=_;simp (maxSteps:=4000000) only [*,res102,n102k,n102K,n102ro,n102mv,↓RP,RB,enter,be,bf,aJ,Mx.bl,opnd,Mx.bI,Nat.reduceBEq,bQ,Mx.fit,bP,co,toVs,cellsOf,toV,aN,aA,ay,Mx.put,ofConst,ofCell,Mx.prune,killB,killBs,aK,putDst,aw,aE,loadAt,bT,List.map,Nat.reduceAdd,aC,bu,bx,cA,bS,bJ,aM,bD,lowC,kill,bG,ce,fill,setCells,takeParts,Nat.reduceLeDiff,ax,bne,↓ao,↓aa,ty3,ty9,ty70,ty71,ty72,ty74])
def n81K:List (Nat×List Nat):=[(0,[1,2]),(1,[1,2,3]),(2,[1,2,3,4]),(3,[1,2,3,4,13]),(4,[1,2,3,4]),(5,[1,2,3,4,5]),(6,[1,2,3,4]),(7,[2])]
def n81A:List (Nat×List Nat×List Nat):=[(13,[1,2,3,4],[2,3])]
def n81:cL where
 keep:=ax n81K
 ro:=fun t=>t==1
 mv:=fun t=>t==34
 give:=fun _=>false
 free:=fun i=>match i with|6=>[(0,2),(1,2),(0,3),(1,3),(0,4),(1,4),(2,4),(3,4),(0,5),(1,5),(2,5),(3,5),(0,6),(1,6),(2,6),(3,6),(0,7),(1,7),(2,7),(3,7),(4,7),(5,7),(6,7),(0,8),(1,8),(2,8),(3,8),(4,8),(5,8),(6,8),(0,9),(1,9),(0,10),(1,10)]|_=>[]
 alive:=av n81A
theorem n81a (t:Nat) (x:Bool) (e:Env) (S:bH):cK n81 t x ⟨e,S⟩=atO (av n81A t x) e S:=cF rfl t x e S
theorem n81k (i:Nat):n81.keep i=ax n81K i:=rfl
theorem n81ro (t:Nat):n81.ro t=(t==1):=rfl
theorem n81mv (t:Nat):n81.mv t=(t==34):=rfl
theorem n81f6:n81.free 6= [(0,2),(1,2),(0,3),(1,3),(0,4),(1,4),(2,4),(3,4),(0,5),(1,5),(2,5),(3,5),(0,6),(1,6),(2,6),(3,6),(0,7),(1,7),(2,7),(3,7),(4,7),(5,7),(6,7),(0,8),(1,8),(2,8),(3,8),(4,8),(5,8),(6,8),(0,9),(1,9),(0,10),(1,10)]:=rfl
theorem res81:Try.f81.results.toList= [.cell 2 25]:=rfl
noncomputable def b81:Code:=aU Try.f81
noncomputable def c81_0:Code:=(bE 0 (aU Try.f81)).getD .skip
theorem fl81_0:bE 0 b81=some c81_0:=rfl
def hd_rrStoreCopy_0 (p0:GStore) (s:Int×GStore):St:=⟨[(1,.rp [.i .i64 p0.fNow,.sl 8 (ah GEntry.row p0.fEntries)]),(2,.ptr 0 0),(3,.ptr 1 0),(4,.v (.i .i64 s.1))],[[.v (.i .i64 0),.own 8 []],[.v (.i .i64 s.2.fNow),.own 8 (ah GEntry.row s.2.fEntries)]]⟩
def ou_rrStoreCopy_0 (p0:GStore) (r:GStore):Option (Ex×St):=some (.normal,⟨[(2,.ptr 0 0),(3,.ptr 1 0)],[[.v (.i .i64 0),.own 8 []],[.v (.i .i64 r.fNow),.own 8 (ah GEntry.row r.fEntries)]]⟩)
theorem sl_rrStoreCopy_0 (C:aj) (k_rrValueCopy:K_rrValueCopy C) (p0:GStore) (s:Int×GStore) (o:(Int×GStore)⊕GStore) (hF:st_rrStoreCopy_0 p0 s=some o):evW TT C.wide n81 b81 0 (hd_rrStoreCopy_0 p0 s)=Sum.elim (fun s=>evW TT C.wide n81 b81 0 (hd_rrStoreCopy_0 p0 s)) (fun r=>ou_rrStoreCopy_0 p0 r) o:=by
 obtain⟨p1,p2⟩:=s
 rw [cG TT n81 fl81_0]
 revert hF
 unfold st_rrStoreCopy_0
 try dsimp only
 refine bF (fun h1=>?_) (fun h1=>?_)
 rotate_left 1
 refine az fun x1 h2=>?_
 have g1:decide (0≤p1)=true:=(cp h2).1
 have g2:(ah GEntry.row p0.fEntries)[(p1:Int).toNat]? =some [.s x1.fKey,.i .i64 x1.fValue.fKind,.s x1.fValue.fText,.i .i64 x1.fValue.fCount,.sl 2 (ah GPair.row x1.fValue.fPairs),.sl 1 (ah bY x1.fValue.fItems),.sl 2 (ah GScore.row x1.fValue.fScores),.i .i64 x1.fUntil]:=cn _ h2
 refine az fun x2 h3=>?_
 have g3:=bK (k_rrValueCopy x1.fValue _ h3)
 refine aX (fun h4=>?_) (fun _=>nofun)
 all_goals (rintro⟨⟩;show cN _ _ _ (aH _ _ _ _ (Code.seq _ _) _)=_;simp (maxSteps:=4000000) only [*,hd_rrStoreCopy_0,ou_rrStoreCopy_0,n81a,n81A,n81k,n81K,n81f6,n81mv,↓RP,RB,↓ai,be,bf,aJ,Mx.bl,opnd,Mx.bI,Nat.reduceBEq,bQ,Mx.fit,bP,co,toVs,cellsOf,toV,aN,aA,ay,Mx.put,ofConst,ofCell,Mx.prune,killB,killBs,aK,putDst,aw,aE,loadAt,bT,List.map,Nat.reduceAdd,Nat.reduceMul,cz,cB,cu,aO,bJ,aM,bD,lowC,forceAll,bj,kill,spendLoc,spendOk,bO,lend,lendA,aS,aB,bR,bare,bW,bG,fill,setCells,takeParts,bv,aR,Nat.reduceSub,Nat.reduceLT,Nat.reduceLeDiff,lowA,bn,bM,cd,au,aI,aY,cm,bL,cv,ch,bo,aL,bm,bp,bd,Op.operands,ax,av,atO,newB,cw,cy,cx,bne,↓ao,↓am,↓aa,↓aq,aP,br,aF,bN,Call.operands,ty3,ty9,ty23,ty25,ty74,ty77,GEntry.one,GPair.flat,GScore.flat])
theorem r_rrStoreCopy (C:aj) (k_rrValueCopy:K_rrValueCopy C) (p0:GStore) (r:GStore) (hF:rrStoreCopy p0=some r):cR TT C.wide (evW TT C.wide n81 b81) n81 Try.f81.results.toList (aU Try.f81) [.agg [.v (.i .i64 p0.fNow),.v (.sl 8 (ah GEntry.row p0.fEntries))]] []=some (.agg [.v (.i .i64 r.fNow),.own 8 (ah GEntry.row r.fEntries)],[]):=by
 revert hF
 unfold rrStoreCopy
 refine az ?_
 rintro x1 h1
 have g1:=cH _ _ (sl_rrStoreCopy_0 C k_rrValueCopy p0) h1
 try simp only [ak,hd_rrStoreCopy_0,ou_rrStoreCopy_0] at g1
 all_goals (rintro⟨⟩;rw [bk];show cC _ _ _ (aH _ _ _ _ (Code.seq _ _) _)=_;simp (maxSteps:=4000000) only [*,res81,n81k,n81K,n81ro,n81mv,↓RP,RB,enter,be,bf,aJ,Mx.bl,opnd,Mx.bI,Nat.reduceBEq,bQ,Mx.fit,bP,co,toVs,cellsOf,toV,aN,aA,ay,Mx.put,ofConst,ofCell,Mx.prune,killB,killBs,aK,putDst,aw,aE,loadAt,bT,List.map,Nat.reduceAdd,aC,bu,bx,cA,bS,bJ,aM,bD,lowC,kill,bG,ce,fill,setCells,takeParts,Nat.reduceLeDiff,ax,bne,↓ao,↓aa,ty3,ty23,ty25])
def n82K:List (Nat×List Nat):=[(0,[1,2]),(1,[1,2,3]),(2,[1,2,3,4]),(3,[1,2,3,4,16]),(4,[1,2,3,4]),(5,[1,2,3,4]),(6,[2])]
def n82A:List (Nat×List Nat×List Nat):=[(16,[1,2,3,4],[2,3])]
def n82:cL where
 keep:=ax n82K
 ro:=fun t=>t==1
 mv:=fun t=>t==29
 give:=fun _=>false
 free:=fun i=>match i with|5=>[(0,2),(1,2),(0,3),(1,3),(0,4),(1,4),(2,4),(3,4),(0,5),(1,5),(0,6),(1,6),(0,7),(1,7)]|_=>[]
 alive:=av n82A
theorem n82a (t:Nat) (x:Bool) (e:Env) (S:bH):cK n82 t x ⟨e,S⟩=atO (av n82A t x) e S:=cF rfl t x e S
theorem n82k (i:Nat):n82.keep i=ax n82K i:=rfl
theorem n82ro (t:Nat):n82.ro t=(t==1):=rfl
theorem n82mv (t:Nat):n82.mv t=(t==29):=rfl
theorem n82f5:n82.free 5= [(0,2),(1,2),(0,3),(1,3),(0,4),(1,4),(2,4),(3,4),(0,5),(1,5),(0,6),(1,6),(0,7),(1,7)]:=rfl
theorem res82:Try.f82.results.toList= [.cell 2 79]:=rfl
noncomputable def b82:Code:=aU Try.f82
noncomputable def c82_0:Code:=(bE 0 (aU Try.f82)).getD .skip
theorem fl82_0:bE 0 b82=some c82_0:=rfl
def hd_rrreplyCopy_0 (p0:GReply) (s:Int×GReply):St:=⟨[(1,.rp [.i .i64 p0.fCode,.s p0.fText,.i .i64 p0.fN,.sl 1 (ah bY p0.fList)]),(2,.ptr 0 0),(3,.ptr 1 0),(4,.v (.i .i64 s.1))],[[.v (.i .i64 0),.v (.s ByteArray.empty),.v (.i .i64 0),.own 1 []],[.v (.i .i64 s.2.fCode),.v (.s s.2.fText),.v (.i .i64 s.2.fN),.own 1 (ah bY s.2.fList)]]⟩
def ou_rrreplyCopy_0 (p0:GReply) (r:GReply):Option (Ex×St):=some (.normal,⟨[(2,.ptr 0 0),(3,.ptr 1 0)],[[.v (.i .i64 0),.v (.s ByteArray.empty),.v (.i .i64 0),.own 1 []],[.v (.i .i64 r.fCode),.v (.s r.fText),.v (.i .i64 r.fN),.own 1 (ah bY r.fList)]]⟩)
theorem sl_rrreplyCopy_0 (C:aj)  (p0:GReply) (s:Int×GReply) (o:(Int×GReply)⊕GReply) (hF:st_rrreplyCopy_0 p0 s=some o):evW TT C.wide n82 b82 0 (hd_rrreplyCopy_0 p0 s)=Sum.elim (fun s=>evW TT C.wide n82 b82 0 (hd_rrreplyCopy_0 p0 s)) (fun r=>ou_rrreplyCopy_0 p0 r) o:=by
 obtain⟨p1,p2⟩:=s
 rw [cG TT n82 fl82_0]
 revert hF
 unfold st_rrreplyCopy_0
 try dsimp only
 refine bF (fun h1=>?_) (fun h1=>?_)
 rotate_left 1
 refine az fun x1 h2=>?_
 have g1:decide (0≤p1)=true:=(cp h2).1
 have g2:(ah bY p0.fList)[(p1:Int).toNat]? =some [.s x1]:=cn _ h2
 refine aX (fun h3=>?_) (fun _=>nofun)
 all_goals (rintro⟨⟩;show cN _ _ _ (aH _ _ _ _ (Code.seq _ _) _)=_;simp (maxSteps:=4000000) only [*,hd_rrreplyCopy_0,ou_rrreplyCopy_0,n82a,n82A,n82k,n82K,n82f5,n82mv,↓RP,RB,↓ab,be,bf,aJ,Mx.bl,opnd,Mx.bI,Nat.reduceBEq,bQ,Mx.fit,co,toVs,cellsOf,toV,aN,aA,ay,Mx.put,ofConst,ofCell,Mx.prune,killB,aK,putDst,aw,aE,loadAt,bT,List.map,Nat.reduceAdd,Nat.reduceMul,cz,cB,cu,aO,bJ,aM,bD,lowC,bj,kill,spendLoc,spendOk,bG,setCells,takeParts,bv,aR,Nat.reduceSub,Nat.reduceLeDiff,bM,cd,au,aI,aY,cm,bL,cv,ch,bo,aL,bm,bp,bd,Op.operands,ax,av,atO,cy,cx,bne,↓ao,↓am,↓aa,↓aq,br,aF,bN,ty3,ty9,ty71,ty79])
theorem r_rrreplyCopy (C:aj)  (p0:GReply) (r:GReply) (hF:rrreplyCopy p0=some r):cR TT C.wide (evW TT C.wide n82 b82) n82 Try.f82.results.toList (aU Try.f82) [.agg [.v (.i .i64 p0.fCode),.v (.s p0.fText),.v (.i .i64 p0.fN),.v (.sl 1 (ah bY p0.fList))]] []=some (.agg [.v (.i .i64 r.fCode),.v (.s r.fText),.v (.i .i64 r.fN),.own 1 (ah bY r.fList)],[]):=by
 revert hF
 unfold rrreplyCopy
 refine az ?_
 rintro x1 h1
 have g1:=cH _ _ (sl_rrreplyCopy_0 C p0) h1
 try simp only [ak,hd_rrreplyCopy_0,ou_rrreplyCopy_0] at g1
 all_goals (rintro⟨⟩;rw [bk];show cC _ _ _ (aH _ _ _ _ (Code.seq _ _) _)=_;simp (maxSteps:=4000000) only [*,res82,n82k,n82K,n82ro,n82mv,↓RP,RB,enter,be,bf,aJ,Mx.bl,opnd,Mx.bI,Nat.reduceBEq,bQ,Mx.fit,bP,co,toVs,cellsOf,toV,aN,aA,ay,Mx.put,ofConst,ofCell,Mx.prune,killB,killBs,aK,putDst,aw,aE,loadAt,bT,List.map,Nat.reduceAdd,aC,bu,bx,cA,bS,bJ,aM,bD,lowC,kill,bG,ce,fill,setCells,takeParts,Nat.reduceLeDiff,ax,bne,↓ao,↓aa,ty3,ty9,ty29,ty71,ty79])
def n55K:List (Nat×List Nat):=[(0,[1,2]),(1,[1,2,3]),(2,[1,2,3,4]),(3,[1,2,3,4,16]),(4,[1,2,3,4]),(5,[1,2,3,4,5]),(6,[1,2,3,4]),(7,[2])]
def n55A:List (Nat×List Nat×List Nat):=[(16,[1,2,3,4],[2,3])]
def n55:cL where
 keep:=ax n55K
 ro:=fun t=>t==1
 mv:=fun t=>t==39
 give:=fun _=>false
 free:=fun i=>match i with|1=>[(0,3),(1,3),(2,3),(0,4),(1,4),(2,4),(0,6),(1,6),(2,6),(3,6),(4,6),(5,6)]|6=>[(0,2),(1,2),(0,3),(1,3),(0,4),(1,4),(2,4),(3,4),(0,5),(1,5),(2,5),(3,5),(0,6),(1,6),(2,6),(3,6),(4,6),(5,6),(0,7),(1,7),(2,7),(3,7),(4,7),(5,7),(0,8),(1,8),(2,8),(3,8),(4,8),(5,8),(6,8),(7,8),(0,9),(1,9),(2,9),(3,9),(4,9),(5,9),(6,9),(7,9),(0,10),(1,10),(2,10),(3,10),(4,10),(5,10),(6,10),(7,10),(0,11),(1,11),(0,12),(1,12)]|_=>[]
 alive:=av n55A
theorem n55a (t:Nat) (x:Bool) (e:Env) (S:bH):cK n55 t x ⟨e,S⟩=atO (av n55A t x) e S:=cF rfl t x e S
theorem n55k (i:Nat):n55.keep i=ax n55K i:=rfl
theorem n55ro (t:Nat):n55.ro t=(t==1):=rfl
theorem n55mv (t:Nat):n55.mv t=(t==39):=rfl
theorem n55f1:n55.free 1= [(0,3),(1,3),(2,3),(0,4),(1,4),(2,4),(0,6),(1,6),(2,6),(3,6),(4,6),(5,6)]:=rfl
theorem n55f6:n55.free 6= [(0,2),(1,2),(0,3),(1,3),(0,4),(1,4),(2,4),(3,4),(0,5),(1,5),(2,5),(3,5),(0,6),(1,6),(2,6),(3,6),(4,6),(5,6),(0,7),(1,7),(2,7),(3,7),(4,7),(5,7),(0,8),(1,8),(2,8),(3,8),(4,8),(5,8),(6,8),(7,8),(0,9),(1,9),(2,9),(3,9),(4,9),(5,9),(6,9),(7,9),(0,10),(1,10),(2,10),(3,10),(4,10),(5,10),(6,10),(7,10),(0,11),(1,11),(0,12),(1,12)]:=rfl
theorem res55:Try.f55.results.toList= [.cell 2 28]:=rfl
noncomputable def b55:Code:=aU Try.f55
noncomputable def c55_0:Code:=(bE 0 (aU Try.f55)).getD .skip
theorem fl55_0:bE 0 b55=some c55_0:=rfl
def hd_rrMachineCopy_z_0 (p0:GMachine) (s:Int×GMachine):St:=⟨[(1,.rp [.i .i64 p0.fStore.fNow,.sl 8 (ah GEntry.row p0.fStore.fEntries),.i .i64 p0.fNext,.sl 7 (ah GClient.row p0.fClients)]),(2,.ptr 0 0),(3,.ptr 1 0),(4,.v (.i .i64 s.1))],[[.v (.i .i64 0),.own 8 [],.v (.i .i64 0),.own 7 []],[.v (.i .i64 s.2.fStore.fNow),.own 8 (ah GEntry.row s.2.fStore.fEntries),.v (.i .i64 s.2.fNext),.own 7 (ah GClient.row s.2.fClients)]]⟩
def ou_rrMachineCopy_z_0 (p0:GMachine) (r:GMachine):Option (Ex×St):=some (.normal,⟨[(2,.ptr 0 0),(3,.ptr 1 0)],[[.v (.i .i64 0),.own 8 [],.v (.i .i64 0),.own 7 []],[.v (.i .i64 r.fStore.fNow),.own 8 (ah GEntry.row r.fStore.fEntries),.v (.i .i64 r.fNext),.own 7 (ah GClient.row r.fClients)]]⟩)
theorem sl_rrMachineCopy_z_0 (C:aj) (k_rrreplyCopy:K_rrreplyCopy C) (p0:GMachine) (s:Int×GMachine) (o:(Int×GMachine)⊕GMachine) (hF:st_rrMachineCopy_z_0 p0 s=some o):evW TT C.wide n55 b55 0 (hd_rrMachineCopy_z_0 p0 s)=Sum.elim (fun s=>evW TT C.wide n55 b55 0 (hd_rrMachineCopy_z_0 p0 s)) (fun r=>ou_rrMachineCopy_z_0 p0 r) o:=by
 obtain⟨p1,p2⟩:=s
 rw [cG TT n55 fl55_0]
 revert hF
 unfold st_rrMachineCopy_z_0
 try dsimp only
 refine bF (fun h1=>?_) (fun h1=>?_)
 rotate_left 1
 refine az fun x1 h2=>?_
 have g1:decide (0≤p1)=true:=(cp h2).1
 have g2:(ah GClient.row p0.fClients)[(p1:Int).toNat]? =some [.i .i64 x1.fId,.i .i64 x1.fSeq,.i .i64 x1.fTime,.i .i64 x1.fReply.fCode,.s x1.fReply.fText,.i .i64 x1.fReply.fN,.sl 1 (ah bY x1.fReply.fList)]:=cn _ h2
 refine az fun x2 h3=>?_
 have g3:=bK (k_rrreplyCopy x1.fReply _ h3)
 refine aX (fun h4=>?_) (fun _=>nofun)
 all_goals (rintro⟨⟩;show cN _ _ _ (aH _ _ _ _ (Code.seq _ _) _)=_;simp (maxSteps:=4000000) only [*,hd_rrMachineCopy_z_0,ou_rrMachineCopy_z_0,n55a,n55A,n55k,n55K,n55f6,n55mv,↓RP,RB,↓ai,be,bf,aJ,Mx.bl,opnd,Mx.bI,Nat.reduceBEq,bQ,Mx.fit,bP,co,toVs,cellsOf,toV,aN,aA,ay,Mx.put,ofConst,ofCell,Mx.prune,killB,killBs,aK,putDst,aw,aE,loadAt,bT,List.map,Nat.reduceAdd,Nat.reduceMul,cz,cB,cu,aO,bJ,aM,bD,lowC,forceAll,bj,kill,spendLoc,spendOk,bO,lend,lendA,aS,aB,bR,bare,bW,bG,fill,setCells,takeParts,bv,aR,Nat.reduceSub,Nat.reduceLT,Nat.reduceLeDiff,lowA,bn,bM,cd,au,aI,aY,cm,bL,cv,ch,bo,aL,bm,bp,bd,Op.operands,ax,av,atO,newB,cw,cy,cx,bne,↓ao,↓am,↓aa,↓aq,aP,br,aF,bN,Call.operands,ty3,ty26,ty28,ty79,ty81,GClient.one])
theorem r_rrMachineCopy_z (C:aj) (k_rrStoreCopy:K_rrStoreCopy C) (k_rrreplyCopy:K_rrreplyCopy C) (p0:GMachine) (r:GMachine) (hF:rrMachineCopy_z p0=some r): ∃d S,cR TT C.wide (evW TT C.wide n55 b55) n55 Try.f55.results.toList (aU Try.f55) [.agg [.v (.i .i64 p0.fStore.fNow),.v (.sl 8 (ah GEntry.row p0.fStore.fEntries)),.v (.i .i64 p0.fNext),.v (.sl 7 (ah GClient.row p0.fClients))]] []=some (d,S)∧bD d=true∧(frz d,S)=(.agg [.v (.i .i64 r.fStore.fNow),.v (.sl 8 (ah GEntry.row r.fStore.fEntries)),.v (.i .i64 r.fNext),.v (.sl 7 (ah GClient.row r.fClients))],[]):=by
 revert hF
 unfold rrMachineCopy_z
 refine az fun x1 h1=>?_
 have g1:=bK (k_rrStoreCopy p0.fStore _ h1)
 refine az ?_
 rintro x2 h2
 have g2:=cH _ _ (sl_rrMachineCopy_z_0 C k_rrreplyCopy p0) h2
 try simp only [ak,hd_rrMachineCopy_z_0,ou_rrMachineCopy_z_0] at g2
 intro hF
 have hR:=Option.some.inj hF
 clear hF
 subst hR
 refine⟨.agg [.v (.i .i64 x2.fStore.fNow),.own 8 (ah GEntry.row x2.fStore.fEntries),.v (.i .i64 x2.fNext),.own 7 (ah GClient.row x2.fClients)],[],?_,rfl,by first|rfl|(simp only [*];done)|(simp only [*];rfl)⟩
 all_goals (rw [bk];show cC _ _ _ (aH _ _ _ _ (Code.seq _ _) _)=_;simp (maxSteps:=4000000) only [*,res55,n55k,n55K,n55f1,n55ro,n55mv,↓RP,RB,enter,be,bf,aJ,Mx.bl,opnd,Mx.bI,Nat.reduceBEq,bQ,Mx.fit,bP,co,toVs,cellsOf,toV,aN,aA,ay,Mx.put,ofConst,ofCell,Mx.prune,killB,killBs,aK,putDst,aw,aE,loadAt,bT,List.map,Nat.reduceAdd,aC,bu,bx,cA,bS,bJ,aM,bD,lowC,forceAll,kill,lend,lendA,aS,aB,bR,bare,bW,bG,ce,fill,setCells,takeParts,Nat.reduceLeDiff,bM,cd,au,aI,aY,cm,bL,cv,ch,bo,aL,bm,bp,bd,cr,Op.operands,ax,newB,cw,bne,↓ao,↓aa,↓aq,br,bN,Call.operands,ty3,ty25,ty26,ty28])
def n16K:List (Nat×List Nat):=[(0,[1,2]),(1,[2])]
def n16:cL where
 keep:=ax n16K
 ro:=fun t=>t==1
 mv:=fun _=>false
 give:=fun _=>false
 free:=fun i=>match i with|1=>[(0,2),(1,2),(0,3),(1,3),(0,4),(1,4),(2,4),(3,4),(0,5),(1,5),(2,5),(3,5),(0,6),(1,6),(2,6),(3,6)]|_=>[]
theorem n16k (i:Nat):n16.keep i=ax n16K i:=rfl
theorem n16ro (t:Nat):n16.ro t=(t==1):=rfl
theorem n16mv (t:Nat):n16.mv t=(false):=rfl
theorem n16f1:n16.free 1= [(0,2),(1,2),(0,3),(1,3),(0,4),(1,4),(2,4),(3,4),(0,5),(1,5),(2,5),(3,5),(0,6),(1,6),(2,6),(3,6)]:=rfl
theorem res16:Try.f16.results.toList= [.cell 2 42]:=rfl
noncomputable def b16:Code:=aU Try.f16
theorem r_rlsnaps_z (C:aj) (k_rrMachineCopy_z:K_rrMachineCopy_z C) (p0:GSnap) (r:GSnap) (hF:rlsnaps_z p0=some r): ∃d S,cR TT C.wide (evW TT C.wide n16 b16) n16 Try.f16.results.toList (aU Try.f16) [.agg [.v (.i .i64 p0.fIndex),.v (.i .i64 p0.fTerm),.v (.i .i64 p0.fMachine.fStore.fNow),.v (.sl 8 (ah GEntry.row p0.fMachine.fStore.fEntries)),.v (.i .i64 p0.fMachine.fNext),.v (.sl 7 (ah GClient.row p0.fMachine.fClients))]] []=some (d,S)∧bD d=true∧(frz d,S)=(.agg [.v (.i .i64 r.fIndex),.v (.i .i64 r.fTerm),.v (.i .i64 r.fMachine.fStore.fNow),.v (.sl 8 (ah GEntry.row r.fMachine.fStore.fEntries)),.v (.i .i64 r.fMachine.fNext),.v (.sl 7 (ah GClient.row r.fMachine.fClients))],[]):=by
 revert hF
 unfold rlsnaps_z
 refine az fun x1 h1=>?_
 have g1:=bK (k_rrMachineCopy_z p0.fMachine _ h1)
 intro hF
 have hR:=Option.some.inj hF
 clear hF
 subst hR
 refine⟨.agg [.v (.i .i64 p0.fIndex),.v (.i .i64 p0.fTerm),.v (.i .i64 x1.fStore.fNow),.v (.sl 8 (ah GEntry.row x1.fStore.fEntries)),.v (.i .i64 x1.fNext),.v (.sl 7 (ah GClient.row x1.fClients))],[],?_,rfl,by first|rfl|(simp only [*];done)|(simp only [*];rfl)⟩
 all_goals (rw [bk];show cC _ _ _ (aH _ _ _ _ (Code.seq _ _) _)=_;simp (maxSteps:=4000000) only [*,res16,n16k,n16K,n16f1,n16ro,n16mv,↓RP,RB,enter,be,bf,aJ,Mx.bl,opnd,Mx.bI,Nat.reduceBEq,bQ,Mx.fit,bP,co,toVs,cellsOf,toV,aN,aA,ay,Mx.put,Mx.prune,killB,killBs,aK,putDst,aw,aE,loadAt,bT,List.map,Nat.reduceAdd,aC,bu,bx,cA,bS,bJ,aM,bD,lowC,forceAll,kill,lend,lendA,aS,aB,bR,bare,bW,bG,fill,setCells,takeParts,Nat.reduceLeDiff,bM,cd,au,aI,aY,cm,bL,cv,ch,bo,aL,bm,bp,bd,Op.operands,ax,newB,cw,bne,↓ao,↓aa,↓aq,br,bN,Call.operands,ty3,ty28,ty42])
def n97K:List (Nat×List Nat):=[(0,[0]),(1,[2])]
def n97:cL where
 keep:=ax n97K
 ro:=fun _=>false
 mv:=fun _=>false
 give:=fun _=>false
 free:=fun _=>[]
theorem n97k (i:Nat):n97.keep i=ax n97K i:=rfl
theorem res97:Try.f97.results.toList= [.tmp 2]:=rfl
noncomputable def b97:Code:=aU Try.f97
theorem r_client_number (C:aj)  (p0:Int) (r:Bool) (hF:client_number p0=some r):cR TT C.wide (evW TT C.wide n97 b97) n97 Try.f97.results.toList (aU Try.f97) [.v (.i .i64 p0)] []=some (.v (.b r),[]):=by
 revert hF
 unfold client_number
 refine aX (fun h1=>?_) (fun h1=>?_)
 rotate_left 1
 all_goals (rintro⟨⟩;rw [bk];show cC _ _ _ (aH _ _ _ _ (Code.seq _ _) _)=_;simp (maxSteps:=4000000) only [*,res97,n97k,n97K,↓RP,RB,enter,aQ,aD,be,bf,aJ,Mx.bl,opnd,Mx.bI,Nat.reduceBEq,bQ,Mx.fit,co,aN,aA,Mx.put,ofConst,ofCell,Mx.prune,killB,aK,putDst,aw,List.map,cz,cB,aC,bu,bx,cA,bS,bJ,aM,lowC,ax,cy,cx,↓ao,↓aa,bh,ty4])
def n119K:List (Nat×List Nat):=[(0,[0]),(1,[2])]
def n119:cL where
 keep:=ax n119K
 ro:=fun _=>false
 mv:=fun _=>false
 give:=fun _=>false
 free:=fun _=>[]
theorem n119k (i:Nat):n119.keep i=ax n119K i:=rfl
theorem res119:Try.f119.results.toList= [.tmp 2]:=rfl
noncomputable def b119:Code:=aU Try.f119
theorem r_value_field (C:aj)  (p0:ByteArray) (r:Bool) (hF:value_field p0=some r):cR TT C.wide (evW TT C.wide n119 b119) n119 Try.f119.results.toList (aU Try.f119) [.v (.s p0)] []=some (.v (.b r),[]):=by
 revert hF
 unfold value_field
 refine aX (fun h1=>?_) (fun h1=>?_)
 rotate_left 1
 all_goals (rintro⟨⟩;rw [bk];show cC _ _ _ (aH _ _ _ _ (Code.seq _ _) _)=_;simp (maxSteps:=4000000) only [*,res119,n119k,n119K,↓RP,RB,enter,aQ,aD,be,bf,aJ,Mx.bl,opnd,Mx.bI,Nat.reduceBEq,bQ,Mx.fit,co,aN,aA,Mx.put,ofConst,ofCell,Mx.prune,killB,aK,putDst,aw,List.map,cz,cB,cu,aC,bu,bx,cA,bS,bJ,aM,lowC,ax,cy,cx,↓ao,↓aa,bh,ty4,ty9])
def n115K:List (Nat×List Nat):=[(0,[0]),(1,[2])]
def n115:cL where
 keep:=ax n115K
 ro:=fun _=>false
 mv:=fun _=>false
 give:=fun _=>false
 free:=fun _=>[]
theorem n115k (i:Nat):n115.keep i=ax n115K i:=rfl
theorem res115:Try.f115.results.toList= [.tmp 2]:=rfl
noncomputable def b115:Code:=aU Try.f115
theorem r_value_text (C:aj)  (p0:ByteArray) (r:Bool) (hF:value_text p0=some r):cR TT C.wide (evW TT C.wide n115 b115) n115 Try.f115.results.toList (aU Try.f115) [.v (.s p0)] []=some (.v (.b r),[]):=by
 revert hF
 unfold value_text
 all_goals (rintro⟨⟩;rw [bk];show cC _ _ _ (aH _ _ _ _ (Code.seq _ _) _)=_;simp (maxSteps:=4000000) only [*,res115,n115k,n115K,↓RP,RB,enter,be,bf,aJ,Mx.bl,opnd,Mx.bI,Nat.reduceBEq,bQ,Mx.fit,co,aN,aA,Mx.put,ofConst,ofCell,Mx.prune,killB,aK,putDst,aw,List.map,cz,cB,cu,aC,bu,bx,cA,bS,bJ,aM,lowC,ax,cy,cx,↓ao,↓aa,ty4,ty9])
def n122K:List (Nat×List Nat):=[(0,[0]),(1,[2])]
def n122:cL where
 keep:=ax n122K
 ro:=fun _=>false
 mv:=fun _=>false
 give:=fun _=>false
 free:=fun _=>[]
theorem n122k (i:Nat):n122.keep i=ax n122K i:=rfl
theorem res122:Try.f122.results.toList= [.tmp 2]:=rfl
noncomputable def b122:Code:=aU Try.f122
theorem r_value_count (C:aj)  (p0:Int) (r:Bool) (hF:value_count p0=some r):cR TT C.wide (evW TT C.wide n122 b122) n122 Try.f122.results.toList (aU Try.f122) [.v (.i .i64 p0)] []=some (.v (.b r),[]):=by
 revert hF
 unfold value_count
 refine aX (fun h1=>?_) (fun h1=>?_)
 rotate_left 1
 all_goals (rintro⟨⟩;rw [bk];show cC _ _ _ (aH _ _ _ _ (Code.seq _ _) _)=_;simp (maxSteps:=4000000) only [*,res122,n122k,n122K,↓RP,RB,enter,aQ,aD,be,bf,aJ,Mx.bl,opnd,Mx.bI,Nat.reduceBEq,bQ,Mx.fit,co,aN,aA,Mx.put,ofConst,ofCell,Mx.prune,killB,aK,putDst,aw,List.map,cz,cB,aC,bu,bx,cA,bS,bJ,aM,lowC,Int.reduceNeg,ax,cy,cx,↓ao,↓aa,bh,ty4])
def n98K:List (Nat×List Nat):=[(0,[1]),(1,[1,11]),(2,[2]),(3,[1,3]),(4,[1,3,18]),(5,[1,3,18,19]),(6,[1,3,18,19]),(7,[1,3,18,19]),(8,[1,3,18,19]),(9,[1,3,18,19]),(10,[1,3,18,19]),(11,[1,3,18,19]),(12,[1,3,18,19]),(13,[1,3]),(14,[1,3,18,31]),(15,[1,3,18,31]),(16,[1,3]),(17,[1,3,18,37]),(18,[1,3]),(19,[1,3,18,45]),(20,[1,3,18,45]),(21,[1,3]),(22,[1,3,18,51]),(23,[1,3]),(24,[1,3,59]),(25,[1,3]),(26,[1,64]),(27,[2]),(28,[1,95]),(29,[2]),(30,[99]),(31,[2]),(32,[2])]
def n98A:List (Nat×List Nat×List Nat):=[(11,[],[1]),(19,[1,3,18,19],[1,3,18]),(31,[1,3,18,31],[1,3,18]),(37,[1,3],[1,3,18]),(45,[1,3,18,45],[1,3,18]),(51,[1,3],[1,3,18]),(59,[1,3],[1,3]),(64,[],[1]),(95,[],[1]),(99,[],[])]
def n98:cL where
 keep:=ax n98K
 ro:=fun t=>t==1
 mv:=fun _=>false
 give:=fun _=>false
 free:=fun i=>match i with|18=>[(0,2),(1,2),(0,3),(1,3),(2,4),(3,4),(2,5),(3,5)]|23=>[(0,2),(1,2),(0,3),(1,3),(2,4),(3,4),(2,5),(3,5)]|_=>[]
 alive:=av n98A
theorem n98a (t:Nat) (x:Bool) (e:Env) (S:bH):cK n98 t x ⟨e,S⟩=atO (av n98A t x) e S:=cF rfl t x e S
theorem n98k (i:Nat):n98.keep i=ax n98K i:=rfl
theorem n98ro (t:Nat):n98.ro t=(t==1):=rfl
theorem n98mv (t:Nat):n98.mv t=(false):=rfl
theorem n98f18:n98.free 18= [(0,2),(1,2),(0,3),(1,3),(2,4),(3,4),(2,5),(3,5)]:=rfl
theorem n98f23:n98.free 23= [(0,2),(1,2),(0,3),(1,3),(2,4),(3,4),(2,5),(3,5)]:=rfl
theorem res98:Try.f98.results.toList= [.tmp 2]:=rfl
noncomputable def b98:Code:=aU Try.f98
theorem rg_vaCCommand_q59 (C:aj)  (p0:GCommand) (p1:Bool) (p2:Int) (p3:ByteArray) (c:Code) (ho:cD 1 59 b98=some c) (r:GCommand) (hF:ck_vaCCommand_q59_v p0 p1 p2 p3=r): @cV TT C.wide (evW TT C.wide n98 b98) n98 1 59 ⟨[(1,.rp [.i .i64 p0.fKind,.s p0.fKey,.s p0.fField,.s p0.fText,.i .i64 p0.fN]),(3,.ptr 0 0),(59,.v (.b p1))],[[.v (.i .i64 p2),.v (.s p3),.v (.s ByteArray.empty),.v (.s ByteArray.empty),.v (.i .i64 0)]]⟩ ⟨c⟩=some (.normal,⟨[(1,.rp [.i .i64 p0.fKind,.s p0.fKey,.s p0.fField,.s p0.fText,.i .i64 p0.fN]),(3,.ptr 0 0)],[[.v (.i .i64 r.fKind),.v (.s r.fKey),.v (.s r.fField),.v (.s r.fText),.v (.i .i64 r.fN)]]⟩):=by
 have e:=Option.some.inj (ho.symm.trans (rfl:cD 1 59 b98=some _))
 subst e
 clear ho
 show aH _ _ _ _ _ _=_
 revert hF
 unfold ck_vaCCommand_q59_v
 refine aX (fun h1=>?_) (fun h1=>?_)
 rotate_left 1
 all_goals (rintro rfl;simp (maxSteps:=4000000) only [*,n98a,n98A,n98k,n98K,↓RP,RB,be,bf,aJ,Mx.bl,opnd,Mx.bI,Nat.reduceBEq,bQ,Mx.fit,co,cellsOf,aN,aA,Mx.put,ofConst,ofCell,Mx.prune,killB,aK,putDst,aw,aE,List.map,Nat.reduceAdd,bJ,aM,lowC,kill,bG,setCells,Nat.reduceLeDiff,ax,av,atO,↓am,ty9,ty36,↓aa _ _ _ _ 25])
theorem rg_vaCCommand_q51 (C:aj)  (p0:GCommand) (p1:Int) (p2:Bool) (p3:ByteArray) (c:Code) (ho:cD 1 51 b98=some c) (r:GCommand) (hF:ck_vaCCommand_q51_v p0 p1 p2 p3=r): @cV TT C.wide (evW TT C.wide n98 b98) n98 1 51 ⟨[(1,.rp [.i .i64 p0.fKind,.s p0.fKey,.s p0.fField,.s p0.fText,.i .i64 p0.fN]),(3,.ptr 0 0),(18,.v (.i .i64 p1)),(51,.v (.b p2))],[[.v (.i .i64 p1),.v (.s p3),.v (.s ByteArray.empty),.v (.s ByteArray.empty),.v (.i .i64 0)]]⟩ ⟨c⟩=some (.normal,⟨[(1,.rp [.i .i64 p0.fKind,.s p0.fKey,.s p0.fField,.s p0.fText,.i .i64 p0.fN]),(3,.ptr 0 0)],[[.v (.i .i64 r.fKind),.v (.s r.fKey),.v (.s r.fField),.v (.s r.fText),.v (.i .i64 r.fN)]]⟩):=by
 have e:=Option.some.inj (ho.symm.trans (rfl:cD 1 51 b98=some _))
 subst e
 clear ho
 show aH _ _ _ _ _ _=_
 revert hF
 unfold ck_vaCCommand_q51_v
 refine aX (fun h1=>?_) (fun h1=>?_)
 rotate_left 1
 have g1:=rg_vaCCommand_q59 C p0 (p1==22) p1 p3 _ rfl (ck_vaCCommand_q59_v p0 (p1==22) p1 p3) rfl
 all_goals (rintro rfl;simp (maxSteps:=4000000) only [*,n98a,n98A,n98k,n98K,n98f23,n98mv,↓RP,RB,be,bf,aJ,Mx.bl,opnd,Mx.bI,Nat.reduceBEq,bQ,Mx.fit,co,cellsOf,aN,aA,ay,Mx.put,ofConst,ofCell,Mx.prune,killB,aK,putDst,aw,aE,loadAt,bT,List.map,Nat.reduceAdd,cz,cB,bJ,aM,lowC,kill,bG,setCells,Nat.reduceLeDiff,bM,cd,aI,aY,cm,bL,cv,ch,bo,aL,bm,bp,bd,cr,Op.operands,ax,av,atO,cy,cx,↓ao,br,ty3,ty4,ty9,ty36,↓am _ _ _ _ 51,↓aq _ _ _ _ 23,↓aa _ _ _ _ 24,↓da _ _ _ _ 59])
theorem rg_vaCCommand_q37 (C:aj)  (p0:GCommand) (p1:Int) (p2:Bool) (p3:ByteArray) (c:Code) (ho:cD 1 37 b98=some c) (r:GCommand) (hF:ck_vaCCommand_q37_v p0 p1 p2 p3=r): @cV TT C.wide (evW TT C.wide n98 b98) n98 1 37 ⟨[(1,.rp [.i .i64 p0.fKind,.s p0.fKey,.s p0.fField,.s p0.fText,.i .i64 p0.fN]),(3,.ptr 0 0),(18,.v (.i .i64 p1)),(37,.v (.b p2))],[[.v (.i .i64 p1),.v (.s p3),.v (.s ByteArray.empty),.v (.s ByteArray.empty),.v (.i .i64 0)]]⟩ ⟨c⟩=some (.normal,⟨[(1,.rp [.i .i64 p0.fKind,.s p0.fKey,.s p0.fField,.s p0.fText,.i .i64 p0.fN]),(3,.ptr 0 0)],[[.v (.i .i64 r.fKind),.v (.s r.fKey),.v (.s r.fField),.v (.s r.fText),.v (.i .i64 r.fN)]]⟩):=by
 have e:=Option.some.inj (ho.symm.trans (rfl:cD 1 37 b98=some _))
 subst e
 clear ho
 show aH _ _ _ _ _ _=_
 revert hF
 unfold ck_vaCCommand_q37_v
 refine aX (fun h1=>?_) (fun h1=>?_)
 rotate_left 1
 refine aX (fun h2=>?_) (fun h2=>?_)
 rotate_left 1
 refine aX (fun h3=>?_) (fun h3=>?_)
 rotate_left 1
 have g1:=rg_vaCCommand_q51 C p0 p1 (p1==14) p3 _ rfl (ck_vaCCommand_q51_v p0 p1 (p1==14) p3) rfl
 all_goals (rintro rfl;simp (maxSteps:=4000000) only [*,n98a,n98A,n98k,n98K,n98f18,n98mv,↓RP,RB,be,bf,aJ,Mx.bl,opnd,Mx.bI,Nat.reduceBEq,bQ,Mx.fit,co,cellsOf,aN,aA,ay,Mx.put,ofConst,ofCell,Mx.prune,killB,aK,putDst,aw,aE,loadAt,bT,List.map,Nat.reduceAdd,cz,cB,bJ,aM,lowC,kill,bG,setCells,Nat.reduceLeDiff,bM,cd,aI,aY,cm,bL,cv,ch,bo,aL,bm,bp,bd,cr,Op.operands,ax,av,atO,cy,cx,↓ao,br,ty4,ty9,ty36,↓am _ _ _ _ 37,↓aq _ _ _ _ 18,↓aa _ _ _ _ 19,↓am _ _ _ _ 45,↓aa _ _ _ _ 20,↓aa _ _ _ _ 21,↓aa _ _ _ _ 22,↓da _ _ _ _ 51])
theorem rg_vaCCommand_w0 (C:aj)  (p0:GCommand) (p1:Int) (p2:ByteArray) (c:Code) (ho:cD 2 0 b98=some c) (r:GCommand) (hF:ck_vaCCommand_w0_v p0 p1 p2=r): @cV TT C.wide (evW TT C.wide n98 b98) n98 2 0 ⟨[(1,.rp [.i .i64 p0.fKind,.s p0.fKey,.s p0.fField,.s p0.fText,.i .i64 p0.fN]),(3,.ptr 0 0),(18,.v (.i .i64 p1))],[[.v (.i .i64 p1),.v (.s p2),.v (.s ByteArray.empty),.v (.s ByteArray.empty),.v (.i .i64 0)]]⟩ ⟨c⟩=some (.normal,⟨[(1,.rp [.i .i64 p0.fKind,.s p0.fKey,.s p0.fField,.s p0.fText,.i .i64 p0.fN]),(3,.ptr 0 0)],[[.v (.i .i64 r.fKind),.v (.s r.fKey),.v (.s r.fField),.v (.s r.fText),.v (.i .i64 r.fN)]]⟩):=by
 have e:=Option.some.inj (ho.symm.trans (rfl:cD 2 0 b98=some _))
 subst e
 clear ho
 show aH _ _ _ _ _ _=_
 revert hF
 unfold ck_vaCCommand_w0_v
 refine aX (fun h1=>?_) (fun h1=>?_)
 rotate_left 1
 refine aX (fun h2=>?_) (fun h2=>?_)
 rotate_left 1
 refine aX (fun h3=>?_) (fun h3=>?_)
 rotate_left 1
 unfold ck_vaCCommand_w0_v_c0
 refine aX (fun h4=>?_) (fun h4=>?_)
 rotate_left 1
 refine aX (fun h5=>?_) (fun h5=>?_)
 rotate_left 1
 refine aX (fun h6=>?_) (fun h6=>?_)
 rotate_left 1
 refine aX (fun h7=>?_) (fun h7=>?_)
 rotate_left 1
 refine aX (fun h8=>?_) (fun h8=>?_)
 rotate_left 1
 refine aX (fun h9=>?_) (fun h9=>?_)
 rotate_left 1
 refine aX (fun h10=>?_) (fun h10=>?_)
 rotate_left 1
 have g1:=rg_vaCCommand_q37 C p0 p1 (p1==4) p2 _ rfl (ck_vaCCommand_q37_v p0 p1 (p1==4) p2) rfl
 all_goals (rintro rfl;simp (maxSteps:=4000000) only [*,n98a,n98A,n98k,n98K,n98mv,↓RP,RB,↓ai,be,bf,aJ,Mx.bl,opnd,Mx.bI,Nat.reduceBEq,bQ,Mx.fit,co,cellsOf,aN,aA,ay,Mx.put,ofConst,ofCell,Mx.prune,killB,aK,putDst,aw,aE,loadAt,bT,List.map,Nat.reduceAdd,cz,cB,bJ,aM,lowC,kill,bG,setCells,Nat.reduceLeDiff,ax,av,atO,cy,cx,↓ao,ty3,ty4,ty9,ty36,↓aa _ _ _ _ 5,↓am _ _ _ _ 19,↓aa _ _ _ _ 6,↓aa _ _ _ _ 7,↓aa _ _ _ _ 8,↓aa _ _ _ _ 9,↓aa _ _ _ _ 10,↓aa _ _ _ _ 11,↓aa _ _ _ _ 12,↓aa _ _ _ _ 13,↓aa _ _ _ _ 14,↓am _ _ _ _ 31,↓aa _ _ _ _ 15,↓aa _ _ _ _ 16,↓aa _ _ _ _ 17,↓da _ _ _ _ 37])
theorem rg_vaCCommand_k28 (C:aj) (k_value_field:K_value_field C) (k_value_text:K_value_text C) (p0:GCommand) (p1:GCommand) (c:Code) (ho:cD 0 28 b98=some c) (r:Bool) (hF:ck_vaCCommand_k28_v p0 p1=r): @cV TT C.wide (evW TT C.wide n98 b98) n98 0 28 ⟨[(1,.rp [.i .i64 p0.fKind,.s p0.fKey,.s p0.fField,.s p0.fText,.i .i64 p0.fN])],[[.v (.i .i64 p1.fKind),.v (.s p1.fKey),.v (.s p1.fField),.v (.s p1.fText),.v (.i .i64 p1.fN)]]⟩ ⟨c⟩=some (.normal,⟨[(1,.rp [.i .i64 p0.fKind,.s p0.fKey,.s p0.fField,.s p0.fText,.i .i64 p0.fN]),(95,.v (.b r))],[[.v (.i .i64 p1.fKind),.v (.s p1.fKey),.v (.s p1.fField),.v (.s p1.fText),.v (.i .i64 p1.fN)]]⟩):=by
 have e:=Option.some.inj (ho.symm.trans (rfl:cD 0 28 b98=some _))
 subst e
 clear ho
 show aH _ _ _ _ _ _=_
 revert hF
 unfold ck_vaCCommand_k28_v
 refine aX (fun h1=>?_) (fun h1=>?_)
 focus
  refine bF (fun h2=>?_) (fun h2=>?_)
  focus
   have g1:=bK (k_value_text p0.fText _ (value_text_t p0.fText))
  rotate_left 1
  refine bF (fun h3=>?_) (fun h3=>?_)
  focus
   have g1:=bK (k_value_text p0.fText _ (value_text_t p0.fText))
  rotate_left 1
  have g2:=bK (k_value_field p0.fField _ (value_field_t p0.fField))
  refine aX (fun h4=>?_) (fun h4=>?_)
  focus
   have g1:=bK (k_value_text p0.fText _ (value_text_t p0.fText))
  rotate_left 1
 rotate_left 4
 unfold ck_vaCCommand_k28_v_c0
 have g3:=bK (k_value_field p0.fKey _ (value_field_t p0.fKey))
 refine bF (fun h2=>?_) (fun h2=>?_)
 rotate_left 1
 refine bF (fun h3=>?_) (fun h3=>?_)
 focus
  have g1:=bK (k_value_text p0.fText _ (value_text_t p0.fText))
 rotate_left 1
 refine bF (fun h4=>?_) (fun h4=>?_)
 focus
  have g1:=bK (k_value_text p0.fText _ (value_text_t p0.fText))
 rotate_left 1
 have g2:=bK (k_value_field p0.fField _ (value_field_t p0.fField))
 refine aX (fun h5=>?_) (fun h5=>?_)
 focus
  have g1:=bK (k_value_text p0.fText _ (value_text_t p0.fText))
 rotate_left 1
 all_goals (rintro rfl;simp (maxSteps:=4000000) only [*,n98k,n98K,n98mv,↓RP,RB,aQ,aD,be,Mx.bl,opnd,Mx.bI,Nat.reduceBEq,bQ,aN,aA,ay,Mx.put,ofConst,ofCell,Mx.prune,killB,aK,putDst,aw,aE,loadAt,bT,List.map,cz,cB,forceAll,lend,lendA,aS,aB,bR,bare,bW,ax,newB,cw,cy,cx,bne,bh,ty3,ty9,ty36,↓aa _ _ _ _ 28])
theorem r_vaCCommand (C:aj) (k_value_field:K_value_field C) (k_value_text:K_value_text C) (k_value_count:K_value_count C) (p0:GCommand) (r:Int) (hF:vaCCommand p0=some r):cR TT C.wide (evW TT C.wide n98 b98) n98 Try.f98.results.toList (aU Try.f98) [.agg [.v (.i .i64 p0.fKind),.v (.s p0.fKey),.v (.s p0.fField),.v (.s p0.fText),.v (.i .i64 p0.fN)]] []=some (.v (.i .i64 r),[]):=by
 revert hF
 unfold vaCCommand
 refine someX ?_
 unfold vaCCommand_v
 refine aX (fun h1=>?_) (fun h1=>?_)
 rotate_left 1
 refine aX (fun h2=>?_) (fun h2=>?_)
 rotate_left 1
 unfold vaCCommand_v_c0
 have g1:=rg_vaCCommand_w0 C p0 p0.fKind p0.fKey _ rfl (ck_vaCCommand_w0_v p0 p0.fKind p0.fKey) rfl
 refine bF (fun h3=>?_) (fun h3=>?_)
 rotate_left 1
 refine bF (fun h4=>?_) (fun h4=>?_)
 rotate_left 1
 refine bF (fun h5=>?_) (fun h5=>?_)
 rotate_left 1
 refine bF (fun h6=>?_) (fun h6=>?_)
 rotate_left 1
 refine bF (fun h7=>?_) (fun h7=>?_)
 rotate_left 1
 have g2:=rg_vaCCommand_k28 C k_value_field k_value_text p0 (ck_vaCCommand_w0_v p0 p0.fKind p0.fKey) _ rfl (ck_vaCCommand_k28_v p0 (ck_vaCCommand_w0_v p0 p0.fKind p0.fKey)) rfl
 refine aX (fun h8=>?_) (fun h8=>?_)
 rotate_left 1
 have g3:=bK (k_value_count p0.fN _ (value_count_t p0.fN))
 refine aX (fun h9=>?_) (fun h9=>?_)
 rotate_left 1
 all_goals (rintro rfl;rw [bk];show cC _ _ _ (aH _ _ _ _ (Code.seq _ _) _)=_;simp (maxSteps:=4000000) only [*,res98,n98a,n98A,n98k,n98K,n98ro,n98mv,↓RP,RB,enter,aQ,aD,be,bf,aJ,Mx.bl,opnd,Mx.bI,Nat.reduceBEq,bQ,Mx.fit,bP,co,toVs,cellsOf,toV,aN,aA,ay,Mx.put,ofConst,ofCell,Mx.prune,killB,killBs,aK,putDst,aw,aE,loadAt,bT,List.map,Nat.reduceAdd,cz,cB,aG,eqC,aC,bu,bx,cA,bS,bJ,aM,bD,lowC,forceAll,kill,lend,lendA,aS,aB,bR,bare,bW,bG,fill,setCells,takeParts,Nat.reduceLeDiff,ax,av,atO,newB,cw,cy,cx,bne,↓ao,bh,aP,ty3,ty9,ty29,ty36,↓aa _ _ _ _ 0,↓aa _ _ _ _ 1,↓am _ _ _ _ 11,↓aa _ _ _ _ 2,↓aa _ _ _ _ 3,↓aa _ _ _ _ 4,↓evCode_blockB _ _ _ _ 0,↓aa _ _ _ _ 26,↓am _ _ _ _ 64,↓aa _ _ _ _ 27,↓bg _ _ _ _ 28,↓am _ _ _ _ 95,↓aa _ _ _ _ 29,↓aa _ _ _ _ 30,↓am _ _ _ _ 99,↓aa _ _ _ _ 31,↓aa _ _ _ _ 32])
def n77K:List (Nat×List Nat):=[(0,[1]),(1,[1,5]),(2,[8]),(3,[2]),(4,[2]),(5,[1,18]),(6,[2]),(7,[2])]
def n77A:List (Nat×List Nat×List Nat):=[(5,[1],[1]),(8,[],[]),(18,[],[1])]
def n77:cL where
 keep:=ax n77K
 ro:=fun t=>t==1
 mv:=fun _=>false
 give:=fun _=>false
 free:=fun _=>[]
 alive:=av n77A
theorem n77a (t:Nat) (x:Bool) (e:Env) (S:bH):cK n77 t x ⟨e,S⟩=atO (av n77A t x) e S:=cF rfl t x e S
theorem n77k (i:Nat):n77.keep i=ax n77K i:=rfl
theorem n77ro (t:Nat):n77.ro t=(t==1):=rfl
theorem n77mv (t:Nat):n77.mv t=(false):=rfl
theorem res77:Try.f77.results.toList= [.tmp 2]:=rfl
noncomputable def b77:Code:=aU Try.f77
theorem r_clCCall (C:aj) (k_client_number:K_client_number C) (k_vaCCommand:K_vaCCommand C) (p0:GCall) (r:Int) (hF:clCCall p0=some r):cR TT C.wide (evW TT C.wide n77 b77) n77 Try.f77.results.toList (aU Try.f77) [.agg [.v (.i .i64 p0.fClient),.v (.i .i64 p0.fSeq),.v (.i .i64 p0.fCommand.fKind),.v (.s p0.fCommand.fKey),.v (.s p0.fCommand.fField),.v (.s p0.fCommand.fText),.v (.i .i64 p0.fCommand.fN)]] []=some (.v (.i .i64 r),[]):=by
 revert hF
 unfold clCCall
 refine someX ?_
 unfold clCCall_v
 refine bF (fun h1=>?_) (fun h1=>?_)
 focus
  have g1:=bK (k_client_number p0.fClient _ (client_number_t p0.fClient))
  refine bF (fun h2=>?_) (fun h2=>?_)
  rotate_left 1
  have g2:=bK (k_client_number p0.fSeq _ (client_number_t p0.fSeq))
  refine aX (fun h3=>?_) (fun h3=>?_)
  focus
   have g3:=bK (k_vaCCommand p0.fCommand _ (vaCCommand_t p0.fCommand))
  rotate_left 1
 rotate_left 3
 unfold clCCall_v_c0
 refine bF (fun h2=>?_) (fun h2=>?_)
 rotate_left 1
 refine bF (fun h3=>?_) (fun h3=>?_)
 rotate_left 1
 refine bF (fun h4=>?_) (fun h4=>?_)
 rotate_left 1
 refine bF (fun h5=>?_) (fun h5=>?_)
 rotate_left 1
 refine bF (fun h6=>?_) (fun h6=>?_)
 rotate_left 1
 refine aX (fun h7=>?_) (fun h7=>?_)
 rotate_left 1
 all_goals (rintro rfl;rw [bk];show cC _ _ _ (aH _ _ _ _ (Code.seq _ _) _)=_;simp (maxSteps:=4000000) only [*,res77,n77a,n77A,n77k,n77K,n77ro,n77mv,↓RP,RB,enter,aQ,aD,be,bf,aJ,Mx.bl,opnd,Mx.bI,Nat.reduceBEq,bQ,Mx.fit,bP,co,toVs,cellsOf,toV,aN,aA,ay,Mx.put,ofConst,ofCell,Mx.prune,killB,aK,putDst,aw,aE,loadAt,bT,List.map,Nat.reduceAdd,cz,cB,aG,eqC,aC,bu,bx,cA,bS,bJ,aM,lowC,forceAll,lend,lendA,aS,aB,bR,bare,bW,fill,takeParts,ax,av,atO,newB,cw,cy,cx,bne,↓ao,↓am,↓aa,bh,ty3,ty29,ty36,ty38])
def n46K:List (Nat×List Nat):=[(0,[1]),(1,[1,20]),(2,[2]),(3,[1,22]),(4,[26]),(5,[2]),(6,[2]),(7,[2])]
def n46A:List (Nat×List Nat×List Nat):=[(20,[],[1]),(22,[1],[1]),(26,[],[])]
def n46:cL where
 keep:=ax n46K
 ro:=fun t=>t==1
 mv:=fun _=>false
 give:=fun _=>false
 free:=fun _=>[]
 alive:=av n46A
theorem n46a (t:Nat) (x:Bool) (e:Env) (S:bH):cK n46 t x ⟨e,S⟩=atO (av n46A t x) e S:=cF rfl t x e S
theorem n46k (i:Nat):n46.keep i=ax n46K i:=rfl
theorem n46ro (t:Nat):n46.ro t=(t==1):=rfl
theorem n46mv (t:Nat):n46.mv t=(false):=rfl
theorem res46:Try.f46.results.toList= [.tmp 2]:=rfl
noncomputable def b46:Code:=aU Try.f46
theorem rg_wire_CheckItem_k1 (C:aj)  (p0:GItem) (c:Code) (ho:cD 0 1 b46=some c) (r:Bool) (hF:ck_wire_CheckItem_k1_v p0=r): @cV TT C.wide (evW TT C.wide n46 b46) n46 0 1 ⟨[(1,.rp [.i .i64 p0.fTerm,.i .i64 p0.fTime,.b p0.fNop,.i .i64 p0.fCall.fClient,.i .i64 p0.fCall.fSeq,.i .i64 p0.fCall.fCommand.fKind,.s p0.fCall.fCommand.fKey,.s p0.fCall.fCommand.fField,.s p0.fCall.fCommand.fText,.i .i64 p0.fCall.fCommand.fN])],[]⟩ ⟨c⟩=some (.normal,⟨[(1,.rp [.i .i64 p0.fTerm,.i .i64 p0.fTime,.b p0.fNop,.i .i64 p0.fCall.fClient,.i .i64 p0.fCall.fSeq,.i .i64 p0.fCall.fCommand.fKind,.s p0.fCall.fCommand.fKey,.s p0.fCall.fCommand.fField,.s p0.fCall.fCommand.fText,.i .i64 p0.fCall.fCommand.fN]),(20,.v (.b r))],[]⟩):=by
 have e:=Option.some.inj (ho.symm.trans (rfl:cD 0 1 b46=some _))
 subst e
 clear ho
 show aH _ _ _ _ _ _=_
 revert hF
 unfold ck_wire_CheckItem_k1_v
 refine aX (fun h1=>?_) (fun h1=>?_)
 rotate_left 1
 refine aX (fun h2=>?_) (fun h2=>?_)
 rotate_left 1
 refine aX (fun h3=>?_) (fun h3=>?_)
 rotate_left 1
 all_goals (rintro rfl;simp (maxSteps:=4000000) only [*,n46k,n46K,n46mv,↓RP,RB,aQ,aD,be,Mx.bl,opnd,Mx.bI,Nat.reduceBEq,bQ,aN,aA,ay,Mx.put,ofConst,ofCell,Mx.prune,killB,aK,putDst,aw,aE,loadAt,bT,List.map,cz,cB,ax,cy,cx,bh,ty3,ty40,↓aa _ _ _ _ 1])
theorem r_wire_CheckItem (C:aj) (k_clCCall:K_clCCall C) (p0:GItem) (r:Int) (hF:wire_CheckItem p0=some r):cR TT C.wide (evW TT C.wide n46 b46) n46 Try.f46.results.toList (aU Try.f46) [.agg [.v (.i .i64 p0.fTerm),.v (.i .i64 p0.fTime),.v (.b p0.fNop),.v (.i .i64 p0.fCall.fClient),.v (.i .i64 p0.fCall.fSeq),.v (.i .i64 p0.fCall.fCommand.fKind),.v (.s p0.fCall.fCommand.fKey),.v (.s p0.fCall.fCommand.fField),.v (.s p0.fCall.fCommand.fText),.v (.i .i64 p0.fCall.fCommand.fN)]] []=some (.v (.i .i64 r),[]):=by
 revert hF
 unfold wire_CheckItem
 refine someX ?_
 unfold wire_CheckItem_v
 have g1:=rg_wire_CheckItem_k1 C p0 _ rfl (ck_wire_CheckItem_k1_v p0) rfl
 refine aX (fun h1=>?_) (fun h1=>?_)
 rotate_left 1
 refine bF (fun h2=>?_) (fun h2=>?_)
 focus
  have g2:=bK (k_clCCall p0.fCall _ (clCCall_t p0.fCall))
  try simp only [h2] at g1
 rotate_left 1
 unfold wire_CheckItem_v_c0
 refine bF (fun h3=>?_) (fun h3=>?_)
 focus
  try simp only [h2] at g1
 rotate_left 1
 refine bF (fun h4=>?_) (fun h4=>?_)
 focus
  try simp only [h2] at g1
 rotate_left 1
 refine bF (fun h5=>?_) (fun h5=>?_)
 focus
  try simp only [h2] at g1
 rotate_left 1
 refine bF (fun h6=>?_) (fun h6=>?_)
 focus
  try simp only [h2] at g1
 rotate_left 1
 refine bF (fun h7=>?_) (fun h7=>?_)
 focus
  try simp only [h2] at g1
 rotate_left 1
 refine bF (fun h8=>?_) (fun h8=>?_)
 focus
  try simp only [h2] at g1
 rotate_left 1
 refine aX (fun h9=>?_) (fun h9=>?_)
 focus
  try simp only [h2] at g1
 rotate_left 1
 try simp only [h2] at g1
 all_goals (rintro rfl;rw [bk];show cC _ _ _ (aH _ _ _ _ (Code.seq _ _) _)=_;simp (maxSteps:=4000000) only [*,res46,n46a,n46A,n46k,n46K,n46ro,n46mv,↓RP,RB,enter,be,bf,aJ,Mx.bl,opnd,Mx.bI,Nat.reduceBEq,bQ,Mx.fit,bP,co,toVs,cellsOf,toV,aN,aA,ay,Mx.put,ofConst,ofCell,Mx.prune,killB,aK,putDst,aw,aE,loadAt,bT,List.map,Nat.reduceAdd,cz,aG,eqC,aC,bu,bx,cA,bS,bJ,aM,lowC,forceAll,lend,lendA,aS,aB,bR,bare,bW,fill,takeParts,ax,av,atO,newB,cw,bne,↓ao,↓am,ty3,ty4,ty29,ty36,ty38,ty40,↓aa _ _ _ _ 0,↓bg _ _ _ _ 1,↓aa _ _ _ _ 2,↓aa _ _ _ _ 3,↓aa _ _ _ _ 4,↓aa _ _ _ _ 5,↓aa _ _ _ _ 6,↓aa _ _ _ _ 7])
def n53K:List (Nat×List Nat):=[(0,[1]),(1,[1,43]),(2,[2]),(3,[1,3,4]),(4,[3,4,47,48,49]),(5,[3,4,47,48,49,50]),(6,[3,4,6,47,48,49]),(7,[6,47,48,49,67]),(8,[2]),(9,[3,4,47,48,49]),(10,[3,4,47,48,49]),(11,[2])]
def n53A:List (Nat×List Nat×List Nat):=[(43,[],[1]),(50,[3,4,47,48,49],[]),(67,[],[6,47,48,49])]
def n53:cL where
 keep:=ax n53K
 ro:=fun t=>t==1
 mv:=fun _=>false
 give:=fun _=>false
 free:=fun i=>match i with|9=>[(0,2),(1,2),(0,3),(1,3),(2,4),(3,4)]|_=>[]
 alive:=av n53A
theorem n53a (t:Nat) (x:Bool) (e:Env) (S:bH):cK n53 t x ⟨e,S⟩=atO (av n53A t x) e S:=cF rfl t x e S
theorem n53k (i:Nat):n53.keep i=ax n53K i:=rfl
theorem n53ro (t:Nat):n53.ro t=(t==1):=rfl
theorem n53mv (t:Nat):n53.mv t=(false):=rfl
theorem n53f9:n53.free 9= [(0,2),(1,2),(0,3),(1,3),(2,4),(3,4)]:=rfl
theorem res53:Try.f53.results.toList= [.tmp 2]:=rfl
noncomputable def b53:Code:=aU Try.f53
noncomputable def c53_0:Code:=(bE 0 (aU Try.f53)).getD .skip
theorem fl53_0:bE 0 b53=some c53_0:=rfl
theorem rg_ledger_Check_k1 (C:aj)  (p0:GLog) (c:Code) (ho:cD 0 1 b53=some c) (r:Bool) (hF:ck_ledger_Check_k1_v p0=r): @cV TT C.wide (evW TT C.wide n53 b53) n53 0 1 ⟨[(1,.rp [.i .i64 p0.fBase,.i .i64 p0.fBaseTerm,.sl 10 (ah GItem.row p0.fItems)])],[]⟩ ⟨c⟩=some (.normal,⟨[(1,.rp [.i .i64 p0.fBase,.i .i64 p0.fBaseTerm,.sl 10 (ah GItem.row p0.fItems)]),(43,.v (.b r))],[]⟩):=by
 have e:=Option.some.inj (ho.symm.trans (rfl:cD 0 1 b53=some _))
 subst e
 clear ho
 show aH _ _ _ _ _ _=_
 revert hF
 unfold ck_ledger_Check_k1_v
 refine aX (fun h1=>?_) (fun h1=>?_)
 rotate_left 1
 unfold ck_ledger_Check_k1_v_c0
 refine aX (fun h2=>?_) (fun h2=>?_)
 rotate_left 1
 refine aX (fun h3=>?_) (fun h3=>?_)
 rotate_left 1
 refine aX (fun h4=>?_) (fun h4=>?_)
 focus
  refine bF (fun h5=>?_) (fun h5=>?_)
  rotate_left 1
  refine aX (fun h6=>?_) (fun h6=>?_)
  rotate_left 1
 rotate_left 3
 refine aX (fun h5=>?_) (fun h5=>?_)
 rotate_left 1
 refine aX (fun h6=>?_) (fun h6=>?_)
 rotate_left 1
 all_goals (rintro rfl;simp (maxSteps:=4000000) only [*,n53k,n53K,n53mv,↓RP,RB,aQ,aD,be,Mx.bl,opnd,Mx.bI,Nat.reduceBEq,bQ,aN,aA,ay,Mx.put,ofConst,ofCell,Mx.prune,killB,aK,putDst,aw,aE,loadAt,bT,List.map,cz,cB,cu,ax,cy,cx,bh,ty3,ty4,ty48,ty50,↓aa _ _ _ _ 1])
theorem rg_ledger_Check_k7v2 (C:aj) (k_wire_CheckItem:K_wire_CheckItem C) (p0:Int) (p1:Int) (p2:List GItem) (p3:Int) (p4:Int) (p5:GItem) (c:Code) (ho:cD 0 7 b53=some c) (r:Bool) (hF:ck_ledger_Check_k7v2_v p0 p1 p2 p3 p4 p5=r): @cV TT C.wide (evW TT C.wide n53 b53) n53 0 7 ⟨[(3,.v (.i .i64 p0)),(4,.v (.i .i64 p1)),(6,.ptr 0 0),(47,.v (.sl 10 (ah GItem.row p2))),(48,.v (.i .i64 p3)),(49,.v (.i .i64 p4))],[[.v (.i .i64 p5.fTerm),.v (.i .i64 p5.fTime),.v (.b p5.fNop),.v (.i .i64 p5.fCall.fClient),.v (.i .i64 p5.fCall.fSeq),.v (.i .i64 p5.fCall.fCommand.fKind),.v (.s p5.fCall.fCommand.fKey),.v (.s p5.fCall.fCommand.fField),.v (.s p5.fCall.fCommand.fText),.v (.i .i64 p5.fCall.fCommand.fN)]]⟩ ⟨c⟩=some (.normal,⟨[(6,.ptr 0 0),(47,.v (.sl 10 (ah GItem.row p2))),(48,.v (.i .i64 p3)),(49,.v (.i .i64 p4)),(67,.v (.b r))],[[.v (.i .i64 p5.fTerm),.v (.i .i64 p5.fTime),.v (.b p5.fNop),.v (.i .i64 p5.fCall.fClient),.v (.i .i64 p5.fCall.fSeq),.v (.i .i64 p5.fCall.fCommand.fKind),.v (.s p5.fCall.fCommand.fKey),.v (.s p5.fCall.fCommand.fField),.v (.s p5.fCall.fCommand.fText),.v (.i .i64 p5.fCall.fCommand.fN)]]⟩):=by
 have e:=Option.some.inj (ho.symm.trans (rfl:cD 0 7 b53=some _))
 subst e
 clear ho
 show aH _ _ _ _ _ _=_
 revert hF
 unfold ck_ledger_Check_k7v2_v
 have g1:=bK (k_wire_CheckItem p5 _ (wire_CheckItem_t p5))
 refine bF (fun h1=>?_) (fun h1=>?_)
 rotate_left 1
 refine aX (fun h2=>?_) (fun h2=>?_)
 rotate_left 1
 all_goals (rintro rfl;simp (maxSteps:=4000000) only [*,n53k,n53K,n53mv,↓RP,RB,aQ,aD,be,Mx.bl,opnd,Mx.bI,Nat.reduceBEq,bQ,aN,aA,ay,Mx.put,ofConst,ofCell,Mx.prune,killB,aK,putDst,aw,aE,loadAt,bT,List.map,Nat.reduceAdd,cz,cB,forceAll,lend,lendA,aS,aB,bR,bare,bW,ax,newB,cw,cy,cx,bne,bh,aP,ty3,ty40,↓aa _ _ _ _ 7])
def hd_ledger_Check_0 (p2:List GItem) (p3:Int) (s:Int×Int×Int):St:=⟨[(3,.v (.i .i64 s.1)),(4,.v (.i .i64 s.2.1)),(47,.v (.sl 10 (ah GItem.row p2))),(48,.v (.i .i64 p3)),(49,.v (.i .i64 s.2.2))],[]⟩
def ou_ledger_Check_0 (p2:List GItem) (p3:Int) (r:GItem⊕Unit):Option (Ex×St):=match r with
 | .inl r=>some (.ret,⟨[(2,.v (.i .i64 13))],[[.v (.i .i64 r.fTerm),.v (.i .i64 r.fTime),.v (.b r.fNop),.v (.i .i64 r.fCall.fClient),.v (.i .i64 r.fCall.fSeq),.v (.i .i64 r.fCall.fCommand.fKind),.v (.s r.fCall.fCommand.fKey),.v (.s r.fCall.fCommand.fField),.v (.s r.fCall.fCommand.fText),.v (.i .i64 r.fCall.fCommand.fN)]]⟩)
 | .inr r=>some (.normal,⟨[],[]⟩)
theorem sl_ledger_Check_0 (C:aj) (k_wire_CheckItem:K_wire_CheckItem C) (p2:List GItem) (p3:Int) (s:Int×Int×Int) (o:(Int×Int×Int)⊕(GItem⊕Unit)) (hF:st_ledger_Check_0 p2 p3 s=some o):evW TT C.wide n53 b53 0 (hd_ledger_Check_0 p2 p3 s)=Sum.elim (fun s=>evW TT C.wide n53 b53 0 (hd_ledger_Check_0 p2 p3 s)) (fun r=>ou_ledger_Check_0 p2 p3 r) o:=by
 obtain⟨p0,p1,p4⟩:=s
 rw [cG TT n53 fl53_0]
 revert hF
 unfold st_ledger_Check_0
 try dsimp only
 refine bF (fun h1=>?_) (fun h1=>?_)
 rotate_left 1
 refine az fun x1 h2=>?_
 have g1:decide (0≤p4)=true:=(cp h2).1
 have g2:(ah GItem.row p2)[(p4:Int).toNat]? =some [.i .i64 x1.fTerm,.i .i64 x1.fTime,.b x1.fNop,.i .i64 x1.fCall.fClient,.i .i64 x1.fCall.fSeq,.i .i64 x1.fCall.fCommand.fKind,.s x1.fCall.fCommand.fKey,.s x1.fCall.fCommand.fField,.s x1.fCall.fCommand.fText,.i .i64 x1.fCall.fCommand.fN]:=cn _ h2
 have g3:=rg_ledger_Check_k7v2 C k_wire_CheckItem p0 p1 p2 p3 p4 x1 _ rfl (ck_ledger_Check_k7v2_v p0 p1 p2 p3 p4 x1) rfl
 refine aX (fun h3=>?_) (fun h3=>?_)
 rotate_left 1
 all_goals (rintro⟨⟩;show cN _ _ _ (aH _ _ _ _ (Code.seq _ _) _)=_;simp (maxSteps:=4000000) only [*,hd_ledger_Check_0,ou_ledger_Check_0,n53a,n53A,n53k,n53K,n53f9,n53mv,↓RP,RB,↓ai,be,bf,aJ,Mx.bl,opnd,Mx.bI,Nat.reduceBEq,bQ,Mx.fit,bP,co,cellsOf,aN,aA,ay,Mx.put,ofConst,ofCell,Mx.prune,killB,killBs,aK,putDst,aw,aE,loadAt,bT,List.map,Nat.reduceAdd,cz,cB,bJ,aM,lowC,bj,kill,bG,setCells,Nat.reduceSub,Nat.reduceLeDiff,lowA,bn,bM,cd,au,aI,aY,cm,bL,cv,ch,bo,aL,bm,bp,bd,Op.operands,ax,av,atO,cy,cx,bne,↓ao,↓am,br,bN,ty3,ty29,ty40,ty48,↓aa _ _ _ _ 5,↓aa _ _ _ _ 6,↓bg _ _ _ _ 7,↓aa _ _ _ _ 8,↓aq _ _ _ _ 9,↓aa _ _ _ _ 10])
theorem r_ledger_Check (C:aj) (k_wire_CheckItem:K_wire_CheckItem C) (p0:GLog) (r:Int) (hF:ledger_Check p0=some r):cR TT C.wide (evW TT C.wide n53 b53) n53 Try.f53.results.toList (aU Try.f53) [.agg [.v (.i .i64 p0.fBase),.v (.i .i64 p0.fBaseTerm),.v (.sl 10 (ah GItem.row p0.fItems))]] []=some (.v (.i .i64 r),[]):=by
 revert hF
 unfold ledger_Check
 have g1:=rg_ledger_Check_k1 C p0 _ rfl (ck_ledger_Check_k1_v p0) rfl
 refine aX (fun h1=>?_) (fun h1=>?_)
 rotate_left 1
 refine az ?_
 rintro (x1|_) h2
 focus
  dsimp only
  have g2:=cH _ _ (sl_ledger_Check_0 C k_wire_CheckItem p0.fItems (p0.fItems.length:Int)) h2
  try simp only [hd_ledger_Check_0,ou_ledger_Check_0] at g2
 rotate_left 1
 dsimp only
 have g3:=cH _ _ (sl_ledger_Check_0 C k_wire_CheckItem p0.fItems (p0.fItems.length:Int)) h2
 try simp only [hd_ledger_Check_0,ou_ledger_Check_0] at g3
 all_goals (rintro⟨⟩;rw [bk];show cC _ _ _ (aH _ _ _ _ (Code.seq _ _) _)=_;simp (maxSteps:=4000000) only [*,res53,n53a,n53A,n53k,n53K,n53ro,n53mv,↓RP,RB,enter,be,bf,aJ,Mx.bl,opnd,Mx.bI,Nat.reduceBEq,bQ,Mx.fit,bP,co,toVs,cellsOf,toV,aN,aA,ay,Mx.put,ofConst,ofCell,Mx.prune,killB,aK,putDst,aw,aE,loadAt,bT,List.map,cu,aC,bu,bx,cA,bS,bJ,aM,lowC,ax,av,atO,↓ao,↓am,ty3,ty29,ty48,ty50,↓aa _ _ _ _ 0,↓bg _ _ _ _ 1,↓aa _ _ _ _ 2,↓aa _ _ _ _ 3,↓aa _ _ _ _ 4,↓aa _ _ _ _ 11])
def n45K:List (Nat×List Nat):=[(0,[0]),(1,[2])]
def n45:cL where
 keep:=ax n45K
 ro:=fun _=>false
 mv:=fun _=>false
 give:=fun _=>false
 free:=fun _=>[]
theorem n45k (i:Nat):n45.keep i=ax n45K i:=rfl
theorem res45:Try.f45.results.toList= [.tmp 2]:=rfl
noncomputable def b45:Code:=aU Try.f45
theorem r_tape_number (C:aj)  (p0:Int) (r:Bool) (hF:tape_number p0=some r):cR TT C.wide (evW TT C.wide n45 b45) n45 Try.f45.results.toList (aU Try.f45) [.v (.i .i64 p0)] []=some (.v (.b r),[]):=by
 revert hF
 unfold tape_number
 refine aX (fun h1=>?_) (fun h1=>?_)
 rotate_left 1
 all_goals (rintro⟨⟩;rw [bk];show cC _ _ _ (aH _ _ _ _ (Code.seq _ _) _)=_;simp (maxSteps:=4000000) only [*,res45,n45k,n45K,↓RP,RB,enter,aQ,aD,be,bf,aJ,Mx.bl,opnd,Mx.bI,Nat.reduceBEq,bQ,Mx.fit,co,aN,aA,Mx.put,ofConst,ofCell,Mx.prune,killB,aK,putDst,aw,List.map,cz,cB,aC,bu,bx,cA,bS,bJ,aM,lowC,ax,cy,cx,↓ao,↓aa,bh,ty4])
def n114K:List (Nat×List Nat):=[(0,[1]),(1,[2])]
def n114:cL where
 keep:=ax n114K
 ro:=fun t=>t==1
 mv:=fun _=>false
 give:=fun _=>false
 free:=fun _=>[]
theorem n114k (i:Nat):n114.keep i=ax n114K i:=rfl
theorem n114ro (t:Nat):n114.ro t=(t==1):=rfl
theorem n114mv (t:Nat):n114.mv t=(false):=rfl
theorem res114:Try.f114.results.toList= [.tmp 2]:=rfl
noncomputable def b114:Code:=aU Try.f114
theorem r_value_elements (C:aj)  (p0:GValue) (r:Int) (hF:value_elements p0=some r):cR TT C.wide (evW TT C.wide n114 b114) n114 Try.f114.results.toList (aU Try.f114) [.agg [.v (.i .i64 p0.fKind),.v (.s p0.fText),.v (.i .i64 p0.fCount),.v (.sl 2 (ah GPair.row p0.fPairs)),.v (.sl 1 (ah bY p0.fItems)),.v (.sl 2 (ah GScore.row p0.fScores))]] []=some (.v (.i .i64 r),[]):=by
 revert hF
 unfold value_elements
 refine someX ?_
 unfold value_elements_v
 all_goals (rintro rfl;rw [bk];show cC _ _ _ (aH _ _ _ _ (Code.seq _ _) _)=_;simp (maxSteps:=4000000) only [*,res114,n114k,n114K,n114ro,n114mv,↓RP,RB,enter,be,bf,aJ,Mx.bl,opnd,Mx.bI,Nat.reduceBEq,bQ,Mx.fit,bP,co,toVs,cellsOf,toV,aN,aA,ay,Mx.put,ofConst,ofCell,Mx.prune,killB,aK,putDst,aw,aE,loadAt,bT,List.map,cz,cB,cu,aC,bu,bx,cA,bS,bJ,aM,lowC,ax,cy,cx,↓ao,↓aa,ty3,ty70,ty71,ty72,ty74])
def n116K:List (Nat×List Nat):=[(0,[0]),(1,[2])]
def n116:cL where
 keep:=ax n116K
 ro:=fun _=>false
 mv:=fun _=>false
 give:=fun _=>false
 free:=fun _=>[]
theorem n116k (i:Nat):n116.keep i=ax n116K i:=rfl
theorem res116:Try.f116.results.toList= [.tmp 2]:=rfl
noncomputable def b116:Code:=aU Try.f116
theorem r_vaC_fn1 (C:aj) (k_value_text:K_value_text C) (p0:ByteArray) (r:Bool) (hF:vaC_fn1 p0=some r):cR TT C.wide (evW TT C.wide n116 b116) n116 Try.f116.results.toList (aU Try.f116) [.v (.s p0)] []=some (.v (.b r),[]):=by
 revert hF
 unfold vaC_fn1
 have g1:=bK (k_value_text p0 _ (value_text_t p0))
 all_goals (rintro⟨⟩;rw [bk];show cC _ _ _ (aH _ _ _ _ (Code.seq _ _) _)=_;simp (maxSteps:=4000000) only [*,res116,n116k,n116K,↓RP,RB,enter,be,bf,aJ,Mx.bl,opnd,Mx.bI,Nat.reduceBEq,bQ,Mx.fit,co,aN,aA,Mx.put,ofConst,ofCell,Mx.prune,killB,aK,putDst,aw,List.map,aC,bu,bx,cA,bS,bJ,aM,lowC,forceAll,lend,lendA,aS,aB,bR,bare,bW,ax,newB,cw,↓ao,↓aa,ty4])
def n131K:List (Nat×List Nat):=[(0,[0,1]),(1,[0,1,7,8]),(2,[0,1,7,8,9]),(3,[0,1,5,7,8]),(4,[0,1,5,7,8,16]),(5,[4]),(6,[0,1,7,8]),(7,[4])]
def n131A:List (Nat×List Nat×List Nat):=[(9,[0,1,7,8],[]),(16,[5],[0,1,7,8])]
def n131:cL where
 keep:=ax n131K
 ro:=fun _=>false
 mv:=fun _=>false
 give:=fun _=>false
 free:=fun _=>[]
 alive:=av n131A
theorem n131a (t:Nat) (x:Bool) (e:Env) (S:bH):cK n131 t x ⟨e,S⟩=atO (av n131A t x) e S:=cF rfl t x e S
theorem n131k (i:Nat):n131.keep i=ax n131K i:=rfl
theorem n131mv (t:Nat):n131.mv t=(false):=rfl
theorem n131gv (t:Nat):n131.give t=(false):=rfl
theorem res131:Try.f131.results.toList= [.tmp 4]:=rfl
noncomputable def b131:Code:=aU Try.f131
noncomputable def c131_0:Code:=(bE 0 (aU Try.f131)).getD .skip
theorem fl131_0:bE 0 b131=some c131_0:=rfl
def hd_sISvaC_fn1_0 (p0:List ByteArray) (p1:Int) (s:Int):St:=⟨[(0,.v (.sl 1 (ah bY p0))),(1,.clo 116 []),(7,.v (.i .i64 p1)),(8,.v (.i .i64 s))],[]⟩
def ou_sISvaC_fn1_0 (p0:List ByteArray) (p1:Int) (r:Int⊕Unit):Option (Ex×St):=match r with
 | .inl r=>some (.ret,⟨[(4,.v (.i .i64 r))],[]⟩)
 | .inr r=>some (.normal,⟨[],[]⟩)
theorem sl_sISvaC_fn1_0 (C:aj) (k_vaC_fn1:K_vaC_fn1 C) (p0:List ByteArray) (p1:Int) (p2:Int) (o:Int⊕(Int⊕Unit)) (hF:st_sISvaC_fn1_0 p0 p1 p2=some o):evW TT C.wide n131 b131 0 (hd_sISvaC_fn1_0 p0 p1 p2)=Sum.elim (fun s=>evW TT C.wide n131 b131 0 (hd_sISvaC_fn1_0 p0 p1 s)) (fun r=>ou_sISvaC_fn1_0 p0 p1 r) o:=by
 rw [cG TT n131 fl131_0]
 revert hF
 unfold st_sISvaC_fn1_0
 try dsimp only
 refine bF (fun h1=>?_) (fun h1=>?_)
 rotate_left 1
 refine az fun x1 h2=>?_
 have g1:decide (0≤p2)=true:=(cp h2).1
 have g2:(ah bY p0)[(p2:Int).toNat]? =some [.s x1]:=cn _ h2
 have g3:=bK (k_vaC_fn1 x1 _ (vaC_fn1_t x1))
 refine aX (fun h3=>?_) (fun h3=>?_)
 rotate_left 1
 all_goals (rintro⟨⟩;show cN _ _ _ (aH _ _ _ _ (Code.seq _ _) _)=_;simp (maxSteps:=4000000) only [*,hd_sISvaC_fn1_0,ou_sISvaC_fn1_0,n131a,n131A,n131k,n131K,n131mv,n131gv,↓RP,RB,↓ai,be,bf,aJ,Mx.bl,opnd,Mx.bI,Nat.reduceBEq,bQ,Mx.fit,co,aN,aA,ay,Mx.put,ofConst,ofCell,Mx.prune,killB,killBs,aK,putDst,aw,loadAt,bT,List.map,cz,cB,bJ,aM,bD,bj,kill,frz,cq,bw,argE,argsE,ax,av,atO,cy,cx,↓ao,↓am,↓aa,ty3,ty9,ty71])
theorem r_sISvaC_fn1 (C:aj) (k_vaC_fn1:K_vaC_fn1 C) (p0:List ByteArray) (r:Int) (hF:sISvaC_fn1 p0=some r):cR TT C.wide (evW TT C.wide n131 b131) n131 Try.f131.results.toList (aU Try.f131) [.v (.sl 1 (ah bY p0)),.clo 116 []] []=some (.v (.i .i64 r),[]):=by
 revert hF
 unfold sISvaC_fn1
 refine az ?_
 rintro (x1|_) h1
 focus
  dsimp only
  have g1:=cH _ _ (sl_sISvaC_fn1_0 C k_vaC_fn1 p0 (p0.length:Int)) h1
  try simp only [hd_sISvaC_fn1_0,ou_sISvaC_fn1_0] at g1
 rotate_left 1
 dsimp only
 have g2:=cH _ _ (sl_sISvaC_fn1_0 C k_vaC_fn1 p0 (p0.length:Int)) h1
 try simp only [hd_sISvaC_fn1_0,ou_sISvaC_fn1_0] at g2
 all_goals (rintro⟨⟩;rw [bk];show cC _ _ _ (aH _ _ _ _ (Code.seq _ _) _)=_;simp (maxSteps:=4000000) only [*,res131,n131k,n131K,↓RP,RB,enter,be,bf,aJ,Mx.bl,opnd,Mx.bI,Nat.reduceBEq,bQ,Mx.fit,co,aN,aA,Mx.put,ofConst,ofCell,Mx.prune,killB,killBs,aK,putDst,aw,List.map,cu,aC,bu,bx,cA,bS,bJ,aM,lowC,Int.reduceNeg,ax,↓ao,↓aa,ty3,ty71])
def n91K:List (Nat×List Nat):=[(0,[0,1]),(1,[4])]
def n91:cL where
 keep:=ax n91K
 ro:=fun _=>false
 mv:=fun _=>false
 give:=fun _=>false
 free:=fun _=>[]
theorem n91k (i:Nat):n91.keep i=ax n91K i:=rfl
theorem res91:Try.f91.results.toList= [.tmp 4]:=rfl
noncomputable def b91:Code:=aU Try.f91
theorem r_sCSvaC_fn1 (C:aj) (k_sISvaC_fn1:K_sISvaC_fn1 C) (p0:List ByteArray) (r:Bool) (hF:sCSvaC_fn1 p0=some r):cR TT C.wide (evW TT C.wide n91 b91) n91 Try.f91.results.toList (aU Try.f91) [.v (.sl 1 (ah bY p0)),.clo 116 []] []=some (.v (.b r),[]):=by
 revert hF
 unfold sCSvaC_fn1
 refine az fun x1 h1=>?_
 have g1:=bK (k_sISvaC_fn1 p0 _ h1)
 all_goals (rintro⟨⟩;rw [bk];show cC _ _ _ (aH _ _ _ _ (Code.seq _ _) _)=_;simp (maxSteps:=4000000) only [*,res91,n91k,n91K,↓RP,RB,enter,be,bf,aJ,Mx.bl,opnd,Mx.bI,Nat.reduceBEq,bQ,Mx.fit,co,aN,aA,Mx.put,ofConst,ofCell,Mx.prune,killB,killBs,aK,putDst,aw,List.map,cz,cB,aC,bu,bx,cA,bS,bJ,aM,lowC,forceAll,lend,lendA,aS,aB,bR,bare,bW,ax,newB,cw,cy,cx,↓ao,↓aa,ty4])
def n118K:List (Nat×List Nat):=[(0,[1]),(1,[2])]
def n118:cL where
 keep:=ax n118K
 ro:=fun t=>t==1
 mv:=fun _=>false
 give:=fun _=>false
 free:=fun _=>[]
theorem n118k (i:Nat):n118.keep i=ax n118K i:=rfl
theorem n118ro (t:Nat):n118.ro t=(t==1):=rfl
theorem n118mv (t:Nat):n118.mv t=(false):=rfl
theorem res118:Try.f118.results.toList= [.tmp 2]:=rfl
noncomputable def b118:Code:=aU Try.f118
theorem r_vaC_fn2 (C:aj) (k_value_field:K_value_field C) (k_value_text:K_value_text C) (p0:GPair) (r:Bool) (hF:vaC_fn2 p0=some r):cR TT C.wide (evW TT C.wide n118 b118) n118 Try.f118.results.toList (aU Try.f118) [.agg [.v (.s p0.fField),.v (.s p0.fText)]] []=some (.v (.b r),[]):=by
 revert hF
 unfold vaC_fn2
 have g1:=bK (k_value_field p0.fField _ (value_field_t p0.fField))
 refine aX (fun h1=>?_) (fun h1=>?_)
 focus
  have g2:=bK (k_value_text p0.fText _ (value_text_t p0.fText))
 rotate_left 1
 all_goals (rintro⟨⟩;rw [bk];show cC _ _ _ (aH _ _ _ _ (Code.seq _ _) _)=_;simp (maxSteps:=4000000) only [*,res118,n118k,n118K,n118ro,n118mv,↓RP,RB,enter,aQ,aD,be,bf,aJ,Mx.bl,opnd,Mx.bI,Nat.reduceBEq,bQ,Mx.fit,bP,co,toVs,cellsOf,toV,aN,aA,ay,Mx.put,ofConst,ofCell,Mx.prune,killB,aK,putDst,aw,aE,loadAt,bT,List.map,aC,bu,bx,cA,bS,bJ,aM,lowC,forceAll,lend,lendA,aS,aB,bR,bare,bW,ax,newB,cw,↓ao,↓aa,bh,ty4,ty9,ty110])
def n136K:List (Nat×List Nat):=[(0,[0,1]),(1,[0,1,7,8]),(2,[0,1,7,8,9]),(3,[0,1,5,7,8]),(4,[0,1,5,7,8,16]),(5,[4]),(6,[0,1,7,8]),(7,[4])]
def n136A:List (Nat×List Nat×List Nat):=[(9,[0,1,7,8],[]),(16,[5],[0,1,7,8])]
def n136:cL where
 keep:=ax n136K
 ro:=fun _=>false
 mv:=fun _=>false
 give:=fun _=>false
 free:=fun _=>[]
 alive:=av n136A
theorem n136a (t:Nat) (x:Bool) (e:Env) (S:bH):cK n136 t x ⟨e,S⟩=atO (av n136A t x) e S:=cF rfl t x e S
theorem n136k (i:Nat):n136.keep i=ax n136K i:=rfl
theorem n136mv (t:Nat):n136.mv t=(false):=rfl
theorem n136gv (t:Nat):n136.give t=(false):=rfl
theorem res136:Try.f136.results.toList= [.tmp 4]:=rfl
noncomputable def b136:Code:=aU Try.f136
noncomputable def c136_0:Code:=(bE 0 (aU Try.f136)).getD .skip
theorem fl136_0:bE 0 b136=some c136_0:=rfl
def hd_sIPvaC_fn2_0 (p0:List GPair) (p1:Int) (s:Int):St:=⟨[(0,.v (.sl 2 (ah GPair.row p0))),(1,.clo 118 []),(7,.v (.i .i64 p1)),(8,.v (.i .i64 s))],[]⟩
def ou_sIPvaC_fn2_0 (p0:List GPair) (p1:Int) (r:Int⊕Unit):Option (Ex×St):=match r with
 | .inl r=>some (.ret,⟨[(4,.v (.i .i64 r))],[]⟩)
 | .inr r=>some (.normal,⟨[],[]⟩)
theorem sl_sIPvaC_fn2_0 (C:aj) (k_vaC_fn2:K_vaC_fn2 C) (p0:List GPair) (p1:Int) (p2:Int) (o:Int⊕(Int⊕Unit)) (hF:st_sIPvaC_fn2_0 p0 p1 p2=some o):evW TT C.wide n136 b136 0 (hd_sIPvaC_fn2_0 p0 p1 p2)=Sum.elim (fun s=>evW TT C.wide n136 b136 0 (hd_sIPvaC_fn2_0 p0 p1 s)) (fun r=>ou_sIPvaC_fn2_0 p0 p1 r) o:=by
 rw [cG TT n136 fl136_0]
 revert hF
 unfold st_sIPvaC_fn2_0
 try dsimp only
 refine bF (fun h1=>?_) (fun h1=>?_)
 rotate_left 1
 refine az fun x1 h2=>?_
 have g1:decide (0≤p2)=true:=(cp h2).1
 have g2:(ah GPair.row p0)[(p2:Int).toNat]? =some [.s x1.fField,.s x1.fText]:=cn _ h2
 have g3:=bK (k_vaC_fn2 x1 _ (vaC_fn2_t x1))
 refine aX (fun h3=>?_) (fun h3=>?_)
 rotate_left 1
 all_goals (rintro⟨⟩;show cN _ _ _ (aH _ _ _ _ (Code.seq _ _) _)=_;simp (maxSteps:=4000000) only [*,hd_sIPvaC_fn2_0,ou_sIPvaC_fn2_0,n136a,n136A,n136k,n136K,n136mv,n136gv,↓RP,RB,↓ai,be,bf,aJ,Mx.bl,opnd,Mx.bI,Nat.reduceBEq,bQ,Mx.fit,co,aN,aA,ay,Mx.put,ofConst,ofCell,Mx.prune,killB,killBs,aK,putDst,aw,loadAt,bT,List.map,Nat.reduceAdd,cz,cB,bJ,aM,bD,bj,kill,frz,cq,bw,argE,argsE,ax,av,atO,cy,cx,↓ao,↓am,↓aa,ty3,ty70,ty110])
theorem r_sIPvaC_fn2 (C:aj) (k_vaC_fn2:K_vaC_fn2 C) (p0:List GPair) (r:Int) (hF:sIPvaC_fn2 p0=some r):cR TT C.wide (evW TT C.wide n136 b136) n136 Try.f136.results.toList (aU Try.f136) [.v (.sl 2 (ah GPair.row p0)),.clo 118 []] []=some (.v (.i .i64 r),[]):=by
 revert hF
 unfold sIPvaC_fn2
 refine az ?_
 rintro (x1|_) h1
 focus
  dsimp only
  have g1:=cH _ _ (sl_sIPvaC_fn2_0 C k_vaC_fn2 p0 (p0.length:Int)) h1
  try simp only [hd_sIPvaC_fn2_0,ou_sIPvaC_fn2_0] at g1
 rotate_left 1
 dsimp only
 have g2:=cH _ _ (sl_sIPvaC_fn2_0 C k_vaC_fn2 p0 (p0.length:Int)) h1
 try simp only [hd_sIPvaC_fn2_0,ou_sIPvaC_fn2_0] at g2
 all_goals (rintro⟨⟩;rw [bk];show cC _ _ _ (aH _ _ _ _ (Code.seq _ _) _)=_;simp (maxSteps:=4000000) only [*,res136,n136k,n136K,↓RP,RB,enter,be,bf,aJ,Mx.bl,opnd,Mx.bI,Nat.reduceBEq,bQ,Mx.fit,co,aN,aA,Mx.put,ofConst,ofCell,Mx.prune,killB,killBs,aK,putDst,aw,List.map,cu,aC,bu,bx,cA,bS,bJ,aM,lowC,Int.reduceNeg,ax,↓ao,↓aa,ty3,ty70])
def n117K:List (Nat×List Nat):=[(0,[0,1]),(1,[4])]
def n117:cL where
 keep:=ax n117K
 ro:=fun _=>false
 mv:=fun _=>false
 give:=fun _=>false
 free:=fun _=>[]
theorem n117k (i:Nat):n117.keep i=ax n117K i:=rfl
theorem res117:Try.f117.results.toList= [.tmp 4]:=rfl
noncomputable def b117:Code:=aU Try.f117
theorem r_sCPvaC_fn2 (C:aj) (k_sIPvaC_fn2:K_sIPvaC_fn2 C) (p0:List GPair) (r:Bool) (hF:sCPvaC_fn2 p0=some r):cR TT C.wide (evW TT C.wide n117 b117) n117 Try.f117.results.toList (aU Try.f117) [.v (.sl 2 (ah GPair.row p0)),.clo 118 []] []=some (.v (.b r),[]):=by
 revert hF
 unfold sCPvaC_fn2
 refine az fun x1 h1=>?_
 have g1:=bK (k_sIPvaC_fn2 p0 _ h1)
 all_goals (rintro⟨⟩;rw [bk];show cC _ _ _ (aH _ _ _ _ (Code.seq _ _) _)=_;simp (maxSteps:=4000000) only [*,res117,n117k,n117K,↓RP,RB,enter,be,bf,aJ,Mx.bl,opnd,Mx.bI,Nat.reduceBEq,bQ,Mx.fit,co,aN,aA,Mx.put,ofConst,ofCell,Mx.prune,killB,killBs,aK,putDst,aw,List.map,cz,cB,aC,bu,bx,cA,bS,bJ,aM,lowC,forceAll,lend,lendA,aS,aB,bR,bare,bW,ax,newB,cw,cy,cx,↓ao,↓aa,ty4])
def n121K:List (Nat×List Nat):=[(0,[1]),(1,[2])]
def n121:cL where
 keep:=ax n121K
 ro:=fun t=>t==1
 mv:=fun _=>false
 give:=fun _=>false
 free:=fun _=>[]
theorem n121k (i:Nat):n121.keep i=ax n121K i:=rfl
theorem n121ro (t:Nat):n121.ro t=(t==1):=rfl
theorem n121mv (t:Nat):n121.mv t=(false):=rfl
theorem res121:Try.f121.results.toList= [.tmp 2]:=rfl
noncomputable def b121:Code:=aU Try.f121
theorem r_vaC_fn3 (C:aj) (k_value_text:K_value_text C) (p0:GScore) (r:Bool) (hF:vaC_fn3 p0=some r):cR TT C.wide (evW TT C.wide n121 b121) n121 Try.f121.results.toList (aU Try.f121) [.agg [.v (.s p0.fMember),.v (.i .i64 p0.fN)]] []=some (.v (.b r),[]):=by
 revert hF
 unfold vaC_fn3
 have g1:=bK (k_value_text p0.fMember _ (value_text_t p0.fMember))
 all_goals (rintro⟨⟩;rw [bk];show cC _ _ _ (aH _ _ _ _ (Code.seq _ _) _)=_;simp (maxSteps:=4000000) only [*,res121,n121k,n121K,n121ro,n121mv,↓RP,RB,enter,be,bf,aJ,Mx.bl,opnd,Mx.bI,Nat.reduceBEq,bQ,Mx.fit,bP,co,toVs,cellsOf,toV,aN,aA,ay,Mx.put,ofConst,ofCell,Mx.prune,killB,aK,putDst,aw,aE,loadAt,bT,List.map,aC,bu,bx,cA,bS,bJ,aM,lowC,forceAll,lend,lendA,aS,aB,bR,bare,bW,ax,newB,cw,↓ao,↓aa,ty4,ty9,ty112])
def n137K:List (Nat×List Nat):=[(0,[0,1]),(1,[0,1,7,8]),(2,[0,1,7,8,9]),(3,[0,1,5,7,8]),(4,[0,1,5,7,8,16]),(5,[4]),(6,[0,1,7,8]),(7,[4])]
def n137A:List (Nat×List Nat×List Nat):=[(9,[0,1,7,8],[]),(16,[5],[0,1,7,8])]
def n137:cL where
 keep:=ax n137K
 ro:=fun _=>false
 mv:=fun _=>false
 give:=fun _=>false
 free:=fun _=>[]
 alive:=av n137A
theorem n137a (t:Nat) (x:Bool) (e:Env) (S:bH):cK n137 t x ⟨e,S⟩=atO (av n137A t x) e S:=cF rfl t x e S
theorem n137k (i:Nat):n137.keep i=ax n137K i:=rfl
theorem n137mv (t:Nat):n137.mv t=(false):=rfl
theorem n137gv (t:Nat):n137.give t=(false):=rfl
theorem res137:Try.f137.results.toList= [.tmp 4]:=rfl
noncomputable def b137:Code:=aU Try.f137
noncomputable def c137_0:Code:=(bE 0 (aU Try.f137)).getD .skip
theorem fl137_0:bE 0 b137=some c137_0:=rfl
def hd_sIRvaC_fn3_0 (p0:List GScore) (p1:Int) (s:Int):St:=⟨[(0,.v (.sl 2 (ah GScore.row p0))),(1,.clo 121 []),(7,.v (.i .i64 p1)),(8,.v (.i .i64 s))],[]⟩
def ou_sIRvaC_fn3_0 (p0:List GScore) (p1:Int) (r:Int⊕Unit):Option (Ex×St):=match r with
 | .inl r=>some (.ret,⟨[(4,.v (.i .i64 r))],[]⟩)
 | .inr r=>some (.normal,⟨[],[]⟩)
theorem sl_sIRvaC_fn3_0 (C:aj) (k_vaC_fn3:K_vaC_fn3 C) (p0:List GScore) (p1:Int) (p2:Int) (o:Int⊕(Int⊕Unit)) (hF:st_sIRvaC_fn3_0 p0 p1 p2=some o):evW TT C.wide n137 b137 0 (hd_sIRvaC_fn3_0 p0 p1 p2)=Sum.elim (fun s=>evW TT C.wide n137 b137 0 (hd_sIRvaC_fn3_0 p0 p1 s)) (fun r=>ou_sIRvaC_fn3_0 p0 p1 r) o:=by
 rw [cG TT n137 fl137_0]
 revert hF
 unfold st_sIRvaC_fn3_0
 try dsimp only
 refine bF (fun h1=>?_) (fun h1=>?_)
 rotate_left 1
 refine az fun x1 h2=>?_
 have g1:decide (0≤p2)=true:=(cp h2).1
 have g2:(ah GScore.row p0)[(p2:Int).toNat]? =some [.s x1.fMember,.i .i64 x1.fN]:=cn _ h2
 have g3:=bK (k_vaC_fn3 x1 _ (vaC_fn3_t x1))
 refine aX (fun h3=>?_) (fun h3=>?_)
 rotate_left 1
 all_goals (rintro⟨⟩;show cN _ _ _ (aH _ _ _ _ (Code.seq _ _) _)=_;simp (maxSteps:=4000000) only [*,hd_sIRvaC_fn3_0,ou_sIRvaC_fn3_0,n137a,n137A,n137k,n137K,n137mv,n137gv,↓RP,RB,↓ai,be,bf,aJ,Mx.bl,opnd,Mx.bI,Nat.reduceBEq,bQ,Mx.fit,co,aN,aA,ay,Mx.put,ofConst,ofCell,Mx.prune,killB,killBs,aK,putDst,aw,loadAt,bT,List.map,Nat.reduceAdd,cz,cB,bJ,aM,bD,bj,kill,frz,cq,bw,argE,argsE,ax,av,atO,cy,cx,↓ao,↓am,↓aa,ty3,ty72,ty112])
theorem r_sIRvaC_fn3 (C:aj) (k_vaC_fn3:K_vaC_fn3 C) (p0:List GScore) (r:Int) (hF:sIRvaC_fn3 p0=some r):cR TT C.wide (evW TT C.wide n137 b137) n137 Try.f137.results.toList (aU Try.f137) [.v (.sl 2 (ah GScore.row p0)),.clo 121 []] []=some (.v (.i .i64 r),[]):=by
 revert hF
 unfold sIRvaC_fn3
 refine az ?_
 rintro (x1|_) h1
 focus
  dsimp only
  have g1:=cH _ _ (sl_sIRvaC_fn3_0 C k_vaC_fn3 p0 (p0.length:Int)) h1
  try simp only [hd_sIRvaC_fn3_0,ou_sIRvaC_fn3_0] at g1
 rotate_left 1
 dsimp only
 have g2:=cH _ _ (sl_sIRvaC_fn3_0 C k_vaC_fn3 p0 (p0.length:Int)) h1
 try simp only [hd_sIRvaC_fn3_0,ou_sIRvaC_fn3_0] at g2
 all_goals (rintro⟨⟩;rw [bk];show cC _ _ _ (aH _ _ _ _ (Code.seq _ _) _)=_;simp (maxSteps:=4000000) only [*,res137,n137k,n137K,↓RP,RB,enter,be,bf,aJ,Mx.bl,opnd,Mx.bI,Nat.reduceBEq,bQ,Mx.fit,co,aN,aA,Mx.put,ofConst,ofCell,Mx.prune,killB,killBs,aK,putDst,aw,List.map,cu,aC,bu,bx,cA,bS,bJ,aM,lowC,Int.reduceNeg,ax,↓ao,↓aa,ty3,ty72])
def n120K:List (Nat×List Nat):=[(0,[0,1]),(1,[4])]
def n120:cL where
 keep:=ax n120K
 ro:=fun _=>false
 mv:=fun _=>false
 give:=fun _=>false
 free:=fun _=>[]
theorem n120k (i:Nat):n120.keep i=ax n120K i:=rfl
theorem res120:Try.f120.results.toList= [.tmp 4]:=rfl
noncomputable def b120:Code:=aU Try.f120
theorem r_sCRvaC_fn3 (C:aj) (k_sIRvaC_fn3:K_sIRvaC_fn3 C) (p0:List GScore) (r:Bool) (hF:sCRvaC_fn3 p0=some r):cR TT C.wide (evW TT C.wide n120 b120) n120 Try.f120.results.toList (aU Try.f120) [.v (.sl 2 (ah GScore.row p0)),.clo 121 []] []=some (.v (.b r),[]):=by
 revert hF
 unfold sCRvaC_fn3
 refine az fun x1 h1=>?_
 have g1:=bK (k_sIRvaC_fn3 p0 _ h1)
 all_goals (rintro⟨⟩;rw [bk];show cC _ _ _ (aH _ _ _ _ (Code.seq _ _) _)=_;simp (maxSteps:=4000000) only [*,res120,n120k,n120K,↓RP,RB,enter,be,bf,aJ,Mx.bl,opnd,Mx.bI,Nat.reduceBEq,bQ,Mx.fit,co,aN,aA,Mx.put,ofConst,ofCell,Mx.prune,killB,killBs,aK,putDst,aw,List.map,cz,cB,aC,bu,bx,cA,bS,bJ,aM,lowC,forceAll,lend,lendA,aS,aB,bR,bare,bW,ax,newB,cw,cy,cx,↓ao,↓aa,ty4])
def n123K:List (Nat×List Nat):=[(0,[1]),(1,[2])]
def n123:cL where
 keep:=ax n123K
 ro:=fun t=>t==1
 mv:=fun _=>false
 give:=fun _=>false
 free:=fun _=>[]
theorem n123k (i:Nat):n123.keep i=ax n123K i:=rfl
theorem n123ro (t:Nat):n123.ro t=(t==1):=rfl
theorem n123mv (t:Nat):n123.mv t=(false):=rfl
theorem res123:Try.f123.results.toList= [.tmp 2]:=rfl
noncomputable def b123:Code:=aU Try.f123
theorem r_vaC_fn4 (C:aj) (k_value_count:K_value_count C) (p0:GScore) (r:Bool) (hF:vaC_fn4 p0=some r):cR TT C.wide (evW TT C.wide n123 b123) n123 Try.f123.results.toList (aU Try.f123) [.agg [.v (.s p0.fMember),.v (.i .i64 p0.fN)]] []=some (.v (.b r),[]):=by
 revert hF
 unfold vaC_fn4
 have g1:=bK (k_value_count p0.fN _ (value_count_t p0.fN))
 all_goals (rintro⟨⟩;rw [bk];show cC _ _ _ (aH _ _ _ _ (Code.seq _ _) _)=_;simp (maxSteps:=4000000) only [*,res123,n123k,n123K,n123ro,n123mv,↓RP,RB,enter,be,bf,aJ,Mx.bl,opnd,Mx.bI,Nat.reduceBEq,bQ,Mx.fit,bP,co,toVs,cellsOf,toV,aN,aA,ay,Mx.put,ofConst,ofCell,Mx.prune,killB,aK,putDst,aw,aE,loadAt,bT,List.map,aC,bu,bx,cA,bS,bJ,aM,lowC,forceAll,lend,lendA,aS,aB,bR,bare,bW,ax,newB,cw,↓ao,↓aa,ty3,ty4,ty112])
def hd_sIRvaC_fn4_0 (p0:List GScore) (p1:Int) (s:Int):St:=⟨[(0,.v (.sl 2 (ah GScore.row p0))),(1,.clo 123 []),(7,.v (.i .i64 p1)),(8,.v (.i .i64 s))],[]⟩
def ou_sIRvaC_fn4_0 (p0:List GScore) (p1:Int) (r:Int⊕Unit):Option (Ex×St):=match r with
 | .inl r=>some (.ret,⟨[(4,.v (.i .i64 r))],[]⟩)
 | .inr r=>some (.normal,⟨[],[]⟩)
theorem sl_sIRvaC_fn4_0 (C:aj) (k_vaC_fn4:K_vaC_fn4 C) (p0:List GScore) (p1:Int) (p2:Int) (o:Int⊕(Int⊕Unit)) (hF:st_sIRvaC_fn4_0 p0 p1 p2=some o):evW TT C.wide n137 b137 0 (hd_sIRvaC_fn4_0 p0 p1 p2)=Sum.elim (fun s=>evW TT C.wide n137 b137 0 (hd_sIRvaC_fn4_0 p0 p1 s)) (fun r=>ou_sIRvaC_fn4_0 p0 p1 r) o:=by
 rw [cG TT n137 fl137_0]
 revert hF
 unfold st_sIRvaC_fn4_0
 try dsimp only
 refine bF (fun h1=>?_) (fun h1=>?_)
 rotate_left 1
 refine az fun x1 h2=>?_
 have g1:decide (0≤p2)=true:=(cp h2).1
 have g2:(ah GScore.row p0)[(p2:Int).toNat]? =some [.s x1.fMember,.i .i64 x1.fN]:=cn _ h2
 have g3:=bK (k_vaC_fn4 x1 _ (vaC_fn4_t x1))
 refine aX (fun h3=>?_) (fun h3=>?_)
 rotate_left 1
 all_goals (rintro⟨⟩;show cN _ _ _ (aH _ _ _ _ (Code.seq _ _) _)=_;simp (maxSteps:=4000000) only [*,hd_sIRvaC_fn4_0,ou_sIRvaC_fn4_0,n137a,n137A,n137k,n137K,n137mv,n137gv,↓RP,RB,↓ai,be,bf,aJ,Mx.bl,opnd,Mx.bI,Nat.reduceBEq,bQ,Mx.fit,co,aN,aA,ay,Mx.put,ofConst,ofCell,Mx.prune,killB,killBs,aK,putDst,aw,loadAt,bT,List.map,Nat.reduceAdd,cz,cB,bJ,aM,bD,bj,kill,frz,cq,bw,argE,argsE,ax,av,atO,cy,cx,↓ao,↓am,↓aa,ty3,ty72,ty112])
theorem r_sIRvaC_fn4 (C:aj) (k_vaC_fn4:K_vaC_fn4 C) (p0:List GScore) (r:Int) (hF:sIRvaC_fn4 p0=some r):cR TT C.wide (evW TT C.wide n137 b137) n137 Try.f137.results.toList (aU Try.f137) [.v (.sl 2 (ah GScore.row p0)),.clo 123 []] []=some (.v (.i .i64 r),[]):=by
 revert hF
 unfold sIRvaC_fn4
 refine az ?_
 rintro (x1|_) h1
 focus
  dsimp only
  have g1:=cH _ _ (sl_sIRvaC_fn4_0 C k_vaC_fn4 p0 (p0.length:Int)) h1
  try simp only [hd_sIRvaC_fn4_0,ou_sIRvaC_fn4_0] at g1
 rotate_left 1
 dsimp only
 have g2:=cH _ _ (sl_sIRvaC_fn4_0 C k_vaC_fn4 p0 (p0.length:Int)) h1
 try simp only [hd_sIRvaC_fn4_0,ou_sIRvaC_fn4_0] at g2
 all_goals (rintro⟨⟩;rw [bk];show cC _ _ _ (aH _ _ _ _ (Code.seq _ _) _)=_;simp (maxSteps:=4000000) only [*,res137,n137k,n137K,↓RP,RB,enter,be,bf,aJ,Mx.bl,opnd,Mx.bI,Nat.reduceBEq,bQ,Mx.fit,co,aN,aA,Mx.put,ofConst,ofCell,Mx.prune,killB,killBs,aK,putDst,aw,List.map,cu,aC,bu,bx,cA,bS,bJ,aM,lowC,Int.reduceNeg,ax,↓ao,↓aa,ty3,ty72])
theorem r_sCRvaC_fn4 (C:aj) (k_sIRvaC_fn4:K_sIRvaC_fn4 C) (p0:List GScore) (r:Bool) (hF:sCRvaC_fn4 p0=some r):cR TT C.wide (evW TT C.wide n120 b120) n120 Try.f120.results.toList (aU Try.f120) [.v (.sl 2 (ah GScore.row p0)),.clo 123 []] []=some (.v (.b r),[]):=by
 revert hF
 unfold sCRvaC_fn4
 refine az fun x1 h1=>?_
 have g1:=bK (k_sIRvaC_fn4 p0 _ h1)
 all_goals (rintro⟨⟩;rw [bk];show cC _ _ _ (aH _ _ _ _ (Code.seq _ _) _)=_;simp (maxSteps:=4000000) only [*,res120,n120k,n120K,↓RP,RB,enter,be,bf,aJ,Mx.bl,opnd,Mx.bI,Nat.reduceBEq,bQ,Mx.fit,co,aN,aA,Mx.put,ofConst,ofCell,Mx.prune,killB,killBs,aK,putDst,aw,List.map,cz,cB,aC,bu,bx,cA,bS,bJ,aM,lowC,forceAll,lend,lendA,aS,aB,bR,bare,bW,ax,newB,cw,cy,cx,↓ao,↓aa,ty4])
def n140K:List (Nat×List Nat):=[(0,[0,1]),(1,[4])]
def n140:cL where
 keep:=ax n140K
 ro:=fun _=>false
 mv:=fun _=>false
 give:=fun _=>false
 free:=fun _=>[]
theorem n140k (i:Nat):n140.keep i=ax n140K i:=rfl
theorem res140:Try.f140.results.toList= [.tmp 4]:=rfl
noncomputable def b140:Code:=aU Try.f140
theorem r_ibCompareString (C:aj) (k_cmpstring:K_cmpstring C) (p0:ByteArray) (p1:ByteArray) (r:Int) (hF:ibCompareString p0 p1=some r):cR TT C.wide (evW TT C.wide n140 b140) n140 Try.f140.results.toList (aU Try.f140) [.v (.s p0),.v (.s p1)] []=some (.v (.i .i64 r),[]):=by
 revert hF
 unfold ibCompareString
 refine someX ?_
 unfold ibCompareString_v
 have g1:=bK (k_cmpstring p0 p1 _ (cmpstring_t p0 p1))
 all_goals (rintro rfl;rw [bk];show cC _ _ _ (aH _ _ _ _ (Code.seq _ _) _)=_;simp (maxSteps:=4000000) only [*,res140,n140k,n140K,↓RP,RB,enter,be,bf,aJ,Mx.bl,opnd,Mx.bI,Nat.reduceBEq,bQ,Mx.fit,co,aN,aA,Mx.put,ofConst,ofCell,Mx.prune,killB,aK,putDst,aw,List.map,aC,bu,bx,cA,bS,bJ,aM,lowC,forceAll,lend,lendA,aS,aB,bR,bare,bW,ax,newB,cw,↓ao,↓aa,ty3])
def n129K:List (Nat×List Nat):=[(0,[0,1]),(1,[4])]
def n129:cL where
 keep:=ax n129K
 ro:=fun _=>false
 mv:=fun _=>false
 give:=fun _=>false
 free:=fun _=>[]
theorem n129k (i:Nat):n129.keep i=ax n129K i:=rfl
theorem res129:Try.f129.results.toList= [.tmp 4]:=rfl
noncomputable def b129:Code:=aU Try.f129
theorem r_strings_Compare (C:aj) (k_ibCompareString:K_ibCompareString C) (p0:ByteArray) (p1:ByteArray) (r:Int) (hF:strings_Compare p0 p1=some r):cR TT C.wide (evW TT C.wide n129 b129) n129 Try.f129.results.toList (aU Try.f129) [.v (.s p0),.v (.s p1)] []=some (.v (.i .i64 r),[]):=by
 revert hF
 unfold strings_Compare
 refine someX ?_
 unfold strings_Compare_v
 have g1:=bK (k_ibCompareString p0 p1 _ (ibCompareString_t p0 p1))
 all_goals (rintro rfl;rw [bk];show cC _ _ _ (aH _ _ _ _ (Code.seq _ _) _)=_;simp (maxSteps:=4000000) only [*,res129,n129k,n129K,↓RP,RB,enter,be,bf,aJ,Mx.bl,opnd,Mx.bI,Nat.reduceBEq,bQ,Mx.fit,co,aN,aA,Mx.put,ofConst,ofCell,Mx.prune,killB,aK,putDst,aw,List.map,aC,bu,bx,cA,bS,bJ,aM,lowC,forceAll,lend,lendA,aS,aB,bR,bare,bW,ax,newB,cw,↓ao,↓aa,ty3])
def n125K:List (Nat×List Nat):=[(0,[2,3]),(1,[4])]
def n125:cL where
 keep:=ax n125K
 ro:=fun t=>t==2||t==3
 mv:=fun _=>false
 give:=fun _=>false
 free:=fun _=>[]
theorem n125k (i:Nat):n125.keep i=ax n125K i:=rfl
theorem n125ro (t:Nat):n125.ro t=(t==2||t==3):=rfl
theorem n125mv (t:Nat):n125.mv t=(false):=rfl
theorem res125:Try.f125.results.toList= [.tmp 4]:=rfl
noncomputable def b125:Code:=aU Try.f125
theorem r_value_byField (C:aj) (k_strings_Compare:K_strings_Compare C) (p0:GPair) (p1:GPair) (r:Int) (hF:value_byField p0 p1=some r):cR TT C.wide (evW TT C.wide n125 b125) n125 Try.f125.results.toList (aU Try.f125) [.agg [.v (.s p0.fField),.v (.s p0.fText)],.agg [.v (.s p1.fField),.v (.s p1.fText)]] []=some (.v (.i .i64 r),[]):=by
 revert hF
 unfold value_byField
 refine someX ?_
 unfold value_byField_v
 have g1:=bK (k_strings_Compare p0.fField p1.fField _ (strings_Compare_t p0.fField p1.fField))
 all_goals (rintro rfl;rw [bk];show cC _ _ _ (aH _ _ _ _ (Code.seq _ _) _)=_;simp (maxSteps:=4000000) only [*,res125,n125k,n125K,n125ro,n125mv,↓RP,RB,enter,be,bf,aJ,Mx.bl,opnd,Mx.bI,Nat.reduceBEq,bQ,Mx.fit,bP,co,toVs,cellsOf,toV,aN,aA,ay,Mx.put,ofConst,ofCell,Mx.prune,killB,aK,putDst,aw,aE,loadAt,bT,List.map,aC,bu,bx,cA,bS,bJ,aM,lowC,forceAll,lend,lendA,aS,aB,bR,bare,bW,ax,newB,cw,↓ao,↓aa,ty3,ty9,ty110])
def n124K:List (Nat×List Nat):=[(0,[0,1]),(1,[0,1,5]),(2,[0,1,5,9]),(3,[0,1,5]),(4,[0,1,5,23]),(5,[4]),(6,[4])]
def n124A:List (Nat×List Nat×List Nat):=[(9,[0,1,5],[]),(23,[],[0,1,5])]
def n124:cL where
 keep:=ax n124K
 ro:=fun _=>false
 mv:=fun _=>false
 give:=fun _=>false
 free:=fun i=>match i with|4=>[(0,1),(0,2),(1,2),(0,3),(1,3),(0,4),(0,5),(0,6),(1,6),(2,6),(3,6),(4,6),(5,6),(0,7),(1,7),(2,7),(3,7),(4,7),(5,7),(6,7),(0,8),(1,8),(2,8),(3,8),(4,8),(5,8),(0,9),(1,9),(2,9),(3,9),(4,9),(5,9)]|_=>[]
 alive:=av n124A
theorem n124a (t:Nat) (x:Bool) (e:Env) (S:bH):cK n124 t x ⟨e,S⟩=atO (av n124A t x) e S:=cF rfl t x e S
theorem n124k (i:Nat):n124.keep i=ax n124K i:=rfl
theorem n124mv (t:Nat):n124.mv t=(false):=rfl
theorem n124gv (t:Nat):n124.give t=(false):=rfl
theorem n124f4:n124.free 4= [(0,1),(0,2),(1,2),(0,3),(1,3),(0,4),(0,5),(0,6),(1,6),(2,6),(3,6),(4,6),(5,6),(0,7),(1,7),(2,7),(3,7),(4,7),(5,7),(6,7),(0,8),(1,8),(2,8),(3,8),(4,8),(5,8),(0,9),(1,9),(2,9),(3,9),(4,9),(5,9)]:=rfl
theorem res124:Try.f124.results.toList= [.tmp 4]:=rfl
noncomputable def b124:Code:=aU Try.f124
noncomputable def c124_0:Code:=(bE 0 (aU Try.f124)).getD .skip
theorem fl124_0:bE 0 b124=some c124_0:=rfl
def hd_value_rising_Pair_value_byField_0 (p0:List GPair) (s:Int):St:=⟨[(0,.v (.sl 2 (ah GPair.row p0))),(1,.clo 125 []),(5,.v (.i .i64 s))],[]⟩
def ou_value_rising_Pair_value_byField_0 (p0:List GPair) (r:Unit⊕Unit):Option (Ex×St):=match r with
 | .inl r=>some (.ret,⟨[(4,.v (.b false))],[]⟩)
 | .inr r=>some (.normal,⟨[],[]⟩)
theorem sl_value_rising_Pair_value_byField_0 (C:aj) (k_value_byField:K_value_byField C) (p0:List GPair) (p1:Int) (o:Int⊕(Unit⊕Unit)) (hF:st_value_rising_Pair_value_byField_0 p0 p1=some o):evW TT C.wide n124 b124 0 (hd_value_rising_Pair_value_byField_0 p0 p1)=Sum.elim (fun s=>evW TT C.wide n124 b124 0 (hd_value_rising_Pair_value_byField_0 p0 s)) (fun r=>ou_value_rising_Pair_value_byField_0 p0 r) o:=by
 rw [cG TT n124 fl124_0]
 revert hF
 unfold st_value_rising_Pair_value_byField_0
 try dsimp only
 refine bF (fun h1=>?_) (fun h1=>?_)
 rotate_left 1
 refine az fun x1 h2=>?_
 have g1:decide (0≤(IntKind.i64.wrap (p1-1)))=true:=(cp h2).1
 have g2:(ah GPair.row p0)[((IntKind.i64.wrap (p1-1)):Int).toNat]? =some [.s x1.fField,.s x1.fText]:=cn _ h2
 refine az fun x2 h3=>?_
 have g3:decide (0≤p1)=true:=(cp h3).1
 have g4:(ah GPair.row p0)[(p1:Int).toNat]? =some [.s x2.fField,.s x2.fText]:=cn _ h3
 have g5:=bK (k_value_byField x1 x2 _ (value_byField_t x1 x2))
 refine aX (fun h4=>?_) (fun h4=>?_)
 rotate_left 1
 all_goals (rintro⟨⟩;show cN _ _ _ (aH _ _ _ _ (Code.seq _ _) _)=_;simp (maxSteps:=4000000) only [*,hd_value_rising_Pair_value_byField_0,ou_value_rising_Pair_value_byField_0,n124a,n124A,n124k,n124K,n124f4,n124mv,n124gv,↓RP,RB,↓ai,be,bf,aJ,Mx.bl,opnd,Mx.bI,Nat.reduceBEq,bQ,Mx.fit,co,aN,aA,ay,Mx.put,ofConst,ofCell,Mx.prune,killB,killBs,aK,putDst,aw,loadAt,bT,List.map,Nat.reduceAdd,cz,cB,cu,bJ,aM,bD,bj,kill,frz,cq,bw,argE,argsE,bG,bM,cd,au,aI,aY,cm,bL,cv,ch,bo,aL,bm,bp,bd,Op.operands,ax,av,atO,cy,cx,↓ao,↓am,↓aa,↓aq,br,bN,ty3,ty4,ty70,ty110])
theorem r_value_rising_Pair_value_byField (C:aj) (k_value_byField:K_value_byField C) (p0:List GPair) (r:Bool) (hF:value_rising_Pair_value_byField p0=some r):cR TT C.wide (evW TT C.wide n124 b124) n124 Try.f124.results.toList (aU Try.f124) [.v (.sl 2 (ah GPair.row p0)),.clo 125 []] []=some (.v (.b r),[]):=by
 revert hF
 unfold value_rising_Pair_value_byField
 refine az ?_
 rintro (_|_) h1
 focus
  dsimp only
  have g1:=cH _ _ (sl_value_rising_Pair_value_byField_0 C k_value_byField p0) h1
  try simp only [hd_value_rising_Pair_value_byField_0,ou_value_rising_Pair_value_byField_0] at g1
 rotate_left 1
 dsimp only
 have g2:=cH _ _ (sl_value_rising_Pair_value_byField_0 C k_value_byField p0) h1
 try simp only [hd_value_rising_Pair_value_byField_0,ou_value_rising_Pair_value_byField_0] at g2
 all_goals (rintro⟨⟩;rw [bk];show cC _ _ _ (aH _ _ _ _ (Code.seq _ _) _)=_;simp (maxSteps:=4000000) only [*,res124,n124k,n124K,↓RP,RB,enter,be,bf,aJ,Mx.bl,opnd,Mx.bI,Nat.reduceBEq,bQ,Mx.fit,co,aN,aA,Mx.put,ofConst,ofCell,Mx.prune,killB,killBs,List.map,aC,bu,bx,cA,bS,bJ,aM,lowC,ax,↓ao,↓aa,ty3,ty4])
end Go.Proofs.Ytgcglmoogaldbaa
