/- The code of these functions, run by the machine Mx, gives what the plain functions say, if their callees do (part 4). -/
import Derived.Test.YtgcglmoogaldbaaWTy
import Derived.Test.YtgcglmoogaldbaaTapeRestsD
set_option linter.unusedSimpArgs false
set_option linter.unusedVariables false
set_option linter.constructorNameAsVariable false
set_option linter.unnecessarySimpa false
set_option maxRecDepth 100000
set_option maxHeartbeats 40000000
namespace Go.Proofs.Ytgcglmoogaldbaa
open Go Go.Mx Go.Proofs
def n41K:List (Nat×List Nat):=[(0,[1]),(1,[1,20]),(2,[2]),(3,[1,3]),(4,[1,3,25]),(5,[1,3]),(6,[1,3,4]),(7,[1,3,80]),(8,[2]),(9,[2])]
def n41A:List (Nat×List Nat×List Nat):=[(20,[],[1]),(25,[1,3],[]),(80,[],[1,3])]
def n41:cL where
 keep:=ax n41K
 ro:=fun t=>t==1
 mv:=fun _=>false
 give:=fun _=>false
 free:=fun i=>match i with|7=>[(5,7),(6,7),(5,8),(6,8),(15,17),(16,17),(15,18),(16,18),(15,22),(16,22),(17,22),(18,22),(19,22),(20,22),(21,22),(15,23),(16,23),(17,23),(18,23),(19,23),(20,23),(21,23),(34,36),(35,36),(34,37),(35,37),(34,38),(35,38)]|_=>[]
 alive:=av n41A
theorem n41a (t:Nat) (x:Bool) (e:Env) (S:bH):cK n41 t x ⟨e,S⟩=atO (av n41A t x) e S:=cF rfl t x e S
theorem n41k (i:Nat):n41.keep i=ax n41K i:=rfl
theorem n41ro (t:Nat):n41.ro t=(t==1):=rfl
theorem n41mv (t:Nat):n41.mv t=(false):=rfl
theorem n41f7:n41.free 7= [(5,7),(6,7),(5,8),(6,8),(15,17),(16,17),(15,18),(16,18),(15,22),(16,22),(17,22),(18,22),(19,22),(20,22),(21,22),(15,23),(16,23),(17,23),(18,23),(19,23),(20,23),(21,23),(34,36),(35,36),(34,37),(35,37),(34,38),(35,38)]:=rfl
theorem res41:Try.f41.results.toList= [.tmp 2]:=rfl
noncomputable def b41:Code:=aU Try.f41
noncomputable def c41_0:Code:=(bE 0 (aU Try.f41)).getD .skip
theorem fl41_0:bE 0 b41=some c41_0:=rfl
theorem rg_rrMachineFault_k1 (C:aj) (k_rrStoreFault:K_rrStoreFault C) (k_rrIn:K_rrIn C) (p0:GMachine) (c:Code) (ho:cD 0 1 b41=some c) (r:Bool) (hF:ck_rrMachineFault_k1 p0=some r): @cV TT C.wide (evW TT C.wide n41 b41) n41 0 1 ⟨[(1,.rp [.i .i64 p0.fStore.fNow,.sl 8 (ah GEntry.row p0.fStore.fEntries),.i .i64 p0.fNext,.sl 7 (ah GClient.row p0.fClients)])],[]⟩ ⟨c⟩=some (.normal,⟨[(1,.rp [.i .i64 p0.fStore.fNow,.sl 8 (ah GEntry.row p0.fStore.fEntries),.i .i64 p0.fNext,.sl 7 (ah GClient.row p0.fClients)]),(20,.v (.b r))],[]⟩):=by
 have e:=Option.some.inj (ho.symm.trans (rfl:cD 0 1 b41=some _))
 subst e
 clear ho
 show aH _ _ _ _ _ _=_
 revert hF
 unfold ck_rrMachineFault_k1
 refine az fun x1 h1=>?_
 have g1:=bK (k_rrStoreFault p0.fStore _ h1)
 refine bF (fun h2=>?_) (fun h2=>?_)
 rotate_left 1
 have g2:=bK (k_rrIn p0.fNext 1 1048577 _ (rrIn_t p0.fNext 1 1048577))
 have g3:rrIn_v p0.fNext 1 1048577=(decide (1≤p0.fNext)&&decide (p0.fNext≤1048577)):=by first|rfl|(simp [rrIn_v];done)|(simp only [rrIn_v];decide)
 refine bF (fun h3=>?_) (fun h3=>?_)
 rotate_left 1
 refine aX (fun h4=>?_) (fun h4=>?_)
 rotate_left 1
 all_goals (rintro⟨⟩;simp (maxSteps:=4000000) only [*,n41k,n41K,n41mv,↓RP,RB,aQ,aD,be,Mx.bl,opnd,Mx.bI,Nat.reduceBEq,bQ,aN,aA,ay,Mx.put,ofConst,ofCell,Mx.prune,killB,aK,putDst,aw,aE,loadAt,bT,List.map,Nat.reduceAdd,cz,cB,cu,forceAll,lend,lendA,aS,aB,bR,bare,bW,ax,newB,cw,cy,cx,bne,bh,ty3,ty25,ty26,ty28,↓aa _ _ _ _ 1])
theorem rg_rrMachineFault_k7v2 (C:aj) (k_rrnumberMay:K_rrnumberMay C) (k_rrIn:K_rrIn C) (k_rrReplyFault:K_rrReplyFault C) (p0:GMachine) (p1:Int) (p2:GClient) (c:Code) (ho:cD 0 7 b41=some c) (r:Bool) (hF:ck_rrMachineFault_k7v2 p0 p1 p2=some r): @cV TT C.wide (evW TT C.wide n41 b41) n41 0 7 ⟨[(1,.rp [.i .i64 p0.fStore.fNow,.sl 8 (ah GEntry.row p0.fStore.fEntries),.i .i64 p0.fNext,.sl 7 (ah GClient.row p0.fClients)]),(3,.v (.i .i64 p1)),(4,.ptr 0 0)],[[.v (.i .i64 p2.fId),.v (.i .i64 p2.fSeq),.v (.i .i64 p2.fTime),.v (.i .i64 p2.fReply.fCode),.v (.s p2.fReply.fText),.v (.i .i64 p2.fReply.fN),.v (.sl 1 (ah bY p2.fReply.fList))]]⟩ ⟨c⟩=some (.normal,⟨[(1,.rp [.i .i64 p0.fStore.fNow,.sl 8 (ah GEntry.row p0.fStore.fEntries),.i .i64 p0.fNext,.sl 7 (ah GClient.row p0.fClients)]),(3,.v (.i .i64 p1)),(80,.v (.b r))],[[.v (.i .i64 p2.fId),.v (.i .i64 p2.fSeq),.v (.i .i64 p2.fTime),.v (.i .i64 p2.fReply.fCode),.v (.s p2.fReply.fText),.v (.i .i64 p2.fReply.fN),.v (.sl 1 (ah bY p2.fReply.fList))]]⟩):=by
 have e:=Option.some.inj (ho.symm.trans (rfl:cD 0 7 b41=some _))
 subst e
 clear ho
 show aH _ _ _ _ _ _=_
 revert hF
 unfold ck_rrMachineFault_k7v2
 have g1:=bK (k_rrnumberMay p2.fId _ (rrnumberMay_t p2.fId))
 refine bF (fun h1=>?_) (fun h1=>?_)
 rotate_left 1
 unfold ck_rrMachineFault_k7v2_c1
 refine aX (fun h2=>?_) (fun h2=>?_)
 rotate_left 1
 refine bF (fun h3=>?_) (fun h3=>?_)
 focus
  have g2:=bK (k_rrIn p2.fSeq 0 1048576 _ (rrIn_t p2.fSeq 0 1048576))
  have g3:rrIn_v p2.fSeq 0 1048576=(decide (0≤p2.fSeq)&&decide (p2.fSeq≤1048576)):=by first|rfl|(simp [rrIn_v];done)|(simp only [rrIn_v];decide)
  refine bF (fun h4=>?_) (fun h4=>?_)
  rotate_left 1
  refine bF (fun h5=>?_) (fun h5=>?_)
  rotate_left 1
  have g4:=bK (k_rrIn p2.fTime 0 p0.fStore.fNow _ (rrIn_t p2.fTime 0 p0.fStore.fNow))
  have g5:rrIn_v p2.fTime 0 p0.fStore.fNow=(decide (0≤p2.fTime)&&decide (p2.fTime≤p0.fStore.fNow)):=by first|rfl|(simp [rrIn_v];done)|(simp only [rrIn_v];decide)
  refine bF (fun h6=>?_) (fun h6=>?_)
  rotate_left 1
  refine bF (fun h7=>?_) (fun h7=>?_)
  rotate_left 1
  refine az fun x1 h8=>?_
  have g6:=bK (k_rrReplyFault p2.fReply _ h8)
 rotate_left 5
 unfold ck_rrMachineFault_k7v2_c0
 refine az fun x1 h4=>?_
 have g7:decide (0≤(IntKind.i64.wrap (p1-1)))=true:=(cp h4).1
 have g8:(ah GClient.row p0.fClients)[((IntKind.i64.wrap (p1-1)):Int).toNat]? =some [.i .i64 x1.fId,.i .i64 x1.fSeq,.i .i64 x1.fTime,.i .i64 x1.fReply.fCode,.s x1.fReply.fText,.i .i64 x1.fReply.fN,.sl 1 (ah bY x1.fReply.fList)]:=cn _ h4
 refine aX (fun h5=>?_) (fun h5=>?_)
 rotate_left 1
 have g2:=bK (k_rrIn p2.fSeq 0 1048576 _ (rrIn_t p2.fSeq 0 1048576))
 have g3:rrIn_v p2.fSeq 0 1048576=(decide (0≤p2.fSeq)&&decide (p2.fSeq≤1048576)):=by first|rfl|(simp [rrIn_v];done)|(simp only [rrIn_v];decide)
 refine bF (fun h6=>?_) (fun h6=>?_)
 rotate_left 1
 refine bF (fun h7=>?_) (fun h7=>?_)
 rotate_left 1
 have g4:=bK (k_rrIn p2.fTime 0 p0.fStore.fNow _ (rrIn_t p2.fTime 0 p0.fStore.fNow))
 have g5:rrIn_v p2.fTime 0 p0.fStore.fNow=(decide (0≤p2.fTime)&&decide (p2.fTime≤p0.fStore.fNow)):=by first|rfl|(simp [rrIn_v];done)|(simp only [rrIn_v];decide)
 refine bF (fun h8=>?_) (fun h8=>?_)
 rotate_left 1
 refine bF (fun h9=>?_) (fun h9=>?_)
 rotate_left 1
 refine az fun x2 h10=>?_
 have g9:=bK (k_rrReplyFault p2.fReply _ h10)
 all_goals (rintro⟨⟩;simp (maxSteps:=4000000) only [*,n41k,n41K,n41f7,n41mv,↓RP,RB,aQ,aD,be,Mx.bl,opnd,Mx.bI,Nat.reduceBEq,bQ,aN,aA,ay,Mx.put,ofConst,ofCell,Mx.prune,killB,aK,putDst,aw,aE,loadAt,bT,List.map,Nat.reduceAdd,cz,cB,forceAll,bj,lend,lendA,aS,aB,bR,bare,bW,bG,Nat.reduceSub,cd,aI,aY,cm,bL,cv,ch,bo,aL,bm,Op.operands,ax,newB,cw,cy,cx,bne,bh,aP,br,Call.operands,ty3,ty25,ty26,ty28,ty79,ty81,↓aq _ _ _ _ 7])
def hd_rrMachineFault_0 (p0:GMachine) (s:Int):St:=⟨[(1,.rp [.i .i64 p0.fStore.fNow,.sl 8 (ah GEntry.row p0.fStore.fEntries),.i .i64 p0.fNext,.sl 7 (ah GClient.row p0.fClients)]),(3,.v (.i .i64 s))],[]⟩
def ou_rrMachineFault_0 (p0:GMachine) (r:GClient⊕Unit):Option (Ex×St):=match r with
 | .inl r=>some (.ret,⟨[(2,.v (.i .i64 13))],[[.v (.i .i64 r.fId),.v (.i .i64 r.fSeq),.v (.i .i64 r.fTime),.v (.i .i64 r.fReply.fCode),.v (.s r.fReply.fText),.v (.i .i64 r.fReply.fN),.v (.sl 1 (ah bY r.fReply.fList))]]⟩)
 | .inr r=>some (.normal,⟨[],[]⟩)
theorem sl_rrMachineFault_0 (C:aj) (k_rrnumberMay:K_rrnumberMay C) (k_rrIn:K_rrIn C) (k_rrReplyFault:K_rrReplyFault C) (p0:GMachine) (p1:Int) (o:Int⊕(GClient⊕Unit)) (hF:st_rrMachineFault_0 p0 p1=some o):evW TT C.wide n41 b41 0 (hd_rrMachineFault_0 p0 p1)=Sum.elim (fun s=>evW TT C.wide n41 b41 0 (hd_rrMachineFault_0 p0 s)) (fun r=>ou_rrMachineFault_0 p0 r) o:=by
 rw [cG TT n41 fl41_0]
 revert hF
 unfold st_rrMachineFault_0
 try dsimp only
 refine bF (fun h1=>?_) (fun h1=>?_)
 rotate_left 1
 refine az fun x1 h2=>?_
 have g1:decide (0≤p1)=true:=(cp h2).1
 have g2:(ah GClient.row p0.fClients)[(p1:Int).toNat]? =some [.i .i64 x1.fId,.i .i64 x1.fSeq,.i .i64 x1.fTime,.i .i64 x1.fReply.fCode,.s x1.fReply.fText,.i .i64 x1.fReply.fN,.sl 1 (ah bY x1.fReply.fList)]:=cn _ h2
 refine az fun x2 h3=>?_
 have g3:=rg_rrMachineFault_k7v2 C k_rrnumberMay k_rrIn k_rrReplyFault p0 p1 x1 _ rfl _ h3
 refine aX (fun h4=>?_) (fun h4=>?_)
 rotate_left 1
 all_goals (rintro⟨⟩;show cN _ _ _ (aH _ _ _ _ (Code.seq _ _) _)=_;simp (maxSteps:=4000000) only [*,hd_rrMachineFault_0,ou_rrMachineFault_0,n41a,n41A,n41k,n41K,n41mv,↓RP,RB,↓ai,be,bf,aJ,Mx.bl,opnd,Mx.bI,Nat.reduceBEq,bQ,Mx.fit,bP,co,cellsOf,aN,aA,ay,Mx.put,ofConst,ofCell,Mx.prune,killB,killBs,aK,putDst,aw,aE,loadAt,bT,List.map,Nat.reduceAdd,cz,cB,cu,bJ,aM,lowC,bj,kill,bG,setCells,Nat.reduceLeDiff,lowA,bn,ax,av,atO,cy,cx,bne,↓ao,↓am,ty3,ty26,ty28,ty29,ty81,↓aa _ _ _ _ 4,↓aa _ _ _ _ 6,↓bg _ _ _ _ 7,↓aa _ _ _ _ 8,↓aa _ _ _ _ 5])
theorem r_rrMachineFault (C:aj) (k_rrStoreFault:K_rrStoreFault C) (k_rrIn:K_rrIn C) (k_rrnumberMay:K_rrnumberMay C) (k_rrReplyFault:K_rrReplyFault C) (p0:GMachine) (r:Int) (hF:rrMachineFault p0=some r):cR TT C.wide (evW TT C.wide n41 b41) n41 Try.f41.results.toList (aU Try.f41) [.agg [.v (.i .i64 p0.fStore.fNow),.v (.sl 8 (ah GEntry.row p0.fStore.fEntries)),.v (.i .i64 p0.fNext),.v (.sl 7 (ah GClient.row p0.fClients))]] []=some (.v (.i .i64 r),[]):=by
 revert hF
 unfold rrMachineFault
 refine az fun x1 h1=>?_
 have g1:=rg_rrMachineFault_k1 C k_rrStoreFault k_rrIn p0 _ rfl _ h1
 refine aX (fun h2=>?_) (fun h2=>?_)
 rotate_left 1
 refine az ?_
 rintro (x2|_) h3
 focus
  dsimp only
  have g2:=cH _ _ (sl_rrMachineFault_0 C k_rrnumberMay k_rrIn k_rrReplyFault p0) h3
  try simp only [hd_rrMachineFault_0,ou_rrMachineFault_0] at g2
 rotate_left 1
 dsimp only
 have g3:=cH _ _ (sl_rrMachineFault_0 C k_rrnumberMay k_rrIn k_rrReplyFault p0) h3
 try simp only [hd_rrMachineFault_0,ou_rrMachineFault_0] at g3
 all_goals (rintro⟨⟩;rw [bk];show cC _ _ _ (aH _ _ _ _ (Code.seq _ _) _)=_;simp (maxSteps:=4000000) only [*,res41,n41a,n41A,n41k,n41K,n41ro,↓RP,RB,enter,be,bf,aJ,Mx.bl,opnd,Mx.bI,Nat.reduceBEq,bQ,Mx.fit,bP,co,toVs,cellsOf,toV,aN,aA,ay,Mx.put,ofConst,ofCell,Mx.prune,killB,List.map,aC,bu,bx,cA,bS,bJ,aM,lowC,ax,av,atO,↓ao,↓am,ty3,ty28,ty29,↓aa _ _ _ _ 0,↓bg _ _ _ _ 1,↓aa _ _ _ _ 2,↓aa _ _ _ _ 3,↓aa _ _ _ _ 9])
def n50K:List (Nat×List Nat):=[(0,[1]),(1,[1,12]),(2,[2]),(3,[2])]
def n50A:List (Nat×List Nat×List Nat):=[(12,[],[1])]
def n50:cL where
 keep:=ax n50K
 ro:=fun t=>t==1
 mv:=fun _=>false
 give:=fun _=>false
 free:=fun _=>[]
 alive:=av n50A
theorem n50a (t:Nat) (x:Bool) (e:Env) (S:bH):cK n50 t x ⟨e,S⟩=atO (av n50A t x) e S:=cF rfl t x e S
theorem n50k (i:Nat):n50.keep i=ax n50K i:=rfl
theorem n50ro (t:Nat):n50.ro t=(t==1):=rfl
theorem n50mv (t:Nat):n50.mv t=(false):=rfl
theorem res50:Try.f50.results.toList= [.tmp 2]:=rfl
noncomputable def b50:Code:=aU Try.f50
theorem r_rrSnapFault (C:aj) (k_rrnumberMay:K_rrnumberMay C) (k_rrMachineFault:K_rrMachineFault C) (p0:GSnap) (r:Int) (hF:rrSnapFault p0=some r):cR TT C.wide (evW TT C.wide n50 b50) n50 Try.f50.results.toList (aU Try.f50) [.agg [.v (.i .i64 p0.fIndex),.v (.i .i64 p0.fTerm),.v (.i .i64 p0.fMachine.fStore.fNow),.v (.sl 8 (ah GEntry.row p0.fMachine.fStore.fEntries)),.v (.i .i64 p0.fMachine.fNext),.v (.sl 7 (ah GClient.row p0.fMachine.fClients))]] []=some (.v (.i .i64 r),[]):=by
 revert hF
 unfold rrSnapFault
 have g1:=bK (k_rrnumberMay p0.fIndex _ (rrnumberMay_t p0.fIndex))
 refine bF (fun h1=>?_) (fun h1=>?_)
 rotate_left 1
 have g2:=bK (k_rrnumberMay p0.fTerm _ (rrnumberMay_t p0.fTerm))
 refine bF (fun h2=>?_) (fun h2=>?_)
 rotate_left 1
 refine az fun x1 h3=>?_
 have g3:=bK (k_rrMachineFault p0.fMachine _ h3)
 all_goals (rintro⟨⟩;rw [bk];show cC _ _ _ (aH _ _ _ _ (Code.seq _ _) _)=_;simp (maxSteps:=4000000) only [*,res50,n50a,n50A,n50k,n50K,n50ro,n50mv,↓RP,RB,enter,aQ,aD,be,bf,aJ,Mx.bl,opnd,Mx.bI,Nat.reduceBEq,bQ,Mx.fit,bP,co,toVs,cellsOf,toV,aN,aA,ay,Mx.put,ofConst,ofCell,Mx.prune,killB,aK,putDst,aw,aE,loadAt,bT,List.map,Nat.reduceAdd,aC,bu,bx,cA,bS,bJ,aM,lowC,forceAll,lend,lendA,aS,aB,bR,bare,bW,ax,av,atO,newB,cw,↓ao,↓am,↓aa,bh,ty3,ty28,ty29,ty42])
def n103K:List (Nat×List Nat):=[(0,[1]),(1,[2])]
def n103:cL where
 keep:=ax n103K
 ro:=fun t=>t==1
 mv:=fun _=>false
 give:=fun _=>false
 free:=fun _=>[]
theorem n103k (i:Nat):n103.keep i=ax n103K i:=rfl
theorem n103ro (t:Nat):n103.ro t=(t==1):=rfl
theorem n103mv (t:Nat):n103.mv t=(false):=rfl
theorem res103:Try.f103.results.toList= [.tmp 2]:=rfl
noncomputable def b103:Code:=aU Try.f103
theorem r_rrlastOf (C:aj)  (p0:GLog) (r:Int) (hF:rrlastOf p0=some r):cR TT C.wide (evW TT C.wide n103 b103) n103 Try.f103.results.toList (aU Try.f103) [.agg [.v (.i .i64 p0.fBase),.v (.i .i64 p0.fBaseTerm),.v (.sl 10 (ah GItem.row p0.fItems))]] []=some (.v (.i .i64 r),[]):=by
 revert hF
 unfold rrlastOf
 refine someX ?_
 unfold rrlastOf_v
 all_goals (rintro rfl;rw [bk];show cC _ _ _ (aH _ _ _ _ (Code.seq _ _) _)=_;simp (maxSteps:=4000000) only [*,res103,n103k,n103K,n103ro,n103mv,↓RP,RB,enter,be,bf,aJ,Mx.bl,opnd,Mx.bI,Nat.reduceBEq,bQ,Mx.fit,bP,co,toVs,cellsOf,toV,aN,aA,ay,Mx.put,ofConst,ofCell,Mx.prune,killB,aK,putDst,aw,aE,loadAt,bT,List.map,cz,cB,cu,aC,bu,bx,cA,bS,bJ,aM,lowC,ax,cy,cx,↓ao,↓aa,ty3,ty48,ty50])
def n83K:List (Nat×List Nat):=[(0,[1,2]),(1,[1,2,8]),(2,[4]),(3,[1,2,12]),(4,[4]),(5,[1,2,16]),(6,[4]),(7,[4])]
def n83A:List (Nat×List Nat×List Nat):=[(8,[],[1,2]),(12,[],[1,2]),(16,[2],[1,2])]
def n83:cL where
 keep:=ax n83K
 ro:=fun t=>t==2
 mv:=fun _=>false
 give:=fun _=>false
 free:=fun _=>[]
 alive:=av n83A
theorem n83a (t:Nat) (x:Bool) (e:Env) (S:bH):cK n83 t x ⟨e,S⟩=atO (av n83A t x) e S:=cF rfl t x e S
theorem n83k (i:Nat):n83.keep i=ax n83K i:=rfl
theorem n83ro (t:Nat):n83.ro t=(t==2):=rfl
theorem n83mv (t:Nat):n83.mv t=(false):=rfl
theorem res83:Try.f83.results.toList= [.tmp 4]:=rfl
noncomputable def b83:Code:=aU Try.f83
theorem r_rrtermAt (C:aj) (k_rrlastOf:K_rrlastOf C) (p0:GLog) (p1:Int) (r:Int) (hF:rrtermAt p0 p1=some r):cR TT C.wide (evW TT C.wide n83 b83) n83 Try.f83.results.toList (aU Try.f83) [.agg [.v (.i .i64 p0.fBase),.v (.i .i64 p0.fBaseTerm),.v (.sl 10 (ah GItem.row p0.fItems))],.v (.i .i64 p1)] []=some (.v (.i .i64 r),[]):=by
 revert hF
 unfold rrtermAt
 refine aX (fun h1=>?_) (fun h1=>?_)
 rotate_left 1
 have g1:=bK (k_rrlastOf p0 _ (rrlastOf_t p0))
 refine aX (fun h2=>?_) (fun h2=>?_)
 rotate_left 1
 refine aX (fun h3=>?_) (fun h3=>?_)
 rotate_left 1
 refine az fun x1 h4=>?_
 have g2:decide (0≤(IntKind.i64.wrap ((IntKind.i64.wrap (p1-p0.fBase))-1)))=true:=(cp h4).1
 have g3:(ah GItem.row p0.fItems)[((IntKind.i64.wrap ((IntKind.i64.wrap (p1-p0.fBase))-1)):Int).toNat]? =some [.i .i64 x1.fTerm,.i .i64 x1.fTime,.b x1.fNop,.i .i64 x1.fCall.fClient,.i .i64 x1.fCall.fSeq,.i .i64 x1.fCall.fCommand.fKind,.s x1.fCall.fCommand.fKey,.s x1.fCall.fCommand.fField,.s x1.fCall.fCommand.fText,.i .i64 x1.fCall.fCommand.fN]:=cn _ h4
 all_goals (rintro⟨⟩;rw [bk];show cC _ _ _ (aH _ _ _ _ (Code.seq _ _) _)=_;simp (maxSteps:=4000000) only [*,res83,n83a,n83A,n83k,n83K,n83ro,n83mv,↓RP,RB,enter,be,bf,aJ,Mx.bl,opnd,Mx.bI,Nat.reduceBEq,bQ,Mx.fit,bP,co,toVs,cellsOf,toV,aN,aA,ay,Mx.put,ofConst,ofCell,Mx.prune,killB,aK,putDst,aw,aE,loadAt,bT,List.map,Nat.reduceAdd,cz,cB,aC,bu,bx,cA,bS,bJ,aM,lowC,forceAll,bj,lend,lendA,aS,aB,bR,bare,bW,Int.reduceNeg,ax,av,atO,newB,cw,cy,cx,↓ao,↓am,↓aa,ty3,ty40,ty48,ty50])
def n84K:List (Nat×List Nat):=[(0,[1,2,4]),(1,[1,2,4,6]),(2,[1,2,4,6,13]),(3,[4,5]),(4,[1,2,4,7]),(5,[1,2,4,7,20]),(6,[4,5]),(7,[1,2,4,7,23]),(8,[4,5]),(9,[1,2,4,8]),(10,[2,4,8,9]),(11,[2,4,8,9,33]),(12,[2,4,8,9]),(13,[2,4,8,9]),(14,[4,5])]
def n84A:List (Nat×List Nat×List Nat):=[(13,[4,6],[1,2,4]),(20,[4],[1,2,4,7]),(23,[4],[1,2,4,7]),(33,[2,4,8,9],[4,8])]
def n84:cL where
 keep:=ax n84K
 ro:=fun t=>t==2
 mv:=fun t=>t==50
 give:=fun _=>false
 free:=fun i=>match i with|13=>[(0,2),(1,2),(0,3),(1,3),(0,4),(1,4),(2,4),(3,4),(0,5),(1,5),(2,5),(3,5),(4,5),(0,6),(1,6),(2,6),(3,6),(4,6),(0,7),(1,7),(2,7),(3,7),(0,8),(1,8),(2,8),(3,8),(0,9),(1,9),(0,10),(1,10),(0,11),(1,11)]|_=>[]
 alive:=av n84A
theorem n84a (t:Nat) (x:Bool) (e:Env) (S:bH):cK n84 t x ⟨e,S⟩=atO (av n84A t x) e S:=cF rfl t x e S
theorem n84k (i:Nat):n84.keep i=ax n84K i:=rfl
theorem n84ro (t:Nat):n84.ro t=(t==2):=rfl
theorem n84mv (t:Nat):n84.mv t=(t==50):=rfl
theorem n84f13:n84.free 13= [(0,2),(1,2),(0,3),(1,3),(0,4),(1,4),(2,4),(3,4),(0,5),(1,5),(2,5),(3,5),(4,5),(0,6),(1,6),(2,6),(3,6),(4,6),(0,7),(1,7),(2,7),(3,7),(0,8),(1,8),(2,8),(3,8),(0,9),(1,9),(0,10),(1,10),(0,11),(1,11)]:=rfl
theorem res84:Try.f84.results.toList= [.cell 4 50,.tmp 5]:=rfl
noncomputable def b84:Code:=aU Try.f84
noncomputable def c84_0:Code:=(bE 0 (aU Try.f84)).getD .skip
theorem fl84_0:bE 0 b84=some c84_0:=rfl
def hd_rrTrimmed_0 (p0:GLog) (s:Int×GLog):St:=⟨[(2,.rp [.i .i64 p0.fBase,.i .i64 p0.fBaseTerm,.sl 10 (ah GItem.row p0.fItems)]),(4,.ptr 0 0),(8,.ptr 1 0),(9,.v (.i .i64 s.1))],[[.v (.i .i64 0),.v (.i .i64 0),.own 10 []],[.v (.i .i64 s.2.fBase),.v (.i .i64 s.2.fBaseTerm),.own 10 (ah GItem.row s.2.fItems)]]⟩
def ou_rrTrimmed_0 (p0:GLog) (r:GLog):Option (Ex×St):=some (.normal,⟨[(4,.ptr 0 0),(8,.ptr 1 0)],[[.v (.i .i64 0),.v (.i .i64 0),.own 10 []],[.v (.i .i64 r.fBase),.v (.i .i64 r.fBaseTerm),.own 10 (ah GItem.row r.fItems)]]⟩)
theorem sl_rrTrimmed_0 (C:aj) (k_rrlastOf:K_rrlastOf C) (p0:GLog) (s:Int×GLog) (o:(Int×GLog)⊕GLog) (hF:st_rrTrimmed_0 p0 s=some o):evW TT C.wide n84 b84 0 (hd_rrTrimmed_0 p0 s)=Sum.elim (fun s=>evW TT C.wide n84 b84 0 (hd_rrTrimmed_0 p0 s)) (fun r=>ou_rrTrimmed_0 p0 r) o:=by
 obtain⟨p1,p2⟩:=s
 rw [cG TT n84 fl84_0]
 revert hF
 unfold st_rrTrimmed_0
 try dsimp only
 have g1:=bK (k_rrlastOf p0 _ (rrlastOf_t p0))
 refine bF (fun h1=>?_) (fun h1=>?_)
 rotate_left 1
 refine az fun x1 h2=>?_
 have g2:decide (0≤(IntKind.i64.wrap ((IntKind.i64.wrap (p1-p0.fBase))-1)))=true:=(cp h2).1
 have g3:(ah GItem.row p0.fItems)[((IntKind.i64.wrap ((IntKind.i64.wrap (p1-p0.fBase))-1)):Int).toNat]? =some [.i .i64 x1.fTerm,.i .i64 x1.fTime,.b x1.fNop,.i .i64 x1.fCall.fClient,.i .i64 x1.fCall.fSeq,.i .i64 x1.fCall.fCommand.fKind,.s x1.fCall.fCommand.fKey,.s x1.fCall.fCommand.fField,.s x1.fCall.fCommand.fText,.i .i64 x1.fCall.fCommand.fN]:=cn _ h2
 refine aX (fun h3=>?_) (fun _=>nofun)
 all_goals (rintro⟨⟩;show cN _ _ _ (aH _ _ _ _ (Code.seq _ _) _)=_;simp (maxSteps:=4000000) only [*,hd_rrTrimmed_0,ou_rrTrimmed_0,n84a,n84A,n84k,n84K,n84f13,n84mv,↓RP,RB,↓ab,be,bf,aJ,Mx.bl,opnd,Mx.bI,Nat.reduceBEq,bQ,Mx.fit,co,toVs,cellsOf,toV,aN,aA,ay,Mx.put,ofConst,ofCell,Mx.prune,killB,killBs,aK,putDst,aw,aE,loadAt,bT,List.map,Nat.reduceAdd,Nat.reduceMul,cz,cB,aO,bJ,aM,bD,lowC,forceAll,bj,kill,spendLoc,spendOk,lend,lendA,aS,aB,bR,bare,bW,bG,setCells,takeParts,bv,aR,Nat.reduceSub,Nat.reduceLeDiff,bM,cd,au,aI,aY,cm,bL,cv,ch,bo,aL,bm,bp,bd,Op.operands,ax,av,atO,newB,cw,cy,cx,bne,↓ao,↓am,↓aa,↓aq,br,aF,bN,ty3,ty40,ty48,ty50,GItem.one])
theorem r_rrTrimmed (C:aj) (k_rrLogFault:K_rrLogFault C) (k_rrtermAt:K_rrtermAt C) (k_rrlastOf:K_rrlastOf C) (p0:GLog) (p1:Int) (r:GLog×Int) (hF:rrTrimmed p0 p1=some r):cR TT C.wide (evW TT C.wide n84 b84) n84 Try.f84.results.toList (aU Try.f84) [.agg [.v (.i .i64 p0.fBase),.v (.i .i64 p0.fBaseTerm),.v (.sl 10 (ah GItem.row p0.fItems))],.v (.i .i64 p1)] []=some (.tup [.agg [.v (.i .i64 r.1.fBase),.v (.i .i64 r.1.fBaseTerm),.v (.sl 10 (ah GItem.row r.1.fItems))],.v (.i .i64 r.2)],[]):=by
 revert hF
 unfold rrTrimmed
 refine az fun x1 h1=>?_
 have g1:=bK (k_rrLogFault p0 _ h1)
 refine bF (fun h2=>?_) (fun h2=>?_)
 rotate_left 1
 refine az fun x2 h3=>?_
 have g2:=bK (k_rrtermAt p0 p1 _ h3)
 refine aX (fun h4=>?_) (fun h4=>?_)
 rotate_left 1
 refine aX (fun h5=>?_) (fun h5=>?_)
 rotate_left 1
 refine az ?_
 rintro x3 h6
 have g3:=cH _ _ (sl_rrTrimmed_0 C k_rrlastOf p0) h6
 try simp only [ak,hd_rrTrimmed_0,ou_rrTrimmed_0] at g3
 all_goals (rintro⟨⟩;rw [bk];show cC _ _ _ (aH _ _ _ _ (Code.seq _ _) _)=_;simp (maxSteps:=4000000) only [*,res84,n84a,n84A,n84k,n84K,n84ro,n84mv,↓RP,RB,enter,be,bf,aJ,Mx.bl,opnd,Mx.bI,Nat.reduceBEq,bQ,Mx.fit,bP,co,toVs,cellsOf,toV,aN,aA,ay,Mx.put,ofConst,ofCell,Mx.prune,killB,killBs,aK,putDst,aw,loadAt,bT,List.map,Nat.reduceAdd,cz,cB,aC,bu,bx,cA,bJ,aM,bD,lowC,forceAll,kill,lend,lendA,aS,aB,bR,bare,bW,frz,cq,bG,ce,fill,setCells,takeParts,Nat.reduceLeDiff,Int.reduceNeg,bq,ax,av,atO,newB,cw,cy,cx,bne,↓ao,↓am,↓aa,ty3,ty29,ty48,ty50])
def n57K:List (Nat×List Nat):=[(0,[2,3,4]),(1,[2,3,4,13]),(2,[4,5]),(3,[4]),(4,[4])]
def n57A:List (Nat×List Nat×List Nat):=[(13,[2,3,4],[3,4])]
def n57:cL where
 keep:=ax n57K
 ro:=fun t=>t==2||t==3
 mv:=fun _=>false
 give:=fun _=>false
 free:=fun i=>match i with|1=>[(0,1),(0,2),(0,4),(1,4),(2,4),(3,4),(0,5),(1,5),(2,5),(3,5)]|_=>[]
 alive:=av n57A
theorem n57a (t:Nat) (x:Bool) (e:Env) (S:bH):cK n57 t x ⟨e,S⟩=atO (av n57A t x) e S:=cF rfl t x e S
theorem n57k (i:Nat):n57.keep i=ax n57K i:=rfl
theorem n57ro (t:Nat):n57.ro t=(t==2||t==3):=rfl
theorem n57mv (t:Nat):n57.mv t=(false):=rfl
theorem n57f1:n57.free 1= [(0,1),(0,2),(0,4),(1,4),(2,4),(3,4),(0,5),(1,5),(2,5),(3,5)]:=rfl
theorem res57:Try.f57.results.toList= [.cell 4 50]:=rfl
noncomputable def b57:Code:=aU Try.f57
theorem r_rrrested (C:aj) (k_rrtermAt:K_rrtermAt C) (k_rrTrimmed:K_rrTrimmed C) (p0:GLog) (p1:GSnap) (r:GLog) (hF:rrrested p0 p1=some r): ∃d S,cR TT C.wide (evW TT C.wide n57 b57) n57 Try.f57.results.toList (aU Try.f57) [.agg [.v (.i .i64 p0.fBase),.v (.i .i64 p0.fBaseTerm),.v (.sl 10 (ah GItem.row p0.fItems))],.agg [.v (.i .i64 p1.fIndex),.v (.i .i64 p1.fTerm),.v (.i .i64 p1.fMachine.fStore.fNow),.v (.sl 8 (ah GEntry.row p1.fMachine.fStore.fEntries)),.v (.i .i64 p1.fMachine.fNext),.v (.sl 7 (ah GClient.row p1.fMachine.fClients))]] []=some (d,S)∧bD d=true∧(frz d,S)=(.agg [.v (.i .i64 r.fBase),.v (.i .i64 r.fBaseTerm),.v (.sl 10 (ah GItem.row r.fItems))],[]):=by
 revert hF
 unfold rrrested
 refine az fun x1 h1=>?_
 have g1:=bK (k_rrtermAt p0 p1.fIndex _ h1)
 refine bF (fun h2=>?_) (fun h2=>?_)
 focus
  intro hF
  have hR:=Option.some.inj hF
  clear hF
  subst hR
  refine⟨.agg [.v (.i .i64 p1.fIndex),.v (.i .i64 p1.fTerm),.own 10 []],[],?_,rfl,by first|rfl|(simp only [*];done)|(simp only [*];rfl)⟩
 rotate_left 1
 refine az ?_
 rintro⟨x2,x3⟩ h3
 dsimp only
 have g2:=bK (k_rrTrimmed p0 p1.fIndex _ h3)
 try simp only [] at g2
 intro hF
 have hR:=Option.some.inj hF
 clear hF
 subst hR
 refine⟨.agg [.v (.i .i64 x2.fBase),.v (.i .i64 x2.fBaseTerm),.v (.sl 10 (ah GItem.row x2.fItems))],[],?_,rfl,by first|rfl|(simp only [*];done)|(simp only [*];rfl)⟩
 all_goals (rw [bk];show cC _ _ _ (aH _ _ _ _ (Code.seq _ _) _)=_;simp (maxSteps:=4000000) only [*,res57,n57a,n57A,n57k,n57K,n57f1,n57ro,n57mv,↓RP,RB,enter,be,bf,aJ,Mx.bl,opnd,Mx.bI,Nat.reduceBEq,bQ,Mx.fit,bP,co,toVs,cellsOf,toV,aN,aA,ay,Mx.put,Mx.prune,killB,killBs,aK,putDst,aw,aE,loadAt,bT,List.map,Nat.reduceAdd,cz,cB,aC,bu,bx,cA,bS,bJ,aM,bD,lowC,forceAll,kill,lend,lendA,aS,aB,cg,bR,bare,bW,bG,fill,setCells,takeParts,Nat.reduceLeDiff,cd,aI,aY,cm,bL,cv,ch,bo,aL,bm,Op.operands,ax,av,atO,newB,cw,cy,cx,bne,↓ao,↓am,↓aa,↓aq,aP,br,Call.operands,ty3,ty29,ty42,ty48,ty50])
def n17K:List (Nat×List Nat):=[(0,[2,3,4]),(1,[2,3,4,6]),(2,[2,3,4,6,10]),(3,[2,3,4,6]),(4,[2,3,4,6,14]),(5,[4,5]),(6,[4,5])]
def n17A:List (Nat×List Nat×List Nat):=[(10,[2,3,4],[2,3,4,6]),(14,[4,6],[2,3,4])]
def n17:cL where
 keep:=ax n17K
 ro:=fun t=>t==2||t==3
 mv:=fun _=>false
 give:=fun _=>false
 free:=fun _=>[]
 alive:=av n17A
theorem n17a (t:Nat) (x:Bool) (e:Env) (S:bH):cK n17 t x ⟨e,S⟩=atO (av n17A t x) e S:=cF rfl t x e S
theorem n17k (i:Nat):n17.keep i=ax n17K i:=rfl
theorem n17ro (t:Nat):n17.ro t=(t==2||t==3):=rfl
theorem n17mv (t:Nat):n17.mv t=(false):=rfl
theorem res17:Try.f17.results.toList= [.cell 4 50,.tmp 5]:=rfl
noncomputable def b17:Code:=aU Try.f17
theorem rg_rrRestOf_q10 (C:aj) (k_rrSnapFault:K_rrSnapFault C) (p0:GLog) (p1:GSnap) (p2:Int) (p3:Bool) (c:Code) (ho:cD 1 10 b17=some c) (r:Int) (hF:ck_rrRestOf_q10 p0 p1 p2 p3=some r): @cV TT C.wide (evW TT C.wide n17 b17) n17 1 10 ⟨[(2,.rp [.i .i64 p0.fBase,.i .i64 p0.fBaseTerm,.sl 10 (ah GItem.row p0.fItems)]),(3,.rp [.i .i64 p1.fIndex,.i .i64 p1.fTerm,.i .i64 p1.fMachine.fStore.fNow,.sl 8 (ah GEntry.row p1.fMachine.fStore.fEntries),.i .i64 p1.fMachine.fNext,.sl 7 (ah GClient.row p1.fMachine.fClients)]),(4,.ptr 0 0),(6,.v (.i .i64 p2)),(10,.v (.b p3))],[[.v (.i .i64 0),.v (.i .i64 0),.own 10 []]]⟩ ⟨c⟩=some (.normal,⟨[(2,.rp [.i .i64 p0.fBase,.i .i64 p0.fBaseTerm,.sl 10 (ah GItem.row p0.fItems)]),(3,.rp [.i .i64 p1.fIndex,.i .i64 p1.fTerm,.i .i64 p1.fMachine.fStore.fNow,.sl 8 (ah GEntry.row p1.fMachine.fStore.fEntries),.i .i64 p1.fMachine.fNext,.sl 7 (ah GClient.row p1.fMachine.fClients)]),(4,.ptr 0 0),(6,.v (.i .i64 r))],[[.v (.i .i64 0),.v (.i .i64 0),.own 10 []]]⟩):=by
 have e:=Option.some.inj (ho.symm.trans (rfl:cD 1 10 b17=some _))
 subst e
 clear ho
 show aH _ _ _ _ _ _=_
 revert hF
 unfold ck_rrRestOf_q10
 refine bF (fun h1=>?_) (fun h1=>?_)
 rotate_left 1
 refine az fun x1 h2=>?_
 have g1:=bK (k_rrSnapFault p1 _ h2)
 all_goals (rintro⟨⟩;simp (maxSteps:=4000000) only [*,n17a,n17A,n17k,n17K,n17mv,↓RP,RB,be,bf,aJ,Mx.bl,opnd,Mx.bI,Nat.reduceBEq,bQ,Mx.fit,co,aN,aA,ay,Mx.put,Mx.prune,killB,aK,putDst,aw,loadAt,bT,List.map,Nat.reduceAdd,forceAll,lend,lendA,aS,aB,bR,bare,bW,ax,av,atO,newB,cw,↓am,ty29,ty42,↓aa _ _ _ _ 3])
theorem r_rrRestOf (C:aj) (k_rrLogFault:K_rrLogFault C) (k_rrSnapFault:K_rrSnapFault C) (k_rrrested:K_rrrested C) (p0:GLog) (p1:GSnap) (r:GLog×Int) (hF:rrRestOf p0 p1=some r):cR TT C.wide (evW TT C.wide n17 b17) n17 Try.f17.results.toList (aU Try.f17) [.agg [.v (.i .i64 p0.fBase),.v (.i .i64 p0.fBaseTerm),.v (.sl 10 (ah GItem.row p0.fItems))],.agg [.v (.i .i64 p1.fIndex),.v (.i .i64 p1.fTerm),.v (.i .i64 p1.fMachine.fStore.fNow),.v (.sl 8 (ah GEntry.row p1.fMachine.fStore.fEntries)),.v (.i .i64 p1.fMachine.fNext),.v (.sl 7 (ah GClient.row p1.fMachine.fClients))]] []=some (.tup [.agg [.v (.i .i64 r.1.fBase),.v (.i .i64 r.1.fBaseTerm),.v (.sl 10 (ah GItem.row r.1.fItems))],.v (.i .i64 r.2)],[]):=by
 revert hF
 unfold rrRestOf
 refine az fun x1 h1=>?_
 have g1:=bK (k_rrLogFault p0 _ h1)
 refine az fun x2 h2=>?_
 have g2:=rg_rrRestOf_q10 C k_rrSnapFault p0 p1 x1 (x1==0) _ rfl _ h2
 refine bF (fun h3=>?_) (fun h3=>?_)
 rotate_left 1
 refine az fun x3 h4=>?_
 have g3:=bK (k_rrrested p0 p1 _ h4)
 all_goals (rintro⟨⟩;rw [bk];show cC _ _ _ (aH _ _ _ _ (Code.seq _ _) _)=_;simp (maxSteps:=4000000) only [*,res17,n17a,n17A,n17k,n17K,n17ro,n17mv,↓RP,RB,enter,be,bf,aJ,Mx.bl,opnd,Mx.bI,Nat.reduceBEq,bQ,Mx.fit,bP,co,toVs,cellsOf,toV,aN,aA,ay,Mx.put,ofConst,ofCell,Mx.prune,killB,killBs,aK,putDst,aw,loadAt,bT,List.map,Nat.reduceAdd,cz,cB,aC,bu,bx,cA,bJ,aM,lowC,forceAll,kill,lend,lendA,aS,aB,bR,bare,bW,frz,cq,bG,fill,setCells,takeParts,Nat.reduceLeDiff,bq,ax,av,atO,newB,cw,cy,cx,bne,↓ao,ty3,ty29,ty42,ty48,ty50,↓aa _ _ _ _ 0,↓aa _ _ _ _ 1,↓aa _ _ _ _ 2,↓da _ _ _ _ 10,↓aa _ _ _ _ 4,↓am _ _ _ _ 14,↓aa _ _ _ _ 5,↓aa _ _ _ _ 6])
def n58K:List (Nat×List Nat):=[(0,[0,1]),(1,[0,1,10]),(2,[4]),(3,[0,1,5]),(4,[0,1,5,14]),(5,[0,1,5]),(6,[0,1,5,25]),(7,[4]),(8,[4])]
def n58A:List (Nat×List Nat×List Nat):=[(10,[],[0,1]),(14,[0,1,5],[]),(25,[],[0,1,5])]
def n58:cL where
 keep:=ax n58K
 ro:=fun _=>false
 mv:=fun _=>false
 give:=fun _=>false
 free:=fun i=>match i with|6=>[(0,1),(0,4),(1,4),(2,4),(3,4),(0,5),(1,5),(2,5),(3,5),(4,5),(0,6),(1,6),(2,6),(3,6),(0,7),(1,7),(2,7),(3,7)]|_=>[]
 alive:=av n58A
theorem n58a (t:Nat) (x:Bool) (e:Env) (S:bH):cK n58 t x ⟨e,S⟩=atO (av n58A t x) e S:=cF rfl t x e S
theorem n58k (i:Nat):n58.keep i=ax n58K i:=rfl
theorem n58mv (t:Nat):n58.mv t=(false):=rfl
theorem n58f6:n58.free 6= [(0,1),(0,4),(1,4),(2,4),(3,4),(0,5),(1,5),(2,5),(3,5),(4,5),(0,6),(1,6),(2,6),(3,6),(0,7),(1,7),(2,7),(3,7)]:=rfl
theorem res58:Try.f58.results.toList= [.tmp 4]:=rfl
noncomputable def b58:Code:=aU Try.f58
noncomputable def c58_0:Code:=(bE 0 (aU Try.f58)).getD .skip
theorem fl58_0:bE 0 b58=some c58_0:=rfl
def hd_rlsameItems_0 (p0:List GItem) (p1:List GItem) (s:Int):St:=⟨[(0,.v (.sl 10 (ah GItem.row p0))),(1,.v (.sl 10 (ah GItem.row p1))),(5,.v (.i .i64 s))],[]⟩
def ou_rlsameItems_0 (p0:List GItem) (p1:List GItem) (r:Unit⊕Unit):Option (Ex×St):=match r with
 | .inl r=>some (.ret,⟨[(4,.v (.b false))],[]⟩)
 | .inr r=>some (.normal,⟨[],[]⟩)
theorem sl_rlsameItems_0 (C:aj)  (p0:List GItem) (p1:List GItem) (p2:Int) (o:Int⊕(Unit⊕Unit)) (hF:st_rlsameItems_0 p0 p1 p2=some o):evW TT C.wide n58 b58 0 (hd_rlsameItems_0 p0 p1 p2)=Sum.elim (fun s=>evW TT C.wide n58 b58 0 (hd_rlsameItems_0 p0 p1 s)) (fun r=>ou_rlsameItems_0 p0 p1 r) o:=by
 rw [cG TT n58 fl58_0]
 revert hF
 unfold st_rlsameItems_0
 try dsimp only
 refine bF (fun h1=>?_) (fun h1=>?_)
 rotate_left 1
 refine az fun x1 h2=>?_
 have g1:decide (0≤p2)=true:=(cp h2).1
 have g2:(ah GItem.row p0)[(p2:Int).toNat]? =some [.i .i64 x1.fTerm,.i .i64 x1.fTime,.b x1.fNop,.i .i64 x1.fCall.fClient,.i .i64 x1.fCall.fSeq,.i .i64 x1.fCall.fCommand.fKind,.s x1.fCall.fCommand.fKey,.s x1.fCall.fCommand.fField,.s x1.fCall.fCommand.fText,.i .i64 x1.fCall.fCommand.fN]:=cn _ h2
 refine az fun x2 h3=>?_
 have g3:(ah GItem.row p1)[(p2:Int).toNat]? =some [.i .i64 x2.fTerm,.i .i64 x2.fTime,.b x2.fNop,.i .i64 x2.fCall.fClient,.i .i64 x2.fCall.fSeq,.i .i64 x2.fCall.fCommand.fKind,.s x2.fCall.fCommand.fKey,.s x2.fCall.fCommand.fField,.s x2.fCall.fCommand.fText,.i .i64 x2.fCall.fCommand.fN]:=cn _ h3
 refine bF (fun h4=>?_) (fun h4=>?_)
 rotate_left 1
 refine bF (fun h5=>?_) (fun h5=>?_)
 rotate_left 1
 refine bF (fun h6=>?_) (fun h6=>?_)
 rotate_left 1
 unfold st_rlsameItems_0_c0
 refine bF (fun h7=>?_) (fun h7=>?_)
 rotate_left 1
 refine bF (fun h8=>?_) (fun h8=>?_)
 rotate_left 1
 refine bF (fun h9=>?_) (fun h9=>?_)
 rotate_left 1
 refine bF (fun h10=>?_) (fun h10=>?_)
 rotate_left 1
 refine bF (fun h11=>?_) (fun h11=>?_)
 rotate_left 1
 refine bF (fun h12=>?_) (fun h12=>?_)
 rotate_left 1
 refine aX (fun h13=>?_) (fun h13=>?_)
 rotate_left 1
 all_goals (rintro⟨⟩;show cN _ _ _ (aH _ _ _ _ (Code.seq _ _) _)=_;simp (maxSteps:=4000000) only [*,hd_rlsameItems_0,ou_rlsameItems_0,n58a,n58A,n58k,n58K,n58f6,n58mv,↓RP,RB,↓ai,be,bf,aJ,Mx.bl,opnd,Mx.bI,Nat.reduceBEq,bQ,Mx.fit,co,aN,aA,ay,Mx.put,ofConst,ofCell,Mx.prune,killB,aK,putDst,aw,loadAt,bT,List.map,Nat.reduceAdd,cz,cB,aG,eqC,cu,bj,bG,cd,aI,aY,cm,bL,cv,ch,bo,aL,bm,Op.operands,ax,av,atO,cy,cx,↓ao,↓am,↓aa,↓aq,br,ty3,ty4,ty40,ty48])
theorem r_rlsameItems (C:aj)  (p0:List GItem) (p1:List GItem) (r:Bool) (hF:rlsameItems p0 p1=some r):cR TT C.wide (evW TT C.wide n58 b58) n58 Try.f58.results.toList (aU Try.f58) [.v (.sl 10 (ah GItem.row p0)),.v (.sl 10 (ah GItem.row p1))] []=some (.v (.b r),[]):=by
 revert hF
 unfold rlsameItems
 refine bF (fun h1=>?_) (fun h1=>?_)
 rotate_left 1
 refine az ?_
 rintro (_|_) h2
 focus
  dsimp only
  have g1:=cH _ _ (sl_rlsameItems_0 C p0 p1) h2
  try simp only [hd_rlsameItems_0,ou_rlsameItems_0] at g1
 rotate_left 1
 dsimp only
 have g2:=cH _ _ (sl_rlsameItems_0 C p0 p1) h2
 try simp only [hd_rlsameItems_0,ou_rlsameItems_0] at g2
 all_goals (rintro⟨⟩;rw [bk];show cC _ _ _ (aH _ _ _ _ (Code.seq _ _) _)=_;simp (maxSteps:=4000000) only [*,res58,n58a,n58A,n58k,n58K,↓RP,RB,enter,be,bf,aJ,Mx.bl,opnd,Mx.bI,Nat.reduceBEq,bQ,Mx.fit,co,aN,aA,Mx.put,ofConst,ofCell,Mx.prune,killB,aK,putDst,aw,List.map,cz,cB,cu,aC,bu,bx,cA,bS,bJ,aM,lowC,ax,av,atO,cy,cx,bne,↓ao,↓am,↓aa,ty3,ty4,ty48])
def n18K:List (Nat×List Nat):=[(0,[2,3]),(1,[4])]
def n18:cL where
 keep:=ax n18K
 ro:=fun t=>t==2||t==3
 mv:=fun _=>false
 give:=fun _=>false
 free:=fun _=>[]
theorem n18k (i:Nat):n18.keep i=ax n18K i:=rfl
theorem n18ro (t:Nat):n18.ro t=(t==2||t==3):=rfl
theorem n18mv (t:Nat):n18.mv t=(false):=rfl
theorem res18:Try.f18.results.toList= [.tmp 4]:=rfl
noncomputable def b18:Code:=aU Try.f18
theorem rg_rlsameLog_k1 (C:aj) (k_rlsameItems:K_rlsameItems C) (p0:GLog) (p1:GLog) (c:Code) (ho:cD 0 1 b18=some c) (r:Bool) (hF:ck_rlsameLog_k1 p0 p1=some r): @cV TT C.wide (evW TT C.wide n18 b18) n18 0 1 ⟨[(2,.rp [.i .i64 p0.fBase,.i .i64 p0.fBaseTerm,.sl 10 (ah GItem.row p0.fItems)]),(3,.rp [.i .i64 p1.fBase,.i .i64 p1.fBaseTerm,.sl 10 (ah GItem.row p1.fItems)])],[]⟩ ⟨c⟩=some (.normal,⟨[(4,.v (.b r))],[]⟩):=by
 have e:=Option.some.inj (ho.symm.trans (rfl:cD 0 1 b18=some _))
 subst e
 clear ho
 show aH _ _ _ _ _ _=_
 revert hF
 unfold ck_rlsameLog_k1
 refine bF (fun h1=>?_) (fun h1=>?_)
 rotate_left 1
 refine bF (fun h2=>?_) (fun h2=>?_)
 rotate_left 1
 refine az fun x1 h3=>?_
 have g1:=bK (k_rlsameItems p0.fItems p1.fItems _ h3)
 all_goals (rintro⟨⟩;simp (maxSteps:=4000000) only [*,n18k,n18K,n18mv,↓RP,RB,aQ,aD,be,bf,aJ,Mx.bl,opnd,Mx.bI,Nat.reduceBEq,bQ,Mx.fit,co,aN,aA,ay,Mx.put,ofConst,ofCell,Mx.prune,killB,aK,putDst,aw,aE,loadAt,bT,List.map,cz,cB,forceAll,lend,lendA,aS,aB,bR,bare,bW,ax,newB,cw,cy,cx,bh,ty3,ty4,ty48,ty50,↓aa _ _ _ _ 1])
theorem r_rlsameLog (C:aj) (k_rlsameItems:K_rlsameItems C) (p0:GLog) (p1:GLog) (r:Bool) (hF:rlsameLog p0 p1=some r):cR TT C.wide (evW TT C.wide n18 b18) n18 Try.f18.results.toList (aU Try.f18) [.agg [.v (.i .i64 p0.fBase),.v (.i .i64 p0.fBaseTerm),.v (.sl 10 (ah GItem.row p0.fItems))],.agg [.v (.i .i64 p1.fBase),.v (.i .i64 p1.fBaseTerm),.v (.sl 10 (ah GItem.row p1.fItems))]] []=some (.v (.b r),[]):=by
 revert hF
 unfold rlsameLog
 refine az fun x1 h1=>?_
 have g1:=rg_rlsameLog_k1 C k_rlsameItems p0 p1 _ rfl _ h1
 all_goals (rintro⟨⟩;rw [bk];show cC _ _ _ (aH _ _ _ _ (Code.seq _ _) _)=_;simp (maxSteps:=4000000) only [*,res18,n18k,n18K,n18ro,↓RP,RB,enter,be,bf,aJ,Mx.bl,opnd,Mx.bI,Nat.reduceBEq,bQ,Mx.fit,bP,co,toVs,cellsOf,toV,aN,aA,ay,Mx.put,ofConst,ofCell,Mx.prune,killB,List.map,aC,bu,bx,cA,bS,bJ,aM,lowC,ax,↓ao,ty4,ty50,↓aa _ _ _ _ 0,↓bg _ _ _ _ 1])
def n5K:List (Nat×List Nat):=[(0,[2,3]),(1,[2,3,5,6]),(2,[5,6,7,8]),(3,[4])]
def n5:cL where
 keep:=ax n5K
 ro:=fun t=>t==2||t==3
 mv:=fun _=>false
 give:=fun _=>false
 free:=fun i=>match i with|1=>[(0,2),(1,2),(6,7),(0,8),(1,8),(2,8),(3,8),(4,8),(5,8),(6,8),(7,8),(7,9)]|_=>[]
theorem n5k (i:Nat):n5.keep i=ax n5K i:=rfl
theorem n5ro (t:Nat):n5.ro t=(t==2||t==3):=rfl
theorem n5mv (t:Nat):n5.mv t=(false):=rfl
theorem n5f1:n5.free 1= [(0,2),(1,2),(6,7),(0,8),(1,8),(2,8),(3,8),(4,8),(5,8),(6,8),(7,8),(7,9)]:=rfl
theorem res5:Try.f5.results.toList= [.tmp 4]:=rfl
noncomputable def b5:Code:=aU Try.f5
theorem r_rlTapeRests (C:aj) (k_rrLogCopy_z:K_rrLogCopy_z C) (k_rlsnaps_z:K_rlsnaps_z C) (k_tape_Rest:K_tape_Rest C) (k_rrRestOf:K_rrRestOf C) (k_rlsameLog:K_rlsameLog C) (p0:GLog) (p1:GSnap) (r:Bool) (hF:rlTapeRests p0 p1=some r):cR TT C.wide (evW TT C.wide n5 b5) n5 Try.f5.results.toList (aU Try.f5) [.agg [.v (.i .i64 p0.fBase),.v (.i .i64 p0.fBaseTerm),.v (.sl 10 (ah GItem.row p0.fItems))],.agg [.v (.i .i64 p1.fIndex),.v (.i .i64 p1.fTerm),.v (.i .i64 p1.fMachine.fStore.fNow),.v (.sl 8 (ah GEntry.row p1.fMachine.fStore.fEntries)),.v (.i .i64 p1.fMachine.fNext),.v (.sl 7 (ah GClient.row p1.fMachine.fClients))]] []=some (.v (.b r),[]):=by
 revert hF
 unfold rlTapeRests
 refine az fun x1 h1=>?_
 have g1:=bK (k_rrLogCopy_z p0 _ h1)
 refine az fun x2 h2=>?_
 have g2:=bK (k_rlsnaps_z p1 _ h2)
 refine az ?_
 rintro⟨x3,x4⟩ h3
 dsimp only
 have g3:=bK (k_tape_Rest x1 x2 _ h3)
 try simp only [] at g3
 refine az ?_
 rintro⟨x5,x6⟩ h4
 dsimp only
 have g4:=bK (k_rrRestOf p0 p1 _ h4)
 try simp only [] at g4
 refine bF (fun h5=>?_) (fun h5=>?_)
 rotate_left 1
 refine az fun x7 h6=>?_
 have g5:=bK (k_rlsameLog x3 x5 _ h6)
 all_goals (rintro⟨⟩;rw [bk];show cC _ _ _ (aH _ _ _ _ (Code.seq _ _) _)=_;simp (maxSteps:=4000000) only [*,res5,n5k,n5K,n5f1,n5ro,n5mv,↓RP,RB,enter,aQ,aD,be,bf,aJ,Mx.bl,opnd,Mx.bI,Nat.reduceBEq,bQ,Mx.fit,bP,co,toVs,cellsOf,toV,aN,aA,ay,Mx.put,ofConst,ofCell,Mx.prune,killB,killBs,aK,putDst,aw,loadAt,bT,List.map,Nat.reduceAdd,cz,cB,aC,bu,bx,cA,bS,bJ,aM,lowC,forceAll,kill,lend,lendA,aS,aB,cg,bR,bare,bW,bG,setCells,Nat.reduceLeDiff,bM,cd,au,aI,aY,cm,bV,bL,cv,ch,bo,aL,bm,bp,bd,cr,Op.operands,ax,newB,cw,cy,cx,bne,↓ao,↓aa,↓aq,bh,aP,br,bN,Call.operands,ty4,ty29,ty42,ty50])
end Go.Proofs.Ytgcglmoogaldbaa
