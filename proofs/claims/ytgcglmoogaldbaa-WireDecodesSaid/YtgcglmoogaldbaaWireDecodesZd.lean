/- The code of these functions, run by the machine Mx, gives what the plain functions say, if their callees do (part 4). -/
import Derived.Test.YtgcglmoogaldbaaWTy
import Derived.Test.YtgcglmoogaldbaaWireDecodesD
set_option linter.unusedSimpArgs false
set_option linter.unusedVariables false
set_option linter.constructorNameAsVariable false
set_option linter.unnecessarySimpa false
set_option maxRecDepth 100000
set_option maxHeartbeats 40000000
namespace Go.Proofs.Ytgcglmoogaldbaa
open Go Go.Mx Go.Proofs
def n41K:List (Nat×List Nat):=[(0,[1]),(1,[1,20]),(2,[2]),(3,[1,3]),(4,[1,3,25]),(5,[1,3]),(6,[1,3,4]),(7,[1,3,80]),(8,[2]),(9,[2])]
def n41A:List (Nat×List Nat×List Nat):=[(20,[],[1]),(25,[1,3],[]),(80,[],[1,3])]
def n41:cL where
 keep:=ax n41K
 ro:=fun t=>t==1
 mv:=fun _=>false
 give:=fun _=>false
 free:=fun i=>match i with|7=>[(5,7),(6,7),(5,8),(6,8),(15,17),(16,17),(15,18),(16,18),(15,22),(16,22),(17,22),(18,22),(19,22),(20,22),(21,22),(15,23),(16,23),(17,23),(18,23),(19,23),(20,23),(21,23),(34,36),(35,36),(34,37),(35,37),(34,38),(35,38)]|_=>[]
 alive:=av n41A
theorem n41a (t:Nat) (x:Bool) (e:Env) (S:bH):cK n41 t x ⟨e,S⟩=atO (av n41A t x) e S:=cF rfl t x e S
theorem n41k (i:Nat):n41.keep i=ax n41K i:=rfl
theorem n41ro (t:Nat):n41.ro t=(t==1):=rfl
theorem n41mv (t:Nat):n41.mv t=(false):=rfl
theorem n41f7:n41.free 7= [(5,7),(6,7),(5,8),(6,8),(15,17),(16,17),(15,18),(16,18),(15,22),(16,22),(17,22),(18,22),(19,22),(20,22),(21,22),(15,23),(16,23),(17,23),(18,23),(19,23),(20,23),(21,23),(34,36),(35,36),(34,37),(35,37),(34,38),(35,38)]:=rfl
theorem res41:Try.f41.results.toList= [.tmp 2]:=rfl
noncomputable def b41:Code:=aU Try.f41
noncomputable def c41_0:Code:=(bE 0 (aU Try.f41)).getD .skip
theorem fl41_0:bE 0 b41=some c41_0:=rfl
theorem rg_rrMachineFault_k1 (C:aj) (k_rrStoreFault:K_rrStoreFault C) (k_rrIn:K_rrIn C) (p0:GMachine) (c:Code) (ho:cD 0 1 b41=some c) (r:Bool) (hF:ck_rrMachineFault_k1 p0=some r): @cV TT C.wide (evW TT C.wide n41 b41) n41 0 1 ⟨[(1,.rp [.i .i64 p0.fStore.fNow,.sl 8 (ah GEntry.row p0.fStore.fEntries),.i .i64 p0.fNext,.sl 7 (ah GClient.row p0.fClients)])],[]⟩ ⟨c⟩=some (.normal,⟨[(1,.rp [.i .i64 p0.fStore.fNow,.sl 8 (ah GEntry.row p0.fStore.fEntries),.i .i64 p0.fNext,.sl 7 (ah GClient.row p0.fClients)]),(20,.v (.b r))],[]⟩):=by
 have e:=Option.some.inj (ho.symm.trans (rfl:cD 0 1 b41=some _))
 subst e
 clear ho
 show aH _ _ _ _ _ _=_
 revert hF
 unfold ck_rrMachineFault_k1
 refine az fun x1 h1=>?_
 have g1:=bK (k_rrStoreFault p0.fStore _ h1)
 refine bF (fun h2=>?_) (fun h2=>?_)
 rotate_left 1
 have g2:=bK (k_rrIn p0.fNext 1 1048577 _ (rrIn_t p0.fNext 1 1048577))
 have g3:rrIn_v p0.fNext 1 1048577=(decide (1≤p0.fNext)&&decide (p0.fNext≤1048577)):=by first|rfl|(simp [rrIn_v];done)|(simp only [rrIn_v];decide)
 refine bF (fun h3=>?_) (fun h3=>?_)
 rotate_left 1
 refine aX (fun h4=>?_) (fun h4=>?_)
 rotate_left 1
 all_goals (rintro⟨⟩;simp (maxSteps:=4000000) only [*,n41k,n41K,n41mv,↓RP,RB,aQ,aD,be,Mx.bl,opnd,Mx.bI,Nat.reduceBEq,bQ,aN,aA,ay,Mx.put,ofConst,ofCell,Mx.prune,killB,aK,putDst,aw,aE,loadAt,bT,List.map,Nat.reduceAdd,cz,cB,cu,forceAll,lend,lendA,aS,aB,bR,bare,bW,ax,newB,cw,cy,cx,bne,bh,ty3,ty25,ty26,ty28,↓aa _ _ _ _ 1])
theorem rg_rrMachineFault_k7v2 (C:aj) (k_rrnumberMay:K_rrnumberMay C) (k_rrIn:K_rrIn C) (k_rrReplyFault:K_rrReplyFault C) (p0:GMachine) (p1:Int) (p2:GClient) (c:Code) (ho:cD 0 7 b41=some c) (r:Bool) (hF:ck_rrMachineFault_k7v2 p0 p1 p2=some r): @cV TT C.wide (evW TT C.wide n41 b41) n41 0 7 ⟨[(1,.rp [.i .i64 p0.fStore.fNow,.sl 8 (ah GEntry.row p0.fStore.fEntries),.i .i64 p0.fNext,.sl 7 (ah GClient.row p0.fClients)]),(3,.v (.i .i64 p1)),(4,.ptr 0 0)],[[.v (.i .i64 p2.fId),.v (.i .i64 p2.fSeq),.v (.i .i64 p2.fTime),.v (.i .i64 p2.fReply.fCode),.v (.s p2.fReply.fText),.v (.i .i64 p2.fReply.fN),.v (.sl 1 (ah bY p2.fReply.fList))]]⟩ ⟨c⟩=some (.normal,⟨[(1,.rp [.i .i64 p0.fStore.fNow,.sl 8 (ah GEntry.row p0.fStore.fEntries),.i .i64 p0.fNext,.sl 7 (ah GClient.row p0.fClients)]),(3,.v (.i .i64 p1)),(80,.v (.b r))],[[.v (.i .i64 p2.fId),.v (.i .i64 p2.fSeq),.v (.i .i64 p2.fTime),.v (.i .i64 p2.fReply.fCode),.v (.s p2.fReply.fText),.v (.i .i64 p2.fReply.fN),.v (.sl 1 (ah bY p2.fReply.fList))]]⟩):=by
 have e:=Option.some.inj (ho.symm.trans (rfl:cD 0 7 b41=some _))
 subst e
 clear ho
 show aH _ _ _ _ _ _=_
 revert hF
 unfold ck_rrMachineFault_k7v2
 have g1:=bK (k_rrnumberMay p2.fId _ (rrnumberMay_t p2.fId))
 refine bF (fun h1=>?_) (fun h1=>?_)
 rotate_left 1
 unfold ck_rrMachineFault_k7v2_c1
 refine aX (fun h2=>?_) (fun h2=>?_)
 rotate_left 1
 refine bF (fun h3=>?_) (fun h3=>?_)
 focus
  have g2:=bK (k_rrIn p2.fSeq 0 1048576 _ (rrIn_t p2.fSeq 0 1048576))
  have g3:rrIn_v p2.fSeq 0 1048576=(decide (0≤p2.fSeq)&&decide (p2.fSeq≤1048576)):=by first|rfl|(simp [rrIn_v];done)|(simp only [rrIn_v];decide)
  refine bF (fun h4=>?_) (fun h4=>?_)
  rotate_left 1
  refine bF (fun h5=>?_) (fun h5=>?_)
  rotate_left 1
  have g4:=bK (k_rrIn p2.fTime 0 p0.fStore.fNow _ (rrIn_t p2.fTime 0 p0.fStore.fNow))
  have g5:rrIn_v p2.fTime 0 p0.fStore.fNow=(decide (0≤p2.fTime)&&decide (p2.fTime≤p0.fStore.fNow)):=by first|rfl|(simp [rrIn_v];done)|(simp only [rrIn_v];decide)
  refine bF (fun h6=>?_) (fun h6=>?_)
  rotate_left 1
  refine bF (fun h7=>?_) (fun h7=>?_)
  rotate_left 1
  refine az fun x1 h8=>?_
  have g6:=bK (k_rrReplyFault p2.fReply _ h8)
 rotate_left 5
 unfold ck_rrMachineFault_k7v2_c0
 refine az fun x1 h4=>?_
 have g7:decide (0≤(IntKind.i64.wrap (p1-1)))=true:=(cp h4).1
 have g8:(ah GClient.row p0.fClients)[((IntKind.i64.wrap (p1-1)):Int).toNat]? =some [.i .i64 x1.fId,.i .i64 x1.fSeq,.i .i64 x1.fTime,.i .i64 x1.fReply.fCode,.s x1.fReply.fText,.i .i64 x1.fReply.fN,.sl 1 (ah bY x1.fReply.fList)]:=cn _ h4
 refine aX (fun h5=>?_) (fun h5=>?_)
 rotate_left 1
 have g2:=bK (k_rrIn p2.fSeq 0 1048576 _ (rrIn_t p2.fSeq 0 1048576))
 have g3:rrIn_v p2.fSeq 0 1048576=(decide (0≤p2.fSeq)&&decide (p2.fSeq≤1048576)):=by first|rfl|(simp [rrIn_v];done)|(simp only [rrIn_v];decide)
 refine bF (fun h6=>?_) (fun h6=>?_)
 rotate_left 1
 refine bF (fun h7=>?_) (fun h7=>?_)
 rotate_left 1
 have g4:=bK (k_rrIn p2.fTime 0 p0.fStore.fNow _ (rrIn_t p2.fTime 0 p0.fStore.fNow))
 have g5:rrIn_v p2.fTime 0 p0.fStore.fNow=(decide (0≤p2.fTime)&&decide (p2.fTime≤p0.fStore.fNow)):=by first|rfl|(simp [rrIn_v];done)|(simp only [rrIn_v];decide)
 refine bF (fun h8=>?_) (fun h8=>?_)
 rotate_left 1
 refine bF (fun h9=>?_) (fun h9=>?_)
 rotate_left 1
 refine az fun x2 h10=>?_
 have g9:=bK (k_rrReplyFault p2.fReply _ h10)
 all_goals (rintro⟨⟩;simp (maxSteps:=4000000) only [*,n41k,n41K,n41f7,n41mv,↓RP,RB,aQ,aD,be,Mx.bl,opnd,Mx.bI,Nat.reduceBEq,bQ,aN,aA,ay,Mx.put,ofConst,ofCell,Mx.prune,killB,aK,putDst,aw,aE,loadAt,bT,List.map,Nat.reduceAdd,cz,cB,forceAll,bj,fineE,oddAl,lend,lendA,aS,aB,bR,bare,bW,bG,Nat.reduceSub,cd,aI,aY,cm,bL,cv,ch,bo,aL,bm,Op.operands,ax,newB,cw,cy,cx,bne,bh,aP,br,Call.operands,ty3,ty25,ty26,ty28,ty79,ty81,↓aq _ _ _ _ 7])
def hd_rrMachineFault_0 (p0:GMachine) (s:Int):St:=⟨[(1,.rp [.i .i64 p0.fStore.fNow,.sl 8 (ah GEntry.row p0.fStore.fEntries),.i .i64 p0.fNext,.sl 7 (ah GClient.row p0.fClients)]),(3,.v (.i .i64 s))],[]⟩
def ou_rrMachineFault_0 (p0:GMachine) (r:GClient⊕Unit):Option (Ex×St):=match r with
 | .inl r=>some (.ret,⟨[(2,.v (.i .i64 13))],[[.v (.i .i64 r.fId),.v (.i .i64 r.fSeq),.v (.i .i64 r.fTime),.v (.i .i64 r.fReply.fCode),.v (.s r.fReply.fText),.v (.i .i64 r.fReply.fN),.v (.sl 1 (ah bY r.fReply.fList))]]⟩)
 | .inr r=>some (.normal,⟨[],[]⟩)
theorem sl_rrMachineFault_0 (C:aj) (k_rrnumberMay:K_rrnumberMay C) (k_rrIn:K_rrIn C) (k_rrReplyFault:K_rrReplyFault C) (p0:GMachine) (p1:Int) (o:Int⊕(GClient⊕Unit)) (hF:st_rrMachineFault_0 p0 p1=some o):evW TT C.wide n41 b41 0 (hd_rrMachineFault_0 p0 p1)=Sum.elim (fun s=>evW TT C.wide n41 b41 0 (hd_rrMachineFault_0 p0 s)) (fun r=>ou_rrMachineFault_0 p0 r) o:=by
 rw [cG TT n41 fl41_0]
 revert hF
 unfold st_rrMachineFault_0
 try dsimp only
 refine bF (fun h1=>?_) (fun h1=>?_)
 rotate_left 1
 refine az fun x1 h2=>?_
 have g1:decide (0≤p1)=true:=(cp h2).1
 have g2:(ah GClient.row p0.fClients)[(p1:Int).toNat]? =some [.i .i64 x1.fId,.i .i64 x1.fSeq,.i .i64 x1.fTime,.i .i64 x1.fReply.fCode,.s x1.fReply.fText,.i .i64 x1.fReply.fN,.sl 1 (ah bY x1.fReply.fList)]:=cn _ h2
 refine az fun x2 h3=>?_
 have g3:=rg_rrMachineFault_k7v2 C k_rrnumberMay k_rrIn k_rrReplyFault p0 p1 x1 _ rfl _ h3
 refine aX (fun h4=>?_) (fun h4=>?_)
 rotate_left 1
 all_goals (rintro⟨⟩;show cN _ _ _ (aH _ _ _ _ (Code.seq _ _) _)=_;simp (maxSteps:=4000000) only [*,hd_rrMachineFault_0,ou_rrMachineFault_0,n41a,n41A,n41k,n41K,n41mv,↓RP,RB,↓ai,be,bf,aJ,Mx.bl,opnd,Mx.bI,Nat.reduceBEq,bQ,Mx.fit,bP,co,cellsOf,aN,aA,ay,Mx.put,ofConst,ofCell,Mx.prune,killB,killBs,aK,putDst,aw,aE,loadAt,bT,List.map,Nat.reduceAdd,cz,cB,cu,bJ,aM,lowC,bj,kill,bG,setCells,Nat.reduceLeDiff,lowA,bn,ax,av,atO,cy,cx,bne,↓ao,↓am,ty3,ty26,ty28,ty29,ty81,↓aa _ _ _ _ 4,↓aa _ _ _ _ 6,↓bg _ _ _ _ 7,↓aa _ _ _ _ 8,↓aa _ _ _ _ 5])
theorem r_rrMachineFault (C:aj) (k_rrStoreFault:K_rrStoreFault C) (k_rrIn:K_rrIn C) (k_rrnumberMay:K_rrnumberMay C) (k_rrReplyFault:K_rrReplyFault C) (p0:GMachine) (r:Int) (hF:rrMachineFault p0=some r):cR TT C.wide (evW TT C.wide n41 b41) n41 Try.f41.results.toList (aU Try.f41) [.agg [.v (.i .i64 p0.fStore.fNow),.v (.sl 8 (ah GEntry.row p0.fStore.fEntries)),.v (.i .i64 p0.fNext),.v (.sl 7 (ah GClient.row p0.fClients))]] []=some (.v (.i .i64 r),[]):=by
 revert hF
 unfold rrMachineFault
 refine az fun x1 h1=>?_
 have g1:=rg_rrMachineFault_k1 C k_rrStoreFault k_rrIn p0 _ rfl _ h1
 refine aX (fun h2=>?_) (fun h2=>?_)
 rotate_left 1
 refine az ?_
 rintro (x2|_) h3
 focus
  dsimp only
  have g2:=cH _ _ (sl_rrMachineFault_0 C k_rrnumberMay k_rrIn k_rrReplyFault p0) h3
  try simp only [hd_rrMachineFault_0,ou_rrMachineFault_0] at g2
 rotate_left 1
 dsimp only
 have g3:=cH _ _ (sl_rrMachineFault_0 C k_rrnumberMay k_rrIn k_rrReplyFault p0) h3
 try simp only [hd_rrMachineFault_0,ou_rrMachineFault_0] at g3
 all_goals (rintro⟨⟩;rw [bk];show cC _ _ _ (aH _ _ _ _ (Code.seq _ _) _)=_;simp (maxSteps:=4000000) only [*,res41,n41a,n41A,n41k,n41K,n41ro,↓RP,RB,enter,be,bf,aJ,Mx.bl,opnd,Mx.bI,Nat.reduceBEq,bQ,Mx.fit,bP,co,toVs,cellsOf,toV,aN,aA,ay,Mx.put,ofConst,ofCell,Mx.prune,killB,List.map,aC,bu,bx,cA,bS,bJ,aM,lowC,ax,av,atO,↓ao,↓am,ty3,ty28,ty29,↓aa _ _ _ _ 0,↓bg _ _ _ _ 1,↓aa _ _ _ _ 2,↓aa _ _ _ _ 3,↓aa _ _ _ _ 9])
def n9K:List (Nat×List Nat):=[(0,[0,2]),(1,[0,2,14]),(2,[2,3]),(3,[2,4]),(4,[2,4,5]),(5,[2,4,5]),(6,[2,4,5,6]),(7,[2,4,5,6,7]),(8,[2,4,5,6,7,33]),(9,[2,4,5,6,7]),(10,[2,4,5,6,7,8]),(11,[2,4,5,6,7,8]),(12,[2,4,5,6,7,8]),(13,[2,4,5,6,7,8]),(14,[2,4,5,6,7]),(15,[2,4,5]),(16,[2,4,5,6]),(17,[2,4,5,6,9]),(18,[2,4,5,6,9,66]),(19,[2,4,5,6,9]),(20,[2,4,5,6,9,10]),(21,[2,4,5,6,9,10]),(22,[2,4,5,6,9,10]),(23,[2,4,5,6,9,10]),(24,[2,4,5,6,9,10]),(25,[2,4,5,6,9,10]),(26,[2,4,5,6,9,10]),(27,[2,4,5,6,9,10]),(28,[2,4,5,6,9]),(29,[2,5,11]),(30,[2,5,11,104]),(31,[2,5,11]),(32,[2,5,11,108]),(33,[2,3]),(34,[2,3])]
def n9A:List (Nat×List Nat×List Nat):=[(14,[2],[0,2]),(33,[2,4,5,6,7],[2,4,5]),(66,[2,4,5,6,9],[2,4,5]),(104,[2,5],[2,5,11]),(108,[2,11],[2,5])]
def n9:cL where
 keep:=ax n9K
 ro:=fun _=>false
 mv:=fun t=>t==49||t==97||t==111
 give:=fun _=>false
 free:=fun _=>[]
 alive:=av n9A
theorem n9a (t:Nat) (x:Bool) (e:Env) (S:bH):cK n9 t x ⟨e,S⟩=atO (av n9A t x) e S:=cF rfl t x e S
theorem n9k (i:Nat):n9.keep i=ax n9K i:=rfl
theorem n9ro (t:Nat):n9.ro t=(false):=rfl
theorem n9mv (t:Nat):n9.mv t=(t==49||t==97||t==111):=rfl
theorem n9gv (t:Nat):n9.give t=(false):=rfl
theorem res9:Try.f9.results.toList= [.cell 2 28,.tmp 3]:=rfl
noncomputable def b9:Code:=aU Try.f9
noncomputable def c9_0:Code:=(bE 0 (aU Try.f9)).getD .skip
theorem fl9_0:bE 0 b9=some c9_0:=rfl
noncomputable def c9_2:Code:=(bE 2 (aU Try.f9)).getD .skip
theorem fl9_2:bE 2 b9=some c9_2:=rfl
def hd_rrMachineOf_0 (p0:Int) (s:Int×Gscan×GMachine):St:=⟨[(2,.ptr 0 0),(4,.ptr 1 0),(5,.ptr 2 0),(6,.v (.i .i64 p0)),(7,.v (.i .i64 s.1))],[[.v (.i .i64 0),.own 8 [],.v (.i .i64 0),.own 7 []],[.v (.sl 1 (ah cE s.2.1.fb)),.v (.i .i64 s.2.1.fat)],[.v (.i .i64 s.2.2.fStore.fNow),.own 8 (ah GEntry.row s.2.2.fStore.fEntries),.v (.i .i64 s.2.2.fNext),.own 7 (ah GClient.row s.2.2.fClients)]]⟩
def ou_rrMachineOf_0 (p0:Int) (r:Gscan×GMachine):Option (Ex×St):=some (.normal,⟨[(2,.ptr 0 0),(4,.ptr 1 0),(5,.ptr 2 0)],[[.v (.i .i64 0),.own 8 [],.v (.i .i64 0),.own 7 []],[.v (.sl 1 (ah cE r.1.fb)),.v (.i .i64 r.1.fat)],[.v (.i .i64 r.2.fStore.fNow),.own 8 (ah GEntry.row r.2.fStore.fEntries),.v (.i .i64 r.2.fNext),.own 7 (ah GClient.row r.2.fClients)]]⟩)
theorem sl_rrMachineOf_0 (C:aj) (k_rrscan_over:K_rrscan_over C) (k_rrscan_str:K_rrscan_str C) (k_rrscan_valueNext:K_rrscan_valueNext C) (k_rrscan_long:K_rrscan_long C) (p0:Int) (s:Int×Gscan×GMachine) (o:(Int×Gscan×GMachine)⊕(Gscan×GMachine)) (hF:st_rrMachineOf_0 p0 s=some o):evW TT C.wide n9 b9 0 (hd_rrMachineOf_0 p0 s)=Sum.elim (fun s=>evW TT C.wide n9 b9 0 (hd_rrMachineOf_0 p0 s)) (fun r=>ou_rrMachineOf_0 p0 r) o:=by
 obtain⟨p1,p2,p3⟩:=s
 rw [cG TT n9 fl9_0]
 revert hF
 unfold st_rrMachineOf_0
 try dsimp only
 refine bF (fun h1=>?_) (fun h1=>?_)
 rotate_left 1
 refine az ?_
 rintro⟨x1,x2⟩ h2
 dsimp only
 have g1:C.wide 36 [.ptr 1 0] [[.v (.i .i64 0),.own 8 [],.v (.i .i64 0),.own 7 []],[.v (.sl 1 (ah cE p2.fb)),.v (.i .i64 p2.fat)],[.v (.i .i64 p3.fStore.fNow),.own 8 (ah GEntry.row p3.fStore.fEntries),.v (.i .i64 p3.fNext),.own 7 (ah GClient.row p3.fClients)]]=some (.v (.b x1),[[.v (.i .i64 0),.own 8 [],.v (.i .i64 0),.own 7 []],[.v (.sl 1 (ah cE x2.fb)),.v (.i .i64 x2.fat)],[.v (.i .i64 p3.fStore.fNow),.own 8 (ah GEntry.row p3.fStore.fEntries),.v (.i .i64 p3.fNext),.own 7 (ah GClient.row p3.fClients)]]):=cX [1] rfl rfl rfl rfl (k_rrscan_over p2 _ h2) rfl rfl
 refine aX (fun h3=>?_) (fun h3=>?_)
 rotate_left 1
 refine az ?_
 rintro⟨x3,x4⟩ h4
 dsimp only
 have g2:C.wide 37 [.ptr 1 0] [[.v (.i .i64 0),.own 8 [],.v (.i .i64 0),.own 7 []],[.v (.sl 1 (ah cE x2.fb)),.v (.i .i64 x2.fat)],[.v (.i .i64 p3.fStore.fNow),.own 8 (ah GEntry.row p3.fStore.fEntries),.v (.i .i64 p3.fNext),.own 7 (ah GClient.row p3.fClients)],[.v (.s ByteArray.empty),.v (.i .i64 0),.v (.s ByteArray.empty),.v (.i .i64 0),.own 2 [],.own 1 [],.own 2 [],.v (.i .i64 0)]]=some (.v (.s x3),[[.v (.i .i64 0),.own 8 [],.v (.i .i64 0),.own 7 []],[.v (.sl 1 (ah cE x4.fb)),.v (.i .i64 x4.fat)],[.v (.i .i64 p3.fStore.fNow),.own 8 (ah GEntry.row p3.fStore.fEntries),.v (.i .i64 p3.fNext),.own 7 (ah GClient.row p3.fClients)],[.v (.s ByteArray.empty),.v (.i .i64 0),.v (.s ByteArray.empty),.v (.i .i64 0),.own 2 [],.own 1 [],.own 2 [],.v (.i .i64 0)]]):=cX [1] rfl rfl rfl rfl (k_rrscan_str x2 _ h4) rfl rfl
 refine az ?_
 rintro⟨x5,x6⟩ h5
 dsimp only
 have g3:C.wide 38 [.ptr 1 0] [[.v (.i .i64 0),.own 8 [],.v (.i .i64 0),.own 7 []],[.v (.sl 1 (ah cE x4.fb)),.v (.i .i64 x4.fat)],[.v (.i .i64 p3.fStore.fNow),.own 8 (ah GEntry.row p3.fStore.fEntries),.v (.i .i64 p3.fNext),.own 7 (ah GClient.row p3.fClients)],[.v (.s x3),.v (.i .i64 0),.v (.s ByteArray.empty),.v (.i .i64 0),.own 2 [],.own 1 [],.own 2 [],.v (.i .i64 0)]]=some (.agg [.v (.i .i64 x5.fKind),.v (.s x5.fText),.v (.i .i64 x5.fCount),.own 2 (ah GPair.row x5.fPairs),.own 1 (ah bY x5.fItems),.own 2 (ah GScore.row x5.fScores)],[[.v (.i .i64 0),.own 8 [],.v (.i .i64 0),.own 7 []],[.v (.sl 1 (ah cE x6.fb)),.v (.i .i64 x6.fat)],[.v (.i .i64 p3.fStore.fNow),.own 8 (ah GEntry.row p3.fStore.fEntries),.v (.i .i64 p3.fNext),.own 7 (ah GClient.row p3.fClients)],[.v (.s x3),.v (.i .i64 0),.v (.s ByteArray.empty),.v (.i .i64 0),.own 2 [],.own 1 [],.own 2 [],.v (.i .i64 0)]]):=cX [1] rfl rfl rfl rfl (k_rrscan_valueNext x4 _ h5) rfl rfl
 refine az ?_
 rintro⟨x7,x8⟩ h6
 dsimp only
 have g4:C.wide 34 [.ptr 1 0] [[.v (.i .i64 0),.own 8 [],.v (.i .i64 0),.own 7 []],[.v (.sl 1 (ah cE x6.fb)),.v (.i .i64 x6.fat)],[.v (.i .i64 p3.fStore.fNow),.own 8 (ah GEntry.row p3.fStore.fEntries),.v (.i .i64 p3.fNext),.own 7 (ah GClient.row p3.fClients)],[.v (.s x3),.v (.i .i64 x5.fKind),.v (.s x5.fText),.v (.i .i64 x5.fCount),.own 2 (ah GPair.row x5.fPairs),.own 1 (ah bY x5.fItems),.own 2 (ah GScore.row x5.fScores),.v (.i .i64 0)]]=some (.v (.i .i64 x7),[[.v (.i .i64 0),.own 8 [],.v (.i .i64 0),.own 7 []],[.v (.sl 1 (ah cE x8.fb)),.v (.i .i64 x8.fat)],[.v (.i .i64 p3.fStore.fNow),.own 8 (ah GEntry.row p3.fStore.fEntries),.v (.i .i64 p3.fNext),.own 7 (ah GClient.row p3.fClients)],[.v (.s x3),.v (.i .i64 x5.fKind),.v (.s x5.fText),.v (.i .i64 x5.fCount),.own 2 (ah GPair.row x5.fPairs),.own 1 (ah bY x5.fItems),.own 2 (ah GScore.row x5.fScores),.v (.i .i64 0)]]):=cX [1] rfl rfl rfl rfl (k_rrscan_long x6 _ h6) rfl rfl
 refine aX (fun h7=>?_) (fun _=>nofun)
 all_goals (rintro⟨⟩;show cN _ _ _ (aH _ _ _ _ (Code.seq _ _) _)=_;simp (maxSteps:=4000000) only [*,hd_rrMachineOf_0,ou_rrMachineOf_0,n9a,n9A,n9k,n9K,n9mv,n9gv,↓RP,RB,↓ai,aQ,aD,be,bf,aJ,Mx.bl,opnd,Mx.bI,Nat.reduceBEq,bQ,Mx.fit,bP,co,toVs,cellsOf,toV,aN,aA,ay,Mx.put,ofConst,ofCell,Mx.prune,killB,killBs,aK,putDst,aw,ar,aE,loadAt,List.map,Nat.reduceAdd,Nat.reduceMul,cz,cB,aO,bJ,aM,bD,lowC,forceAll,kill,spendLoc,spendOk,bO,bU,lend,lendA,aS,aB,bR,bare,bW,frz,cq,bw,argE,argsE,bG,ce,fill,setCells,takeParts,bv,aR,Nat.reduceLT,Nat.reduceLeDiff,lowA,bn,ax,av,atO,newB,cw,cy,cx,bne,↓ao,↓am,↓aa,bh,aF,ty3,ty9,ty23,ty25,ty28,ty74,ty77,GEntry.one])
def hd_rrMachineOf_2 (p0:Int) (s:Int×Gscan×GMachine):St:=⟨[(2,.ptr 0 0),(4,.ptr 1 0),(5,.ptr 2 0),(6,.v (.i .i64 p0)),(9,.v (.i .i64 s.1))],[[.v (.i .i64 0),.own 8 [],.v (.i .i64 0),.own 7 []],[.v (.sl 1 (ah cE s.2.1.fb)),.v (.i .i64 s.2.1.fat)],[.v (.i .i64 s.2.2.fStore.fNow),.own 8 (ah GEntry.row s.2.2.fStore.fEntries),.v (.i .i64 s.2.2.fNext),.own 7 (ah GClient.row s.2.2.fClients)]]⟩
def ou_rrMachineOf_2 (p0:Int) (r:Gscan×GMachine):Option (Ex×St):=some (.normal,⟨[(2,.ptr 0 0),(4,.ptr 1 0),(5,.ptr 2 0)],[[.v (.i .i64 0),.own 8 [],.v (.i .i64 0),.own 7 []],[.v (.sl 1 (ah cE r.1.fb)),.v (.i .i64 r.1.fat)],[.v (.i .i64 r.2.fStore.fNow),.own 8 (ah GEntry.row r.2.fStore.fEntries),.v (.i .i64 r.2.fNext),.own 7 (ah GClient.row r.2.fClients)]]⟩)
theorem sl_rrMachineOf_2 (C:aj) (k_rrscan_over:K_rrscan_over C) (k_rrscan_long:K_rrscan_long C) (k_rrscan_next:K_rrscan_next C) (k_rrscan_str:K_rrscan_str C) (k_rrscan_strs:K_rrscan_strs C) (p0:Int) (s:Int×Gscan×GMachine) (o:(Int×Gscan×GMachine)⊕(Gscan×GMachine)) (hF:st_rrMachineOf_2 p0 s=some o):evW TT C.wide n9 b9 2 (hd_rrMachineOf_2 p0 s)=Sum.elim (fun s=>evW TT C.wide n9 b9 2 (hd_rrMachineOf_2 p0 s)) (fun r=>ou_rrMachineOf_2 p0 r) o:=by
 obtain⟨p1,p2,p3⟩:=s
 rw [cG TT n9 fl9_2]
 revert hF
 unfold st_rrMachineOf_2
 try dsimp only
 refine bF (fun h1=>?_) (fun h1=>?_)
 rotate_left 1
 refine az ?_
 rintro⟨x1,x2⟩ h2
 dsimp only
 have g1:C.wide 36 [.ptr 1 0] [[.v (.i .i64 0),.own 8 [],.v (.i .i64 0),.own 7 []],[.v (.sl 1 (ah cE p2.fb)),.v (.i .i64 p2.fat)],[.v (.i .i64 p3.fStore.fNow),.own 8 (ah GEntry.row p3.fStore.fEntries),.v (.i .i64 p3.fNext),.own 7 (ah GClient.row p3.fClients)]]=some (.v (.b x1),[[.v (.i .i64 0),.own 8 [],.v (.i .i64 0),.own 7 []],[.v (.sl 1 (ah cE x2.fb)),.v (.i .i64 x2.fat)],[.v (.i .i64 p3.fStore.fNow),.own 8 (ah GEntry.row p3.fStore.fEntries),.v (.i .i64 p3.fNext),.own 7 (ah GClient.row p3.fClients)]]):=cX [1] rfl rfl rfl rfl (k_rrscan_over p2 _ h2) rfl rfl
 refine aX (fun h3=>?_) (fun h3=>?_)
 rotate_left 1
 refine az ?_
 rintro⟨x3,x4⟩ h4
 dsimp only
 unfold st_rrMachineOf_2_c0
 have g2:C.wide 34 [.ptr 1 0] [[.v (.i .i64 0),.own 8 [],.v (.i .i64 0),.own 7 []],[.v (.sl 1 (ah cE x2.fb)),.v (.i .i64 x2.fat)],[.v (.i .i64 p3.fStore.fNow),.own 8 (ah GEntry.row p3.fStore.fEntries),.v (.i .i64 p3.fNext),.own 7 (ah GClient.row p3.fClients)],[.v (.i .i64 0),.v (.i .i64 0),.v (.i .i64 0),.v (.i .i64 0),.v (.s ByteArray.empty),.v (.i .i64 0),.own 1 []]]=some (.v (.i .i64 x3),[[.v (.i .i64 0),.own 8 [],.v (.i .i64 0),.own 7 []],[.v (.sl 1 (ah cE x4.fb)),.v (.i .i64 x4.fat)],[.v (.i .i64 p3.fStore.fNow),.own 8 (ah GEntry.row p3.fStore.fEntries),.v (.i .i64 p3.fNext),.own 7 (ah GClient.row p3.fClients)],[.v (.i .i64 0),.v (.i .i64 0),.v (.i .i64 0),.v (.i .i64 0),.v (.s ByteArray.empty),.v (.i .i64 0),.own 1 []]]):=cX [1] rfl rfl rfl rfl (k_rrscan_long x2 _ h4) rfl rfl
 refine az ?_
 rintro⟨x5,x6⟩ h5
 dsimp only
 have g3:C.wide 34 [.ptr 1 0] [[.v (.i .i64 0),.own 8 [],.v (.i .i64 0),.own 7 []],[.v (.sl 1 (ah cE x4.fb)),.v (.i .i64 x4.fat)],[.v (.i .i64 p3.fStore.fNow),.own 8 (ah GEntry.row p3.fStore.fEntries),.v (.i .i64 p3.fNext),.own 7 (ah GClient.row p3.fClients)],[.v (.i .i64 x3),.v (.i .i64 0),.v (.i .i64 0),.v (.i .i64 0),.v (.s ByteArray.empty),.v (.i .i64 0),.own 1 []]]=some (.v (.i .i64 x5),[[.v (.i .i64 0),.own 8 [],.v (.i .i64 0),.own 7 []],[.v (.sl 1 (ah cE x6.fb)),.v (.i .i64 x6.fat)],[.v (.i .i64 p3.fStore.fNow),.own 8 (ah GEntry.row p3.fStore.fEntries),.v (.i .i64 p3.fNext),.own 7 (ah GClient.row p3.fClients)],[.v (.i .i64 x3),.v (.i .i64 0),.v (.i .i64 0),.v (.i .i64 0),.v (.s ByteArray.empty),.v (.i .i64 0),.own 1 []]]):=cX [1] rfl rfl rfl rfl (k_rrscan_long x4 _ h5) rfl rfl
 refine az ?_
 rintro⟨x7,x8⟩ h6
 dsimp only
 have g4:C.wide 34 [.ptr 1 0] [[.v (.i .i64 0),.own 8 [],.v (.i .i64 0),.own 7 []],[.v (.sl 1 (ah cE x6.fb)),.v (.i .i64 x6.fat)],[.v (.i .i64 p3.fStore.fNow),.own 8 (ah GEntry.row p3.fStore.fEntries),.v (.i .i64 p3.fNext),.own 7 (ah GClient.row p3.fClients)],[.v (.i .i64 x3),.v (.i .i64 x5),.v (.i .i64 0),.v (.i .i64 0),.v (.s ByteArray.empty),.v (.i .i64 0),.own 1 []]]=some (.v (.i .i64 x7),[[.v (.i .i64 0),.own 8 [],.v (.i .i64 0),.own 7 []],[.v (.sl 1 (ah cE x8.fb)),.v (.i .i64 x8.fat)],[.v (.i .i64 p3.fStore.fNow),.own 8 (ah GEntry.row p3.fStore.fEntries),.v (.i .i64 p3.fNext),.own 7 (ah GClient.row p3.fClients)],[.v (.i .i64 x3),.v (.i .i64 x5),.v (.i .i64 0),.v (.i .i64 0),.v (.s ByteArray.empty),.v (.i .i64 0),.own 1 []]]):=cX [1] rfl rfl rfl rfl (k_rrscan_long x6 _ h6) rfl rfl
 refine az ?_
 rintro⟨x9,x10⟩ h7
 dsimp only
 have g5:C.wide 35 [.ptr 1 0] [[.v (.i .i64 0),.own 8 [],.v (.i .i64 0),.own 7 []],[.v (.sl 1 (ah cE x8.fb)),.v (.i .i64 x8.fat)],[.v (.i .i64 p3.fStore.fNow),.own 8 (ah GEntry.row p3.fStore.fEntries),.v (.i .i64 p3.fNext),.own 7 (ah GClient.row p3.fClients)],[.v (.i .i64 x3),.v (.i .i64 x5),.v (.i .i64 x7),.v (.i .i64 0),.v (.s ByteArray.empty),.v (.i .i64 0),.own 1 []]]=some (.v (.i .i64 x9),[[.v (.i .i64 0),.own 8 [],.v (.i .i64 0),.own 7 []],[.v (.sl 1 (ah cE x10.fb)),.v (.i .i64 x10.fat)],[.v (.i .i64 p3.fStore.fNow),.own 8 (ah GEntry.row p3.fStore.fEntries),.v (.i .i64 p3.fNext),.own 7 (ah GClient.row p3.fClients)],[.v (.i .i64 x3),.v (.i .i64 x5),.v (.i .i64 x7),.v (.i .i64 0),.v (.s ByteArray.empty),.v (.i .i64 0),.own 1 []]]):=cX [1] rfl rfl rfl rfl (k_rrscan_next x8 _ h7) rfl rfl
 refine az ?_
 rintro⟨x11,x12⟩ h8
 dsimp only
 have g6:C.wide 37 [.ptr 1 0] [[.v (.i .i64 0),.own 8 [],.v (.i .i64 0),.own 7 []],[.v (.sl 1 (ah cE x10.fb)),.v (.i .i64 x10.fat)],[.v (.i .i64 p3.fStore.fNow),.own 8 (ah GEntry.row p3.fStore.fEntries),.v (.i .i64 p3.fNext),.own 7 (ah GClient.row p3.fClients)],[.v (.i .i64 x3),.v (.i .i64 x5),.v (.i .i64 x7),.v (.i .i64 x9),.v (.s ByteArray.empty),.v (.i .i64 0),.own 1 []]]=some (.v (.s x11),[[.v (.i .i64 0),.own 8 [],.v (.i .i64 0),.own 7 []],[.v (.sl 1 (ah cE x12.fb)),.v (.i .i64 x12.fat)],[.v (.i .i64 p3.fStore.fNow),.own 8 (ah GEntry.row p3.fStore.fEntries),.v (.i .i64 p3.fNext),.own 7 (ah GClient.row p3.fClients)],[.v (.i .i64 x3),.v (.i .i64 x5),.v (.i .i64 x7),.v (.i .i64 x9),.v (.s ByteArray.empty),.v (.i .i64 0),.own 1 []]]):=cX [1] rfl rfl rfl rfl (k_rrscan_str x10 _ h8) rfl rfl
 refine az ?_
 rintro⟨x13,x14⟩ h9
 dsimp only
 have g7:C.wide 34 [.ptr 1 0] [[.v (.i .i64 0),.own 8 [],.v (.i .i64 0),.own 7 []],[.v (.sl 1 (ah cE x12.fb)),.v (.i .i64 x12.fat)],[.v (.i .i64 p3.fStore.fNow),.own 8 (ah GEntry.row p3.fStore.fEntries),.v (.i .i64 p3.fNext),.own 7 (ah GClient.row p3.fClients)],[.v (.i .i64 x3),.v (.i .i64 x5),.v (.i .i64 x7),.v (.i .i64 x9),.v (.s x11),.v (.i .i64 0),.own 1 []]]=some (.v (.i .i64 x13),[[.v (.i .i64 0),.own 8 [],.v (.i .i64 0),.own 7 []],[.v (.sl 1 (ah cE x14.fb)),.v (.i .i64 x14.fat)],[.v (.i .i64 p3.fStore.fNow),.own 8 (ah GEntry.row p3.fStore.fEntries),.v (.i .i64 p3.fNext),.own 7 (ah GClient.row p3.fClients)],[.v (.i .i64 x3),.v (.i .i64 x5),.v (.i .i64 x7),.v (.i .i64 x9),.v (.s x11),.v (.i .i64 0),.own 1 []]]):=cX [1] rfl rfl rfl rfl (k_rrscan_long x12 _ h9) rfl rfl
 refine az ?_
 rintro⟨x15,x16⟩ h10
 dsimp only
 have g8:C.wide 39 [.ptr 1 0] [[.v (.i .i64 0),.own 8 [],.v (.i .i64 0),.own 7 []],[.v (.sl 1 (ah cE x14.fb)),.v (.i .i64 x14.fat)],[.v (.i .i64 p3.fStore.fNow),.own 8 (ah GEntry.row p3.fStore.fEntries),.v (.i .i64 p3.fNext),.own 7 (ah GClient.row p3.fClients)],[.v (.i .i64 x3),.v (.i .i64 x5),.v (.i .i64 x7),.v (.i .i64 x9),.v (.s x11),.v (.i .i64 x13),.own 1 []]]=some (.own 1 (ah bY x15),[[.v (.i .i64 0),.own 8 [],.v (.i .i64 0),.own 7 []],[.v (.sl 1 (ah cE x16.fb)),.v (.i .i64 x16.fat)],[.v (.i .i64 p3.fStore.fNow),.own 8 (ah GEntry.row p3.fStore.fEntries),.v (.i .i64 p3.fNext),.own 7 (ah GClient.row p3.fClients)],[.v (.i .i64 x3),.v (.i .i64 x5),.v (.i .i64 x7),.v (.i .i64 x9),.v (.s x11),.v (.i .i64 x13),.own 1 []]]):=cX [1] rfl rfl rfl rfl (k_rrscan_strs x14 _ h10) rfl rfl
 refine aX (fun h11=>?_) (fun _=>nofun)
 try simp only [h3] at g6 g7 g8
 all_goals (rintro⟨⟩;show cN _ _ _ (aH _ _ _ _ (Code.seq _ _) _)=_;simp (maxSteps:=4000000) only [*,hd_rrMachineOf_2,ou_rrMachineOf_2,n9a,n9A,n9k,n9K,n9mv,n9gv,↓RP,RB,↓ai,aQ,aD,be,bf,aJ,Mx.bl,opnd,Mx.bI,Nat.reduceBEq,bQ,Mx.fit,bP,co,toVs,cellsOf,toV,aN,aA,ay,Mx.put,ofConst,ofCell,Mx.prune,killB,killBs,aK,putDst,aw,ar,aE,loadAt,List.map,Nat.reduceAdd,Nat.reduceMul,cz,cB,aO,bJ,aM,bD,lowC,forceAll,kill,spendLoc,spendOk,bO,bU,lend,lendA,aS,aB,bR,bare,bW,frz,cq,bw,argE,argsE,bG,ce,fill,setCells,takeParts,bv,aR,Nat.reduceLT,Nat.reduceLeDiff,lowA,bn,ax,av,atO,newB,cw,cy,cx,bne,↓ao,↓am,↓aa,bh,aF,ty3,ty9,ty26,ty28,ty29,ty71,ty79,ty81,GClient.one])
theorem rg_rrMachineOf_q104 (C:aj) (k_rrMachineFault:K_rrMachineFault C) (p0:Int) (p1:Bool) (p2:Gscan) (p3:GMachine) (c:Code) (ho:cD 1 104 b9=some c) (r:Int) (hF:ck_rrMachineOf_q104 p0 p1 p2 p3=some r): @cV TT C.wide (evW TT C.wide n9 b9) n9 1 104 ⟨[(2,.ptr 0 0),(5,.ptr 2 0),(11,.v (.i .i64 p0)),(104,.v (.b p1))],[[.v (.i .i64 0),.own 8 [],.v (.i .i64 0),.own 7 []],[.v (.sl 1 (ah cE p2.fb)),.v (.i .i64 p2.fat)],[.v (.i .i64 p3.fStore.fNow),.own 8 (ah GEntry.row p3.fStore.fEntries),.v (.i .i64 p3.fNext),.own 7 (ah GClient.row p3.fClients)]]⟩ ⟨c⟩=some (.normal,⟨[(2,.ptr 0 0),(5,.ptr 2 0),(11,.v (.i .i64 r))],[[.v (.i .i64 0),.own 8 [],.v (.i .i64 0),.own 7 []],[.v (.sl 1 (ah cE p2.fb)),.v (.i .i64 p2.fat)],[.v (.i .i64 p3.fStore.fNow),.own 8 (ah GEntry.row p3.fStore.fEntries),.v (.i .i64 p3.fNext),.own 7 (ah GClient.row p3.fClients)]]⟩):=by
 have e:=Option.some.inj (ho.symm.trans (rfl:cD 1 104 b9=some _))
 subst e
 clear ho
 show aH _ _ _ _ _ _=_
 revert hF
 unfold ck_rrMachineOf_q104
 refine bF (fun h1=>?_) (fun h1=>?_)
 rotate_left 1
 refine az fun x1 h2=>?_
 have g1:=bK (k_rrMachineFault p3 _ h2)
 all_goals (rintro⟨⟩;simp (maxSteps:=4000000) only [*,n9a,n9A,n9k,n9K,n9mv,↓RP,RB,be,bf,aJ,Mx.bl,opnd,Mx.bI,Nat.reduceBEq,bQ,Mx.fit,co,aN,aA,Mx.put,Mx.prune,killB,aK,putDst,aw,loadAt,List.map,Nat.reduceAdd,forceAll,lend,lendA,aS,aB,bR,bare,bW,ax,av,atO,newB,cw,↓am,aP,ty28,ty29,↓aa _ _ _ _ 31])
theorem r_rrMachineOf (C:aj) (k_rrscan_long:K_rrscan_long C) (k_rrscan_next:K_rrscan_next C) (k_rrscan_end:K_rrscan_end C) (k_rrMachineFault:K_rrMachineFault C) (k_rrscan_over:K_rrscan_over C) (k_rrscan_str:K_rrscan_str C) (k_rrscan_valueNext:K_rrscan_valueNext C) (k_rrscan_strs:K_rrscan_strs C) (p0:List Int) (r:GMachine×Int) (hF:rrMachineOf p0=some r):cR TT C.wide (evW TT C.wide n9 b9) n9 Try.f9.results.toList (aU Try.f9) [.v (.sl 1 (ah cE p0))] []=some (.tup [.agg [.v (.i .i64 r.1.fStore.fNow),.v (.sl 8 (ah GEntry.row r.1.fStore.fEntries)),.v (.i .i64 r.1.fNext),.v (.sl 7 (ah GClient.row r.1.fClients))],.v (.i .i64 r.2)],[]):=by
 revert hF
 unfold rrMachineOf
 refine aX (fun h1=>?_) (fun h1=>?_)
 rotate_left 1
 refine az ?_
 rintro⟨x1,x2⟩ h2
 dsimp only
 have g1:C.wide 34 [.ptr 1 0] [[.v (.i .i64 0),.own 8 [],.v (.i .i64 0),.own 7 []],[.v (.sl 1 (ah cE p0)),.v (.i .i64 0)],[.v (.i .i64 0),.own 8 [],.v (.i .i64 0),.own 7 []]]=some (.v (.i .i64 x1),[[.v (.i .i64 0),.own 8 [],.v (.i .i64 0),.own 7 []],[.v (.sl 1 (ah cE x2.fb)),.v (.i .i64 x2.fat)],[.v (.i .i64 0),.own 8 [],.v (.i .i64 0),.own 7 []]]):=cX [1] rfl rfl rfl rfl (k_rrscan_long (Gscan.mk p0 0) _ h2) rfl rfl
 refine az ?_
 rintro⟨x3,x4⟩ h3
 dsimp only
 have g2:C.wide 35 [.ptr 1 0] [[.v (.i .i64 0),.own 8 [],.v (.i .i64 0),.own 7 []],[.v (.sl 1 (ah cE x2.fb)),.v (.i .i64 x2.fat)],[.v (.i .i64 x1),.own 8 [],.v (.i .i64 0),.own 7 []]]=some (.v (.i .i64 x3),[[.v (.i .i64 0),.own 8 [],.v (.i .i64 0),.own 7 []],[.v (.sl 1 (ah cE x4.fb)),.v (.i .i64 x4.fat)],[.v (.i .i64 x1),.own 8 [],.v (.i .i64 0),.own 7 []]]):=cX [1] rfl rfl rfl rfl (k_rrscan_next x2 _ h3) rfl rfl
 refine az ?_
 rintro⟨x5,x6⟩ h4
 dsimp only
 unfold rrMachineOf_c1
 have g3:=cH _ _ (sl_rrMachineOf_0 C k_rrscan_over k_rrscan_str k_rrscan_valueNext k_rrscan_long x3) h4
 try simp only [ak,hd_rrMachineOf_0,ou_rrMachineOf_0] at g3
 refine az ?_
 rintro⟨x7,x8⟩ h5
 dsimp only
 have g4:C.wide 34 [.ptr 1 0] [[.v (.i .i64 0),.own 8 [],.v (.i .i64 0),.own 7 []],[.v (.sl 1 (ah cE x5.fb)),.v (.i .i64 x5.fat)],[.v (.i .i64 x6.fStore.fNow),.own 8 (ah GEntry.row x6.fStore.fEntries),.v (.i .i64 x6.fNext),.own 7 (ah GClient.row x6.fClients)]]=some (.v (.i .i64 x7),[[.v (.i .i64 0),.own 8 [],.v (.i .i64 0),.own 7 []],[.v (.sl 1 (ah cE x8.fb)),.v (.i .i64 x8.fat)],[.v (.i .i64 x6.fStore.fNow),.own 8 (ah GEntry.row x6.fStore.fEntries),.v (.i .i64 x6.fNext),.own 7 (ah GClient.row x6.fClients)]]):=cX [1] rfl rfl rfl rfl (k_rrscan_long x5 _ h5) rfl rfl
 refine az ?_
 rintro⟨x9,x10⟩ h6
 dsimp only
 have g5:C.wide 35 [.ptr 1 0] [[.v (.i .i64 0),.own 8 [],.v (.i .i64 0),.own 7 []],[.v (.sl 1 (ah cE x8.fb)),.v (.i .i64 x8.fat)],[.v (.i .i64 x6.fStore.fNow),.own 8 (ah GEntry.row x6.fStore.fEntries),.v (.i .i64 x7),.own 7 (ah GClient.row x6.fClients)]]=some (.v (.i .i64 x9),[[.v (.i .i64 0),.own 8 [],.v (.i .i64 0),.own 7 []],[.v (.sl 1 (ah cE x10.fb)),.v (.i .i64 x10.fat)],[.v (.i .i64 x6.fStore.fNow),.own 8 (ah GEntry.row x6.fStore.fEntries),.v (.i .i64 x7),.own 7 (ah GClient.row x6.fClients)]]):=cX [1] rfl rfl rfl rfl (k_rrscan_next x8 _ h6) rfl rfl
 refine az ?_
 rintro⟨x11,x12⟩ h7
 dsimp only
 unfold rrMachineOf_c0
 have g6:=cH _ _ (sl_rrMachineOf_2 C k_rrscan_over k_rrscan_long k_rrscan_next k_rrscan_str k_rrscan_strs x9) h7
 try simp only [hd_rrMachineOf_2,ou_rrMachineOf_2] at g6
 refine az ?_
 rintro⟨x13,x14⟩ h8
 dsimp only
 have g7:C.wide 40 [.ptr 1 0,.v (.b true)] [[.v (.i .i64 0),.own 8 [],.v (.i .i64 0),.own 7 []],[.v (.sl 1 (ah cE x11.fb)),.v (.i .i64 x11.fat)],[.v (.i .i64 x12.fStore.fNow),.own 8 (ah GEntry.row x12.fStore.fEntries),.v (.i .i64 x12.fNext),.own 7 (ah GClient.row x12.fClients)]]=some (.v (.i .i64 x13),[[.v (.i .i64 0),.own 8 [],.v (.i .i64 0),.own 7 []],[.v (.sl 1 (ah cE x14.fb)),.v (.i .i64 x14.fat)],[.v (.i .i64 x12.fStore.fNow),.own 8 (ah GEntry.row x12.fStore.fEntries),.v (.i .i64 x12.fNext),.own 7 (ah GClient.row x12.fClients)]]):=cX [1] rfl rfl rfl rfl (k_rrscan_end true x11 _ h8) rfl rfl
 refine az fun x15 h9=>?_
 have g8:=rg_rrMachineOf_q104 C k_rrMachineFault x13 (x13==0) x14 x12 _ rfl _ h9
 refine aX (fun h10=>?_) (fun h10=>?_)
 rotate_left 1
 all_goals (rintro⟨⟩;rw [bk];show cC _ _ _ (aH _ _ _ _ (Code.seq _ _) _)=_;simp (maxSteps:=4000000) only [*,res9,n9a,n9A,n9k,n9K,n9ro,n9mv,n9gv,↓RP,RB,enter,be,bf,aJ,Mx.bl,opnd,Mx.bI,Nat.reduceBEq,bQ,Mx.fit,bP,co,toVs,cellsOf,toV,aN,aA,ay,Mx.put,ofConst,ofCell,Mx.prune,killB,killBs,aK,putDst,aw,ar,aE,List.map,Nat.reduceAdd,cz,cB,cu,aC,bu,bx,cA,bJ,aM,bD,lowC,forceAll,kill,lend,lendA,aS,aB,bR,bare,bW,frz,cq,bw,argE,argsE,bG,ce,fill,setCells,takeParts,Nat.reduceLeDiff,bq,ax,av,atO,newB,cw,cy,cx,bne,↓ao,ty3,ty22,ty25,ty26,ty28,ty29,ty85,ty87,↓aa _ _ _ _ 0,↓aa _ _ _ _ 1,↓am _ _ _ _ 14,↓aa _ _ _ _ 2,↓aa _ _ _ _ 3,↓aa _ _ _ _ 4,↓aa _ _ _ _ 5,↓aa _ _ _ _ 6,↓aa _ _ _ _ 7,↓aa _ _ _ _ 15,↓aa _ _ _ _ 16,↓aa _ _ _ _ 17,↓aa _ _ _ _ 29,↓aa _ _ _ _ 30,↓evCode_condB _ _ _ _ 104,↓aa _ _ _ _ 32,↓am _ _ _ _ 108,↓aa _ _ _ _ 33,↓aa _ _ _ _ 34])
def n76K:List (Nat×List Nat):=[(0,[0,1]),(1,[0,1,10]),(2,[4]),(3,[0,1,5]),(4,[0,1,5,14]),(5,[0,1,5]),(6,[0,1,5,25]),(7,[4]),(8,[4])]
def n76A:List (Nat×List Nat×List Nat):=[(10,[],[0,1]),(14,[0,1,5],[]),(25,[],[0,1,5])]
def n76:cL where
 keep:=ax n76K
 ro:=fun _=>false
 mv:=fun _=>false
 give:=fun _=>false
 free:=fun i=>match i with|6=>[(0,1),(0,4),(1,4),(2,4),(3,4),(0,5),(1,5),(2,5),(3,5),(4,5),(0,6),(1,6),(2,6),(3,6),(0,7),(1,7),(2,7),(3,7)]|_=>[]
 alive:=av n76A
theorem n76a (t:Nat) (x:Bool) (e:Env) (S:bH):cK n76 t x ⟨e,S⟩=atO (av n76A t x) e S:=cF rfl t x e S
theorem n76k (i:Nat):n76.keep i=ax n76K i:=rfl
theorem n76mv (t:Nat):n76.mv t=(false):=rfl
theorem n76f6:n76.free 6= [(0,1),(0,4),(1,4),(2,4),(3,4),(0,5),(1,5),(2,5),(3,5),(4,5),(0,6),(1,6),(2,6),(3,6),(0,7),(1,7),(2,7),(3,7)]:=rfl
theorem res76:Try.f76.results.toList= [.tmp 4]:=rfl
noncomputable def b76:Code:=aU Try.f76
noncomputable def c76_0:Code:=(bE 0 (aU Try.f76)).getD .skip
theorem fl76_0:bE 0 b76=some c76_0:=rfl
def hd_rlsameTexts_0 (p0:List ByteArray) (p1:List ByteArray) (s:Int):St:=⟨[(0,.v (.sl 1 (ah bY p0))),(1,.v (.sl 1 (ah bY p1))),(5,.v (.i .i64 s))],[]⟩
def ou_rlsameTexts_0 (p0:List ByteArray) (p1:List ByteArray) (r:Unit⊕Unit):Option (Ex×St):=match r with
 | .inl r=>some (.ret,⟨[(4,.v (.b false))],[]⟩)
 | .inr r=>some (.normal,⟨[],[]⟩)
theorem sl_rlsameTexts_0 (C:aj)  (p0:List ByteArray) (p1:List ByteArray) (p2:Int) (o:Int⊕(Unit⊕Unit)) (hF:st_rlsameTexts_0 p0 p1 p2=some o):evW TT C.wide n76 b76 0 (hd_rlsameTexts_0 p0 p1 p2)=Sum.elim (fun s=>evW TT C.wide n76 b76 0 (hd_rlsameTexts_0 p0 p1 s)) (fun r=>ou_rlsameTexts_0 p0 p1 r) o:=by
 rw [cG TT n76 fl76_0]
 revert hF
 unfold st_rlsameTexts_0
 try dsimp only
 refine bF (fun h1=>?_) (fun h1=>?_)
 rotate_left 1
 refine az fun x1 h2=>?_
 have g1:decide (0≤p2)=true:=(cp h2).1
 have g2:(ah bY p0)[(p2:Int).toNat]? =some [.s x1]:=cn _ h2
 refine az fun x2 h3=>?_
 have g3:(ah bY p1)[(p2:Int).toNat]? =some [.s x2]:=cn _ h3
 refine aX (fun h4=>?_) (fun h4=>?_)
 rotate_left 1
 all_goals (rintro⟨⟩;show cN _ _ _ (aH _ _ _ _ (Code.seq _ _) _)=_;simp (maxSteps:=4000000) only [*,hd_rlsameTexts_0,ou_rlsameTexts_0,n76a,n76A,n76k,n76K,n76f6,n76mv,↓RP,RB,↓ai,be,bf,aJ,Mx.bl,opnd,Mx.bI,Nat.reduceBEq,bQ,Mx.fit,co,aN,aA,ay,Mx.put,ofConst,ofCell,Mx.prune,killB,aK,putDst,aw,loadAt,bT,List.map,cz,cB,cu,bj,fineE,oddAl,bG,cd,aI,aY,cm,bL,cv,ch,bo,aL,bm,Op.operands,ax,av,atO,cy,cx,↓ao,↓am,↓aa,↓aq,br,ty3,ty4,ty9,ty71])
theorem r_rlsameTexts (C:aj)  (p0:List ByteArray) (p1:List ByteArray) (r:Bool) (hF:rlsameTexts p0 p1=some r):cR TT C.wide (evW TT C.wide n76 b76) n76 Try.f76.results.toList (aU Try.f76) [.v (.sl 1 (ah bY p0)),.v (.sl 1 (ah bY p1))] []=some (.v (.b r),[]):=by
 revert hF
 unfold rlsameTexts
 refine bF (fun h1=>?_) (fun h1=>?_)
 rotate_left 1
 refine az ?_
 rintro (_|_) h2
 focus
  dsimp only
  have g1:=cH _ _ (sl_rlsameTexts_0 C p0 p1) h2
  try simp only [hd_rlsameTexts_0,ou_rlsameTexts_0] at g1
 rotate_left 1
 dsimp only
 have g2:=cH _ _ (sl_rlsameTexts_0 C p0 p1) h2
 try simp only [hd_rlsameTexts_0,ou_rlsameTexts_0] at g2
 all_goals (rintro⟨⟩;rw [bk];show cC _ _ _ (aH _ _ _ _ (Code.seq _ _) _)=_;simp (maxSteps:=4000000) only [*,res76,n76a,n76A,n76k,n76K,↓RP,RB,enter,be,bf,aJ,Mx.bl,opnd,Mx.bI,Nat.reduceBEq,bQ,Mx.fit,co,aN,aA,Mx.put,ofConst,ofCell,Mx.prune,killB,aK,putDst,aw,List.map,cz,cB,cu,aC,bu,bx,cA,bS,bJ,aM,lowC,ax,av,atO,cy,cx,bne,↓ao,↓am,↓aa,ty3,ty4,ty71])
def n75K:List (Nat×List Nat):=[(0,[2,3]),(1,[2,3,51]),(2,[4]),(3,[2,3,5]),(4,[2,3,5,56]),(5,[2,3,5]),(6,[2,3,5,69]),(7,[4]),(8,[2,3,6]),(9,[2,3,6,74]),(10,[2,3,6]),(11,[2,3,6,87]),(12,[4]),(13,[4])]
def n75A:List (Nat×List Nat×List Nat):=[(51,[],[2,3]),(56,[2,3,5],[2,3]),(69,[],[2,3,5]),(74,[2,3,6],[]),(87,[],[2,3,6])]
def n75:cL where
 keep:=ax n75K
 ro:=fun t=>t==2||t==3
 mv:=fun _=>false
 give:=fun _=>false
 free:=fun i=>match i with|6=>[(0,2),(1,2),(0,5),(1,5),(2,5),(3,5),(4,5),(0,6),(1,6),(2,6),(3,6),(4,6),(0,7),(1,7),(2,7),(3,7),(4,7),(5,7),(6,7),(0,8),(1,8),(2,8),(3,8),(4,8),(0,9),(1,9),(2,9),(3,9),(4,9)]|11=>[(0,2),(1,2),(0,5),(1,5),(2,5),(3,5),(4,5),(0,6),(1,6),(2,6),(3,6),(4,6),(0,7),(1,7),(2,7),(3,7),(4,7),(5,7),(6,7),(0,8),(1,8),(2,8),(3,8),(4,8),(0,9),(1,9),(2,9),(3,9),(4,9)]|_=>[]
 alive:=av n75A
theorem n75a (t:Nat) (x:Bool) (e:Env) (S:bH):cK n75 t x ⟨e,S⟩=atO (av n75A t x) e S:=cF rfl t x e S
theorem n75k (i:Nat):n75.keep i=ax n75K i:=rfl
theorem n75ro (t:Nat):n75.ro t=(t==2||t==3):=rfl
theorem n75mv (t:Nat):n75.mv t=(false):=rfl
theorem n75f6:n75.free 6= [(0,2),(1,2),(0,5),(1,5),(2,5),(3,5),(4,5),(0,6),(1,6),(2,6),(3,6),(4,6),(0,7),(1,7),(2,7),(3,7),(4,7),(5,7),(6,7),(0,8),(1,8),(2,8),(3,8),(4,8),(0,9),(1,9),(2,9),(3,9),(4,9)]:=rfl
theorem n75f11:n75.free 11= [(0,2),(1,2),(0,5),(1,5),(2,5),(3,5),(4,5),(0,6),(1,6),(2,6),(3,6),(4,6),(0,7),(1,7),(2,7),(3,7),(4,7),(5,7),(6,7),(0,8),(1,8),(2,8),(3,8),(4,8),(0,9),(1,9),(2,9),(3,9),(4,9)]:=rfl
theorem res75:Try.f75.results.toList= [.tmp 4]:=rfl
noncomputable def b75:Code:=aU Try.f75
noncomputable def c75_0:Code:=(bE 0 (aU Try.f75)).getD .skip
theorem fl75_0:bE 0 b75=some c75_0:=rfl
noncomputable def c75_2:Code:=(bE 2 (aU Try.f75)).getD .skip
theorem fl75_2:bE 2 b75=some c75_2:=rfl
theorem rg_rlsameValue_k1 (C:aj) (k_rlsameTexts:K_rlsameTexts C) (p0:GValue) (p1:GValue) (c:Code) (ho:cD 0 1 b75=some c) (r:Bool) (hF:ck_rlsameValue_k1 p0 p1=some r): @cV TT C.wide (evW TT C.wide n75 b75) n75 0 1 ⟨[(2,.rp [.i .i64 p0.fKind,.s p0.fText,.i .i64 p0.fCount,.sl 2 (ah GPair.row p0.fPairs),.sl 1 (ah bY p0.fItems),.sl 2 (ah GScore.row p0.fScores)]),(3,.rp [.i .i64 p1.fKind,.s p1.fText,.i .i64 p1.fCount,.sl 2 (ah GPair.row p1.fPairs),.sl 1 (ah bY p1.fItems),.sl 2 (ah GScore.row p1.fScores)])],[]⟩ ⟨c⟩=some (.normal,⟨[(2,.rp [.i .i64 p0.fKind,.s p0.fText,.i .i64 p0.fCount,.sl 2 (ah GPair.row p0.fPairs),.sl 1 (ah bY p0.fItems),.sl 2 (ah GScore.row p0.fScores)]),(3,.rp [.i .i64 p1.fKind,.s p1.fText,.i .i64 p1.fCount,.sl 2 (ah GPair.row p1.fPairs),.sl 1 (ah bY p1.fItems),.sl 2 (ah GScore.row p1.fScores)]),(51,.v (.b r))],[]⟩):=by
 have e:=Option.some.inj (ho.symm.trans (rfl:cD 0 1 b75=some _))
 subst e
 clear ho
 show aH _ _ _ _ _ _=_
 revert hF
 unfold ck_rlsameValue_k1
 refine bF (fun h1=>?_) (fun h1=>?_)
 rotate_left 1
 refine bF (fun h2=>?_) (fun h2=>?_)
 rotate_left 1
 refine bF (fun h3=>?_) (fun h3=>?_)
 rotate_left 1
 refine bF (fun h4=>?_) (fun h4=>?_)
 rotate_left 1
 refine bF (fun h5=>?_) (fun h5=>?_)
 rotate_left 1
 refine az fun x1 h6=>?_
 have g1:=bK (k_rlsameTexts p0.fItems p1.fItems _ h6)
 all_goals (rintro⟨⟩;simp (maxSteps:=4000000) only [*,n75k,n75K,n75mv,↓RP,RB,aQ,aD,be,Mx.bl,opnd,Mx.bI,Nat.reduceBEq,bQ,aN,aA,ay,Mx.put,ofConst,ofCell,Mx.prune,killB,aK,putDst,aw,aE,loadAt,bT,List.map,cz,cB,cu,forceAll,lend,lendA,aS,aB,bR,bare,bW,ax,newB,cw,cy,cx,bne,bh,ty3,ty9,ty70,ty71,ty72,ty74,↓aa _ _ _ _ 1])
def hd_rlsameValue_0 (p0:GValue) (p1:GValue) (s:Int):St:=⟨[(2,.rp [.i .i64 p0.fKind,.s p0.fText,.i .i64 p0.fCount,.sl 2 (ah GPair.row p0.fPairs),.sl 1 (ah bY p0.fItems),.sl 2 (ah GScore.row p0.fScores)]),(3,.rp [.i .i64 p1.fKind,.s p1.fText,.i .i64 p1.fCount,.sl 2 (ah GPair.row p1.fPairs),.sl 1 (ah bY p1.fItems),.sl 2 (ah GScore.row p1.fScores)]),(5,.v (.i .i64 s))],[]⟩
def ou_rlsameValue_0 (p0:GValue) (p1:GValue) (r:Unit⊕Unit):Option (Ex×St):=match r with
 | .inl r=>some (.ret,⟨[(4,.v (.b false))],[]⟩)
 | .inr r=>some (.normal,⟨[(2,.rp [.i .i64 p0.fKind,.s p0.fText,.i .i64 p0.fCount,.sl 2 (ah GPair.row p0.fPairs),.sl 1 (ah bY p0.fItems),.sl 2 (ah GScore.row p0.fScores)]),(3,.rp [.i .i64 p1.fKind,.s p1.fText,.i .i64 p1.fCount,.sl 2 (ah GPair.row p1.fPairs),.sl 1 (ah bY p1.fItems),.sl 2 (ah GScore.row p1.fScores)])],[]⟩)
theorem sl_rlsameValue_0 (C:aj)  (p0:GValue) (p1:GValue) (p2:Int) (o:Int⊕(Unit⊕Unit)) (hF:st_rlsameValue_0 p0 p1 p2=some o):evW TT C.wide n75 b75 0 (hd_rlsameValue_0 p0 p1 p2)=Sum.elim (fun s=>evW TT C.wide n75 b75 0 (hd_rlsameValue_0 p0 p1 s)) (fun r=>ou_rlsameValue_0 p0 p1 r) o:=by
 rw [cG TT n75 fl75_0]
 revert hF
 unfold st_rlsameValue_0
 try dsimp only
 refine bF (fun h1=>?_) (fun h1=>?_)
 rotate_left 1
 refine az fun x1 h2=>?_
 have g1:decide (0≤p2)=true:=(cp h2).1
 have g2:(ah GPair.row p0.fPairs)[(p2:Int).toNat]? =some [.s x1.fField,.s x1.fText]:=cn _ h2
 refine az fun x2 h3=>?_
 have g3:(ah GPair.row p1.fPairs)[(p2:Int).toNat]? =some [.s x2.fField,.s x2.fText]:=cn _ h3
 refine bF (fun h4=>?_) (fun h4=>?_)
 rotate_left 1
 refine aX (fun h5=>?_) (fun h5=>?_)
 rotate_left 1
 all_goals (rintro⟨⟩;show cN _ _ _ (aH _ _ _ _ (Code.seq _ _) _)=_;simp (maxSteps:=4000000) only [*,hd_rlsameValue_0,ou_rlsameValue_0,n75a,n75A,n75k,n75K,n75f6,n75mv,↓RP,RB,↓ai,be,bf,aJ,Mx.bl,opnd,Mx.bI,Nat.reduceBEq,bQ,Mx.fit,co,aN,aA,ay,Mx.put,ofConst,ofCell,Mx.prune,killB,aK,putDst,aw,aE,loadAt,bT,List.map,Nat.reduceAdd,cz,cB,aG,eqC,cu,bj,fineE,oddAl,bG,cd,aI,aY,cm,bL,cv,ch,bo,aL,bm,Op.operands,ax,av,atO,cy,cx,↓ao,↓am,br,ty3,ty4,ty70,ty74,ty110,↓aa _ _ _ _ 4,↓aq _ _ _ _ 6,↓aa _ _ _ _ 7,↓aa _ _ _ _ 5])
def hd_rlsameValue_2 (p0:GValue) (p1:GValue) (s:Int):St:=⟨[(2,.rp [.i .i64 p0.fKind,.s p0.fText,.i .i64 p0.fCount,.sl 2 (ah GPair.row p0.fPairs),.sl 1 (ah bY p0.fItems),.sl 2 (ah GScore.row p0.fScores)]),(3,.rp [.i .i64 p1.fKind,.s p1.fText,.i .i64 p1.fCount,.sl 2 (ah GPair.row p1.fPairs),.sl 1 (ah bY p1.fItems),.sl 2 (ah GScore.row p1.fScores)]),(6,.v (.i .i64 s))],[]⟩
def ou_rlsameValue_2 (p0:GValue) (p1:GValue) (r:Unit⊕Unit):Option (Ex×St):=match r with
 | .inl r=>some (.ret,⟨[(4,.v (.b false))],[]⟩)
 | .inr r=>some (.normal,⟨[],[]⟩)
theorem sl_rlsameValue_2 (C:aj)  (p0:GValue) (p1:GValue) (p2:Int) (o:Int⊕(Unit⊕Unit)) (hF:st_rlsameValue_2 p0 p1 p2=some o):evW TT C.wide n75 b75 2 (hd_rlsameValue_2 p0 p1 p2)=Sum.elim (fun s=>evW TT C.wide n75 b75 2 (hd_rlsameValue_2 p0 p1 s)) (fun r=>ou_rlsameValue_2 p0 p1 r) o:=by
 rw [cG TT n75 fl75_2]
 revert hF
 unfold st_rlsameValue_2
 try dsimp only
 refine bF (fun h1=>?_) (fun h1=>?_)
 rotate_left 1
 refine az fun x1 h2=>?_
 have g1:decide (0≤p2)=true:=(cp h2).1
 have g2:(ah GScore.row p0.fScores)[(p2:Int).toNat]? =some [.s x1.fMember,.i .i64 x1.fN]:=cn _ h2
 refine az fun x2 h3=>?_
 have g3:(ah GScore.row p1.fScores)[(p2:Int).toNat]? =some [.s x2.fMember,.i .i64 x2.fN]:=cn _ h3
 refine bF (fun h4=>?_) (fun h4=>?_)
 rotate_left 1
 refine aX (fun h5=>?_) (fun h5=>?_)
 rotate_left 1
 all_goals (rintro⟨⟩;show cN _ _ _ (aH _ _ _ _ (Code.seq _ _) _)=_;simp (maxSteps:=4000000) only [*,hd_rlsameValue_2,ou_rlsameValue_2,n75a,n75A,n75k,n75K,n75f11,n75mv,↓RP,RB,↓ai,be,bf,aJ,Mx.bl,opnd,Mx.bI,Nat.reduceBEq,bQ,Mx.fit,co,aN,aA,ay,Mx.put,ofConst,ofCell,Mx.prune,killB,aK,putDst,aw,aE,loadAt,bT,List.map,Nat.reduceAdd,cz,cB,aG,eqC,cu,bj,fineE,oddAl,bG,cd,aI,aY,cm,bL,cv,ch,bo,aL,bm,Op.operands,ax,av,atO,cy,cx,↓ao,↓am,br,ty3,ty4,ty72,ty74,ty112,↓aa _ _ _ _ 9,↓aq _ _ _ _ 11,↓aa _ _ _ _ 12,↓aa _ _ _ _ 10])
theorem r_rlsameValue (C:aj) (k_rlsameTexts:K_rlsameTexts C) (p0:GValue) (p1:GValue) (r:Bool) (hF:rlsameValue p0 p1=some r):cR TT C.wide (evW TT C.wide n75 b75) n75 Try.f75.results.toList (aU Try.f75) [.agg [.v (.i .i64 p0.fKind),.v (.s p0.fText),.v (.i .i64 p0.fCount),.v (.sl 2 (ah GPair.row p0.fPairs)),.v (.sl 1 (ah bY p0.fItems)),.v (.sl 2 (ah GScore.row p0.fScores))],.agg [.v (.i .i64 p1.fKind),.v (.s p1.fText),.v (.i .i64 p1.fCount),.v (.sl 2 (ah GPair.row p1.fPairs)),.v (.sl 1 (ah bY p1.fItems)),.v (.sl 2 (ah GScore.row p1.fScores))]] []=some (.v (.b r),[]):=by
 revert hF
 unfold rlsameValue
 refine az fun x1 h1=>?_
 have g1:=rg_rlsameValue_k1 C k_rlsameTexts p0 p1 _ rfl _ h1
 refine aX (fun h2=>?_) (fun h2=>?_)
 rotate_left 1
 refine az ?_
 rintro (_|_) h3
 focus
  dsimp only
  have g2:=cH _ _ (sl_rlsameValue_0 C p0 p1) h3
  try simp only [hd_rlsameValue_0,ou_rlsameValue_0] at g2
 rotate_left 1
 dsimp only
 unfold rlsameValue_c0
 have g3:=cH _ _ (sl_rlsameValue_0 C p0 p1) h3
 try simp only [hd_rlsameValue_0,ou_rlsameValue_0] at g3
 refine az ?_
 rintro (_|_) h4
 focus
  dsimp only
  have g4:=cH _ _ (sl_rlsameValue_2 C p0 p1) h4
  try simp only [hd_rlsameValue_2,ou_rlsameValue_2] at g4
 rotate_left 1
 dsimp only
 have g5:=cH _ _ (sl_rlsameValue_2 C p0 p1) h4
 try simp only [hd_rlsameValue_2,ou_rlsameValue_2] at g5
 all_goals (rintro⟨⟩;rw [bk];show cC _ _ _ (aH _ _ _ _ (Code.seq _ _) _)=_;simp (maxSteps:=4000000) only [*,res75,n75a,n75A,n75k,n75K,n75ro,↓RP,RB,enter,be,bf,aJ,Mx.bl,opnd,Mx.bI,Nat.reduceBEq,bQ,Mx.fit,bP,co,toVs,cellsOf,toV,aN,aA,ay,Mx.put,ofConst,ofCell,Mx.prune,killB,List.map,aC,bu,bx,cA,bS,bJ,aM,lowC,ax,av,atO,↓ao,↓am,ty3,ty4,ty74,↓aa _ _ _ _ 0,↓bg _ _ _ _ 1,↓aa _ _ _ _ 2,↓aa _ _ _ _ 3,↓aa _ _ _ _ 8,↓aa _ _ _ _ 13])
def n42K:List (Nat×List Nat):=[(0,[2,3]),(1,[2,3,21]),(2,[4]),(3,[2,3,5]),(4,[2,3,5,26]),(5,[2,3,5]),(6,[2,3,5,6]),(7,[2,3,5,6,7]),(8,[2,3,5,58]),(9,[4]),(10,[4])]
def n42A:List (Nat×List Nat×List Nat):=[(21,[],[2,3]),(26,[2,3,5],[]),(58,[],[2,3,5])]
def n42:cL where
 keep:=ax n42K
 ro:=fun t=>t==2||t==3
 mv:=fun _=>false
 give:=fun _=>false
 free:=fun _=>[]
 alive:=av n42A
theorem n42a (t:Nat) (x:Bool) (e:Env) (S:bH):cK n42 t x ⟨e,S⟩=atO (av n42A t x) e S:=cF rfl t x e S
theorem n42k (i:Nat):n42.keep i=ax n42K i:=rfl
theorem n42ro (t:Nat):n42.ro t=(t==2||t==3):=rfl
theorem n42mv (t:Nat):n42.mv t=(false):=rfl
theorem res42:Try.f42.results.toList= [.tmp 4]:=rfl
noncomputable def b42:Code:=aU Try.f42
noncomputable def c42_0:Code:=(bE 0 (aU Try.f42)).getD .skip
theorem fl42_0:bE 0 b42=some c42_0:=rfl
theorem rg_rlsameStore_k8v2 (C:aj) (k_rlsameValue:K_rlsameValue C) (p0:GStore) (p1:GStore) (p2:Int) (p3:GEntry) (p4:GEntry) (c:Code) (ho:cD 0 8 b42=some c) (r:Bool) (hF:ck_rlsameStore_k8v2 p0 p1 p2 p3 p4=some r): @cV TT C.wide (evW TT C.wide n42 b42) n42 0 8 ⟨[(2,.rp [.i .i64 p0.fNow,.sl 8 (ah GEntry.row p0.fEntries)]),(3,.rp [.i .i64 p1.fNow,.sl 8 (ah GEntry.row p1.fEntries)]),(5,.v (.i .i64 p2)),(6,.ptr 0 0),(7,.ptr 1 0)],[[.v (.s p3.fKey),.v (.i .i64 p3.fValue.fKind),.v (.s p3.fValue.fText),.v (.i .i64 p3.fValue.fCount),.v (.sl 2 (ah GPair.row p3.fValue.fPairs)),.v (.sl 1 (ah bY p3.fValue.fItems)),.v (.sl 2 (ah GScore.row p3.fValue.fScores)),.v (.i .i64 p3.fUntil)],[.v (.s p4.fKey),.v (.i .i64 p4.fValue.fKind),.v (.s p4.fValue.fText),.v (.i .i64 p4.fValue.fCount),.v (.sl 2 (ah GPair.row p4.fValue.fPairs)),.v (.sl 1 (ah bY p4.fValue.fItems)),.v (.sl 2 (ah GScore.row p4.fValue.fScores)),.v (.i .i64 p4.fUntil)]]⟩ ⟨c⟩=some (.normal,⟨[(2,.rp [.i .i64 p0.fNow,.sl 8 (ah GEntry.row p0.fEntries)]),(3,.rp [.i .i64 p1.fNow,.sl 8 (ah GEntry.row p1.fEntries)]),(5,.v (.i .i64 p2)),(58,.v (.b r))],[[.v (.s p3.fKey),.v (.i .i64 p3.fValue.fKind),.v (.s p3.fValue.fText),.v (.i .i64 p3.fValue.fCount),.v (.sl 2 (ah GPair.row p3.fValue.fPairs)),.v (.sl 1 (ah bY p3.fValue.fItems)),.v (.sl 2 (ah GScore.row p3.fValue.fScores)),.v (.i .i64 p3.fUntil)],[.v (.s p4.fKey),.v (.i .i64 p4.fValue.fKind),.v (.s p4.fValue.fText),.v (.i .i64 p4.fValue.fCount),.v (.sl 2 (ah GPair.row p4.fValue.fPairs)),.v (.sl 1 (ah bY p4.fValue.fItems)),.v (.sl 2 (ah GScore.row p4.fValue.fScores)),.v (.i .i64 p4.fUntil)]]⟩):=by
 have e:=Option.some.inj (ho.symm.trans (rfl:cD 0 8 b42=some _))
 subst e
 clear ho
 show aH _ _ _ _ _ _=_
 revert hF
 unfold ck_rlsameStore_k8v2
 refine bF (fun h1=>?_) (fun h1=>?_)
 rotate_left 1
 refine bF (fun h2=>?_) (fun h2=>?_)
 rotate_left 1
 refine az fun x1 h3=>?_
 have g1:=bK (k_rlsameValue p3.fValue p4.fValue _ h3)
 all_goals (rintro⟨⟩;simp (maxSteps:=4000000) only [*,n42k,n42K,n42mv,↓RP,RB,aQ,aD,be,Mx.bl,opnd,Mx.bI,Nat.reduceBEq,bQ,aN,aA,ay,Mx.put,ofConst,ofCell,Mx.prune,killB,aK,putDst,aw,aE,loadAt,bT,List.map,Nat.reduceAdd,cz,cB,forceAll,lend,lendA,aS,aB,bR,bare,bW,ax,newB,cw,cy,cx,bne,bh,aP,ty3,ty9,ty74,ty77,↓aa _ _ _ _ 8])
def hd_rlsameStore_0 (p0:GStore) (p1:GStore) (s:Int):St:=⟨[(2,.rp [.i .i64 p0.fNow,.sl 8 (ah GEntry.row p0.fEntries)]),(3,.rp [.i .i64 p1.fNow,.sl 8 (ah GEntry.row p1.fEntries)]),(5,.v (.i .i64 s))],[]⟩
def ou_rlsameStore_0 (p0:GStore) (p1:GStore) (r:(GEntry×GEntry)⊕Unit):Option (Ex×St):=match r with
 | .inl r=>some (.ret,⟨[(4,.v (.b false))],[[.v (.s r.1.fKey),.v (.i .i64 r.1.fValue.fKind),.v (.s r.1.fValue.fText),.v (.i .i64 r.1.fValue.fCount),.v (.sl 2 (ah GPair.row r.1.fValue.fPairs)),.v (.sl 1 (ah bY r.1.fValue.fItems)),.v (.sl 2 (ah GScore.row r.1.fValue.fScores)),.v (.i .i64 r.1.fUntil)],[.v (.s r.2.fKey),.v (.i .i64 r.2.fValue.fKind),.v (.s r.2.fValue.fText),.v (.i .i64 r.2.fValue.fCount),.v (.sl 2 (ah GPair.row r.2.fValue.fPairs)),.v (.sl 1 (ah bY r.2.fValue.fItems)),.v (.sl 2 (ah GScore.row r.2.fValue.fScores)),.v (.i .i64 r.2.fUntil)]]⟩)
 | .inr r=>some (.normal,⟨[],[]⟩)
theorem sl_rlsameStore_0 (C:aj) (k_rlsameValue:K_rlsameValue C) (p0:GStore) (p1:GStore) (p2:Int) (o:Int⊕((GEntry×GEntry)⊕Unit)) (hF:st_rlsameStore_0 p0 p1 p2=some o):evW TT C.wide n42 b42 0 (hd_rlsameStore_0 p0 p1 p2)=Sum.elim (fun s=>evW TT C.wide n42 b42 0 (hd_rlsameStore_0 p0 p1 s)) (fun r=>ou_rlsameStore_0 p0 p1 r) o:=by
 rw [cG TT n42 fl42_0]
 revert hF
 unfold st_rlsameStore_0
 try dsimp only
 refine bF (fun h1=>?_) (fun h1=>?_)
 rotate_left 1
 refine az fun x1 h2=>?_
 have g1:decide (0≤p2)=true:=(cp h2).1
 have g2:(ah GEntry.row p0.fEntries)[(p2:Int).toNat]? =some [.s x1.fKey,.i .i64 x1.fValue.fKind,.s x1.fValue.fText,.i .i64 x1.fValue.fCount,.sl 2 (ah GPair.row x1.fValue.fPairs),.sl 1 (ah bY x1.fValue.fItems),.sl 2 (ah GScore.row x1.fValue.fScores),.i .i64 x1.fUntil]:=cn _ h2
 refine az fun x2 h3=>?_
 have g3:(ah GEntry.row p1.fEntries)[(p2:Int).toNat]? =some [.s x2.fKey,.i .i64 x2.fValue.fKind,.s x2.fValue.fText,.i .i64 x2.fValue.fCount,.sl 2 (ah GPair.row x2.fValue.fPairs),.sl 1 (ah bY x2.fValue.fItems),.sl 2 (ah GScore.row x2.fValue.fScores),.i .i64 x2.fUntil]:=cn _ h3
 refine az fun x3 h4=>?_
 have g4:=rg_rlsameStore_k8v2 C k_rlsameValue p0 p1 p2 x1 x2 _ rfl _ h4
 refine aX (fun h5=>?_) (fun h5=>?_)
 rotate_left 1
 all_goals (rintro⟨⟩;show cN _ _ _ (aH _ _ _ _ (Code.seq _ _) _)=_;simp (maxSteps:=4000000) only [*,hd_rlsameStore_0,ou_rlsameStore_0,n42a,n42A,n42k,n42K,n42mv,↓RP,RB,↓ai,be,bf,aJ,Mx.bl,opnd,Mx.bI,Nat.reduceBEq,bQ,Mx.fit,bP,co,cellsOf,aN,aA,ay,Mx.put,ofConst,ofCell,Mx.prune,killB,killBs,aK,putDst,aw,aE,loadAt,bT,List.map,Nat.reduceAdd,cz,cB,cu,bJ,aM,lowC,bj,kill,bG,setCells,Nat.reduceLeDiff,lowA,bn,ax,av,atO,cy,cx,bne,↓ao,↓am,ty3,ty4,ty23,ty25,ty77,↓aa _ _ _ _ 4,↓aa _ _ _ _ 6,↓aa _ _ _ _ 7,↓bg _ _ _ _ 8,↓aa _ _ _ _ 9,↓aa _ _ _ _ 5])
theorem r_rlsameStore (C:aj) (k_rlsameValue:K_rlsameValue C) (p0:GStore) (p1:GStore) (r:Bool) (hF:rlsameStore p0 p1=some r):cR TT C.wide (evW TT C.wide n42 b42) n42 Try.f42.results.toList (aU Try.f42) [.agg [.v (.i .i64 p0.fNow),.v (.sl 8 (ah GEntry.row p0.fEntries))],.agg [.v (.i .i64 p1.fNow),.v (.sl 8 (ah GEntry.row p1.fEntries))]] []=some (.v (.b r),[]):=by
 revert hF
 unfold rlsameStore
 refine bF (fun h1=>?_) (fun h1=>?_)
 rotate_left 1
 refine bF (fun h2=>?_) (fun h2=>?_)
 rotate_left 1
 refine az ?_
 rintro (⟨x1,x2⟩|_) h3
 focus
  dsimp only
  have g1:=cH _ _ (sl_rlsameStore_0 C k_rlsameValue p0 p1) h3
  try simp only [hd_rlsameStore_0,ou_rlsameStore_0] at g1
 rotate_left 1
 dsimp only
 have g2:=cH _ _ (sl_rlsameStore_0 C k_rlsameValue p0 p1) h3
 try simp only [hd_rlsameStore_0,ou_rlsameStore_0] at g2
 all_goals (rintro⟨⟩;rw [bk];show cC _ _ _ (aH _ _ _ _ (Code.seq _ _) _)=_;simp (maxSteps:=4000000) only [*,res42,n42a,n42A,n42k,n42K,n42ro,n42mv,↓RP,RB,enter,aQ,aD,be,bf,aJ,Mx.bl,opnd,Mx.bI,Nat.reduceBEq,bQ,Mx.fit,bP,co,toVs,cellsOf,toV,aN,aA,ay,Mx.put,ofConst,ofCell,Mx.prune,killB,aK,putDst,aw,aE,loadAt,bT,List.map,cz,cB,cu,aC,bu,bx,cA,bS,bJ,aM,lowC,ax,av,atO,cy,cx,bne,↓ao,↓am,bh,ty3,ty4,ty23,ty25,↓aa _ _ _ _ 0,↓aa _ _ _ _ 1,↓aa _ _ _ _ 2,↓aa _ _ _ _ 3,↓aa _ _ _ _ 10])
def n43K:List (Nat×List Nat):=[(0,[2,3]),(1,[4])]
def n43:cL where
 keep:=ax n43K
 ro:=fun t=>t==2||t==3
 mv:=fun _=>false
 give:=fun _=>false
 free:=fun _=>[]
theorem n43k (i:Nat):n43.keep i=ax n43K i:=rfl
theorem n43ro (t:Nat):n43.ro t=(t==2||t==3):=rfl
theorem n43mv (t:Nat):n43.mv t=(false):=rfl
theorem res43:Try.f43.results.toList= [.tmp 4]:=rfl
noncomputable def b43:Code:=aU Try.f43
theorem rg_rlsameReply_k1 (C:aj) (k_rlsameTexts:K_rlsameTexts C) (p0:GReply) (p1:GReply) (c:Code) (ho:cD 0 1 b43=some c) (r:Bool) (hF:ck_rlsameReply_k1 p0 p1=some r): @cV TT C.wide (evW TT C.wide n43 b43) n43 0 1 ⟨[(2,.rp [.i .i64 p0.fCode,.s p0.fText,.i .i64 p0.fN,.sl 1 (ah bY p0.fList)]),(3,.rp [.i .i64 p1.fCode,.s p1.fText,.i .i64 p1.fN,.sl 1 (ah bY p1.fList)])],[]⟩ ⟨c⟩=some (.normal,⟨[(4,.v (.b r))],[]⟩):=by
 have e:=Option.some.inj (ho.symm.trans (rfl:cD 0 1 b43=some _))
 subst e
 clear ho
 show aH _ _ _ _ _ _=_
 revert hF
 unfold ck_rlsameReply_k1
 refine bF (fun h1=>?_) (fun h1=>?_)
 rotate_left 1
 refine bF (fun h2=>?_) (fun h2=>?_)
 rotate_left 1
 refine bF (fun h3=>?_) (fun h3=>?_)
 rotate_left 1
 refine az fun x1 h4=>?_
 have g1:=bK (k_rlsameTexts p0.fList p1.fList _ h4)
 all_goals (rintro⟨⟩;simp (maxSteps:=4000000) only [*,n43k,n43K,n43mv,↓RP,RB,aQ,aD,be,bf,aJ,Mx.bl,opnd,Mx.bI,Nat.reduceBEq,bQ,Mx.fit,co,aN,aA,ay,Mx.put,ofConst,ofCell,Mx.prune,killB,aK,putDst,aw,aE,loadAt,bT,List.map,cz,cB,forceAll,lend,lendA,aS,aB,bR,bare,bW,ax,newB,cw,cy,cx,bh,ty3,ty4,ty9,ty29,ty71,ty79,↓aa _ _ _ _ 1])
theorem r_rlsameReply (C:aj) (k_rlsameTexts:K_rlsameTexts C) (p0:GReply) (p1:GReply) (r:Bool) (hF:rlsameReply p0 p1=some r):cR TT C.wide (evW TT C.wide n43 b43) n43 Try.f43.results.toList (aU Try.f43) [.agg [.v (.i .i64 p0.fCode),.v (.s p0.fText),.v (.i .i64 p0.fN),.v (.sl 1 (ah bY p0.fList))],.agg [.v (.i .i64 p1.fCode),.v (.s p1.fText),.v (.i .i64 p1.fN),.v (.sl 1 (ah bY p1.fList))]] []=some (.v (.b r),[]):=by
 revert hF
 unfold rlsameReply
 refine az fun x1 h1=>?_
 have g1:=rg_rlsameReply_k1 C k_rlsameTexts p0 p1 _ rfl _ h1
 all_goals (rintro⟨⟩;rw [bk];show cC _ _ _ (aH _ _ _ _ (Code.seq _ _) _)=_;simp (maxSteps:=4000000) only [*,res43,n43k,n43K,n43ro,↓RP,RB,enter,be,bf,aJ,Mx.bl,opnd,Mx.bI,Nat.reduceBEq,bQ,Mx.fit,bP,co,toVs,cellsOf,toV,aN,aA,ay,Mx.put,ofConst,ofCell,Mx.prune,killB,List.map,aC,bu,bx,cA,bS,bJ,aM,lowC,ax,↓ao,ty4,ty79,↓aa _ _ _ _ 0,↓bg _ _ _ _ 1])
def n10K:List (Nat×List Nat):=[(0,[2,3]),(1,[2,3,29]),(2,[4]),(3,[2,3,5]),(4,[2,3,5,34]),(5,[2,3,5]),(6,[2,3,5,6]),(7,[2,3,5,6,7]),(8,[2,3,5,73]),(9,[4]),(10,[4])]
def n10A:List (Nat×List Nat×List Nat):=[(29,[],[2,3]),(34,[2,3,5],[]),(73,[],[2,3,5])]
def n10:cL where
 keep:=ax n10K
 ro:=fun t=>t==2||t==3
 mv:=fun _=>false
 give:=fun _=>false
 free:=fun _=>[]
 alive:=av n10A
theorem n10a (t:Nat) (x:Bool) (e:Env) (S:bH):cK n10 t x ⟨e,S⟩=atO (av n10A t x) e S:=cF rfl t x e S
theorem n10k (i:Nat):n10.keep i=ax n10K i:=rfl
theorem n10ro (t:Nat):n10.ro t=(t==2||t==3):=rfl
theorem n10mv (t:Nat):n10.mv t=(false):=rfl
theorem res10:Try.f10.results.toList= [.tmp 4]:=rfl
noncomputable def b10:Code:=aU Try.f10
noncomputable def c10_0:Code:=(bE 0 (aU Try.f10)).getD .skip
theorem fl10_0:bE 0 b10=some c10_0:=rfl
theorem rg_rlsameMachine_k1 (C:aj) (k_rlsameStore:K_rlsameStore C) (p0:GMachine) (p1:GMachine) (c:Code) (ho:cD 0 1 b10=some c) (r:Bool) (hF:ck_rlsameMachine_k1 p0 p1=some r): @cV TT C.wide (evW TT C.wide n10 b10) n10 0 1 ⟨[(2,.rp [.i .i64 p0.fStore.fNow,.sl 8 (ah GEntry.row p0.fStore.fEntries),.i .i64 p0.fNext,.sl 7 (ah GClient.row p0.fClients)]),(3,.rp [.i .i64 p1.fStore.fNow,.sl 8 (ah GEntry.row p1.fStore.fEntries),.i .i64 p1.fNext,.sl 7 (ah GClient.row p1.fClients)])],[]⟩ ⟨c⟩=some (.normal,⟨[(2,.rp [.i .i64 p0.fStore.fNow,.sl 8 (ah GEntry.row p0.fStore.fEntries),.i .i64 p0.fNext,.sl 7 (ah GClient.row p0.fClients)]),(3,.rp [.i .i64 p1.fStore.fNow,.sl 8 (ah GEntry.row p1.fStore.fEntries),.i .i64 p1.fNext,.sl 7 (ah GClient.row p1.fClients)]),(29,.v (.b r))],[]⟩):=by
 have e:=Option.some.inj (ho.symm.trans (rfl:cD 0 1 b10=some _))
 subst e
 clear ho
 show aH _ _ _ _ _ _=_
 revert hF
 unfold ck_rlsameMachine_k1
 refine bF (fun h1=>?_) (fun h1=>?_)
 rotate_left 1
 refine az fun x1 h2=>?_
 have g1:=bK (k_rlsameStore p0.fStore p1.fStore _ h2)
 refine aX (fun h3=>?_) (fun h3=>?_)
 rotate_left 1
 all_goals (rintro⟨⟩;simp (maxSteps:=4000000) only [*,n10k,n10K,n10mv,↓RP,RB,aQ,aD,be,Mx.bl,opnd,Mx.bI,Nat.reduceBEq,bQ,aN,aA,ay,Mx.put,ofConst,ofCell,Mx.prune,killB,aK,putDst,aw,aE,loadAt,bT,List.map,Nat.reduceAdd,cz,cB,cu,forceAll,lend,lendA,aS,aB,bR,bare,bW,ax,newB,cw,cy,cx,bne,bh,ty3,ty25,ty26,ty28,↓aa _ _ _ _ 1])
theorem rg_rlsameMachine_k8v2 (C:aj) (k_rlsameReply:K_rlsameReply C) (p0:GMachine) (p1:GMachine) (p2:Int) (p3:GClient) (p4:GClient) (c:Code) (ho:cD 0 8 b10=some c) (r:Bool) (hF:ck_rlsameMachine_k8v2 p0 p1 p2 p3 p4=some r): @cV TT C.wide (evW TT C.wide n10 b10) n10 0 8 ⟨[(2,.rp [.i .i64 p0.fStore.fNow,.sl 8 (ah GEntry.row p0.fStore.fEntries),.i .i64 p0.fNext,.sl 7 (ah GClient.row p0.fClients)]),(3,.rp [.i .i64 p1.fStore.fNow,.sl 8 (ah GEntry.row p1.fStore.fEntries),.i .i64 p1.fNext,.sl 7 (ah GClient.row p1.fClients)]),(5,.v (.i .i64 p2)),(6,.ptr 0 0),(7,.ptr 1 0)],[[.v (.i .i64 p3.fId),.v (.i .i64 p3.fSeq),.v (.i .i64 p3.fTime),.v (.i .i64 p3.fReply.fCode),.v (.s p3.fReply.fText),.v (.i .i64 p3.fReply.fN),.v (.sl 1 (ah bY p3.fReply.fList))],[.v (.i .i64 p4.fId),.v (.i .i64 p4.fSeq),.v (.i .i64 p4.fTime),.v (.i .i64 p4.fReply.fCode),.v (.s p4.fReply.fText),.v (.i .i64 p4.fReply.fN),.v (.sl 1 (ah bY p4.fReply.fList))]]⟩ ⟨c⟩=some (.normal,⟨[(2,.rp [.i .i64 p0.fStore.fNow,.sl 8 (ah GEntry.row p0.fStore.fEntries),.i .i64 p0.fNext,.sl 7 (ah GClient.row p0.fClients)]),(3,.rp [.i .i64 p1.fStore.fNow,.sl 8 (ah GEntry.row p1.fStore.fEntries),.i .i64 p1.fNext,.sl 7 (ah GClient.row p1.fClients)]),(5,.v (.i .i64 p2)),(73,.v (.b r))],[[.v (.i .i64 p3.fId),.v (.i .i64 p3.fSeq),.v (.i .i64 p3.fTime),.v (.i .i64 p3.fReply.fCode),.v (.s p3.fReply.fText),.v (.i .i64 p3.fReply.fN),.v (.sl 1 (ah bY p3.fReply.fList))],[.v (.i .i64 p4.fId),.v (.i .i64 p4.fSeq),.v (.i .i64 p4.fTime),.v (.i .i64 p4.fReply.fCode),.v (.s p4.fReply.fText),.v (.i .i64 p4.fReply.fN),.v (.sl 1 (ah bY p4.fReply.fList))]]⟩):=by
 have e:=Option.some.inj (ho.symm.trans (rfl:cD 0 8 b10=some _))
 subst e
 clear ho
 show aH _ _ _ _ _ _=_
 revert hF
 unfold ck_rlsameMachine_k8v2
 refine bF (fun h1=>?_) (fun h1=>?_)
 rotate_left 1
 refine bF (fun h2=>?_) (fun h2=>?_)
 rotate_left 1
 refine bF (fun h3=>?_) (fun h3=>?_)
 rotate_left 1
 refine az fun x1 h4=>?_
 have g1:=bK (k_rlsameReply p3.fReply p4.fReply _ h4)
 all_goals (rintro⟨⟩;simp (maxSteps:=4000000) only [*,n10k,n10K,n10mv,↓RP,RB,aQ,aD,be,Mx.bl,opnd,Mx.bI,Nat.reduceBEq,bQ,aN,aA,ay,Mx.put,ofConst,ofCell,Mx.prune,killB,aK,putDst,aw,aE,loadAt,bT,List.map,Nat.reduceAdd,cz,cB,forceAll,lend,lendA,aS,aB,bR,bare,bW,ax,newB,cw,cy,cx,bne,bh,aP,ty3,ty79,ty81,↓aa _ _ _ _ 8])
def hd_rlsameMachine_0 (p0:GMachine) (p1:GMachine) (s:Int):St:=⟨[(2,.rp [.i .i64 p0.fStore.fNow,.sl 8 (ah GEntry.row p0.fStore.fEntries),.i .i64 p0.fNext,.sl 7 (ah GClient.row p0.fClients)]),(3,.rp [.i .i64 p1.fStore.fNow,.sl 8 (ah GEntry.row p1.fStore.fEntries),.i .i64 p1.fNext,.sl 7 (ah GClient.row p1.fClients)]),(5,.v (.i .i64 s))],[]⟩
def ou_rlsameMachine_0 (p0:GMachine) (p1:GMachine) (r:(GClient×GClient)⊕Unit):Option (Ex×St):=match r with
 | .inl r=>some (.ret,⟨[(4,.v (.b false))],[[.v (.i .i64 r.1.fId),.v (.i .i64 r.1.fSeq),.v (.i .i64 r.1.fTime),.v (.i .i64 r.1.fReply.fCode),.v (.s r.1.fReply.fText),.v (.i .i64 r.1.fReply.fN),.v (.sl 1 (ah bY r.1.fReply.fList))],[.v (.i .i64 r.2.fId),.v (.i .i64 r.2.fSeq),.v (.i .i64 r.2.fTime),.v (.i .i64 r.2.fReply.fCode),.v (.s r.2.fReply.fText),.v (.i .i64 r.2.fReply.fN),.v (.sl 1 (ah bY r.2.fReply.fList))]]⟩)
 | .inr r=>some (.normal,⟨[],[]⟩)
theorem sl_rlsameMachine_0 (C:aj) (k_rlsameReply:K_rlsameReply C) (p0:GMachine) (p1:GMachine) (p2:Int) (o:Int⊕((GClient×GClient)⊕Unit)) (hF:st_rlsameMachine_0 p0 p1 p2=some o):evW TT C.wide n10 b10 0 (hd_rlsameMachine_0 p0 p1 p2)=Sum.elim (fun s=>evW TT C.wide n10 b10 0 (hd_rlsameMachine_0 p0 p1 s)) (fun r=>ou_rlsameMachine_0 p0 p1 r) o:=by
 rw [cG TT n10 fl10_0]
 revert hF
 unfold st_rlsameMachine_0
 try dsimp only
 refine bF (fun h1=>?_) (fun h1=>?_)
 rotate_left 1
 refine az fun x1 h2=>?_
 have g1:decide (0≤p2)=true:=(cp h2).1
 have g2:(ah GClient.row p0.fClients)[(p2:Int).toNat]? =some [.i .i64 x1.fId,.i .i64 x1.fSeq,.i .i64 x1.fTime,.i .i64 x1.fReply.fCode,.s x1.fReply.fText,.i .i64 x1.fReply.fN,.sl 1 (ah bY x1.fReply.fList)]:=cn _ h2
 refine az fun x2 h3=>?_
 have g3:(ah GClient.row p1.fClients)[(p2:Int).toNat]? =some [.i .i64 x2.fId,.i .i64 x2.fSeq,.i .i64 x2.fTime,.i .i64 x2.fReply.fCode,.s x2.fReply.fText,.i .i64 x2.fReply.fN,.sl 1 (ah bY x2.fReply.fList)]:=cn _ h3
 refine az fun x3 h4=>?_
 have g4:=rg_rlsameMachine_k8v2 C k_rlsameReply p0 p1 p2 x1 x2 _ rfl _ h4
 refine aX (fun h5=>?_) (fun h5=>?_)
 rotate_left 1
 all_goals (rintro⟨⟩;show cN _ _ _ (aH _ _ _ _ (Code.seq _ _) _)=_;simp (maxSteps:=4000000) only [*,hd_rlsameMachine_0,ou_rlsameMachine_0,n10a,n10A,n10k,n10K,n10mv,↓RP,RB,↓ai,be,bf,aJ,Mx.bl,opnd,Mx.bI,Nat.reduceBEq,bQ,Mx.fit,bP,co,cellsOf,aN,aA,ay,Mx.put,ofConst,ofCell,Mx.prune,killB,killBs,aK,putDst,aw,aE,loadAt,bT,List.map,Nat.reduceAdd,cz,cB,cu,bJ,aM,lowC,bj,kill,bG,setCells,Nat.reduceLeDiff,lowA,bn,ax,av,atO,cy,cx,bne,↓ao,↓am,ty3,ty4,ty26,ty28,ty81,↓aa _ _ _ _ 4,↓aa _ _ _ _ 6,↓aa _ _ _ _ 7,↓bg _ _ _ _ 8,↓aa _ _ _ _ 9,↓aa _ _ _ _ 5])
theorem r_rlsameMachine (C:aj) (k_rlsameStore:K_rlsameStore C) (k_rlsameReply:K_rlsameReply C) (p0:GMachine) (p1:GMachine) (r:Bool) (hF:rlsameMachine p0 p1=some r):cR TT C.wide (evW TT C.wide n10 b10) n10 Try.f10.results.toList (aU Try.f10) [.agg [.v (.i .i64 p0.fStore.fNow),.v (.sl 8 (ah GEntry.row p0.fStore.fEntries)),.v (.i .i64 p0.fNext),.v (.sl 7 (ah GClient.row p0.fClients))],.agg [.v (.i .i64 p1.fStore.fNow),.v (.sl 8 (ah GEntry.row p1.fStore.fEntries)),.v (.i .i64 p1.fNext),.v (.sl 7 (ah GClient.row p1.fClients))]] []=some (.v (.b r),[]):=by
 revert hF
 unfold rlsameMachine
 refine az fun x1 h1=>?_
 have g1:=rg_rlsameMachine_k1 C k_rlsameStore p0 p1 _ rfl _ h1
 refine aX (fun h2=>?_) (fun h2=>?_)
 rotate_left 1
 refine az ?_
 rintro (⟨x2,x3⟩|_) h3
 focus
  dsimp only
  have g2:=cH _ _ (sl_rlsameMachine_0 C k_rlsameReply p0 p1) h3
  try simp only [hd_rlsameMachine_0,ou_rlsameMachine_0] at g2
 rotate_left 1
 dsimp only
 have g3:=cH _ _ (sl_rlsameMachine_0 C k_rlsameReply p0 p1) h3
 try simp only [hd_rlsameMachine_0,ou_rlsameMachine_0] at g3
 all_goals (rintro⟨⟩;rw [bk];show cC _ _ _ (aH _ _ _ _ (Code.seq _ _) _)=_;simp (maxSteps:=4000000) only [*,res10,n10a,n10A,n10k,n10K,n10ro,↓RP,RB,enter,be,bf,aJ,Mx.bl,opnd,Mx.bI,Nat.reduceBEq,bQ,Mx.fit,bP,co,toVs,cellsOf,toV,aN,aA,ay,Mx.put,ofConst,ofCell,Mx.prune,killB,List.map,aC,bu,bx,cA,bS,bJ,aM,lowC,ax,av,atO,↓ao,↓am,ty3,ty4,ty28,↓aa _ _ _ _ 0,↓bg _ _ _ _ 1,↓aa _ _ _ _ 2,↓aa _ _ _ _ 3,↓aa _ _ _ _ 10])
def n3K:List (Nat×List Nat):=[(0,[0]),(1,[0,3,4]),(2,[3,4,5,6]),(3,[2])]
def n3:cL where
 keep:=ax n3K
 ro:=fun _=>false
 mv:=fun _=>false
 give:=fun _=>false
 free:=fun _=>[]
theorem n3k (i:Nat):n3.keep i=ax n3K i:=rfl
theorem n3mv (t:Nat):n3.mv t=(false):=rfl
theorem res3:Try.f3.results.toList= [.tmp 2]:=rfl
noncomputable def b3:Code:=aU Try.f3
theorem r_rlWireDecodes (C:aj) (k_rloctets_z:K_rloctets_z C) (k_wire_Decode:K_wire_Decode C) (k_rrMachineOf:K_rrMachineOf C) (k_rlsameMachine:K_rlsameMachine C) (p0:List Int) (r:Bool) (hF:rlWireDecodes p0=some r):cR TT C.wide (evW TT C.wide n3 b3) n3 Try.f3.results.toList (aU Try.f3) [.v (.sl 1 (ah cE p0))] []=some (.v (.b r),[]):=by
 revert hF
 unfold rlWireDecodes
 refine az fun x1 h1=>?_
 have g1:=bK (k_rloctets_z p0 _ h1)
 refine az ?_
 rintro⟨x2,x3⟩ h2
 dsimp only
 have g2:=bK (k_wire_Decode x1 _ h2)
 try simp only [] at g2
 refine az ?_
 rintro⟨x4,x5⟩ h3
 dsimp only
 have g3:=bK (k_rrMachineOf p0 _ h3)
 try simp only [] at g3
 refine bF (fun h4=>?_) (fun h4=>?_)
 rotate_left 1
 refine az fun x6 h5=>?_
 have g4:=bK (k_rlsameMachine x2 x4 _ h5)
 all_goals (rintro⟨⟩;rw [bk];show cC _ _ _ (aH _ _ _ _ (Code.seq _ _) _)=_;simp (maxSteps:=4000000) only [*,res3,n3k,n3K,n3mv,↓RP,RB,enter,aQ,aD,be,bf,aJ,Mx.bl,opnd,Mx.bI,Nat.reduceBEq,bQ,Mx.fit,bP,co,cellsOf,aN,aA,ay,Mx.put,ofConst,ofCell,Mx.prune,killB,killBs,aK,putDst,aw,loadAt,List.map,Nat.reduceAdd,cz,cB,aC,bu,bx,cA,bS,bJ,aM,lowC,forceAll,kill,lend,lendA,aS,aB,cg,bR,bare,bW,bG,setCells,Nat.reduceLeDiff,ax,newB,cw,cy,cx,bne,↓ao,↓aa,bh,aP,ty4,ty28,ty29])
end Go.Proofs.Ytgcglmoogaldbaa
