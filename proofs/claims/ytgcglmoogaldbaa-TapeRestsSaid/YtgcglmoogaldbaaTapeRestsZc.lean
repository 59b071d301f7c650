/- The code of these functions, run by the machine Mx, gives what the plain functions say, if their callees do (part 3). -/
import Derived.Test.YtgcglmoogaldbaaWTy
import Derived.Test.YtgcglmoogaldbaaTapeRestsD
set_option linter.unusedSimpArgs false
set_option linter.unusedVariables false
set_option linter.constructorNameAsVariable false
set_option linter.unnecessarySimpa false
set_option maxRecDepth 100000
set_option maxHeartbeats 40000000
namespace Go.Proofs.Ytgcglmoogaldbaa
open Go Go.Mx Go.Proofs
def n101K:List (Nat×List Nat):=[(0,[0]),(1,[0,4]),(2,[2,7]),(3,[2,7])]
def n101A:List (Nat×List Nat×List Nat):=[(4,[],[0])]
def n101:cL where
 keep:=ax n101K
 ro:=fun _=>false
 mv:=fun _=>false
 give:=fun _=>false
 free:=fun _=>[]
 alive:=av n101A
theorem n101k (i:Nat):n101.keep i=ax n101K i:=rfl
set_option maxRecDepth 100000 in
theorem q0_sKItem_Item (C:aj) (l:List (List V)) (h:dh l.length 104=true):dH TT C n101 (aU Try.f101) ⟨enter 0 [.v (.sl 10 l)],[]⟩ (Back TT 0 Try.f101.results.toList (.own 10 l) []):=by
 cases l with
 |nil=>
  simp only [List.length_nil] at h
  simp only [h,Try.f101,n101k,n101K,aU,Option.getD_some,↓cond_true,↓cond_false,enter,List.toList_toArray,cond_false,aQ,be,cond_true,bf,aJ,Mx.bl,opnd,Mx.bI,Nat.reduceBEq,bQ,Mx.fit,co,List.isEmpty_nil,Bool.false_or,Bool.or_false,Bool.true_or,Bool.or_true,Bool.and_true,Bool.true_and,Bool.not_true,Bool.not_false,Bool.and_self,gS,spend_m,aN,aA,Mx.put,ofConst,ofCell,Mx.prune,List.map_cons,killB,aK,putDst,hJ,aw,ar,List.length_cons,List.length_nil,List.map,List.take_zero,Nat.reduceAdd,Nat.reduceMul,Nat.zero_add,Nat.add_zero,cz,aO,eq_self,reduceCtorEq,aC,bu,bx,cA,bS,bJ,aM,lowC,List.take_zero,List.length_nil,kill,spendLoc,spendOk,bO,frz,cq,bG,takeParts,bv,aR,List.append_nil,Nat.reduceBNe,Nat.reduceLeDiff,decide_true,beq_self_eq_true,bq,gG,ie,ax,ty40,ty48,dH,AllOps,nilOuts,Back,List.mem_cons,List.not_mem_nil,forall_eq_or_imp,forall_eq,exists_eq_left',Option.some.injEq,or_true,or_false,and_true,true_and]
 |cons x l=>
  simp only [List.length_cons] at h
  simp only [h,Try.f101,n101k,n101K,aU,Option.getD_some,↓cond_true,↓cond_false,enter,List.toList_toArray,Bool.false_and,cond_false,aQ,be,cond_true,bf,aJ,Mx.bl,opnd,Mx.bI,Nat.reduceBEq,bQ,Mx.fit,co,List.isEmpty_cons,List.isEmpty_nil,Bool.false_or,Bool.or_false,Bool.or_true,Bool.and_true,Bool.not_true,Bool.not_false,Bool.and_self,gS,spend_m,aN,aA,Mx.put,ofConst,ofCell,Mx.prune,List.map_cons,killB,aK,putDst,hJ,aw,ar,List.length_cons,List.length_nil,List.map,List.take_zero,Nat.reduceAdd,Nat.reduceMul,Nat.zero_add,cz,aO,eq_self,reduceCtorEq,aC,bu,bx,cA,bS,bJ,aM,lowC,List.take_zero,List.length_nil,kill,spendLoc,spendOk,bO,frz,cq,bG,takeParts,bv,aR,List.nil_append,Nat.reduceBNe,Nat.reduceLeDiff,decide_true,beq_self_eq_true,bq,gG,ie,ax,ty40,ty48,dH,AllOps,nilOuts,Back,List.mem_cons,List.not_mem_nil,forall_eq,exists_eq_left',Option.some.injEq,or_true,or_false,true_and]
theorem q_sKItem_Item (C:aj) (l r:List GItem) (h:sKItem_Item l=some r):dH TT C n101 (aU Try.f101) ⟨enter 0 [.v (.sl 10 (ah GItem.row l))],[]⟩ (Back TT 0 Try.f101.results.toList (.own 10 (ah GItem.row r)) []):=by
 unfold sKItem_Item at h
 cases hq:dh l.length 104 with
 |false=>rw [hq] at h;cases h
 |true=>
  rw [hq,cond_true] at h
  obtain rfl:=Option.some.inj h
  exact q0_sKItem_Item C _ (by rw [mapR_len];exact hq)
def n80K:List (Nat×List Nat):=[(0,[1,2,4]),(1,[1,2,4,6]),(2,[1,2,4,6,12]),(3,[4,5]),(4,[1,2,4,7,8]),(5,[1,2,4,7,8,22]),(6,[4,5]),(7,[4,5])]
def n80A:List (Nat×List Nat×List Nat):=[(12,[4,6],[1,2,4]),(22,[4,8],[1,2,4,7])]
def n80:cL where
 keep:=ax n80K
 ro:=fun t=>t==2
 mv:=fun _=>false
 give:=fun _=>false
 free:=fun _=>[]
 alive:=av n80A
theorem n80a (t:Nat) (x:Bool) (e:Env) (S:bH):cK n80 t x ⟨e,S⟩=atO (av n80A t x) e S:=cF rfl t x e S
theorem n80k (i:Nat):n80.keep i=ax n80K i:=rfl
theorem n80ro (t:Nat):n80.ro t=(t==2):=rfl
theorem n80mv (t:Nat):n80.mv t=(false):=rfl
theorem res80:Try.f80.results.toList= [.cell 4 50,.tmp 5]:=rfl
noncomputable def b80:Code:=aU Try.f80
theorem r_ledger_Trim (C:aj) (k_ledger_Check:K_ledger_Check C) (k_ledger_term:K_ledger_term C) (k_sKItem_Item:K_sKItem_Item C) (p0:GLog) (p1:Int) (r:GLog×Int) (hF:ledger_Trim p0 p1=some r):cR TT C.wide (evW TT C.wide n80 b80) n80 Try.f80.results.toList (aU Try.f80) [.agg [.v (.i .i64 p0.fBase),.v (.i .i64 p0.fBaseTerm),.v (.sl 10 (ah GItem.row p0.fItems))],.v (.i .i64 p1)] []=some (.tup [.agg [.v (.i .i64 r.1.fBase),.v (.i .i64 r.1.fBaseTerm),.v (.sl 10 (ah GItem.row r.1.fItems))],.v (.i .i64 r.2)],[]):=by
 revert hF
 unfold ledger_Trim
 refine az fun x1 h1=>?_
 have g1:=bK (k_ledger_Check p0 _ h1)
 refine bF (fun h2=>?_) (fun h2=>?_)
 rotate_left 1
 refine az ?_
 rintro⟨x2,x3⟩ h3
 dsimp only
 have g2:=bK (k_ledger_term p0 p1 _ h3)
 try simp only [] at g2
 refine bF (fun h4=>?_) (fun h4=>?_)
 rotate_left 1
 refine aX (fun h5=>?_) (fun _=>nofun)
 refine az fun x4 h6=>?_
 have g3:=bK (k_sKItem_Item (dm p0.fItems (IntKind.i64.wrap (p1-p0.fBase)) (p0.fItems.length:Int)) _ h6)
 all_goals (rintro⟨⟩;rw [bk];show cC _ _ _ (aH _ _ _ _ (Code.seq _ _) _)=_;simp (maxSteps:=4000000) only [*,res80,n80a,n80A,n80k,n80K,n80ro,n80mv,↓RP,RB,enter,be,bf,aJ,Mx.bl,opnd,Mx.bI,Nat.reduceBEq,bQ,Mx.fit,bP,co,toVs,cellsOf,toV,aN,aA,ay,Mx.put,ofConst,ofCell,Mx.prune,killB,killBs,aK,putDst,aw,aE,loadAt,bT,List.map,Nat.reduceAdd,cz,cB,cu,aC,bu,bx,cA,bJ,aM,bD,lowC,forceAll,bound,ci,bj,bA,kill,lend,lendA,aS,aB,cg,bR,bare,bW,frz,cq,bG,fill,setCells,takeParts,Nat.reduceLeDiff,bq,ax,av,atO,newB,cw,cy,cx,bne,↓ao,↓am,↓aa,ty3,ty29,ty40,ty48,ty50,GItem.flat])
def n54K:List (Nat×List Nat):=[(0,[2,3,4]),(1,[2,3,4,5,6]),(2,[2,3,4,23]),(3,[4,7]),(4,[4]),(5,[4])]
def n54A:List (Nat×List Nat×List Nat):=[(23,[2,3,4],[3,4])]
def n54:cL where
 keep:=ax n54K
 ro:=fun t=>t==2||t==3
 mv:=fun _=>false
 give:=fun _=>false
 free:=fun _=>[]
 alive:=av n54A
theorem n54a (t:Nat) (x:Bool) (e:Env) (S:bH):cK n54 t x ⟨e,S⟩=atO (av n54A t x) e S:=cF rfl t x e S
theorem n54k (i:Nat):n54.keep i=ax n54K i:=rfl
theorem n54ro (t:Nat):n54.ro t=(t==2||t==3):=rfl
theorem n54mv (t:Nat):n54.mv t=(false):=rfl
theorem res54:Try.f54.results.toList= [.cell 4 50]:=rfl
noncomputable def b54:Code:=aU Try.f54
theorem r_tape_rest (C:aj) (k_ledger_Term:K_ledger_Term C) (k_ledger_Trim:K_ledger_Trim C) (p0:GLog) (p1:GSnap) (r:GLog) (hF:tape_rest p0 p1=some r): ∃d S,cR TT C.wide (evW TT C.wide n54 b54) n54 Try.f54.results.toList (aU Try.f54) [.agg [.v (.i .i64 p0.fBase),.v (.i .i64 p0.fBaseTerm),.v (.sl 10 (ah GItem.row p0.fItems))],.agg [.v (.i .i64 p1.fIndex),.v (.i .i64 p1.fTerm),.v (.i .i64 p1.fMachine.fStore.fNow),.v (.sl 8 (ah GEntry.row p1.fMachine.fStore.fEntries)),.v (.i .i64 p1.fMachine.fNext),.v (.sl 7 (ah GClient.row p1.fMachine.fClients))]] []=some (d,S)∧bD d=true∧(frz d,S)=(.agg [.v (.i .i64 r.fBase),.v (.i .i64 r.fBaseTerm),.v (.sl 10 (ah GItem.row r.fItems))],[]):=by
 revert hF
 unfold tape_rest
 refine az ?_
 rintro⟨x1,x2⟩ h1
 dsimp only
 have g1:=bK (k_ledger_Term p0 p1.fIndex _ h1)
 try simp only [] at g1
 refine bF (fun h2=>?_) (fun h2=>?_)
 focus
  intro hF
  have hR:=Option.some.inj hF
  clear hF
  subst hR
  refine⟨.agg [.v (.i .i64 p1.fIndex),.v (.i .i64 p1.fTerm),.own 10 []],[],?_,rfl,by first|rfl|(simp only [*];done)|(simp only [*];rfl)⟩
 rotate_left 1
 refine bF (fun h3=>?_) (fun h3=>?_)
 focus
  intro hF
  have hR:=Option.some.inj hF
  clear hF
  subst hR
  refine⟨.agg [.v (.i .i64 p1.fIndex),.v (.i .i64 p1.fTerm),.own 10 []],[],?_,rfl,by first|rfl|(simp only [*];done)|(simp only [*];rfl)⟩
 rotate_left 1
 refine az ?_
 rintro⟨x3,x4⟩ h4
 dsimp only
 have g2:=bK (k_ledger_Trim p0 p1.fIndex _ h4)
 try simp only [] at g2
 intro hF
 have hR:=Option.some.inj hF
 clear hF
 subst hR
 refine⟨.agg [.v (.i .i64 x3.fBase),.v (.i .i64 x3.fBaseTerm),.v (.sl 10 (ah GItem.row x3.fItems))],[],?_,rfl,by first|rfl|(simp only [*];done)|(simp only [*];rfl)⟩
 all_goals (rw [bk];show cC _ _ _ (aH _ _ _ _ (Code.seq _ _) _)=_;simp (maxSteps:=4000000) only [*,res54,n54a,n54A,n54k,n54K,n54ro,n54mv,↓RP,RB,enter,aQ,aD,be,bf,aJ,Mx.bl,opnd,Mx.bI,Nat.reduceBEq,bQ,Mx.fit,bP,co,toVs,cellsOf,toV,aN,aA,ay,Mx.put,ofConst,ofCell,Mx.prune,killB,killBs,aK,putDst,aw,aE,loadAt,bT,List.map,Nat.reduceAdd,cz,cB,aC,bu,bx,cA,bS,bJ,aM,bD,lowC,forceAll,kill,lend,lendA,aS,aB,cg,bare,bW,bG,fill,setCells,takeParts,Nat.reduceLeDiff,ax,av,atO,newB,cy,cx,bne,↓ao,↓am,↓aa,bh,aP,ty3,ty29,ty42,ty48,ty50])
def n14K:List (Nat×List Nat):=[(0,[2,3,4]),(1,[2,3,4,6]),(2,[2,3,4,6,11]),(3,[4,5]),(4,[2,3,4,7]),(5,[2,3,4,7,17]),(6,[4,5]),(7,[4,5])]
def n14A:List (Nat×List Nat×List Nat):=[(11,[4,6],[2,3,4]),(17,[4,7],[2,3,4])]
def n14:cL where
 keep:=ax n14K
 ro:=fun t=>t==2||t==3
 mv:=fun _=>false
 give:=fun _=>false
 free:=fun _=>[]
 alive:=av n14A
theorem n14a (t:Nat) (x:Bool) (e:Env) (S:bH):cK n14 t x ⟨e,S⟩=atO (av n14A t x) e S:=cF rfl t x e S
theorem n14k (i:Nat):n14.keep i=ax n14K i:=rfl
theorem n14ro (t:Nat):n14.ro t=(t==2||t==3):=rfl
theorem n14mv (t:Nat):n14.mv t=(false):=rfl
theorem res14:Try.f14.results.toList= [.cell 4 50,.tmp 5]:=rfl
noncomputable def b14:Code:=aU Try.f14
theorem r_tape_Rest (C:aj) (k_ledger_Check:K_ledger_Check C) (k_tape_CheckSnap:K_tape_CheckSnap C) (k_tape_rest:K_tape_rest C) (p0:GLog) (p1:GSnap) (r:GLog×Int) (hF:tape_Rest p0 p1=some r):cR TT C.wide (evW TT C.wide n14 b14) n14 Try.f14.results.toList (aU Try.f14) [.agg [.v (.i .i64 p0.fBase),.v (.i .i64 p0.fBaseTerm),.v (.sl 10 (ah GItem.row p0.fItems))],.agg [.v (.i .i64 p1.fIndex),.v (.i .i64 p1.fTerm),.v (.i .i64 p1.fMachine.fStore.fNow),.v (.sl 8 (ah GEntry.row p1.fMachine.fStore.fEntries)),.v (.i .i64 p1.fMachine.fNext),.v (.sl 7 (ah GClient.row p1.fMachine.fClients))]] []=some (.tup [.agg [.v (.i .i64 r.1.fBase),.v (.i .i64 r.1.fBaseTerm),.v (.sl 10 (ah GItem.row r.1.fItems))],.v (.i .i64 r.2)],[]):=by
 revert hF
 unfold tape_Rest
 refine az fun x1 h1=>?_
 have g1:=bK (k_ledger_Check p0 _ h1)
 refine bF (fun h2=>?_) (fun h2=>?_)
 rotate_left 1
 refine az fun x2 h3=>?_
 have g2:=bK (k_tape_CheckSnap p1 _ h3)
 refine bF (fun h4=>?_) (fun h4=>?_)
 rotate_left 1
 refine az fun x3 h5=>?_
 have g3:=bK (k_tape_rest p0 p1 _ h5)
 all_goals (rintro⟨⟩;rw [bk];show cC _ _ _ (aH _ _ _ _ (Code.seq _ _) _)=_;simp (maxSteps:=4000000) only [*,res14,n14a,n14A,n14k,n14K,n14ro,n14mv,↓RP,RB,enter,be,bf,aJ,Mx.bl,opnd,Mx.bI,Nat.reduceBEq,bQ,Mx.fit,bP,co,toVs,cellsOf,toV,aN,aA,ay,Mx.put,ofConst,ofCell,Mx.prune,killB,killBs,aK,putDst,aw,loadAt,bT,List.map,Nat.reduceAdd,cz,cB,aC,bu,bx,cA,bJ,aM,lowC,forceAll,kill,lend,lendA,aS,aB,bR,bare,bW,frz,cq,bG,fill,setCells,takeParts,Nat.reduceLeDiff,bq,ax,av,atO,newB,cw,cy,cx,bne,↓ao,↓am,↓aa,ty3,ty29,ty42,ty48,ty50])
def n48K:List (Nat×List Nat):=[(0,[0,1,2]),(1,[6])]
def n48:cL where
 keep:=ax n48K
 ro:=fun _=>false
 mv:=fun _=>false
 give:=fun _=>false
 free:=fun _=>[]
theorem n48k (i:Nat):n48.keep i=ax n48K i:=rfl
theorem res48:Try.f48.results.toList= [.tmp 6]:=rfl
noncomputable def b48:Code:=aU Try.f48
theorem r_rrIn (C:aj)  (p0:Int) (p1:Int) (p2:Int) (r:Bool) (hF:rrIn p0 p1 p2=some r):cR TT C.wide (evW TT C.wide n48 b48) n48 Try.f48.results.toList (aU Try.f48) [.v (.i .i64 p0),.v (.i .i64 p1),.v (.i .i64 p2)] []=some (.v (.b r),[]):=by
 revert hF
 unfold rrIn
 refine aX (fun h1=>?_) (fun h1=>?_)
 rotate_left 1
 all_goals (rintro⟨⟩;rw [bk];show cC _ _ _ (aH _ _ _ _ (Code.seq _ _) _)=_;simp (maxSteps:=4000000) only [*,res48,n48k,n48K,↓RP,RB,enter,aQ,aD,be,bf,aJ,Mx.bl,opnd,Mx.bI,Nat.reduceBEq,bQ,Mx.fit,co,aN,aA,Mx.put,ofConst,ofCell,Mx.prune,killB,aK,putDst,aw,List.map,Nat.reduceAdd,cz,cB,aC,bu,bx,cA,bS,bJ,aM,lowC,ax,cy,cx,↓ao,↓aa,bh,ty4])
def n51K:List (Nat×List Nat):=[(0,[0]),(1,[2])]
def n51:cL where
 keep:=ax n51K
 ro:=fun _=>false
 mv:=fun _=>false
 give:=fun _=>false
 free:=fun _=>[]
theorem n51k (i:Nat):n51.keep i=ax n51K i:=rfl
theorem res51:Try.f51.results.toList= [.tmp 2]:=rfl
noncomputable def b51:Code:=aU Try.f51
theorem r_rrnumberMay (C:aj) (k_rrIn:K_rrIn C) (p0:Int) (r:Bool) (hF:rrnumberMay p0=some r):cR TT C.wide (evW TT C.wide n51 b51) n51 Try.f51.results.toList (aU Try.f51) [.v (.i .i64 p0)] []=some (.v (.b r),[]):=by
 revert hF
 unfold rrnumberMay
 have g1:=bK (k_rrIn p0 1 1048576 _ (rrIn_t p0 1 1048576))
 have g2:rrIn_v p0 1 1048576=(decide (1≤p0)&&decide (p0≤1048576)):=by first|rfl|(simp [rrIn_v];done)|(simp only [rrIn_v];decide)
 all_goals (rintro⟨⟩;rw [bk];show cC _ _ _ (aH _ _ _ _ (Code.seq _ _) _)=_;simp (maxSteps:=4000000) only [*,res51,n51k,n51K,↓RP,RB,enter,be,bf,aJ,Mx.bl,opnd,Mx.bI,Nat.reduceBEq,bQ,Mx.fit,co,aN,aA,Mx.put,ofConst,ofCell,Mx.prune,killB,aK,putDst,aw,List.map,aC,bu,bx,cA,bS,bJ,aM,lowC,forceAll,lend,lendA,aS,aB,bR,bare,bW,ax,newB,cw,↓ao,↓aa,ty4])
def n93K:List (Nat×List Nat):=[(0,[0]),(1,[2])]
def n93:cL where
 keep:=ax n93K
 ro:=fun _=>false
 mv:=fun _=>false
 give:=fun _=>false
 free:=fun _=>[]
theorem n93k (i:Nat):n93.keep i=ax n93K i:=rfl
theorem res93:Try.f93.results.toList= [.tmp 2]:=rfl
noncomputable def b93:Code:=aU Try.f93
theorem r_rrfieldMay (C:aj) (k_rrIn:K_rrIn C) (p0:ByteArray) (r:Bool) (hF:rrfieldMay p0=some r):cR TT C.wide (evW TT C.wide n93 b93) n93 Try.f93.results.toList (aU Try.f93) [.v (.s p0)] []=some (.v (.b r),[]):=by
 revert hF
 unfold rrfieldMay
 have g1:=bK (k_rrIn (p0.size:Int) 1 12 _ (rrIn_t (p0.size:Int) 1 12))
 have g2:rrIn_v (p0.size:Int) 1 12=(decide (1≤(p0.size:Int))&&decide ((p0.size:Int)≤12)):=by first|rfl|(simp [rrIn_v];done)|(simp only [rrIn_v];decide)
 all_goals (rintro⟨⟩;rw [bk];show cC _ _ _ (aH _ _ _ _ (Code.seq _ _) _)=_;simp (maxSteps:=4000000) only [*,res93,n93k,n93K,↓RP,RB,enter,be,bf,aJ,Mx.bl,opnd,Mx.bI,Nat.reduceBEq,bQ,Mx.fit,co,aN,aA,Mx.put,ofConst,ofCell,Mx.prune,killB,aK,putDst,aw,List.map,cu,aC,bu,bx,cA,bS,bJ,aM,lowC,forceAll,lend,lendA,aS,aB,bR,bare,bW,ax,newB,cw,↓ao,↓aa,ty4,ty9])
def n95K:List (Nat×List Nat):=[(0,[0]),(1,[2])]
def n95:cL where
 keep:=ax n95K
 ro:=fun _=>false
 mv:=fun _=>false
 give:=fun _=>false
 free:=fun _=>[]
theorem n95k (i:Nat):n95.keep i=ax n95K i:=rfl
theorem res95:Try.f95.results.toList= [.tmp 2]:=rfl
noncomputable def b95:Code:=aU Try.f95
theorem r_rrtextMay (C:aj)  (p0:ByteArray) (r:Bool) (hF:rrtextMay p0=some r):cR TT C.wide (evW TT C.wide n95 b95) n95 Try.f95.results.toList (aU Try.f95) [.v (.s p0)] []=some (.v (.b r),[]):=by
 revert hF
 unfold rrtextMay
 all_goals (rintro⟨⟩;rw [bk];show cC _ _ _ (aH _ _ _ _ (Code.seq _ _) _)=_;simp (maxSteps:=4000000) only [*,res95,n95k,n95K,↓RP,RB,enter,be,bf,aJ,Mx.bl,opnd,Mx.bI,Nat.reduceBEq,bQ,Mx.fit,co,aN,aA,Mx.put,ofConst,ofCell,Mx.prune,killB,aK,putDst,aw,List.map,cz,cB,cu,aC,bu,bx,cA,bS,bJ,aM,lowC,ax,cy,cx,↓ao,↓aa,ty4,ty9])
def n96K:List (Nat×List Nat):=[(0,[0]),(1,[2])]
def n96:cL where
 keep:=ax n96K
 ro:=fun _=>false
 mv:=fun _=>false
 give:=fun _=>false
 free:=fun _=>[]
theorem n96k (i:Nat):n96.keep i=ax n96K i:=rfl
theorem res96:Try.f96.results.toList= [.tmp 2]:=rfl
noncomputable def b96:Code:=aU Try.f96
theorem r_rrcountMay (C:aj) (k_rrIn:K_rrIn C) (p0:Int) (r:Bool) (hF:rrcountMay p0=some r):cR TT C.wide (evW TT C.wide n96 b96) n96 Try.f96.results.toList (aU Try.f96) [.v (.i .i64 p0)] []=some (.v (.b r),[]):=by
 revert hF
 unfold rrcountMay
 have g1:=bK (k_rrIn p0 (-1099511627776) 1099511627776 _ (rrIn_t p0 (-1099511627776) 1099511627776))
 have g2:rrIn_v p0 (-1099511627776) 1099511627776=(decide ((-1099511627776)≤p0)&&decide (p0≤1099511627776)):=by first|rfl|(simp [rrIn_v];done)|(simp only [rrIn_v];decide)
 all_goals (rintro⟨⟩;rw [bk];show cC _ _ _ (aH _ _ _ _ (Code.seq _ _) _)=_;simp (maxSteps:=4000000) only [*,res96,n96k,n96K,↓RP,RB,enter,be,bf,aJ,Mx.bl,opnd,Mx.bI,Nat.reduceBEq,bQ,Mx.fit,co,aN,aA,Mx.put,ofConst,ofCell,Mx.prune,killB,aK,putDst,aw,List.map,aC,bu,bx,cA,bS,bJ,aM,lowC,forceAll,lend,lendA,aS,aB,bR,bare,bW,Int.reduceNeg,ax,newB,cw,↓ao,↓aa,ty4])
def n99K:List (Nat×List Nat):=[(0,[1]),(1,[1,10]),(2,[2]),(3,[1,3]),(4,[1,3,4]),(5,[1,3,4,5]),(6,[1,3,4,5,6]),(7,[1,4,6,86]),(8,[2]),(9,[1,108]),(10,[2]),(11,[112]),(12,[2]),(13,[2])]
def n99A:List (Nat×List Nat×List Nat):=[(10,[],[1]),(86,[],[1,4,6]),(108,[],[1]),(112,[],[])]
def n99:cL where
 keep:=ax n99K
 ro:=fun t=>t==1
 mv:=fun _=>false
 give:=fun _=>false
 free:=fun _=>[]
 alive:=av n99A
theorem n99a (t:Nat) (x:Bool) (e:Env) (S:bH):cK n99 t x ⟨e,S⟩=atO (av n99A t x) e S:=cF rfl t x e S
theorem n99k (i:Nat):n99.keep i=ax n99K i:=rfl
theorem n99ro (t:Nat):n99.ro t=(t==1):=rfl
theorem n99mv (t:Nat):n99.mv t=(false):=rfl
theorem res99:Try.f99.results.toList= [.tmp 2]:=rfl
noncomputable def b99:Code:=aU Try.f99
theorem rg_rrCommandFault_k3 (C:aj) (k_rrIn:K_rrIn C) (p0:GCommand) (c:Code) (ho:cD 0 3 b99=some c) (r:Bool) (hF:ck_rrCommandFault_k3_v p0=r): @cV TT C.wide (evW TT C.wide n99 b99) n99 0 3 ⟨[(1,.rp [.i .i64 p0.fKind,.s p0.fKey,.s p0.fField,.s p0.fText,.i .i64 p0.fN])],[]⟩ ⟨c⟩=some (.normal,⟨[(1,.rp [.i .i64 p0.fKind,.s p0.fKey,.s p0.fField,.s p0.fText,.i .i64 p0.fN]),(3,.v (.b r))],[]⟩):=by
 have e:=Option.some.inj (ho.symm.trans (rfl:cD 0 3 b99=some _))
 subst e
 clear ho
 show aH _ _ _ _ _ _=_
 revert hF
 unfold ck_rrCommandFault_k3_v
 refine aX (fun h1=>?_) (fun h1=>?_)
 rotate_left 1
 refine aX (fun h2=>?_) (fun h2=>?_)
 rotate_left 1
 refine aX (fun h3=>?_) (fun h3=>?_)
 rotate_left 1
 refine aX (fun h4=>?_) (fun h4=>?_)
 rotate_left 1
 have g1:=bK (k_rrIn p0.fKind 11 16 _ (rrIn_t p0.fKind 11 16))
 have g2:rrIn_v p0.fKind 11 16=(decide (11≤p0.fKind)&&decide (p0.fKind≤16)):=by first|rfl|(simp [rrIn_v];done)|(simp only [rrIn_v];decide)
 all_goals (rintro rfl;simp (maxSteps:=4000000) only [*,n99k,n99K,n99mv,↓RP,RB,aQ,aD,be,bf,aJ,Mx.bl,opnd,Mx.bI,Nat.reduceBEq,bQ,Mx.fit,co,aN,aA,ay,Mx.put,ofConst,ofCell,Mx.prune,killB,aK,putDst,aw,aE,loadAt,bT,List.map,cz,cB,forceAll,lend,lendA,aS,aB,bR,bare,bW,ax,newB,cw,cy,cx,bh,ty3,ty4,ty36,↓aa _ _ _ _ 3])
theorem rg_rrCommandFault_k5 (C:aj)  (p0:GCommand) (p1:Bool) (p2:Bool) (c:Code) (ho:cD 0 5 b99=some c) (r:Bool) (hF:ck_rrCommandFault_k5_v p0 p1 p2=r): @cV TT C.wide (evW TT C.wide n99 b99) n99 0 5 ⟨[(1,.rp [.i .i64 p0.fKind,.s p0.fKey,.s p0.fField,.s p0.fText,.i .i64 p0.fN]),(3,.v (.b p1)),(4,.v (.b p2))],[]⟩ ⟨c⟩=some (.normal,⟨[(1,.rp [.i .i64 p0.fKind,.s p0.fKey,.s p0.fField,.s p0.fText,.i .i64 p0.fN]),(3,.v (.b p1)),(4,.v (.b p2)),(5,.v (.b r))],[]⟩):=by
 have e:=Option.some.inj (ho.symm.trans (rfl:cD 0 5 b99=some _))
 subst e
 clear ho
 show aH _ _ _ _ _ _=_
 revert hF
 unfold ck_rrCommandFault_k5_v
 refine aX (fun h1=>?_) (fun h1=>?_)
 rotate_left 1
 refine aX (fun h2=>?_) (fun h2=>?_)
 rotate_left 1
 all_goals (rintro rfl;simp (maxSteps:=4000000) only [*,n99k,n99K,n99mv,↓RP,RB,aQ,aD,be,bf,aJ,Mx.bl,opnd,Mx.bI,Nat.reduceBEq,bQ,Mx.fit,co,aN,aA,ay,Mx.put,ofConst,ofCell,Mx.prune,killB,aK,putDst,aw,aE,loadAt,bT,List.map,cz,cB,ax,cy,cx,bh,ty3,ty4,ty36,↓aa _ _ _ _ 5])
theorem rg_rrCommandFault_k7 (C:aj)  (p0:GCommand) (p1:Bool) (p2:Bool) (p3:Bool) (p4:Bool) (c:Code) (ho:cD 0 7 b99=some c) (r:Bool) (hF:ck_rrCommandFault_k7_v p0 p1 p2 p3 p4=r): @cV TT C.wide (evW TT C.wide n99 b99) n99 0 7 ⟨[(1,.rp [.i .i64 p0.fKind,.s p0.fKey,.s p0.fField,.s p0.fText,.i .i64 p0.fN]),(3,.v (.b p1)),(4,.v (.b p2)),(5,.v (.b p3)),(6,.v (.b p4))],[]⟩ ⟨c⟩=some (.normal,⟨[(1,.rp [.i .i64 p0.fKind,.s p0.fKey,.s p0.fField,.s p0.fText,.i .i64 p0.fN]),(4,.v (.b p2)),(6,.v (.b p4)),(86,.v (.b r))],[]⟩):=by
 have e:=Option.some.inj (ho.symm.trans (rfl:cD 0 7 b99=some _))
 subst e
 clear ho
 show aH _ _ _ _ _ _=_
 revert hF
 unfold ck_rrCommandFault_k7_v
 refine aX (fun h1=>?_) (fun h1=>?_)
 focus
  refine aX (fun h2=>?_) (fun h2=>?_)
  focus
   refine aX (fun h3=>?_) (fun h3=>?_)
   focus
    refine aX (fun h4=>?_) (fun h4=>?_)
    rotate_left 1
   rotate_left 2
   refine bF (fun h4=>?_) (fun h4=>?_)
   rotate_left 1
   refine aX (fun h5=>?_) (fun h5=>?_)
   rotate_left 1
  rotate_left 5
  unfold ck_rrCommandFault_k7_v_c0
  refine bF (fun h3=>?_) (fun h3=>?_)
  rotate_left 1
  refine aX (fun h4=>?_) (fun h4=>?_)
  focus
   refine aX (fun h5=>?_) (fun h5=>?_)
   rotate_left 1
  rotate_left 2
  refine bF (fun h5=>?_) (fun h5=>?_)
  rotate_left 1
  refine aX (fun h6=>?_) (fun h6=>?_)
  rotate_left 1
 rotate_left 11
 unfold ck_rrCommandFault_k7_v_c2
 refine bF (fun h2=>?_) (fun h2=>?_)
 rotate_left 1
 refine aX (fun h3=>?_) (fun h3=>?_)
 focus
  refine aX (fun h4=>?_) (fun h4=>?_)
  focus
   refine aX (fun h5=>?_) (fun h5=>?_)
   rotate_left 1
  rotate_left 2
  refine bF (fun h5=>?_) (fun h5=>?_)
  rotate_left 1
  refine aX (fun h6=>?_) (fun h6=>?_)
  rotate_left 1
 rotate_left 5
 unfold ck_rrCommandFault_k7_v_c1
 refine bF (fun h4=>?_) (fun h4=>?_)
 rotate_left 1
 refine aX (fun h5=>?_) (fun h5=>?_)
 focus
  refine aX (fun h6=>?_) (fun h6=>?_)
  rotate_left 1
 rotate_left 2
 refine bF (fun h6=>?_) (fun h6=>?_)
 rotate_left 1
 refine aX (fun h7=>?_) (fun h7=>?_)
 rotate_left 1
 all_goals (rintro rfl;simp (maxSteps:=4000000) only [*,n99k,n99K,n99mv,↓RP,RB,aQ,aD,be,Mx.bl,opnd,Mx.bI,Nat.reduceBEq,bQ,aN,aA,ay,Mx.put,ofConst,ofCell,Mx.prune,killB,aK,putDst,aw,aE,loadAt,bT,List.map,cz,cB,ax,cy,cx,bne,bh,ty3,ty9,ty36,↓aa _ _ _ _ 7])
theorem rg_rrCommandFault_k9 (C:aj) (k_rrfieldMay:K_rrfieldMay C) (k_rrtextMay:K_rrtextMay C) (p0:GCommand) (p1:Bool) (p2:Bool) (c:Code) (ho:cD 0 9 b99=some c) (r:Bool) (hF:ck_rrCommandFault_k9_v p0 p1 p2=r): @cV TT C.wide (evW TT C.wide n99 b99) n99 0 9 ⟨[(1,.rp [.i .i64 p0.fKind,.s p0.fKey,.s p0.fField,.s p0.fText,.i .i64 p0.fN]),(4,.v (.b p1)),(6,.v (.b p2))],[]⟩ ⟨c⟩=some (.normal,⟨[(1,.rp [.i .i64 p0.fKind,.s p0.fKey,.s p0.fField,.s p0.fText,.i .i64 p0.fN]),(108,.v (.b r))],[]⟩):=by
 have e:=Option.some.inj (ho.symm.trans (rfl:cD 0 9 b99=some _))
 subst e
 clear ho
 show aH _ _ _ _ _ _=_
 revert hF
 unfold ck_rrCommandFault_k9_v
 refine bF (fun h1=>?_) (fun h1=>?_)
 focus
  refine bF (fun h2=>?_) (fun h2=>?_)
  focus
   have g1:=bK (k_rrtextMay p0.fText _ (rrtextMay_t p0.fText))
  rotate_left 1
  have g2:=bK (k_rrfieldMay p0.fField _ (rrfieldMay_t p0.fField))
  refine aX (fun h3=>?_) (fun h3=>?_)
  focus
   have g1:=bK (k_rrtextMay p0.fText _ (rrtextMay_t p0.fText))
  rotate_left 1
 rotate_left 3
 have g3:=bK (k_rrfieldMay p0.fKey _ (rrfieldMay_t p0.fKey))
 refine bF (fun h2=>?_) (fun h2=>?_)
 rotate_left 1
 refine bF (fun h3=>?_) (fun h3=>?_)
 focus
  have g1:=bK (k_rrtextMay p0.fText _ (rrtextMay_t p0.fText))
 rotate_left 1
 have g2:=bK (k_rrfieldMay p0.fField _ (rrfieldMay_t p0.fField))
 refine aX (fun h4=>?_) (fun h4=>?_)
 focus
  have g1:=bK (k_rrtextMay p0.fText _ (rrtextMay_t p0.fText))
 rotate_left 1
 all_goals (rintro rfl;simp (maxSteps:=4000000) only [*,n99k,n99K,n99mv,↓RP,RB,aQ,aD,be,Mx.bl,opnd,Mx.bI,Nat.reduceBEq,bQ,aN,aA,ay,Mx.put,ofConst,ofCell,Mx.prune,killB,aK,putDst,aw,aE,loadAt,bT,List.map,forceAll,lend,lendA,aS,aB,bR,bare,bW,ax,newB,cw,bh,ty9,ty36,↓aa _ _ _ _ 9])
theorem r_rrCommandFault (C:aj) (k_rrIn:K_rrIn C) (k_rrfieldMay:K_rrfieldMay C) (k_rrtextMay:K_rrtextMay C) (k_rrcountMay:K_rrcountMay C) (p0:GCommand) (r:Int) (hF:rrCommandFault p0=some r):cR TT C.wide (evW TT C.wide n99 b99) n99 Try.f99.results.toList (aU Try.f99) [.agg [.v (.i .i64 p0.fKind),.v (.s p0.fKey),.v (.s p0.fField),.v (.s p0.fText),.v (.i .i64 p0.fN)]] []=some (.v (.i .i64 r),[]):=by
 revert hF
 unfold rrCommandFault
 refine someX ?_
 unfold rrCommandFault_v
 have g1:=bK (k_rrIn p0.fKind 1 22 _ (rrIn_t p0.fKind 1 22))
 have g2:rrIn_v p0.fKind 1 22=(decide (1≤p0.fKind)&&decide (p0.fKind≤22)):=by first|rfl|(simp [rrIn_v];done)|(simp only [rrIn_v];decide)
 refine bF (fun h1=>?_) (fun h1=>?_)
 rotate_left 1
 refine bF (fun h2=>?_) (fun h2=>?_)
 rotate_left 1
 have g3:=rg_rrCommandFault_k3 C k_rrIn p0 _ rfl (ck_rrCommandFault_k3_v p0) rfl
 have g4:=bK (k_rrIn p0.fKind 4 6 _ (rrIn_t p0.fKind 4 6))
 have g5:rrIn_v p0.fKind 4 6=(decide (4≤p0.fKind)&&decide (p0.fKind≤6)):=by first|rfl|(simp [rrIn_v];done)|(simp only [rrIn_v];decide)
 have g6:=rg_rrCommandFault_k5 C p0 (ck_rrCommandFault_k3_v p0) (decide (4≤p0.fKind)&&decide (p0.fKind≤6)) _ rfl (ck_rrCommandFault_k5_v p0 (ck_rrCommandFault_k3_v p0) (decide (4≤p0.fKind)&&decide (p0.fKind≤6))) rfl
 have g7:=rg_rrCommandFault_k7 C p0 (ck_rrCommandFault_k3_v p0) (decide (4≤p0.fKind)&&decide (p0.fKind≤6)) (ck_rrCommandFault_k5_v p0 (ck_rrCommandFault_k3_v p0) (decide (4≤p0.fKind)&&decide (p0.fKind≤6))) (!(p0.fKind==22)) _ rfl (ck_rrCommandFault_k7_v p0 (ck_rrCommandFault_k3_v p0) (decide (4≤p0.fKind)&&decide (p0.fKind≤6)) (ck_rrCommandFault_k5_v p0 (ck_rrCommandFault_k3_v p0) (decide (4≤p0.fKind)&&decide (p0.fKind≤6))) (!(p0.fKind==22))) rfl
 refine aX (fun h3=>?_) (fun h3=>?_)
 rotate_left 1
 have g8:=rg_rrCommandFault_k9 C k_rrfieldMay k_rrtextMay p0 (decide (4≤p0.fKind)&&decide (p0.fKind≤6)) (!(p0.fKind==22)) _ rfl (ck_rrCommandFault_k9_v p0 (decide (4≤p0.fKind)&&decide (p0.fKind≤6)) (!(p0.fKind==22))) rfl
 refine aX (fun h4=>?_) (fun h4=>?_)
 rotate_left 1
 have g9:=bK (k_rrcountMay p0.fN _ (rrcountMay_t p0.fN))
 refine aX (fun h5=>?_) (fun h5=>?_)
 rotate_left 1
 all_goals (rintro rfl;rw [bk];show cC _ _ _ (aH _ _ _ _ (Code.seq _ _) _)=_;simp (maxSteps:=4000000) only [*,res99,n99a,n99A,n99k,n99K,n99ro,n99mv,↓RP,RB,enter,be,bf,aJ,Mx.bl,opnd,Mx.bI,Nat.reduceBEq,bQ,Mx.fit,bP,co,toVs,cellsOf,toV,aN,aA,ay,Mx.put,ofConst,ofCell,Mx.prune,killB,aK,putDst,aw,aE,loadAt,bT,List.map,cz,cB,aC,bu,bx,cA,bS,bJ,aM,lowC,forceAll,lend,lendA,aS,aB,bR,bare,bW,ax,av,atO,newB,cw,cy,cx,bne,↓ao,↓am,ty3,ty4,ty29,ty36,↓aa _ _ _ _ 0,↓aa _ _ _ _ 1,↓aa _ _ _ _ 2,↓bg _ _ _ _ 3,↓aa _ _ _ _ 4,↓bg _ _ _ _ 5,↓aa _ _ _ _ 6,↓bg _ _ _ _ 7,↓aa _ _ _ _ 8,↓bg _ _ _ _ 9,↓aa _ _ _ _ 10,↓aa _ _ _ _ 11,↓aa _ _ _ _ 12,↓aa _ _ _ _ 13])
def n78K:List (Nat×List Nat):=[(0,[1]),(1,[1,5]),(2,[14]),(3,[2]),(4,[2]),(5,[1,24]),(6,[2]),(7,[2])]
def n78A:List (Nat×List Nat×List Nat):=[(5,[1],[1]),(14,[],[]),(24,[],[1])]
def n78:cL where
 keep:=ax n78K
 ro:=fun t=>t==1
 mv:=fun _=>false
 give:=fun _=>false
 free:=fun _=>[]
 alive:=av n78A
theorem n78a (t:Nat) (x:Bool) (e:Env) (S:bH):cK n78 t x ⟨e,S⟩=atO (av n78A t x) e S:=cF rfl t x e S
theorem n78k (i:Nat):n78.keep i=ax n78K i:=rfl
theorem n78ro (t:Nat):n78.ro t=(t==1):=rfl
theorem n78mv (t:Nat):n78.mv t=(false):=rfl
theorem res78:Try.f78.results.toList= [.tmp 2]:=rfl
noncomputable def b78:Code:=aU Try.f78
theorem r_rrCallFault (C:aj) (k_rrnumberMay:K_rrnumberMay C) (k_rrCommandFault:K_rrCommandFault C) (p0:GCall) (r:Int) (hF:rrCallFault p0=some r):cR TT C.wide (evW TT C.wide n78 b78) n78 Try.f78.results.toList (aU Try.f78) [.agg [.v (.i .i64 p0.fClient),.v (.i .i64 p0.fSeq),.v (.i .i64 p0.fCommand.fKind),.v (.s p0.fCommand.fKey),.v (.s p0.fCommand.fField),.v (.s p0.fCommand.fText),.v (.i .i64 p0.fCommand.fN)]] []=some (.v (.i .i64 r),[]):=by
 revert hF
 unfold rrCallFault
 refine someX ?_
 unfold rrCallFault_v
 refine bF (fun h1=>?_) (fun h1=>?_)
 focus
  have g1:=bK (k_rrnumberMay p0.fClient _ (rrnumberMay_t p0.fClient))
  refine bF (fun h2=>?_) (fun h2=>?_)
  rotate_left 1
  have g2:=bK (k_rrnumberMay p0.fSeq _ (rrnumberMay_t p0.fSeq))
  refine aX (fun h3=>?_) (fun h3=>?_)
  focus
   have g3:=bK (k_rrCommandFault p0.fCommand _ (rrCommandFault_t p0.fCommand))
  rotate_left 1
 rotate_left 3
 unfold rrCallFault_v_c0
 refine bF (fun h2=>?_) (fun h2=>?_)
 rotate_left 1
 refine bF (fun h3=>?_) (fun h3=>?_)
 rotate_left 1
 refine bF (fun h4=>?_) (fun h4=>?_)
 rotate_left 1
 refine bF (fun h5=>?_) (fun h5=>?_)
 rotate_left 1
 refine bF (fun h6=>?_) (fun h6=>?_)
 rotate_left 1
 refine aX (fun h7=>?_) (fun h7=>?_)
 rotate_left 1
 all_goals (rintro rfl;rw [bk];show cC _ _ _ (aH _ _ _ _ (Code.seq _ _) _)=_;simp (maxSteps:=4000000) only [*,res78,n78a,n78A,n78k,n78K,n78ro,n78mv,↓RP,RB,enter,aQ,aD,be,bf,aJ,Mx.bl,opnd,Mx.bI,Nat.reduceBEq,bQ,Mx.fit,bP,co,toVs,cellsOf,toV,aN,aA,ay,Mx.put,ofConst,ofCell,Mx.prune,killB,aK,putDst,aw,aE,loadAt,bT,List.map,Nat.reduceAdd,cz,cB,aG,eqC,aC,bu,bx,cA,bS,bJ,aM,lowC,forceAll,lend,lendA,aS,aB,bR,bare,bW,fill,takeParts,ax,av,atO,newB,cw,cy,cx,bne,↓ao,↓am,↓aa,bh,ty3,ty9,ty29,ty36,ty38])
def n52K:List (Nat×List Nat):=[(0,[1]),(1,[1,12]),(2,[2]),(3,[1,15]),(4,[2]),(5,[22]),(6,[2]),(7,[2])]
def n52A:List (Nat×List Nat×List Nat):=[(12,[],[1]),(15,[1],[1]),(22,[],[])]
def n52:cL where
 keep:=ax n52K
 ro:=fun t=>t==1
 mv:=fun _=>false
 give:=fun _=>false
 free:=fun _=>[]
 alive:=av n52A
theorem n52a (t:Nat) (x:Bool) (e:Env) (S:bH):cK n52 t x ⟨e,S⟩=atO (av n52A t x) e S:=cF rfl t x e S
theorem n52k (i:Nat):n52.keep i=ax n52K i:=rfl
theorem n52ro (t:Nat):n52.ro t=(t==1):=rfl
theorem n52mv (t:Nat):n52.mv t=(false):=rfl
theorem res52:Try.f52.results.toList= [.tmp 2]:=rfl
noncomputable def b52:Code:=aU Try.f52
theorem r_rrItemFault (C:aj) (k_rrnumberMay:K_rrnumberMay C) (k_rrIn:K_rrIn C) (k_rrCallFault:K_rrCallFault C) (p0:GItem) (r:Int) (hF:rrItemFault p0=some r):cR TT C.wide (evW TT C.wide n52 b52) n52 Try.f52.results.toList (aU Try.f52) [.agg [.v (.i .i64 p0.fTerm),.v (.i .i64 p0.fTime),.v (.b p0.fNop),.v (.i .i64 p0.fCall.fClient),.v (.i .i64 p0.fCall.fSeq),.v (.i .i64 p0.fCall.fCommand.fKind),.v (.s p0.fCall.fCommand.fKey),.v (.s p0.fCall.fCommand.fField),.v (.s p0.fCall.fCommand.fText),.v (.i .i64 p0.fCall.fCommand.fN)]] []=some (.v (.i .i64 r),[]):=by
 revert hF
 unfold rrItemFault
 refine someX ?_
 unfold rrItemFault_v
 have g1:=bK (k_rrnumberMay p0.fTerm _ (rrnumberMay_t p0.fTerm))
 refine bF (fun h1=>?_) (fun h1=>?_)
 rotate_left 1
 have g2:=bK (k_rrIn p0.fTime 0 1073741824 _ (rrIn_t p0.fTime 0 1073741824))
 have g3:rrIn_v p0.fTime 0 1073741824=(decide (0≤p0.fTime)&&decide (p0.fTime≤1073741824)):=by first|rfl|(simp [rrIn_v];done)|(simp only [rrIn_v];decide)
 refine bF (fun h2=>?_) (fun h2=>?_)
 rotate_left 1
 refine bF (fun h3=>?_) (fun h3=>?_)
 rotate_left 1
 refine bF (fun h4=>?_) (fun h4=>?_)
 focus
  have g4:=bK (k_rrCallFault p0.fCall _ (rrCallFault_t p0.fCall))
 rotate_left 1
 unfold rrItemFault_v_c0
 refine bF (fun h5=>?_) (fun h5=>?_)
 rotate_left 1
 refine bF (fun h6=>?_) (fun h6=>?_)
 rotate_left 1
 refine bF (fun h7=>?_) (fun h7=>?_)
 rotate_left 1
 refine bF (fun h8=>?_) (fun h8=>?_)
 rotate_left 1
 refine bF (fun h9=>?_) (fun h9=>?_)
 rotate_left 1
 refine bF (fun h10=>?_) (fun h10=>?_)
 rotate_left 1
 refine aX (fun h11=>?_) (fun h11=>?_)
 rotate_left 1
 all_goals (rintro rfl;rw [bk];show cC _ _ _ (aH _ _ _ _ (Code.seq _ _) _)=_;simp (maxSteps:=4000000) only [*,res52,n52a,n52A,n52k,n52K,n52ro,n52mv,↓RP,RB,enter,aQ,aD,be,bf,aJ,Mx.bl,opnd,Mx.bI,Nat.reduceBEq,bQ,Mx.fit,bP,co,toVs,cellsOf,toV,aN,aA,ay,Mx.put,ofConst,ofCell,Mx.prune,killB,aK,putDst,aw,aE,loadAt,bT,List.map,Nat.reduceAdd,cz,aG,eqC,aC,bu,bx,cA,bS,bJ,aM,lowC,forceAll,lend,lendA,aS,aB,bR,bare,bW,fill,takeParts,ax,av,atO,newB,cw,bne,↓ao,↓am,↓aa,bh,ty3,ty4,ty29,ty36,ty38,ty40])
def n56K:List (Nat×List Nat):=[(0,[1]),(1,[1,37]),(2,[2]),(3,[1,3]),(4,[1,3,42]),(5,[1,3]),(6,[1,3,62]),(7,[2]),(8,[1,3,96]),(9,[2]),(10,[2])]
def n56A:List (Nat×List Nat×List Nat):=[(37,[],[1]),(42,[1,3],[]),(62,[],[1,3]),(96,[],[1,3])]
def n56:cL where
 keep:=ax n56K
 ro:=fun t=>t==1
 mv:=fun _=>false
 give:=fun _=>false
 free:=fun i=>match i with|6=>[(0,2),(1,2),(8,10),(9,10),(8,14),(9,14),(10,14),(11,14),(12,14),(13,14),(8,15),(9,15),(10,15),(11,15),(12,15),(13,15)]|8=>[(3,5),(4,5),(3,9),(4,9),(5,9),(6,9),(7,9),(8,9),(3,10),(4,10),(5,10),(6,10),(7,10),(8,10),(3,11),(4,11),(5,11),(6,11),(7,11),(8,11),(9,11),(10,11),(3,12),(4,12),(5,12),(6,12),(7,12),(8,12),(9,12),(10,12),(3,13),(4,13),(5,13),(6,13),(7,13),(8,13),(3,14),(4,14),(5,14),(6,14),(7,14),(8,14),(3,15),(4,15),(5,15),(6,15),(7,15),(8,15),(18,20),(19,20),(18,24),(19,24),(20,24),(21,24),(22,24),(23,24),(18,25),(19,25),(20,25),(21,25),(22,25),(23,25),(18,26),(19,26),(20,26),(21,26),(22,26),(23,26),(24,26),(25,26),(18,27),(19,27),(20,27),(21,27),(22,27),(23,27),(24,27),(25,27),(18,28),(19,28),(20,28),(21,28),(22,28),(23,28),(18,29),(19,29),(20,29),(21,29),(22,29),(23,29),(18,30),(19,30),(20,30),(21,30),(22,30),(23,30)]|_=>[]
 alive:=av n56A
theorem n56a (t:Nat) (x:Bool) (e:Env) (S:bH):cK n56 t x ⟨e,S⟩=atO (av n56A t x) e S:=cF rfl t x e S
theorem n56k (i:Nat):n56.keep i=ax n56K i:=rfl
theorem n56ro (t:Nat):n56.ro t=(t==1):=rfl
theorem n56mv (t:Nat):n56.mv t=(false):=rfl
theorem n56f6:n56.free 6= [(0,2),(1,2),(8,10),(9,10),(8,14),(9,14),(10,14),(11,14),(12,14),(13,14),(8,15),(9,15),(10,15),(11,15),(12,15),(13,15)]:=rfl
theorem n56f8:n56.free 8= [(3,5),(4,5),(3,9),(4,9),(5,9),(6,9),(7,9),(8,9),(3,10),(4,10),(5,10),(6,10),(7,10),(8,10),(3,11),(4,11),(5,11),(6,11),(7,11),(8,11),(9,11),(10,11),(3,12),(4,12),(5,12),(6,12),(7,12),(8,12),(9,12),(10,12),(3,13),(4,13),(5,13),(6,13),(7,13),(8,13),(3,14),(4,14),(5,14),(6,14),(7,14),(8,14),(3,15),(4,15),(5,15),(6,15),(7,15),(8,15),(18,20),(19,20),(18,24),(19,24),(20,24),(21,24),(22,24),(23,24),(18,25),(19,25),(20,25),(21,25),(22,25),(23,25),(18,26),(19,26),(20,26),(21,26),(22,26),(23,26),(24,26),(25,26),(18,27),(19,27),(20,27),(21,27),(22,27),(23,27),(24,27),(25,27),(18,28),(19,28),(20,28),(21,28),(22,28),(23,28),(18,29),(19,29),(20,29),(21,29),(22,29),(23,29),(18,30),(19,30),(20,30),(21,30),(22,30),(23,30)]:=rfl
theorem res56:Try.f56.results.toList= [.tmp 2]:=rfl
noncomputable def b56:Code:=aU Try.f56
noncomputable def c56_0:Code:=(bE 0 (aU Try.f56)).getD .skip
theorem fl56_0:bE 0 b56=some c56_0:=rfl
theorem rg_rrLogFault_k1 (C:aj) (k_rrIn:K_rrIn C) (p0:GLog) (c:Code) (ho:cD 0 1 b56=some c) (r:Bool) (hF:ck_rrLogFault_k1_v p0=r): @cV TT C.wide (evW TT C.wide n56 b56) n56 0 1 ⟨[(1,.rp [.i .i64 p0.fBase,.i .i64 p0.fBaseTerm,.sl 10 (ah GItem.row p0.fItems)])],[]⟩ ⟨c⟩=some (.normal,⟨[(1,.rp [.i .i64 p0.fBase,.i .i64 p0.fBaseTerm,.sl 10 (ah GItem.row p0.fItems)]),(37,.v (.b r))],[]⟩):=by
 have e:=Option.some.inj (ho.symm.trans (rfl:cD 0 1 b56=some _))
 subst e
 clear ho
 show aH _ _ _ _ _ _=_
 revert hF
 unfold ck_rrLogFault_k1_v
 have g1:=bK (k_rrIn p0.fBase 0 1048576 _ (rrIn_t p0.fBase 0 1048576))
 have g2:rrIn_v p0.fBase 0 1048576=(decide (0≤p0.fBase)&&decide (p0.fBase≤1048576)):=by first|rfl|(simp [rrIn_v];done)|(simp only [rrIn_v];decide)
 refine bF (fun h1=>?_) (fun h1=>?_)
 rotate_left 1
 refine bF (fun h2=>?_) (fun h2=>?_)
 rotate_left 1
 unfold ck_rrLogFault_k1_v_c0
 have g3:=bK (k_rrIn p0.fBaseTerm 0 1048576 _ (rrIn_t p0.fBaseTerm 0 1048576))
 have g4:rrIn_v p0.fBaseTerm 0 1048576=(decide (0≤p0.fBaseTerm)&&decide (p0.fBaseTerm≤1048576)):=by first|rfl|(simp [rrIn_v];done)|(simp only [rrIn_v];decide)
 refine bF (fun h3=>?_) (fun h3=>?_)
 rotate_left 1
 refine bF (fun h4=>?_) (fun h4=>?_)
 rotate_left 1
 refine aX (fun h5=>?_) (fun h5=>?_)
 focus
  refine bF (fun h6=>?_) (fun h6=>?_)
  rotate_left 1
  refine aX (fun h7=>?_) (fun h7=>?_)
  rotate_left 1
 rotate_left 3
 refine aX (fun h6=>?_) (fun h6=>?_)
 rotate_left 1
 refine aX (fun h7=>?_) (fun h7=>?_)
 rotate_left 1
 all_goals (rintro rfl;simp (maxSteps:=4000000) only [*,n56k,n56K,n56mv,↓RP,RB,aQ,aD,be,Mx.bl,opnd,Mx.bI,Nat.reduceBEq,bQ,aN,aA,ay,Mx.put,ofConst,ofCell,Mx.prune,killB,aK,putDst,aw,aE,loadAt,bT,List.map,cz,cB,cu,forceAll,lend,lendA,aS,aB,bR,bare,bW,ax,newB,cw,cy,cx,bh,ty3,ty4,ty48,ty50,↓aa _ _ _ _ 1])
def hd_rrLogFault_0 (p0:GLog) (s:Int):St:=⟨[(1,.rp [.i .i64 p0.fBase,.i .i64 p0.fBaseTerm,.sl 10 (ah GItem.row p0.fItems)]),(3,.v (.i .i64 s))],[]⟩
def ou_rrLogFault_0 (p0:GLog) (r:Unit⊕Unit):Option (Ex×St):=match r with
 | .inl r=>some (.ret,⟨[(2,.v (.i .i64 13))],[]⟩)
 | .inr r=>some (.normal,⟨[],[]⟩)
theorem sl_rrLogFault_0 (C:aj) (k_rrItemFault:K_rrItemFault C) (p0:GLog) (p1:Int) (o:Int⊕(Unit⊕Unit)) (hF:st_rrLogFault_0 p0 p1=some o):evW TT C.wide n56 b56 0 (hd_rrLogFault_0 p0 p1)=Sum.elim (fun s=>evW TT C.wide n56 b56 0 (hd_rrLogFault_0 p0 s)) (fun r=>ou_rrLogFault_0 p0 r) o:=by
 rw [cG TT n56 fl56_0]
 revert hF
 unfold st_rrLogFault_0
 try dsimp only
 refine bF (fun h1=>?_) (fun h1=>?_)
 rotate_left 1
 unfold st_rrLogFault_0_c0
 refine az fun x1 h2=>?_
 have g1:decide (0≤p1)=true:=(cp h2).1
 have g2:(ah GItem.row p0.fItems)[(p1:Int).toNat]? =some [.i .i64 x1.fTerm,.i .i64 x1.fTime,.b x1.fNop,.i .i64 x1.fCall.fClient,.i .i64 x1.fCall.fSeq,.i .i64 x1.fCall.fCommand.fKind,.s x1.fCall.fCommand.fKey,.s x1.fCall.fCommand.fField,.s x1.fCall.fCommand.fText,.i .i64 x1.fCall.fCommand.fN]:=cn _ h2
 have g3:=bK (k_rrItemFault x1 _ (rrItemFault_t x1))
 refine bF (fun h3=>?_) (fun h3=>?_)
 rotate_left 1
 refine aX (fun h4=>?_) (fun h4=>?_)
 rotate_left 1
 refine bF (fun h5=>?_) (fun h5=>?_)
 rotate_left 1
 refine az fun x2 h6=>?_
 have g4:decide (0≤(IntKind.i64.wrap (p1-1)))=true:=(cp h6).1
 have g5:(ah GItem.row p0.fItems)[((IntKind.i64.wrap (p1-1)):Int).toNat]? =some [.i .i64 x2.fTerm,.i .i64 x2.fTime,.b x2.fNop,.i .i64 x2.fCall.fClient,.i .i64 x2.fCall.fSeq,.i .i64 x2.fCall.fCommand.fKind,.s x2.fCall.fCommand.fKey,.s x2.fCall.fCommand.fField,.s x2.fCall.fCommand.fText,.i .i64 x2.fCall.fCommand.fN]:=cn _ h6
 refine aX (fun h7=>?_) (fun h7=>?_)
 rotate_left 1
 refine aX (fun h8=>?_) (fun h8=>?_)
 rotate_left 1
 all_goals (rintro⟨⟩;show cN _ _ _ (aH _ _ _ _ (Code.seq _ _) _)=_;simp (maxSteps:=4000000) only [*,hd_rrLogFault_0,ou_rrLogFault_0,n56a,n56A,n56k,n56K,n56f6,n56f8,n56mv,↓RP,RB,↓ai,aQ,aD,be,bf,aJ,Mx.bl,opnd,Mx.bI,Nat.reduceBEq,bQ,Mx.fit,co,aN,aA,ay,Mx.put,ofConst,ofCell,Mx.prune,killB,aK,putDst,aw,aE,loadAt,bT,List.map,Nat.reduceAdd,cz,cB,cu,forceAll,bj,lend,lendA,aS,aB,bR,bare,bW,bG,cd,aI,aY,cm,bL,cv,ch,bo,aL,bm,Op.operands,ax,av,atO,newB,cw,cy,cx,bne,↓ao,↓am,bh,br,Call.operands,ty3,ty29,ty40,ty48,ty50,↓aa _ _ _ _ 4,↓aq _ _ _ _ 6,↓aa _ _ _ _ 7,↓aq _ _ _ _ 8,↓aa _ _ _ _ 9,↓aa _ _ _ _ 5])
theorem r_rrLogFault (C:aj) (k_rrIn:K_rrIn C) (k_rrItemFault:K_rrItemFault C) (p0:GLog) (r:Int) (hF:rrLogFault p0=some r):cR TT C.wide (evW TT C.wide n56 b56) n56 Try.f56.results.toList (aU Try.f56) [.agg [.v (.i .i64 p0.fBase),.v (.i .i64 p0.fBaseTerm),.v (.sl 10 (ah GItem.row p0.fItems))]] []=some (.v (.i .i64 r),[]):=by
 revert hF
 unfold rrLogFault
 have g1:=rg_rrLogFault_k1 C k_rrIn p0 _ rfl (ck_rrLogFault_k1_v p0) rfl
 refine aX (fun h1=>?_) (fun h1=>?_)
 rotate_left 1
 refine az ?_
 rintro (_|_) h2
 focus
  dsimp only
  have g2:=cH _ _ (sl_rrLogFault_0 C k_rrItemFault p0) h2
  try simp only [hd_rrLogFault_0,ou_rrLogFault_0] at g2
 rotate_left 1
 dsimp only
 have g3:=cH _ _ (sl_rrLogFault_0 C k_rrItemFault p0) h2
 try simp only [hd_rrLogFault_0,ou_rrLogFault_0] at g3
 all_goals (rintro⟨⟩;rw [bk];show cC _ _ _ (aH _ _ _ _ (Code.seq _ _) _)=_;simp (maxSteps:=4000000) only [*,res56,n56a,n56A,n56k,n56K,n56ro,↓RP,RB,enter,be,bf,aJ,Mx.bl,opnd,Mx.bI,Nat.reduceBEq,bQ,Mx.fit,bP,co,toVs,cellsOf,toV,aN,aA,ay,Mx.put,ofConst,ofCell,Mx.prune,killB,List.map,aC,bu,bx,cA,bS,bJ,aM,lowC,ax,av,atO,↓ao,↓am,ty3,ty29,ty50,↓aa _ _ _ _ 0,↓bg _ _ _ _ 1,↓aa _ _ _ _ 2,↓aa _ _ _ _ 3,↓aa _ _ _ _ 10])
def n132K:List (Nat×List Nat):=[(0,[1]),(1,[2])]
def n132:cL where
 keep:=ax n132K
 ro:=fun t=>t==1
 mv:=fun _=>false
 give:=fun _=>false
 free:=fun _=>[]
theorem n132k (i:Nat):n132.keep i=ax n132K i:=rfl
theorem n132ro (t:Nat):n132.ro t=(t==1):=rfl
theorem n132mv (t:Nat):n132.mv t=(false):=rfl
theorem res132:Try.f132.results.toList= [.tmp 2]:=rfl
noncomputable def b132:Code:=aU Try.f132
theorem r_rrsizeOf (C:aj)  (p0:GValue) (r:Int) (hF:rrsizeOf p0=some r):cR TT C.wide (evW TT C.wide n132 b132) n132 Try.f132.results.toList (aU Try.f132) [.agg [.v (.i .i64 p0.fKind),.v (.s p0.fText),.v (.i .i64 p0.fCount),.v (.sl 2 (ah GPair.row p0.fPairs)),.v (.sl 1 (ah bY p0.fItems)),.v (.sl 2 (ah GScore.row p0.fScores))]] []=some (.v (.i .i64 r),[]):=by
 revert hF
 unfold rrsizeOf
 refine someX ?_
 unfold rrsizeOf_v
 all_goals (rintro rfl;rw [bk];show cC _ _ _ (aH _ _ _ _ (Code.seq _ _) _)=_;simp (maxSteps:=4000000) only [*,res132,n132k,n132K,n132ro,n132mv,↓RP,RB,enter,be,bf,aJ,Mx.bl,opnd,Mx.bI,Nat.reduceBEq,bQ,Mx.fit,bP,co,toVs,cellsOf,toV,aN,aA,ay,Mx.put,ofConst,ofCell,Mx.prune,killB,aK,putDst,aw,aE,loadAt,bT,List.map,cz,cB,cu,aC,bu,bx,cA,bS,bJ,aM,lowC,ax,cy,cx,↓ao,↓aa,ty3,ty70,ty71,ty72,ty74])
def n133K:List (Nat×List Nat):=[(0,[2,3]),(1,[2,3,9]),(2,[4]),(3,[4])]
def n133A:List (Nat×List Nat×List Nat):=[(9,[2,3],[2,3])]
def n133:cL where
 keep:=ax n133K
 ro:=fun t=>t==2||t==3
 mv:=fun _=>false
 give:=fun _=>false
 free:=fun _=>[]
 alive:=av n133A
theorem n133a (t:Nat) (x:Bool) (e:Env) (S:bH):cK n133 t x ⟨e,S⟩=atO (av n133A t x) e S:=cF rfl t x e S
theorem n133k (i:Nat):n133.keep i=ax n133K i:=rfl
theorem n133ro (t:Nat):n133.ro t=(t==2||t==3):=rfl
theorem n133mv (t:Nat):n133.mv t=(false):=rfl
theorem res133:Try.f133.results.toList= [.tmp 4]:=rfl
noncomputable def b133:Code:=aU Try.f133
theorem r_rrscoreAhead (C:aj)  (p0:GScore) (p1:GScore) (r:Bool) (hF:rrscoreAhead p0 p1=some r):cR TT C.wide (evW TT C.wide n133 b133) n133 Try.f133.results.toList (aU Try.f133) [.agg [.v (.s p0.fMember),.v (.i .i64 p0.fN)],.agg [.v (.s p1.fMember),.v (.i .i64 p1.fN)]] []=some (.v (.b r),[]):=by
 revert hF
 unfold rrscoreAhead
 refine aX (fun h1=>?_) (fun h1=>?_)
 rotate_left 1
 all_goals (rintro⟨⟩;rw [bk];show cC _ _ _ (aH _ _ _ _ (Code.seq _ _) _)=_;simp (maxSteps:=4000000) only [*,res133,n133a,n133A,n133k,n133K,n133ro,n133mv,↓RP,RB,enter,be,bf,aJ,Mx.bl,opnd,Mx.bI,Nat.reduceBEq,bQ,Mx.fit,bP,co,toVs,cellsOf,toV,aN,aA,ay,Mx.put,ofConst,ofCell,Mx.prune,killB,aK,putDst,aw,aE,loadAt,bT,List.map,cz,cB,aC,bu,bx,cA,bS,bJ,aM,lowC,ax,av,atO,cy,cx,bne,↓ao,↓am,↓aa,ty3,ty4,ty9,ty112])
def n134K:List (Nat×List Nat):=[(0,[0,1]),(1,[0,1,5]),(2,[0,1,5,9]),(3,[0,1,5]),(4,[0,1,5,18]),(5,[4]),(6,[4])]
def n134A:List (Nat×List Nat×List Nat):=[(9,[0,1,5],[]),(18,[5],[0,1,5])]
def n134:cL where
 keep:=ax n134K
 ro:=fun _=>false
 mv:=fun _=>false
 give:=fun _=>false
 free:=fun _=>[]
 alive:=av n134A
theorem n134a (t:Nat) (x:Bool) (e:Env) (S:bH):cK n134 t x ⟨e,S⟩=atO (av n134A t x) e S:=cF rfl t x e S
theorem n134k (i:Nat):n134.keep i=ax n134K i:=rfl
theorem n134mv (t:Nat):n134.mv t=(false):=rfl
theorem res134:Try.f134.results.toList= [.tmp 4]:=rfl
noncomputable def b134:Code:=aU Try.f134
noncomputable def c134_0:Code:=(bE 0 (aU Try.f134)).getD .skip
theorem fl134_0:bE 0 b134=some c134_0:=rfl
def hd_rrmemberAt_0 (p0:List GScore) (p1:ByteArray) (s:Int):St:=⟨[(0,.v (.sl 2 (ah GScore.row p0))),(1,.v (.s p1)),(5,.v (.i .i64 s))],[]⟩
def ou_rrmemberAt_0 (p0:List GScore) (p1:ByteArray) (r:Int⊕Unit):Option (Ex×St):=match r with
 | .inl r=>some (.ret,⟨[(4,.v (.i .i64 r))],[]⟩)
 | .inr r=>some (.normal,⟨[],[]⟩)
theorem sl_rrmemberAt_0 (C:aj)  (p0:List GScore) (p1:ByteArray) (p2:Int) (o:Int⊕(Int⊕Unit)) (hF:st_rrmemberAt_0 p0 p1 p2=some o):evW TT C.wide n134 b134 0 (hd_rrmemberAt_0 p0 p1 p2)=Sum.elim (fun s=>evW TT C.wide n134 b134 0 (hd_rrmemberAt_0 p0 p1 s)) (fun r=>ou_rrmemberAt_0 p0 p1 r) o:=by
 rw [cG TT n134 fl134_0]
 revert hF
 unfold st_rrmemberAt_0
 try dsimp only
 refine bF (fun h1=>?_) (fun h1=>?_)
 rotate_left 1
 refine az fun x1 h2=>?_
 have g1:decide (0≤p2)=true:=(cp h2).1
 have g2:(ah GScore.row p0)[(p2:Int).toNat]? =some [.s x1.fMember,.i .i64 x1.fN]:=cn _ h2
 refine aX (fun h3=>?_) (fun h3=>?_)
 rotate_left 1
 all_goals (rintro⟨⟩;show cN _ _ _ (aH _ _ _ _ (Code.seq _ _) _)=_;simp (maxSteps:=4000000) only [*,hd_rrmemberAt_0,ou_rrmemberAt_0,n134a,n134A,n134k,n134K,n134mv,↓RP,RB,↓ai,be,bf,aJ,Mx.bl,opnd,Mx.bI,Nat.reduceBEq,bQ,Mx.fit,co,aN,aA,ay,Mx.put,ofConst,ofCell,Mx.prune,killB,aK,putDst,aw,aE,loadAt,bT,List.map,cz,cB,cu,bj,ax,av,atO,cy,cx,↓ao,↓am,↓aa,ty3,ty9,ty72,ty112])
theorem r_rrmemberAt (C:aj)  (p0:List GScore) (p1:ByteArray) (r:Int) (hF:rrmemberAt p0 p1=some r):cR TT C.wide (evW TT C.wide n134 b134) n134 Try.f134.results.toList (aU Try.f134) [.v (.sl 2 (ah GScore.row p0)),.v (.s p1)] []=some (.v (.i .i64 r),[]):=by
 revert hF
 unfold rrmemberAt
 refine az ?_
 rintro (x1|_) h1
 focus
  dsimp only
  have g1:=cH _ _ (sl_rrmemberAt_0 C p0 p1) h1
  try simp only [hd_rrmemberAt_0,ou_rrmemberAt_0] at g1
 rotate_left 1
 dsimp only
 have g2:=cH _ _ (sl_rrmemberAt_0 C p0 p1) h1
 try simp only [hd_rrmemberAt_0,ou_rrmemberAt_0] at g2
 all_goals (rintro⟨⟩;rw [bk];show cC _ _ _ (aH _ _ _ _ (Code.seq _ _) _)=_;simp (maxSteps:=4000000) only [*,res134,n134k,n134K,↓RP,RB,enter,be,bf,aJ,Mx.bl,opnd,Mx.bI,Nat.reduceBEq,bQ,Mx.fit,co,aN,aA,Mx.put,ofConst,ofCell,Mx.prune,killB,List.map,aC,bu,bx,cA,bS,bJ,aM,lowC,Int.reduceNeg,ax,↓ao,↓aa,ty3])
def n94K:List (Nat×List Nat):=[(0,[1]),(1,[1,14]),(2,[2]),(3,[1,3]),(4,[1,72]),(5,[2]),(6,[1,87]),(7,[2]),(8,[1,4]),(9,[1,4,92]),(10,[1,4]),(11,[1,4,101]),(12,[2]),(13,[1,5]),(14,[1,5,106]),(15,[1,5]),(16,[1,5,126]),(17,[2]),(18,[1,6]),(19,[1,6,131]),(20,[1,6]),(21,[1,6,141]),(22,[2]),(23,[1,145]),(24,[2]),(25,[1,7]),(26,[1,7,150]),(27,[1,7]),(28,[1,7,160]),(29,[2]),(30,[1,8]),(31,[1,8,165]),(32,[1,8]),(33,[1,8,181]),(34,[2]),(35,[1,9]),(36,[1,9,191]),(37,[1,9]),(38,[1,9,205]),(39,[2]),(40,[1,10]),(41,[1,10,210]),(42,[1,10]),(43,[1,10,239]),(44,[2]),(45,[2])]
def n94A:List (Nat×List Nat×List Nat):=[(14,[],[1]),(72,[],[1]),(87,[],[1]),(92,[1,4],[1]),(101,[],[1,4]),(106,[1,5],[1]),(126,[],[1,5]),(131,[1,6],[1]),(141,[],[1,6]),(145,[],[1]),(150,[1,7],[1]),(160,[],[1,7]),(165,[1,8],[1]),(181,[],[1,8]),(191,[1,9],[1]),(205,[],[1,9]),(210,[1,10],[]),(239,[],[1,10])]
def n94:cL where
 keep:=ax n94K
 ro:=fun t=>t==1
 mv:=fun _=>false
 give:=fun _=>false
 free:=fun i=>match i with|33=>[(0,2),(1,2),(0,3),(1,3),(0,7),(1,7),(2,7),(3,7),(4,7),(5,7),(6,7),(0,8),(1,8),(2,8),(3,8),(4,8),(5,8),(6,8),(0,9),(1,9),(2,9),(3,9),(4,9),(5,9),(6,9),(7,9),(8,9),(0,10),(1,10),(2,10),(3,10),(4,10),(5,10),(6,10),(0,11),(1,11),(2,11),(3,11),(4,11),(5,11),(6,11),(0,12),(1,12),(2,12),(3,12),(4,12),(5,12),(6,12)]|38=>[(0,2),(1,2),(0,3),(1,3),(0,6),(1,6),(2,6),(3,6),(4,6),(5,6),(0,7),(1,7),(2,7),(3,7),(4,7),(5,7),(0,8),(1,8),(2,8),(3,8),(4,8),(5,8),(6,8),(7,8),(0,9),(1,9),(2,9),(3,9),(4,9),(5,9),(0,10),(1,10),(2,10),(3,10),(4,10),(5,10)]|43=>[(0,2),(1,2),(0,3),(1,3),(0,6),(1,6),(2,6),(3,6),(4,6),(5,6),(0,7),(1,7),(2,7),(3,7),(4,7),(5,7),(0,8),(1,8),(2,8),(3,8),(4,8),(5,8),(6,8),(7,8),(0,9),(1,9),(2,9),(3,9),(4,9),(5,9),(0,10),(1,10),(2,10),(3,10),(4,10),(5,10),(14,16),(15,16),(14,18),(15,18),(16,18),(17,18),(14,19),(15,19),(16,19),(17,19),(14,20),(15,20),(16,20),(17,20),(18,20),(19,20),(14,21),(15,21),(16,21),(17,21),(14,22),(15,22),(16,22),(17,22),(14,23),(15,23),(16,23),(17,23)]|_=>[]
 alive:=av n94A
theorem n94a (t:Nat) (x:Bool) (e:Env) (S:bH):cK n94 t x ⟨e,S⟩=atO (av n94A t x) e S:=cF rfl t x e S
theorem n94k (i:Nat):n94.keep i=ax n94K i:=rfl
theorem n94ro (t:Nat):n94.ro t=(t==1):=rfl
theorem n94mv (t:Nat):n94.mv t=(false):=rfl
theorem n94f33:n94.free 33= [(0,2),(1,2),(0,3),(1,3),(0,7),(1,7),(2,7),(3,7),(4,7),(5,7),(6,7),(0,8),(1,8),(2,8),(3,8),(4,8),(5,8),(6,8),(0,9),(1,9),(2,9),(3,9),(4,9),(5,9),(6,9),(7,9),(8,9),(0,10),(1,10),(2,10),(3,10),(4,10),(5,10),(6,10),(0,11),(1,11),(2,11),(3,11),(4,11),(5,11),(6,11),(0,12),(1,12),(2,12),(3,12),(4,12),(5,12),(6,12)]:=rfl
theorem n94f38:n94.free 38= [(0,2),(1,2),(0,3),(1,3),(0,6),(1,6),(2,6),(3,6),(4,6),(5,6),(0,7),(1,7),(2,7),(3,7),(4,7),(5,7),(0,8),(1,8),(2,8),(3,8),(4,8),(5,8),(6,8),(7,8),(0,9),(1,9),(2,9),(3,9),(4,9),(5,9),(0,10),(1,10),(2,10),(3,10),(4,10),(5,10)]:=rfl
theorem n94f43:n94.free 43= [(0,2),(1,2),(0,3),(1,3),(0,6),(1,6),(2,6),(3,6),(4,6),(5,6),(0,7),(1,7),(2,7),(3,7),(4,7),(5,7),(0,8),(1,8),(2,8),(3,8),(4,8),(5,8),(6,8),(7,8),(0,9),(1,9),(2,9),(3,9),(4,9),(5,9),(0,10),(1,10),(2,10),(3,10),(4,10),(5,10),(14,16),(15,16),(14,18),(15,18),(16,18),(17,18),(14,19),(15,19),(16,19),(17,19),(14,20),(15,20),(16,20),(17,20),(18,20),(19,20),(14,21),(15,21),(16,21),(17,21),(14,22),(15,22),(16,22),(17,22),(14,23),(15,23),(16,23),(17,23)]:=rfl
theorem res94:Try.f94.results.toList= [.tmp 2]:=rfl
noncomputable def b94:Code:=aU Try.f94
noncomputable def c94_0:Code:=(bE 0 (aU Try.f94)).getD .skip
theorem fl94_0:bE 0 b94=some c94_0:=rfl
noncomputable def c94_2:Code:=(bE 2 (aU Try.f94)).getD .skip
theorem fl94_2:bE 2 b94=some c94_2:=rfl
noncomputable def c94_4:Code:=(bE 4 (aU Try.f94)).getD .skip
theorem fl94_4:bE 4 b94=some c94_4:=rfl
noncomputable def c94_6:Code:=(bE 6 (aU Try.f94)).getD .skip
theorem fl94_6:bE 6 b94=some c94_6:=rfl
noncomputable def c94_8:Code:=(bE 8 (aU Try.f94)).getD .skip
theorem fl94_8:bE 8 b94=some c94_8:=rfl
noncomputable def c94_10:Code:=(bE 10 (aU Try.f94)).getD .skip
theorem fl94_10:bE 10 b94=some c94_10:=rfl
noncomputable def c94_12:Code:=(bE 12 (aU Try.f94)).getD .skip
theorem fl94_12:bE 12 b94=some c94_12:=rfl
theorem rg_rrValueFault_k4 (C:aj)  (p0:GValue) (c:Code) (ho:cD 0 4 b94=some c) (r:Bool) (hF:ck_rrValueFault_k4_v p0=r): @cV TT C.wide (evW TT C.wide n94 b94) n94 0 4 ⟨[(1,.rp [.i .i64 p0.fKind,.s p0.fText,.i .i64 p0.fCount,.sl 2 (ah GPair.row p0.fPairs),.sl 1 (ah bY p0.fItems),.sl 2 (ah GScore.row p0.fScores)]),(3,.v (.b true))],[]⟩ ⟨c⟩=some (.normal,⟨[(1,.rp [.i .i64 p0.fKind,.s p0.fText,.i .i64 p0.fCount,.sl 2 (ah GPair.row p0.fPairs),.sl 1 (ah bY p0.fItems),.sl 2 (ah GScore.row p0.fScores)]),(72,.v (.b r))],[]⟩):=by
 have e:=Option.some.inj (ho.symm.trans (rfl:cD 0 4 b94=some _))
 subst e
 clear ho
 show aH _ _ _ _ _ _=_
 revert hF
 unfold ck_rrValueFault_k4_v
 refine aX (fun h1=>?_) (fun h1=>?_)
 focus
  refine aX (fun h2=>?_) (fun h2=>?_)
  focus
   refine aX (fun h3=>?_) (fun h3=>?_)
   focus
    refine aX (fun h4=>?_) (fun h4=>?_)
    rotate_left 1
   rotate_left 2
   refine aX (fun h4=>?_) (fun h4=>?_)
   rotate_left 1
   refine aX (fun h5=>?_) (fun h5=>?_)
   rotate_left 1
  rotate_left 5
  unfold ck_rrValueFault_k4_v_c0
  refine bF (fun h3=>?_) (fun h3=>?_)
  rotate_left 1
  refine aX (fun h4=>?_) (fun h4=>?_)
  focus
   refine aX (fun h5=>?_) (fun h5=>?_)
   rotate_left 1
  rotate_left 2
  refine aX (fun h5=>?_) (fun h5=>?_)
  rotate_left 1
  refine aX (fun h6=>?_) (fun h6=>?_)
  rotate_left 1
 rotate_left 11
 unfold ck_rrValueFault_k4_v_c2
 refine bF (fun h2=>?_) (fun h2=>?_)
 rotate_left 1
 refine aX (fun h3=>?_) (fun h3=>?_)
 focus
  refine aX (fun h4=>?_) (fun h4=>?_)
  focus
   refine aX (fun h5=>?_) (fun h5=>?_)
   rotate_left 1
  rotate_left 2
  refine aX (fun h5=>?_) (fun h5=>?_)
  rotate_left 1
  refine aX (fun h6=>?_) (fun h6=>?_)
  rotate_left 1
 rotate_left 5
 unfold ck_rrValueFault_k4_v_c1
 refine bF (fun h4=>?_) (fun h4=>?_)
 rotate_left 1
 refine aX (fun h5=>?_) (fun h5=>?_)
 focus
  refine aX (fun h6=>?_) (fun h6=>?_)
  rotate_left 1
 rotate_left 2
 refine aX (fun h6=>?_) (fun h6=>?_)
 rotate_left 1
 refine aX (fun h7=>?_) (fun h7=>?_)
 rotate_left 1
 all_goals (rintro rfl;simp (maxSteps:=4000000) only [*,n94k,n94K,n94mv,↓RP,RB,aQ,aD,be,Mx.bl,opnd,Mx.bI,Nat.reduceBEq,bQ,aN,aA,ay,Mx.put,ofConst,ofCell,Mx.prune,killB,aK,putDst,aw,aE,loadAt,bT,List.map,cz,cB,cu,ax,cy,cx,bne,bh,ty3,ty9,ty70,ty72,ty74,↓aa _ _ _ _ 4])
theorem rg_rrValueFault_k6 (C:aj) (k_rrsizeOf:K_rrsizeOf C) (k_rrIn:K_rrIn C) (k_rrtextMay:K_rrtextMay C) (p0:GValue) (c:Code) (ho:cD 0 6 b94=some c) (r:Bool) (hF:ck_rrValueFault_k6_v p0=r): @cV TT C.wide (evW TT C.wide n94 b94) n94 0 6 ⟨[(1,.rp [.i .i64 p0.fKind,.s p0.fText,.i .i64 p0.fCount,.sl 2 (ah GPair.row p0.fPairs),.sl 1 (ah bY p0.fItems),.sl 2 (ah GScore.row p0.fScores)])],[]⟩ ⟨c⟩=some (.normal,⟨[(1,.rp [.i .i64 p0.fKind,.s p0.fText,.i .i64 p0.fCount,.sl 2 (ah GPair.row p0.fPairs),.sl 1 (ah bY p0.fItems),.sl 2 (ah GScore.row p0.fScores)]),(87,.v (.b r))],[]⟩):=by
 have e:=Option.some.inj (ho.symm.trans (rfl:cD 0 6 b94=some _))
 subst e
 clear ho
 show aH _ _ _ _ _ _=_
 revert hF
 unfold ck_rrValueFault_k6_v
 refine bF (fun h1=>?_) (fun h1=>?_)
 focus
  have g1:=bK (k_rrtextMay p0.fText _ (rrtextMay_t p0.fText))
 rotate_left 1
 have g2:=bK (k_rrsizeOf p0 _ (rrsizeOf_t p0))
 have g3:=bK (k_rrIn (rrsizeOf_v p0) 1 20 _ (rrIn_t (rrsizeOf_v p0) 1 20))
 have g4:rrIn_v (rrsizeOf_v p0) 1 20=(decide (1≤(rrsizeOf_v p0))&&decide ((rrsizeOf_v p0)≤20)):=by first|rfl|(simp [rrIn_v];done)|(simp only [rrIn_v];decide)
 refine bF (fun h2=>?_) (fun h2=>?_)
 rotate_left 1
 refine aX (fun h3=>?_) (fun h3=>?_)
 focus
  have g1:=bK (k_rrtextMay p0.fText _ (rrtextMay_t p0.fText))
 rotate_left 1
 all_goals (rintro rfl;simp (maxSteps:=4000000) only [*,n94k,n94K,n94mv,↓RP,RB,aQ,aD,be,Mx.bl,opnd,Mx.bI,Nat.reduceBEq,bQ,aN,aA,ay,Mx.put,ofConst,ofCell,Mx.prune,killB,aK,putDst,aw,aE,loadAt,bT,List.map,Nat.reduceAdd,cz,cB,forceAll,lend,lendA,aS,aB,bR,bare,bW,ax,newB,cw,cy,cx,bh,ty3,ty9,ty74,↓aa _ _ _ _ 6])
def hd_rrValueFault_0 (p0:GValue) (s:Int):St:=⟨[(1,.rp [.i .i64 p0.fKind,.s p0.fText,.i .i64 p0.fCount,.sl 2 (ah GPair.row p0.fPairs),.sl 1 (ah bY p0.fItems),.sl 2 (ah GScore.row p0.fScores)]),(4,.v (.i .i64 s))],[]⟩
def ou_rrValueFault_0 (p0:GValue) (r:Unit⊕Unit):Option (Ex×St):=match r with
 | .inl r=>some (.ret,⟨[(2,.v (.i .i64 1))],[]⟩)
 | .inr r=>some (.normal,⟨[(1,.rp [.i .i64 p0.fKind,.s p0.fText,.i .i64 p0.fCount,.sl 2 (ah GPair.row p0.fPairs),.sl 1 (ah bY p0.fItems),.sl 2 (ah GScore.row p0.fScores)])],[]⟩)
theorem sl_rrValueFault_0 (C:aj) (k_rrtextMay:K_rrtextMay C) (p0:GValue) (p1:Int) (o:Int⊕(Unit⊕Unit)) (hF:st_rrValueFault_0 p0 p1=some o):evW TT C.wide n94 b94 0 (hd_rrValueFault_0 p0 p1)=Sum.elim (fun s=>evW TT C.wide n94 b94 0 (hd_rrValueFault_0 p0 s)) (fun r=>ou_rrValueFault_0 p0 r) o:=by
 rw [cG TT n94 fl94_0]
 revert hF
 unfold st_rrValueFault_0
 try dsimp only
 refine bF (fun h1=>?_) (fun h1=>?_)
 rotate_left 1
 refine az fun x1 h2=>?_
 have g1:decide (0≤p1)=true:=(cp h2).1
 have g2:(ah bY p0.fItems)[(p1:Int).toNat]? =some [.s x1]:=cn _ h2
 have g3:=bK (k_rrtextMay x1 _ (rrtextMay_t x1))
 refine aX (fun h3=>?_) (fun h3=>?_)
 rotate_left 1
 all_goals (rintro⟨⟩;show cN _ _ _ (aH _ _ _ _ (Code.seq _ _) _)=_;simp (maxSteps:=4000000) only [*,hd_rrValueFault_0,ou_rrValueFault_0,n94a,n94A,n94k,n94K,n94mv,↓RP,RB,↓ai,be,bf,aJ,Mx.bl,opnd,Mx.bI,Nat.reduceBEq,bQ,Mx.fit,co,aN,aA,ay,Mx.put,ofConst,ofCell,Mx.prune,killB,aK,putDst,aw,aE,loadAt,bT,List.map,cz,cB,cu,forceAll,bj,lend,lendA,aS,aB,bR,bare,bW,ax,av,atO,newB,cw,cy,cx,↓ao,↓am,ty3,ty9,ty29,ty71,ty74,↓aa _ _ _ _ 9,↓aa _ _ _ _ 11,↓aa _ _ _ _ 12,↓aa _ _ _ _ 10])
def hd_rrValueFault_2 (p0:GValue) (s:Int):St:=⟨[(1,.rp [.i .i64 p0.fKind,.s p0.fText,.i .i64 p0.fCount,.sl 2 (ah GPair.row p0.fPairs),.sl 1 (ah bY p0.fItems),.sl 2 (ah GScore.row p0.fScores)]),(5,.v (.i .i64 s))],[]⟩
def ou_rrValueFault_2 (p0:GValue) (r:Unit⊕Unit):Option (Ex×St):=match r with
 | .inl r=>some (.ret,⟨[(2,.v (.i .i64 1))],[]⟩)
 | .inr r=>some (.normal,⟨[(1,.rp [.i .i64 p0.fKind,.s p0.fText,.i .i64 p0.fCount,.sl 2 (ah GPair.row p0.fPairs),.sl 1 (ah bY p0.fItems),.sl 2 (ah GScore.row p0.fScores)])],[]⟩)
theorem sl_rrValueFault_2 (C:aj) (k_rrfieldMay:K_rrfieldMay C) (k_rrtextMay:K_rrtextMay C) (p0:GValue) (p1:Int) (o:Int⊕(Unit⊕Unit)) (hF:st_rrValueFault_2 p0 p1=some o):evW TT C.wide n94 b94 2 (hd_rrValueFault_2 p0 p1)=Sum.elim (fun s=>evW TT C.wide n94 b94 2 (hd_rrValueFault_2 p0 s)) (fun r=>ou_rrValueFault_2 p0 r) o:=by
 rw [cG TT n94 fl94_2]
 revert hF
 unfold st_rrValueFault_2
 try dsimp only
 refine bF (fun h1=>?_) (fun h1=>?_)
 rotate_left 1
 refine az fun x1 h2=>?_
 have g1:decide (0≤p1)=true:=(cp h2).1
 have g2:(ah GPair.row p0.fPairs)[(p1:Int).toNat]? =some [.s x1.fField,.s x1.fText]:=cn _ h2
 have g3:=bK (k_rrfieldMay x1.fField _ (rrfieldMay_t x1.fField))
 refine bF (fun h3=>?_) (fun h3=>?_)
 rotate_left 1
 have g4:=bK (k_rrtextMay x1.fText _ (rrtextMay_t x1.fText))
 refine aX (fun h4=>?_) (fun h4=>?_)
 rotate_left 1
 all_goals (rintro⟨⟩;show cN _ _ _ (aH _ _ _ _ (Code.seq _ _) _)=_;simp (maxSteps:=4000000) only [*,hd_rrValueFault_2,ou_rrValueFault_2,n94a,n94A,n94k,n94K,n94mv,↓RP,RB,↓ai,aQ,aD,be,bf,aJ,Mx.bl,opnd,Mx.bI,Nat.reduceBEq,bQ,Mx.fit,co,aN,aA,ay,Mx.put,ofConst,ofCell,Mx.prune,killB,aK,putDst,aw,aE,loadAt,bT,List.map,cz,cB,cu,forceAll,bj,lend,lendA,aS,aB,bR,bare,bW,ax,av,atO,newB,cw,cy,cx,↓ao,↓am,bh,ty3,ty9,ty29,ty70,ty74,ty110,↓aa _ _ _ _ 14,↓aa _ _ _ _ 16,↓aa _ _ _ _ 17,↓aa _ _ _ _ 15])
def hd_rrValueFault_4 (p0:GValue) (s:Int):St:=⟨[(1,.rp [.i .i64 p0.fKind,.s p0.fText,.i .i64 p0.fCount,.sl 2 (ah GPair.row p0.fPairs),.sl 1 (ah bY p0.fItems),.sl 2 (ah GScore.row p0.fScores)]),(6,.v (.i .i64 s))],[]⟩
def ou_rrValueFault_4 (p0:GValue) (r:Unit⊕Unit):Option (Ex×St):=match r with
 | .inl r=>some (.ret,⟨[(2,.v (.i .i64 1))],[]⟩)
 | .inr r=>some (.normal,⟨[(1,.rp [.i .i64 p0.fKind,.s p0.fText,.i .i64 p0.fCount,.sl 2 (ah GPair.row p0.fPairs),.sl 1 (ah bY p0.fItems),.sl 2 (ah GScore.row p0.fScores)])],[]⟩)
theorem sl_rrValueFault_4 (C:aj) (k_rrtextMay:K_rrtextMay C) (p0:GValue) (p1:Int) (o:Int⊕(Unit⊕Unit)) (hF:st_rrValueFault_4 p0 p1=some o):evW TT C.wide n94 b94 4 (hd_rrValueFault_4 p0 p1)=Sum.elim (fun s=>evW TT C.wide n94 b94 4 (hd_rrValueFault_4 p0 s)) (fun r=>ou_rrValueFault_4 p0 r) o:=by
 rw [cG TT n94 fl94_4]
 revert hF
 unfold st_rrValueFault_4
 try dsimp only
 refine bF (fun h1=>?_) (fun h1=>?_)
 rotate_left 1
 refine az fun x1 h2=>?_
 have g1:decide (0≤p1)=true:=(cp h2).1
 have g2:(ah GScore.row p0.fScores)[(p1:Int).toNat]? =some [.s x1.fMember,.i .i64 x1.fN]:=cn _ h2
 have g3:=bK (k_rrtextMay x1.fMember _ (rrtextMay_t x1.fMember))
 refine aX (fun h3=>?_) (fun h3=>?_)
 rotate_left 1
 all_goals (rintro⟨⟩;show cN _ _ _ (aH _ _ _ _ (Code.seq _ _) _)=_;simp (maxSteps:=4000000) only [*,hd_rrValueFault_4,ou_rrValueFault_4,n94a,n94A,n94k,n94K,n94mv,↓RP,RB,↓ai,be,bf,aJ,Mx.bl,opnd,Mx.bI,Nat.reduceBEq,bQ,Mx.fit,co,aN,aA,ay,Mx.put,ofConst,ofCell,Mx.prune,killB,aK,putDst,aw,aE,loadAt,bT,List.map,cz,cB,cu,forceAll,bj,lend,lendA,aS,aB,bR,bare,bW,ax,av,atO,newB,cw,cy,cx,↓ao,↓am,ty3,ty9,ty29,ty72,ty74,ty112,↓aa _ _ _ _ 19,↓aa _ _ _ _ 21,↓aa _ _ _ _ 22,↓aa _ _ _ _ 20])
def hd_rrValueFault_6 (p0:GValue) (s:Int):St:=⟨[(1,.rp [.i .i64 p0.fKind,.s p0.fText,.i .i64 p0.fCount,.sl 2 (ah GPair.row p0.fPairs),.sl 1 (ah bY p0.fItems),.sl 2 (ah GScore.row p0.fScores)]),(7,.v (.i .i64 s))],[]⟩
def ou_rrValueFault_6 (p0:GValue) (r:Unit⊕Unit):Option (Ex×St):=match r with
 | .inl r=>some (.ret,⟨[(2,.v (.i .i64 2))],[]⟩)
 | .inr r=>some (.normal,⟨[(1,.rp [.i .i64 p0.fKind,.s p0.fText,.i .i64 p0.fCount,.sl 2 (ah GPair.row p0.fPairs),.sl 1 (ah bY p0.fItems),.sl 2 (ah GScore.row p0.fScores)])],[]⟩)
theorem sl_rrValueFault_6 (C:aj) (k_rrcountMay:K_rrcountMay C) (p0:GValue) (p1:Int) (o:Int⊕(Unit⊕Unit)) (hF:st_rrValueFault_6 p0 p1=some o):evW TT C.wide n94 b94 6 (hd_rrValueFault_6 p0 p1)=Sum.elim (fun s=>evW TT C.wide n94 b94 6 (hd_rrValueFault_6 p0 s)) (fun r=>ou_rrValueFault_6 p0 r) o:=by
 rw [cG TT n94 fl94_6]
 revert hF
 unfold st_rrValueFault_6
 try dsimp only
 refine bF (fun h1=>?_) (fun h1=>?_)
 rotate_left 1
 refine az fun x1 h2=>?_
 have g1:decide (0≤p1)=true:=(cp h2).1
 have g2:(ah GScore.row p0.fScores)[(p1:Int).toNat]? =some [.s x1.fMember,.i .i64 x1.fN]:=cn _ h2
 have g3:=bK (k_rrcountMay x1.fN _ (rrcountMay_t x1.fN))
 refine aX (fun h3=>?_) (fun h3=>?_)
 rotate_left 1
 all_goals (rintro⟨⟩;show cN _ _ _ (aH _ _ _ _ (Code.seq _ _) _)=_;simp (maxSteps:=4000000) only [*,hd_rrValueFault_6,ou_rrValueFault_6,n94a,n94A,n94k,n94K,n94mv,↓RP,RB,↓ai,be,bf,aJ,Mx.bl,opnd,Mx.bI,Nat.reduceBEq,bQ,Mx.fit,co,aN,aA,ay,Mx.put,ofConst,ofCell,Mx.prune,killB,aK,putDst,aw,aE,loadAt,bT,List.map,cz,cB,cu,forceAll,bj,lend,lendA,aS,aB,bR,bare,bW,ax,av,atO,newB,cw,cy,cx,↓ao,↓am,ty3,ty29,ty72,ty74,ty112,↓aa _ _ _ _ 26,↓aa _ _ _ _ 28,↓aa _ _ _ _ 29,↓aa _ _ _ _ 27])
def hd_rrValueFault_8 (p0:GValue) (s:Int):St:=⟨[(1,.rp [.i .i64 p0.fKind,.s p0.fText,.i .i64 p0.fCount,.sl 2 (ah GPair.row p0.fPairs),.sl 1 (ah bY p0.fItems),.sl 2 (ah GScore.row p0.fScores)]),(8,.v (.i .i64 s))],[]⟩
def ou_rrValueFault_8 (p0:GValue) (r:Unit⊕Unit):Option (Ex×St):=match r with
 | .inl r=>some (.ret,⟨[(2,.v (.i .i64 10))],[]⟩)
 | .inr r=>some (.normal,⟨[(1,.rp [.i .i64 p0.fKind,.s p0.fText,.i .i64 p0.fCount,.sl 2 (ah GPair.row p0.fPairs),.sl 1 (ah bY p0.fItems),.sl 2 (ah GScore.row p0.fScores)])],[]⟩)
theorem sl_rrValueFault_8 (C:aj)  (p0:GValue) (p1:Int) (o:Int⊕(Unit⊕Unit)) (hF:st_rrValueFault_8 p0 p1=some o):evW TT C.wide n94 b94 8 (hd_rrValueFault_8 p0 p1)=Sum.elim (fun s=>evW TT C.wide n94 b94 8 (hd_rrValueFault_8 p0 s)) (fun r=>ou_rrValueFault_8 p0 r) o:=by
 rw [cG TT n94 fl94_8]
 revert hF
 unfold st_rrValueFault_8
 try dsimp only
 refine bF (fun h1=>?_) (fun h1=>?_)
 rotate_left 1
 refine az fun x1 h2=>?_
 have g1:decide (0≤(IntKind.i64.wrap (p1-1)))=true:=(cp h2).1
 have g2:(ah GPair.row p0.fPairs)[((IntKind.i64.wrap (p1-1)):Int).toNat]? =some [.s x1.fField,.s x1.fText]:=cn _ h2
 refine az fun x2 h3=>?_
 have g3:decide (0≤p1)=true:=(cp h3).1
 have g4:(ah GPair.row p0.fPairs)[(p1:Int).toNat]? =some [.s x2.fField,.s x2.fText]:=cn _ h3
 refine aX (fun h4=>?_) (fun h4=>?_)
 rotate_left 1
 all_goals (rintro⟨⟩;show cN _ _ _ (aH _ _ _ _ (Code.seq _ _) _)=_;simp (maxSteps:=4000000) only [*,hd_rrValueFault_8,ou_rrValueFault_8,n94a,n94A,n94k,n94K,n94f33,n94mv,↓RP,RB,↓ai,be,bf,aJ,Mx.bl,opnd,Mx.bI,Nat.reduceBEq,bQ,Mx.fit,co,aN,aA,ay,Mx.put,ofConst,ofCell,Mx.prune,killB,aK,putDst,aw,aE,loadAt,bT,List.map,cz,cB,cu,bj,bG,cd,aI,aY,cm,bL,cv,ch,bo,aL,bm,Op.operands,ax,av,atO,cy,cx,↓ao,↓am,br,ty3,ty9,ty29,ty70,ty74,ty110,↓aa _ _ _ _ 31,↓aq _ _ _ _ 33,↓aa _ _ _ _ 34,↓aa _ _ _ _ 32])
def hd_rrValueFault_10 (p0:GValue) (s:Int):St:=⟨[(1,.rp [.i .i64 p0.fKind,.s p0.fText,.i .i64 p0.fCount,.sl 2 (ah GPair.row p0.fPairs),.sl 1 (ah bY p0.fItems),.sl 2 (ah GScore.row p0.fScores)]),(9,.v (.i .i64 s))],[]⟩
def ou_rrValueFault_10 (p0:GValue) (r:Unit⊕Unit):Option (Ex×St):=match r with
 | .inl r=>some (.ret,⟨[(2,.v (.i .i64 10))],[]⟩)
 | .inr r=>some (.normal,⟨[(1,.rp [.i .i64 p0.fKind,.s p0.fText,.i .i64 p0.fCount,.sl 2 (ah GPair.row p0.fPairs),.sl 1 (ah bY p0.fItems),.sl 2 (ah GScore.row p0.fScores)])],[]⟩)
theorem sl_rrValueFault_10 (C:aj)  (p0:GValue) (p1:Int) (o:Int⊕(Unit⊕Unit)) (hF:st_rrValueFault_10 p0 p1=some o):evW TT C.wide n94 b94 10 (hd_rrValueFault_10 p0 p1)=Sum.elim (fun s=>evW TT C.wide n94 b94 10 (hd_rrValueFault_10 p0 s)) (fun r=>ou_rrValueFault_10 p0 r) o:=by
 rw [cG TT n94 fl94_10]
 revert hF
 unfold st_rrValueFault_10
 try dsimp only
 refine bF (fun h1=>?_) (fun h1=>?_)
 rotate_left 1
 refine bF (fun h2=>?_) (fun h2=>?_)
 rotate_left 1
 refine az fun x1 h3=>?_
 have g1:decide (0≤(IntKind.i64.wrap (p1-1)))=true:=(cp h3).1
 have g2:(ah bY p0.fItems)[((IntKind.i64.wrap (p1-1)):Int).toNat]? =some [.s x1]:=cn _ h3
 refine az fun x2 h4=>?_
 have g3:decide (0≤p1)=true:=(cp h4).1
 have g4:(ah bY p0.fItems)[(p1:Int).toNat]? =some [.s x2]:=cn _ h4
 refine aX (fun h5=>?_) (fun h5=>?_)
 rotate_left 1
 all_goals (rintro⟨⟩;show cN _ _ _ (aH _ _ _ _ (Code.seq _ _) _)=_;simp (maxSteps:=4000000) only [*,hd_rrValueFault_10,ou_rrValueFault_10,n94a,n94A,n94k,n94K,n94f38,n94mv,↓RP,RB,↓ai,aQ,aD,be,bf,aJ,Mx.bl,opnd,Mx.bI,Nat.reduceBEq,bQ,Mx.fit,co,aN,aA,ay,Mx.put,ofConst,ofCell,Mx.prune,killB,aK,putDst,aw,aE,loadAt,bT,List.map,cz,cB,cu,bj,bG,cd,aI,aY,cm,bL,cv,ch,bo,aL,bm,Op.operands,ax,av,atO,cy,cx,↓ao,↓am,bh,br,ty3,ty9,ty29,ty71,ty74,↓aa _ _ _ _ 36,↓aq _ _ _ _ 38,↓aa _ _ _ _ 39,↓aa _ _ _ _ 37])
def hd_rrValueFault_12 (p0:GValue) (s:Int):St:=⟨[(1,.rp [.i .i64 p0.fKind,.s p0.fText,.i .i64 p0.fCount,.sl 2 (ah GPair.row p0.fPairs),.sl 1 (ah bY p0.fItems),.sl 2 (ah GScore.row p0.fScores)]),(10,.v (.i .i64 s))],[]⟩
def ou_rrValueFault_12 (p0:GValue) (r:Unit⊕Unit):Option (Ex×St):=match r with
 | .inl r=>some (.ret,⟨[(2,.v (.i .i64 10))],[]⟩)
 | .inr r=>some (.normal,⟨[],[]⟩)
theorem sl_rrValueFault_12 (C:aj) (k_rrscoreAhead:K_rrscoreAhead C) (k_rrmemberAt:K_rrmemberAt C) (p0:GValue) (p1:Int) (o:Int⊕(Unit⊕Unit)) (hF:st_rrValueFault_12 p0 p1=some o):evW TT C.wide n94 b94 12 (hd_rrValueFault_12 p0 p1)=Sum.elim (fun s=>evW TT C.wide n94 b94 12 (hd_rrValueFault_12 p0 s)) (fun r=>ou_rrValueFault_12 p0 r) o:=by
 rw [cG TT n94 fl94_12]
 revert hF
 unfold st_rrValueFault_12
 try dsimp only
 refine bF (fun h1=>?_) (fun h1=>?_)
 rotate_left 1
 refine az fun x1 h2=>?_
 have g1:decide (0≤(IntKind.i64.wrap (p1-1)))=true:=(cp h2).1
 have g2:(ah GScore.row p0.fScores)[((IntKind.i64.wrap (p1-1)):Int).toNat]? =some [.s x1.fMember,.i .i64 x1.fN]:=cn _ h2
 refine az fun x2 h3=>?_
 have g3:decide (0≤p1)=true:=(cp h3).1
 have g4:(ah GScore.row p0.fScores)[(p1:Int).toNat]? =some [.s x2.fMember,.i .i64 x2.fN]:=cn _ h3
 have g5:=bK (k_rrscoreAhead x1 x2 _ (rrscoreAhead_t x1 x2))
 refine bF (fun h4=>?_) (fun h4=>?_)
 rotate_left 1
 refine aX (fun h5=>?_) (fun _=>nofun)
 refine az fun x3 h6=>?_
 have g6:=bK (k_rrmemberAt (dm p0.fScores 0 p1) x2.fMember _ h6)
 refine aX (fun h7=>?_) (fun h7=>?_)
 rotate_left 1
 all_goals (rintro⟨⟩;show cN _ _ _ (aH _ _ _ _ (Code.seq _ _) _)=_;simp (maxSteps:=4000000) only [*,hd_rrValueFault_12,ou_rrValueFault_12,n94a,n94A,n94k,n94K,n94f43,n94mv,↓RP,RB,↓ai,aQ,aD,be,bf,aJ,Mx.bl,opnd,Mx.bI,Nat.reduceBEq,bQ,Mx.fit,co,aN,aA,ay,Mx.put,ofConst,ofCell,Mx.prune,killB,aK,putDst,aw,aE,loadAt,bT,List.map,Nat.reduceAdd,cz,cB,cu,forceAll,bound,ci,bj,bA,lend,lendA,aS,aB,bR,bare,bW,bG,cd,aI,aY,cm,bL,cv,ch,bo,aL,bm,Op.operands,ax,av,atO,newB,cw,cy,cx,↓ao,↓am,bh,br,Call.operands,ty3,ty9,ty29,ty72,ty74,ty112,↓aa _ _ _ _ 41,↓aq _ _ _ _ 43,↓aa _ _ _ _ 44,↓aa _ _ _ _ 42])
theorem rg_rrValueFault_k4v2 (C:aj)  (p0:GValue) (p1:Bool) (c:Code) (ho:cD 0 4 b94=some c) (r:Bool) (hF:ck_rrValueFault_k4v2_v p0 p1=r): @cV TT C.wide (evW TT C.wide n94 b94) n94 0 4 ⟨[(1,.rp [.i .i64 p0.fKind,.s p0.fText,.i .i64 p0.fCount,.sl 2 (ah GPair.row p0.fPairs),.sl 1 (ah bY p0.fItems),.sl 2 (ah GScore.row p0.fScores)]),(3,.v (.b p1))],[]⟩ ⟨c⟩=some (.normal,⟨[(1,.rp [.i .i64 p0.fKind,.s p0.fText,.i .i64 p0.fCount,.sl 2 (ah GPair.row p0.fPairs),.sl 1 (ah bY p0.fItems),.sl 2 (ah GScore.row p0.fScores)]),(72,.v (.b r))],[]⟩):=by
 have e:=Option.some.inj (ho.symm.trans (rfl:cD 0 4 b94=some _))
 subst e
 clear ho
 show aH _ _ _ _ _ _=_
 revert hF
 unfold ck_rrValueFault_k4v2_v
 refine aX (fun h1=>?_) (fun h1=>?_)
 focus
  refine aX (fun h2=>?_) (fun h2=>?_)
  focus
   refine aX (fun h3=>?_) (fun h3=>?_)
   focus
    refine aX (fun h4=>?_) (fun h4=>?_)
    focus
     refine aX (fun h5=>?_) (fun h5=>?_)
     rotate_left 1
    rotate_left 2
    refine aX (fun h5=>?_) (fun h5=>?_)
    rotate_left 1
    refine aX (fun h6=>?_) (fun h6=>?_)
    rotate_left 1
   rotate_left 5
   unfold ck_rrValueFault_k4v2_v_c0
   refine aX (fun h4=>?_) (fun h4=>?_)
   rotate_left 1
   refine aX (fun h5=>?_) (fun h5=>?_)
   focus
    refine aX (fun h6=>?_) (fun h6=>?_)
    rotate_left 1
   rotate_left 2
   refine aX (fun h6=>?_) (fun h6=>?_)
   rotate_left 1
   refine aX (fun h7=>?_) (fun h7=>?_)
   rotate_left 1
  rotate_left 11
  unfold ck_rrValueFault_k4v2_v_c2
  refine bF (fun h3=>?_) (fun h3=>?_)
  rotate_left 1
  refine aX (fun h4=>?_) (fun h4=>?_)
  focus
   refine aX (fun h5=>?_) (fun h5=>?_)
   focus
    refine aX (fun h6=>?_) (fun h6=>?_)
    rotate_left 1
   rotate_left 2
   refine aX (fun h6=>?_) (fun h6=>?_)
   rotate_left 1
   refine aX (fun h7=>?_) (fun h7=>?_)
   rotate_left 1
  rotate_left 5
  unfold ck_rrValueFault_k4v2_v_c1
  refine aX (fun h5=>?_) (fun h5=>?_)
  rotate_left 1
  refine aX (fun h6=>?_) (fun h6=>?_)
  focus
   refine aX (fun h7=>?_) (fun h7=>?_)
   rotate_left 1
  rotate_left 2
  refine aX (fun h7=>?_) (fun h7=>?_)
  rotate_left 1
  refine aX (fun h8=>?_) (fun h8=>?_)
  rotate_left 1
 rotate_left 23
 unfold ck_rrValueFault_k4v2_v_c6
 refine bF (fun h2=>?_) (fun h2=>?_)
 rotate_left 1
 refine aX (fun h3=>?_) (fun h3=>?_)
 focus
  refine aX (fun h4=>?_) (fun h4=>?_)
  focus
   refine aX (fun h5=>?_) (fun h5=>?_)
   focus
    refine aX (fun h6=>?_) (fun h6=>?_)
    rotate_left 1
   rotate_left 2
   refine aX (fun h6=>?_) (fun h6=>?_)
   rotate_left 1
   refine aX (fun h7=>?_) (fun h7=>?_)
   rotate_left 1
  rotate_left 5
  unfold ck_rrValueFault_k4v2_v_c3
  refine aX (fun h5=>?_) (fun h5=>?_)
  rotate_left 1
  refine aX (fun h6=>?_) (fun h6=>?_)
  focus
   refine aX (fun h7=>?_) (fun h7=>?_)
   rotate_left 1
  rotate_left 2
  refine aX (fun h7=>?_) (fun h7=>?_)
  rotate_left 1
  refine aX (fun h8=>?_) (fun h8=>?_)
  rotate_left 1
 rotate_left 11
 unfold ck_rrValueFault_k4v2_v_c5
 refine bF (fun h4=>?_) (fun h4=>?_)
 rotate_left 1
 refine aX (fun h5=>?_) (fun h5=>?_)
 focus
  refine aX (fun h6=>?_) (fun h6=>?_)
  focus
   refine aX (fun h7=>?_) (fun h7=>?_)
   rotate_left 1
  rotate_left 2
  refine aX (fun h7=>?_) (fun h7=>?_)
  rotate_left 1
  refine aX (fun h8=>?_) (fun h8=>?_)
  rotate_left 1
 rotate_left 5
 unfold ck_rrValueFault_k4v2_v_c4
 refine aX (fun h6=>?_) (fun h6=>?_)
 rotate_left 1
 refine aX (fun h7=>?_) (fun h7=>?_)
 focus
  refine aX (fun h8=>?_) (fun h8=>?_)
  rotate_left 1
 rotate_left 2
 refine aX (fun h8=>?_) (fun h8=>?_)
 rotate_left 1
 refine aX (fun h9=>?_) (fun h9=>?_)
 rotate_left 1
 all_goals (rintro rfl;simp (maxSteps:=4000000) only [*,n94k,n94K,n94mv,↓RP,RB,aQ,aD,be,Mx.bl,opnd,Mx.bI,Nat.reduceBEq,bQ,aN,aA,ay,Mx.put,ofConst,ofCell,Mx.prune,killB,aK,putDst,aw,aE,loadAt,bT,List.map,cz,cB,cu,ax,cy,cx,bne,bh,ty3,ty9,ty70,ty71,ty72,ty74,↓aa _ _ _ _ 4])
theorem r_rrValueFault (C:aj) (k_rrIn:K_rrIn C) (k_rrsizeOf:K_rrsizeOf C) (k_rrtextMay:K_rrtextMay C) (k_rrcountMay:K_rrcountMay C) (k_rrfieldMay:K_rrfieldMay C) (k_rrscoreAhead:K_rrscoreAhead C) (k_rrmemberAt:K_rrmemberAt C) (p0:GValue) (r:Int) (hF:rrValueFault p0=some r):cR TT C.wide (evW TT C.wide n94 b94) n94 Try.f94.results.toList (aU Try.f94) [.agg [.v (.i .i64 p0.fKind),.v (.s p0.fText),.v (.i .i64 p0.fCount),.v (.sl 2 (ah GPair.row p0.fPairs)),.v (.sl 1 (ah bY p0.fItems)),.v (.sl 2 (ah GScore.row p0.fScores))]] []=some (.v (.i .i64 r),[]):=by
 revert hF
 unfold rrValueFault
 have g1:=bK (k_rrIn p0.fKind 1 6 _ (rrIn_t p0.fKind 1 6))
 have g2:rrIn_v p0.fKind 1 6=(decide (1≤p0.fKind)&&decide (p0.fKind≤6)):=by first|rfl|(simp [rrIn_v];done)|(simp only [rrIn_v];decide)
 refine bF (fun h1=>?_) (fun h1=>?_)
 rotate_left 1
 refine bF (fun h2=>?_) (fun h2=>?_)
 rotate_left 1
 refine aX (fun h3=>?_) (fun h3=>?_)
 focus
  unfold rrValueFault_c12
  have g3:=rg_rrValueFault_k4 C p0 _ rfl (ck_rrValueFault_k4_v p0) rfl
  refine aX (fun h4=>?_) (fun h4=>?_)
  rotate_left 1
  have g4:=rg_rrValueFault_k6 C k_rrsizeOf k_rrIn k_rrtextMay p0 _ rfl (ck_rrValueFault_k6_v p0) rfl
  refine aX (fun h5=>?_) (fun h5=>?_)
  rotate_left 1
  refine az ?_
  rintro (_|_) h6
  focus
   dsimp only
   have g5:=cH _ _ (sl_rrValueFault_0 C k_rrtextMay p0) h6
   try simp only [hd_rrValueFault_0,ou_rrValueFault_0] at g5
  rotate_left 1
  dsimp only
  unfold rrValueFault_c5
  have g6:=cH _ _ (sl_rrValueFault_0 C k_rrtextMay p0) h6
  try simp only [hd_rrValueFault_0,ou_rrValueFault_0] at g6
  refine az ?_
  rintro (_|_) h7
  focus
   dsimp only
   have g7:=cH _ _ (sl_rrValueFault_2 C k_rrfieldMay k_rrtextMay p0) h7
   try simp only [hd_rrValueFault_2,ou_rrValueFault_2] at g7
  rotate_left 1
  dsimp only
  unfold rrValueFault_c4
  have g8:=cH _ _ (sl_rrValueFault_2 C k_rrfieldMay k_rrtextMay p0) h7
  try simp only [hd_rrValueFault_2,ou_rrValueFault_2] at g8
  refine az ?_
  rintro (_|_) h8
  focus
   dsimp only
   have g9:=cH _ _ (sl_rrValueFault_4 C k_rrtextMay p0) h8
   try simp only [hd_rrValueFault_4,ou_rrValueFault_4] at g9
  rotate_left 1
  dsimp only
  unfold rrValueFault_c3
  have g10:=cH _ _ (sl_rrValueFault_4 C k_rrtextMay p0) h8
  have g11:=bK (k_rrcountMay p0.fCount _ (rrcountMay_t p0.fCount))
  try simp only [hd_rrValueFault_4,ou_rrValueFault_4] at g10
  refine bF (fun h9=>?_) (fun h9=>?_)
  rotate_left 1
  refine az ?_
  rintro (_|_) h10
  focus
   dsimp only
   have g12:=cH _ _ (sl_rrValueFault_6 C k_rrcountMay p0) h10
   try simp only [hd_rrValueFault_6,ou_rrValueFault_6] at g12
  rotate_left 1
  dsimp only
  unfold rrValueFault_c2
  have g13:=cH _ _ (sl_rrValueFault_6 C k_rrcountMay p0) h10
  try simp only [hd_rrValueFault_6,ou_rrValueFault_6] at g13
  refine az ?_
  rintro (_|_) h11
  focus
   dsimp only
   have g14:=cH _ _ (sl_rrValueFault_8 C p0) h11
   try simp only [hd_rrValueFault_8,ou_rrValueFault_8] at g14
  rotate_left 1
  dsimp only
  unfold rrValueFault_c1
  have g15:=cH _ _ (sl_rrValueFault_8 C p0) h11
  try simp only [hd_rrValueFault_8,ou_rrValueFault_8] at g15
  refine az ?_
  rintro (_|_) h12
  focus
   dsimp only
   have g16:=cH _ _ (sl_rrValueFault_10 C p0) h12
   try simp only [hd_rrValueFault_10,ou_rrValueFault_10] at g16
  rotate_left 1
  dsimp only
  unfold rrValueFault_c0
  have g17:=cH _ _ (sl_rrValueFault_10 C p0) h12
  try simp only [hd_rrValueFault_10,ou_rrValueFault_10] at g17
  refine az ?_
  rintro (_|_) h13
  focus
   dsimp only
   have g18:=cH _ _ (sl_rrValueFault_12 C k_rrscoreAhead k_rrmemberAt p0) h13
   try simp only [hd_rrValueFault_12,ou_rrValueFault_12] at g18
  rotate_left 1
  dsimp only
  have g19:=cH _ _ (sl_rrValueFault_12 C k_rrscoreAhead k_rrmemberAt p0) h13
  try simp only [hd_rrValueFault_12,ou_rrValueFault_12] at g19
 rotate_left 11
 have g20:=rg_rrValueFault_k4v2 C p0 (p0.fKind==5) _ rfl (ck_rrValueFault_k4v2_v p0 (p0.fKind==5)) rfl
 refine aX (fun h4=>?_) (fun h4=>?_)
 rotate_left 1
 have g4:=rg_rrValueFault_k6 C k_rrsizeOf k_rrIn k_rrtextMay p0 _ rfl (ck_rrValueFault_k6_v p0) rfl
 refine aX (fun h5=>?_) (fun h5=>?_)
 rotate_left 1
 refine az ?_
 rintro (_|_) h6
 focus
  dsimp only
  have g5:=cH _ _ (sl_rrValueFault_0 C k_rrtextMay p0) h6
  try simp only [hd_rrValueFault_0,ou_rrValueFault_0] at g5
 rotate_left 1
 dsimp only
 unfold rrValueFault_c11
 have g6:=cH _ _ (sl_rrValueFault_0 C k_rrtextMay p0) h6
 try simp only [hd_rrValueFault_0,ou_rrValueFault_0] at g6
 refine az ?_
 rintro (_|_) h7
 focus
  dsimp only
  have g7:=cH _ _ (sl_rrValueFault_2 C k_rrfieldMay k_rrtextMay p0) h7
  try simp only [hd_rrValueFault_2,ou_rrValueFault_2] at g7
 rotate_left 1
 dsimp only
 unfold rrValueFault_c10
 have g8:=cH _ _ (sl_rrValueFault_2 C k_rrfieldMay k_rrtextMay p0) h7
 try simp only [hd_rrValueFault_2,ou_rrValueFault_2] at g8
 refine az ?_
 rintro (_|_) h8
 focus
  dsimp only
  have g9:=cH _ _ (sl_rrValueFault_4 C k_rrtextMay p0) h8
  try simp only [hd_rrValueFault_4,ou_rrValueFault_4] at g9
 rotate_left 1
 dsimp only
 unfold rrValueFault_c9
 have g10:=cH _ _ (sl_rrValueFault_4 C k_rrtextMay p0) h8
 have g11:=bK (k_rrcountMay p0.fCount _ (rrcountMay_t p0.fCount))
 try simp only [hd_rrValueFault_4,ou_rrValueFault_4] at g10
 refine bF (fun h9=>?_) (fun h9=>?_)
 rotate_left 1
 refine az ?_
 rintro (_|_) h10
 focus
  dsimp only
  have g12:=cH _ _ (sl_rrValueFault_6 C k_rrcountMay p0) h10
  try simp only [hd_rrValueFault_6,ou_rrValueFault_6] at g12
 rotate_left 1
 dsimp only
 unfold rrValueFault_c8
 have g13:=cH _ _ (sl_rrValueFault_6 C k_rrcountMay p0) h10
 try simp only [hd_rrValueFault_6,ou_rrValueFault_6] at g13
 refine az ?_
 rintro (_|_) h11
 focus
  dsimp only
  have g14:=cH _ _ (sl_rrValueFault_8 C p0) h11
  try simp only [hd_rrValueFault_8,ou_rrValueFault_8] at g14
 rotate_left 1
 dsimp only
 unfold rrValueFault_c7
 have g15:=cH _ _ (sl_rrValueFault_8 C p0) h11
 try simp only [hd_rrValueFault_8,ou_rrValueFault_8] at g15
 refine az ?_
 rintro (_|_) h12
 focus
  dsimp only
  have g16:=cH _ _ (sl_rrValueFault_10 C p0) h12
  try simp only [hd_rrValueFault_10,ou_rrValueFault_10] at g16
 rotate_left 1
 dsimp only
 unfold rrValueFault_c6
 have g17:=cH _ _ (sl_rrValueFault_10 C p0) h12
 try simp only [hd_rrValueFault_10,ou_rrValueFault_10] at g17
 refine az ?_
 rintro (_|_) h13
 focus
  dsimp only
  have g18:=cH _ _ (sl_rrValueFault_12 C k_rrscoreAhead k_rrmemberAt p0) h13
  try simp only [hd_rrValueFault_12,ou_rrValueFault_12] at g18
 rotate_left 1
 dsimp only
 have g19:=cH _ _ (sl_rrValueFault_12 C k_rrscoreAhead k_rrmemberAt p0) h13
 try simp only [hd_rrValueFault_12,ou_rrValueFault_12] at g19
 all_goals (rintro⟨⟩;rw [bk];show cC _ _ _ (aH _ _ _ _ (Code.seq _ _) _)=_;simp (maxSteps:=4000000) only [*,res94,n94a,n94A,n94k,n94K,n94ro,n94mv,↓RP,RB,enter,aQ,aD,be,bf,aJ,Mx.bl,opnd,Mx.bI,Nat.reduceBEq,bQ,Mx.fit,bP,co,toVs,cellsOf,toV,aN,aA,ay,Mx.put,ofConst,ofCell,Mx.prune,killB,aK,putDst,aw,aE,loadAt,bT,List.map,cz,cB,aC,bu,bx,cA,bS,bJ,aM,lowC,forceAll,lend,lendA,aS,aB,bR,bare,bW,ax,av,atO,newB,cw,cy,cx,↓ao,↓am,bh,ty3,ty4,ty29,ty74,↓aa _ _ _ _ 0,↓aa _ _ _ _ 1,↓aa _ _ _ _ 2,↓aa _ _ _ _ 3,↓bg _ _ _ _ 4,↓aa _ _ _ _ 5,↓bg _ _ _ _ 6,↓aa _ _ _ _ 7,↓aa _ _ _ _ 8,↓aa _ _ _ _ 13,↓aa _ _ _ _ 18,↓aa _ _ _ _ 23,↓aa _ _ _ _ 24,↓aa _ _ _ _ 25,↓aa _ _ _ _ 30,↓aa _ _ _ _ 35,↓aa _ _ _ _ 40,↓aa _ _ _ _ 45])
def n73K:List (Nat×List Nat):=[(0,[1]),(1,[1,14]),(2,[2]),(3,[1,3]),(4,[1,3,19]),(5,[1,3]),(6,[1,3,4]),(7,[1,3,4,52]),(8,[2]),(9,[1,3,68]),(10,[2]),(11,[2])]
def n73A:List (Nat×List Nat×List Nat):=[(14,[],[1]),(19,[1,3],[]),(52,[],[1,3,4]),(68,[],[1,3])]
def n73:cL where
 keep:=ax n73K
 ro:=fun t=>t==1
 mv:=fun _=>false
 give:=fun _=>false
 free:=fun i=>match i with|7=>[(14,16),(15,16),(14,17),(15,17),(14,21),(15,21),(16,21),(17,21),(18,21),(19,21),(20,21),(14,22),(15,22),(16,22),(17,22),(18,22),(19,22),(20,22)]|_=>[]
 alive:=av n73A
theorem n73a (t:Nat) (x:Bool) (e:Env) (S:bH):cK n73 t x ⟨e,S⟩=atO (av n73A t x) e S:=cF rfl t x e S
theorem n73k (i:Nat):n73.keep i=ax n73K i:=rfl
theorem n73ro (t:Nat):n73.ro t=(t==1):=rfl
theorem n73mv (t:Nat):n73.mv t=(false):=rfl
theorem n73f7:n73.free 7= [(14,16),(15,16),(14,17),(15,17),(14,21),(15,21),(16,21),(17,21),(18,21),(19,21),(20,21),(14,22),(15,22),(16,22),(17,22),(18,22),(19,22),(20,22)]:=rfl
theorem res73:Try.f73.results.toList= [.tmp 2]:=rfl
noncomputable def b73:Code:=aU Try.f73
noncomputable def c73_0:Code:=(bE 0 (aU Try.f73)).getD .skip
theorem fl73_0:bE 0 b73=some c73_0:=rfl
theorem rg_rrStoreFault_k1 (C:aj) (k_rrIn:K_rrIn C) (p0:GStore) (c:Code) (ho:cD 0 1 b73=some c) (r:Bool) (hF:ck_rrStoreFault_k1_v p0=r): @cV TT C.wide (evW TT C.wide n73 b73) n73 0 1 ⟨[(1,.rp [.i .i64 p0.fNow,.sl 8 (ah GEntry.row p0.fEntries)])],[]⟩ ⟨c⟩=some (.normal,⟨[(1,.rp [.i .i64 p0.fNow,.sl 8 (ah GEntry.row p0.fEntries)]),(14,.v (.b r))],[]⟩):=by
 have e:=Option.some.inj (ho.symm.trans (rfl:cD 0 1 b73=some _))
 subst e
 clear ho
 show aH _ _ _ _ _ _=_
 revert hF
 unfold ck_rrStoreFault_k1_v
 have g1:=bK (k_rrIn p0.fNow 0 1073741824 _ (rrIn_t p0.fNow 0 1073741824))
 have g2:rrIn_v p0.fNow 0 1073741824=(decide (0≤p0.fNow)&&decide (p0.fNow≤1073741824)):=by first|rfl|(simp [rrIn_v];done)|(simp only [rrIn_v];decide)
 refine bF (fun h1=>?_) (fun h1=>?_)
 rotate_left 1
 refine aX (fun h2=>?_) (fun h2=>?_)
 rotate_left 1
 all_goals (rintro rfl;simp (maxSteps:=4000000) only [*,n73k,n73K,n73mv,↓RP,RB,aQ,aD,be,Mx.bl,opnd,Mx.bI,Nat.reduceBEq,bQ,aN,aA,ay,Mx.put,ofConst,ofCell,Mx.prune,killB,aK,putDst,aw,aE,loadAt,bT,List.map,cz,cB,cu,forceAll,lend,lendA,aS,aB,bR,bare,bW,ax,newB,cw,cy,cx,bh,ty3,ty23,ty25,↓aa _ _ _ _ 1])
theorem rg_rrStoreFault_k7v2 (C:aj) (k_rrfieldMay:K_rrfieldMay C) (k_rrValueFault:K_rrValueFault C) (p0:GStore) (p1:Int) (p2:GEntry) (c:Code) (ho:cD 0 7 b73=some c) (r:Bool) (hF:ck_rrStoreFault_k7v2 p0 p1 p2=some r): @cV TT C.wide (evW TT C.wide n73 b73) n73 0 7 ⟨[(1,.rp [.i .i64 p0.fNow,.sl 8 (ah GEntry.row p0.fEntries)]),(3,.v (.i .i64 p1)),(4,.ptr 0 0)],[[.v (.s p2.fKey),.v (.i .i64 p2.fValue.fKind),.v (.s p2.fValue.fText),.v (.i .i64 p2.fValue.fCount),.v (.sl 2 (ah GPair.row p2.fValue.fPairs)),.v (.sl 1 (ah bY p2.fValue.fItems)),.v (.sl 2 (ah GScore.row p2.fValue.fScores)),.v (.i .i64 p2.fUntil)]]⟩ ⟨c⟩=some (.normal,⟨[(1,.rp [.i .i64 p0.fNow,.sl 8 (ah GEntry.row p0.fEntries)]),(3,.v (.i .i64 p1)),(4,.ptr 0 0),(52,.v (.b r))],[[.v (.s p2.fKey),.v (.i .i64 p2.fValue.fKind),.v (.s p2.fValue.fText),.v (.i .i64 p2.fValue.fCount),.v (.sl 2 (ah GPair.row p2.fValue.fPairs)),.v (.sl 1 (ah bY p2.fValue.fItems)),.v (.sl 2 (ah GScore.row p2.fValue.fScores)),.v (.i .i64 p2.fUntil)]]⟩):=by
 have e:=Option.some.inj (ho.symm.trans (rfl:cD 0 7 b73=some _))
 subst e
 clear ho
 show aH _ _ _ _ _ _=_
 revert hF
 unfold ck_rrStoreFault_k7v2
 have g1:=bK (k_rrfieldMay p2.fKey _ (rrfieldMay_t p2.fKey))
 refine bF (fun h1=>?_) (fun h1=>?_)
 rotate_left 1
 refine az fun x1 h2=>?_
 have g2:=bK (k_rrValueFault p2.fValue _ h2)
 refine bF (fun h3=>?_) (fun h3=>?_)
 rotate_left 1
 refine bF (fun h4=>?_) (fun h4=>?_)
 rotate_left 1
 refine az fun x2 h5=>?_
 have g3:decide (0≤(IntKind.i64.wrap (p1-1)))=true:=(cp h5).1
 have g4:(ah GEntry.row p0.fEntries)[((IntKind.i64.wrap (p1-1)):Int).toNat]? =some [.s x2.fKey,.i .i64 x2.fValue.fKind,.s x2.fValue.fText,.i .i64 x2.fValue.fCount,.sl 2 (ah GPair.row x2.fValue.fPairs),.sl 1 (ah bY x2.fValue.fItems),.sl 2 (ah GScore.row x2.fValue.fScores),.i .i64 x2.fUntil]:=cn _ h5
 all_goals (rintro⟨⟩;simp (maxSteps:=4000000) only [*,n73k,n73K,n73f7,n73mv,↓RP,RB,aQ,aD,be,Mx.bl,opnd,Mx.bI,Nat.reduceBEq,bQ,aN,aA,ay,Mx.put,ofConst,ofCell,Mx.prune,killB,aK,putDst,aw,aE,loadAt,bT,List.map,Nat.reduceAdd,cz,cB,forceAll,bj,lend,lendA,aS,aB,bR,bare,bW,bG,Nat.reduceSub,cd,aI,aY,cm,bL,cv,ch,bo,aL,bm,Op.operands,ax,newB,cw,cy,cx,bne,bh,aP,br,Call.operands,ty9,ty23,ty25,ty74,ty77,↓aq _ _ _ _ 7])
theorem rg_rrStoreFault_k9v2 (C:aj) (k_rrIn:K_rrIn C) (p0:GStore) (p1:Int) (p2:GEntry) (c:Code) (ho:cD 0 9 b73=some c) (r:Bool) (hF:ck_rrStoreFault_k9v2_v p0 p1 p2=r): @cV TT C.wide (evW TT C.wide n73 b73) n73 0 9 ⟨[(1,.rp [.i .i64 p0.fNow,.sl 8 (ah GEntry.row p0.fEntries)]),(3,.v (.i .i64 p1)),(4,.ptr 0 0)],[[.v (.s p2.fKey),.v (.i .i64 p2.fValue.fKind),.v (.s p2.fValue.fText),.v (.i .i64 p2.fValue.fCount),.v (.sl 2 (ah GPair.row p2.fValue.fPairs)),.v (.sl 1 (ah bY p2.fValue.fItems)),.v (.sl 2 (ah GScore.row p2.fValue.fScores)),.v (.i .i64 p2.fUntil)]]⟩ ⟨c⟩=some (.normal,⟨[(1,.rp [.i .i64 p0.fNow,.sl 8 (ah GEntry.row p0.fEntries)]),(3,.v (.i .i64 p1)),(68,.v (.b r))],[[.v (.s p2.fKey),.v (.i .i64 p2.fValue.fKind),.v (.s p2.fValue.fText),.v (.i .i64 p2.fValue.fCount),.v (.sl 2 (ah GPair.row p2.fValue.fPairs)),.v (.sl 1 (ah bY p2.fValue.fItems)),.v (.sl 2 (ah GScore.row p2.fValue.fScores)),.v (.i .i64 p2.fUntil)]]⟩):=by
 have e:=Option.some.inj (ho.symm.trans (rfl:cD 0 9 b73=some _))
 subst e
 clear ho
 show aH _ _ _ _ _ _=_
 revert hF
 unfold ck_rrStoreFault_k9v2_v
 refine aX (fun h1=>?_) (fun h1=>?_)
 rotate_left 1
 have g1:=bK (k_rrIn p2.fUntil 0 1073741824 _ (rrIn_t p2.fUntil 0 1073741824))
 have g2:rrIn_v p2.fUntil 0 1073741824=(decide (0≤p2.fUntil)&&decide (p2.fUntil≤1073741824)):=by first|rfl|(simp [rrIn_v];done)|(simp only [rrIn_v];decide)
 refine bF (fun h2=>?_) (fun h2=>?_)
 rotate_left 1
 refine aX (fun h3=>?_) (fun h3=>?_)
 rotate_left 1
 all_goals (rintro rfl;simp (maxSteps:=4000000) only [*,n73k,n73K,n73mv,↓RP,RB,aQ,aD,be,Mx.bl,opnd,Mx.bI,Nat.reduceBEq,bQ,aN,aA,ay,Mx.put,ofConst,ofCell,Mx.prune,killB,aK,putDst,aw,aE,loadAt,bT,List.map,cz,cB,forceAll,lend,lendA,aS,aB,bR,bare,bW,ax,newB,cw,cy,cx,bne,bh,ty3,ty25,ty77,↓aa _ _ _ _ 9])
def hd_rrStoreFault_0 (p0:GStore) (s:Int):St:=⟨[(1,.rp [.i .i64 p0.fNow,.sl 8 (ah GEntry.row p0.fEntries)]),(3,.v (.i .i64 s))],[]⟩
def ou_rrStoreFault_0 (p0:GStore) (r:GEntry⊕Unit):Option (Ex×St):=match r with
 | .inl r=>some (.ret,⟨[(2,.v (.i .i64 13))],[[.v (.s r.fKey),.v (.i .i64 r.fValue.fKind),.v (.s r.fValue.fText),.v (.i .i64 r.fValue.fCount),.v (.sl 2 (ah GPair.row r.fValue.fPairs)),.v (.sl 1 (ah bY r.fValue.fItems)),.v (.sl 2 (ah GScore.row r.fValue.fScores)),.v (.i .i64 r.fUntil)]]⟩)
 | .inr r=>some (.normal,⟨[],[]⟩)
theorem sl_rrStoreFault_0 (C:aj) (k_rrfieldMay:K_rrfieldMay C) (k_rrValueFault:K_rrValueFault C) (k_rrIn:K_rrIn C) (p0:GStore) (p1:Int) (o:Int⊕(GEntry⊕Unit)) (hF:st_rrStoreFault_0 p0 p1=some o):evW TT C.wide n73 b73 0 (hd_rrStoreFault_0 p0 p1)=Sum.elim (fun s=>evW TT C.wide n73 b73 0 (hd_rrStoreFault_0 p0 s)) (fun r=>ou_rrStoreFault_0 p0 r) o:=by
 rw [cG TT n73 fl73_0]
 revert hF
 unfold st_rrStoreFault_0
 try dsimp only
 refine bF (fun h1=>?_) (fun h1=>?_)
 rotate_left 1
 refine az fun x1 h2=>?_
 have g1:decide (0≤p1)=true:=(cp h2).1
 have g2:(ah GEntry.row p0.fEntries)[(p1:Int).toNat]? =some [.s x1.fKey,.i .i64 x1.fValue.fKind,.s x1.fValue.fText,.i .i64 x1.fValue.fCount,.sl 2 (ah GPair.row x1.fValue.fPairs),.sl 1 (ah bY x1.fValue.fItems),.sl 2 (ah GScore.row x1.fValue.fScores),.i .i64 x1.fUntil]:=cn _ h2
 refine az fun x2 h3=>?_
 have g3:=rg_rrStoreFault_k7v2 C k_rrfieldMay k_rrValueFault p0 p1 x1 _ rfl _ h3
 refine aX (fun h4=>?_) (fun h4=>?_)
 rotate_left 1
 have g4:=rg_rrStoreFault_k9v2 C k_rrIn p0 p1 x1 _ rfl (ck_rrStoreFault_k9v2_v p0 p1 x1) rfl
 refine aX (fun h5=>?_) (fun h5=>?_)
 rotate_left 1
 all_goals (rintro⟨⟩;show cN _ _ _ (aH _ _ _ _ (Code.seq _ _) _)=_;simp (maxSteps:=4000000) only [*,hd_rrStoreFault_0,ou_rrStoreFault_0,n73a,n73A,n73k,n73K,n73mv,↓RP,RB,↓ai,be,bf,aJ,Mx.bl,opnd,Mx.bI,Nat.reduceBEq,bQ,Mx.fit,bP,co,cellsOf,aN,aA,ay,Mx.put,ofConst,ofCell,Mx.prune,killB,killBs,aK,putDst,aw,aE,loadAt,bT,List.map,Nat.reduceAdd,cz,cB,cu,bJ,aM,lowC,bj,kill,bG,setCells,Nat.reduceLeDiff,lowA,bn,ax,av,atO,cy,cx,bne,↓ao,↓am,ty3,ty23,ty25,ty29,ty77,↓aa _ _ _ _ 4,↓aa _ _ _ _ 6,↓bg _ _ _ _ 7,↓aa _ _ _ _ 8,↓bg _ _ _ _ 9,↓aa _ _ _ _ 10,↓aa _ _ _ _ 5])
theorem r_rrStoreFault (C:aj) (k_rrIn:K_rrIn C) (k_rrfieldMay:K_rrfieldMay C) (k_rrValueFault:K_rrValueFault C) (p0:GStore) (r:Int) (hF:rrStoreFault p0=some r):cR TT C.wide (evW TT C.wide n73 b73) n73 Try.f73.results.toList (aU Try.f73) [.agg [.v (.i .i64 p0.fNow),.v (.sl 8 (ah GEntry.row p0.fEntries))]] []=some (.v (.i .i64 r),[]):=by
 revert hF
 unfold rrStoreFault
 have g1:=rg_rrStoreFault_k1 C k_rrIn p0 _ rfl (ck_rrStoreFault_k1_v p0) rfl
 refine aX (fun h1=>?_) (fun h1=>?_)
 rotate_left 1
 refine az ?_
 rintro (x1|_) h2
 focus
  dsimp only
  have g2:=cH _ _ (sl_rrStoreFault_0 C k_rrfieldMay k_rrValueFault k_rrIn p0) h2
  try simp only [hd_rrStoreFault_0,ou_rrStoreFault_0] at g2
 rotate_left 1
 dsimp only
 have g3:=cH _ _ (sl_rrStoreFault_0 C k_rrfieldMay k_rrValueFault k_rrIn p0) h2
 try simp only [hd_rrStoreFault_0,ou_rrStoreFault_0] at g3
 all_goals (rintro⟨⟩;rw [bk];show cC _ _ _ (aH _ _ _ _ (Code.seq _ _) _)=_;simp (maxSteps:=4000000) only [*,res73,n73a,n73A,n73k,n73K,n73ro,↓RP,RB,enter,be,bf,aJ,Mx.bl,opnd,Mx.bI,Nat.reduceBEq,bQ,Mx.fit,bP,co,toVs,cellsOf,toV,aN,aA,ay,Mx.put,ofConst,ofCell,Mx.prune,killB,List.map,aC,bu,bx,cA,bS,bJ,aM,lowC,ax,av,atO,↓ao,↓am,ty3,ty25,ty29,↓aa _ _ _ _ 0,↓bg _ _ _ _ 1,↓aa _ _ _ _ 2,↓aa _ _ _ _ 3,↓aa _ _ _ _ 11])
def n74K:List (Nat×List Nat):=[(0,[1]),(1,[1,7]),(2,[2]),(3,[1,17]),(4,[2]),(5,[1,3]),(6,[1,3,22]),(7,[1,3]),(8,[1,3,31]),(9,[2]),(10,[35]),(11,[2]),(12,[2])]
def n74A:List (Nat×List Nat×List Nat):=[(7,[],[1]),(17,[],[1]),(22,[1,3],[1]),(31,[],[1,3]),(35,[],[])]
def n74:cL where
 keep:=ax n74K
 ro:=fun t=>t==1
 mv:=fun _=>false
 give:=fun _=>false
 free:=fun _=>[]
 alive:=av n74A
theorem n74a (t:Nat) (x:Bool) (e:Env) (S:bH):cK n74 t x ⟨e,S⟩=atO (av n74A t x) e S:=cF rfl t x e S
theorem n74k (i:Nat):n74.keep i=ax n74K i:=rfl
theorem n74ro (t:Nat):n74.ro t=(t==1):=rfl
theorem n74mv (t:Nat):n74.mv t=(false):=rfl
theorem res74:Try.f74.results.toList= [.tmp 2]:=rfl
noncomputable def b74:Code:=aU Try.f74
noncomputable def c74_0:Code:=(bE 0 (aU Try.f74)).getD .skip
theorem fl74_0:bE 0 b74=some c74_0:=rfl
def hd_rrReplyFault_0 (p0:GReply) (s:Int):St:=⟨[(1,.rp [.i .i64 p0.fCode,.s p0.fText,.i .i64 p0.fN,.sl 1 (ah bY p0.fList)]),(3,.v (.i .i64 s))],[]⟩
def ou_rrReplyFault_0 (p0:GReply) (r:Unit⊕Unit):Option (Ex×St):=match r with
 | .inl r=>some (.ret,⟨[(2,.v (.i .i64 1))],[]⟩)
 | .inr r=>some (.normal,⟨[(1,.rp [.i .i64 p0.fCode,.s p0.fText,.i .i64 p0.fN,.sl 1 (ah bY p0.fList)])],[]⟩)
theorem sl_rrReplyFault_0 (C:aj) (k_rrtextMay:K_rrtextMay C) (p0:GReply) (p1:Int) (o:Int⊕(Unit⊕Unit)) (hF:st_rrReplyFault_0 p0 p1=some o):evW TT C.wide n74 b74 0 (hd_rrReplyFault_0 p0 p1)=Sum.elim (fun s=>evW TT C.wide n74 b74 0 (hd_rrReplyFault_0 p0 s)) (fun r=>ou_rrReplyFault_0 p0 r) o:=by
 rw [cG TT n74 fl74_0]
 revert hF
 unfold st_rrReplyFault_0
 try dsimp only
 refine bF (fun h1=>?_) (fun h1=>?_)
 rotate_left 1
 refine az fun x1 h2=>?_
 have g1:decide (0≤p1)=true:=(cp h2).1
 have g2:(ah bY p0.fList)[(p1:Int).toNat]? =some [.s x1]:=cn _ h2
 have g3:=bK (k_rrtextMay x1 _ (rrtextMay_t x1))
 refine aX (fun h3=>?_) (fun h3=>?_)
 rotate_left 1
 all_goals (rintro⟨⟩;show cN _ _ _ (aH _ _ _ _ (Code.seq _ _) _)=_;simp (maxSteps:=4000000) only [*,hd_rrReplyFault_0,ou_rrReplyFault_0,n74a,n74A,n74k,n74K,n74mv,↓RP,RB,↓ai,be,bf,aJ,Mx.bl,opnd,Mx.bI,Nat.reduceBEq,bQ,Mx.fit,co,aN,aA,ay,Mx.put,ofConst,ofCell,Mx.prune,killB,aK,putDst,aw,aE,loadAt,bT,List.map,cz,cB,cu,forceAll,bj,lend,lendA,aS,aB,bR,bare,bW,ax,av,atO,newB,cw,cy,cx,↓ao,↓am,↓aa,ty3,ty9,ty29,ty71,ty79])
theorem r_rrReplyFault (C:aj) (k_rrIn:K_rrIn C) (k_rrtextMay:K_rrtextMay C) (k_rrcountMay:K_rrcountMay C) (p0:GReply) (r:Int) (hF:rrReplyFault p0=some r):cR TT C.wide (evW TT C.wide n74 b74) n74 Try.f74.results.toList (aU Try.f74) [.agg [.v (.i .i64 p0.fCode),.v (.s p0.fText),.v (.i .i64 p0.fN),.v (.sl 1 (ah bY p0.fList))]] []=some (.v (.i .i64 r),[]):=by
 revert hF
 unfold rrReplyFault
 have g1:=bK (k_rrIn p0.fCode 0 13 _ (rrIn_t p0.fCode 0 13))
 have g2:rrIn_v p0.fCode 0 13=(decide (0≤p0.fCode)&&decide (p0.fCode≤13)):=by first|rfl|(simp [rrIn_v];done)|(simp only [rrIn_v];decide)
 refine bF (fun h1=>?_) (fun h1=>?_)
 rotate_left 1
 refine bF (fun h2=>?_) (fun h2=>?_)
 rotate_left 1
 have g3:=bK (k_rrtextMay p0.fText _ (rrtextMay_t p0.fText))
 refine bF (fun h3=>?_) (fun h3=>?_)
 rotate_left 1
 refine aX (fun h4=>?_) (fun h4=>?_)
 rotate_left 1
 refine az ?_
 rintro (_|_) h5
 focus
  dsimp only
  have g4:=cH _ _ (sl_rrReplyFault_0 C k_rrtextMay p0) h5
  try simp only [hd_rrReplyFault_0,ou_rrReplyFault_0] at g4
 rotate_left 1
 dsimp only
 have g5:=cH _ _ (sl_rrReplyFault_0 C k_rrtextMay p0) h5
 have g6:=bK (k_rrcountMay p0.fN _ (rrcountMay_t p0.fN))
 try simp only [hd_rrReplyFault_0,ou_rrReplyFault_0] at g5
 refine aX (fun h6=>?_) (fun h6=>?_)
 rotate_left 1
 all_goals (rintro⟨⟩;rw [bk];show cC _ _ _ (aH _ _ _ _ (Code.seq _ _) _)=_;simp (maxSteps:=4000000) only [*,res74,n74a,n74A,n74k,n74K,n74ro,n74mv,↓RP,RB,enter,aQ,aD,be,bf,aJ,Mx.bl,opnd,Mx.bI,Nat.reduceBEq,bQ,Mx.fit,bP,co,toVs,cellsOf,toV,aN,aA,ay,Mx.put,ofConst,ofCell,Mx.prune,killB,aK,putDst,aw,aE,loadAt,bT,List.map,cz,cB,cu,aC,bu,bx,cA,bS,bJ,aM,lowC,forceAll,lend,lendA,aS,aB,bR,bare,bW,ax,av,atO,newB,cw,cy,cx,↓ao,↓am,↓aa,bh,ty3,ty9,ty29,ty71,ty79])
end Go.Proofs.Ytgcglmoogaldbaa
