/- The code of these functions, run by the machine Mx, gives what the plain functions say, if their callees do (part 3). -/
import Derived.Test.YtgcglmoogaldbaaWTy
import Derived.Test.YtgcglmoogaldbaaWireDecodesD
set_option linter.unusedSimpArgs false
set_option linter.unusedVariables false
set_option linter.constructorNameAsVariable false
set_option linter.unnecessarySimpa false
set_option maxRecDepth 100000
set_option maxHeartbeats 40000000
namespace Go.Proofs.Ytgcglmoogaldbaa
open Go Go.Mx Go.Proofs
def n7K:List (Nat×List Nat):=[(0,[0,2]),(1,[0,2,10]),(2,[2,3]),(3,[2,4]),(4,[2,4,5]),(5,[2,4,5]),(6,[2,4,5]),(7,[2,4,5]),(8,[2,4,5]),(9,[2,5,6]),(10,[2,5,6,32]),(11,[2,3]),(12,[2,5,7]),(13,[2,5,7,38]),(14,[2,3]),(15,[2,3])]
def n7A:List (Nat×List Nat×List Nat):=[(10,[2],[0,2]),(32,[2,6],[2,5]),(38,[2,7],[2,5])]
def n7:cL where
 keep:=ax n7K
 ro:=fun _=>false
 mv:=fun t=>t==41
 give:=fun _=>false
 free:=fun _=>[]
 alive:=av n7A
theorem n7a (t:Nat) (x:Bool) (e:Env) (S:bH):cK n7 t x ⟨e,S⟩=atO (av n7A t x) e S:=cF rfl t x e S
theorem n7k (i:Nat):n7.keep i=ax n7K i:=rfl
theorem n7ro (t:Nat):n7.ro t=(false):=rfl
theorem n7mv (t:Nat):n7.mv t=(t==41):=rfl
theorem n7gv (t:Nat):n7.give t=(false):=rfl
theorem res7:Try.f7.results.toList= [.cell 2 28,.tmp 3]:=rfl
noncomputable def b7:Code:=aU Try.f7
theorem r_wire_Decode (C:aj) (k_sKbyte_byte_z:K_sKbyte_byte_z C) (k_wrnumber:K_wrnumber C) (k_wreach_wire_Decode_fn1:K_wreach_wire_Decode_fn1 C) (k_wreach_wire_Decode_fn2:K_wreach_wire_Decode_fn2 C) (k_wrend:K_wrend C) (k_clC:K_clC C) (p0:List Int) (r:GMachine×Int) (hF:wire_Decode p0=some r):cR TT C.wide (evW TT C.wide n7 b7) n7 Try.f7.results.toList (aU Try.f7) [.v (.sl 1 (ah cE p0))] []=some (.tup [.agg [.v (.i .i64 r.1.fStore.fNow),.v (.sl 8 (ah GEntry.row r.1.fStore.fEntries)),.v (.i .i64 r.1.fNext),.v (.sl 7 (ah GClient.row r.1.fClients))],.v (.i .i64 r.2)],[]):=by
 revert hF
 unfold wire_Decode
 refine aX (fun h1=>?_) (fun h1=>?_)
 rotate_left 1
 refine az fun x1 h2=>?_
 have g1:=bK (k_sKbyte_byte_z p0 _ h2)
 refine az ?_
 rintro⟨x2,x3⟩ h3
 dsimp only
 unfold wire_Decode_c0
 have g2:C.wide 24 [.ptr 1 0] [[.v (.i .i64 0),.own 8 [],.v (.i .i64 0),.own 7 []],[.v (.sl 1 (ah cE x1)),.v (.b false)],[.ptr 1 0],[.v (.i .i64 0),.own 8 [],.v (.i .i64 0),.own 7 []]]=some (.v (.i .i64 x2),[[.v (.i .i64 0),.own 8 [],.v (.i .i64 0),.own 7 []],[.v (.sl 1 (ah cE x3.frest)),.v (.b x3.fshort)],[.ptr 1 0],[.v (.i .i64 0),.own 8 [],.v (.i .i64 0),.own 7 []]]):=cX [1] rfl rfl rfl rfl (k_wrnumber (Greader.mk x1 false) _ h3) rfl rfl
 refine az ?_
 rintro⟨x4,x5⟩ h4
 dsimp only
 have g3:C.wide 25 [.ptr 1 0,.clo 26 [.ptr 3 0,.ptr 2 0]] [[.v (.i .i64 0),.own 8 [],.v (.i .i64 0),.own 7 []],[.v (.sl 1 (ah cE x3.frest)),.v (.b x3.fshort)],[.ptr 1 0],[.v (.i .i64 x2),.own 8 [],.v (.i .i64 0),.own 7 []]]=some (.tup [],[[.v (.i .i64 0),.own 8 [],.v (.i .i64 0),.own 7 []],[.v (.sl 1 (ah cE x4.frest)),.v (.b x4.fshort)],[.ptr 1 0],[.v (.i .i64 x5.fStore.fNow),.own 8 (ah GEntry.row x5.fStore.fEntries),.v (.i .i64 x5.fNext),.own 7 (ah GClient.row x5.fClients)]]):=wide_eqP [1,3,2] [1,3,2] rfl rfl rfl rfl rfl rfl rfl rfl (k_wreach_wire_Decode_fn1 x3 (GMachine.mk (GStore.mk x2 []) 0 []) _ h4) rfl rfl
 refine az ?_
 rintro⟨x6,x7⟩ h5
 dsimp only
 have g4:C.wide 24 [.ptr 1 0] [[.v (.i .i64 0),.own 8 [],.v (.i .i64 0),.own 7 []],[.v (.sl 1 (ah cE x4.frest)),.v (.b x4.fshort)],[.ptr 1 0],[.v (.i .i64 x5.fStore.fNow),.own 8 (ah GEntry.row x5.fStore.fEntries),.v (.i .i64 x5.fNext),.own 7 (ah GClient.row x5.fClients)]]=some (.v (.i .i64 x6),[[.v (.i .i64 0),.own 8 [],.v (.i .i64 0),.own 7 []],[.v (.sl 1 (ah cE x7.frest)),.v (.b x7.fshort)],[.ptr 1 0],[.v (.i .i64 x5.fStore.fNow),.own 8 (ah GEntry.row x5.fStore.fEntries),.v (.i .i64 x5.fNext),.own 7 (ah GClient.row x5.fClients)]]):=cX [1] rfl rfl rfl rfl (k_wrnumber x4 _ h5) rfl rfl
 refine az ?_
 rintro⟨x8,x9⟩ h6
 dsimp only
 have g5:C.wide 25 [.ptr 1 0,.clo 29 [.ptr 2 0,.ptr 3 0]] [[.v (.i .i64 0),.own 8 [],.v (.i .i64 0),.own 7 []],[.v (.sl 1 (ah cE x7.frest)),.v (.b x7.fshort)],[.ptr 1 0],[.v (.i .i64 x5.fStore.fNow),.own 8 (ah GEntry.row x5.fStore.fEntries),.v (.i .i64 x6),.own 7 (ah GClient.row x5.fClients)]]=some (.tup [],[[.v (.i .i64 0),.own 8 [],.v (.i .i64 0),.own 7 []],[.v (.sl 1 (ah cE x8.frest)),.v (.b x8.fshort)],[.ptr 1 0],[.v (.i .i64 x9.fStore.fNow),.own 8 (ah GEntry.row x9.fStore.fEntries),.v (.i .i64 x9.fNext),.own 7 (ah GClient.row x9.fClients)]]):=wide_eqP [1,2,3] [1,2,3] rfl rfl rfl rfl rfl rfl rfl rfl (k_wreach_wire_Decode_fn2 x7 (GMachine.mk x5.fStore x6 x5.fClients) _ h6) rfl rfl
 refine az ?_
 rintro⟨x10,x11⟩ h7
 dsimp only
 have g6:C.wide 32 [.ptr 1 0,.v (.b true)] [[.v (.i .i64 0),.own 8 [],.v (.i .i64 0),.own 7 []],[.v (.sl 1 (ah cE x8.frest)),.v (.b x8.fshort)],[.ptr 1 0],[.v (.i .i64 x9.fStore.fNow),.own 8 (ah GEntry.row x9.fStore.fEntries),.v (.i .i64 x9.fNext),.own 7 (ah GClient.row x9.fClients)]]=some (.v (.i .i64 x10),[[.v (.i .i64 0),.own 8 [],.v (.i .i64 0),.own 7 []],[.v (.sl 1 (ah cE x11.frest)),.v (.b x11.fshort)],[.ptr 1 0],[.v (.i .i64 x9.fStore.fNow),.own 8 (ah GEntry.row x9.fStore.fEntries),.v (.i .i64 x9.fNext),.own 7 (ah GClient.row x9.fClients)]]):=cX [1] rfl rfl rfl rfl (k_wrend true x8 _ h7) rfl rfl
 refine bF (fun h8=>?_) (fun h8=>?_)
 rotate_left 1
 refine az fun x12 h9=>?_
 have g7:=bK (k_clC x9 _ h9)
 refine aX (fun h10=>?_) (fun h10=>?_)
 rotate_left 1
 all_goals (rintro⟨⟩;rw [bk];show cC _ _ _ (aH _ _ _ _ (Code.seq _ _) _)=_;simp (maxSteps:=4000000) only [*,res7,n7a,n7A,n7k,n7K,n7ro,n7mv,n7gv,↓RP,RB,enter,be,bf,aJ,Mx.bl,opnd,Mx.bI,Nat.reduceBEq,bQ,Mx.fit,bP,co,toVs,cellsOf,toV,aN,aA,ay,Mx.put,ofConst,ofCell,Mx.prune,killB,killBs,aK,putDst,aw,ar,aE,loadAt,bT,List.map,Nat.reduceAdd,cz,cB,cu,aC,bu,bx,cA,bJ,aM,bD,lowC,forceAll,kill,lend,lendA,aS,aB,bR,bare,bW,frz,cq,bw,argE,argsE,bG,ce,fill,setCells,takeParts,Nat.reduceLT,Nat.reduceLeDiff,bq,ax,av,atO,newB,cw,cy,cx,bne,↓ao,↓am,↓aa,aP,ty3,ty4,ty22,ty25,ty26,ty28,ty29,ty64,ty66])
def n35K:List (Nat×List Nat):=[(0,[0]),(1,[0]),(2,[0,19]),(3,[2]),(4,[2])]
def n35A:List (Nat×List Nat×List Nat):=[(19,[],[0])]
def n35:cL where
 keep:=ax n35K
 ro:=fun _=>false
 mv:=fun _=>false
 give:=fun _=>false
 free:=fun i=>match i with|2=>[(0,4),(1,4),(2,4),(3,4),(0,5),(1,5),(2,5),(3,5),(0,6),(1,6),(2,6),(3,6),(0,7),(1,7),(2,7),(3,7),(0,8),(1,8),(2,8),(3,8)]|4=>[(0,4),(1,4),(2,4),(3,4),(0,5),(1,5),(2,5),(3,5),(0,6),(1,6),(2,6),(3,6),(0,7),(1,7),(2,7),(3,7),(0,8),(1,8),(2,8),(3,8)]|_=>[]
 alive:=av n35A
theorem n35a (t:Nat) (x:Bool) (e:Env) (S:bH):cK n35 t x ⟨e,S⟩=atO (av n35A t x) e S:=cF rfl t x e S
theorem n35k (i:Nat):n35.keep i=ax n35K i:=rfl
theorem n35mv (t:Nat):n35.mv t=(false):=rfl
theorem n35f2:n35.free 2= [(0,4),(1,4),(2,4),(3,4),(0,5),(1,5),(2,5),(3,5),(0,6),(1,6),(2,6),(3,6),(0,7),(1,7),(2,7),(3,7),(0,8),(1,8),(2,8),(3,8)]:=rfl
theorem n35f4:n35.free 4= [(0,4),(1,4),(2,4),(3,4),(0,5),(1,5),(2,5),(3,5),(0,6),(1,6),(2,6),(3,6),(0,7),(1,7),(2,7),(3,7),(0,8),(1,8),(2,8),(3,8)]:=rfl
theorem res35:Try.f35.results.toList= [.tmp 2]:=rfl
noncomputable def b35:Code:=aU Try.f35
theorem r_rrscan_next (C:aj)  (p0:Gscan) (r:Int×Gscan) (hF:rrscan_next p0=some r):cR TT C.wide (evW TT C.wide n35 b35) n35 Try.f35.results.toList (aU Try.f35) [.ptr 0 0] [[.v (.sl 1 (ah cE p0.fb)),.v (.i .i64 p0.fat)]]=some (.v (.i .i64 r.1),[[.v (.sl 1 (ah cE r.2.fb)),.v (.i .i64 r.2.fat)]]):=by
 revert hF
 unfold rrscan_next
 refine aX (fun h1=>?_) (fun h1=>?_)
 rotate_left 1
 refine az fun x1 h2=>?_
 have g1:decide (0≤(IntKind.i64.wrap ((IntKind.i64.wrap (p0.fat+1))-1)))=true:=(cp h2).1
 have g2:(ah cE p0.fb)[((IntKind.i64.wrap ((IntKind.i64.wrap (p0.fat+1))-1)):Int).toNat]? =some [.i .u8 x1]:=cn _ h2
 all_goals (rintro⟨⟩;rw [bk];show cC _ _ _ (aH _ _ _ _ (Code.seq _ _) _)=_;simp (maxSteps:=4000000) only [*,res35,n35a,n35A,n35k,n35K,n35f2,n35f4,n35mv,↓RP,RB,enter,be,bf,aJ,Mx.bl,opnd,Mx.bI,Nat.reduceBEq,bQ,Mx.fit,co,cellsOf,aN,aA,ay,Mx.put,ofConst,ofCell,Mx.prune,killB,aK,putDst,aw,aE,loadAt,bT,List.map,Nat.reduceAdd,cz,cB,cu,aC,bu,bx,cA,bS,bJ,aM,lowC,bj,kill,fineE,oddAl,bG,setCells,Nat.reduceSub,Nat.reduceLeDiff,bM,cd,au,aI,aY,cm,bL,cv,ch,bo,aL,bm,bp,bd,Op.operands,ax,av,atO,cy,cx,↓ao,↓am,↓aa,↓aq,br,bN,Call.operands,ty3,ty5,ty22,ty87])
def n34K:List (Nat×List Nat):=[(0,[0]),(1,[0,3]),(2,[0,3,4]),(3,[0,3,4,6]),(4,[0,3,4]),(5,[0,3,4]),(6,[2])]
def n34A:List (Nat×List Nat×List Nat):=[(6,[0,3,4],[3])]
def n34:cL where
 keep:=ax n34K
 ro:=fun _=>false
 mv:=fun _=>false
 give:=fun _=>false
 free:=fun _=>[]
 alive:=av n34A
theorem n34a (t:Nat) (x:Bool) (e:Env) (S:bH):cK n34 t x ⟨e,S⟩=atO (av n34A t x) e S:=cF rfl t x e S
theorem n34k (i:Nat):n34.keep i=ax n34K i:=rfl
theorem n34gv (t:Nat):n34.give t=(false):=rfl
theorem res34:Try.f34.results.toList= [.tmp 2]:=rfl
noncomputable def b34:Code:=aU Try.f34
noncomputable def c34_0:Code:=(bE 0 (aU Try.f34)).getD .skip
theorem fl34_0:bE 0 b34=some c34_0:=rfl
def hd_rrscan_long_0  (s:Int×Int×Gscan):St:=⟨[(0,.ptr 0 0),(3,.v (.i .i64 s.1)),(4,.v (.i .i64 s.2.1))],[[.v (.sl 1 (ah cE s.2.2.fb)),.v (.i .i64 s.2.2.fat)]]⟩
def ou_rrscan_long_0  (r:Int×Gscan):Option (Ex×St):=some (.normal,⟨[(3,.v (.i .i64 r.1))],[[.v (.sl 1 (ah cE r.2.fb)),.v (.i .i64 r.2.fat)]]⟩)
theorem sl_rrscan_long_0 (C:aj) (k_rrscan_next:K_rrscan_next C)  (s:Int×Int×Gscan) (o:(Int×Int×Gscan)⊕(Int×Gscan)) (hF:st_rrscan_long_0  s=some o):evW TT C.wide n34 b34 0 (hd_rrscan_long_0  s)=Sum.elim (fun s=>evW TT C.wide n34 b34 0 (hd_rrscan_long_0  s)) (fun r=>ou_rrscan_long_0  r) o:=by
 obtain⟨p0,p1,p2⟩:=s
 rw [cG TT n34 fl34_0]
 revert hF
 unfold st_rrscan_long_0
 try dsimp only
 refine bF (fun h1=>?_) (fun h1=>?_)
 rotate_left 1
 refine az ?_
 rintro⟨x1,x2⟩ h2
 dsimp only
 have g1:C.wide 35 [.ptr 0 0] [[.v (.sl 1 (ah cE p2.fb)),.v (.i .i64 p2.fat)]]=some (.v (.i .i64 x1),[[.v (.sl 1 (ah cE x2.fb)),.v (.i .i64 x2.fat)]]):=cX [0] rfl rfl rfl rfl (k_rrscan_next p2 _ h2) rfl rfl
 all_goals (rintro⟨⟩;show cN _ _ _ (aH _ _ _ _ (Code.seq _ _) _)=_;simp (maxSteps:=4000000) only [*,hd_rrscan_long_0,ou_rrscan_long_0,n34a,n34A,n34k,n34K,n34gv,↓RP,RB,↓ab,be,bf,aJ,Mx.bl,opnd,Mx.bI,Nat.reduceBEq,bQ,Mx.fit,co,aN,aA,Mx.put,ofConst,ofCell,Mx.prune,killB,aK,putDst,aw,ar,List.map,cz,cB,bJ,aM,bD,forceAll,kill,lend,lendA,aS,aB,bR,bare,bW,frz,cq,bw,argE,argsE,ax,av,atO,newB,cw,cy,cx,↓ao,↓am,↓aa,ty3])
theorem r_rrscan_long (C:aj) (k_rrscan_next:K_rrscan_next C) (p0:Gscan) (r:Int×Gscan) (hF:rrscan_long p0=some r):cR TT C.wide (evW TT C.wide n34 b34) n34 Try.f34.results.toList (aU Try.f34) [.ptr 0 0] [[.v (.sl 1 (ah cE p0.fb)),.v (.i .i64 p0.fat)]]=some (.v (.i .i64 r.1),[[.v (.sl 1 (ah cE r.2.fb)),.v (.i .i64 r.2.fat)]]):=by
 revert hF
 unfold rrscan_long
 refine az ?_
 rintro⟨x1,x2⟩ h1
 dsimp only
 have g1:=cH _ _ (sl_rrscan_long_0 C k_rrscan_next) h1
 try simp only [hd_rrscan_long_0,ou_rrscan_long_0] at g1
 all_goals (rintro⟨⟩;rw [bk];show cC _ _ _ (aH _ _ _ _ (Code.seq _ _) _)=_;simp (maxSteps:=4000000) only [*,res34,n34k,n34K,↓RP,RB,enter,be,bf,aJ,Mx.bl,opnd,Mx.bI,Nat.reduceBEq,bQ,Mx.fit,co,aN,aA,Mx.put,ofConst,ofCell,Mx.prune,killB,aK,putDst,aw,List.map,cz,cB,aC,bu,bx,cA,bS,bJ,aM,lowC,ax,cy,cx,↓ao,↓aa,ty3])
def n36K:List (Nat×List Nat):=[(0,[0]),(1,[2])]
def n36:cL where
 keep:=ax n36K
 ro:=fun _=>false
 mv:=fun _=>false
 give:=fun _=>false
 free:=fun i=>match i with|1=>[(0,4),(1,4),(2,4),(3,4),(0,5),(1,5),(2,5),(3,5),(0,6),(1,6),(2,6),(3,6),(0,7),(1,7),(2,7),(3,7),(0,8),(1,8),(2,8),(3,8)]|_=>[]
theorem n36k (i:Nat):n36.keep i=ax n36K i:=rfl
theorem n36mv (t:Nat):n36.mv t=(false):=rfl
theorem n36f1:n36.free 1= [(0,4),(1,4),(2,4),(3,4),(0,5),(1,5),(2,5),(3,5),(0,6),(1,6),(2,6),(3,6),(0,7),(1,7),(2,7),(3,7),(0,8),(1,8),(2,8),(3,8)]:=rfl
theorem res36:Try.f36.results.toList= [.tmp 2]:=rfl
noncomputable def b36:Code:=aU Try.f36
theorem r_rrscan_over (C:aj)  (p0:Gscan) (r:Bool×Gscan) (hF:rrscan_over p0=some r):cR TT C.wide (evW TT C.wide n36 b36) n36 Try.f36.results.toList (aU Try.f36) [.ptr 0 0] [[.v (.sl 1 (ah cE p0.fb)),.v (.i .i64 p0.fat)]]=some (.v (.b r.1),[[.v (.sl 1 (ah cE r.2.fb)),.v (.i .i64 r.2.fat)]]):=by
 revert hF
 unfold rrscan_over
 all_goals (rintro⟨⟩;rw [bk];show cC _ _ _ (aH _ _ _ _ (Code.seq _ _) _)=_;simp (maxSteps:=4000000) only [*,res36,n36k,n36K,n36f1,n36mv,↓RP,RB,enter,be,bf,aJ,Mx.bl,opnd,Mx.bI,Nat.reduceBEq,bQ,Mx.fit,co,aN,aA,ay,Mx.put,ofConst,ofCell,Mx.prune,killB,aK,putDst,aw,aE,loadAt,bT,List.map,cz,cB,cu,aC,bu,bx,cA,bS,bJ,aM,lowC,fineE,oddAl,bG,Nat.reduceSub,bM,cd,au,aI,aY,cm,bL,cv,ch,bo,aL,bm,bp,bd,Op.operands,ax,cy,cx,↓ao,↓aa,↓aq,br,bN,Call.operands,ty3,ty4,ty22,ty87])
def n37K:List (Nat×List Nat):=[(0,[0]),(1,[0,3]),(2,[0,3,4,25]),(3,[0,3,4,5,25]),(4,[0,3,4,5,16,25]),(5,[0,3,4,5,25]),(6,[0,3,4,5,6,25]),(7,[0,3,4,5,25]),(8,[2])]
def n37A:List (Nat×List Nat×List Nat):=[(16,[0,3,4,5,25],[4,25])]
def n37:cL where
 keep:=ax n37K
 ro:=fun _=>false
 mv:=fun _=>false
 give:=fun _=>false
 free:=fun _=>[]
 alive:=av n37A
theorem n37a (t:Nat) (x:Bool) (e:Env) (S:bH):cK n37 t x ⟨e,S⟩=atO (av n37A t x) e S:=cF rfl t x e S
theorem n37k (i:Nat):n37.keep i=ax n37K i:=rfl
theorem n37gv (t:Nat):n37.give t=(false):=rfl
theorem res37:Try.f37.results.toList= [.tmp 2]:=rfl
noncomputable def b37:Code:=aU Try.f37
noncomputable def c37_0:Code:=(bE 0 (aU Try.f37)).getD .skip
theorem fl37_0:bE 0 b37=some c37_0:=rfl
def hd_rrscan_str_0 (p0:Int) (s:(List Int)×Int×Gscan):St:=⟨[(0,.ptr 0 0),(3,.v (.i .i64 p0)),(4,.own 1 (ah cE s.1)),(5,.v (.i .i64 s.2.1)),(25,.bad)],[[.v (.sl 1 (ah cE s.2.2.fb)),.v (.i .i64 s.2.2.fat)]]⟩
def ou_rrscan_str_0 (p0:Int) (r:(List Int)×Gscan):Option (Ex×St):=some (.normal,⟨[(4,.own 1 (ah cE r.1)),(25,.bad)],[[.v (.sl 1 (ah cE r.2.fb)),.v (.i .i64 r.2.fat)]]⟩)
theorem sl_rrscan_str_0 (C:aj) (k_rrscan_over:K_rrscan_over C) (k_rrscan_next:K_rrscan_next C) (p0:Int) (s:(List Int)×Int×Gscan) (o:((List Int)×Int×Gscan)⊕((List Int)×Gscan)) (hF:st_rrscan_str_0 p0 s=some o):evW TT C.wide n37 b37 0 (hd_rrscan_str_0 p0 s)=Sum.elim (fun s=>evW TT C.wide n37 b37 0 (hd_rrscan_str_0 p0 s)) (fun r=>ou_rrscan_str_0 p0 r) o:=by
 obtain⟨p1,p2,p3⟩:=s
 rw [cG TT n37 fl37_0]
 revert hF
 unfold st_rrscan_str_0
 try dsimp only
 refine bF (fun h1=>?_) (fun h1=>?_)
 rotate_left 1
 refine az ?_
 rintro⟨x1,x2⟩ h2
 dsimp only
 have g1:C.wide 36 [.ptr 0 0] [[.v (.sl 1 (ah cE p3.fb)),.v (.i .i64 p3.fat)]]=some (.v (.b x1),[[.v (.sl 1 (ah cE x2.fb)),.v (.i .i64 x2.fat)]]):=cX [0] rfl rfl rfl rfl (k_rrscan_over p3 _ h2) rfl rfl
 refine aX (fun h3=>?_) (fun h3=>?_)
 rotate_left 1
 refine az ?_
 rintro⟨x3,x4⟩ h4
 dsimp only
 have g2:C.wide 35 [.ptr 0 0] [[.v (.sl 1 (ah cE x2.fb)),.v (.i .i64 x2.fat)]]=some (.v (.i .i64 x3),[[.v (.sl 1 (ah cE x4.fb)),.v (.i .i64 x4.fat)]]):=cX [0] rfl rfl rfl rfl (k_rrscan_next x2 _ h4) rfl rfl
 refine aX (fun h5=>?_) (fun _=>nofun)
 all_goals (rintro⟨⟩;show cN _ _ _ (aH _ _ _ _ (Code.seq _ _) _)=_;simp (maxSteps:=4000000) only [*,hd_rrscan_str_0,ou_rrscan_str_0,n37a,n37A,n37k,n37K,n37gv,↓RP,RB,↓ai,aQ,aD,be,bf,aJ,Mx.bl,opnd,Mx.bI,Nat.reduceBEq,bQ,Mx.fit,co,toVs,cellsOf,toV,aN,aA,Mx.put,ofConst,ofCell,Mx.prune,killB,aK,putDst,aw,ar,List.map,Nat.reduceMul,cz,cB,aO,bJ,aM,bD,forceAll,kill,spendLoc,spendOk,bO,lend,lendA,aS,aB,bR,bare,bW,frz,cq,bw,argE,argsE,bG,takeParts,bv,aR,Nat.reduceLeDiff,ax,av,atO,newB,cw,cy,cx,bne,↓ao,↓am,↓aa,bh,aF,ty3,ty5,ty22])
theorem r_rrscan_str (C:aj) (k_rrscan_next:K_rrscan_next C) (k_rrscan_over:K_rrscan_over C) (p0:Gscan) (r:ByteArray×Gscan) (hF:rrscan_str p0=some r):cR TT C.wide (evW TT C.wide n37 b37) n37 Try.f37.results.toList (aU Try.f37) [.ptr 0 0] [[.v (.sl 1 (ah cE p0.fb)),.v (.i .i64 p0.fat)]]=some (.v (.s r.1),[[.v (.sl 1 (ah cE r.2.fb)),.v (.i .i64 r.2.fat)]]):=by
 revert hF
 unfold rrscan_str
 refine az ?_
 rintro⟨x1,x2⟩ h1
 dsimp only
 have g1:C.wide 35 [.ptr 0 0] [[.v (.sl 1 (ah cE p0.fb)),.v (.i .i64 p0.fat)]]=some (.v (.i .i64 x1),[[.v (.sl 1 (ah cE x2.fb)),.v (.i .i64 x2.fat)]]):=cX [0] rfl rfl rfl rfl (k_rrscan_next p0 _ h1) rfl rfl
 refine az ?_
 rintro⟨x3,x4⟩ h2
 dsimp only
 have g2:=cH _ _ (sl_rrscan_str_0 C k_rrscan_over k_rrscan_next x1) h2
 try simp only [ak,hd_rrscan_str_0,ou_rrscan_str_0] at g2
 refine aX (fun h3=>?_) (fun _=>nofun)
 all_goals (rintro⟨⟩;rw [bk];show cC _ _ _ (aH _ _ _ _ (Code.seq _ _) _)=_;simp (maxSteps:=4000000) only [*,res37,n37k,n37K,n37gv,↓RP,RB,enter,be,bf,aJ,Mx.bl,opnd,Mx.bI,Nat.reduceBEq,bQ,Mx.fit,co,aN,aA,Mx.put,ofConst,ofCell,Mx.prune,killB,aK,putDst,aw,ar,List.map,aO,aC,bu,bx,cA,bS,bJ,aM,bD,lowC,forceAll,kill,lend,lendA,aS,aB,bR,bare,bW,frz,cq,bw,argE,argsE,ax,newB,cw,↓ao,↓aa,ty3,ty5,ty9,ty22])
def n39K:List (Nat×List Nat):=[(0,[0]),(1,[0,3]),(2,[0,3,4,24]),(3,[0,3,4,5,24]),(4,[0,3,4,5,16,24]),(5,[0,3,4,5,24]),(6,[0,3,4,5,6,24]),(7,[0,3,4,5,24]),(8,[2,4,24,25])]
def n39A:List (Nat×List Nat×List Nat):=[(16,[0,3,4,5,24],[4,24])]
def n39:cL where
 keep:=ax n39K
 ro:=fun _=>false
 mv:=fun _=>false
 give:=fun _=>false
 free:=fun _=>[]
 alive:=av n39A
theorem n39a (t:Nat) (x:Bool) (e:Env) (S:bH):cK n39 t x ⟨e,S⟩=atO (av n39A t x) e S:=cF rfl t x e S
theorem n39k (i:Nat):n39.keep i=ax n39K i:=rfl
theorem n39gv (t:Nat):n39.give t=(false):=rfl
theorem res39:Try.f39.results.toList= [.tmp 2]:=rfl
noncomputable def b39:Code:=aU Try.f39
noncomputable def c39_0:Code:=(bE 0 (aU Try.f39)).getD .skip
theorem fl39_0:bE 0 b39=some c39_0:=rfl
def hd_rrscan_strs_0 (p0:Int) (s:(List ByteArray)×Int×Gscan):St:=⟨[(0,.ptr 0 0),(3,.v (.i .i64 p0)),(4,.own 1 (ah bY s.1)),(5,.v (.i .i64 s.2.1)),(24,.bad)],[[.v (.sl 1 (ah cE s.2.2.fb)),.v (.i .i64 s.2.2.fat)]]⟩
def ou_rrscan_strs_0 (p0:Int) (r:(List ByteArray)×Gscan):Option (Ex×St):=some (.normal,⟨[(4,.own 1 (ah bY r.1)),(24,.bad)],[[.v (.sl 1 (ah cE r.2.fb)),.v (.i .i64 r.2.fat)]]⟩)
theorem sl_rrscan_strs_0 (C:aj) (k_rrscan_over:K_rrscan_over C) (k_rrscan_str:K_rrscan_str C) (p0:Int) (s:(List ByteArray)×Int×Gscan) (o:((List ByteArray)×Int×Gscan)⊕((List ByteArray)×Gscan)) (hF:st_rrscan_strs_0 p0 s=some o):evW TT C.wide n39 b39 0 (hd_rrscan_strs_0 p0 s)=Sum.elim (fun s=>evW TT C.wide n39 b39 0 (hd_rrscan_strs_0 p0 s)) (fun r=>ou_rrscan_strs_0 p0 r) o:=by
 obtain⟨p1,p2,p3⟩:=s
 rw [cG TT n39 fl39_0]
 revert hF
 unfold st_rrscan_strs_0
 try dsimp only
 refine bF (fun h1=>?_) (fun h1=>?_)
 rotate_left 1
 refine az ?_
 rintro⟨x1,x2⟩ h2
 dsimp only
 have g1:C.wide 36 [.ptr 0 0] [[.v (.sl 1 (ah cE p3.fb)),.v (.i .i64 p3.fat)]]=some (.v (.b x1),[[.v (.sl 1 (ah cE x2.fb)),.v (.i .i64 x2.fat)]]):=cX [0] rfl rfl rfl rfl (k_rrscan_over p3 _ h2) rfl rfl
 refine aX (fun h3=>?_) (fun h3=>?_)
 rotate_left 1
 refine az ?_
 rintro⟨x3,x4⟩ h4
 dsimp only
 have g2:C.wide 37 [.ptr 0 0] [[.v (.sl 1 (ah cE x2.fb)),.v (.i .i64 x2.fat)]]=some (.v (.s x3),[[.v (.sl 1 (ah cE x4.fb)),.v (.i .i64 x4.fat)]]):=cX [0] rfl rfl rfl rfl (k_rrscan_str x2 _ h4) rfl rfl
 refine aX (fun h5=>?_) (fun _=>nofun)
 all_goals (rintro⟨⟩;show cN _ _ _ (aH _ _ _ _ (Code.seq _ _) _)=_;simp (maxSteps:=4000000) only [*,hd_rrscan_strs_0,ou_rrscan_strs_0,n39a,n39A,n39k,n39K,n39gv,↓RP,RB,↓ai,aQ,aD,be,bf,aJ,Mx.bl,opnd,Mx.bI,Nat.reduceBEq,bQ,Mx.fit,co,toVs,cellsOf,toV,aN,aA,Mx.put,ofConst,ofCell,Mx.prune,killB,aK,putDst,aw,ar,List.map,Nat.reduceMul,cz,cB,aO,bJ,aM,bD,forceAll,kill,spendLoc,spendOk,bO,lend,lendA,aS,aB,bR,bare,bW,frz,cq,bw,argE,argsE,bG,takeParts,bv,aR,Nat.reduceLeDiff,ax,av,atO,newB,cw,cy,cx,bne,↓ao,↓am,↓aa,bh,aF,ty3,ty9,ty71])
theorem r_rrscan_strs (C:aj) (k_rrscan_next:K_rrscan_next C) (k_rrscan_over:K_rrscan_over C) (k_rrscan_str:K_rrscan_str C) (p0:Gscan) (r:(List ByteArray)×Gscan) (hF:rrscan_strs p0=some r):cR TT C.wide (evW TT C.wide n39 b39) n39 Try.f39.results.toList (aU Try.f39) [.ptr 0 0] [[.v (.sl 1 (ah cE p0.fb)),.v (.i .i64 p0.fat)]]=some (.own 1 (ah bY r.1),[[.v (.sl 1 (ah cE r.2.fb)),.v (.i .i64 r.2.fat)]]):=by
 revert hF
 unfold rrscan_strs
 refine az ?_
 rintro⟨x1,x2⟩ h1
 dsimp only
 have g1:C.wide 35 [.ptr 0 0] [[.v (.sl 1 (ah cE p0.fb)),.v (.i .i64 p0.fat)]]=some (.v (.i .i64 x1),[[.v (.sl 1 (ah cE x2.fb)),.v (.i .i64 x2.fat)]]):=cX [0] rfl rfl rfl rfl (k_rrscan_next p0 _ h1) rfl rfl
 refine az ?_
 rintro⟨x3,x4⟩ h2
 dsimp only
 have g2:=cH _ _ (sl_rrscan_strs_0 C k_rrscan_over k_rrscan_str x1) h2
 try simp only [ak,hd_rrscan_strs_0,ou_rrscan_strs_0] at g2
 all_goals (rintro⟨⟩;rw [bk];show cC _ _ _ (aH _ _ _ _ (Code.seq _ _) _)=_;simp (maxSteps:=4000000) only [*,res39,n39k,n39K,n39gv,↓RP,RB,enter,be,bf,aJ,Mx.bl,opnd,Mx.bI,Nat.reduceBEq,bQ,Mx.fit,co,aN,aA,Mx.put,ofConst,ofCell,Mx.prune,killB,aK,putDst,aw,ar,List.map,aC,bu,bx,cA,bS,bJ,aM,bD,lowC,forceAll,kill,ct,lend,lendA,aS,aB,bR,bare,bW,frz,cq,bw,argE,argsE,bG,ax,newB,cw,↓ao,↓aa,ty3,ty71])
def n38K:List (Nat×List Nat):=[(0,[0,2]),(1,[0,2,3]),(2,[0,2,3]),(3,[0,2,3]),(4,[0,2,3]),(5,[0,2,3,4]),(6,[0,2,3,4,5]),(7,[0,2,3,4,5,28]),(8,[0,2,3,4,5]),(9,[0,2,3,4,5,6]),(10,[0,2,3,4,5,6]),(11,[0,2,3,4,5,6]),(12,[0,2,3,4,5]),(13,[0,2,3]),(14,[0,2,3,4]),(15,[0,2,3,4,7]),(16,[0,2,3,4,7,56]),(17,[0,2,3,4,7]),(18,[0,2,3,4,7,8]),(19,[0,2,3,4,7,8]),(20,[0,2,3,4,7,8]),(21,[0,2,3,4,7]),(22,[2])]
def n38A:List (Nat×List Nat×List Nat):=[(28,[0,2,3,4,5],[0,2,3]),(56,[0,2,3,4,7],[2,3])]
def n38:cL where
 keep:=ax n38K
 ro:=fun _=>false
 mv:=fun t=>t==72
 give:=fun _=>false
 free:=fun _=>[]
 alive:=av n38A
theorem n38a (t:Nat) (x:Bool) (e:Env) (S:bH):cK n38 t x ⟨e,S⟩=atO (av n38A t x) e S:=cF rfl t x e S
theorem n38k (i:Nat):n38.keep i=ax n38K i:=rfl
theorem n38mv (t:Nat):n38.mv t=(t==72):=rfl
theorem n38gv (t:Nat):n38.give t=(false):=rfl
theorem res38:Try.f38.results.toList= [.cell 2 74]:=rfl
noncomputable def b38:Code:=aU Try.f38
noncomputable def c38_0:Code:=(bE 0 (aU Try.f38)).getD .skip
theorem fl38_0:bE 0 b38=some c38_0:=rfl
noncomputable def c38_2:Code:=(bE 2 (aU Try.f38)).getD .skip
theorem fl38_2:bE 2 b38=some c38_2:=rfl
def hd_rrscan_valueNext_0 (p0:Int) (s:Int×Gscan×GValue):St:=⟨[(0,.ptr 0 0),(2,.ptr 1 0),(3,.ptr 2 0),(4,.v (.i .i64 p0)),(5,.v (.i .i64 s.1))],[[.v (.sl 1 (ah cE s.2.1.fb)),.v (.i .i64 s.2.1.fat)],[.v (.i .i64 0),.v (.s ByteArray.empty),.v (.i .i64 0),.own 2 [],.own 1 [],.own 2 []],[.v (.i .i64 s.2.2.fKind),.v (.s s.2.2.fText),.v (.i .i64 s.2.2.fCount),.own 2 (ah GPair.row s.2.2.fPairs),.own 1 (ah bY s.2.2.fItems),.own 2 (ah GScore.row s.2.2.fScores)]]⟩
def ou_rrscan_valueNext_0 (p0:Int) (r:Gscan×GValue):Option (Ex×St):=some (.normal,⟨[(0,.ptr 0 0),(2,.ptr 1 0),(3,.ptr 2 0)],[[.v (.sl 1 (ah cE r.1.fb)),.v (.i .i64 r.1.fat)],[.v (.i .i64 0),.v (.s ByteArray.empty),.v (.i .i64 0),.own 2 [],.own 1 [],.own 2 []],[.v (.i .i64 r.2.fKind),.v (.s r.2.fText),.v (.i .i64 r.2.fCount),.own 2 (ah GPair.row r.2.fPairs),.own 1 (ah bY r.2.fItems),.own 2 (ah GScore.row r.2.fScores)]]⟩)
theorem sl_rrscan_valueNext_0 (C:aj) (k_rrscan_over:K_rrscan_over C) (k_rrscan_str:K_rrscan_str C) (p0:Int) (s:Int×Gscan×GValue) (o:(Int×Gscan×GValue)⊕(Gscan×GValue)) (hF:st_rrscan_valueNext_0 p0 s=some o):evW TT C.wide n38 b38 0 (hd_rrscan_valueNext_0 p0 s)=Sum.elim (fun s=>evW TT C.wide n38 b38 0 (hd_rrscan_valueNext_0 p0 s)) (fun r=>ou_rrscan_valueNext_0 p0 r) o:=by
 obtain⟨p1,p2,p3⟩:=s
 rw [cG TT n38 fl38_0]
 revert hF
 unfold st_rrscan_valueNext_0
 try dsimp only
 refine bF (fun h1=>?_) (fun h1=>?_)
 rotate_left 1
 refine az ?_
 rintro⟨x1,x2⟩ h2
 dsimp only
 have g1:C.wide 36 [.ptr 0 0] [[.v (.sl 1 (ah cE p2.fb)),.v (.i .i64 p2.fat)],[.v (.i .i64 0),.v (.s ByteArray.empty),.v (.i .i64 0),.own 2 [],.own 1 [],.own 2 []],[.v (.i .i64 p3.fKind),.v (.s p3.fText),.v (.i .i64 p3.fCount),.own 2 (ah GPair.row p3.fPairs),.own 1 (ah bY p3.fItems),.own 2 (ah GScore.row p3.fScores)]]=some (.v (.b x1),[[.v (.sl 1 (ah cE x2.fb)),.v (.i .i64 x2.fat)],[.v (.i .i64 0),.v (.s ByteArray.empty),.v (.i .i64 0),.own 2 [],.own 1 [],.own 2 []],[.v (.i .i64 p3.fKind),.v (.s p3.fText),.v (.i .i64 p3.fCount),.own 2 (ah GPair.row p3.fPairs),.own 1 (ah bY p3.fItems),.own 2 (ah GScore.row p3.fScores)]]):=cX [0] rfl rfl rfl rfl (k_rrscan_over p2 _ h2) rfl rfl
 refine aX (fun h3=>?_) (fun h3=>?_)
 rotate_left 1
 refine az ?_
 rintro⟨x3,x4⟩ h4
 dsimp only
 have g2:C.wide 37 [.ptr 0 0] [[.v (.sl 1 (ah cE x2.fb)),.v (.i .i64 x2.fat)],[.v (.i .i64 0),.v (.s ByteArray.empty),.v (.i .i64 0),.own 2 [],.own 1 [],.own 2 []],[.v (.i .i64 p3.fKind),.v (.s p3.fText),.v (.i .i64 p3.fCount),.own 2 (ah GPair.row p3.fPairs),.own 1 (ah bY p3.fItems),.own 2 (ah GScore.row p3.fScores)],[.v (.s ByteArray.empty),.v (.s ByteArray.empty)]]=some (.v (.s x3),[[.v (.sl 1 (ah cE x4.fb)),.v (.i .i64 x4.fat)],[.v (.i .i64 0),.v (.s ByteArray.empty),.v (.i .i64 0),.own 2 [],.own 1 [],.own 2 []],[.v (.i .i64 p3.fKind),.v (.s p3.fText),.v (.i .i64 p3.fCount),.own 2 (ah GPair.row p3.fPairs),.own 1 (ah bY p3.fItems),.own 2 (ah GScore.row p3.fScores)],[.v (.s ByteArray.empty),.v (.s ByteArray.empty)]]):=cX [0] rfl rfl rfl rfl (k_rrscan_str x2 _ h4) rfl rfl
 refine az ?_
 rintro⟨x5,x6⟩ h5
 dsimp only
 have g3:C.wide 37 [.ptr 0 0] [[.v (.sl 1 (ah cE x4.fb)),.v (.i .i64 x4.fat)],[.v (.i .i64 0),.v (.s ByteArray.empty),.v (.i .i64 0),.own 2 [],.own 1 [],.own 2 []],[.v (.i .i64 p3.fKind),.v (.s p3.fText),.v (.i .i64 p3.fCount),.own 2 (ah GPair.row p3.fPairs),.own 1 (ah bY p3.fItems),.own 2 (ah GScore.row p3.fScores)],[.v (.s x3),.v (.s ByteArray.empty)]]=some (.v (.s x5),[[.v (.sl 1 (ah cE x6.fb)),.v (.i .i64 x6.fat)],[.v (.i .i64 0),.v (.s ByteArray.empty),.v (.i .i64 0),.own 2 [],.own 1 [],.own 2 []],[.v (.i .i64 p3.fKind),.v (.s p3.fText),.v (.i .i64 p3.fCount),.own 2 (ah GPair.row p3.fPairs),.own 1 (ah bY p3.fItems),.own 2 (ah GScore.row p3.fScores)],[.v (.s x3),.v (.s ByteArray.empty)]]):=cX [0] rfl rfl rfl rfl (k_rrscan_str x4 _ h5) rfl rfl
 refine aX (fun h6=>?_) (fun _=>nofun)
 all_goals (rintro⟨⟩;show cN _ _ _ (aH _ _ _ _ (Code.seq _ _) _)=_;simp (maxSteps:=4000000) only [*,hd_rrscan_valueNext_0,ou_rrscan_valueNext_0,n38a,n38A,n38k,n38K,n38mv,n38gv,↓RP,RB,↓ai,aQ,aD,be,bf,aJ,Mx.bl,opnd,Mx.bI,Nat.reduceBEq,bQ,Mx.fit,bP,co,toVs,cellsOf,toV,aN,aA,ay,Mx.put,ofConst,ofCell,Mx.prune,killB,killBs,aK,putDst,aw,ar,aE,loadAt,List.map,Nat.reduceAdd,Nat.reduceMul,cz,cB,aO,bJ,aM,bD,lowC,forceAll,kill,spendLoc,spendOk,lend,lendA,aS,aB,bR,bare,bW,frz,cq,bw,argE,argsE,bG,fill,setCells,takeParts,bv,aR,Nat.reduceLT,Nat.reduceLeDiff,lowA,bn,ax,av,atO,newB,cw,cy,cx,bne,↓ao,↓am,↓aa,bh,aP,aF,ty3,ty9,ty70,ty74,ty110,GPair.one])
def hd_rrscan_valueNext_2 (p0:Int) (s:Int×Gscan×GValue):St:=⟨[(0,.ptr 0 0),(2,.ptr 1 0),(3,.ptr 2 0),(4,.v (.i .i64 p0)),(7,.v (.i .i64 s.1))],[[.v (.sl 1 (ah cE s.2.1.fb)),.v (.i .i64 s.2.1.fat)],[.v (.i .i64 0),.v (.s ByteArray.empty),.v (.i .i64 0),.own 2 [],.own 1 [],.own 2 []],[.v (.i .i64 s.2.2.fKind),.v (.s s.2.2.fText),.v (.i .i64 s.2.2.fCount),.own 2 (ah GPair.row s.2.2.fPairs),.own 1 (ah bY s.2.2.fItems),.own 2 (ah GScore.row s.2.2.fScores)]]⟩
def ou_rrscan_valueNext_2 (p0:Int) (r:Gscan×GValue):Option (Ex×St):=some (.normal,⟨[(2,.ptr 1 0),(3,.ptr 2 0)],[[.v (.sl 1 (ah cE r.1.fb)),.v (.i .i64 r.1.fat)],[.v (.i .i64 0),.v (.s ByteArray.empty),.v (.i .i64 0),.own 2 [],.own 1 [],.own 2 []],[.v (.i .i64 r.2.fKind),.v (.s r.2.fText),.v (.i .i64 r.2.fCount),.own 2 (ah GPair.row r.2.fPairs),.own 1 (ah bY r.2.fItems),.own 2 (ah GScore.row r.2.fScores)]]⟩)
theorem sl_rrscan_valueNext_2 (C:aj) (k_rrscan_over:K_rrscan_over C) (k_rrscan_str:K_rrscan_str C) (k_rrscan_long:K_rrscan_long C) (p0:Int) (s:Int×Gscan×GValue) (o:(Int×Gscan×GValue)⊕(Gscan×GValue)) (hF:st_rrscan_valueNext_2 p0 s=some o):evW TT C.wide n38 b38 2 (hd_rrscan_valueNext_2 p0 s)=Sum.elim (fun s=>evW TT C.wide n38 b38 2 (hd_rrscan_valueNext_2 p0 s)) (fun r=>ou_rrscan_valueNext_2 p0 r) o:=by
 obtain⟨p1,p2,p3⟩:=s
 rw [cG TT n38 fl38_2]
 revert hF
 unfold st_rrscan_valueNext_2
 try dsimp only
 refine bF (fun h1=>?_) (fun h1=>?_)
 rotate_left 1
 refine az ?_
 rintro⟨x1,x2⟩ h2
 dsimp only
 have g1:C.wide 36 [.ptr 0 0] [[.v (.sl 1 (ah cE p2.fb)),.v (.i .i64 p2.fat)],[.v (.i .i64 0),.v (.s ByteArray.empty),.v (.i .i64 0),.own 2 [],.own 1 [],.own 2 []],[.v (.i .i64 p3.fKind),.v (.s p3.fText),.v (.i .i64 p3.fCount),.own 2 (ah GPair.row p3.fPairs),.own 1 (ah bY p3.fItems),.own 2 (ah GScore.row p3.fScores)]]=some (.v (.b x1),[[.v (.sl 1 (ah cE x2.fb)),.v (.i .i64 x2.fat)],[.v (.i .i64 0),.v (.s ByteArray.empty),.v (.i .i64 0),.own 2 [],.own 1 [],.own 2 []],[.v (.i .i64 p3.fKind),.v (.s p3.fText),.v (.i .i64 p3.fCount),.own 2 (ah GPair.row p3.fPairs),.own 1 (ah bY p3.fItems),.own 2 (ah GScore.row p3.fScores)]]):=cX [0] rfl rfl rfl rfl (k_rrscan_over p2 _ h2) rfl rfl
 refine aX (fun h3=>?_) (fun h3=>?_)
 rotate_left 1
 refine az ?_
 rintro⟨x3,x4⟩ h4
 dsimp only
 have g2:C.wide 37 [.ptr 0 0] [[.v (.sl 1 (ah cE x2.fb)),.v (.i .i64 x2.fat)],[.v (.i .i64 0),.v (.s ByteArray.empty),.v (.i .i64 0),.own 2 [],.own 1 [],.own 2 []],[.v (.i .i64 p3.fKind),.v (.s p3.fText),.v (.i .i64 p3.fCount),.own 2 (ah GPair.row p3.fPairs),.own 1 (ah bY p3.fItems),.own 2 (ah GScore.row p3.fScores)],[.v (.s ByteArray.empty),.v (.i .i64 0)]]=some (.v (.s x3),[[.v (.sl 1 (ah cE x4.fb)),.v (.i .i64 x4.fat)],[.v (.i .i64 0),.v (.s ByteArray.empty),.v (.i .i64 0),.own 2 [],.own 1 [],.own 2 []],[.v (.i .i64 p3.fKind),.v (.s p3.fText),.v (.i .i64 p3.fCount),.own 2 (ah GPair.row p3.fPairs),.own 1 (ah bY p3.fItems),.own 2 (ah GScore.row p3.fScores)],[.v (.s ByteArray.empty),.v (.i .i64 0)]]):=cX [0] rfl rfl rfl rfl (k_rrscan_str x2 _ h4) rfl rfl
 refine az ?_
 rintro⟨x5,x6⟩ h5
 dsimp only
 have g3:C.wide 34 [.ptr 0 0] [[.v (.sl 1 (ah cE x4.fb)),.v (.i .i64 x4.fat)],[.v (.i .i64 0),.v (.s ByteArray.empty),.v (.i .i64 0),.own 2 [],.own 1 [],.own 2 []],[.v (.i .i64 p3.fKind),.v (.s p3.fText),.v (.i .i64 p3.fCount),.own 2 (ah GPair.row p3.fPairs),.own 1 (ah bY p3.fItems),.own 2 (ah GScore.row p3.fScores)],[.v (.s x3),.v (.i .i64 0)]]=some (.v (.i .i64 x5),[[.v (.sl 1 (ah cE x6.fb)),.v (.i .i64 x6.fat)],[.v (.i .i64 0),.v (.s ByteArray.empty),.v (.i .i64 0),.own 2 [],.own 1 [],.own 2 []],[.v (.i .i64 p3.fKind),.v (.s p3.fText),.v (.i .i64 p3.fCount),.own 2 (ah GPair.row p3.fPairs),.own 1 (ah bY p3.fItems),.own 2 (ah GScore.row p3.fScores)],[.v (.s x3),.v (.i .i64 0)]]):=cX [0] rfl rfl rfl rfl (k_rrscan_long x4 _ h5) rfl rfl
 refine aX (fun h6=>?_) (fun _=>nofun)
 all_goals (rintro⟨⟩;show cN _ _ _ (aH _ _ _ _ (Code.seq _ _) _)=_;simp (maxSteps:=4000000) only [*,hd_rrscan_valueNext_2,ou_rrscan_valueNext_2,n38a,n38A,n38k,n38K,n38mv,n38gv,↓RP,RB,↓ai,aQ,aD,be,bf,aJ,Mx.bl,opnd,Mx.bI,Nat.reduceBEq,bQ,Mx.fit,bP,co,toVs,cellsOf,toV,aN,aA,ay,Mx.put,ofConst,ofCell,Mx.prune,killB,killBs,aK,putDst,aw,ar,aE,loadAt,List.map,Nat.reduceAdd,Nat.reduceMul,cz,cB,aO,bJ,aM,bD,lowC,forceAll,kill,spendLoc,spendOk,lend,lendA,aS,aB,bR,bare,bW,frz,cq,bw,argE,argsE,bG,fill,setCells,takeParts,bv,aR,Nat.reduceLT,Nat.reduceLeDiff,lowA,bn,ax,av,atO,newB,cw,cy,cx,bne,↓ao,↓am,↓aa,bh,aP,aF,ty3,ty9,ty72,ty74,ty112,GScore.one])
theorem r_rrscan_valueNext (C:aj) (k_rrscan_next:K_rrscan_next C) (k_rrscan_str:K_rrscan_str C) (k_rrscan_long:K_rrscan_long C) (k_rrscan_strs:K_rrscan_strs C) (k_rrscan_over:K_rrscan_over C) (p0:Gscan) (r:GValue×Gscan) (hF:rrscan_valueNext p0=some r):cR TT C.wide (evW TT C.wide n38 b38) n38 Try.f38.results.toList (aU Try.f38) [.ptr 0 0] [[.v (.sl 1 (ah cE p0.fb)),.v (.i .i64 p0.fat)]]=some (.agg [.v (.i .i64 r.1.fKind),.v (.s r.1.fText),.v (.i .i64 r.1.fCount),.own 2 (ah GPair.row r.1.fPairs),.own 1 (ah bY r.1.fItems),.own 2 (ah GScore.row r.1.fScores)],[[.v (.sl 1 (ah cE r.2.fb)),.v (.i .i64 r.2.fat)]]):=by
 revert hF
 unfold rrscan_valueNext
 refine az ?_
 rintro⟨x1,x2⟩ h1
 dsimp only
 have g1:C.wide 35 [.ptr 0 0] [[.v (.sl 1 (ah cE p0.fb)),.v (.i .i64 p0.fat)],[.v (.i .i64 0),.v (.s ByteArray.empty),.v (.i .i64 0),.own 2 [],.own 1 [],.own 2 []],[.v (.i .i64 0),.v (.s ByteArray.empty),.v (.i .i64 0),.own 2 [],.own 1 [],.own 2 []]]=some (.v (.i .i64 x1),[[.v (.sl 1 (ah cE x2.fb)),.v (.i .i64 x2.fat)],[.v (.i .i64 0),.v (.s ByteArray.empty),.v (.i .i64 0),.own 2 [],.own 1 [],.own 2 []],[.v (.i .i64 0),.v (.s ByteArray.empty),.v (.i .i64 0),.own 2 [],.own 1 [],.own 2 []]]):=cX [0] rfl rfl rfl rfl (k_rrscan_next p0 _ h1) rfl rfl
 refine az ?_
 rintro⟨x3,x4⟩ h2
 dsimp only
 have g2:C.wide 37 [.ptr 0 0] [[.v (.sl 1 (ah cE x2.fb)),.v (.i .i64 x2.fat)],[.v (.i .i64 0),.v (.s ByteArray.empty),.v (.i .i64 0),.own 2 [],.own 1 [],.own 2 []],[.v (.i .i64 x1),.v (.s ByteArray.empty),.v (.i .i64 0),.own 2 [],.own 1 [],.own 2 []]]=some (.v (.s x3),[[.v (.sl 1 (ah cE x4.fb)),.v (.i .i64 x4.fat)],[.v (.i .i64 0),.v (.s ByteArray.empty),.v (.i .i64 0),.own 2 [],.own 1 [],.own 2 []],[.v (.i .i64 x1),.v (.s ByteArray.empty),.v (.i .i64 0),.own 2 [],.own 1 [],.own 2 []]]):=cX [0] rfl rfl rfl rfl (k_rrscan_str x2 _ h2) rfl rfl
 refine az ?_
 rintro⟨x5,x6⟩ h3
 dsimp only
 have g3:C.wide 34 [.ptr 0 0] [[.v (.sl 1 (ah cE x4.fb)),.v (.i .i64 x4.fat)],[.v (.i .i64 0),.v (.s ByteArray.empty),.v (.i .i64 0),.own 2 [],.own 1 [],.own 2 []],[.v (.i .i64 x1),.v (.s x3),.v (.i .i64 0),.own 2 [],.own 1 [],.own 2 []]]=some (.v (.i .i64 x5),[[.v (.sl 1 (ah cE x6.fb)),.v (.i .i64 x6.fat)],[.v (.i .i64 0),.v (.s ByteArray.empty),.v (.i .i64 0),.own 2 [],.own 1 [],.own 2 []],[.v (.i .i64 x1),.v (.s x3),.v (.i .i64 0),.own 2 [],.own 1 [],.own 2 []]]):=cX [0] rfl rfl rfl rfl (k_rrscan_long x4 _ h3) rfl rfl
 refine az ?_
 rintro⟨x7,x8⟩ h4
 dsimp only
 have g4:C.wide 35 [.ptr 0 0] [[.v (.sl 1 (ah cE x6.fb)),.v (.i .i64 x6.fat)],[.v (.i .i64 0),.v (.s ByteArray.empty),.v (.i .i64 0),.own 2 [],.own 1 [],.own 2 []],[.v (.i .i64 x1),.v (.s x3),.v (.i .i64 x5),.own 2 [],.own 1 [],.own 2 []]]=some (.v (.i .i64 x7),[[.v (.sl 1 (ah cE x8.fb)),.v (.i .i64 x8.fat)],[.v (.i .i64 0),.v (.s ByteArray.empty),.v (.i .i64 0),.own 2 [],.own 1 [],.own 2 []],[.v (.i .i64 x1),.v (.s x3),.v (.i .i64 x5),.own 2 [],.own 1 [],.own 2 []]]):=cX [0] rfl rfl rfl rfl (k_rrscan_next x6 _ h4) rfl rfl
 refine az ?_
 rintro⟨x9,x10⟩ h5
 dsimp only
 unfold rrscan_valueNext_c0
 have g5:=cH _ _ (sl_rrscan_valueNext_0 C k_rrscan_over k_rrscan_str x7) h5
 try simp only [ak,hd_rrscan_valueNext_0,ou_rrscan_valueNext_0] at g5
 refine az ?_
 rintro⟨x11,x12⟩ h6
 dsimp only
 have g6:C.wide 39 [.ptr 0 0] [[.v (.sl 1 (ah cE x9.fb)),.v (.i .i64 x9.fat)],[.v (.i .i64 0),.v (.s ByteArray.empty),.v (.i .i64 0),.own 2 [],.own 1 [],.own 2 []],[.v (.i .i64 x10.fKind),.v (.s x10.fText),.v (.i .i64 x10.fCount),.own 2 (ah GPair.row x10.fPairs),.own 1 (ah bY x10.fItems),.own 2 (ah GScore.row x10.fScores)]]=some (.own 1 (ah bY x11),[[.v (.sl 1 (ah cE x12.fb)),.v (.i .i64 x12.fat)],[.v (.i .i64 0),.v (.s ByteArray.empty),.v (.i .i64 0),.own 2 [],.own 1 [],.own 2 []],[.v (.i .i64 x10.fKind),.v (.s x10.fText),.v (.i .i64 x10.fCount),.own 2 (ah GPair.row x10.fPairs),.own 1 (ah bY x10.fItems),.own 2 (ah GScore.row x10.fScores)]]):=cX [0] rfl rfl rfl rfl (k_rrscan_strs x9 _ h6) rfl rfl
 refine az ?_
 rintro⟨x13,x14⟩ h7
 dsimp only
 have g7:C.wide 35 [.ptr 0 0] [[.v (.sl 1 (ah cE x12.fb)),.v (.i .i64 x12.fat)],[.v (.i .i64 0),.v (.s ByteArray.empty),.v (.i .i64 0),.own 2 [],.own 1 [],.own 2 []],[.v (.i .i64 x10.fKind),.v (.s x10.fText),.v (.i .i64 x10.fCount),.own 2 (ah GPair.row x10.fPairs),.own 1 (ah bY x11),.own 2 (ah GScore.row x10.fScores)]]=some (.v (.i .i64 x13),[[.v (.sl 1 (ah cE x14.fb)),.v (.i .i64 x14.fat)],[.v (.i .i64 0),.v (.s ByteArray.empty),.v (.i .i64 0),.own 2 [],.own 1 [],.own 2 []],[.v (.i .i64 x10.fKind),.v (.s x10.fText),.v (.i .i64 x10.fCount),.own 2 (ah GPair.row x10.fPairs),.own 1 (ah bY x11),.own 2 (ah GScore.row x10.fScores)]]):=cX [0] rfl rfl rfl rfl (k_rrscan_next x12 _ h7) rfl rfl
 refine az ?_
 rintro⟨x15,x16⟩ h8
 dsimp only
 have g8:=cH _ _ (sl_rrscan_valueNext_2 C k_rrscan_over k_rrscan_str k_rrscan_long x13) h8
 try simp only [hd_rrscan_valueNext_2,ou_rrscan_valueNext_2] at g8
 all_goals (rintro⟨⟩;rw [bk];show cC _ _ _ (aH _ _ _ _ (Code.seq _ _) _)=_;simp (maxSteps:=4000000) only [*,res38,n38k,n38K,n38mv,n38gv,↓RP,RB,enter,be,bf,aJ,Mx.bl,opnd,Mx.bI,Nat.reduceBEq,bQ,Mx.fit,bP,co,cellsOf,aN,aA,ay,Mx.put,ofConst,ofCell,Mx.prune,killB,killBs,aK,putDst,aw,ar,aE,List.map,Nat.reduceAdd,aC,bu,bx,cA,bS,bJ,aM,bD,lowC,forceAll,kill,lend,lendA,aS,aB,bR,bare,bW,frz,cq,bw,argE,argsE,bG,ce,fill,setCells,takeParts,Nat.reduceLeDiff,ax,newB,cw,bne,↓ao,↓aa,ty3,ty9,ty70,ty71,ty72,ty74])
def n40K:List (Nat×List Nat):=[(0,[0,1]),(1,[0,1,6]),(2,[4]),(3,[20]),(4,[4]),(5,[4])]
def n40A:List (Nat×List Nat×List Nat):=[(6,[],[0,1]),(20,[],[])]
def n40:cL where
 keep:=ax n40K
 ro:=fun _=>false
 mv:=fun _=>false
 give:=fun _=>false
 free:=fun i=>match i with|3=>[(3,7),(4,7),(5,7),(6,7),(3,8),(4,8),(5,8),(6,8),(3,9),(4,9),(5,9),(6,9),(3,10),(4,10),(5,10),(6,10),(3,11),(4,11),(5,11),(6,11)]|_=>[]
 alive:=av n40A
theorem n40a (t:Nat) (x:Bool) (e:Env) (S:bH):cK n40 t x ⟨e,S⟩=atO (av n40A t x) e S:=cF rfl t x e S
theorem n40k (i:Nat):n40.keep i=ax n40K i:=rfl
theorem n40mv (t:Nat):n40.mv t=(false):=rfl
theorem n40gv (t:Nat):n40.give t=(false):=rfl
theorem n40f3:n40.free 3= [(3,7),(4,7),(5,7),(6,7),(3,8),(4,8),(5,8),(6,8),(3,9),(4,9),(5,9),(6,9),(3,10),(4,10),(5,10),(6,10),(3,11),(4,11),(5,11),(6,11)]:=rfl
theorem res40:Try.f40.results.toList= [.tmp 4]:=rfl
noncomputable def b40:Code:=aU Try.f40
theorem r_rrscan_end (C:aj) (k_rrscan_over:K_rrscan_over C) (p0:Bool) (p1:Gscan) (r:Int×Gscan) (hF:rrscan_end p0 p1=some r):cR TT C.wide (evW TT C.wide n40 b40) n40 Try.f40.results.toList (aU Try.f40) [.ptr 0 0,.v (.b p0)] [[.v (.sl 1 (ah cE p1.fb)),.v (.i .i64 p1.fat)]]=some (.v (.i .i64 r.1),[[.v (.sl 1 (ah cE r.2.fb)),.v (.i .i64 r.2.fat)]]):=by
 revert hF
 unfold rrscan_end
 refine az ?_
 rintro⟨x1,x2⟩ h1
 dsimp only
 have g1:C.wide 36 [.ptr 0 0] [[.v (.sl 1 (ah cE p1.fb)),.v (.i .i64 p1.fat)]]=some (.v (.b x1),[[.v (.sl 1 (ah cE x2.fb)),.v (.i .i64 x2.fat)]]):=cX [0] rfl rfl rfl rfl (k_rrscan_over p1 _ h1) rfl rfl
 refine aX (fun h2=>?_) (fun h2=>?_)
 rotate_left 1
 refine bF (fun h3=>?_) (fun h3=>?_)
 rotate_left 1
 refine aX (fun h4=>?_) (fun h4=>?_)
 rotate_left 1
 all_goals (rintro⟨⟩;rw [bk];show cC _ _ _ (aH _ _ _ _ (Code.seq _ _) _)=_;simp (maxSteps:=4000000) only [*,res40,n40a,n40A,n40k,n40K,n40f3,n40mv,n40gv,↓RP,RB,enter,aQ,aD,be,bf,aJ,Mx.bl,opnd,Mx.bI,Nat.reduceBEq,bQ,Mx.fit,co,aN,aA,ay,Mx.put,ofConst,ofCell,Mx.prune,killB,aK,putDst,aw,ar,aE,loadAt,bT,List.map,cz,cB,cu,aC,bu,bx,cA,bS,bJ,aM,bD,lowC,forceAll,kill,fineE,oddAl,lend,lendA,aS,aB,bR,bare,bW,frz,cq,bw,argE,argsE,bG,Nat.reduceSub,cd,aI,aY,cm,bL,cv,ch,bo,aL,bm,Op.operands,ax,av,atO,newB,cw,cy,cx,↓ao,↓am,↓aa,↓aq,bh,br,Call.operands,ty3,ty22,ty29,ty87])
def n48K:List (Nat×List Nat):=[(0,[0,1,2]),(1,[6])]
def n48:cL where
 keep:=ax n48K
 ro:=fun _=>false
 mv:=fun _=>false
 give:=fun _=>false
 free:=fun _=>[]
theorem n48k (i:Nat):n48.keep i=ax n48K i:=rfl
theorem res48:Try.f48.results.toList= [.tmp 6]:=rfl
noncomputable def b48:Code:=aU Try.f48
theorem r_rrIn (C:aj)  (p0:Int) (p1:Int) (p2:Int) (r:Bool) (hF:rrIn p0 p1 p2=some r):cR TT C.wide (evW TT C.wide n48 b48) n48 Try.f48.results.toList (aU Try.f48) [.v (.i .i64 p0),.v (.i .i64 p1),.v (.i .i64 p2)] []=some (.v (.b r),[]):=by
 revert hF
 unfold rrIn
 refine aX (fun h1=>?_) (fun h1=>?_)
 rotate_left 1
 all_goals (rintro⟨⟩;rw [bk];show cC _ _ _ (aH _ _ _ _ (Code.seq _ _) _)=_;simp (maxSteps:=4000000) only [*,res48,n48k,n48K,↓RP,RB,enter,aQ,aD,be,bf,aJ,Mx.bl,opnd,Mx.bI,Nat.reduceBEq,bQ,Mx.fit,co,aN,aA,Mx.put,ofConst,ofCell,Mx.prune,killB,aK,putDst,aw,List.map,Nat.reduceAdd,cz,cB,aC,bu,bx,cA,bS,bJ,aM,lowC,ax,cy,cx,↓ao,↓aa,bh,ty4])
def n93K:List (Nat×List Nat):=[(0,[0]),(1,[2])]
def n93:cL where
 keep:=ax n93K
 ro:=fun _=>false
 mv:=fun _=>false
 give:=fun _=>false
 free:=fun _=>[]
theorem n93k (i:Nat):n93.keep i=ax n93K i:=rfl
theorem res93:Try.f93.results.toList= [.tmp 2]:=rfl
noncomputable def b93:Code:=aU Try.f93
theorem r_rrfieldMay (C:aj) (k_rrIn:K_rrIn C) (p0:ByteArray) (r:Bool) (hF:rrfieldMay p0=some r):cR TT C.wide (evW TT C.wide n93 b93) n93 Try.f93.results.toList (aU Try.f93) [.v (.s p0)] []=some (.v (.b r),[]):=by
 revert hF
 unfold rrfieldMay
 have g1:=bK (k_rrIn (p0.size:Int) 1 12 _ (rrIn_t (p0.size:Int) 1 12))
 have g2:rrIn_v (p0.size:Int) 1 12=(decide (1≤(p0.size:Int))&&decide ((p0.size:Int)≤12)):=by first|rfl|(simp [rrIn_v];done)|(simp only [rrIn_v];decide)
 all_goals (rintro⟨⟩;rw [bk];show cC _ _ _ (aH _ _ _ _ (Code.seq _ _) _)=_;simp (maxSteps:=4000000) only [*,res93,n93k,n93K,↓RP,RB,enter,be,bf,aJ,Mx.bl,opnd,Mx.bI,Nat.reduceBEq,bQ,Mx.fit,co,aN,aA,Mx.put,ofConst,ofCell,Mx.prune,killB,aK,putDst,aw,List.map,cu,aC,bu,bx,cA,bS,bJ,aM,lowC,forceAll,lend,lendA,aS,aB,bR,bare,bW,ax,newB,cw,↓ao,↓aa,ty4,ty9])
def n132K:List (Nat×List Nat):=[(0,[1]),(1,[2])]
def n132:cL where
 keep:=ax n132K
 ro:=fun t=>t==1
 mv:=fun _=>false
 give:=fun _=>false
 free:=fun _=>[]
theorem n132k (i:Nat):n132.keep i=ax n132K i:=rfl
theorem n132ro (t:Nat):n132.ro t=(t==1):=rfl
theorem n132mv (t:Nat):n132.mv t=(false):=rfl
theorem res132:Try.f132.results.toList= [.tmp 2]:=rfl
noncomputable def b132:Code:=aU Try.f132
theorem r_rrsizeOf (C:aj)  (p0:GValue) (r:Int) (hF:rrsizeOf p0=some r):cR TT C.wide (evW TT C.wide n132 b132) n132 Try.f132.results.toList (aU Try.f132) [.agg [.v (.i .i64 p0.fKind),.v (.s p0.fText),.v (.i .i64 p0.fCount),.v (.sl 2 (ah GPair.row p0.fPairs)),.v (.sl 1 (ah bY p0.fItems)),.v (.sl 2 (ah GScore.row p0.fScores))]] []=some (.v (.i .i64 r),[]):=by
 revert hF
 unfold rrsizeOf
 refine someX ?_
 unfold rrsizeOf_v
 all_goals (rintro rfl;rw [bk];show cC _ _ _ (aH _ _ _ _ (Code.seq _ _) _)=_;simp (maxSteps:=4000000) only [*,res132,n132k,n132K,n132ro,n132mv,↓RP,RB,enter,be,bf,aJ,Mx.bl,opnd,Mx.bI,Nat.reduceBEq,bQ,Mx.fit,bP,co,toVs,cellsOf,toV,aN,aA,ay,Mx.put,ofConst,ofCell,Mx.prune,killB,aK,putDst,aw,aE,loadAt,bT,List.map,cz,cB,cu,aC,bu,bx,cA,bS,bJ,aM,lowC,ax,cy,cx,↓ao,↓aa,ty3,ty70,ty71,ty72,ty74])
def n95K:List (Nat×List Nat):=[(0,[0]),(1,[2])]
def n95:cL where
 keep:=ax n95K
 ro:=fun _=>false
 mv:=fun _=>false
 give:=fun _=>false
 free:=fun _=>[]
theorem n95k (i:Nat):n95.keep i=ax n95K i:=rfl
theorem res95:Try.f95.results.toList= [.tmp 2]:=rfl
noncomputable def b95:Code:=aU Try.f95
theorem r_rrtextMay (C:aj)  (p0:ByteArray) (r:Bool) (hF:rrtextMay p0=some r):cR TT C.wide (evW TT C.wide n95 b95) n95 Try.f95.results.toList (aU Try.f95) [.v (.s p0)] []=some (.v (.b r),[]):=by
 revert hF
 unfold rrtextMay
 all_goals (rintro⟨⟩;rw [bk];show cC _ _ _ (aH _ _ _ _ (Code.seq _ _) _)=_;simp (maxSteps:=4000000) only [*,res95,n95k,n95K,↓RP,RB,enter,be,bf,aJ,Mx.bl,opnd,Mx.bI,Nat.reduceBEq,bQ,Mx.fit,co,aN,aA,Mx.put,ofConst,ofCell,Mx.prune,killB,aK,putDst,aw,List.map,cz,cB,cu,aC,bu,bx,cA,bS,bJ,aM,lowC,ax,cy,cx,↓ao,↓aa,ty4,ty9])
def n96K:List (Nat×List Nat):=[(0,[0]),(1,[2])]
def n96:cL where
 keep:=ax n96K
 ro:=fun _=>false
 mv:=fun _=>false
 give:=fun _=>false
 free:=fun _=>[]
theorem n96k (i:Nat):n96.keep i=ax n96K i:=rfl
theorem res96:Try.f96.results.toList= [.tmp 2]:=rfl
noncomputable def b96:Code:=aU Try.f96
theorem r_rrcountMay (C:aj) (k_rrIn:K_rrIn C) (p0:Int) (r:Bool) (hF:rrcountMay p0=some r):cR TT C.wide (evW TT C.wide n96 b96) n96 Try.f96.results.toList (aU Try.f96) [.v (.i .i64 p0)] []=some (.v (.b r),[]):=by
 revert hF
 unfold rrcountMay
 have g1:=bK (k_rrIn p0 (-1099511627776) 1099511627776 _ (rrIn_t p0 (-1099511627776) 1099511627776))
 have g2:rrIn_v p0 (-1099511627776) 1099511627776=(decide ((-1099511627776)≤p0)&&decide (p0≤1099511627776)):=by first|rfl|(simp [rrIn_v];done)|(simp only [rrIn_v];decide)
 all_goals (rintro⟨⟩;rw [bk];show cC _ _ _ (aH _ _ _ _ (Code.seq _ _) _)=_;simp (maxSteps:=4000000) only [*,res96,n96k,n96K,↓RP,RB,enter,be,bf,aJ,Mx.bl,opnd,Mx.bI,Nat.reduceBEq,bQ,Mx.fit,co,aN,aA,Mx.put,ofConst,ofCell,Mx.prune,killB,aK,putDst,aw,List.map,aC,bu,bx,cA,bS,bJ,aM,lowC,forceAll,lend,lendA,aS,aB,bR,bare,bW,Int.reduceNeg,ax,newB,cw,↓ao,↓aa,ty4])
def n133K:List (Nat×List Nat):=[(0,[2,3]),(1,[2,3,9]),(2,[4]),(3,[4])]
def n133A:List (Nat×List Nat×List Nat):=[(9,[2,3],[2,3])]
def n133:cL where
 keep:=ax n133K
 ro:=fun t=>t==2||t==3
 mv:=fun _=>false
 give:=fun _=>false
 free:=fun _=>[]
 alive:=av n133A
theorem n133a (t:Nat) (x:Bool) (e:Env) (S:bH):cK n133 t x ⟨e,S⟩=atO (av n133A t x) e S:=cF rfl t x e S
theorem n133k (i:Nat):n133.keep i=ax n133K i:=rfl
theorem n133ro (t:Nat):n133.ro t=(t==2||t==3):=rfl
theorem n133mv (t:Nat):n133.mv t=(false):=rfl
theorem res133:Try.f133.results.toList= [.tmp 4]:=rfl
noncomputable def b133:Code:=aU Try.f133
theorem r_rrscoreAhead (C:aj)  (p0:GScore) (p1:GScore) (r:Bool) (hF:rrscoreAhead p0 p1=some r):cR TT C.wide (evW TT C.wide n133 b133) n133 Try.f133.results.toList (aU Try.f133) [.agg [.v (.s p0.fMember),.v (.i .i64 p0.fN)],.agg [.v (.s p1.fMember),.v (.i .i64 p1.fN)]] []=some (.v (.b r),[]):=by
 revert hF
 unfold rrscoreAhead
 refine aX (fun h1=>?_) (fun h1=>?_)
 rotate_left 1
 all_goals (rintro⟨⟩;rw [bk];show cC _ _ _ (aH _ _ _ _ (Code.seq _ _) _)=_;simp (maxSteps:=4000000) only [*,res133,n133a,n133A,n133k,n133K,n133ro,n133mv,↓RP,RB,enter,be,bf,aJ,Mx.bl,opnd,Mx.bI,Nat.reduceBEq,bQ,Mx.fit,bP,co,toVs,cellsOf,toV,aN,aA,ay,Mx.put,ofConst,ofCell,Mx.prune,killB,aK,putDst,aw,aE,loadAt,bT,List.map,cz,cB,aC,bu,bx,cA,bS,bJ,aM,lowC,ax,av,atO,cy,cx,bne,↓ao,↓am,↓aa,ty3,ty4,ty9,ty112])
def n134K:List (Nat×List Nat):=[(0,[0,1]),(1,[0,1,5]),(2,[0,1,5,9]),(3,[0,1,5]),(4,[0,1,5,18]),(5,[4]),(6,[4])]
def n134A:List (Nat×List Nat×List Nat):=[(9,[0,1,5],[]),(18,[5],[0,1,5])]
def n134:cL where
 keep:=ax n134K
 ro:=fun _=>false
 mv:=fun _=>false
 give:=fun _=>false
 free:=fun _=>[]
 alive:=av n134A
theorem n134a (t:Nat) (x:Bool) (e:Env) (S:bH):cK n134 t x ⟨e,S⟩=atO (av n134A t x) e S:=cF rfl t x e S
theorem n134k (i:Nat):n134.keep i=ax n134K i:=rfl
theorem n134mv (t:Nat):n134.mv t=(false):=rfl
theorem res134:Try.f134.results.toList= [.tmp 4]:=rfl
noncomputable def b134:Code:=aU Try.f134
noncomputable def c134_0:Code:=(bE 0 (aU Try.f134)).getD .skip
theorem fl134_0:bE 0 b134=some c134_0:=rfl
def hd_rrmemberAt_0 (p0:List GScore) (p1:ByteArray) (s:Int):St:=⟨[(0,.v (.sl 2 (ah GScore.row p0))),(1,.v (.s p1)),(5,.v (.i .i64 s))],[]⟩
def ou_rrmemberAt_0 (p0:List GScore) (p1:ByteArray) (r:Int⊕Unit):Option (Ex×St):=match r with
 | .inl r=>some (.ret,⟨[(4,.v (.i .i64 r))],[]⟩)
 | .inr r=>some (.normal,⟨[],[]⟩)
theorem sl_rrmemberAt_0 (C:aj)  (p0:List GScore) (p1:ByteArray) (p2:Int) (o:Int⊕(Int⊕Unit)) (hF:st_rrmemberAt_0 p0 p1 p2=some o):evW TT C.wide n134 b134 0 (hd_rrmemberAt_0 p0 p1 p2)=Sum.elim (fun s=>evW TT C.wide n134 b134 0 (hd_rrmemberAt_0 p0 p1 s)) (fun r=>ou_rrmemberAt_0 p0 p1 r) o:=by
 rw [cG TT n134 fl134_0]
 revert hF
 unfold st_rrmemberAt_0
 try dsimp only
 refine bF (fun h1=>?_) (fun h1=>?_)
 rotate_left 1
 refine az fun x1 h2=>?_
 have g1:decide (0≤p2)=true:=(cp h2).1
 have g2:(ah GScore.row p0)[(p2:Int).toNat]? =some [.s x1.fMember,.i .i64 x1.fN]:=cn _ h2
 refine aX (fun h3=>?_) (fun h3=>?_)
 rotate_left 1
 all_goals (rintro⟨⟩;show cN _ _ _ (aH _ _ _ _ (Code.seq _ _) _)=_;simp (maxSteps:=4000000) only [*,hd_rrmemberAt_0,ou_rrmemberAt_0,n134a,n134A,n134k,n134K,n134mv,↓RP,RB,↓ai,be,bf,aJ,Mx.bl,opnd,Mx.bI,Nat.reduceBEq,bQ,Mx.fit,co,aN,aA,ay,Mx.put,ofConst,ofCell,Mx.prune,killB,aK,putDst,aw,aE,loadAt,bT,List.map,cz,cB,cu,bj,ax,av,atO,cy,cx,↓ao,↓am,↓aa,ty3,ty9,ty72,ty112])
theorem r_rrmemberAt (C:aj)  (p0:List GScore) (p1:ByteArray) (r:Int) (hF:rrmemberAt p0 p1=some r):cR TT C.wide (evW TT C.wide n134 b134) n134 Try.f134.results.toList (aU Try.f134) [.v (.sl 2 (ah GScore.row p0)),.v (.s p1)] []=some (.v (.i .i64 r),[]):=by
 revert hF
 unfold rrmemberAt
 refine az ?_
 rintro (x1|_) h1
 focus
  dsimp only
  have g1:=cH _ _ (sl_rrmemberAt_0 C p0 p1) h1
  try simp only [hd_rrmemberAt_0,ou_rrmemberAt_0] at g1
 rotate_left 1
 dsimp only
 have g2:=cH _ _ (sl_rrmemberAt_0 C p0 p1) h1
 try simp only [hd_rrmemberAt_0,ou_rrmemberAt_0] at g2
 all_goals (rintro⟨⟩;rw [bk];show cC _ _ _ (aH _ _ _ _ (Code.seq _ _) _)=_;simp (maxSteps:=4000000) only [*,res134,n134k,n134K,↓RP,RB,enter,be,bf,aJ,Mx.bl,opnd,Mx.bI,Nat.reduceBEq,bQ,Mx.fit,co,aN,aA,Mx.put,ofConst,ofCell,Mx.prune,killB,List.map,aC,bu,bx,cA,bS,bJ,aM,lowC,Int.reduceNeg,ax,↓ao,↓aa,ty3])
def n94K:List (Nat×List Nat):=[(0,[1]),(1,[1,14]),(2,[2]),(3,[1,3]),(4,[1,72]),(5,[2]),(6,[1,87]),(7,[2]),(8,[1,4]),(9,[1,4,92]),(10,[1,4]),(11,[1,4,101]),(12,[2]),(13,[1,5]),(14,[1,5,106]),(15,[1,5]),(16,[1,5,126]),(17,[2]),(18,[1,6]),(19,[1,6,131]),(20,[1,6]),(21,[1,6,141]),(22,[2]),(23,[1,145]),(24,[2]),(25,[1,7]),(26,[1,7,150]),(27,[1,7]),(28,[1,7,160]),(29,[2]),(30,[1,8]),(31,[1,8,165]),(32,[1,8]),(33,[1,8,181]),(34,[2]),(35,[1,9]),(36,[1,9,191]),(37,[1,9]),(38,[1,9,205]),(39,[2]),(40,[1,10]),(41,[1,10,210]),(42,[1,10]),(43,[1,10,239]),(44,[2]),(45,[2])]
def n94A:List (Nat×List Nat×List Nat):=[(14,[],[1]),(72,[],[1]),(87,[],[1]),(92,[1,4],[1]),(101,[],[1,4]),(106,[1,5],[1]),(126,[],[1,5]),(131,[1,6],[1]),(141,[],[1,6]),(145,[],[1]),(150,[1,7],[1]),(160,[],[1,7]),(165,[1,8],[1]),(181,[],[1,8]),(191,[1,9],[1]),(205,[],[1,9]),(210,[1,10],[]),(239,[],[1,10])]
def n94:cL where
 keep:=ax n94K
 ro:=fun t=>t==1
 mv:=fun _=>false
 give:=fun _=>false
 free:=fun i=>match i with|33=>[(0,2),(1,2),(0,3),(1,3),(0,7),(1,7),(2,7),(3,7),(4,7),(5,7),(6,7),(0,8),(1,8),(2,8),(3,8),(4,8),(5,8),(6,8),(0,9),(1,9),(2,9),(3,9),(4,9),(5,9),(6,9),(7,9),(8,9),(0,10),(1,10),(2,10),(3,10),(4,10),(5,10),(6,10),(0,11),(1,11),(2,11),(3,11),(4,11),(5,11),(6,11),(0,12),(1,12),(2,12),(3,12),(4,12),(5,12),(6,12)]|38=>[(0,2),(1,2),(0,3),(1,3),(0,6),(1,6),(2,6),(3,6),(4,6),(5,6),(0,7),(1,7),(2,7),(3,7),(4,7),(5,7),(0,8),(1,8),(2,8),(3,8),(4,8),(5,8),(6,8),(7,8),(0,9),(1,9),(2,9),(3,9),(4,9),(5,9),(0,10),(1,10),(2,10),(3,10),(4,10),(5,10)]|43=>[(0,2),(1,2),(0,3),(1,3),(0,6),(1,6),(2,6),(3,6),(4,6),(5,6),(0,7),(1,7),(2,7),(3,7),(4,7),(5,7),(0,8),(1,8),(2,8),(3,8),(4,8),(5,8),(6,8),(7,8),(0,9),(1,9),(2,9),(3,9),(4,9),(5,9),(0,10),(1,10),(2,10),(3,10),(4,10),(5,10),(14,16),(15,16),(14,18),(15,18),(16,18),(17,18),(14,19),(15,19),(16,19),(17,19),(14,20),(15,20),(16,20),(17,20),(18,20),(19,20),(14,21),(15,21),(16,21),(17,21),(14,22),(15,22),(16,22),(17,22),(14,23),(15,23),(16,23),(17,23)]|_=>[]
 alive:=av n94A
theorem n94a (t:Nat) (x:Bool) (e:Env) (S:bH):cK n94 t x ⟨e,S⟩=atO (av n94A t x) e S:=cF rfl t x e S
theorem n94k (i:Nat):n94.keep i=ax n94K i:=rfl
theorem n94ro (t:Nat):n94.ro t=(t==1):=rfl
theorem n94mv (t:Nat):n94.mv t=(false):=rfl
theorem n94f33:n94.free 33= [(0,2),(1,2),(0,3),(1,3),(0,7),(1,7),(2,7),(3,7),(4,7),(5,7),(6,7),(0,8),(1,8),(2,8),(3,8),(4,8),(5,8),(6,8),(0,9),(1,9),(2,9),(3,9),(4,9),(5,9),(6,9),(7,9),(8,9),(0,10),(1,10),(2,10),(3,10),(4,10),(5,10),(6,10),(0,11),(1,11),(2,11),(3,11),(4,11),(5,11),(6,11),(0,12),(1,12),(2,12),(3,12),(4,12),(5,12),(6,12)]:=rfl
theorem n94f38:n94.free 38= [(0,2),(1,2),(0,3),(1,3),(0,6),(1,6),(2,6),(3,6),(4,6),(5,6),(0,7),(1,7),(2,7),(3,7),(4,7),(5,7),(0,8),(1,8),(2,8),(3,8),(4,8),(5,8),(6,8),(7,8),(0,9),(1,9),(2,9),(3,9),(4,9),(5,9),(0,10),(1,10),(2,10),(3,10),(4,10),(5,10)]:=rfl
theorem n94f43:n94.free 43= [(0,2),(1,2),(0,3),(1,3),(0,6),(1,6),(2,6),(3,6),(4,6),(5,6),(0,7),(1,7),(2,7),(3,7),(4,7),(5,7),(0,8),(1,8),(2,8),(3,8),(4,8),(5,8),(6,8),(7,8),(0,9),(1,9),(2,9),(3,9),(4,9),(5,9),(0,10),(1,10),(2,10),(3,10),(4,10),(5,10),(14,16),(15,16),(14,18),(15,18),(16,18),(17,18),(14,19),(15,19),(16,19),(17,19),(14,20),(15,20),(16,20),(17,20),(18,20),(19,20),(14,21),(15,21),(16,21),(17,21),(14,22),(15,22),(16,22),(17,22),(14,23),(15,23),(16,23),(17,23)]:=rfl
theorem res94:Try.f94.results.toList= [.tmp 2]:=rfl
noncomputable def b94:Code:=aU Try.f94
noncomputable def c94_0:Code:=(bE 0 (aU Try.f94)).getD .skip
theorem fl94_0:bE 0 b94=some c94_0:=rfl
noncomputable def c94_2:Code:=(bE 2 (aU Try.f94)).getD .skip
theorem fl94_2:bE 2 b94=some c94_2:=rfl
noncomputable def c94_4:Code:=(bE 4 (aU Try.f94)).getD .skip
theorem fl94_4:bE 4 b94=some c94_4:=rfl
noncomputable def c94_6:Code:=(bE 6 (aU Try.f94)).getD .skip
theorem fl94_6:bE 6 b94=some c94_6:=rfl
noncomputable def c94_8:Code:=(bE 8 (aU Try.f94)).getD .skip
theorem fl94_8:bE 8 b94=some c94_8:=rfl
noncomputable def c94_10:Code:=(bE 10 (aU Try.f94)).getD .skip
theorem fl94_10:bE 10 b94=some c94_10:=rfl
noncomputable def c94_12:Code:=(bE 12 (aU Try.f94)).getD .skip
theorem fl94_12:bE 12 b94=some c94_12:=rfl
theorem rg_rrValueFault_k4 (C:aj)  (p0:GValue) (c:Code) (ho:cD 0 4 b94=some c) (r:Bool) (hF:ck_rrValueFault_k4_v p0=r): @cV TT C.wide (evW TT C.wide n94 b94) n94 0 4 ⟨[(1,.rp [.i .i64 p0.fKind,.s p0.fText,.i .i64 p0.fCount,.sl 2 (ah GPair.row p0.fPairs),.sl 1 (ah bY p0.fItems),.sl 2 (ah GScore.row p0.fScores)]),(3,.v (.b true))],[]⟩ ⟨c⟩=some (.normal,⟨[(1,.rp [.i .i64 p0.fKind,.s p0.fText,.i .i64 p0.fCount,.sl 2 (ah GPair.row p0.fPairs),.sl 1 (ah bY p0.fItems),.sl 2 (ah GScore.row p0.fScores)]),(72,.v (.b r))],[]⟩):=by
 have e:=Option.some.inj (ho.symm.trans (rfl:cD 0 4 b94=some _))
 subst e
 clear ho
 show aH _ _ _ _ _ _=_
 revert hF
 unfold ck_rrValueFault_k4_v
 refine aX (fun h1=>?_) (fun h1=>?_)
 focus
  refine aX (fun h2=>?_) (fun h2=>?_)
  focus
   refine aX (fun h3=>?_) (fun h3=>?_)
   focus
    refine aX (fun h4=>?_) (fun h4=>?_)
    rotate_left 1
   rotate_left 2
   refine aX (fun h4=>?_) (fun h4=>?_)
   rotate_left 1
   refine aX (fun h5=>?_) (fun h5=>?_)
   rotate_left 1
  rotate_left 5
  unfold ck_rrValueFault_k4_v_c0
  refine bF (fun h3=>?_) (fun h3=>?_)
  rotate_left 1
  refine aX (fun h4=>?_) (fun h4=>?_)
  focus
   refine aX (fun h5=>?_) (fun h5=>?_)
   rotate_left 1
  rotate_left 2
  refine aX (fun h5=>?_) (fun h5=>?_)
  rotate_left 1
  refine aX (fun h6=>?_) (fun h6=>?_)
  rotate_left 1
 rotate_left 11
 unfold ck_rrValueFault_k4_v_c2
 refine bF (fun h2=>?_) (fun h2=>?_)
 rotate_left 1
 refine aX (fun h3=>?_) (fun h3=>?_)
 focus
  refine aX (fun h4=>?_) (fun h4=>?_)
  focus
   refine aX (fun h5=>?_) (fun h5=>?_)
   rotate_left 1
  rotate_left 2
  refine aX (fun h5=>?_) (fun h5=>?_)
  rotate_left 1
  refine aX (fun h6=>?_) (fun h6=>?_)
  rotate_left 1
 rotate_left 5
 unfold ck_rrValueFault_k4_v_c1
 refine bF (fun h4=>?_) (fun h4=>?_)
 rotate_left 1
 refine aX (fun h5=>?_) (fun h5=>?_)
 focus
  refine aX (fun h6=>?_) (fun h6=>?_)
  rotate_left 1
 rotate_left 2
 refine aX (fun h6=>?_) (fun h6=>?_)
 rotate_left 1
 refine aX (fun h7=>?_) (fun h7=>?_)
 rotate_left 1
 all_goals (rintro rfl;simp (maxSteps:=4000000) only [*,n94k,n94K,n94mv,↓RP,RB,aQ,aD,be,Mx.bl,opnd,Mx.bI,Nat.reduceBEq,bQ,aN,aA,ay,Mx.put,ofConst,ofCell,Mx.prune,killB,aK,putDst,aw,aE,loadAt,bT,List.map,cz,cB,cu,ax,cy,cx,bne,bh,ty3,ty9,ty70,ty72,ty74,↓aa _ _ _ _ 4])
theorem rg_rrValueFault_k6 (C:aj) (k_rrsizeOf:K_rrsizeOf C) (k_rrIn:K_rrIn C) (k_rrtextMay:K_rrtextMay C) (p0:GValue) (c:Code) (ho:cD 0 6 b94=some c) (r:Bool) (hF:ck_rrValueFault_k6_v p0=r): @cV TT C.wide (evW TT C.wide n94 b94) n94 0 6 ⟨[(1,.rp [.i .i64 p0.fKind,.s p0.fText,.i .i64 p0.fCount,.sl 2 (ah GPair.row p0.fPairs),.sl 1 (ah bY p0.fItems),.sl 2 (ah GScore.row p0.fScores)])],[]⟩ ⟨c⟩=some (.normal,⟨[(1,.rp [.i .i64 p0.fKind,.s p0.fText,.i .i64 p0.fCount,.sl 2 (ah GPair.row p0.fPairs),.sl 1 (ah bY p0.fItems),.sl 2 (ah GScore.row p0.fScores)]),(87,.v (.b r))],[]⟩):=by
 have e:=Option.some.inj (ho.symm.trans (rfl:cD 0 6 b94=some _))
 subst e
 clear ho
 show aH _ _ _ _ _ _=_
 revert hF
 unfold ck_rrValueFault_k6_v
 refine bF (fun h1=>?_) (fun h1=>?_)
 focus
  have g1:=bK (k_rrtextMay p0.fText _ (rrtextMay_t p0.fText))
 rotate_left 1
 have g2:=bK (k_rrsizeOf p0 _ (rrsizeOf_t p0))
 have g3:=bK (k_rrIn (rrsizeOf_v p0) 1 20 _ (rrIn_t (rrsizeOf_v p0) 1 20))
 have g4:rrIn_v (rrsizeOf_v p0) 1 20=(decide (1≤(rrsizeOf_v p0))&&decide ((rrsizeOf_v p0)≤20)):=by first|rfl|(simp [rrIn_v];done)|(simp only [rrIn_v];decide)
 refine bF (fun h2=>?_) (fun h2=>?_)
 rotate_left 1
 refine aX (fun h3=>?_) (fun h3=>?_)
 focus
  have g1:=bK (k_rrtextMay p0.fText _ (rrtextMay_t p0.fText))
 rotate_left 1
 all_goals (rintro rfl;simp (maxSteps:=4000000) only [*,n94k,n94K,n94mv,↓RP,RB,aQ,aD,be,Mx.bl,opnd,Mx.bI,Nat.reduceBEq,bQ,aN,aA,ay,Mx.put,ofConst,ofCell,Mx.prune,killB,aK,putDst,aw,aE,loadAt,bT,List.map,Nat.reduceAdd,cz,cB,forceAll,lend,lendA,aS,aB,bR,bare,bW,ax,newB,cw,cy,cx,bh,ty3,ty9,ty74,↓aa _ _ _ _ 6])
def hd_rrValueFault_0 (p0:GValue) (s:Int):St:=⟨[(1,.rp [.i .i64 p0.fKind,.s p0.fText,.i .i64 p0.fCount,.sl 2 (ah GPair.row p0.fPairs),.sl 1 (ah bY p0.fItems),.sl 2 (ah GScore.row p0.fScores)]),(4,.v (.i .i64 s))],[]⟩
def ou_rrValueFault_0 (p0:GValue) (r:Unit⊕Unit):Option (Ex×St):=match r with
 | .inl r=>some (.ret,⟨[(2,.v (.i .i64 1))],[]⟩)
 | .inr r=>some (.normal,⟨[(1,.rp [.i .i64 p0.fKind,.s p0.fText,.i .i64 p0.fCount,.sl 2 (ah GPair.row p0.fPairs),.sl 1 (ah bY p0.fItems),.sl 2 (ah GScore.row p0.fScores)])],[]⟩)
theorem sl_rrValueFault_0 (C:aj) (k_rrtextMay:K_rrtextMay C) (p0:GValue) (p1:Int) (o:Int⊕(Unit⊕Unit)) (hF:st_rrValueFault_0 p0 p1=some o):evW TT C.wide n94 b94 0 (hd_rrValueFault_0 p0 p1)=Sum.elim (fun s=>evW TT C.wide n94 b94 0 (hd_rrValueFault_0 p0 s)) (fun r=>ou_rrValueFault_0 p0 r) o:=by
 rw [cG TT n94 fl94_0]
 revert hF
 unfold st_rrValueFault_0
 try dsimp only
 refine bF (fun h1=>?_) (fun h1=>?_)
 rotate_left 1
 refine az fun x1 h2=>?_
 have g1:decide (0≤p1)=true:=(cp h2).1
 have g2:(ah bY p0.fItems)[(p1:Int).toNat]? =some [.s x1]:=cn _ h2
 have g3:=bK (k_rrtextMay x1 _ (rrtextMay_t x1))
 refine aX (fun h3=>?_) (fun h3=>?_)
 rotate_left 1
 all_goals (rintro⟨⟩;show cN _ _ _ (aH _ _ _ _ (Code.seq _ _) _)=_;simp (maxSteps:=4000000) only [*,hd_rrValueFault_0,ou_rrValueFault_0,n94a,n94A,n94k,n94K,n94mv,↓RP,RB,↓ai,be,bf,aJ,Mx.bl,opnd,Mx.bI,Nat.reduceBEq,bQ,Mx.fit,co,aN,aA,ay,Mx.put,ofConst,ofCell,Mx.prune,killB,aK,putDst,aw,aE,loadAt,bT,List.map,cz,cB,cu,forceAll,bj,lend,lendA,aS,aB,bR,bare,bW,ax,av,atO,newB,cw,cy,cx,↓ao,↓am,ty3,ty9,ty29,ty71,ty74,↓aa _ _ _ _ 9,↓aa _ _ _ _ 11,↓aa _ _ _ _ 12,↓aa _ _ _ _ 10])
def hd_rrValueFault_2 (p0:GValue) (s:Int):St:=⟨[(1,.rp [.i .i64 p0.fKind,.s p0.fText,.i .i64 p0.fCount,.sl 2 (ah GPair.row p0.fPairs),.sl 1 (ah bY p0.fItems),.sl 2 (ah GScore.row p0.fScores)]),(5,.v (.i .i64 s))],[]⟩
def ou_rrValueFault_2 (p0:GValue) (r:Unit⊕Unit):Option (Ex×St):=match r with
 | .inl r=>some (.ret,⟨[(2,.v (.i .i64 1))],[]⟩)
 | .inr r=>some (.normal,⟨[(1,.rp [.i .i64 p0.fKind,.s p0.fText,.i .i64 p0.fCount,.sl 2 (ah GPair.row p0.fPairs),.sl 1 (ah bY p0.fItems),.sl 2 (ah GScore.row p0.fScores)])],[]⟩)
theorem sl_rrValueFault_2 (C:aj) (k_rrfieldMay:K_rrfieldMay C) (k_rrtextMay:K_rrtextMay C) (p0:GValue) (p1:Int) (o:Int⊕(Unit⊕Unit)) (hF:st_rrValueFault_2 p0 p1=some o):evW TT C.wide n94 b94 2 (hd_rrValueFault_2 p0 p1)=Sum.elim (fun s=>evW TT C.wide n94 b94 2 (hd_rrValueFault_2 p0 s)) (fun r=>ou_rrValueFault_2 p0 r) o:=by
 rw [cG TT n94 fl94_2]
 revert hF
 unfold st_rrValueFault_2
 try dsimp only
 refine bF (fun h1=>?_) (fun h1=>?_)
 rotate_left 1
 refine az fun x1 h2=>?_
 have g1:decide (0≤p1)=true:=(cp h2).1
 have g2:(ah GPair.row p0.fPairs)[(p1:Int).toNat]? =some [.s x1.fField,.s x1.fText]:=cn _ h2
 have g3:=bK (k_rrfieldMay x1.fField _ (rrfieldMay_t x1.fField))
 refine bF (fun h3=>?_) (fun h3=>?_)
 rotate_left 1
 have g4:=bK (k_rrtextMay x1.fText _ (rrtextMay_t x1.fText))
 refine aX (fun h4=>?_) (fun h4=>?_)
 rotate_left 1
 all_goals (rintro⟨⟩;show cN _ _ _ (aH _ _ _ _ (Code.seq _ _) _)=_;simp (maxSteps:=4000000) only [*,hd_rrValueFault_2,ou_rrValueFault_2,n94a,n94A,n94k,n94K,n94mv,↓RP,RB,↓ai,aQ,aD,be,bf,aJ,Mx.bl,opnd,Mx.bI,Nat.reduceBEq,bQ,Mx.fit,co,aN,aA,ay,Mx.put,ofConst,ofCell,Mx.prune,killB,aK,putDst,aw,aE,loadAt,bT,List.map,cz,cB,cu,forceAll,bj,lend,lendA,aS,aB,bR,bare,bW,ax,av,atO,newB,cw,cy,cx,↓ao,↓am,bh,ty3,ty9,ty29,ty70,ty74,ty110,↓aa _ _ _ _ 14,↓aa _ _ _ _ 16,↓aa _ _ _ _ 17,↓aa _ _ _ _ 15])
def hd_rrValueFault_4 (p0:GValue) (s:Int):St:=⟨[(1,.rp [.i .i64 p0.fKind,.s p0.fText,.i .i64 p0.fCount,.sl 2 (ah GPair.row p0.fPairs),.sl 1 (ah bY p0.fItems),.sl 2 (ah GScore.row p0.fScores)]),(6,.v (.i .i64 s))],[]⟩
def ou_rrValueFault_4 (p0:GValue) (r:Unit⊕Unit):Option (Ex×St):=match r with
 | .inl r=>some (.ret,⟨[(2,.v (.i .i64 1))],[]⟩)
 | .inr r=>some (.normal,⟨[(1,.rp [.i .i64 p0.fKind,.s p0.fText,.i .i64 p0.fCount,.sl 2 (ah GPair.row p0.fPairs),.sl 1 (ah bY p0.fItems),.sl 2 (ah GScore.row p0.fScores)])],[]⟩)
theorem sl_rrValueFault_4 (C:aj) (k_rrtextMay:K_rrtextMay C) (p0:GValue) (p1:Int) (o:Int⊕(Unit⊕Unit)) (hF:st_rrValueFault_4 p0 p1=some o):evW TT C.wide n94 b94 4 (hd_rrValueFault_4 p0 p1)=Sum.elim (fun s=>evW TT C.wide n94 b94 4 (hd_rrValueFault_4 p0 s)) (fun r=>ou_rrValueFault_4 p0 r) o:=by
 rw [cG TT n94 fl94_4]
 revert hF
 unfold st_rrValueFault_4
 try dsimp only
 refine bF (fun h1=>?_) (fun h1=>?_)
 rotate_left 1
 refine az fun x1 h2=>?_
 have g1:decide (0≤p1)=true:=(cp h2).1
 have g2:(ah GScore.row p0.fScores)[(p1:Int).toNat]? =some [.s x1.fMember,.i .i64 x1.fN]:=cn _ h2
 have g3:=bK (k_rrtextMay x1.fMember _ (rrtextMay_t x1.fMember))
 refine aX (fun h3=>?_) (fun h3=>?_)
 rotate_left 1
 all_goals (rintro⟨⟩;show cN _ _ _ (aH _ _ _ _ (Code.seq _ _) _)=_;simp (maxSteps:=4000000) only [*,hd_rrValueFault_4,ou_rrValueFault_4,n94a,n94A,n94k,n94K,n94mv,↓RP,RB,↓ai,be,bf,aJ,Mx.bl,opnd,Mx.bI,Nat.reduceBEq,bQ,Mx.fit,co,aN,aA,ay,Mx.put,ofConst,ofCell,Mx.prune,killB,aK,putDst,aw,aE,loadAt,bT,List.map,cz,cB,cu,forceAll,bj,lend,lendA,aS,aB,bR,bare,bW,ax,av,atO,newB,cw,cy,cx,↓ao,↓am,ty3,ty9,ty29,ty72,ty74,ty112,↓aa _ _ _ _ 19,↓aa _ _ _ _ 21,↓aa _ _ _ _ 22,↓aa _ _ _ _ 20])
def hd_rrValueFault_6 (p0:GValue) (s:Int):St:=⟨[(1,.rp [.i .i64 p0.fKind,.s p0.fText,.i .i64 p0.fCount,.sl 2 (ah GPair.row p0.fPairs),.sl 1 (ah bY p0.fItems),.sl 2 (ah GScore.row p0.fScores)]),(7,.v (.i .i64 s))],[]⟩
def ou_rrValueFault_6 (p0:GValue) (r:Unit⊕Unit):Option (Ex×St):=match r with
 | .inl r=>some (.ret,⟨[(2,.v (.i .i64 2))],[]⟩)
 | .inr r=>some (.normal,⟨[(1,.rp [.i .i64 p0.fKind,.s p0.fText,.i .i64 p0.fCount,.sl 2 (ah GPair.row p0.fPairs),.sl 1 (ah bY p0.fItems),.sl 2 (ah GScore.row p0.fScores)])],[]⟩)
theorem sl_rrValueFault_6 (C:aj) (k_rrcountMay:K_rrcountMay C) (p0:GValue) (p1:Int) (o:Int⊕(Unit⊕Unit)) (hF:st_rrValueFault_6 p0 p1=some o):evW TT C.wide n94 b94 6 (hd_rrValueFault_6 p0 p1)=Sum.elim (fun s=>evW TT C.wide n94 b94 6 (hd_rrValueFault_6 p0 s)) (fun r=>ou_rrValueFault_6 p0 r) o:=by
 rw [cG TT n94 fl94_6]
 revert hF
 unfold st_rrValueFault_6
 try dsimp only
 refine bF (fun h1=>?_) (fun h1=>?_)
 rotate_left 1
 refine az fun x1 h2=>?_
 have g1:decide (0≤p1)=true:=(cp h2).1
 have g2:(ah GScore.row p0.fScores)[(p1:Int).toNat]? =some [.s x1.fMember,.i .i64 x1.fN]:=cn _ h2
 have g3:=bK (k_rrcountMay x1.fN _ (rrcountMay_t x1.fN))
 refine aX (fun h3=>?_) (fun h3=>?_)
 rotate_left 1
 all_goals (rintro⟨⟩;show cN _ _ _ (aH _ _ _ _ (Code.seq _ _) _)=_;simp (maxSteps:=4000000) only [*,hd_rrValueFault_6,ou_rrValueFault_6,n94a,n94A,n94k,n94K,n94mv,↓RP,RB,↓ai,be,bf,aJ,Mx.bl,opnd,Mx.bI,Nat.reduceBEq,bQ,Mx.fit,co,aN,aA,ay,Mx.put,ofConst,ofCell,Mx.prune,killB,aK,putDst,aw,aE,loadAt,bT,List.map,cz,cB,cu,forceAll,bj,lend,lendA,aS,aB,bR,bare,bW,ax,av,atO,newB,cw,cy,cx,↓ao,↓am,ty3,ty29,ty72,ty74,ty112,↓aa _ _ _ _ 26,↓aa _ _ _ _ 28,↓aa _ _ _ _ 29,↓aa _ _ _ _ 27])
def hd_rrValueFault_8 (p0:GValue) (s:Int):St:=⟨[(1,.rp [.i .i64 p0.fKind,.s p0.fText,.i .i64 p0.fCount,.sl 2 (ah GPair.row p0.fPairs),.sl 1 (ah bY p0.fItems),.sl 2 (ah GScore.row p0.fScores)]),(8,.v (.i .i64 s))],[]⟩
def ou_rrValueFault_8 (p0:GValue) (r:Unit⊕Unit):Option (Ex×St):=match r with
 | .inl r=>some (.ret,⟨[(2,.v (.i .i64 10))],[]⟩)
 | .inr r=>some (.normal,⟨[(1,.rp [.i .i64 p0.fKind,.s p0.fText,.i .i64 p0.fCount,.sl 2 (ah GPair.row p0.fPairs),.sl 1 (ah bY p0.fItems),.sl 2 (ah GScore.row p0.fScores)])],[]⟩)
theorem sl_rrValueFault_8 (C:aj)  (p0:GValue) (p1:Int) (o:Int⊕(Unit⊕Unit)) (hF:st_rrValueFault_8 p0 p1=some o):evW TT C.wide n94 b94 8 (hd_rrValueFault_8 p0 p1)=Sum.elim (fun s=>evW TT C.wide n94 b94 8 (hd_rrValueFault_8 p0 s)) (fun r=>ou_rrValueFault_8 p0 r) o:=by
 rw [cG TT n94 fl94_8]
 revert hF
 unfold st_rrValueFault_8
 try dsimp only
 refine bF (fun h1=>?_) (fun h1=>?_)
 rotate_left 1
 refine az fun x1 h2=>?_
 have g1:decide (0≤(IntKind.i64.wrap (p1-1)))=true:=(cp h2).1
 have g2:(ah GPair.row p0.fPairs)[((IntKind.i64.wrap (p1-1)):Int).toNat]? =some [.s x1.fField,.s x1.fText]:=cn _ h2
 refine az fun x2 h3=>?_
 have g3:decide (0≤p1)=true:=(cp h3).1
 have g4:(ah GPair.row p0.fPairs)[(p1:Int).toNat]? =some [.s x2.fField,.s x2.fText]:=cn _ h3
 refine aX (fun h4=>?_) (fun h4=>?_)
 rotate_left 1
 all_goals (rintro⟨⟩;show cN _ _ _ (aH _ _ _ _ (Code.seq _ _) _)=_;simp (maxSteps:=4000000) only [*,hd_rrValueFault_8,ou_rrValueFault_8,n94a,n94A,n94k,n94K,n94f33,n94mv,↓RP,RB,↓ai,be,bf,aJ,Mx.bl,opnd,Mx.bI,Nat.reduceBEq,bQ,Mx.fit,co,aN,aA,ay,Mx.put,ofConst,ofCell,Mx.prune,killB,aK,putDst,aw,aE,loadAt,bT,List.map,cz,cB,cu,bj,fineE,oddAl,bG,cd,aI,aY,cm,bL,cv,ch,bo,aL,bm,Op.operands,ax,av,atO,cy,cx,↓ao,↓am,br,ty3,ty9,ty29,ty70,ty74,ty110,↓aa _ _ _ _ 31,↓aq _ _ _ _ 33,↓aa _ _ _ _ 34,↓aa _ _ _ _ 32])
def hd_rrValueFault_10 (p0:GValue) (s:Int):St:=⟨[(1,.rp [.i .i64 p0.fKind,.s p0.fText,.i .i64 p0.fCount,.sl 2 (ah GPair.row p0.fPairs),.sl 1 (ah bY p0.fItems),.sl 2 (ah GScore.row p0.fScores)]),(9,.v (.i .i64 s))],[]⟩
def ou_rrValueFault_10 (p0:GValue) (r:Unit⊕Unit):Option (Ex×St):=match r with
 | .inl r=>some (.ret,⟨[(2,.v (.i .i64 10))],[]⟩)
 | .inr r=>some (.normal,⟨[(1,.rp [.i .i64 p0.fKind,.s p0.fText,.i .i64 p0.fCount,.sl 2 (ah GPair.row p0.fPairs),.sl 1 (ah bY p0.fItems),.sl 2 (ah GScore.row p0.fScores)])],[]⟩)
theorem sl_rrValueFault_10 (C:aj)  (p0:GValue) (p1:Int) (o:Int⊕(Unit⊕Unit)) (hF:st_rrValueFault_10 p0 p1=some o):evW TT C.wide n94 b94 10 (hd_rrValueFault_10 p0 p1)=Sum.elim (fun s=>evW TT C.wide n94 b94 10 (hd_rrValueFault_10 p0 s)) (fun r=>ou_rrValueFault_10 p0 r) o:=by
 rw [cG TT n94 fl94_10]
 revert hF
 unfold st_rrValueFault_10
 try dsimp only
 refine bF (fun h1=>?_) (fun h1=>?_)
 rotate_left 1
 refine bF (fun h2=>?_) (fun h2=>?_)
 rotate_left 1
 refine az fun x1 h3=>?_
 have g1:decide (0≤(IntKind.i64.wrap (p1-1)))=true:=(cp h3).1
 have g2:(ah bY p0.fItems)[((IntKind.i64.wrap (p1-1)):Int).toNat]? =some [.s x1]:=cn _ h3
 refine az fun x2 h4=>?_
 have g3:decide (0≤p1)=true:=(cp h4).1
 have g4:(ah bY p0.fItems)[(p1:Int).toNat]? =some [.s x2]:=cn _ h4
 refine aX (fun h5=>?_) (fun h5=>?_)
 rotate_left 1
 all_goals (rintro⟨⟩;show cN _ _ _ (aH _ _ _ _ (Code.seq _ _) _)=_;simp (maxSteps:=4000000) only [*,hd_rrValueFault_10,ou_rrValueFault_10,n94a,n94A,n94k,n94K,n94f38,n94mv,↓RP,RB,↓ai,aQ,aD,be,bf,aJ,Mx.bl,opnd,Mx.bI,Nat.reduceBEq,bQ,Mx.fit,co,aN,aA,ay,Mx.put,ofConst,ofCell,Mx.prune,killB,aK,putDst,aw,aE,loadAt,bT,List.map,cz,cB,cu,bj,fineE,oddAl,bG,cd,aI,aY,cm,bL,cv,ch,bo,aL,bm,Op.operands,ax,av,atO,cy,cx,↓ao,↓am,bh,br,ty3,ty9,ty29,ty71,ty74,↓aa _ _ _ _ 36,↓aq _ _ _ _ 38,↓aa _ _ _ _ 39,↓aa _ _ _ _ 37])
def hd_rrValueFault_12 (p0:GValue) (s:Int):St:=⟨[(1,.rp [.i .i64 p0.fKind,.s p0.fText,.i .i64 p0.fCount,.sl 2 (ah GPair.row p0.fPairs),.sl 1 (ah bY p0.fItems),.sl 2 (ah GScore.row p0.fScores)]),(10,.v (.i .i64 s))],[]⟩
def ou_rrValueFault_12 (p0:GValue) (r:Unit⊕Unit):Option (Ex×St):=match r with
 | .inl r=>some (.ret,⟨[(2,.v (.i .i64 10))],[]⟩)
 | .inr r=>some (.normal,⟨[],[]⟩)
theorem sl_rrValueFault_12 (C:aj) (k_rrscoreAhead:K_rrscoreAhead C) (k_rrmemberAt:K_rrmemberAt C) (p0:GValue) (p1:Int) (o:Int⊕(Unit⊕Unit)) (hF:st_rrValueFault_12 p0 p1=some o):evW TT C.wide n94 b94 12 (hd_rrValueFault_12 p0 p1)=Sum.elim (fun s=>evW TT C.wide n94 b94 12 (hd_rrValueFault_12 p0 s)) (fun r=>ou_rrValueFault_12 p0 r) o:=by
 rw [cG TT n94 fl94_12]
 revert hF
 unfold st_rrValueFault_12
 try dsimp only
 refine bF (fun h1=>?_) (fun h1=>?_)
 rotate_left 1
 refine az fun x1 h2=>?_
 have g1:decide (0≤(IntKind.i64.wrap (p1-1)))=true:=(cp h2).1
 have g2:(ah GScore.row p0.fScores)[((IntKind.i64.wrap (p1-1)):Int).toNat]? =some [.s x1.fMember,.i .i64 x1.fN]:=cn _ h2
 refine az fun x2 h3=>?_
 have g3:decide (0≤p1)=true:=(cp h3).1
 have g4:(ah GScore.row p0.fScores)[(p1:Int).toNat]? =some [.s x2.fMember,.i .i64 x2.fN]:=cn _ h3
 have g5:=bK (k_rrscoreAhead x1 x2 _ (rrscoreAhead_t x1 x2))
 refine bF (fun h4=>?_) (fun h4=>?_)
 rotate_left 1
 refine aX (fun h5=>?_) (fun _=>nofun)
 refine az fun x3 h6=>?_
 have g6:=bK (k_rrmemberAt (dm p0.fScores 0 p1) x2.fMember _ h6)
 refine aX (fun h7=>?_) (fun h7=>?_)
 rotate_left 1
 all_goals (rintro⟨⟩;show cN _ _ _ (aH _ _ _ _ (Code.seq _ _) _)=_;simp (maxSteps:=4000000) only [*,hd_rrValueFault_12,ou_rrValueFault_12,n94a,n94A,n94k,n94K,n94f43,n94mv,↓RP,RB,↓ai,aQ,aD,be,bf,aJ,Mx.bl,opnd,Mx.bI,Nat.reduceBEq,bQ,Mx.fit,co,aN,aA,ay,Mx.put,ofConst,ofCell,Mx.prune,killB,aK,putDst,aw,aE,loadAt,bT,List.map,Nat.reduceAdd,cz,cB,cu,forceAll,bound,ci,bj,bA,fineE,oddAl,lend,lendA,aS,aB,bR,bare,bW,bG,cd,aI,aY,cm,bL,cv,ch,bo,aL,bm,Op.operands,ax,av,atO,newB,cw,cy,cx,↓ao,↓am,bh,br,Call.operands,ty3,ty9,ty29,ty72,ty74,ty112,↓aa _ _ _ _ 41,↓aq _ _ _ _ 43,↓aa _ _ _ _ 44,↓aa _ _ _ _ 42])
theorem rg_rrValueFault_k4v2 (C:aj)  (p0:GValue) (p1:Bool) (c:Code) (ho:cD 0 4 b94=some c) (r:Bool) (hF:ck_rrValueFault_k4v2_v p0 p1=r): @cV TT C.wide (evW TT C.wide n94 b94) n94 0 4 ⟨[(1,.rp [.i .i64 p0.fKind,.s p0.fText,.i .i64 p0.fCount,.sl 2 (ah GPair.row p0.fPairs),.sl 1 (ah bY p0.fItems),.sl 2 (ah GScore.row p0.fScores)]),(3,.v (.b p1))],[]⟩ ⟨c⟩=some (.normal,⟨[(1,.rp [.i .i64 p0.fKind,.s p0.fText,.i .i64 p0.fCount,.sl 2 (ah GPair.row p0.fPairs),.sl 1 (ah bY p0.fItems),.sl 2 (ah GScore.row p0.fScores)]),(72,.v (.b r))],[]⟩):=by
 have e:=Option.some.inj (ho.symm.trans (rfl:cD 0 4 b94=some _))
 subst e
 clear ho
 show aH _ _ _ _ _ _=_
 revert hF
 unfold ck_rrValueFault_k4v2_v
 refine aX (fun h1=>?_) (fun h1=>?_)
 focus
  refine aX (fun h2=>?_) (fun h2=>?_)
  focus
   refine aX (fun h3=>?_) (fun h3=>?_)
   focus
    refine aX (fun h4=>?_) (fun h4=>?_)
    focus
     refine aX (fun h5=>?_) (fun h5=>?_)
     rotate_left 1
    rotate_left 2
    refine aX (fun h5=>?_) (fun h5=>?_)
    rotate_left 1
    refine aX (fun h6=>?_) (fun h6=>?_)
    rotate_left 1
   rotate_left 5
   unfold ck_rrValueFault_k4v2_v_c0
   refine aX (fun h4=>?_) (fun h4=>?_)
   rotate_left 1
   refine aX (fun h5=>?_) (fun h5=>?_)
   focus
    refine aX (fun h6=>?_) (fun h6=>?_)
    rotate_left 1
   rotate_left 2
   refine aX (fun h6=>?_) (fun h6=>?_)
   rotate_left 1
   refine aX (fun h7=>?_) (fun h7=>?_)
   rotate_left 1
  rotate_left 11
  unfold ck_rrValueFault_k4v2_v_c2
  refine bF (fun h3=>?_) (fun h3=>?_)
  rotate_left 1
  refine aX (fun h4=>?_) (fun h4=>?_)
  focus
   refine aX (fun h5=>?_) (fun h5=>?_)
   focus
    refine aX (fun h6=>?_) (fun h6=>?_)
    rotate_left 1
   rotate_left 2
   refine aX (fun h6=>?_) (fun h6=>?_)
   rotate_left 1
   refine aX (fun h7=>?_) (fun h7=>?_)
   rotate_left 1
  rotate_left 5
  unfold ck_rrValueFault_k4v2_v_c1
  refine aX (fun h5=>?_) (fun h5=>?_)
  rotate_left 1
  refine aX (fun h6=>?_) (fun h6=>?_)
  focus
   refine aX (fun h7=>?_) (fun h7=>?_)
   rotate_left 1
  rotate_left 2
  refine aX (fun h7=>?_) (fun h7=>?_)
  rotate_left 1
  refine aX (fun h8=>?_) (fun h8=>?_)
  rotate_left 1
 rotate_left 23
 unfold ck_rrValueFault_k4v2_v_c6
 refine bF (fun h2=>?_) (fun h2=>?_)
 rotate_left 1
 refine aX (fun h3=>?_) (fun h3=>?_)
 focus
  refine aX (fun h4=>?_) (fun h4=>?_)
  focus
   refine aX (fun h5=>?_) (fun h5=>?_)
   focus
    refine aX (fun h6=>?_) (fun h6=>?_)
    rotate_left 1
   rotate_left 2
   refine aX (fun h6=>?_) (fun h6=>?_)
   rotate_left 1
   refine aX (fun h7=>?_) (fun h7=>?_)
   rotate_left 1
  rotate_left 5
  unfold ck_rrValueFault_k4v2_v_c3
  refine aX (fun h5=>?_) (fun h5=>?_)
  rotate_left 1
  refine aX (fun h6=>?_) (fun h6=>?_)
  focus
   refine aX (fun h7=>?_) (fun h7=>?_)
   rotate_left 1
  rotate_left 2
  refine aX (fun h7=>?_) (fun h7=>?_)
  rotate_left 1
  refine aX (fun h8=>?_) (fun h8=>?_)
  rotate_left 1
 rotate_left 11
 unfold ck_rrValueFault_k4v2_v_c5
 refine bF (fun h4=>?_) (fun h4=>?_)
 rotate_left 1
 refine aX (fun h5=>?_) (fun h5=>?_)
 focus
  refine aX (fun h6=>?_) (fun h6=>?_)
  focus
   refine aX (fun h7=>?_) (fun h7=>?_)
   rotate_left 1
  rotate_left 2
  refine aX (fun h7=>?_) (fun h7=>?_)
  rotate_left 1
  refine aX (fun h8=>?_) (fun h8=>?_)
  rotate_left 1
 rotate_left 5
 unfold ck_rrValueFault_k4v2_v_c4
 refine aX (fun h6=>?_) (fun h6=>?_)
 rotate_left 1
 refine aX (fun h7=>?_) (fun h7=>?_)
 focus
  refine aX (fun h8=>?_) (fun h8=>?_)
  rotate_left 1
 rotate_left 2
 refine aX (fun h8=>?_) (fun h8=>?_)
 rotate_left 1
 refine aX (fun h9=>?_) (fun h9=>?_)
 rotate_left 1
 all_goals (rintro rfl;simp (maxSteps:=4000000) only [*,n94k,n94K,n94mv,↓RP,RB,aQ,aD,be,Mx.bl,opnd,Mx.bI,Nat.reduceBEq,bQ,aN,aA,ay,Mx.put,ofConst,ofCell,Mx.prune,killB,aK,putDst,aw,aE,loadAt,bT,List.map,cz,cB,cu,ax,cy,cx,bne,bh,ty3,ty9,ty70,ty71,ty72,ty74,↓aa _ _ _ _ 4])
theorem r_rrValueFault (C:aj) (k_rrIn:K_rrIn C) (k_rrsizeOf:K_rrsizeOf C) (k_rrtextMay:K_rrtextMay C) (k_rrcountMay:K_rrcountMay C) (k_rrfieldMay:K_rrfieldMay C) (k_rrscoreAhead:K_rrscoreAhead C) (k_rrmemberAt:K_rrmemberAt C) (p0:GValue) (r:Int) (hF:rrValueFault p0=some r):cR TT C.wide (evW TT C.wide n94 b94) n94 Try.f94.results.toList (aU Try.f94) [.agg [.v (.i .i64 p0.fKind),.v (.s p0.fText),.v (.i .i64 p0.fCount),.v (.sl 2 (ah GPair.row p0.fPairs)),.v (.sl 1 (ah bY p0.fItems)),.v (.sl 2 (ah GScore.row p0.fScores))]] []=some (.v (.i .i64 r),[]):=by
 revert hF
 unfold rrValueFault
 have g1:=bK (k_rrIn p0.fKind 1 6 _ (rrIn_t p0.fKind 1 6))
 have g2:rrIn_v p0.fKind 1 6=(decide (1≤p0.fKind)&&decide (p0.fKind≤6)):=by first|rfl|(simp [rrIn_v];done)|(simp only [rrIn_v];decide)
 refine bF (fun h1=>?_) (fun h1=>?_)
 rotate_left 1
 refine bF (fun h2=>?_) (fun h2=>?_)
 rotate_left 1
 refine aX (fun h3=>?_) (fun h3=>?_)
 focus
  unfold rrValueFault_c12
  have g3:=rg_rrValueFault_k4 C p0 _ rfl (ck_rrValueFault_k4_v p0) rfl
  refine aX (fun h4=>?_) (fun h4=>?_)
  rotate_left 1
  have g4:=rg_rrValueFault_k6 C k_rrsizeOf k_rrIn k_rrtextMay p0 _ rfl (ck_rrValueFault_k6_v p0) rfl
  refine aX (fun h5=>?_) (fun h5=>?_)
  rotate_left 1
  refine az ?_
  rintro (_|_) h6
  focus
   dsimp only
   have g5:=cH _ _ (sl_rrValueFault_0 C k_rrtextMay p0) h6
   try simp only [hd_rrValueFault_0,ou_rrValueFault_0] at g5
  rotate_left 1
  dsimp only
  unfold rrValueFault_c5
  have g6:=cH _ _ (sl_rrValueFault_0 C k_rrtextMay p0) h6
  try simp only [hd_rrValueFault_0,ou_rrValueFault_0] at g6
  refine az ?_
  rintro (_|_) h7
  focus
   dsimp only
   have g7:=cH _ _ (sl_rrValueFault_2 C k_rrfieldMay k_rrtextMay p0) h7
   try simp only [hd_rrValueFault_2,ou_rrValueFault_2] at g7
  rotate_left 1
  dsimp only
  unfold rrValueFault_c4
  have g8:=cH _ _ (sl_rrValueFault_2 C k_rrfieldMay k_rrtextMay p0) h7
  try simp only [hd_rrValueFault_2,ou_rrValueFault_2] at g8
  refine az ?_
  rintro (_|_) h8
  focus
   dsimp only
   have g9:=cH _ _ (sl_rrValueFault_4 C k_rrtextMay p0) h8
   try simp only [hd_rrValueFault_4,ou_rrValueFault_4] at g9
  rotate_left 1
  dsimp only
  unfold rrValueFault_c3
  have g10:=cH _ _ (sl_rrValueFault_4 C k_rrtextMay p0) h8
  have g11:=bK (k_rrcountMay p0.fCount _ (rrcountMay_t p0.fCount))
  try simp only [hd_rrValueFault_4,ou_rrValueFault_4] at g10
  refine bF (fun h9=>?_) (fun h9=>?_)
  rotate_left 1
  refine az ?_
  rintro (_|_) h10
  focus
   dsimp only
   have g12:=cH _ _ (sl_rrValueFault_6 C k_rrcountMay p0) h10
   try simp only [hd_rrValueFault_6,ou_rrValueFault_6] at g12
  rotate_left 1
  dsimp only
  unfold rrValueFault_c2
  have g13:=cH _ _ (sl_rrValueFault_6 C k_rrcountMay p0) h10
  try simp only [hd_rrValueFault_6,ou_rrValueFault_6] at g13
  refine az ?_
  rintro (_|_) h11
  focus
   dsimp only
   have g14:=cH _ _ (sl_rrValueFault_8 C p0) h11
   try simp only [hd_rrValueFault_8,ou_rrValueFault_8] at g14
  rotate_left 1
  dsimp only
  unfold rrValueFault_c1
  have g15:=cH _ _ (sl_rrValueFault_8 C p0) h11
  try simp only [hd_rrValueFault_8,ou_rrValueFault_8] at g15
  refine az ?_
  rintro (_|_) h12
  focus
   dsimp only
   have g16:=cH _ _ (sl_rrValueFault_10 C p0) h12
   try simp only [hd_rrValueFault_10,ou_rrValueFault_10] at g16
  rotate_left 1
  dsimp only
  unfold rrValueFault_c0
  have g17:=cH _ _ (sl_rrValueFault_10 C p0) h12
  try simp only [hd_rrValueFault_10,ou_rrValueFault_10] at g17
  refine az ?_
  rintro (_|_) h13
  focus
   dsimp only
   have g18:=cH _ _ (sl_rrValueFault_12 C k_rrscoreAhead k_rrmemberAt p0) h13
   try simp only [hd_rrValueFault_12,ou_rrValueFault_12] at g18
  rotate_left 1
  dsimp only
  have g19:=cH _ _ (sl_rrValueFault_12 C k_rrscoreAhead k_rrmemberAt p0) h13
  try simp only [hd_rrValueFault_12,ou_rrValueFault_12] at g19
 rotate_left 11
 have g20:=rg_rrValueFault_k4v2 C p0 (p0.fKind==5) _ rfl (ck_rrValueFault_k4v2_v p0 (p0.fKind==5)) rfl
 refine aX (fun h4=>?_) (fun h4=>?_)
 rotate_left 1
 have g4:=rg_rrValueFault_k6 C k_rrsizeOf k_rrIn k_rrtextMay p0 _ rfl (ck_rrValueFault_k6_v p0) rfl
 refine aX (fun h5=>?_) (fun h5=>?_)
 rotate_left 1
 refine az ?_
 rintro (_|_) h6
 focus
  dsimp only
  have g5:=cH _ _ (sl_rrValueFault_0 C k_rrtextMay p0) h6
  try simp only [hd_rrValueFault_0,ou_rrValueFault_0] at g5
 rotate_left 1
 dsimp only
 unfold rrValueFault_c11
 have g6:=cH _ _ (sl_rrValueFault_0 C k_rrtextMay p0) h6
 try simp only [hd_rrValueFault_0,ou_rrValueFault_0] at g6
 refine az ?_
 rintro (_|_) h7
 focus
  dsimp only
  have g7:=cH _ _ (sl_rrValueFault_2 C k_rrfieldMay k_rrtextMay p0) h7
  try simp only [hd_rrValueFault_2,ou_rrValueFault_2] at g7
 rotate_left 1
 dsimp only
 unfold rrValueFault_c10
 have g8:=cH _ _ (sl_rrValueFault_2 C k_rrfieldMay k_rrtextMay p0) h7
 try simp only [hd_rrValueFault_2,ou_rrValueFault_2] at g8
 refine az ?_
 rintro (_|_) h8
 focus
  dsimp only
  have g9:=cH _ _ (sl_rrValueFault_4 C k_rrtextMay p0) h8
  try simp only [hd_rrValueFault_4,ou_rrValueFault_4] at g9
 rotate_left 1
 dsimp only
 unfold rrValueFault_c9
 have g10:=cH _ _ (sl_rrValueFault_4 C k_rrtextMay p0) h8
 have g11:=bK (k_rrcountMay p0.fCount _ (rrcountMay_t p0.fCount))
 try simp only [hd_rrValueFault_4,ou_rrValueFault_4] at g10
 refine bF (fun h9=>?_) (fun h9=>?_)
 rotate_left 1
 refine az ?_
 rintro (_|_) h10
 focus
  dsimp only
  have g12:=cH _ _ (sl_rrValueFault_6 C k_rrcountMay p0) h10
  try simp only [hd_rrValueFault_6,ou_rrValueFault_6] at g12
 rotate_left 1
 dsimp only
 unfold rrValueFault_c8
 have g13:=cH _ _ (sl_rrValueFault_6 C k_rrcountMay p0) h10
 try simp only [hd_rrValueFault_6,ou_rrValueFault_6] at g13
 refine az ?_
 rintro (_|_) h11
 focus
  dsimp only
  have g14:=cH _ _ (sl_rrValueFault_8 C p0) h11
  try simp only [hd_rrValueFault_8,ou_rrValueFault_8] at g14
 rotate_left 1
 dsimp only
 unfold rrValueFault_c7
 have g15:=cH _ _ (sl_rrValueFault_8 C p0) h11
 try simp only [hd_rrValueFault_8,ou_rrValueFault_8] at g15
 refine az ?_
 rintro (_|_) h12
 focus
  dsimp only
  have g16:=cH _ _ (sl_rrValueFault_10 C p0) h12
  try simp only [hd_rrValueFault_10,ou_rrValueFault_10] at g16
 rotate_left 1
 dsimp only
 unfold rrValueFault_c6
 have g17:=cH _ _ (sl_rrValueFault_10 C p0) h12
 try simp only [hd_rrValueFault_10,ou_rrValueFault_10] at g17
 refine az ?_
 rintro (_|_) h13
 focus
  dsimp only
  have g18:=cH _ _ (sl_rrValueFault_12 C k_rrscoreAhead k_rrmemberAt p0) h13
  try simp only [hd_rrValueFault_12,ou_rrValueFault_12] at g18
 rotate_left 1
 dsimp only
 have g19:=cH _ _ (sl_rrValueFault_12 C k_rrscoreAhead k_rrmemberAt p0) h13
 try simp only [hd_rrValueFault_12,ou_rrValueFault_12] at g19
 all_goals (rintro⟨⟩;rw [bk];show cC _ _ _ (aH _ _ _ _ (Code.seq _ _) _)=_;simp (maxSteps:=4000000) only [*,res94,n94a,n94A,n94k,n94K,n94ro,n94mv,↓RP,RB,enter,aQ,aD,be,bf,aJ,Mx.bl,opnd,Mx.bI,Nat.reduceBEq,bQ,Mx.fit,bP,co,toVs,cellsOf,toV,aN,aA,ay,Mx.put,ofConst,ofCell,Mx.prune,killB,aK,putDst,aw,aE,loadAt,bT,List.map,cz,cB,aC,bu,bx,cA,bS,bJ,aM,lowC,forceAll,lend,lendA,aS,aB,bR,bare,bW,ax,av,atO,newB,cw,cy,cx,↓ao,↓am,bh,ty3,ty4,ty29,ty74,↓aa _ _ _ _ 0,↓aa _ _ _ _ 1,↓aa _ _ _ _ 2,↓aa _ _ _ _ 3,↓bg _ _ _ _ 4,↓aa _ _ _ _ 5,↓bg _ _ _ _ 6,↓aa _ _ _ _ 7,↓aa _ _ _ _ 8,↓aa _ _ _ _ 13,↓aa _ _ _ _ 18,↓aa _ _ _ _ 23,↓aa _ _ _ _ 24,↓aa _ _ _ _ 25,↓aa _ _ _ _ 30,↓aa _ _ _ _ 35,↓aa _ _ _ _ 40,↓aa _ _ _ _ 45])
def n73K:List (Nat×List Nat):=[(0,[1]),(1,[1,14]),(2,[2]),(3,[1,3]),(4,[1,3,19]),(5,[1,3]),(6,[1,3,4]),(7,[1,3,4,52]),(8,[2]),(9,[1,3,68]),(10,[2]),(11,[2])]
def n73A:List (Nat×List Nat×List Nat):=[(14,[],[1]),(19,[1,3],[]),(52,[],[1,3,4]),(68,[],[1,3])]
def n73:cL where
 keep:=ax n73K
 ro:=fun t=>t==1
 mv:=fun _=>false
 give:=fun _=>false
 free:=fun i=>match i with|7=>[(14,16),(15,16),(14,17),(15,17),(14,21),(15,21),(16,21),(17,21),(18,21),(19,21),(20,21),(14,22),(15,22),(16,22),(17,22),(18,22),(19,22),(20,22)]|_=>[]
 alive:=av n73A
theorem n73a (t:Nat) (x:Bool) (e:Env) (S:bH):cK n73 t x ⟨e,S⟩=atO (av n73A t x) e S:=cF rfl t x e S
theorem n73k (i:Nat):n73.keep i=ax n73K i:=rfl
theorem n73ro (t:Nat):n73.ro t=(t==1):=rfl
theorem n73mv (t:Nat):n73.mv t=(false):=rfl
theorem n73f7:n73.free 7= [(14,16),(15,16),(14,17),(15,17),(14,21),(15,21),(16,21),(17,21),(18,21),(19,21),(20,21),(14,22),(15,22),(16,22),(17,22),(18,22),(19,22),(20,22)]:=rfl
theorem res73:Try.f73.results.toList= [.tmp 2]:=rfl
noncomputable def b73:Code:=aU Try.f73
noncomputable def c73_0:Code:=(bE 0 (aU Try.f73)).getD .skip
theorem fl73_0:bE 0 b73=some c73_0:=rfl
theorem rg_rrStoreFault_k1 (C:aj) (k_rrIn:K_rrIn C) (p0:GStore) (c:Code) (ho:cD 0 1 b73=some c) (r:Bool) (hF:ck_rrStoreFault_k1_v p0=r): @cV TT C.wide (evW TT C.wide n73 b73) n73 0 1 ⟨[(1,.rp [.i .i64 p0.fNow,.sl 8 (ah GEntry.row p0.fEntries)])],[]⟩ ⟨c⟩=some (.normal,⟨[(1,.rp [.i .i64 p0.fNow,.sl 8 (ah GEntry.row p0.fEntries)]),(14,.v (.b r))],[]⟩):=by
 have e:=Option.some.inj (ho.symm.trans (rfl:cD 0 1 b73=some _))
 subst e
 clear ho
 show aH _ _ _ _ _ _=_
 revert hF
 unfold ck_rrStoreFault_k1_v
 have g1:=bK (k_rrIn p0.fNow 0 1073741824 _ (rrIn_t p0.fNow 0 1073741824))
 have g2:rrIn_v p0.fNow 0 1073741824=(decide (0≤p0.fNow)&&decide (p0.fNow≤1073741824)):=by first|rfl|(simp [rrIn_v];done)|(simp only [rrIn_v];decide)
 refine bF (fun h1=>?_) (fun h1=>?_)
 rotate_left 1
 refine aX (fun h2=>?_) (fun h2=>?_)
 rotate_left 1
 all_goals (rintro rfl;simp (maxSteps:=4000000) only [*,n73k,n73K,n73mv,↓RP,RB,aQ,aD,be,Mx.bl,opnd,Mx.bI,Nat.reduceBEq,bQ,aN,aA,ay,Mx.put,ofConst,ofCell,Mx.prune,killB,aK,putDst,aw,aE,loadAt,bT,List.map,cz,cB,cu,forceAll,lend,lendA,aS,aB,bR,bare,bW,ax,newB,cw,cy,cx,bh,ty3,ty23,ty25,↓aa _ _ _ _ 1])
theorem rg_rrStoreFault_k7v2 (C:aj) (k_rrfieldMay:K_rrfieldMay C) (k_rrValueFault:K_rrValueFault C) (p0:GStore) (p1:Int) (p2:GEntry) (c:Code) (ho:cD 0 7 b73=some c) (r:Bool) (hF:ck_rrStoreFault_k7v2 p0 p1 p2=some r): @cV TT C.wide (evW TT C.wide n73 b73) n73 0 7 ⟨[(1,.rp [.i .i64 p0.fNow,.sl 8 (ah GEntry.row p0.fEntries)]),(3,.v (.i .i64 p1)),(4,.ptr 0 0)],[[.v (.s p2.fKey),.v (.i .i64 p2.fValue.fKind),.v (.s p2.fValue.fText),.v (.i .i64 p2.fValue.fCount),.v (.sl 2 (ah GPair.row p2.fValue.fPairs)),.v (.sl 1 (ah bY p2.fValue.fItems)),.v (.sl 2 (ah GScore.row p2.fValue.fScores)),.v (.i .i64 p2.fUntil)]]⟩ ⟨c⟩=some (.normal,⟨[(1,.rp [.i .i64 p0.fNow,.sl 8 (ah GEntry.row p0.fEntries)]),(3,.v (.i .i64 p1)),(4,.ptr 0 0),(52,.v (.b r))],[[.v (.s p2.fKey),.v (.i .i64 p2.fValue.fKind),.v (.s p2.fValue.fText),.v (.i .i64 p2.fValue.fCount),.v (.sl 2 (ah GPair.row p2.fValue.fPairs)),.v (.sl 1 (ah bY p2.fValue.fItems)),.v (.sl 2 (ah GScore.row p2.fValue.fScores)),.v (.i .i64 p2.fUntil)]]⟩):=by
 have e:=Option.some.inj (ho.symm.trans (rfl:cD 0 7 b73=some _))
 subst e
 clear ho
 show aH _ _ _ _ _ _=_
 revert hF
 unfold ck_rrStoreFault_k7v2
 have g1:=bK (k_rrfieldMay p2.fKey _ (rrfieldMay_t p2.fKey))
 refine bF (fun h1=>?_) (fun h1=>?_)
 rotate_left 1
 refine az fun x1 h2=>?_
 have g2:=bK (k_rrValueFault p2.fValue _ h2)
 refine bF (fun h3=>?_) (fun h3=>?_)
 rotate_left 1
 refine bF (fun h4=>?_) (fun h4=>?_)
 rotate_left 1
 refine az fun x2 h5=>?_
 have g3:decide (0≤(IntKind.i64.wrap (p1-1)))=true:=(cp h5).1
 have g4:(ah GEntry.row p0.fEntries)[((IntKind.i64.wrap (p1-1)):Int).toNat]? =some [.s x2.fKey,.i .i64 x2.fValue.fKind,.s x2.fValue.fText,.i .i64 x2.fValue.fCount,.sl 2 (ah GPair.row x2.fValue.fPairs),.sl 1 (ah bY x2.fValue.fItems),.sl 2 (ah GScore.row x2.fValue.fScores),.i .i64 x2.fUntil]:=cn _ h5
 all_goals (rintro⟨⟩;simp (maxSteps:=4000000) only [*,n73k,n73K,n73f7,n73mv,↓RP,RB,aQ,aD,be,Mx.bl,opnd,Mx.bI,Nat.reduceBEq,bQ,aN,aA,ay,Mx.put,ofConst,ofCell,Mx.prune,killB,aK,putDst,aw,aE,loadAt,bT,List.map,Nat.reduceAdd,cz,cB,forceAll,bj,fineE,oddAl,lend,lendA,aS,aB,bR,bare,bW,bG,Nat.reduceSub,cd,aI,aY,cm,bL,cv,ch,bo,aL,bm,Op.operands,ax,newB,cw,cy,cx,bne,bh,aP,br,Call.operands,ty9,ty23,ty25,ty74,ty77,↓aq _ _ _ _ 7])
theorem rg_rrStoreFault_k9v2 (C:aj) (k_rrIn:K_rrIn C) (p0:GStore) (p1:Int) (p2:GEntry) (c:Code) (ho:cD 0 9 b73=some c) (r:Bool) (hF:ck_rrStoreFault_k9v2_v p0 p1 p2=r): @cV TT C.wide (evW TT C.wide n73 b73) n73 0 9 ⟨[(1,.rp [.i .i64 p0.fNow,.sl 8 (ah GEntry.row p0.fEntries)]),(3,.v (.i .i64 p1)),(4,.ptr 0 0)],[[.v (.s p2.fKey),.v (.i .i64 p2.fValue.fKind),.v (.s p2.fValue.fText),.v (.i .i64 p2.fValue.fCount),.v (.sl 2 (ah GPair.row p2.fValue.fPairs)),.v (.sl 1 (ah bY p2.fValue.fItems)),.v (.sl 2 (ah GScore.row p2.fValue.fScores)),.v (.i .i64 p2.fUntil)]]⟩ ⟨c⟩=some (.normal,⟨[(1,.rp [.i .i64 p0.fNow,.sl 8 (ah GEntry.row p0.fEntries)]),(3,.v (.i .i64 p1)),(68,.v (.b r))],[[.v (.s p2.fKey),.v (.i .i64 p2.fValue.fKind),.v (.s p2.fValue.fText),.v (.i .i64 p2.fValue.fCount),.v (.sl 2 (ah GPair.row p2.fValue.fPairs)),.v (.sl 1 (ah bY p2.fValue.fItems)),.v (.sl 2 (ah GScore.row p2.fValue.fScores)),.v (.i .i64 p2.fUntil)]]⟩):=by
 have e:=Option.some.inj (ho.symm.trans (rfl:cD 0 9 b73=some _))
 subst e
 clear ho
 show aH _ _ _ _ _ _=_
 revert hF
 unfold ck_rrStoreFault_k9v2_v
 refine aX (fun h1=>?_) (fun h1=>?_)
 rotate_left 1
 have g1:=bK (k_rrIn p2.fUntil 0 1073741824 _ (rrIn_t p2.fUntil 0 1073741824))
 have g2:rrIn_v p2.fUntil 0 1073741824=(decide (0≤p2.fUntil)&&decide (p2.fUntil≤1073741824)):=by first|rfl|(simp [rrIn_v];done)|(simp only [rrIn_v];decide)
 refine bF (fun h2=>?_) (fun h2=>?_)
 rotate_left 1
 refine aX (fun h3=>?_) (fun h3=>?_)
 rotate_left 1
 all_goals (rintro rfl;simp (maxSteps:=4000000) only [*,n73k,n73K,n73mv,↓RP,RB,aQ,aD,be,Mx.bl,opnd,Mx.bI,Nat.reduceBEq,bQ,aN,aA,ay,Mx.put,ofConst,ofCell,Mx.prune,killB,aK,putDst,aw,aE,loadAt,bT,List.map,cz,cB,forceAll,lend,lendA,aS,aB,bR,bare,bW,ax,newB,cw,cy,cx,bne,bh,ty3,ty25,ty77,↓aa _ _ _ _ 9])
def hd_rrStoreFault_0 (p0:GStore) (s:Int):St:=⟨[(1,.rp [.i .i64 p0.fNow,.sl 8 (ah GEntry.row p0.fEntries)]),(3,.v (.i .i64 s))],[]⟩
def ou_rrStoreFault_0 (p0:GStore) (r:GEntry⊕Unit):Option (Ex×St):=match r with
 | .inl r=>some (.ret,⟨[(2,.v (.i .i64 13))],[[.v (.s r.fKey),.v (.i .i64 r.fValue.fKind),.v (.s r.fValue.fText),.v (.i .i64 r.fValue.fCount),.v (.sl 2 (ah GPair.row r.fValue.fPairs)),.v (.sl 1 (ah bY r.fValue.fItems)),.v (.sl 2 (ah GScore.row r.fValue.fScores)),.v (.i .i64 r.fUntil)]]⟩)
 | .inr r=>some (.normal,⟨[],[]⟩)
theorem sl_rrStoreFault_0 (C:aj) (k_rrfieldMay:K_rrfieldMay C) (k_rrValueFault:K_rrValueFault C) (k_rrIn:K_rrIn C) (p0:GStore) (p1:Int) (o:Int⊕(GEntry⊕Unit)) (hF:st_rrStoreFault_0 p0 p1=some o):evW TT C.wide n73 b73 0 (hd_rrStoreFault_0 p0 p1)=Sum.elim (fun s=>evW TT C.wide n73 b73 0 (hd_rrStoreFault_0 p0 s)) (fun r=>ou_rrStoreFault_0 p0 r) o:=by
 rw [cG TT n73 fl73_0]
 revert hF
 unfold st_rrStoreFault_0
 try dsimp only
 refine bF (fun h1=>?_) (fun h1=>?_)
 rotate_left 1
 refine az fun x1 h2=>?_
 have g1:decide (0≤p1)=true:=(cp h2).1
 have g2:(ah GEntry.row p0.fEntries)[(p1:Int).toNat]? =some [.s x1.fKey,.i .i64 x1.fValue.fKind,.s x1.fValue.fText,.i .i64 x1.fValue.fCount,.sl 2 (ah GPair.row x1.fValue.fPairs),.sl 1 (ah bY x1.fValue.fItems),.sl 2 (ah GScore.row x1.fValue.fScores),.i .i64 x1.fUntil]:=cn _ h2
 refine az fun x2 h3=>?_
 have g3:=rg_rrStoreFault_k7v2 C k_rrfieldMay k_rrValueFault p0 p1 x1 _ rfl _ h3
 refine aX (fun h4=>?_) (fun h4=>?_)
 rotate_left 1
 have g4:=rg_rrStoreFault_k9v2 C k_rrIn p0 p1 x1 _ rfl (ck_rrStoreFault_k9v2_v p0 p1 x1) rfl
 refine aX (fun h5=>?_) (fun h5=>?_)
 rotate_left 1
 all_goals (rintro⟨⟩;show cN _ _ _ (aH _ _ _ _ (Code.seq _ _) _)=_;simp (maxSteps:=4000000) only [*,hd_rrStoreFault_0,ou_rrStoreFault_0,n73a,n73A,n73k,n73K,n73mv,↓RP,RB,↓ai,be,bf,aJ,Mx.bl,opnd,Mx.bI,Nat.reduceBEq,bQ,Mx.fit,bP,co,cellsOf,aN,aA,ay,Mx.put,ofConst,ofCell,Mx.prune,killB,killBs,aK,putDst,aw,aE,loadAt,bT,List.map,Nat.reduceAdd,cz,cB,cu,bJ,aM,lowC,bj,kill,bG,setCells,Nat.reduceLeDiff,lowA,bn,ax,av,atO,cy,cx,bne,↓ao,↓am,ty3,ty23,ty25,ty29,ty77,↓aa _ _ _ _ 4,↓aa _ _ _ _ 6,↓bg _ _ _ _ 7,↓aa _ _ _ _ 8,↓bg _ _ _ _ 9,↓aa _ _ _ _ 10,↓aa _ _ _ _ 5])
theorem r_rrStoreFault (C:aj) (k_rrIn:K_rrIn C) (k_rrfieldMay:K_rrfieldMay C) (k_rrValueFault:K_rrValueFault C) (p0:GStore) (r:Int) (hF:rrStoreFault p0=some r):cR TT C.wide (evW TT C.wide n73 b73) n73 Try.f73.results.toList (aU Try.f73) [.agg [.v (.i .i64 p0.fNow),.v (.sl 8 (ah GEntry.row p0.fEntries))]] []=some (.v (.i .i64 r),[]):=by
 revert hF
 unfold rrStoreFault
 have g1:=rg_rrStoreFault_k1 C k_rrIn p0 _ rfl (ck_rrStoreFault_k1_v p0) rfl
 refine aX (fun h1=>?_) (fun h1=>?_)
 rotate_left 1
 refine az ?_
 rintro (x1|_) h2
 focus
  dsimp only
  have g2:=cH _ _ (sl_rrStoreFault_0 C k_rrfieldMay k_rrValueFault k_rrIn p0) h2
  try simp only [hd_rrStoreFault_0,ou_rrStoreFault_0] at g2
 rotate_left 1
 dsimp only
 have g3:=cH _ _ (sl_rrStoreFault_0 C k_rrfieldMay k_rrValueFault k_rrIn p0) h2
 try simp only [hd_rrStoreFault_0,ou_rrStoreFault_0] at g3
 all_goals (rintro⟨⟩;rw [bk];show cC _ _ _ (aH _ _ _ _ (Code.seq _ _) _)=_;simp (maxSteps:=4000000) only [*,res73,n73a,n73A,n73k,n73K,n73ro,↓RP,RB,enter,be,bf,aJ,Mx.bl,opnd,Mx.bI,Nat.reduceBEq,bQ,Mx.fit,bP,co,toVs,cellsOf,toV,aN,aA,ay,Mx.put,ofConst,ofCell,Mx.prune,killB,List.map,aC,bu,bx,cA,bS,bJ,aM,lowC,ax,av,atO,↓ao,↓am,ty3,ty25,ty29,↓aa _ _ _ _ 0,↓bg _ _ _ _ 1,↓aa _ _ _ _ 2,↓aa _ _ _ _ 3,↓aa _ _ _ _ 11])
def n51K:List (Nat×List Nat):=[(0,[0]),(1,[2])]
def n51:cL where
 keep:=ax n51K
 ro:=fun _=>false
 mv:=fun _=>false
 give:=fun _=>false
 free:=fun _=>[]
theorem n51k (i:Nat):n51.keep i=ax n51K i:=rfl
theorem res51:Try.f51.results.toList= [.tmp 2]:=rfl
noncomputable def b51:Code:=aU Try.f51
theorem r_rrnumberMay (C:aj) (k_rrIn:K_rrIn C) (p0:Int) (r:Bool) (hF:rrnumberMay p0=some r):cR TT C.wide (evW TT C.wide n51 b51) n51 Try.f51.results.toList (aU Try.f51) [.v (.i .i64 p0)] []=some (.v (.b r),[]):=by
 revert hF
 unfold rrnumberMay
 have g1:=bK (k_rrIn p0 1 1048576 _ (rrIn_t p0 1 1048576))
 have g2:rrIn_v p0 1 1048576=(decide (1≤p0)&&decide (p0≤1048576)):=by first|rfl|(simp [rrIn_v];done)|(simp only [rrIn_v];decide)
 all_goals (rintro⟨⟩;rw [bk];show cC _ _ _ (aH _ _ _ _ (Code.seq _ _) _)=_;simp (maxSteps:=4000000) only [*,res51,n51k,n51K,↓RP,RB,enter,be,bf,aJ,Mx.bl,opnd,Mx.bI,Nat.reduceBEq,bQ,Mx.fit,co,aN,aA,Mx.put,ofConst,ofCell,Mx.prune,killB,aK,putDst,aw,List.map,aC,bu,bx,cA,bS,bJ,aM,lowC,forceAll,lend,lendA,aS,aB,bR,bare,bW,ax,newB,cw,↓ao,↓aa,ty4])
def n74K:List (Nat×List Nat):=[(0,[1]),(1,[1,7]),(2,[2]),(3,[1,17]),(4,[2]),(5,[1,3]),(6,[1,3,22]),(7,[1,3]),(8,[1,3,31]),(9,[2]),(10,[35]),(11,[2]),(12,[2])]
def n74A:List (Nat×List Nat×List Nat):=[(7,[],[1]),(17,[],[1]),(22,[1,3],[1]),(31,[],[1,3]),(35,[],[])]
def n74:cL where
 keep:=ax n74K
 ro:=fun t=>t==1
 mv:=fun _=>false
 give:=fun _=>false
 free:=fun _=>[]
 alive:=av n74A
theorem n74a (t:Nat) (x:Bool) (e:Env) (S:bH):cK n74 t x ⟨e,S⟩=atO (av n74A t x) e S:=cF rfl t x e S
theorem n74k (i:Nat):n74.keep i=ax n74K i:=rfl
theorem n74ro (t:Nat):n74.ro t=(t==1):=rfl
theorem n74mv (t:Nat):n74.mv t=(false):=rfl
theorem res74:Try.f74.results.toList= [.tmp 2]:=rfl
noncomputable def b74:Code:=aU Try.f74
noncomputable def c74_0:Code:=(bE 0 (aU Try.f74)).getD .skip
theorem fl74_0:bE 0 b74=some c74_0:=rfl
def hd_rrReplyFault_0 (p0:GReply) (s:Int):St:=⟨[(1,.rp [.i .i64 p0.fCode,.s p0.fText,.i .i64 p0.fN,.sl 1 (ah bY p0.fList)]),(3,.v (.i .i64 s))],[]⟩
def ou_rrReplyFault_0 (p0:GReply) (r:Unit⊕Unit):Option (Ex×St):=match r with
 | .inl r=>some (.ret,⟨[(2,.v (.i .i64 1))],[]⟩)
 | .inr r=>some (.normal,⟨[(1,.rp [.i .i64 p0.fCode,.s p0.fText,.i .i64 p0.fN,.sl 1 (ah bY p0.fList)])],[]⟩)
theorem sl_rrReplyFault_0 (C:aj) (k_rrtextMay:K_rrtextMay C) (p0:GReply) (p1:Int) (o:Int⊕(Unit⊕Unit)) (hF:st_rrReplyFault_0 p0 p1=some o):evW TT C.wide n74 b74 0 (hd_rrReplyFault_0 p0 p1)=Sum.elim (fun s=>evW TT C.wide n74 b74 0 (hd_rrReplyFault_0 p0 s)) (fun r=>ou_rrReplyFault_0 p0 r) o:=by
 rw [cG TT n74 fl74_0]
 revert hF
 unfold st_rrReplyFault_0
 try dsimp only
 refine bF (fun h1=>?_) (fun h1=>?_)
 rotate_left 1
 refine az fun x1 h2=>?_
 have g1:decide (0≤p1)=true:=(cp h2).1
 have g2:(ah bY p0.fList)[(p1:Int).toNat]? =some [.s x1]:=cn _ h2
 have g3:=bK (k_rrtextMay x1 _ (rrtextMay_t x1))
 refine aX (fun h3=>?_) (fun h3=>?_)
 rotate_left 1
 all_goals (rintro⟨⟩;show cN _ _ _ (aH _ _ _ _ (Code.seq _ _) _)=_;simp (maxSteps:=4000000) only [*,hd_rrReplyFault_0,ou_rrReplyFault_0,n74a,n74A,n74k,n74K,n74mv,↓RP,RB,↓ai,be,bf,aJ,Mx.bl,opnd,Mx.bI,Nat.reduceBEq,bQ,Mx.fit,co,aN,aA,ay,Mx.put,ofConst,ofCell,Mx.prune,killB,aK,putDst,aw,aE,loadAt,bT,List.map,cz,cB,cu,forceAll,bj,lend,lendA,aS,aB,bR,bare,bW,ax,av,atO,newB,cw,cy,cx,↓ao,↓am,↓aa,ty3,ty9,ty29,ty71,ty79])
theorem r_rrReplyFault (C:aj) (k_rrIn:K_rrIn C) (k_rrtextMay:K_rrtextMay C) (k_rrcountMay:K_rrcountMay C) (p0:GReply) (r:Int) (hF:rrReplyFault p0=some r):cR TT C.wide (evW TT C.wide n74 b74) n74 Try.f74.results.toList (aU Try.f74) [.agg [.v (.i .i64 p0.fCode),.v (.s p0.fText),.v (.i .i64 p0.fN),.v (.sl 1 (ah bY p0.fList))]] []=some (.v (.i .i64 r),[]):=by
 revert hF
 unfold rrReplyFault
 have g1:=bK (k_rrIn p0.fCode 0 13 _ (rrIn_t p0.fCode 0 13))
 have g2:rrIn_v p0.fCode 0 13=(decide (0≤p0.fCode)&&decide (p0.fCode≤13)):=by first|rfl|(simp [rrIn_v];done)|(simp only [rrIn_v];decide)
 refine bF (fun h1=>?_) (fun h1=>?_)
 rotate_left 1
 refine bF (fun h2=>?_) (fun h2=>?_)
 rotate_left 1
 have g3:=bK (k_rrtextMay p0.fText _ (rrtextMay_t p0.fText))
 refine bF (fun h3=>?_) (fun h3=>?_)
 rotate_left 1
 refine aX (fun h4=>?_) (fun h4=>?_)
 rotate_left 1
 refine az ?_
 rintro (_|_) h5
 focus
  dsimp only
  have g4:=cH _ _ (sl_rrReplyFault_0 C k_rrtextMay p0) h5
  try simp only [hd_rrReplyFault_0,ou_rrReplyFault_0] at g4
 rotate_left 1
 dsimp only
 have g5:=cH _ _ (sl_rrReplyFault_0 C k_rrtextMay p0) h5
 have g6:=bK (k_rrcountMay p0.fN _ (rrcountMay_t p0.fN))
 try simp only [hd_rrReplyFault_0,ou_rrReplyFault_0] at g5
 refine aX (fun h6=>?_) (fun h6=>?_)
 rotate_left 1
 all_goals (rintro⟨⟩;rw [bk];show cC _ _ _ (aH _ _ _ _ (Code.seq _ _) _)=_;simp (maxSteps:=4000000) only [*,res74,n74a,n74A,n74k,n74K,n74ro,n74mv,↓RP,RB,enter,aQ,aD,be,bf,aJ,Mx.bl,opnd,Mx.bI,Nat.reduceBEq,bQ,Mx.fit,bP,co,toVs,cellsOf,toV,aN,aA,ay,Mx.put,ofConst,ofCell,Mx.prune,killB,aK,putDst,aw,aE,loadAt,bT,List.map,cz,cB,cu,aC,bu,bx,cA,bS,bJ,aM,lowC,forceAll,lend,lendA,aS,aB,bR,bare,bW,ax,av,atO,newB,cw,cy,cx,↓ao,↓am,↓aa,bh,ty3,ty9,ty29,ty71,ty79])
end Go.Proofs.Ytgcglmoogaldbaa
