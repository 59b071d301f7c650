/- The code of these functions, run by the machine Mx, gives what the plain functions say, if their callees do (part 2). -/
import Derived.Test.YtgcglmoogaldbaaWTy
import Derived.Test.YtgcglmoogaldbaaWireDecodesD
import Derived.Test.YtgcglmoogaldbaaWireDecodesZa
set_option linter.unusedSimpArgs false
set_option linter.unusedVariables false
set_option linter.constructorNameAsVariable false
set_option linter.unnecessarySimpa false
set_option maxRecDepth 100000
set_option maxHeartbeats 40000000
namespace Go.Proofs.Ytgcglmoogaldbaa
open Go Go.Mx Go.Proofs
def n129K:List (Nat×List Nat):=[(0,[0,1]),(1,[4])]
def n129:cL where
 keep:=ax n129K
 ro:=fun _=>false
 mv:=fun _=>false
 give:=fun _=>false
 free:=fun _=>[]
theorem n129k (i:Nat):n129.keep i=ax n129K i:=rfl
theorem res129:Try.f129.results.toList= [.tmp 4]:=rfl
noncomputable def b129:Code:=aU Try.f129
theorem r_strings_Compare (C:aj) (k_ibCompareString:K_ibCompareString C) (p0:ByteArray) (p1:ByteArray) (r:Int) (hF:strings_Compare p0 p1=some r):cR TT C.wide (evW TT C.wide n129 b129) n129 Try.f129.results.toList (aU Try.f129) [.v (.s p0),.v (.s p1)] []=some (.v (.i .i64 r),[]):=by
 revert hF
 unfold strings_Compare
 refine someX ?_
 unfold strings_Compare_v
 have g1:=bK (k_ibCompareString p0 p1 _ (ibCompareString_t p0 p1))
 all_goals (rintro rfl;rw [bk];show cC _ _ _ (aH _ _ _ _ (Code.seq _ _) _)=_;simp (maxSteps:=4000000) only [*,res129,n129k,n129K,↓RP,RB,enter,be,bf,aJ,Mx.bl,opnd,Mx.bI,Nat.reduceBEq,bQ,Mx.fit,co,aN,aA,Mx.put,ofConst,ofCell,Mx.prune,killB,aK,putDst,aw,List.map,aC,bu,bx,cA,bS,bJ,aM,lowC,forceAll,lend,lendA,aS,aB,bR,bare,bW,ax,newB,cw,↓ao,↓aa,ty3])
def n125K:List (Nat×List Nat):=[(0,[2,3]),(1,[4])]
def n125:cL where
 keep:=ax n125K
 ro:=fun t=>t==2||t==3
 mv:=fun _=>false
 give:=fun _=>false
 free:=fun _=>[]
theorem n125k (i:Nat):n125.keep i=ax n125K i:=rfl
theorem n125ro (t:Nat):n125.ro t=(t==2||t==3):=rfl
theorem n125mv (t:Nat):n125.mv t=(false):=rfl
theorem res125:Try.f125.results.toList= [.tmp 4]:=rfl
noncomputable def b125:Code:=aU Try.f125
theorem r_value_byField (C:aj) (k_strings_Compare:K_strings_Compare C) (p0:GPair) (p1:GPair) (r:Int) (hF:value_byField p0 p1=some r):cR TT C.wide (evW TT C.wide n125 b125) n125 Try.f125.results.toList (aU Try.f125) [.agg [.v (.s p0.fField),.v (.s p0.fText)],.agg [.v (.s p1.fField),.v (.s p1.fText)]] []=some (.v (.i .i64 r),[]):=by
 revert hF
 unfold value_byField
 refine someX ?_
 unfold value_byField_v
 have g1:=bK (k_strings_Compare p0.fField p1.fField _ (strings_Compare_t p0.fField p1.fField))
 all_goals (rintro rfl;rw [bk];show cC _ _ _ (aH _ _ _ _ (Code.seq _ _) _)=_;simp (maxSteps:=4000000) only [*,res125,n125k,n125K,n125ro,n125mv,↓RP,RB,enter,be,bf,aJ,Mx.bl,opnd,Mx.bI,Nat.reduceBEq,bQ,Mx.fit,bP,co,toVs,cellsOf,toV,aN,aA,ay,Mx.put,ofConst,ofCell,Mx.prune,killB,aK,putDst,aw,aE,loadAt,bT,List.map,aC,bu,bx,cA,bS,bJ,aM,lowC,forceAll,lend,lendA,aS,aB,bR,bare,bW,ax,newB,cw,↓ao,↓aa,ty3,ty9,ty110])
def n124K:List (Nat×List Nat):=[(0,[0,1]),(1,[0,1,5]),(2,[0,1,5,9]),(3,[0,1,5]),(4,[0,1,5,23]),(5,[4]),(6,[4])]
def n124A:List (Nat×List Nat×List Nat):=[(9,[0,1,5],[]),(23,[],[0,1,5])]
def n124:cL where
 keep:=ax n124K
 ro:=fun _=>false
 mv:=fun _=>false
 give:=fun _=>false
 free:=fun i=>match i with|4=>[(0,1),(0,2),(1,2),(0,3),(1,3),(0,4),(0,5),(0,6),(1,6),(2,6),(3,6),(4,6),(5,6),(0,7),(1,7),(2,7),(3,7),(4,7),(5,7),(6,7),(0,8),(1,8),(2,8),(3,8),(4,8),(5,8),(0,9),(1,9),(2,9),(3,9),(4,9),(5,9)]|_=>[]
 alive:=av n124A
theorem n124a (t:Nat) (x:Bool) (e:Env) (S:bH):cK n124 t x ⟨e,S⟩=atO (av n124A t x) e S:=cF rfl t x e S
theorem n124k (i:Nat):n124.keep i=ax n124K i:=rfl
theorem n124mv (t:Nat):n124.mv t=(false):=rfl
theorem n124gv (t:Nat):n124.give t=(false):=rfl
theorem n124f4:n124.free 4= [(0,1),(0,2),(1,2),(0,3),(1,3),(0,4),(0,5),(0,6),(1,6),(2,6),(3,6),(4,6),(5,6),(0,7),(1,7),(2,7),(3,7),(4,7),(5,7),(6,7),(0,8),(1,8),(2,8),(3,8),(4,8),(5,8),(0,9),(1,9),(2,9),(3,9),(4,9),(5,9)]:=rfl
theorem res124:Try.f124.results.toList= [.tmp 4]:=rfl
noncomputable def b124:Code:=aU Try.f124
noncomputable def c124_0:Code:=(bE 0 (aU Try.f124)).getD .skip
theorem fl124_0:bE 0 b124=some c124_0:=rfl
def hd_value_rising_Pair_value_byField_0 (p0:List GPair) (s:Int):St:=⟨[(0,.v (.sl 2 (ah GPair.row p0))),(1,.clo 125 []),(5,.v (.i .i64 s))],[]⟩
def ou_value_rising_Pair_value_byField_0 (p0:List GPair) (r:Unit⊕Unit):Option (Ex×St):=match r with
 | .inl r=>some (.ret,⟨[(4,.v (.b false))],[]⟩)
 | .inr r=>some (.normal,⟨[],[]⟩)
theorem sl_value_rising_Pair_value_byField_0 (C:aj) (k_value_byField:K_value_byField C) (p0:List GPair) (p1:Int) (o:Int⊕(Unit⊕Unit)) (hF:st_value_rising_Pair_value_byField_0 p0 p1=some o):evW TT C.wide n124 b124 0 (hd_value_rising_Pair_value_byField_0 p0 p1)=Sum.elim (fun s=>evW TT C.wide n124 b124 0 (hd_value_rising_Pair_value_byField_0 p0 s)) (fun r=>ou_value_rising_Pair_value_byField_0 p0 r) o:=by
 rw [cG TT n124 fl124_0]
 revert hF
 unfold st_value_rising_Pair_value_byField_0
 try dsimp only
 refine bF (fun h1=>?_) (fun h1=>?_)
 rotate_left 1
 refine az fun x1 h2=>?_
 have g1:decide (0≤(IntKind.i64.wrap (p1-1)))=true:=(cp h2).1
 have g2:(ah GPair.row p0)[((IntKind.i64.wrap (p1-1)):Int).toNat]? =some [.s x1.fField,.s x1.fText]:=cn _ h2
 refine az fun x2 h3=>?_
 have g3:decide (0≤p1)=true:=(cp h3).1
 have g4:(ah GPair.row p0)[(p1:Int).toNat]? =some [.s x2.fField,.s x2.fText]:=cn _ h3
 have g5:=bK (k_value_byField x1 x2 _ (value_byField_t x1 x2))
 refine aX (fun h4=>?_) (fun h4=>?_)
 rotate_left 1
 all_goals (rintro⟨⟩;show cN _ _ _ (aH _ _ _ _ (Code.seq _ _) _)=_;simp (maxSteps:=4000000) only [*,hd_value_rising_Pair_value_byField_0,ou_value_rising_Pair_value_byField_0,n124a,n124A,n124k,n124K,n124f4,n124mv,n124gv,↓RP,RB,↓ai,be,bf,aJ,Mx.bl,opnd,Mx.bI,Nat.reduceBEq,bQ,Mx.fit,co,aN,aA,ay,Mx.put,ofConst,ofCell,Mx.prune,killB,killBs,aK,putDst,aw,loadAt,bT,List.map,Nat.reduceAdd,cz,cB,cu,bJ,aM,bD,bj,kill,footOf,reachOf,go,seenD,seenP,List.foldl_cons,List.foldl_nil,List.filter_nil,fineE,callArgs,oddAl,frz,cq,bw,argE,argsE,bG,bM,cd,au,aI,aY,cm,bL,cv,ch,bo,aL,bm,bp,bd,Op.operands,ax,av,atO,cy,cx,↓ao,↓am,↓aa,↓aq,br,bN,ty3,ty4,ty70,ty110])
theorem r_value_rising_Pair_value_byField (C:aj) (k_value_byField:K_value_byField C) (p0:List GPair) (r:Bool) (hF:value_rising_Pair_value_byField p0=some r):cR TT C.wide (evW TT C.wide n124 b124) n124 Try.f124.results.toList (aU Try.f124) [.v (.sl 2 (ah GPair.row p0)),.clo 125 []] []=some (.v (.b r),[]):=by
 revert hF
 unfold value_rising_Pair_value_byField
 refine az ?_
 rintro (_|_) h1
 focus
  dsimp only
  have g1:=cH _ _ (sl_value_rising_Pair_value_byField_0 C k_value_byField p0) h1
  try simp only [hd_value_rising_Pair_value_byField_0,ou_value_rising_Pair_value_byField_0] at g1
 rotate_left 1
 dsimp only
 have g2:=cH _ _ (sl_value_rising_Pair_value_byField_0 C k_value_byField p0) h1
 try simp only [hd_value_rising_Pair_value_byField_0,ou_value_rising_Pair_value_byField_0] at g2
 all_goals (rintro⟨⟩;rw [bk];show cC _ _ _ (aH _ _ _ _ (Code.seq _ _) _)=_;simp (maxSteps:=4000000) only [*,res124,n124k,n124K,↓RP,RB,enter,be,bf,aJ,Mx.bl,opnd,Mx.bI,Nat.reduceBEq,bQ,Mx.fit,co,aN,aA,Mx.put,ofConst,ofCell,Mx.prune,killB,killBs,List.map,aC,bu,bx,cA,bS,bJ,aM,lowC,ax,↓ao,↓aa,ty3,ty4])
def n143K:List (Nat×List Nat):=[(0,[0]),(1,[2])]
def n143:cL where
 keep:=ax n143K
 ro:=fun _=>false
 mv:=fun _=>false
 give:=fun _=>false
 free:=fun _=>[]
theorem n143k (i:Nat):n143.keep i=ax n143K i:=rfl
theorem res143:Try.f143.results.toList= [.tmp 2]:=rfl
noncomputable def b143:Code:=aU Try.f143
theorem r_cmp_isNaN_int (C:aj)  (p0:Int) (r:Bool) (hF:cmp_isNaN_int p0=some r):cR TT C.wide (evW TT C.wide n143 b143) n143 Try.f143.results.toList (aU Try.f143) [.v (.i .i64 p0)] []=some (.v (.b r),[]):=by
 revert hF
 unfold cmp_isNaN_int
 all_goals (rintro⟨⟩;rw [bk];show cC _ _ _ (aH _ _ _ _ (Code.seq _ _) _)=_;simp (maxSteps:=4000000) only [*,res143,n143k,n143K,↓RP,RB,enter,be,bf,aJ,Mx.bl,opnd,Mx.bI,Nat.reduceBEq,bQ,Mx.fit,co,aN,aA,Mx.put,ofConst,ofCell,Mx.prune,killB,aK,putDst,aw,List.map,cz,cB,aC,bu,bx,cA,bS,bJ,aM,lowC,ax,cy,cx,bne,↓ao,↓aa,ty4])
def n139K:List (Nat×List Nat):=[(0,[0,1]),(1,[0,1,5]),(2,[0,1,5,6]),(3,[0,1,6,11]),(4,[12]),(5,[4]),(6,[4]),(7,[0,1,13]),(8,[4]),(9,[0,1,16]),(10,[4]),(11,[19]),(12,[4]),(13,[4])]
def n139A:List (Nat×List Nat×List Nat):=[(11,[6],[0,1,6]),(12,[],[]),(13,[],[0,1]),(16,[],[0,1]),(19,[],[])]
def n139:cL where
 keep:=ax n139K
 ro:=fun _=>false
 mv:=fun _=>false
 give:=fun _=>false
 free:=fun _=>[]
 alive:=av n139A
theorem n139a (t:Nat) (x:Bool) (e:Env) (S:bH):cK n139 t x ⟨e,S⟩=atO (av n139A t x) e S:=cF rfl t x e S
theorem n139k (i:Nat):n139.keep i=ax n139K i:=rfl
theorem res139:Try.f139.results.toList= [.tmp 4]:=rfl
noncomputable def b139:Code:=aU Try.f139
theorem r_cmp_Compare_int (C:aj) (k_cmp_isNaN_int:K_cmp_isNaN_int C) (p0:Int) (p1:Int) (r:Int) (hF:cmp_Compare_int p0 p1=some r):cR TT C.wide (evW TT C.wide n139 b139) n139 Try.f139.results.toList (aU Try.f139) [.v (.i .i64 p0),.v (.i .i64 p1)] []=some (.v (.i .i64 r),[]):=by
 revert hF
 unfold cmp_Compare_int
 refine someX ?_
 unfold cmp_Compare_int_v
 have g1:=bK (k_cmp_isNaN_int p0 _ (cmp_isNaN_int_t p0))
 have g2:=bK (k_cmp_isNaN_int p1 _ (cmp_isNaN_int_t p1))
 refine aX (fun h1=>?_) (fun h1=>?_)
 focus
  refine aX (fun h2=>?_) (fun h2=>?_)
  rotate_left 1
 rotate_left 2
 refine aX (fun h2=>?_) (fun h2=>?_)
 rotate_left 1
 refine aX (fun h3=>?_) (fun h3=>?_)
 rotate_left 1
 refine aX (fun h4=>?_) (fun h4=>?_)
 rotate_left 1
 all_goals (rintro rfl;rw [bk];show cC _ _ _ (aH _ _ _ _ (Code.seq _ _) _)=_;simp (maxSteps:=4000000) only [*,res139,n139a,n139A,n139k,n139K,↓RP,RB,enter,be,bf,aJ,Mx.bl,opnd,Mx.bI,Nat.reduceBEq,bQ,Mx.fit,co,aN,aA,Mx.put,ofConst,ofCell,Mx.prune,killB,aK,putDst,aw,List.map,cz,cB,aC,bu,bx,cA,bS,bJ,aM,lowC,forceAll,lend,lendA,aS,aB,bR,bare,bW,Int.reduceNeg,ax,av,atO,newB,cw,cy,cx,↓ao,↓am,↓aa,ty3,ty4])
def n138K:List (Nat×List Nat):=[(0,[0]),(1,[0,3]),(2,[0,3,6,7,8]),(3,[0,3,6,7,8,9]),(4,[0,3,5,6,7,8]),(5,[0,3,5,6,7,8,14]),(6,[2]),(7,[0,3,6,7,8]),(8,[2])]
def n138A:List (Nat×List Nat×List Nat):=[(9,[0,3,6,7,8],[3]),(14,[5],[0,3,6,7,8])]
def n138:cL where
 keep:=ax n138K
 ro:=fun _=>false
 mv:=fun _=>false
 give:=fun _=>false
 free:=fun _=>[]
 alive:=av n138A
theorem n138a (t:Nat) (x:Bool) (e:Env) (S:bH):cK n138 t x ⟨e,S⟩=atO (av n138A t x) e S:=cF rfl t x e S
theorem n138k (i:Nat):n138.keep i=ax n138K i:=rfl
theorem n138mv (t:Nat):n138.mv t=(false):=rfl
theorem res138:Try.f138.results.toList= [.tmp 2]:=rfl
noncomputable def b138:Code:=aU Try.f138
noncomputable def c138_0:Code:=(bE 0 (aU Try.f138)).getD .skip
theorem fl138_0:bE 0 b138=some c138_0:=rfl
def hd_cmp_Or_int_0 (p0:List Int) (p1:Int) (s:Int):St:=⟨[(0,.v (.sl 1 (ah rowI p0))),(3,.v (.i .i64 0)),(6,.v (.sl 1 (ah rowI p0))),(7,.v (.i .i64 p1)),(8,.v (.i .i64 s))],[]⟩
def ou_cmp_Or_int_0 (p0:List Int) (p1:Int) (r:Int⊕Unit):Option (Ex×St):=match r with
 | .inl r=>some (.ret,⟨[(2,.v (.i .i64 r))],[]⟩)
 | .inr r=>some (.normal,⟨[(3,.v (.i .i64 0))],[]⟩)
theorem sl_cmp_Or_int_0 (C:aj)  (p0:List Int) (p1:Int) (p2:Int) (o:Int⊕(Int⊕Unit)) (hF:st_cmp_Or_int_0 p0 p1 p2=some o):evW TT C.wide n138 b138 0 (hd_cmp_Or_int_0 p0 p1 p2)=Sum.elim (fun s=>evW TT C.wide n138 b138 0 (hd_cmp_Or_int_0 p0 p1 s)) (fun r=>ou_cmp_Or_int_0 p0 p1 r) o:=by
 rw [cG TT n138 fl138_0]
 revert hF
 unfold st_cmp_Or_int_0
 try dsimp only
 refine bF (fun h1=>?_) (fun h1=>?_)
 rotate_left 1
 refine az fun x1 h2=>?_
 have g1:decide (0≤p2)=true:=(cp h2).1
 have g2:(ah rowI p0)[(p2:Int).toNat]? =some [.i .i64 x1]:=cn _ h2
 refine aX (fun h3=>?_) (fun h3=>?_)
 rotate_left 1
 all_goals (rintro⟨⟩;show cN _ _ _ (aH _ _ _ _ (Code.seq _ _) _)=_;simp (maxSteps:=4000000) only [*,hd_cmp_Or_int_0,ou_cmp_Or_int_0,n138a,n138A,n138k,n138K,n138mv,↓RP,RB,↓ai,be,bf,aJ,Mx.bl,opnd,Mx.bI,Nat.reduceBEq,bQ,Mx.fit,co,aN,aA,ay,Mx.put,ofConst,ofCell,Mx.prune,killB,aK,putDst,aw,loadAt,bT,List.map,cz,cB,bj,ax,av,atO,cy,cx,bne,↓ao,↓am,↓aa,ty3,ty169])
theorem r_cmp_Or_int (C:aj)  (p0:List Int) (r:Int) (hF:cmp_Or_int p0=some r):cR TT C.wide (evW TT C.wide n138 b138) n138 Try.f138.results.toList (aU Try.f138) [.v (.sl 1 (ah rowI p0))] []=some (.v (.i .i64 r),[]):=by
 revert hF
 unfold cmp_Or_int
 refine az ?_
 rintro (x1|_) h1
 focus
  dsimp only
  have g1:=cH _ _ (sl_cmp_Or_int_0 C p0 (p0.length:Int)) h1
  try simp only [hd_cmp_Or_int_0,ou_cmp_Or_int_0] at g1
 rotate_left 1
 dsimp only
 have g2:=cH _ _ (sl_cmp_Or_int_0 C p0 (p0.length:Int)) h1
 try simp only [hd_cmp_Or_int_0,ou_cmp_Or_int_0] at g2
 all_goals (rintro⟨⟩;rw [bk];show cC _ _ _ (aH _ _ _ _ (Code.seq _ _) _)=_;simp (maxSteps:=4000000) only [*,res138,n138k,n138K,↓RP,RB,enter,be,bf,aJ,Mx.bl,opnd,Mx.bI,Nat.reduceBEq,bQ,Mx.fit,co,aN,aA,Mx.put,ofConst,ofCell,Mx.prune,killB,aK,putDst,aw,List.map,cu,aC,bu,bx,cA,bS,bJ,aM,lowC,ax,↓ao,↓aa,ty3,ty169])
def n127K:List (Nat×List Nat):=[(0,[2,3]),(1,[4])]
def n127:cL where
 keep:=ax n127K
 ro:=fun t=>t==2||t==3
 mv:=fun _=>false
 give:=fun _=>false
 free:=fun i=>match i with|1=>[(0,2),(1,2),(0,3),(1,3),(0,5),(1,5),(2,5),(3,5),(4,5),(0,6),(1,6),(2,6),(3,6),(4,6),(0,7),(1,7),(2,7),(3,7),(4,7),(5,7),(6,7),(0,8),(1,8),(2,8),(3,8),(4,8),(5,8),(6,8)]|_=>[]
theorem n127k (i:Nat):n127.keep i=ax n127K i:=rfl
theorem n127ro (t:Nat):n127.ro t=(t==2||t==3):=rfl
theorem n127mv (t:Nat):n127.mv t=(false):=rfl
theorem n127f1:n127.free 1= [(0,2),(1,2),(0,3),(1,3),(0,5),(1,5),(2,5),(3,5),(4,5),(0,6),(1,6),(2,6),(3,6),(4,6),(0,7),(1,7),(2,7),(3,7),(4,7),(5,7),(6,7),(0,8),(1,8),(2,8),(3,8),(4,8),(5,8),(6,8)]:=rfl
theorem res127:Try.f127.results.toList= [.tmp 4]:=rfl
noncomputable def b127:Code:=aU Try.f127
theorem r_value_byScore (C:aj) (k_cmp_Compare_int:K_cmp_Compare_int C) (k_strings_Compare:K_strings_Compare C) (k_cmp_Or_int:K_cmp_Or_int C) (p0:GScore) (p1:GScore) (r:Int) (hF:value_byScore p0 p1=some r):cR TT C.wide (evW TT C.wide n127 b127) n127 Try.f127.results.toList (aU Try.f127) [.agg [.v (.s p0.fMember),.v (.i .i64 p0.fN)],.agg [.v (.s p1.fMember),.v (.i .i64 p1.fN)]] []=some (.v (.i .i64 r),[]):=by
 revert hF
 unfold value_byScore
 have g1:=bK (k_cmp_Compare_int p0.fN p1.fN _ (cmp_Compare_int_t p0.fN p1.fN))
 have g2:=bK (k_strings_Compare p0.fMember p1.fMember _ (strings_Compare_t p0.fMember p1.fMember))
 refine az fun x1 h1=>?_
 have g3:=bK (k_cmp_Or_int [(cmp_Compare_int_v p0.fN p1.fN),(strings_Compare_v p0.fMember p1.fMember)] _ h1)
 all_goals (rintro⟨⟩;rw [bk];show cC _ _ _ (aH _ _ _ _ (Code.seq _ _) _)=_;simp (maxSteps:=4000000) only [*,res127,n127k,n127K,n127f1,n127ro,n127mv,↓RP,RB,enter,be,bf,aJ,Mx.bl,opnd,Mx.bI,Nat.reduceBEq,bQ,Mx.fit,bP,co,toVs,cellsOf,toV,aN,aA,ay,Mx.put,ofConst,ofCell,Mx.prune,killB,aK,putDst,aw,aE,loadAt,bT,List.map,Nat.reduceAdd,Nat.reduceMul,aC,bu,bx,cA,bS,bJ,aM,bD,lowC,forceAll,fineE,oddAl,lend,lendA,aS,aB,bR,bare,bW,bG,takeParts,bv,aR,Nat.reduceLeDiff,bM,cd,au,aI,aY,cm,bL,cv,ch,bo,aL,bm,bp,bd,Op.operands,ax,newB,cw,bne,↓ao,↓aa,↓aq,br,bN,Call.operands,ty3,ty9,ty112,ty169])
def n126K:List (Nat×List Nat):=[(0,[0,1]),(1,[0,1,5]),(2,[0,1,5,9]),(3,[0,1,5]),(4,[0,1,5,23]),(5,[4]),(6,[4])]
def n126A:List (Nat×List Nat×List Nat):=[(9,[0,1,5],[]),(23,[],[0,1,5])]
def n126:cL where
 keep:=ax n126K
 ro:=fun _=>false
 mv:=fun _=>false
 give:=fun _=>false
 free:=fun i=>match i with|4=>[(0,1),(0,2),(1,2),(0,3),(1,3),(0,4),(0,5),(0,6),(1,6),(2,6),(3,6),(4,6),(5,6),(0,7),(1,7),(2,7),(3,7),(4,7),(5,7),(6,7),(0,8),(1,8),(2,8),(3,8),(4,8),(5,8),(0,9),(1,9),(2,9),(3,9),(4,9),(5,9)]|_=>[]
 alive:=av n126A
theorem n126a (t:Nat) (x:Bool) (e:Env) (S:bH):cK n126 t x ⟨e,S⟩=atO (av n126A t x) e S:=cF rfl t x e S
theorem n126k (i:Nat):n126.keep i=ax n126K i:=rfl
theorem n126mv (t:Nat):n126.mv t=(false):=rfl
theorem n126gv (t:Nat):n126.give t=(false):=rfl
theorem n126f4:n126.free 4= [(0,1),(0,2),(1,2),(0,3),(1,3),(0,4),(0,5),(0,6),(1,6),(2,6),(3,6),(4,6),(5,6),(0,7),(1,7),(2,7),(3,7),(4,7),(5,7),(6,7),(0,8),(1,8),(2,8),(3,8),(4,8),(5,8),(0,9),(1,9),(2,9),(3,9),(4,9),(5,9)]:=rfl
theorem res126:Try.f126.results.toList= [.tmp 4]:=rfl
noncomputable def b126:Code:=aU Try.f126
noncomputable def c126_0:Code:=(bE 0 (aU Try.f126)).getD .skip
theorem fl126_0:bE 0 b126=some c126_0:=rfl
def hd_value_rising_Score_value_byScore_0 (p0:List GScore) (s:Int):St:=⟨[(0,.v (.sl 2 (ah GScore.row p0))),(1,.clo 127 []),(5,.v (.i .i64 s))],[]⟩
def ou_value_rising_Score_value_byScore_0 (p0:List GScore) (r:Unit⊕Unit):Option (Ex×St):=match r with
 | .inl r=>some (.ret,⟨[(4,.v (.b false))],[]⟩)
 | .inr r=>some (.normal,⟨[],[]⟩)
theorem sl_value_rising_Score_value_byScore_0 (C:aj) (k_value_byScore:K_value_byScore C) (p0:List GScore) (p1:Int) (o:Int⊕(Unit⊕Unit)) (hF:st_value_rising_Score_value_byScore_0 p0 p1=some o):evW TT C.wide n126 b126 0 (hd_value_rising_Score_value_byScore_0 p0 p1)=Sum.elim (fun s=>evW TT C.wide n126 b126 0 (hd_value_rising_Score_value_byScore_0 p0 s)) (fun r=>ou_value_rising_Score_value_byScore_0 p0 r) o:=by
 rw [cG TT n126 fl126_0]
 revert hF
 unfold st_value_rising_Score_value_byScore_0
 try dsimp only
 refine bF (fun h1=>?_) (fun h1=>?_)
 rotate_left 1
 refine az fun x1 h2=>?_
 have g1:decide (0≤(IntKind.i64.wrap (p1-1)))=true:=(cp h2).1
 have g2:(ah GScore.row p0)[((IntKind.i64.wrap (p1-1)):Int).toNat]? =some [.s x1.fMember,.i .i64 x1.fN]:=cn _ h2
 refine az fun x2 h3=>?_
 have g3:decide (0≤p1)=true:=(cp h3).1
 have g4:(ah GScore.row p0)[(p1:Int).toNat]? =some [.s x2.fMember,.i .i64 x2.fN]:=cn _ h3
 refine az fun x3 h4=>?_
 have g5:=bK (k_value_byScore x1 x2 _ h4)
 refine aX (fun h5=>?_) (fun h5=>?_)
 rotate_left 1
 all_goals (rintro⟨⟩;show cN _ _ _ (aH _ _ _ _ (Code.seq _ _) _)=_;simp (maxSteps:=4000000) only [*,hd_value_rising_Score_value_byScore_0,ou_value_rising_Score_value_byScore_0,n126a,n126A,n126k,n126K,n126f4,n126mv,n126gv,↓RP,RB,↓ai,be,bf,aJ,Mx.bl,opnd,Mx.bI,Nat.reduceBEq,bQ,Mx.fit,co,aN,aA,ay,Mx.put,ofConst,ofCell,Mx.prune,killB,killBs,aK,putDst,aw,loadAt,bT,List.map,Nat.reduceAdd,cz,cB,cu,bJ,aM,bD,bj,kill,footOf,reachOf,go,seenD,seenP,List.foldl_cons,List.foldl_nil,List.filter_nil,fineE,callArgs,oddAl,frz,cq,bw,argE,argsE,bG,bM,cd,au,aI,aY,cm,bL,cv,ch,bo,aL,bm,bp,bd,Op.operands,ax,av,atO,cy,cx,↓ao,↓am,↓aa,↓aq,br,bN,ty3,ty4,ty72,ty112])
theorem r_value_rising_Score_value_byScore (C:aj) (k_value_byScore:K_value_byScore C) (p0:List GScore) (r:Bool) (hF:value_rising_Score_value_byScore p0=some r):cR TT C.wide (evW TT C.wide n126 b126) n126 Try.f126.results.toList (aU Try.f126) [.v (.sl 2 (ah GScore.row p0)),.clo 127 []] []=some (.v (.b r),[]):=by
 revert hF
 unfold value_rising_Score_value_byScore
 refine az ?_
 rintro (_|_) h1
 focus
  dsimp only
  have g1:=cH _ _ (sl_value_rising_Score_value_byScore_0 C k_value_byScore p0) h1
  try simp only [hd_value_rising_Score_value_byScore_0,ou_value_rising_Score_value_byScore_0] at g1
 rotate_left 1
 dsimp only
 have g2:=cH _ _ (sl_value_rising_Score_value_byScore_0 C k_value_byScore p0) h1
 try simp only [hd_value_rising_Score_value_byScore_0,ou_value_rising_Score_value_byScore_0] at g2
 all_goals (rintro⟨⟩;rw [bk];show cC _ _ _ (aH _ _ _ _ (Code.seq _ _) _)=_;simp (maxSteps:=4000000) only [*,res126,n126k,n126K,↓RP,RB,enter,be,bf,aJ,Mx.bl,opnd,Mx.bI,Nat.reduceBEq,bQ,Mx.fit,co,aN,aA,Mx.put,ofConst,ofCell,Mx.prune,killB,killBs,List.map,aC,bu,bx,cA,bS,bJ,aM,lowC,ax,↓ao,↓aa,ty3,ty4])
def n128K:List (Nat×List Nat):=[(0,[0,1]),(1,[0,1,5]),(2,[0,1,5,9]),(3,[0,1,5]),(4,[0,1,5,23]),(5,[4]),(6,[4])]
def n128A:List (Nat×List Nat×List Nat):=[(9,[0,1,5],[]),(23,[],[0,1,5])]
def n128:cL where
 keep:=ax n128K
 ro:=fun _=>false
 mv:=fun _=>false
 give:=fun _=>false
 free:=fun i=>match i with|4=>[(0,1),(0,2),(1,2),(0,3),(1,3),(0,4),(0,5),(0,6),(1,6),(2,6),(3,6),(4,6),(5,6),(0,7),(1,7),(2,7),(3,7),(4,7),(5,7),(6,7),(0,8),(1,8),(2,8),(3,8),(4,8),(5,8),(0,9),(1,9),(2,9),(3,9),(4,9),(5,9)]|_=>[]
 alive:=av n128A
theorem n128a (t:Nat) (x:Bool) (e:Env) (S:bH):cK n128 t x ⟨e,S⟩=atO (av n128A t x) e S:=cF rfl t x e S
theorem n128k (i:Nat):n128.keep i=ax n128K i:=rfl
theorem n128mv (t:Nat):n128.mv t=(false):=rfl
theorem n128gv (t:Nat):n128.give t=(false):=rfl
theorem n128f4:n128.free 4= [(0,1),(0,2),(1,2),(0,3),(1,3),(0,4),(0,5),(0,6),(1,6),(2,6),(3,6),(4,6),(5,6),(0,7),(1,7),(2,7),(3,7),(4,7),(5,7),(6,7),(0,8),(1,8),(2,8),(3,8),(4,8),(5,8),(0,9),(1,9),(2,9),(3,9),(4,9),(5,9)]:=rfl
theorem res128:Try.f128.results.toList= [.tmp 4]:=rfl
noncomputable def b128:Code:=aU Try.f128
noncomputable def c128_0:Code:=(bE 0 (aU Try.f128)).getD .skip
theorem fl128_0:bE 0 b128=some c128_0:=rfl
def hd_value_rising_string_strings_Compare_0 (p0:List ByteArray) (s:Int):St:=⟨[(0,.v (.sl 1 (ah bY p0))),(1,.clo 129 []),(5,.v (.i .i64 s))],[]⟩
def ou_value_rising_string_strings_Compare_0 (p0:List ByteArray) (r:Unit⊕Unit):Option (Ex×St):=match r with
 | .inl r=>some (.ret,⟨[(4,.v (.b false))],[]⟩)
 | .inr r=>some (.normal,⟨[],[]⟩)
theorem sl_value_rising_string_strings_Compare_0 (C:aj) (k_strings_Compare:K_strings_Compare C) (p0:List ByteArray) (p1:Int) (o:Int⊕(Unit⊕Unit)) (hF:st_value_rising_string_strings_Compare_0 p0 p1=some o):evW TT C.wide n128 b128 0 (hd_value_rising_string_strings_Compare_0 p0 p1)=Sum.elim (fun s=>evW TT C.wide n128 b128 0 (hd_value_rising_string_strings_Compare_0 p0 s)) (fun r=>ou_value_rising_string_strings_Compare_0 p0 r) o:=by
 rw [cG TT n128 fl128_0]
 revert hF
 unfold st_value_rising_string_strings_Compare_0
 try dsimp only
 refine bF (fun h1=>?_) (fun h1=>?_)
 rotate_left 1
 refine az fun x1 h2=>?_
 have g1:decide (0≤(IntKind.i64.wrap (p1-1)))=true:=(cp h2).1
 have g2:(ah bY p0)[((IntKind.i64.wrap (p1-1)):Int).toNat]? =some [.s x1]:=cn _ h2
 refine az fun x2 h3=>?_
 have g3:decide (0≤p1)=true:=(cp h3).1
 have g4:(ah bY p0)[(p1:Int).toNat]? =some [.s x2]:=cn _ h3
 have g5:=bK (k_strings_Compare x1 x2 _ (strings_Compare_t x1 x2))
 refine aX (fun h4=>?_) (fun h4=>?_)
 rotate_left 1
 all_goals (rintro⟨⟩;show cN _ _ _ (aH _ _ _ _ (Code.seq _ _) _)=_;simp (maxSteps:=4000000) only [*,hd_value_rising_string_strings_Compare_0,ou_value_rising_string_strings_Compare_0,n128a,n128A,n128k,n128K,n128f4,n128mv,n128gv,↓RP,RB,↓ai,be,bf,aJ,Mx.bl,opnd,Mx.bI,Nat.reduceBEq,bQ,Mx.fit,co,aN,aA,ay,Mx.put,ofConst,ofCell,Mx.prune,killB,killBs,aK,putDst,aw,loadAt,bT,List.map,cz,cB,cu,bJ,aM,bD,bj,kill,footOf,reachOf,go,seenD,seenP,List.foldl_cons,List.foldl_nil,List.filter_nil,fineE,callArgs,oddAl,frz,cq,bw,argE,argsE,bG,bM,cd,au,aI,aY,cm,bL,cv,ch,bo,aL,bm,bp,bd,Op.operands,ax,av,atO,cy,cx,↓ao,↓am,↓aa,↓aq,br,bN,ty3,ty4,ty9,ty71])
theorem r_value_rising_string_strings_Compare (C:aj) (k_strings_Compare:K_strings_Compare C) (p0:List ByteArray) (r:Bool) (hF:value_rising_string_strings_Compare p0=some r):cR TT C.wide (evW TT C.wide n128 b128) n128 Try.f128.results.toList (aU Try.f128) [.v (.sl 1 (ah bY p0)),.clo 129 []] []=some (.v (.b r),[]):=by
 revert hF
 unfold value_rising_string_strings_Compare
 refine az ?_
 rintro (_|_) h1
 focus
  dsimp only
  have g1:=cH _ _ (sl_value_rising_string_strings_Compare_0 C k_strings_Compare p0) h1
  try simp only [hd_value_rising_string_strings_Compare_0,ou_value_rising_string_strings_Compare_0] at g1
 rotate_left 1
 dsimp only
 have g2:=cH _ _ (sl_value_rising_string_strings_Compare_0 C k_strings_Compare p0) h1
 try simp only [hd_value_rising_string_strings_Compare_0,ou_value_rising_string_strings_Compare_0] at g2
 all_goals (rintro⟨⟩;rw [bk];show cC _ _ _ (aH _ _ _ _ (Code.seq _ _) _)=_;simp (maxSteps:=4000000) only [*,res128,n128k,n128K,↓RP,RB,enter,be,bf,aJ,Mx.bl,opnd,Mx.bI,Nat.reduceBEq,bQ,Mx.fit,co,aN,aA,Mx.put,ofConst,ofCell,Mx.prune,killB,killBs,List.map,aC,bu,bx,cA,bS,bJ,aM,lowC,ax,↓ao,↓aa,ty3,ty4])
def n141K:List (Nat×List Nat):=[(0,[1,2]),(1,[3])]
def n141:cL where
 keep:=ax n141K
 ro:=fun t=>t==2
 mv:=fun _=>false
 give:=fun _=>false
 free:=fun _=>[]
theorem n141k (i:Nat):n141.keep i=ax n141K i:=rfl
theorem n141ro (t:Nat):n141.ro t=(t==2):=rfl
theorem n141mv (t:Nat):n141.mv t=(false):=rfl
theorem res141:Try.f141.results.toList= [.tmp 3]:=rfl
noncomputable def b141:Code:=aU Try.f141
theorem r_value_rank_fn1 (C:aj)  (p0:GScore) (p1:ByteArray) (r:Bool×ByteArray) (hF:value_rank_fn1 p0 p1=some r):cR TT C.wide (evW TT C.wide n141 b141) n141 Try.f141.results.toList (aU Try.f141) [.agg [.v (.s p0.fMember),.v (.i .i64 p0.fN)],.ptr 0 0] [[.v (.s p1)]]=some (.v (.b r.1),[[.v (.s r.2)]]):=by
 revert hF
 unfold value_rank_fn1
 all_goals (rintro⟨⟩;rw [bk];show cC _ _ _ (aH _ _ _ _ (Code.seq _ _) _)=_;simp (maxSteps:=4000000) only [*,res141,n141k,n141K,n141ro,n141mv,↓RP,RB,enter,be,bf,aJ,Mx.bl,opnd,Mx.bI,Nat.reduceBEq,bQ,Mx.fit,bP,co,toVs,cellsOf,toV,aN,aA,ay,Mx.put,ofConst,ofCell,Mx.prune,killB,aK,putDst,aw,aE,loadAt,bT,List.map,cz,cB,aC,bu,bx,cA,bS,bJ,aM,lowC,ax,↓ao,↓aa,ty4,ty9,ty112])
def hd_sIRvalue_rank_fn1_0 (p0:List GScore) (p1:Int) (s:Int×ByteArray):St:=⟨[(0,.v (.sl 2 (ah GScore.row p0))),(1,.clo 141 [.ptr 0 0]),(7,.v (.i .i64 p1)),(8,.v (.i .i64 s.1))],[[.v (.s s.2)]]⟩
def ou_sIRvalue_rank_fn1_0 (p0:List GScore) (p1:Int) (r:(Int×ByteArray)⊕ByteArray):Option (Ex×St):=match r with
 | .inl r=>some (.ret,⟨[(4,.v (.i .i64 r.1))],[[.v (.s r.2)]]⟩)
 | .inr r=>some (.normal,⟨[],[[.v (.s r)]]⟩)
theorem sl_sIRvalue_rank_fn1_0 (C:aj) (k_value_rank_fn1:K_value_rank_fn1 C) (p0:List GScore) (p1:Int) (s:Int×ByteArray) (o:(Int×ByteArray)⊕((Int×ByteArray)⊕ByteArray)) (hF:st_sIRvalue_rank_fn1_0 p0 p1 s=some o):evW TT C.wide n137 b137 0 (hd_sIRvalue_rank_fn1_0 p0 p1 s)=Sum.elim (fun s=>evW TT C.wide n137 b137 0 (hd_sIRvalue_rank_fn1_0 p0 p1 s)) (fun r=>ou_sIRvalue_rank_fn1_0 p0 p1 r) o:=by
 obtain⟨p2,p3⟩:=s
 rw [cG TT n137 fl137_0]
 revert hF
 unfold st_sIRvalue_rank_fn1_0
 try dsimp only
 refine bF (fun h1=>?_) (fun h1=>?_)
 rotate_left 1
 refine az fun x1 h2=>?_
 have g1:decide (0≤p2)=true:=(cp h2).1
 have g2:(ah GScore.row p0)[(p2:Int).toNat]? =some [.s x1.fMember,.i .i64 x1.fN]:=cn _ h2
 refine az ?_
 rintro⟨x2,x3⟩ h3
 dsimp only
 have g3:C.wide 141 [.agg [.v (.s x1.fMember),.v (.i .i64 x1.fN)],.ptr 0 0] [[.v (.s p3)]]=some (.v (.b x2),[[.v (.s x3)]]):=cX [0] rfl rfl rfl rfl (k_value_rank_fn1 x1 p3 _ h3) rfl rfl
 refine aX (fun h4=>?_) (fun h4=>?_)
 rotate_left 1
 all_goals (rintro⟨⟩;show cN _ _ _ (aH _ _ _ _ (Code.seq _ _) _)=_;simp (maxSteps:=4000000) only [*,hd_sIRvalue_rank_fn1_0,ou_sIRvalue_rank_fn1_0,n137a,n137A,n137k,n137K,n137mv,n137gv,↓RP,RB,↓ai,be,bf,aJ,Mx.bl,opnd,Mx.bI,Nat.reduceBEq,bQ,Mx.fit,co,aN,aA,ay,Mx.put,ofConst,ofCell,Mx.prune,killB,killBs,aK,putDst,aw,loadAt,bT,List.map,Nat.reduceAdd,cz,cB,bJ,aM,bD,bj,kill,frz,cq,bw,argE,argsE,ax,av,atO,cy,cx,↓ao,↓am,↓aa,ty3,ty72,ty112])
theorem r_sIRvalue_rank_fn1 (C:aj) (k_value_rank_fn1:K_value_rank_fn1 C) (p0:List GScore) (p1:ByteArray) (r:Int×ByteArray) (hF:sIRvalue_rank_fn1 p0 p1=some r):cR TT C.wide (evW TT C.wide n137 b137) n137 Try.f137.results.toList (aU Try.f137) [.v (.sl 2 (ah GScore.row p0)),.clo 141 [.ptr 0 0]] [[.v (.s p1)]]=some (.v (.i .i64 r.1),[[.v (.s r.2)]]):=by
 revert hF
 unfold sIRvalue_rank_fn1
 refine az ?_
 rintro (⟨x1,x2⟩|x1) h1
 focus
  dsimp only
  have g1:=cH _ _ (sl_sIRvalue_rank_fn1_0 C k_value_rank_fn1 p0 (p0.length:Int)) h1
  try simp only [hd_sIRvalue_rank_fn1_0,ou_sIRvalue_rank_fn1_0] at g1
 rotate_left 1
 dsimp only
 have g2:=cH _ _ (sl_sIRvalue_rank_fn1_0 C k_value_rank_fn1 p0 (p0.length:Int)) h1
 try simp only [hd_sIRvalue_rank_fn1_0,ou_sIRvalue_rank_fn1_0] at g2
 all_goals (rintro⟨⟩;rw [bk];show cC _ _ _ (aH _ _ _ _ (Code.seq _ _) _)=_;simp (maxSteps:=4000000) only [*,res137,n137k,n137K,↓RP,RB,enter,be,bf,aJ,Mx.bl,opnd,Mx.bI,Nat.reduceBEq,bQ,Mx.fit,co,aN,aA,Mx.put,ofConst,ofCell,Mx.prune,killB,killBs,aK,putDst,aw,List.map,cu,aC,bu,bx,cA,bS,bJ,aM,lowC,Int.reduceNeg,ax,↓ao,↓aa,ty3,ty72])
def n130K:List (Nat×List Nat):=[(0,[0,3]),(1,[4])]
def n130:cL where
 keep:=ax n130K
 ro:=fun _=>false
 mv:=fun _=>false
 give:=fun _=>false
 free:=fun _=>[]
theorem n130k (i:Nat):n130.keep i=ax n130K i:=rfl
theorem n130ro (t:Nat):n130.ro t=(false):=rfl
theorem n130gv (t:Nat):n130.give t=(false):=rfl
theorem res130:Try.f130.results.toList= [.tmp 4]:=rfl
noncomputable def b130:Code:=aU Try.f130
theorem r_value_rank (C:aj) (k_sIRvalue_rank_fn1:K_sIRvalue_rank_fn1 C) (p0:List GScore) (p1:ByteArray) (r:Int) (hF:value_rank p0 p1=some r):cR TT C.wide (evW TT C.wide n130 b130) n130 Try.f130.results.toList (aU Try.f130) [.v (.sl 2 (ah GScore.row p0)),.v (.s p1)] []=some (.v (.i .i64 r),[]):=by
 revert hF
 unfold value_rank
 refine az ?_
 rintro⟨x1,x2⟩ h1
 dsimp only
 have g1:C.wide 137 [.v (.sl 2 (ah GScore.row p0)),.clo 141 [.ptr 0 0]] [[.v (.s p1)]]=some (.v (.i .i64 x1),[[.v (.s x2)]]):=cX [0] rfl rfl rfl rfl (k_sIRvalue_rank_fn1 p0 p1 _ h1) rfl rfl
 all_goals (rintro⟨⟩;rw [bk];show cC _ _ _ (aH _ _ _ _ (Code.seq _ _) _)=_;simp (maxSteps:=4000000) only [*,res130,n130k,n130K,n130ro,n130gv,↓RP,RB,enter,be,bf,aJ,Mx.bl,opnd,Mx.bI,Nat.reduceBEq,bQ,Mx.fit,co,toVs,cellsOf,toV,aN,aA,Mx.put,ofConst,ofCell,Mx.prune,killB,killBs,aK,putDst,aw,ar,List.map,aC,bu,bx,cA,bS,bJ,aM,bD,lowC,forceAll,kill,lend,lendA,aS,aB,bR,bare,bW,frz,cq,bw,argE,argsE,ax,newB,cw,↓ao,↓aa,ty3,ty9])
def n90K:List (Nat×List Nat):=[(0,[1]),(1,[1,14]),(2,[2]),(3,[1,3]),(4,[1,3,17]),(5,[1,3]),(6,[1,3,17,19]),(7,[1,3]),(8,[1,3,17,22]),(9,[1,3]),(10,[1,3,17,25]),(11,[1,3]),(12,[1,3,28]),(13,[1,3]),(14,[1,43]),(15,[2]),(16,[1,56]),(17,[2]),(18,[1,65]),(19,[2]),(20,[1,68]),(21,[2]),(22,[1,71]),(23,[2]),(24,[1,80]),(25,[2]),(26,[1,4]),(27,[1,4,100,101,102]),(28,[1,4,100,101,102,103]),(29,[1,4,5,6,100,101,102]),(30,[1,4,100,101,102]),(31,[1,4,100,101,102]),(32,[120]),(33,[2]),(34,[2])]
def n90A:List (Nat×List Nat×List Nat):=[(14,[],[1]),(19,[1,3],[1,3,17]),(22,[1,3],[1,3,17]),(25,[1,3],[1,3,17]),(28,[1,3],[1,3]),(43,[],[1]),(56,[],[1]),(65,[],[1]),(68,[],[1]),(71,[],[1]),(80,[],[1]),(103,[1,4,100,101,102],[4]),(120,[],[])]
def n90:cL where
 keep:=ax n90K
 ro:=fun t=>t==1
 mv:=fun _=>false
 give:=fun _=>false
 free:=fun i=>match i with|30=>[(2,4),(3,4),(2,6),(3,6),(4,6),(5,6),(2,7),(3,7),(4,7),(5,7)]|_=>[]
 alive:=av n90A
theorem n90a (t:Nat) (x:Bool) (e:Env) (S:bH):cK n90 t x ⟨e,S⟩=atO (av n90A t x) e S:=cF rfl t x e S
theorem n90k (i:Nat):n90.keep i=ax n90K i:=rfl
theorem n90ro (t:Nat):n90.ro t=(t==1):=rfl
theorem n90mv (t:Nat):n90.mv t=(false):=rfl
theorem n90f30:n90.free 30= [(2,4),(3,4),(2,6),(3,6),(4,6),(5,6),(2,7),(3,7),(4,7),(5,7)]:=rfl
theorem res90:Try.f90.results.toList= [.tmp 2]:=rfl
noncomputable def b90:Code:=aU Try.f90
noncomputable def c90_1:Code:=(bE 1 (aU Try.f90)).getD .skip
theorem fl90_1:bE 1 b90=some c90_1:=rfl
theorem rg_vaC_k16 (C:aj) (k_value_elements:K_value_elements C) (p0:GValue) (p1:Int) (p2:Int) (p3:List GPair) (p4:List ByteArray) (p5:List GScore) (c:Code) (ho:cD 0 16 b90=some c) (r:Bool) (hF:ck_vaC_k16_v p0 p1 p2 p3 p4 p5=r): @cV TT C.wide (evW TT C.wide n90 b90) n90 0 16 ⟨[(1,.rp [.i .i64 p0.fKind,.s p0.fText,.i .i64 p0.fCount,.sl 2 (ah GPair.row p0.fPairs),.sl 1 (ah bY p0.fItems),.sl 2 (ah GScore.row p0.fScores)])],[[.v (.i .i64 p1),.v (.s ByteArray.empty),.v (.i .i64 p2),.v (.sl 2 (ah GPair.row p3)),.v (.sl 1 (ah bY p4)),.v (.sl 2 (ah GScore.row p5))]]⟩ ⟨c⟩=some (.normal,⟨[(1,.rp [.i .i64 p0.fKind,.s p0.fText,.i .i64 p0.fCount,.sl 2 (ah GPair.row p0.fPairs),.sl 1 (ah bY p0.fItems),.sl 2 (ah GScore.row p0.fScores)]),(56,.v (.b r))],[[.v (.i .i64 p1),.v (.s ByteArray.empty),.v (.i .i64 p2),.v (.sl 2 (ah GPair.row p3)),.v (.sl 1 (ah bY p4)),.v (.sl 2 (ah GScore.row p5))]]⟩):=by
 have e:=Option.some.inj (ho.symm.trans (rfl:cD 0 16 b90=some _))
 subst e
 clear ho
 show aH _ _ _ _ _ _=_
 revert hF
 unfold ck_vaC_k16_v
 refine bF (fun h1=>?_) (fun h1=>?_)
 rotate_left 1
 have g1:=bK (k_value_elements p0 _ (value_elements_t p0))
 refine aX (fun h2=>?_) (fun h2=>?_)
 rotate_left 1
 all_goals (rintro rfl;simp (maxSteps:=4000000) only [*,n90k,n90K,n90mv,↓RP,RB,aQ,aD,be,Mx.bl,opnd,Mx.bI,Nat.reduceBEq,bQ,aN,aA,ay,Mx.put,ofConst,ofCell,Mx.prune,killB,aK,putDst,aw,aE,loadAt,bT,List.map,Nat.reduceAdd,cz,cB,forceAll,lend,lendA,aS,aB,bR,bare,bW,ax,newB,cw,cy,cx,bh,ty3,ty74,↓aa _ _ _ _ 16])
theorem rg_vaC_k26 (C:aj) (k_value_rising_Pair_value_byField:K_value_rising_Pair_value_byField C) (k_value_rising_Score_value_byScore:K_value_rising_Score_value_byScore C) (k_value_rising_string_strings_Compare:K_value_rising_string_strings_Compare C) (p0:GValue) (p1:Int) (p2:Int) (p3:List GPair) (p4:List ByteArray) (p5:List GScore) (c:Code) (ho:cD 0 26 b90=some c) (r:Bool) (hF:ck_vaC_k26 p0 p1 p2 p3 p4 p5=some r): @cV TT C.wide (evW TT C.wide n90 b90) n90 0 26 ⟨[(1,.rp [.i .i64 p0.fKind,.s p0.fText,.i .i64 p0.fCount,.sl 2 (ah GPair.row p0.fPairs),.sl 1 (ah bY p0.fItems),.sl 2 (ah GScore.row p0.fScores)])],[[.v (.i .i64 p1),.v (.s ByteArray.empty),.v (.i .i64 p2),.v (.sl 2 (ah GPair.row p3)),.v (.sl 1 (ah bY p4)),.v (.sl 2 (ah GScore.row p5))]]⟩ ⟨c⟩=some (.normal,⟨[(1,.rp [.i .i64 p0.fKind,.s p0.fText,.i .i64 p0.fCount,.sl 2 (ah GPair.row p0.fPairs),.sl 1 (ah bY p0.fItems),.sl 2 (ah GScore.row p0.fScores)]),(4,.v (.b r))],[[.v (.i .i64 p1),.v (.s ByteArray.empty),.v (.i .i64 p2),.v (.sl 2 (ah GPair.row p3)),.v (.sl 1 (ah bY p4)),.v (.sl 2 (ah GScore.row p5))]]⟩):=by
 have e:=Option.some.inj (ho.symm.trans (rfl:cD 0 26 b90=some _))
 subst e
 clear ho
 show aH _ _ _ _ _ _=_
 revert hF
 unfold ck_vaC_k26
 refine az fun x1 h1=>?_
 have g1:=bK (k_value_rising_Pair_value_byField p0.fPairs _ h1)
 refine bF (fun h2=>?_) (fun h2=>?_)
 rotate_left 1
 refine az fun x2 h3=>?_
 have g2:=bK (k_value_rising_Score_value_byScore p0.fScores _ h3)
 refine bF (fun h4=>?_) (fun h4=>?_)
 rotate_left 1
 refine bF (fun h5=>?_) (fun h5=>?_)
 rotate_left 1
 refine az fun x3 h6=>?_
 have g3:=bK (k_value_rising_string_strings_Compare p0.fItems _ h6)
 all_goals (rintro⟨⟩;simp (maxSteps:=4000000) only [*,n90k,n90K,n90mv,↓RP,RB,aQ,aD,be,bf,aJ,Mx.bl,opnd,Mx.bI,Nat.reduceBEq,bQ,Mx.fit,co,aN,aA,ay,Mx.put,ofConst,ofCell,Mx.prune,killB,aK,putDst,aw,aE,loadAt,bT,List.map,cz,cB,forceAll,lend,lendA,aS,aB,bR,bare,bW,ax,newB,cw,cy,cx,bne,bh,ty3,ty4,ty70,ty71,ty72,ty74,↓aa _ _ _ _ 26])
def hd_vaC_1 (p0:GValue) (p2:List GScore) (p3:Int) (p5:Int) (p6:Int) (p7:List GPair) (p8:List ByteArray) (s:Bool×Int):St:=⟨[(1,.rp [.i .i64 p0.fKind,.s p0.fText,.i .i64 p0.fCount,.sl 2 (ah GPair.row p0.fPairs),.sl 1 (ah bY p0.fItems),.sl 2 (ah GScore.row p0.fScores)]),(4,.v (.b s.1)),(100,.v (.sl 2 (ah GScore.row p2))),(101,.v (.i .i64 p3)),(102,.v (.i .i64 s.2))],[[.v (.i .i64 p5),.v (.s ByteArray.empty),.v (.i .i64 p6),.v (.sl 2 (ah GPair.row p7)),.v (.sl 1 (ah bY p8)),.v (.sl 2 (ah GScore.row p2))]]⟩
def ou_vaC_1 (p0:GValue) (p2:List GScore) (p3:Int) (p5:Int) (p6:Int) (p7:List GPair) (p8:List ByteArray) (r:Bool):Option (Ex×St):=some (.normal,⟨[(4,.v (.b r))],[[.v (.i .i64 p5),.v (.s ByteArray.empty),.v (.i .i64 p6),.v (.sl 2 (ah GPair.row p7)),.v (.sl 1 (ah bY p8)),.v (.sl 2 (ah GScore.row p2))]]⟩)
theorem sl_vaC_1 (C:aj) (k_value_rank:K_value_rank C) (p0:GValue) (p2:List GScore) (p3:Int) (p5:Int) (p6:Int) (p7:List GPair) (p8:List ByteArray) (s:Bool×Int) (o:(Bool×Int)⊕Bool) (hF:st_vaC_1 p0 p2 p3 p5 p6 p7 p8 s=some o):evW TT C.wide n90 b90 1 (hd_vaC_1 p0 p2 p3 p5 p6 p7 p8 s)=Sum.elim (fun s=>evW TT C.wide n90 b90 1 (hd_vaC_1 p0 p2 p3 p5 p6 p7 p8 s)) (fun r=>ou_vaC_1 p0 p2 p3 p5 p6 p7 p8 r) o:=by
 obtain⟨p1,p4⟩:=s
 rw [cG TT n90 fl90_1]
 revert hF
 unfold st_vaC_1
 try dsimp only
 refine bF (fun h1=>?_) (fun h1=>?_)
 rotate_left 1
 refine az fun x1 h2=>?_
 have g1:decide (0≤p4)=true:=(cp h2).1
 have g2:(ah GScore.row p2)[(p4:Int).toNat]? =some [.s x1.fMember,.i .i64 x1.fN]:=cn _ h2
 refine bF (fun h3=>?_) (fun h3=>?_)
 rotate_left 1
 refine aX (fun h4=>?_) (fun _=>nofun)
 refine az fun x2 h5=>?_
 have g3:=bK (k_value_rank (dm p0.fScores 0 p4) x1.fMember _ h5)
 all_goals (rintro⟨⟩;show cN _ _ _ (aH _ _ _ _ (Code.seq _ _) _)=_;simp (maxSteps:=4000000) only [*,hd_vaC_1,ou_vaC_1,n90a,n90A,n90k,n90K,n90f30,n90mv,↓RP,RB,↓ai,aQ,aD,be,bf,aJ,Mx.bl,opnd,Mx.bI,Nat.reduceBEq,bQ,Mx.fit,bP,co,cellsOf,aN,aA,ay,Mx.put,ofConst,ofCell,Mx.prune,killB,killBs,aK,putDst,aw,aE,loadAt,bT,List.map,Nat.reduceAdd,cz,cB,cu,bJ,aM,lowC,forceAll,bound,ci,bj,bA,kill,fineE,oddAl,lend,lendA,aS,aB,bR,bare,bW,bG,setCells,Nat.reduceSub,Nat.reduceLeDiff,lowA,bn,bM,cd,au,aI,aY,cm,bL,cv,ch,bo,aL,bm,bp,bd,Op.operands,ax,av,atO,newB,cw,cy,cx,bne,↓ao,↓am,bh,br,bN,Call.operands,ty3,ty4,ty9,ty72,ty74,ty112,↓aa _ _ _ _ 28,↓aa _ _ _ _ 29,↓aq _ _ _ _ 30,↓aa _ _ _ _ 31])
theorem rg_vaC_k16v2 (C:aj) (k_value_elements:K_value_elements C) (p0:GValue) (p1:Int) (p2:ByteArray) (p3:List GPair) (p4:List ByteArray) (p5:List GScore) (c:Code) (ho:cD 0 16 b90=some c) (r:Bool) (hF:ck_vaC_k16v2_v p0 p1 p2 p3 p4 p5=r): @cV TT C.wide (evW TT C.wide n90 b90) n90 0 16 ⟨[(1,.rp [.i .i64 p0.fKind,.s p0.fText,.i .i64 p0.fCount,.sl 2 (ah GPair.row p0.fPairs),.sl 1 (ah bY p0.fItems),.sl 2 (ah GScore.row p0.fScores)])],[[.v (.i .i64 p1),.v (.s p2),.v (.i .i64 0),.v (.sl 2 (ah GPair.row p3)),.v (.sl 1 (ah bY p4)),.v (.sl 2 (ah GScore.row p5))]]⟩ ⟨c⟩=some (.normal,⟨[(1,.rp [.i .i64 p0.fKind,.s p0.fText,.i .i64 p0.fCount,.sl 2 (ah GPair.row p0.fPairs),.sl 1 (ah bY p0.fItems),.sl 2 (ah GScore.row p0.fScores)]),(56,.v (.b r))],[[.v (.i .i64 p1),.v (.s p2),.v (.i .i64 0),.v (.sl 2 (ah GPair.row p3)),.v (.sl 1 (ah bY p4)),.v (.sl 2 (ah GScore.row p5))]]⟩):=by
 have e:=Option.some.inj (ho.symm.trans (rfl:cD 0 16 b90=some _))
 subst e
 clear ho
 show aH _ _ _ _ _ _=_
 revert hF
 unfold ck_vaC_k16v2_v
 refine bF (fun h1=>?_) (fun h1=>?_)
 rotate_left 1
 have g1:=bK (k_value_elements p0 _ (value_elements_t p0))
 refine aX (fun h2=>?_) (fun h2=>?_)
 rotate_left 1
 all_goals (rintro rfl;simp (maxSteps:=4000000) only [*,n90k,n90K,n90mv,↓RP,RB,aQ,aD,be,Mx.bl,opnd,Mx.bI,Nat.reduceBEq,bQ,aN,aA,ay,Mx.put,ofConst,ofCell,Mx.prune,killB,aK,putDst,aw,aE,loadAt,bT,List.map,Nat.reduceAdd,cz,cB,forceAll,lend,lendA,aS,aB,bR,bare,bW,ax,newB,cw,cy,cx,bh,ty3,ty74,↓aa _ _ _ _ 16])
theorem rg_vaC_k26v2 (C:aj) (k_value_rising_Pair_value_byField:K_value_rising_Pair_value_byField C) (k_value_rising_Score_value_byScore:K_value_rising_Score_value_byScore C) (k_value_rising_string_strings_Compare:K_value_rising_string_strings_Compare C) (p0:GValue) (p1:Int) (p2:ByteArray) (p3:List GPair) (p4:List ByteArray) (p5:List GScore) (c:Code) (ho:cD 0 26 b90=some c) (r:Bool) (hF:ck_vaC_k26v2 p0 p1 p2 p3 p4 p5=some r): @cV TT C.wide (evW TT C.wide n90 b90) n90 0 26 ⟨[(1,.rp [.i .i64 p0.fKind,.s p0.fText,.i .i64 p0.fCount,.sl 2 (ah GPair.row p0.fPairs),.sl 1 (ah bY p0.fItems),.sl 2 (ah GScore.row p0.fScores)])],[[.v (.i .i64 p1),.v (.s p2),.v (.i .i64 0),.v (.sl 2 (ah GPair.row p3)),.v (.sl 1 (ah bY p4)),.v (.sl 2 (ah GScore.row p5))]]⟩ ⟨c⟩=some (.normal,⟨[(1,.rp [.i .i64 p0.fKind,.s p0.fText,.i .i64 p0.fCount,.sl 2 (ah GPair.row p0.fPairs),.sl 1 (ah bY p0.fItems),.sl 2 (ah GScore.row p0.fScores)]),(4,.v (.b r))],[[.v (.i .i64 p1),.v (.s p2),.v (.i .i64 0),.v (.sl 2 (ah GPair.row p3)),.v (.sl 1 (ah bY p4)),.v (.sl 2 (ah GScore.row p5))]]⟩):=by
 have e:=Option.some.inj (ho.symm.trans (rfl:cD 0 26 b90=some _))
 subst e
 clear ho
 show aH _ _ _ _ _ _=_
 revert hF
 unfold ck_vaC_k26v2
 refine az fun x1 h1=>?_
 have g1:=bK (k_value_rising_Pair_value_byField p0.fPairs _ h1)
 refine bF (fun h2=>?_) (fun h2=>?_)
 rotate_left 1
 refine az fun x2 h3=>?_
 have g2:=bK (k_value_rising_Score_value_byScore p0.fScores _ h3)
 refine bF (fun h4=>?_) (fun h4=>?_)
 rotate_left 1
 refine bF (fun h5=>?_) (fun h5=>?_)
 rotate_left 1
 refine az fun x3 h6=>?_
 have g3:=bK (k_value_rising_string_strings_Compare p0.fItems _ h6)
 all_goals (rintro⟨⟩;simp (maxSteps:=4000000) only [*,n90k,n90K,n90mv,↓RP,RB,aQ,aD,be,bf,aJ,Mx.bl,opnd,Mx.bI,Nat.reduceBEq,bQ,Mx.fit,co,aN,aA,ay,Mx.put,ofConst,ofCell,Mx.prune,killB,aK,putDst,aw,aE,loadAt,bT,List.map,cz,cB,forceAll,lend,lendA,aS,aB,bR,bare,bW,ax,newB,cw,cy,cx,bne,bh,ty3,ty4,ty70,ty71,ty72,ty74,↓aa _ _ _ _ 26])
def hd_vaC_1v2 (p0:GValue) (p2:List GScore) (p3:Int) (p5:Int) (p6:ByteArray) (p7:List GPair) (p8:List ByteArray) (s:Bool×Int):St:=⟨[(1,.rp [.i .i64 p0.fKind,.s p0.fText,.i .i64 p0.fCount,.sl 2 (ah GPair.row p0.fPairs),.sl 1 (ah bY p0.fItems),.sl 2 (ah GScore.row p0.fScores)]),(4,.v (.b s.1)),(100,.v (.sl 2 (ah GScore.row p2))),(101,.v (.i .i64 p3)),(102,.v (.i .i64 s.2))],[[.v (.i .i64 p5),.v (.s p6),.v (.i .i64 0),.v (.sl 2 (ah GPair.row p7)),.v (.sl 1 (ah bY p8)),.v (.sl 2 (ah GScore.row p2))]]⟩
def ou_vaC_1v2 (p0:GValue) (p2:List GScore) (p3:Int) (p5:Int) (p6:ByteArray) (p7:List GPair) (p8:List ByteArray) (r:Bool):Option (Ex×St):=some (.normal,⟨[(4,.v (.b r))],[[.v (.i .i64 p5),.v (.s p6),.v (.i .i64 0),.v (.sl 2 (ah GPair.row p7)),.v (.sl 1 (ah bY p8)),.v (.sl 2 (ah GScore.row p2))]]⟩)
theorem sl_vaC_1v2 (C:aj) (k_value_rank:K_value_rank C) (p0:GValue) (p2:List GScore) (p3:Int) (p5:Int) (p6:ByteArray) (p7:List GPair) (p8:List ByteArray) (s:Bool×Int) (o:(Bool×Int)⊕Bool) (hF:st_vaC_1v2 p0 p2 p3 p5 p6 p7 p8 s=some o):evW TT C.wide n90 b90 1 (hd_vaC_1v2 p0 p2 p3 p5 p6 p7 p8 s)=Sum.elim (fun s=>evW TT C.wide n90 b90 1 (hd_vaC_1v2 p0 p2 p3 p5 p6 p7 p8 s)) (fun r=>ou_vaC_1v2 p0 p2 p3 p5 p6 p7 p8 r) o:=by
 obtain⟨p1,p4⟩:=s
 rw [cG TT n90 fl90_1]
 revert hF
 unfold st_vaC_1v2
 try dsimp only
 refine bF (fun h1=>?_) (fun h1=>?_)
 rotate_left 1
 refine az fun x1 h2=>?_
 have g1:decide (0≤p4)=true:=(cp h2).1
 have g2:(ah GScore.row p2)[(p4:Int).toNat]? =some [.s x1.fMember,.i .i64 x1.fN]:=cn _ h2
 refine bF (fun h3=>?_) (fun h3=>?_)
 rotate_left 1
 refine aX (fun h4=>?_) (fun _=>nofun)
 refine az fun x2 h5=>?_
 have g3:=bK (k_value_rank (dm p0.fScores 0 p4) x1.fMember _ h5)
 all_goals (rintro⟨⟩;show cN _ _ _ (aH _ _ _ _ (Code.seq _ _) _)=_;simp (maxSteps:=4000000) only [*,hd_vaC_1v2,ou_vaC_1v2,n90a,n90A,n90k,n90K,n90f30,n90mv,↓RP,RB,↓ai,aQ,aD,be,bf,aJ,Mx.bl,opnd,Mx.bI,Nat.reduceBEq,bQ,Mx.fit,bP,co,cellsOf,aN,aA,ay,Mx.put,ofConst,ofCell,Mx.prune,killB,killBs,aK,putDst,aw,aE,loadAt,bT,List.map,Nat.reduceAdd,cz,cB,cu,bJ,aM,lowC,forceAll,bound,ci,bj,bA,kill,fineE,oddAl,lend,lendA,aS,aB,bR,bare,bW,bG,setCells,Nat.reduceSub,Nat.reduceLeDiff,lowA,bn,bM,cd,au,aI,aY,cm,bL,cv,ch,bo,aL,bm,bp,bd,Op.operands,ax,av,atO,newB,cw,cy,cx,bne,↓ao,↓am,bh,br,bN,Call.operands,ty3,ty4,ty9,ty72,ty74,ty112,↓aa _ _ _ _ 28,↓aa _ _ _ _ 29,↓aq _ _ _ _ 30,↓aa _ _ _ _ 31])
theorem rg_vaC_k16v3 (C:aj) (k_value_elements:K_value_elements C) (p0:GValue) (p1:Int) (p2:ByteArray) (p3:Int) (p4:List ByteArray) (p5:List GScore) (c:Code) (ho:cD 0 16 b90=some c) (r:Bool) (hF:ck_vaC_k16v3_v p0 p1 p2 p3 p4 p5=r): @cV TT C.wide (evW TT C.wide n90 b90) n90 0 16 ⟨[(1,.rp [.i .i64 p0.fKind,.s p0.fText,.i .i64 p0.fCount,.sl 2 (ah GPair.row p0.fPairs),.sl 1 (ah bY p0.fItems),.sl 2 (ah GScore.row p0.fScores)])],[[.v (.i .i64 p1),.v (.s p2),.v (.i .i64 p3),.own 2 [],.v (.sl 1 (ah bY p4)),.v (.sl 2 (ah GScore.row p5))]]⟩ ⟨c⟩=some (.normal,⟨[(1,.rp [.i .i64 p0.fKind,.s p0.fText,.i .i64 p0.fCount,.sl 2 (ah GPair.row p0.fPairs),.sl 1 (ah bY p0.fItems),.sl 2 (ah GScore.row p0.fScores)]),(56,.v (.b r))],[[.v (.i .i64 p1),.v (.s p2),.v (.i .i64 p3),.own 2 [],.v (.sl 1 (ah bY p4)),.v (.sl 2 (ah GScore.row p5))]]⟩):=by
 have e:=Option.some.inj (ho.symm.trans (rfl:cD 0 16 b90=some _))
 subst e
 clear ho
 show aH _ _ _ _ _ _=_
 revert hF
 unfold ck_vaC_k16v3_v
 refine bF (fun h1=>?_) (fun h1=>?_)
 rotate_left 1
 have g1:=bK (k_value_elements p0 _ (value_elements_t p0))
 refine aX (fun h2=>?_) (fun h2=>?_)
 rotate_left 1
 all_goals (rintro rfl;simp (maxSteps:=4000000) only [*,n90k,n90K,n90mv,↓RP,RB,aQ,aD,be,Mx.bl,opnd,Mx.bI,Nat.reduceBEq,bQ,aN,aA,ay,Mx.put,ofConst,ofCell,Mx.prune,killB,aK,putDst,aw,aE,loadAt,bT,List.map,Nat.reduceAdd,cz,cB,forceAll,lend,lendA,aS,aB,bR,bare,bW,ax,newB,cw,cy,cx,bh,ty3,ty74,↓aa _ _ _ _ 16])
theorem rg_vaC_k26v3 (C:aj) (k_value_rising_Pair_value_byField:K_value_rising_Pair_value_byField C) (k_value_rising_Score_value_byScore:K_value_rising_Score_value_byScore C) (k_value_rising_string_strings_Compare:K_value_rising_string_strings_Compare C) (p0:GValue) (p1:Int) (p2:ByteArray) (p3:Int) (p4:List ByteArray) (p5:List GScore) (c:Code) (ho:cD 0 26 b90=some c) (r:Bool) (hF:ck_vaC_k26v3 p0 p1 p2 p3 p4 p5=some r): @cV TT C.wide (evW TT C.wide n90 b90) n90 0 26 ⟨[(1,.rp [.i .i64 p0.fKind,.s p0.fText,.i .i64 p0.fCount,.sl 2 (ah GPair.row p0.fPairs),.sl 1 (ah bY p0.fItems),.sl 2 (ah GScore.row p0.fScores)])],[[.v (.i .i64 p1),.v (.s p2),.v (.i .i64 p3),.own 2 [],.v (.sl 1 (ah bY p4)),.v (.sl 2 (ah GScore.row p5))]]⟩ ⟨c⟩=some (.normal,⟨[(1,.rp [.i .i64 p0.fKind,.s p0.fText,.i .i64 p0.fCount,.sl 2 (ah GPair.row p0.fPairs),.sl 1 (ah bY p0.fItems),.sl 2 (ah GScore.row p0.fScores)]),(4,.v (.b r))],[[.v (.i .i64 p1),.v (.s p2),.v (.i .i64 p3),.own 2 [],.v (.sl 1 (ah bY p4)),.v (.sl 2 (ah GScore.row p5))]]⟩):=by
 have e:=Option.some.inj (ho.symm.trans (rfl:cD 0 26 b90=some _))
 subst e
 clear ho
 show aH _ _ _ _ _ _=_
 revert hF
 unfold ck_vaC_k26v3
 refine az fun x1 h1=>?_
 have g1:=bK (k_value_rising_Pair_value_byField p0.fPairs _ h1)
 refine bF (fun h2=>?_) (fun h2=>?_)
 rotate_left 1
 refine az fun x2 h3=>?_
 have g2:=bK (k_value_rising_Score_value_byScore p0.fScores _ h3)
 refine bF (fun h4=>?_) (fun h4=>?_)
 rotate_left 1
 refine bF (fun h5=>?_) (fun h5=>?_)
 rotate_left 1
 refine az fun x3 h6=>?_
 have g3:=bK (k_value_rising_string_strings_Compare p0.fItems _ h6)
 all_goals (rintro⟨⟩;simp (maxSteps:=4000000) only [*,n90k,n90K,n90mv,↓RP,RB,aQ,aD,be,bf,aJ,Mx.bl,opnd,Mx.bI,Nat.reduceBEq,bQ,Mx.fit,co,aN,aA,ay,Mx.put,ofConst,ofCell,Mx.prune,killB,aK,putDst,aw,aE,loadAt,bT,List.map,cz,cB,forceAll,lend,lendA,aS,aB,bR,bare,bW,ax,newB,cw,cy,cx,bne,bh,ty3,ty4,ty70,ty71,ty72,ty74,↓aa _ _ _ _ 26])
def hd_vaC_1v3 (p0:GValue) (p2:List GScore) (p3:Int) (p5:Int) (p6:ByteArray) (p7:Int) (p8:List ByteArray) (s:Bool×Int):St:=⟨[(1,.rp [.i .i64 p0.fKind,.s p0.fText,.i .i64 p0.fCount,.sl 2 (ah GPair.row p0.fPairs),.sl 1 (ah bY p0.fItems),.sl 2 (ah GScore.row p0.fScores)]),(4,.v (.b s.1)),(100,.v (.sl 2 (ah GScore.row p2))),(101,.v (.i .i64 p3)),(102,.v (.i .i64 s.2))],[[.v (.i .i64 p5),.v (.s p6),.v (.i .i64 p7),.own 2 [],.v (.sl 1 (ah bY p8)),.v (.sl 2 (ah GScore.row p2))]]⟩
def ou_vaC_1v3 (p0:GValue) (p2:List GScore) (p3:Int) (p5:Int) (p6:ByteArray) (p7:Int) (p8:List ByteArray) (r:Bool):Option (Ex×St):=some (.normal,⟨[(4,.v (.b r))],[[.v (.i .i64 p5),.v (.s p6),.v (.i .i64 p7),.own 2 [],.v (.sl 1 (ah bY p8)),.v (.sl 2 (ah GScore.row p2))]]⟩)
theorem sl_vaC_1v3 (C:aj) (k_value_rank:K_value_rank C) (p0:GValue) (p2:List GScore) (p3:Int) (p5:Int) (p6:ByteArray) (p7:Int) (p8:List ByteArray) (s:Bool×Int) (o:(Bool×Int)⊕Bool) (hF:st_vaC_1v3 p0 p2 p3 p5 p6 p7 p8 s=some o):evW TT C.wide n90 b90 1 (hd_vaC_1v3 p0 p2 p3 p5 p6 p7 p8 s)=Sum.elim (fun s=>evW TT C.wide n90 b90 1 (hd_vaC_1v3 p0 p2 p3 p5 p6 p7 p8 s)) (fun r=>ou_vaC_1v3 p0 p2 p3 p5 p6 p7 p8 r) o:=by
 obtain⟨p1,p4⟩:=s
 rw [cG TT n90 fl90_1]
 revert hF
 unfold st_vaC_1v3
 try dsimp only
 refine bF (fun h1=>?_) (fun h1=>?_)
 rotate_left 1
 refine az fun x1 h2=>?_
 have g1:decide (0≤p4)=true:=(cp h2).1
 have g2:(ah GScore.row p2)[(p4:Int).toNat]? =some [.s x1.fMember,.i .i64 x1.fN]:=cn _ h2
 refine bF (fun h3=>?_) (fun h3=>?_)
 rotate_left 1
 refine aX (fun h4=>?_) (fun _=>nofun)
 refine az fun x2 h5=>?_
 have g3:=bK (k_value_rank (dm p0.fScores 0 p4) x1.fMember _ h5)
 all_goals (rintro⟨⟩;show cN _ _ _ (aH _ _ _ _ (Code.seq _ _) _)=_;simp (maxSteps:=4000000) only [*,hd_vaC_1v3,ou_vaC_1v3,n90a,n90A,n90k,n90K,n90f30,n90mv,↓RP,RB,↓ai,aQ,aD,be,bf,aJ,Mx.bl,opnd,Mx.bI,Nat.reduceBEq,bQ,Mx.fit,bP,co,cellsOf,aN,aA,ay,Mx.put,ofConst,ofCell,Mx.prune,killB,killBs,aK,putDst,aw,aE,loadAt,bT,List.map,Nat.reduceAdd,cz,cB,cu,bJ,aM,lowC,forceAll,bound,ci,bj,bA,kill,fineE,oddAl,lend,lendA,aS,aB,bR,bare,bW,bG,setCells,Nat.reduceSub,Nat.reduceLeDiff,lowA,bn,bM,cd,au,aI,aY,cm,bL,cv,ch,bo,aL,bm,bp,bd,Op.operands,ax,av,atO,newB,cw,cy,cx,bne,↓ao,↓am,bh,br,bN,Call.operands,ty3,ty4,ty9,ty72,ty74,ty112,↓aa _ _ _ _ 28,↓aa _ _ _ _ 29,↓aq _ _ _ _ 30,↓aa _ _ _ _ 31])
theorem rg_vaC_k16v4 (C:aj) (k_value_elements:K_value_elements C) (p0:GValue) (p1:Int) (p2:ByteArray) (p3:Int) (p4:List GPair) (p5:List ByteArray) (c:Code) (ho:cD 0 16 b90=some c) (r:Bool) (hF:ck_vaC_k16v4_v p0 p1 p2 p3 p4 p5=r): @cV TT C.wide (evW TT C.wide n90 b90) n90 0 16 ⟨[(1,.rp [.i .i64 p0.fKind,.s p0.fText,.i .i64 p0.fCount,.sl 2 (ah GPair.row p0.fPairs),.sl 1 (ah bY p0.fItems),.sl 2 (ah GScore.row p0.fScores)])],[[.v (.i .i64 p1),.v (.s p2),.v (.i .i64 p3),.v (.sl 2 (ah GPair.row p4)),.v (.sl 1 (ah bY p5)),.own 2 []]]⟩ ⟨c⟩=some (.normal,⟨[(1,.rp [.i .i64 p0.fKind,.s p0.fText,.i .i64 p0.fCount,.sl 2 (ah GPair.row p0.fPairs),.sl 1 (ah bY p0.fItems),.sl 2 (ah GScore.row p0.fScores)]),(56,.v (.b r))],[[.v (.i .i64 p1),.v (.s p2),.v (.i .i64 p3),.v (.sl 2 (ah GPair.row p4)),.v (.sl 1 (ah bY p5)),.own 2 []]]⟩):=by
 have e:=Option.some.inj (ho.symm.trans (rfl:cD 0 16 b90=some _))
 subst e
 clear ho
 show aH _ _ _ _ _ _=_
 revert hF
 unfold ck_vaC_k16v4_v
 refine bF (fun h1=>?_) (fun h1=>?_)
 rotate_left 1
 have g1:=bK (k_value_elements p0 _ (value_elements_t p0))
 refine aX (fun h2=>?_) (fun h2=>?_)
 rotate_left 1
 all_goals (rintro rfl;simp (maxSteps:=4000000) only [*,n90k,n90K,n90mv,↓RP,RB,aQ,aD,be,Mx.bl,opnd,Mx.bI,Nat.reduceBEq,bQ,aN,aA,ay,Mx.put,ofConst,ofCell,Mx.prune,killB,aK,putDst,aw,aE,loadAt,bT,List.map,Nat.reduceAdd,cz,cB,forceAll,lend,lendA,aS,aB,bR,bare,bW,ax,newB,cw,cy,cx,bh,ty3,ty74,↓aa _ _ _ _ 16])
theorem rg_vaC_k26v4 (C:aj) (k_value_rising_Pair_value_byField:K_value_rising_Pair_value_byField C) (k_value_rising_Score_value_byScore:K_value_rising_Score_value_byScore C) (k_value_rising_string_strings_Compare:K_value_rising_string_strings_Compare C) (p0:GValue) (p1:Int) (p2:ByteArray) (p3:Int) (p4:List GPair) (p5:List ByteArray) (c:Code) (ho:cD 0 26 b90=some c) (r:Bool) (hF:ck_vaC_k26v4 p0 p1 p2 p3 p4 p5=some r): @cV TT C.wide (evW TT C.wide n90 b90) n90 0 26 ⟨[(1,.rp [.i .i64 p0.fKind,.s p0.fText,.i .i64 p0.fCount,.sl 2 (ah GPair.row p0.fPairs),.sl 1 (ah bY p0.fItems),.sl 2 (ah GScore.row p0.fScores)])],[[.v (.i .i64 p1),.v (.s p2),.v (.i .i64 p3),.v (.sl 2 (ah GPair.row p4)),.v (.sl 1 (ah bY p5)),.own 2 []]]⟩ ⟨c⟩=some (.normal,⟨[(1,.rp [.i .i64 p0.fKind,.s p0.fText,.i .i64 p0.fCount,.sl 2 (ah GPair.row p0.fPairs),.sl 1 (ah bY p0.fItems),.sl 2 (ah GScore.row p0.fScores)]),(4,.v (.b r))],[[.v (.i .i64 p1),.v (.s p2),.v (.i .i64 p3),.v (.sl 2 (ah GPair.row p4)),.v (.sl 1 (ah bY p5)),.own 2 []]]⟩):=by
 have e:=Option.some.inj (ho.symm.trans (rfl:cD 0 26 b90=some _))
 subst e
 clear ho
 show aH _ _ _ _ _ _=_
 revert hF
 unfold ck_vaC_k26v4
 refine az fun x1 h1=>?_
 have g1:=bK (k_value_rising_Pair_value_byField p0.fPairs _ h1)
 refine bF (fun h2=>?_) (fun h2=>?_)
 rotate_left 1
 refine az fun x2 h3=>?_
 have g2:=bK (k_value_rising_Score_value_byScore p0.fScores _ h3)
 refine bF (fun h4=>?_) (fun h4=>?_)
 rotate_left 1
 refine bF (fun h5=>?_) (fun h5=>?_)
 rotate_left 1
 refine az fun x3 h6=>?_
 have g3:=bK (k_value_rising_string_strings_Compare p0.fItems _ h6)
 all_goals (rintro⟨⟩;simp (maxSteps:=4000000) only [*,n90k,n90K,n90mv,↓RP,RB,aQ,aD,be,bf,aJ,Mx.bl,opnd,Mx.bI,Nat.reduceBEq,bQ,Mx.fit,co,aN,aA,ay,Mx.put,ofConst,ofCell,Mx.prune,killB,aK,putDst,aw,aE,loadAt,bT,List.map,cz,cB,forceAll,lend,lendA,aS,aB,bR,bare,bW,ax,newB,cw,cy,cx,bne,bh,ty3,ty4,ty70,ty71,ty72,ty74,↓aa _ _ _ _ 26])
def hd_vaC_1v4 (p0:GValue) (p2:List GScore) (p3:Int) (p5:Int) (p6:ByteArray) (p7:Int) (p8:List GPair) (p9:List ByteArray) (s:Bool×Int):St:=⟨[(1,.rp [.i .i64 p0.fKind,.s p0.fText,.i .i64 p0.fCount,.sl 2 (ah GPair.row p0.fPairs),.sl 1 (ah bY p0.fItems),.sl 2 (ah GScore.row p0.fScores)]),(4,.v (.b s.1)),(100,.v (.sl 2 (ah GScore.row p2))),(101,.v (.i .i64 p3)),(102,.v (.i .i64 s.2))],[[.v (.i .i64 p5),.v (.s p6),.v (.i .i64 p7),.v (.sl 2 (ah GPair.row p8)),.v (.sl 1 (ah bY p9)),.own 2 []]]⟩
def ou_vaC_1v4 (p0:GValue) (p2:List GScore) (p3:Int) (p5:Int) (p6:ByteArray) (p7:Int) (p8:List GPair) (p9:List ByteArray) (r:Bool):Option (Ex×St):=some (.normal,⟨[(4,.v (.b r))],[[.v (.i .i64 p5),.v (.s p6),.v (.i .i64 p7),.v (.sl 2 (ah GPair.row p8)),.v (.sl 1 (ah bY p9)),.own 2 []]]⟩)
theorem sl_vaC_1v4 (C:aj) (k_value_rank:K_value_rank C) (p0:GValue) (p2:List GScore) (p3:Int) (p5:Int) (p6:ByteArray) (p7:Int) (p8:List GPair) (p9:List ByteArray) (s:Bool×Int) (o:(Bool×Int)⊕Bool) (hF:st_vaC_1v4 p0 p2 p3 p5 p6 p7 p8 p9 s=some o):evW TT C.wide n90 b90 1 (hd_vaC_1v4 p0 p2 p3 p5 p6 p7 p8 p9 s)=Sum.elim (fun s=>evW TT C.wide n90 b90 1 (hd_vaC_1v4 p0 p2 p3 p5 p6 p7 p8 p9 s)) (fun r=>ou_vaC_1v4 p0 p2 p3 p5 p6 p7 p8 p9 r) o:=by
 obtain⟨p1,p4⟩:=s
 rw [cG TT n90 fl90_1]
 revert hF
 unfold st_vaC_1v4
 try dsimp only
 refine bF (fun h1=>?_) (fun h1=>?_)
 rotate_left 1
 refine az fun x1 h2=>?_
 have g1:decide (0≤p4)=true:=(cp h2).1
 have g2:(ah GScore.row p2)[(p4:Int).toNat]? =some [.s x1.fMember,.i .i64 x1.fN]:=cn _ h2
 refine bF (fun h3=>?_) (fun h3=>?_)
 rotate_left 1
 refine aX (fun h4=>?_) (fun _=>nofun)
 refine az fun x2 h5=>?_
 have g3:=bK (k_value_rank (dm p0.fScores 0 p4) x1.fMember _ h5)
 all_goals (rintro⟨⟩;show cN _ _ _ (aH _ _ _ _ (Code.seq _ _) _)=_;simp (maxSteps:=4000000) only [*,hd_vaC_1v4,ou_vaC_1v4,n90a,n90A,n90k,n90K,n90f30,n90mv,↓RP,RB,↓ai,aQ,aD,be,bf,aJ,Mx.bl,opnd,Mx.bI,Nat.reduceBEq,bQ,Mx.fit,bP,co,cellsOf,aN,aA,ay,Mx.put,ofConst,ofCell,Mx.prune,killB,killBs,aK,putDst,aw,aE,loadAt,bT,List.map,Nat.reduceAdd,cz,cB,cu,bJ,aM,lowC,forceAll,bound,ci,bj,bA,kill,fineE,oddAl,lend,lendA,aS,aB,bR,bare,bW,bG,setCells,Nat.reduceSub,Nat.reduceLeDiff,lowA,bn,bM,cd,au,aI,aY,cm,bL,cv,ch,bo,aL,bm,bp,bd,Op.operands,ax,av,atO,newB,cw,cy,cx,bne,↓ao,↓am,bh,br,bN,Call.operands,ty3,ty4,ty9,ty72,ty74,ty112,↓aa _ _ _ _ 28,↓aa _ _ _ _ 29,↓aq _ _ _ _ 30,↓aa _ _ _ _ 31])
theorem rg_vaC_k16v5 (C:aj) (k_value_elements:K_value_elements C) (p0:GValue) (p1:Int) (p2:ByteArray) (p3:Int) (p4:List GPair) (p5:List GScore) (c:Code) (ho:cD 0 16 b90=some c) (r:Bool) (hF:ck_vaC_k16v5_v p0 p1 p2 p3 p4 p5=r): @cV TT C.wide (evW TT C.wide n90 b90) n90 0 16 ⟨[(1,.rp [.i .i64 p0.fKind,.s p0.fText,.i .i64 p0.fCount,.sl 2 (ah GPair.row p0.fPairs),.sl 1 (ah bY p0.fItems),.sl 2 (ah GScore.row p0.fScores)])],[[.v (.i .i64 p1),.v (.s p2),.v (.i .i64 p3),.v (.sl 2 (ah GPair.row p4)),.own 1 [],.v (.sl 2 (ah GScore.row p5))]]⟩ ⟨c⟩=some (.normal,⟨[(1,.rp [.i .i64 p0.fKind,.s p0.fText,.i .i64 p0.fCount,.sl 2 (ah GPair.row p0.fPairs),.sl 1 (ah bY p0.fItems),.sl 2 (ah GScore.row p0.fScores)]),(56,.v (.b r))],[[.v (.i .i64 p1),.v (.s p2),.v (.i .i64 p3),.v (.sl 2 (ah GPair.row p4)),.own 1 [],.v (.sl 2 (ah GScore.row p5))]]⟩):=by
 have e:=Option.some.inj (ho.symm.trans (rfl:cD 0 16 b90=some _))
 subst e
 clear ho
 show aH _ _ _ _ _ _=_
 revert hF
 unfold ck_vaC_k16v5_v
 refine bF (fun h1=>?_) (fun h1=>?_)
 rotate_left 1
 have g1:=bK (k_value_elements p0 _ (value_elements_t p0))
 refine aX (fun h2=>?_) (fun h2=>?_)
 rotate_left 1
 all_goals (rintro rfl;simp (maxSteps:=4000000) only [*,n90k,n90K,n90mv,↓RP,RB,aQ,aD,be,Mx.bl,opnd,Mx.bI,Nat.reduceBEq,bQ,aN,aA,ay,Mx.put,ofConst,ofCell,Mx.prune,killB,aK,putDst,aw,aE,loadAt,bT,List.map,Nat.reduceAdd,cz,cB,forceAll,lend,lendA,aS,aB,bR,bare,bW,ax,newB,cw,cy,cx,bh,ty3,ty74,↓aa _ _ _ _ 16])
theorem rg_vaC_k26v5 (C:aj) (k_value_rising_Pair_value_byField:K_value_rising_Pair_value_byField C) (k_value_rising_Score_value_byScore:K_value_rising_Score_value_byScore C) (k_value_rising_string_strings_Compare:K_value_rising_string_strings_Compare C) (p0:GValue) (p1:Int) (p2:ByteArray) (p3:Int) (p4:List GPair) (p5:List GScore) (c:Code) (ho:cD 0 26 b90=some c) (r:Bool) (hF:ck_vaC_k26v5 p0 p1 p2 p3 p4 p5=some r): @cV TT C.wide (evW TT C.wide n90 b90) n90 0 26 ⟨[(1,.rp [.i .i64 p0.fKind,.s p0.fText,.i .i64 p0.fCount,.sl 2 (ah GPair.row p0.fPairs),.sl 1 (ah bY p0.fItems),.sl 2 (ah GScore.row p0.fScores)])],[[.v (.i .i64 p1),.v (.s p2),.v (.i .i64 p3),.v (.sl 2 (ah GPair.row p4)),.own 1 [],.v (.sl 2 (ah GScore.row p5))]]⟩ ⟨c⟩=some (.normal,⟨[(1,.rp [.i .i64 p0.fKind,.s p0.fText,.i .i64 p0.fCount,.sl 2 (ah GPair.row p0.fPairs),.sl 1 (ah bY p0.fItems),.sl 2 (ah GScore.row p0.fScores)]),(4,.v (.b r))],[[.v (.i .i64 p1),.v (.s p2),.v (.i .i64 p3),.v (.sl 2 (ah GPair.row p4)),.own 1 [],.v (.sl 2 (ah GScore.row p5))]]⟩):=by
 have e:=Option.some.inj (ho.symm.trans (rfl:cD 0 26 b90=some _))
 subst e
 clear ho
 show aH _ _ _ _ _ _=_
 revert hF
 unfold ck_vaC_k26v5
 refine az fun x1 h1=>?_
 have g1:=bK (k_value_rising_Pair_value_byField p0.fPairs _ h1)
 refine bF (fun h2=>?_) (fun h2=>?_)
 rotate_left 1
 refine az fun x2 h3=>?_
 have g2:=bK (k_value_rising_Score_value_byScore p0.fScores _ h3)
 refine bF (fun h4=>?_) (fun h4=>?_)
 rotate_left 1
 refine bF (fun h5=>?_) (fun h5=>?_)
 rotate_left 1
 refine az fun x3 h6=>?_
 have g3:=bK (k_value_rising_string_strings_Compare p0.fItems _ h6)
 all_goals (rintro⟨⟩;simp (maxSteps:=4000000) only [*,n90k,n90K,n90mv,↓RP,RB,aQ,aD,be,bf,aJ,Mx.bl,opnd,Mx.bI,Nat.reduceBEq,bQ,Mx.fit,co,aN,aA,ay,Mx.put,ofConst,ofCell,Mx.prune,killB,aK,putDst,aw,aE,loadAt,bT,List.map,cz,cB,forceAll,lend,lendA,aS,aB,bR,bare,bW,ax,newB,cw,cy,cx,bne,bh,ty3,ty4,ty70,ty71,ty72,ty74,↓aa _ _ _ _ 26])
def hd_vaC_1v5 (p0:GValue) (p2:List GScore) (p3:Int) (p5:Int) (p6:ByteArray) (p7:Int) (p8:List GPair) (s:Bool×Int):St:=⟨[(1,.rp [.i .i64 p0.fKind,.s p0.fText,.i .i64 p0.fCount,.sl 2 (ah GPair.row p0.fPairs),.sl 1 (ah bY p0.fItems),.sl 2 (ah GScore.row p0.fScores)]),(4,.v (.b s.1)),(100,.v (.sl 2 (ah GScore.row p2))),(101,.v (.i .i64 p3)),(102,.v (.i .i64 s.2))],[[.v (.i .i64 p5),.v (.s p6),.v (.i .i64 p7),.v (.sl 2 (ah GPair.row p8)),.own 1 [],.v (.sl 2 (ah GScore.row p2))]]⟩
def ou_vaC_1v5 (p0:GValue) (p2:List GScore) (p3:Int) (p5:Int) (p6:ByteArray) (p7:Int) (p8:List GPair) (r:Bool):Option (Ex×St):=some (.normal,⟨[(4,.v (.b r))],[[.v (.i .i64 p5),.v (.s p6),.v (.i .i64 p7),.v (.sl 2 (ah GPair.row p8)),.own 1 [],.v (.sl 2 (ah GScore.row p2))]]⟩)
theorem sl_vaC_1v5 (C:aj) (k_value_rank:K_value_rank C) (p0:GValue) (p2:List GScore) (p3:Int) (p5:Int) (p6:ByteArray) (p7:Int) (p8:List GPair) (s:Bool×Int) (o:(Bool×Int)⊕Bool) (hF:st_vaC_1v5 p0 p2 p3 p5 p6 p7 p8 s=some o):evW TT C.wide n90 b90 1 (hd_vaC_1v5 p0 p2 p3 p5 p6 p7 p8 s)=Sum.elim (fun s=>evW TT C.wide n90 b90 1 (hd_vaC_1v5 p0 p2 p3 p5 p6 p7 p8 s)) (fun r=>ou_vaC_1v5 p0 p2 p3 p5 p6 p7 p8 r) o:=by
 obtain⟨p1,p4⟩:=s
 rw [cG TT n90 fl90_1]
 revert hF
 unfold st_vaC_1v5
 try dsimp only
 refine bF (fun h1=>?_) (fun h1=>?_)
 rotate_left 1
 refine az fun x1 h2=>?_
 have g1:decide (0≤p4)=true:=(cp h2).1
 have g2:(ah GScore.row p2)[(p4:Int).toNat]? =some [.s x1.fMember,.i .i64 x1.fN]:=cn _ h2
 refine bF (fun h3=>?_) (fun h3=>?_)
 rotate_left 1
 refine aX (fun h4=>?_) (fun _=>nofun)
 refine az fun x2 h5=>?_
 have g3:=bK (k_value_rank (dm p0.fScores 0 p4) x1.fMember _ h5)
 all_goals (rintro⟨⟩;show cN _ _ _ (aH _ _ _ _ (Code.seq _ _) _)=_;simp (maxSteps:=4000000) only [*,hd_vaC_1v5,ou_vaC_1v5,n90a,n90A,n90k,n90K,n90f30,n90mv,↓RP,RB,↓ai,aQ,aD,be,bf,aJ,Mx.bl,opnd,Mx.bI,Nat.reduceBEq,bQ,Mx.fit,bP,co,cellsOf,aN,aA,ay,Mx.put,ofConst,ofCell,Mx.prune,killB,killBs,aK,putDst,aw,aE,loadAt,bT,List.map,Nat.reduceAdd,cz,cB,cu,bJ,aM,lowC,forceAll,bound,ci,bj,bA,kill,fineE,oddAl,lend,lendA,aS,aB,bR,bare,bW,bG,setCells,Nat.reduceSub,Nat.reduceLeDiff,lowA,bn,bM,cd,au,aI,aY,cm,bL,cv,ch,bo,aL,bm,bp,bd,Op.operands,ax,av,atO,newB,cw,cy,cx,bne,↓ao,↓am,bh,br,bN,Call.operands,ty3,ty4,ty9,ty72,ty74,ty112,↓aa _ _ _ _ 28,↓aa _ _ _ _ 29,↓aq _ _ _ _ 30,↓aa _ _ _ _ 31])
theorem r_vaC (C:aj) (k_value_elements:K_value_elements C) (k_value_text:K_value_text C) (k_sCSvaC_fn1:K_sCSvaC_fn1 C) (k_sCPvaC_fn2:K_sCPvaC_fn2 C) (k_sCRvaC_fn3:K_sCRvaC_fn3 C) (k_value_count:K_value_count C) (k_sCRvaC_fn4:K_sCRvaC_fn4 C) (k_value_rising_Pair_value_byField:K_value_rising_Pair_value_byField C) (k_value_rising_Score_value_byScore:K_value_rising_Score_value_byScore C) (k_value_rising_string_strings_Compare:K_value_rising_string_strings_Compare C) (k_value_rank:K_value_rank C) (p0:GValue) (r:Int) (hF:vaC p0=some r):cR TT C.wide (evW TT C.wide n90 b90) n90 Try.f90.results.toList (aU Try.f90) [.agg [.v (.i .i64 p0.fKind),.v (.s p0.fText),.v (.i .i64 p0.fCount),.v (.sl 2 (ah GPair.row p0.fPairs)),.v (.sl 1 (ah bY p0.fItems)),.v (.sl 2 (ah GScore.row p0.fScores))]] []=some (.v (.i .i64 r),[]):=by
 revert hF
 unfold vaC
 refine aX (fun h1=>?_) (fun h1=>?_)
 rotate_left 1
 refine aX (fun h2=>?_) (fun h2=>?_)
 rotate_left 1
 refine aX (fun h3=>?_) (fun h3=>?_)
 focus
  refine bF (fun h4=>?_) (fun h4=>?_)
  rotate_left 1
  have g1:=bK (k_value_elements (GValue.mk p0.fKind ByteArray.empty p0.fCount p0.fPairs p0.fItems p0.fScores) _ (value_elements_t (GValue.mk p0.fKind ByteArray.empty p0.fCount p0.fPairs p0.fItems p0.fScores)))
  try simp only [] at g1
  refine aX (fun h5=>?_) (fun h5=>?_)
  rotate_left 1
  unfold vaC_c1
  have g2:=rg_vaC_k16 C k_value_elements p0 p0.fKind p0.fCount p0.fPairs p0.fItems p0.fScores _ rfl (ck_vaC_k16_v p0 p0.fKind p0.fCount p0.fPairs p0.fItems p0.fScores) rfl
  refine aX (fun h6=>?_) (fun h6=>?_)
  rotate_left 1
  have g3:=bK (k_value_text p0.fText _ (value_text_t p0.fText))
  refine bF (fun h7=>?_) (fun h7=>?_)
  rotate_left 1
  refine az fun x1 h8=>?_
  have g4:=bK (k_sCSvaC_fn1 p0.fItems _ h8)
  refine aX (fun h9=>?_) (fun h9=>?_)
  rotate_left 1
  refine az fun x2 h10=>?_
  have g5:=bK (k_sCPvaC_fn2 p0.fPairs _ h10)
  refine aX (fun h11=>?_) (fun h11=>?_)
  rotate_left 1
  refine az fun x3 h12=>?_
  unfold vaC_c0
  have g6:=bK (k_sCRvaC_fn3 p0.fScores _ h12)
  refine aX (fun h13=>?_) (fun h13=>?_)
  rotate_left 1
  have g7:=bK (k_value_count p0.fCount _ (value_count_t p0.fCount))
  refine bF (fun h14=>?_) (fun h14=>?_)
  rotate_left 1
  refine az fun x4 h15=>?_
  have g8:=bK (k_sCRvaC_fn4 p0.fScores _ h15)
  refine aX (fun h16=>?_) (fun h16=>?_)
  rotate_left 1
  refine az fun x5 h17=>?_
  have g9:=rg_vaC_k26 C k_value_rising_Pair_value_byField k_value_rising_Score_value_byScore k_value_rising_string_strings_Compare p0 p0.fKind p0.fCount p0.fPairs p0.fItems p0.fScores _ rfl _ h17
  refine az ?_
  rintro x6 h18
  have g10:=cH _ _ (sl_vaC_1 C k_value_rank p0 p0.fScores (p0.fScores.length:Int) p0.fKind p0.fCount p0.fPairs p0.fItems) h18
  try simp only [hd_vaC_1,ou_vaC_1] at g10
  refine aX (fun h19=>?_) (fun h19=>?_)
  rotate_left 1
 rotate_left 11
 unfold vaC_c11
 refine aX (fun h4=>?_) (fun h4=>?_)
 focus
  refine bF (fun h5=>?_) (fun h5=>?_)
  rotate_left 1
  have g11:=bK (k_value_elements (GValue.mk p0.fKind p0.fText 0 p0.fPairs p0.fItems p0.fScores) _ (value_elements_t (GValue.mk p0.fKind p0.fText 0 p0.fPairs p0.fItems p0.fScores)))
  try simp only [] at g11
  refine aX (fun h6=>?_) (fun h6=>?_)
  rotate_left 1
  unfold vaC_c3
  have g12:=rg_vaC_k16v2 C k_value_elements p0 p0.fKind p0.fText p0.fPairs p0.fItems p0.fScores _ rfl (ck_vaC_k16v2_v p0 p0.fKind p0.fText p0.fPairs p0.fItems p0.fScores) rfl
  refine aX (fun h7=>?_) (fun h7=>?_)
  rotate_left 1
  have g3:=bK (k_value_text p0.fText _ (value_text_t p0.fText))
  refine bF (fun h8=>?_) (fun h8=>?_)
  rotate_left 1
  refine az fun x1 h9=>?_
  have g4:=bK (k_sCSvaC_fn1 p0.fItems _ h9)
  refine aX (fun h10=>?_) (fun h10=>?_)
  rotate_left 1
  refine az fun x2 h11=>?_
  have g5:=bK (k_sCPvaC_fn2 p0.fPairs _ h11)
  refine aX (fun h12=>?_) (fun h12=>?_)
  rotate_left 1
  refine az fun x3 h13=>?_
  unfold vaC_c2
  have g6:=bK (k_sCRvaC_fn3 p0.fScores _ h13)
  refine aX (fun h14=>?_) (fun h14=>?_)
  rotate_left 1
  have g7:=bK (k_value_count p0.fCount _ (value_count_t p0.fCount))
  refine bF (fun h15=>?_) (fun h15=>?_)
  rotate_left 1
  refine az fun x4 h16=>?_
  have g8:=bK (k_sCRvaC_fn4 p0.fScores _ h16)
  refine aX (fun h17=>?_) (fun h17=>?_)
  rotate_left 1
  refine az fun x5 h18=>?_
  have g13:=rg_vaC_k26v2 C k_value_rising_Pair_value_byField k_value_rising_Score_value_byScore k_value_rising_string_strings_Compare p0 p0.fKind p0.fText p0.fPairs p0.fItems p0.fScores _ rfl _ h18
  refine az ?_
  rintro x6 h19
  have g14:=cH _ _ (sl_vaC_1v2 C k_value_rank p0 p0.fScores (p0.fScores.length:Int) p0.fKind p0.fText p0.fPairs p0.fItems) h19
  try simp only [hd_vaC_1v2,ou_vaC_1v2] at g14
  refine aX (fun h20=>?_) (fun h20=>?_)
  rotate_left 1
 rotate_left 11
 refine aX (fun h5=>?_) (fun h5=>?_)
 focus
  refine bF (fun h6=>?_) (fun h6=>?_)
  rotate_left 1
  refine bF (fun h7=>?_) (fun h7=>?_)
  rotate_left 1
  have g15:=bK (k_value_elements (GValue.mk p0.fKind p0.fText p0.fCount [] p0.fItems p0.fScores) _ (value_elements_t (GValue.mk p0.fKind p0.fText p0.fCount [] p0.fItems p0.fScores)))
  try simp only [ak] at g15
  refine aX (fun h8=>?_) (fun h8=>?_)
  rotate_left 1
  unfold vaC_c5
  have g16:=rg_vaC_k16v3 C k_value_elements p0 p0.fKind p0.fText p0.fCount p0.fItems p0.fScores _ rfl (ck_vaC_k16v3_v p0 p0.fKind p0.fText p0.fCount p0.fItems p0.fScores) rfl
  refine aX (fun h9=>?_) (fun h9=>?_)
  rotate_left 1
  have g3:=bK (k_value_text p0.fText _ (value_text_t p0.fText))
  refine bF (fun h10=>?_) (fun h10=>?_)
  rotate_left 1
  refine az fun x1 h11=>?_
  have g4:=bK (k_sCSvaC_fn1 p0.fItems _ h11)
  refine aX (fun h12=>?_) (fun h12=>?_)
  rotate_left 1
  refine az fun x2 h13=>?_
  have g5:=bK (k_sCPvaC_fn2 p0.fPairs _ h13)
  refine aX (fun h14=>?_) (fun h14=>?_)
  rotate_left 1
  refine az fun x3 h15=>?_
  unfold vaC_c4
  have g6:=bK (k_sCRvaC_fn3 p0.fScores _ h15)
  refine aX (fun h16=>?_) (fun h16=>?_)
  rotate_left 1
  have g7:=bK (k_value_count p0.fCount _ (value_count_t p0.fCount))
  refine bF (fun h17=>?_) (fun h17=>?_)
  rotate_left 1
  refine az fun x4 h18=>?_
  have g8:=bK (k_sCRvaC_fn4 p0.fScores _ h18)
  refine aX (fun h19=>?_) (fun h19=>?_)
  rotate_left 1
  refine az fun x5 h20=>?_
  have g17:=rg_vaC_k26v3 C k_value_rising_Pair_value_byField k_value_rising_Score_value_byScore k_value_rising_string_strings_Compare p0 p0.fKind p0.fText p0.fCount p0.fItems p0.fScores _ rfl _ h20
  refine az ?_
  rintro x6 h21
  have g18:=cH _ _ (sl_vaC_1v3 C k_value_rank p0 p0.fScores (p0.fScores.length:Int) p0.fKind p0.fText p0.fCount p0.fItems) h21
  try simp only [hd_vaC_1v3,ou_vaC_1v3] at g18
  refine aX (fun h22=>?_) (fun h22=>?_)
  rotate_left 1
 rotate_left 12
 unfold vaC_c10
 refine aX (fun h6=>?_) (fun h6=>?_)
 focus
  refine bF (fun h7=>?_) (fun h7=>?_)
  rotate_left 1
  refine bF (fun h8=>?_) (fun h8=>?_)
  rotate_left 1
  have g19:=bK (k_value_elements (GValue.mk p0.fKind p0.fText p0.fCount p0.fPairs p0.fItems []) _ (value_elements_t (GValue.mk p0.fKind p0.fText p0.fCount p0.fPairs p0.fItems [])))
  try simp only [ak] at g19
  refine aX (fun h9=>?_) (fun h9=>?_)
  rotate_left 1
  unfold vaC_c7
  have g20:=rg_vaC_k16v4 C k_value_elements p0 p0.fKind p0.fText p0.fCount p0.fPairs p0.fItems _ rfl (ck_vaC_k16v4_v p0 p0.fKind p0.fText p0.fCount p0.fPairs p0.fItems) rfl
  refine aX (fun h10=>?_) (fun h10=>?_)
  rotate_left 1
  have g3:=bK (k_value_text p0.fText _ (value_text_t p0.fText))
  refine bF (fun h11=>?_) (fun h11=>?_)
  rotate_left 1
  refine az fun x1 h12=>?_
  have g4:=bK (k_sCSvaC_fn1 p0.fItems _ h12)
  refine aX (fun h13=>?_) (fun h13=>?_)
  rotate_left 1
  refine az fun x2 h14=>?_
  have g5:=bK (k_sCPvaC_fn2 p0.fPairs _ h14)
  refine aX (fun h15=>?_) (fun h15=>?_)
  rotate_left 1
  refine az fun x3 h16=>?_
  unfold vaC_c6
  have g6:=bK (k_sCRvaC_fn3 p0.fScores _ h16)
  refine aX (fun h17=>?_) (fun h17=>?_)
  rotate_left 1
  have g7:=bK (k_value_count p0.fCount _ (value_count_t p0.fCount))
  refine bF (fun h18=>?_) (fun h18=>?_)
  rotate_left 1
  refine az fun x4 h19=>?_
  have g8:=bK (k_sCRvaC_fn4 p0.fScores _ h19)
  refine aX (fun h20=>?_) (fun h20=>?_)
  rotate_left 1
  refine az fun x5 h21=>?_
  have g21:=rg_vaC_k26v4 C k_value_rising_Pair_value_byField k_value_rising_Score_value_byScore k_value_rising_string_strings_Compare p0 p0.fKind p0.fText p0.fCount p0.fPairs p0.fItems _ rfl _ h21
  refine az ?_
  rintro x6 h22
  have g22:=cH _ _ (sl_vaC_1v4 C k_value_rank p0 p0.fScores (p0.fScores.length:Int) p0.fKind p0.fText p0.fCount p0.fPairs p0.fItems) h22
  try simp only [hd_vaC_1v4,ou_vaC_1v4] at g22
  refine aX (fun h23=>?_) (fun h23=>?_)
  rotate_left 1
 rotate_left 12
 refine bF (fun h7=>?_) (fun h7=>?_)
 rotate_left 1
 refine bF (fun h8=>?_) (fun h8=>?_)
 rotate_left 1
 have g23:=bK (k_value_elements (GValue.mk p0.fKind p0.fText p0.fCount p0.fPairs [] p0.fScores) _ (value_elements_t (GValue.mk p0.fKind p0.fText p0.fCount p0.fPairs [] p0.fScores)))
 try simp only [ak] at g23
 refine aX (fun h9=>?_) (fun h9=>?_)
 rotate_left 1
 unfold vaC_c9
 have g24:=rg_vaC_k16v5 C k_value_elements p0 p0.fKind p0.fText p0.fCount p0.fPairs p0.fScores _ rfl (ck_vaC_k16v5_v p0 p0.fKind p0.fText p0.fCount p0.fPairs p0.fScores) rfl
 refine aX (fun h10=>?_) (fun h10=>?_)
 rotate_left 1
 have g3:=bK (k_value_text p0.fText _ (value_text_t p0.fText))
 refine bF (fun h11=>?_) (fun h11=>?_)
 rotate_left 1
 refine az fun x1 h12=>?_
 have g4:=bK (k_sCSvaC_fn1 p0.fItems _ h12)
 refine aX (fun h13=>?_) (fun h13=>?_)
 rotate_left 1
 refine az fun x2 h14=>?_
 have g5:=bK (k_sCPvaC_fn2 p0.fPairs _ h14)
 refine aX (fun h15=>?_) (fun h15=>?_)
 rotate_left 1
 refine az fun x3 h16=>?_
 unfold vaC_c8
 have g6:=bK (k_sCRvaC_fn3 p0.fScores _ h16)
 refine aX (fun h17=>?_) (fun h17=>?_)
 rotate_left 1
 have g7:=bK (k_value_count p0.fCount _ (value_count_t p0.fCount))
 refine bF (fun h18=>?_) (fun h18=>?_)
 rotate_left 1
 refine az fun x4 h19=>?_
 have g8:=bK (k_sCRvaC_fn4 p0.fScores _ h19)
 refine aX (fun h20=>?_) (fun h20=>?_)
 rotate_left 1
 refine az fun x5 h21=>?_
 have g25:=rg_vaC_k26v5 C k_value_rising_Pair_value_byField k_value_rising_Score_value_byScore k_value_rising_string_strings_Compare p0 p0.fKind p0.fText p0.fCount p0.fPairs p0.fScores _ rfl _ h21
 refine az ?_
 rintro x6 h22
 have g26:=cH _ _ (sl_vaC_1v5 C k_value_rank p0 p0.fScores (p0.fScores.length:Int) p0.fKind p0.fText p0.fCount p0.fPairs) h22
 try simp only [hd_vaC_1v5,ou_vaC_1v5] at g26
 refine aX (fun h23=>?_) (fun h23=>?_)
 rotate_left 1
 all_goals (rintro⟨⟩;rw [bk];show cC _ _ _ (aH _ _ _ _ (Code.seq _ _) _)=_;simp (maxSteps:=4000000) only [*,res90,n90a,n90A,n90k,n90K,n90ro,n90mv,↓RP,RB,↓ai,enter,aQ,aD,be,bf,aJ,Mx.bl,opnd,Mx.bI,Nat.reduceBEq,bQ,Mx.fit,bP,co,toVs,cellsOf,toV,aN,aA,ay,Mx.put,ofConst,ofCell,Mx.prune,killB,killBs,aK,putDst,aw,aE,loadAt,bT,List.map,Nat.reduceAdd,cz,cB,cu,aC,bu,bx,cA,bS,bJ,aM,lowC,forceAll,kill,lend,lendA,aS,aB,bR,bare,bW,bG,setCells,Nat.reduceLeDiff,ax,av,atO,newB,cw,cy,cx,bne,↓ao,↓am,bh,aP,ty3,ty4,ty9,ty29,ty70,ty71,ty72,ty74,↓aa _ _ _ _ 0,↓aa _ _ _ _ 1,↓aa _ _ _ _ 2,↓aa _ _ _ _ 3,↓aa _ _ _ _ 4,↓aa _ _ _ _ 6,↓aa _ _ _ _ 7,↓aa _ _ _ _ 8,↓aa _ _ _ _ 9,↓aa _ _ _ _ 10,↓aa _ _ _ _ 11,↓aa _ _ _ _ 12,↓aa _ _ _ _ 13,↓aa _ _ _ _ 5,↓aa _ _ _ _ 14,↓aa _ _ _ _ 15,↓bg _ _ _ _ 16,↓aa _ _ _ _ 17,↓aa _ _ _ _ 18,↓aa _ _ _ _ 19,↓aa _ _ _ _ 20,↓aa _ _ _ _ 21,↓aa _ _ _ _ 22,↓aa _ _ _ _ 23,↓aa _ _ _ _ 24,↓aa _ _ _ _ 25,↓bg _ _ _ _ 26,↓aa _ _ _ _ 27,↓aa _ _ _ _ 32,↓aa _ _ _ _ 33,↓aa _ _ _ _ 34])
def n71K:List (Nat×List Nat):=[(0,[1]),(1,[1,18]),(2,[2]),(3,[1,20,21,22]),(4,[1,20,21,22,23]),(5,[1,3,4,20,21,22]),(6,[1,4,20,21,22,58]),(7,[2]),(8,[1,20,21,22,73]),(9,[2]),(10,[1,20,21,22]),(11,[2])]
def n71A:List (Nat×List Nat×List Nat):=[(18,[],[1]),(23,[1,20,21,22],[]),(58,[],[1,4,20,21,22]),(73,[],[1,20,21,22])]
def n71:cL where
 keep:=ax n71K
 ro:=fun t=>t==1
 mv:=fun _=>false
 give:=fun _=>false
 free:=fun i=>match i with|6=>[(20,22),(21,22),(20,23),(21,23),(20,27),(21,27),(22,27),(23,27),(24,27),(25,27),(26,27),(20,28),(21,28),(22,28),(23,28),(24,28),(25,28),(26,28)]|_=>[]
 alive:=av n71A
theorem n71a (t:Nat) (x:Bool) (e:Env) (S:bH):cK n71 t x ⟨e,S⟩=atO (av n71A t x) e S:=cF rfl t x e S
theorem n71k (i:Nat):n71.keep i=ax n71K i:=rfl
theorem n71ro (t:Nat):n71.ro t=(t==1):=rfl
theorem n71mv (t:Nat):n71.mv t=(false):=rfl
theorem n71f6:n71.free 6= [(20,22),(21,22),(20,23),(21,23),(20,27),(21,27),(22,27),(23,27),(24,27),(25,27),(26,27),(20,28),(21,28),(22,28),(23,28),(24,28),(25,28),(26,28)]:=rfl
theorem res71:Try.f71.results.toList= [.tmp 2]:=rfl
noncomputable def b71:Code:=aU Try.f71
noncomputable def c71_0:Code:=(bE 0 (aU Try.f71)).getD .skip
theorem fl71_0:bE 0 b71=some c71_0:=rfl
theorem rg_store_Check_k1 (C:aj)  (p0:GStore) (c:Code) (ho:cD 0 1 b71=some c) (r:Bool) (hF:ck_store_Check_k1_v p0=r): @cV TT C.wide (evW TT C.wide n71 b71) n71 0 1 ⟨[(1,.rp [.i .i64 p0.fNow,.sl 8 (ah GEntry.row p0.fEntries)])],[]⟩ ⟨c⟩=some (.normal,⟨[(1,.rp [.i .i64 p0.fNow,.sl 8 (ah GEntry.row p0.fEntries)]),(18,.v (.b r))],[]⟩):=by
 have e:=Option.some.inj (ho.symm.trans (rfl:cD 0 1 b71=some _))
 subst e
 clear ho
 show aH _ _ _ _ _ _=_
 revert hF
 unfold ck_store_Check_k1_v
 refine aX (fun h1=>?_) (fun h1=>?_)
 rotate_left 1
 refine aX (fun h2=>?_) (fun h2=>?_)
 rotate_left 1
 all_goals (rintro rfl;simp (maxSteps:=4000000) only [*,n71k,n71K,n71mv,↓RP,RB,aQ,aD,be,Mx.bl,opnd,Mx.bI,Nat.reduceBEq,bQ,aN,aA,ay,Mx.put,ofConst,ofCell,Mx.prune,killB,aK,putDst,aw,aE,loadAt,bT,List.map,cz,cB,cu,ax,cy,cx,bh,ty3,ty23,ty25,↓aa _ _ _ _ 1])
theorem rg_store_Check_k6v2 (C:aj) (k_vaC:K_vaC C) (p0:GStore) (p1:Int) (p2:List GEntry) (p3:Int) (p4:GEntry) (c:Code) (ho:cD 0 6 b71=some c) (r:Bool) (hF:ck_store_Check_k6v2 p0 p1 p2 p3 p4=some r): @cV TT C.wide (evW TT C.wide n71 b71) n71 0 6 ⟨[(1,.rp [.i .i64 p0.fNow,.sl 8 (ah GEntry.row p0.fEntries)]),(3,.v (.i .i64 p1)),(4,.ptr 0 0),(20,.v (.sl 8 (ah GEntry.row p2))),(21,.v (.i .i64 p3)),(22,.v (.i .i64 p1))],[[.v (.s p4.fKey),.v (.i .i64 p4.fValue.fKind),.v (.s p4.fValue.fText),.v (.i .i64 p4.fValue.fCount),.v (.sl 2 (ah GPair.row p4.fValue.fPairs)),.v (.sl 1 (ah bY p4.fValue.fItems)),.v (.sl 2 (ah GScore.row p4.fValue.fScores)),.v (.i .i64 p4.fUntil)]]⟩ ⟨c⟩=some (.normal,⟨[(1,.rp [.i .i64 p0.fNow,.sl 8 (ah GEntry.row p0.fEntries)]),(4,.ptr 0 0),(20,.v (.sl 8 (ah GEntry.row p2))),(21,.v (.i .i64 p3)),(22,.v (.i .i64 p1)),(58,.v (.b r))],[[.v (.s p4.fKey),.v (.i .i64 p4.fValue.fKind),.v (.s p4.fValue.fText),.v (.i .i64 p4.fValue.fCount),.v (.sl 2 (ah GPair.row p4.fValue.fPairs)),.v (.sl 1 (ah bY p4.fValue.fItems)),.v (.sl 2 (ah GScore.row p4.fValue.fScores)),.v (.i .i64 p4.fUntil)]]⟩):=by
 have e:=Option.some.inj (ho.symm.trans (rfl:cD 0 6 b71=some _))
 subst e
 clear ho
 show aH _ _ _ _ _ _=_
 revert hF
 unfold ck_store_Check_k6v2
 refine aX (fun h1=>?_) (fun h1=>?_)
 rotate_left 1
 refine aX (fun h2=>?_) (fun h2=>?_)
 rotate_left 1
 refine az fun x1 h3=>?_
 have g1:=bK (k_vaC p4.fValue _ h3)
 refine bF (fun h4=>?_) (fun h4=>?_)
 rotate_left 1
 refine bF (fun h5=>?_) (fun h5=>?_)
 rotate_left 1
 refine az fun x2 h6=>?_
 have g2:decide (0≤(IntKind.i64.wrap (p1-1)))=true:=(cp h6).1
 have g3:(ah GEntry.row p0.fEntries)[((IntKind.i64.wrap (p1-1)):Int).toNat]? =some [.s x2.fKey,.i .i64 x2.fValue.fKind,.s x2.fValue.fText,.i .i64 x2.fValue.fCount,.sl 2 (ah GPair.row x2.fValue.fPairs),.sl 1 (ah bY x2.fValue.fItems),.sl 2 (ah GScore.row x2.fValue.fScores),.i .i64 x2.fUntil]:=cn _ h6
 all_goals (rintro⟨⟩;simp (maxSteps:=4000000) only [*,n71k,n71K,n71f6,n71mv,↓RP,RB,aQ,aD,be,Mx.bl,opnd,Mx.bI,Nat.reduceBEq,bQ,aN,aA,ay,Mx.put,ofConst,ofCell,Mx.prune,killB,aK,putDst,aw,aE,loadAt,bT,List.map,Nat.reduceAdd,cz,cB,cu,forceAll,bj,fineE,oddAl,lend,lendA,aS,aB,bR,bare,bW,bG,Nat.reduceSub,cd,aI,aY,cm,bL,cv,ch,bo,aL,bm,Op.operands,ax,newB,cw,cy,cx,bne,bh,aP,br,Call.operands,ty9,ty23,ty25,ty74,ty77,↓aq _ _ _ _ 6])
theorem rg_store_Check_k8v2 (C:aj)  (p0:GStore) (p1:List GEntry) (p2:Int) (p3:Int) (p4:GEntry) (c:Code) (ho:cD 0 8 b71=some c) (r:Bool) (hF:ck_store_Check_k8v2_v p0 p1 p2 p3 p4=r): @cV TT C.wide (evW TT C.wide n71 b71) n71 0 8 ⟨[(1,.rp [.i .i64 p0.fNow,.sl 8 (ah GEntry.row p0.fEntries)]),(4,.ptr 0 0),(20,.v (.sl 8 (ah GEntry.row p1))),(21,.v (.i .i64 p2)),(22,.v (.i .i64 p3))],[[.v (.s p4.fKey),.v (.i .i64 p4.fValue.fKind),.v (.s p4.fValue.fText),.v (.i .i64 p4.fValue.fCount),.v (.sl 2 (ah GPair.row p4.fValue.fPairs)),.v (.sl 1 (ah bY p4.fValue.fItems)),.v (.sl 2 (ah GScore.row p4.fValue.fScores)),.v (.i .i64 p4.fUntil)]]⟩ ⟨c⟩=some (.normal,⟨[(1,.rp [.i .i64 p0.fNow,.sl 8 (ah GEntry.row p0.fEntries)]),(20,.v (.sl 8 (ah GEntry.row p1))),(21,.v (.i .i64 p2)),(22,.v (.i .i64 p3)),(73,.v (.b r))],[[.v (.s p4.fKey),.v (.i .i64 p4.fValue.fKind),.v (.s p4.fValue.fText),.v (.i .i64 p4.fValue.fCount),.v (.sl 2 (ah GPair.row p4.fValue.fPairs)),.v (.sl 1 (ah bY p4.fValue.fItems)),.v (.sl 2 (ah GScore.row p4.fValue.fScores)),.v (.i .i64 p4.fUntil)]]⟩):=by
 have e:=Option.some.inj (ho.symm.trans (rfl:cD 0 8 b71=some _))
 subst e
 clear ho
 show aH _ _ _ _ _ _=_
 revert hF
 unfold ck_store_Check_k8v2_v
 refine aX (fun h1=>?_) (fun h1=>?_)
 rotate_left 1
 refine aX (fun h2=>?_) (fun h2=>?_)
 rotate_left 1
 all_goals (rintro rfl;simp (maxSteps:=4000000) only [*,n71k,n71K,n71mv,↓RP,RB,aQ,aD,be,Mx.bl,opnd,Mx.bI,Nat.reduceBEq,bQ,aN,aA,ay,Mx.put,ofConst,ofCell,Mx.prune,killB,aK,putDst,aw,aE,loadAt,bT,List.map,cz,cB,ax,cy,cx,bne,bh,ty3,ty25,ty77,↓aa _ _ _ _ 8])
def hd_store_Check_0 (p0:GStore) (p1:List GEntry) (p2:Int) (s:Int):St:=⟨[(1,.rp [.i .i64 p0.fNow,.sl 8 (ah GEntry.row p0.fEntries)]),(20,.v (.sl 8 (ah GEntry.row p1))),(21,.v (.i .i64 p2)),(22,.v (.i .i64 s))],[]⟩
def ou_store_Check_0 (p0:GStore) (p1:List GEntry) (p2:Int) (r:GEntry⊕Unit):Option (Ex×St):=match r with
 | .inl r=>some (.ret,⟨[(2,.v (.i .i64 13))],[[.v (.s r.fKey),.v (.i .i64 r.fValue.fKind),.v (.s r.fValue.fText),.v (.i .i64 r.fValue.fCount),.v (.sl 2 (ah GPair.row r.fValue.fPairs)),.v (.sl 1 (ah bY r.fValue.fItems)),.v (.sl 2 (ah GScore.row r.fValue.fScores)),.v (.i .i64 r.fUntil)]]⟩)
 | .inr r=>some (.normal,⟨[],[]⟩)
theorem sl_store_Check_0 (C:aj) (k_vaC:K_vaC C) (p0:GStore) (p1:List GEntry) (p2:Int) (p3:Int) (o:Int⊕(GEntry⊕Unit)) (hF:st_store_Check_0 p0 p1 p2 p3=some o):evW TT C.wide n71 b71 0 (hd_store_Check_0 p0 p1 p2 p3)=Sum.elim (fun s=>evW TT C.wide n71 b71 0 (hd_store_Check_0 p0 p1 p2 s)) (fun r=>ou_store_Check_0 p0 p1 p2 r) o:=by
 rw [cG TT n71 fl71_0]
 revert hF
 unfold st_store_Check_0
 try dsimp only
 refine bF (fun h1=>?_) (fun h1=>?_)
 rotate_left 1
 refine az fun x1 h2=>?_
 have g1:decide (0≤p3)=true:=(cp h2).1
 have g2:(ah GEntry.row p1)[(p3:Int).toNat]? =some [.s x1.fKey,.i .i64 x1.fValue.fKind,.s x1.fValue.fText,.i .i64 x1.fValue.fCount,.sl 2 (ah GPair.row x1.fValue.fPairs),.sl 1 (ah bY x1.fValue.fItems),.sl 2 (ah GScore.row x1.fValue.fScores),.i .i64 x1.fUntil]:=cn _ h2
 refine az fun x2 h3=>?_
 have g3:=rg_store_Check_k6v2 C k_vaC p0 p3 p1 p2 x1 _ rfl _ h3
 refine aX (fun h4=>?_) (fun h4=>?_)
 rotate_left 1
 have g4:=rg_store_Check_k8v2 C p0 p1 p2 p3 x1 _ rfl (ck_store_Check_k8v2_v p0 p1 p2 p3 x1) rfl
 refine aX (fun h5=>?_) (fun h5=>?_)
 rotate_left 1
 all_goals (rintro⟨⟩;show cN _ _ _ (aH _ _ _ _ (Code.seq _ _) _)=_;simp (maxSteps:=4000000) only [*,hd_store_Check_0,ou_store_Check_0,n71a,n71A,n71k,n71K,n71mv,↓RP,RB,↓ai,be,bf,aJ,Mx.bl,opnd,Mx.bI,Nat.reduceBEq,bQ,Mx.fit,bP,co,cellsOf,aN,aA,ay,Mx.put,ofConst,ofCell,Mx.prune,killB,killBs,aK,putDst,aw,loadAt,bT,List.map,Nat.reduceAdd,cz,cB,bJ,aM,lowC,bj,kill,bG,setCells,Nat.reduceLeDiff,lowA,bn,ax,av,atO,cy,cx,bne,↓ao,↓am,ty3,ty23,ty29,ty77,↓aa _ _ _ _ 4,↓aa _ _ _ _ 5,↓bg _ _ _ _ 6,↓aa _ _ _ _ 7,↓bg _ _ _ _ 8,↓aa _ _ _ _ 9,↓aa _ _ _ _ 10])
theorem r_store_Check (C:aj) (k_vaC:K_vaC C) (p0:GStore) (r:Int) (hF:store_Check p0=some r):cR TT C.wide (evW TT C.wide n71 b71) n71 Try.f71.results.toList (aU Try.f71) [.agg [.v (.i .i64 p0.fNow),.v (.sl 8 (ah GEntry.row p0.fEntries))]] []=some (.v (.i .i64 r),[]):=by
 revert hF
 unfold store_Check
 have g1:=rg_store_Check_k1 C p0 _ rfl (ck_store_Check_k1_v p0) rfl
 refine aX (fun h1=>?_) (fun h1=>?_)
 rotate_left 1
 refine az ?_
 rintro (x1|_) h2
 focus
  dsimp only
  have g2:=cH _ _ (sl_store_Check_0 C k_vaC p0 p0.fEntries (p0.fEntries.length:Int)) h2
  try simp only [hd_store_Check_0,ou_store_Check_0] at g2
 rotate_left 1
 dsimp only
 have g3:=cH _ _ (sl_store_Check_0 C k_vaC p0 p0.fEntries (p0.fEntries.length:Int)) h2
 try simp only [hd_store_Check_0,ou_store_Check_0] at g3
 all_goals (rintro⟨⟩;rw [bk];show cC _ _ _ (aH _ _ _ _ (Code.seq _ _) _)=_;simp (maxSteps:=4000000) only [*,res71,n71a,n71A,n71k,n71K,n71ro,n71mv,↓RP,RB,enter,be,bf,aJ,Mx.bl,opnd,Mx.bI,Nat.reduceBEq,bQ,Mx.fit,bP,co,toVs,cellsOf,toV,aN,aA,ay,Mx.put,ofConst,ofCell,Mx.prune,killB,aK,putDst,aw,aE,loadAt,bT,List.map,cu,aC,bu,bx,cA,bS,bJ,aM,lowC,ax,av,atO,↓ao,↓am,ty23,ty25,ty29,↓aa _ _ _ _ 0,↓bg _ _ _ _ 1,↓aa _ _ _ _ 2,↓aa _ _ _ _ 3,↓aa _ _ _ _ 11])
def n92K:List (Nat×List Nat):=[(0,[0]),(1,[2])]
def n92:cL where
 keep:=ax n92K
 ro:=fun _=>false
 mv:=fun _=>false
 give:=fun _=>false
 free:=fun _=>[]
theorem n92k (i:Nat):n92.keep i=ax n92K i:=rfl
theorem res92:Try.f92.results.toList= [.tmp 2]:=rfl
noncomputable def b92:Code:=aU Try.f92
theorem r_clCReply_fn1 (C:aj)  (p0:ByteArray) (r:Bool) (hF:clCReply_fn1 p0=some r):cR TT C.wide (evW TT C.wide n92 b92) n92 Try.f92.results.toList (aU Try.f92) [.v (.s p0)] []=some (.v (.b r),[]):=by
 revert hF
 unfold clCReply_fn1
 all_goals (rintro⟨⟩;rw [bk];show cC _ _ _ (aH _ _ _ _ (Code.seq _ _) _)=_;simp (maxSteps:=4000000) only [*,res92,n92k,n92K,↓RP,RB,enter,be,bf,aJ,Mx.bl,opnd,Mx.bI,Nat.reduceBEq,bQ,Mx.fit,co,aN,aA,Mx.put,ofConst,ofCell,Mx.prune,killB,aK,putDst,aw,List.map,cz,cB,cu,aC,bu,bx,cA,bS,bJ,aM,lowC,ax,cy,cx,↓ao,↓aa,ty4,ty9])
def hd_sISclCReply_fn1_0 (p0:List ByteArray) (p1:Int) (s:Int):St:=⟨[(0,.v (.sl 1 (ah bY p0))),(1,.clo 92 []),(7,.v (.i .i64 p1)),(8,.v (.i .i64 s))],[]⟩
def ou_sISclCReply_fn1_0 (p0:List ByteArray) (p1:Int) (r:Int⊕Unit):Option (Ex×St):=match r with
 | .inl r=>some (.ret,⟨[(4,.v (.i .i64 r))],[]⟩)
 | .inr r=>some (.normal,⟨[],[]⟩)
theorem sl_sISclCReply_fn1_0 (C:aj) (k_clCReply_fn1:K_clCReply_fn1 C) (p0:List ByteArray) (p1:Int) (p2:Int) (o:Int⊕(Int⊕Unit)) (hF:st_sISclCReply_fn1_0 p0 p1 p2=some o):evW TT C.wide n131 b131 0 (hd_sISclCReply_fn1_0 p0 p1 p2)=Sum.elim (fun s=>evW TT C.wide n131 b131 0 (hd_sISclCReply_fn1_0 p0 p1 s)) (fun r=>ou_sISclCReply_fn1_0 p0 p1 r) o:=by
 rw [cG TT n131 fl131_0]
 revert hF
 unfold st_sISclCReply_fn1_0
 try dsimp only
 refine bF (fun h1=>?_) (fun h1=>?_)
 rotate_left 1
 refine az fun x1 h2=>?_
 have g1:decide (0≤p2)=true:=(cp h2).1
 have g2:(ah bY p0)[(p2:Int).toNat]? =some [.s x1]:=cn _ h2
 have g3:=bK (k_clCReply_fn1 x1 _ (clCReply_fn1_t x1))
 refine aX (fun h3=>?_) (fun h3=>?_)
 rotate_left 1
 all_goals (rintro⟨⟩;show cN _ _ _ (aH _ _ _ _ (Code.seq _ _) _)=_;simp (maxSteps:=4000000) only [*,hd_sISclCReply_fn1_0,ou_sISclCReply_fn1_0,n131a,n131A,n131k,n131K,n131mv,n131gv,↓RP,RB,↓ai,be,bf,aJ,Mx.bl,opnd,Mx.bI,Nat.reduceBEq,bQ,Mx.fit,co,aN,aA,ay,Mx.put,ofConst,ofCell,Mx.prune,killB,killBs,aK,putDst,aw,loadAt,bT,List.map,cz,cB,bJ,aM,bD,bj,kill,frz,cq,bw,argE,argsE,ax,av,atO,cy,cx,↓ao,↓am,↓aa,ty3,ty9,ty71])
theorem r_sISclCReply_fn1 (C:aj) (k_clCReply_fn1:K_clCReply_fn1 C) (p0:List ByteArray) (r:Int) (hF:sISclCReply_fn1 p0=some r):cR TT C.wide (evW TT C.wide n131 b131) n131 Try.f131.results.toList (aU Try.f131) [.v (.sl 1 (ah bY p0)),.clo 92 []] []=some (.v (.i .i64 r),[]):=by
 revert hF
 unfold sISclCReply_fn1
 refine az ?_
 rintro (x1|_) h1
 focus
  dsimp only
  have g1:=cH _ _ (sl_sISclCReply_fn1_0 C k_clCReply_fn1 p0 (p0.length:Int)) h1
  try simp only [hd_sISclCReply_fn1_0,ou_sISclCReply_fn1_0] at g1
 rotate_left 1
 dsimp only
 have g2:=cH _ _ (sl_sISclCReply_fn1_0 C k_clCReply_fn1 p0 (p0.length:Int)) h1
 try simp only [hd_sISclCReply_fn1_0,ou_sISclCReply_fn1_0] at g2
 all_goals (rintro⟨⟩;rw [bk];show cC _ _ _ (aH _ _ _ _ (Code.seq _ _) _)=_;simp (maxSteps:=4000000) only [*,res131,n131k,n131K,↓RP,RB,enter,be,bf,aJ,Mx.bl,opnd,Mx.bI,Nat.reduceBEq,bQ,Mx.fit,co,aN,aA,Mx.put,ofConst,ofCell,Mx.prune,killB,killBs,aK,putDst,aw,List.map,cu,aC,bu,bx,cA,bS,bJ,aM,lowC,Int.reduceNeg,ax,↓ao,↓aa,ty3,ty71])
theorem r_sCSclCReply_fn1 (C:aj) (k_sISclCReply_fn1:K_sISclCReply_fn1 C) (p0:List ByteArray) (r:Bool) (hF:sCSclCReply_fn1 p0=some r):cR TT C.wide (evW TT C.wide n91 b91) n91 Try.f91.results.toList (aU Try.f91) [.v (.sl 1 (ah bY p0)),.clo 92 []] []=some (.v (.b r),[]):=by
 revert hF
 unfold sCSclCReply_fn1
 refine az fun x1 h1=>?_
 have g1:=bK (k_sISclCReply_fn1 p0 _ h1)
 all_goals (rintro⟨⟩;rw [bk];show cC _ _ _ (aH _ _ _ _ (Code.seq _ _) _)=_;simp (maxSteps:=4000000) only [*,res91,n91k,n91K,↓RP,RB,enter,be,bf,aJ,Mx.bl,opnd,Mx.bI,Nat.reduceBEq,bQ,Mx.fit,co,aN,aA,Mx.put,ofConst,ofCell,Mx.prune,killB,killBs,aK,putDst,aw,List.map,cz,cB,aC,bu,bx,cA,bS,bJ,aM,lowC,forceAll,lend,lendA,aS,aB,bR,bare,bW,ax,newB,cw,cy,cx,↓ao,↓aa,ty4])
def n72K:List (Nat×List Nat):=[(0,[1]),(1,[1,10]),(2,[2]),(3,[1,20]),(4,[2]),(5,[1,23]),(6,[2]),(7,[31]),(8,[2]),(9,[2])]
def n72A:List (Nat×List Nat×List Nat):=[(10,[],[1]),(20,[],[1]),(23,[],[1]),(31,[],[])]
def n72:cL where
 keep:=ax n72K
 ro:=fun t=>t==1
 mv:=fun _=>false
 give:=fun _=>false
 free:=fun _=>[]
 alive:=av n72A
theorem n72a (t:Nat) (x:Bool) (e:Env) (S:bH):cK n72 t x ⟨e,S⟩=atO (av n72A t x) e S:=cF rfl t x e S
theorem n72k (i:Nat):n72.keep i=ax n72K i:=rfl
theorem n72ro (t:Nat):n72.ro t=(t==1):=rfl
theorem n72mv (t:Nat):n72.mv t=(false):=rfl
theorem res72:Try.f72.results.toList= [.tmp 2]:=rfl
noncomputable def b72:Code:=aU Try.f72
theorem r_clCReply (C:aj) (k_sCSclCReply_fn1:K_sCSclCReply_fn1 C) (p0:GReply) (r:Int) (hF:clCReply p0=some r):cR TT C.wide (evW TT C.wide n72 b72) n72 Try.f72.results.toList (aU Try.f72) [.agg [.v (.i .i64 p0.fCode),.v (.s p0.fText),.v (.i .i64 p0.fN),.v (.sl 1 (ah bY p0.fList))]] []=some (.v (.i .i64 r),[]):=by
 revert hF
 unfold clCReply
 refine aX (fun h1=>?_) (fun h1=>?_)
 rotate_left 1
 unfold clCReply_c0
 refine aX (fun h2=>?_) (fun h2=>?_)
 rotate_left 1
 refine aX (fun h3=>?_) (fun h3=>?_)
 rotate_left 1
 refine aX (fun h4=>?_) (fun h4=>?_)
 rotate_left 1
 refine az fun x1 h5=>?_
 have g1:=bK (k_sCSclCReply_fn1 p0.fList _ h5)
 refine aX (fun h6=>?_) (fun h6=>?_)
 rotate_left 1
 refine aX (fun h7=>?_) (fun h7=>?_)
 rotate_left 1
 refine aX (fun h8=>?_) (fun h8=>?_)
 rotate_left 1
 all_goals (rintro⟨⟩;rw [bk];show cC _ _ _ (aH _ _ _ _ (Code.seq _ _) _)=_;simp (maxSteps:=4000000) only [*,res72,n72a,n72A,n72k,n72K,n72ro,n72mv,↓RP,RB,enter,aQ,aD,be,bf,aJ,Mx.bl,opnd,Mx.bI,Nat.reduceBEq,bQ,Mx.fit,bP,co,toVs,cellsOf,toV,aN,aA,ay,Mx.put,ofConst,ofCell,Mx.prune,killB,aK,putDst,aw,aE,loadAt,bT,List.map,cz,cB,cu,aC,bu,bx,cA,bS,bJ,aM,lowC,forceAll,lend,lendA,aS,aB,bR,bare,bW,Int.reduceNeg,ax,av,atO,newB,cw,cy,cx,↓ao,↓am,↓aa,bh,ty3,ty9,ty29,ty71,ty79])
def n33K:List (Nat×List Nat):=[(0,[1]),(1,[1,24]),(2,[2]),(3,[1,26,27,28]),(4,[1,26,27,28,29]),(5,[1,3,4,26,27,28]),(6,[1,4,26,27,28,58]),(7,[2]),(8,[1,26,27,28,85]),(9,[2]),(10,[1,26,27,28]),(11,[2])]
def n33A:List (Nat×List Nat×List Nat):=[(24,[],[1]),(29,[1,26,27,28],[]),(58,[],[1,4,26,27,28]),(85,[],[1,26,27,28])]
def n33:cL where
 keep:=ax n33K
 ro:=fun t=>t==1
 mv:=fun _=>false
 give:=fun _=>false
 free:=fun i=>match i with|6=>[(4,6),(5,6),(4,7),(5,7),(14,16),(15,16),(14,17),(15,17),(14,21),(15,21),(16,21),(17,21),(18,21),(19,21),(20,21),(14,22),(15,22),(16,22),(17,22),(18,22),(19,22),(20,22)]|_=>[]
 alive:=av n33A
theorem n33a (t:Nat) (x:Bool) (e:Env) (S:bH):cK n33 t x ⟨e,S⟩=atO (av n33A t x) e S:=cF rfl t x e S
theorem n33k (i:Nat):n33.keep i=ax n33K i:=rfl
theorem n33ro (t:Nat):n33.ro t=(t==1):=rfl
theorem n33mv (t:Nat):n33.mv t=(false):=rfl
theorem n33f6:n33.free 6= [(4,6),(5,6),(4,7),(5,7),(14,16),(15,16),(14,17),(15,17),(14,21),(15,21),(16,21),(17,21),(18,21),(19,21),(20,21),(14,22),(15,22),(16,22),(17,22),(18,22),(19,22),(20,22)]:=rfl
theorem res33:Try.f33.results.toList= [.tmp 2]:=rfl
noncomputable def b33:Code:=aU Try.f33
noncomputable def c33_0:Code:=(bE 0 (aU Try.f33)).getD .skip
theorem fl33_0:bE 0 b33=some c33_0:=rfl
theorem rg_clC_k1 (C:aj) (k_store_Check:K_store_Check C) (p0:GMachine) (c:Code) (ho:cD 0 1 b33=some c) (r:Bool) (hF:ck_clC_k1 p0=some r): @cV TT C.wide (evW TT C.wide n33 b33) n33 0 1 ⟨[(1,.rp [.i .i64 p0.fStore.fNow,.sl 8 (ah GEntry.row p0.fStore.fEntries),.i .i64 p0.fNext,.sl 7 (ah GClient.row p0.fClients)])],[]⟩ ⟨c⟩=some (.normal,⟨[(1,.rp [.i .i64 p0.fStore.fNow,.sl 8 (ah GEntry.row p0.fStore.fEntries),.i .i64 p0.fNext,.sl 7 (ah GClient.row p0.fClients)]),(24,.v (.b r))],[]⟩):=by
 have e:=Option.some.inj (ho.symm.trans (rfl:cD 0 1 b33=some _))
 subst e
 clear ho
 show aH _ _ _ _ _ _=_
 revert hF
 unfold ck_clC_k1
 refine az fun x1 h1=>?_
 have g1:=bK (k_store_Check p0.fStore _ h1)
 refine bF (fun h2=>?_) (fun h2=>?_)
 rotate_left 1
 refine aX (fun h3=>?_) (fun h3=>?_)
 rotate_left 1
 refine aX (fun h4=>?_) (fun h4=>?_)
 rotate_left 1
 all_goals (rintro⟨⟩;simp (maxSteps:=4000000) only [*,n33k,n33K,n33mv,↓RP,RB,aQ,aD,be,Mx.bl,opnd,Mx.bI,Nat.reduceBEq,bQ,aN,aA,ay,Mx.put,ofConst,ofCell,Mx.prune,killB,aK,putDst,aw,aE,loadAt,bT,List.map,Nat.reduceAdd,cz,cB,cu,forceAll,lend,lendA,aS,aB,bR,bare,bW,ax,newB,cw,cy,cx,bne,bh,ty3,ty25,ty26,ty28,↓aa _ _ _ _ 1])
theorem rg_clC_k6v2 (C:aj)  (p0:GMachine) (p1:Int) (p2:List GClient) (p3:Int) (p4:GClient) (c:Code) (ho:cD 0 6 b33=some c) (r:Bool) (hF:ck_clC_k6v2 p0 p1 p2 p3 p4=some r): @cV TT C.wide (evW TT C.wide n33 b33) n33 0 6 ⟨[(1,.rp [.i .i64 p0.fStore.fNow,.sl 8 (ah GEntry.row p0.fStore.fEntries),.i .i64 p0.fNext,.sl 7 (ah GClient.row p0.fClients)]),(3,.v (.i .i64 p1)),(4,.ptr 0 0),(26,.v (.sl 7 (ah GClient.row p2))),(27,.v (.i .i64 p3)),(28,.v (.i .i64 p1))],[[.v (.i .i64 p4.fId),.v (.i .i64 p4.fSeq),.v (.i .i64 p4.fTime),.v (.i .i64 p4.fReply.fCode),.v (.s p4.fReply.fText),.v (.i .i64 p4.fReply.fN),.v (.sl 1 (ah bY p4.fReply.fList))]]⟩ ⟨c⟩=some (.normal,⟨[(1,.rp [.i .i64 p0.fStore.fNow,.sl 8 (ah GEntry.row p0.fStore.fEntries),.i .i64 p0.fNext,.sl 7 (ah GClient.row p0.fClients)]),(4,.ptr 0 0),(26,.v (.sl 7 (ah GClient.row p2))),(27,.v (.i .i64 p3)),(28,.v (.i .i64 p1)),(58,.v (.b r))],[[.v (.i .i64 p4.fId),.v (.i .i64 p4.fSeq),.v (.i .i64 p4.fTime),.v (.i .i64 p4.fReply.fCode),.v (.s p4.fReply.fText),.v (.i .i64 p4.fReply.fN),.v (.sl 1 (ah bY p4.fReply.fList))]]⟩):=by
 have e:=Option.some.inj (ho.symm.trans (rfl:cD 0 6 b33=some _))
 subst e
 clear ho
 show aH _ _ _ _ _ _=_
 revert hF
 unfold ck_clC_k6v2
 refine aX (fun h1=>?_) (fun h1=>?_)
 rotate_left 1
 refine aX (fun h2=>?_) (fun h2=>?_)
 rotate_left 1
 refine bF (fun h3=>?_) (fun h3=>?_)
 rotate_left 1
 refine az fun x1 h4=>?_
 have g1:decide (0≤(IntKind.i64.wrap (p1-1)))=true:=(cp h4).1
 have g2:(ah GClient.row p0.fClients)[((IntKind.i64.wrap (p1-1)):Int).toNat]? =some [.i .i64 x1.fId,.i .i64 x1.fSeq,.i .i64 x1.fTime,.i .i64 x1.fReply.fCode,.s x1.fReply.fText,.i .i64 x1.fReply.fN,.sl 1 (ah bY x1.fReply.fList)]:=cn _ h4
 all_goals (rintro⟨⟩;simp (maxSteps:=4000000) only [*,n33k,n33K,n33f6,n33mv,↓RP,RB,aQ,aD,be,Mx.bl,opnd,Mx.bI,Nat.reduceBEq,bQ,aN,aA,ay,Mx.put,ofConst,ofCell,Mx.prune,killB,aK,putDst,aw,aE,loadAt,bT,List.map,cz,cB,bj,fineE,oddAl,bG,Nat.reduceSub,cd,aI,aY,cm,bL,cv,ch,bo,aL,bm,Op.operands,ax,cy,cx,bh,br,ty3,ty26,ty28,ty81,↓aq _ _ _ _ 6])
theorem rg_clC_k8v2 (C:aj) (k_clCReply:K_clCReply C) (p0:GMachine) (p1:List GClient) (p2:Int) (p3:Int) (p4:GClient) (c:Code) (ho:cD 0 8 b33=some c) (r:Bool) (hF:ck_clC_k8v2 p0 p1 p2 p3 p4=some r): @cV TT C.wide (evW TT C.wide n33 b33) n33 0 8 ⟨[(1,.rp [.i .i64 p0.fStore.fNow,.sl 8 (ah GEntry.row p0.fStore.fEntries),.i .i64 p0.fNext,.sl 7 (ah GClient.row p0.fClients)]),(4,.ptr 0 0),(26,.v (.sl 7 (ah GClient.row p1))),(27,.v (.i .i64 p2)),(28,.v (.i .i64 p3))],[[.v (.i .i64 p4.fId),.v (.i .i64 p4.fSeq),.v (.i .i64 p4.fTime),.v (.i .i64 p4.fReply.fCode),.v (.s p4.fReply.fText),.v (.i .i64 p4.fReply.fN),.v (.sl 1 (ah bY p4.fReply.fList))]]⟩ ⟨c⟩=some (.normal,⟨[(1,.rp [.i .i64 p0.fStore.fNow,.sl 8 (ah GEntry.row p0.fStore.fEntries),.i .i64 p0.fNext,.sl 7 (ah GClient.row p0.fClients)]),(26,.v (.sl 7 (ah GClient.row p1))),(27,.v (.i .i64 p2)),(28,.v (.i .i64 p3)),(85,.v (.b r))],[[.v (.i .i64 p4.fId),.v (.i .i64 p4.fSeq),.v (.i .i64 p4.fTime),.v (.i .i64 p4.fReply.fCode),.v (.s p4.fReply.fText),.v (.i .i64 p4.fReply.fN),.v (.sl 1 (ah bY p4.fReply.fList))]]⟩):=by
 have e:=Option.some.inj (ho.symm.trans (rfl:cD 0 8 b33=some _))
 subst e
 clear ho
 show aH _ _ _ _ _ _=_
 revert hF
 unfold ck_clC_k8v2
 refine aX (fun h1=>?_) (fun h1=>?_)
 rotate_left 1
 refine aX (fun h2=>?_) (fun h2=>?_)
 rotate_left 1
 refine aX (fun h3=>?_) (fun h3=>?_)
 rotate_left 1
 refine aX (fun h4=>?_) (fun h4=>?_)
 rotate_left 1
 refine az fun x1 h5=>?_
 have g1:=bK (k_clCReply p4.fReply _ h5)
 all_goals (rintro⟨⟩;simp (maxSteps:=4000000) only [*,n33k,n33K,n33mv,↓RP,RB,aQ,aD,be,Mx.bl,opnd,Mx.bI,Nat.reduceBEq,bQ,aN,aA,ay,Mx.put,ofConst,ofCell,Mx.prune,killB,aK,putDst,aw,aE,loadAt,bT,List.map,Nat.reduceAdd,cz,cB,forceAll,lend,lendA,aS,aB,bR,bare,bW,ax,newB,cw,cy,cx,bne,bh,aP,ty3,ty25,ty28,ty79,ty81,↓aa _ _ _ _ 8])
def hd_clC_0 (p0:GMachine) (p1:List GClient) (p2:Int) (s:Int):St:=⟨[(1,.rp [.i .i64 p0.fStore.fNow,.sl 8 (ah GEntry.row p0.fStore.fEntries),.i .i64 p0.fNext,.sl 7 (ah GClient.row p0.fClients)]),(26,.v (.sl 7 (ah GClient.row p1))),(27,.v (.i .i64 p2)),(28,.v (.i .i64 s))],[]⟩
def ou_clC_0 (p0:GMachine) (p1:List GClient) (p2:Int) (r:GClient⊕Unit):Option (Ex×St):=match r with
 | .inl r=>some (.ret,⟨[(2,.v (.i .i64 13))],[[.v (.i .i64 r.fId),.v (.i .i64 r.fSeq),.v (.i .i64 r.fTime),.v (.i .i64 r.fReply.fCode),.v (.s r.fReply.fText),.v (.i .i64 r.fReply.fN),.v (.sl 1 (ah bY r.fReply.fList))]]⟩)
 | .inr r=>some (.normal,⟨[],[]⟩)
theorem sl_clC_0 (C:aj) (k_clCReply:K_clCReply C) (p0:GMachine) (p1:List GClient) (p2:Int) (p3:Int) (o:Int⊕(GClient⊕Unit)) (hF:st_clC_0 p0 p1 p2 p3=some o):evW TT C.wide n33 b33 0 (hd_clC_0 p0 p1 p2 p3)=Sum.elim (fun s=>evW TT C.wide n33 b33 0 (hd_clC_0 p0 p1 p2 s)) (fun r=>ou_clC_0 p0 p1 p2 r) o:=by
 rw [cG TT n33 fl33_0]
 revert hF
 unfold st_clC_0
 try dsimp only
 refine bF (fun h1=>?_) (fun h1=>?_)
 rotate_left 1
 refine az fun x1 h2=>?_
 have g1:decide (0≤p3)=true:=(cp h2).1
 have g2:(ah GClient.row p1)[(p3:Int).toNat]? =some [.i .i64 x1.fId,.i .i64 x1.fSeq,.i .i64 x1.fTime,.i .i64 x1.fReply.fCode,.s x1.fReply.fText,.i .i64 x1.fReply.fN,.sl 1 (ah bY x1.fReply.fList)]:=cn _ h2
 refine az fun x2 h3=>?_
 have g3:=rg_clC_k6v2 C p0 p3 p1 p2 x1 _ rfl _ h3
 refine aX (fun h4=>?_) (fun h4=>?_)
 rotate_left 1
 refine az fun x3 h5=>?_
 have g4:=rg_clC_k8v2 C k_clCReply p0 p1 p2 p3 x1 _ rfl _ h5
 refine aX (fun h6=>?_) (fun h6=>?_)
 rotate_left 1
 all_goals (rintro⟨⟩;show cN _ _ _ (aH _ _ _ _ (Code.seq _ _) _)=_;simp (maxSteps:=4000000) only [*,hd_clC_0,ou_clC_0,n33a,n33A,n33k,n33K,n33mv,↓RP,RB,↓ai,be,bf,aJ,Mx.bl,opnd,Mx.bI,Nat.reduceBEq,bQ,Mx.fit,bP,co,cellsOf,aN,aA,ay,Mx.put,ofConst,ofCell,Mx.prune,killB,killBs,aK,putDst,aw,loadAt,bT,List.map,Nat.reduceAdd,cz,cB,bJ,aM,lowC,bj,kill,bG,setCells,Nat.reduceLeDiff,lowA,bn,ax,av,atO,cy,cx,bne,↓ao,↓am,ty3,ty26,ty29,ty81,↓aa _ _ _ _ 4,↓aa _ _ _ _ 5,↓bg _ _ _ _ 6,↓aa _ _ _ _ 7,↓bg _ _ _ _ 8,↓aa _ _ _ _ 9,↓aa _ _ _ _ 10])
theorem r_clC (C:aj) (k_store_Check:K_store_Check C) (k_clCReply:K_clCReply C) (p0:GMachine) (r:Int) (hF:clC p0=some r):cR TT C.wide (evW TT C.wide n33 b33) n33 Try.f33.results.toList (aU Try.f33) [.agg [.v (.i .i64 p0.fStore.fNow),.v (.sl 8 (ah GEntry.row p0.fStore.fEntries)),.v (.i .i64 p0.fNext),.v (.sl 7 (ah GClient.row p0.fClients))]] []=some (.v (.i .i64 r),[]):=by
 revert hF
 unfold clC
 refine az fun x1 h1=>?_
 have g1:=rg_clC_k1 C k_store_Check p0 _ rfl _ h1
 refine aX (fun h2=>?_) (fun h2=>?_)
 rotate_left 1
 refine az ?_
 rintro (x2|_) h3
 focus
  dsimp only
  have g2:=cH _ _ (sl_clC_0 C k_clCReply p0 p0.fClients (p0.fClients.length:Int)) h3
  try simp only [hd_clC_0,ou_clC_0] at g2
 rotate_left 1
 dsimp only
 have g3:=cH _ _ (sl_clC_0 C k_clCReply p0 p0.fClients (p0.fClients.length:Int)) h3
 try simp only [hd_clC_0,ou_clC_0] at g3
 all_goals (rintro⟨⟩;rw [bk];show cC _ _ _ (aH _ _ _ _ (Code.seq _ _) _)=_;simp (maxSteps:=4000000) only [*,res33,n33a,n33A,n33k,n33K,n33ro,n33mv,↓RP,RB,enter,be,bf,aJ,Mx.bl,opnd,Mx.bI,Nat.reduceBEq,bQ,Mx.fit,bP,co,toVs,cellsOf,toV,aN,aA,ay,Mx.put,ofConst,ofCell,Mx.prune,killB,aK,putDst,aw,aE,loadAt,bT,List.map,cu,aC,bu,bx,cA,bS,bJ,aM,lowC,ax,av,atO,↓ao,↓am,ty26,ty28,ty29,↓aa _ _ _ _ 0,↓bg _ _ _ _ 1,↓aa _ _ _ _ 2,↓aa _ _ _ _ 3,↓aa _ _ _ _ 11])
end Go.Proofs.Ytgcglmoogaldbaa
