/- The code of these functions, run by the machine Mx, gives what the plain functions say, if their callees do (part 1). -/
import Derived.Test.YtgcglmoogaldbaaWTy
import Derived.Test.YtgcglmoogaldbaaWireDecodesD
set_option linter.unusedSimpArgs false
set_option linter.unusedVariables false
set_option linter.constructorNameAsVariable false
set_option linter.unnecessarySimpa false
set_option maxRecDepth 100000
set_option maxHeartbeats 40000000
namespace Go.Proofs.Ytgcglmoogaldbaa
open Go Go.Mx Go.Proofs
def n8K:List (Nat×List Nat):=[(0,[0]),(1,[2,4])]
def n8:cL where
 keep:=ax n8K
 ro:=fun _=>false
 mv:=fun _=>false
 give:=fun _=>false
 free:=fun _=>[]
theorem n8k (i:Nat):n8.keep i=ax n8K i:=rfl
theorem res8:Try.f8.results.toList= [.tmp 2]:=rfl
noncomputable def b8:Code:=aU Try.f8
theorem r_rloctets_z (C:aj)  (p0:List Int) (r:(List Int)) (hF:rloctets_z p0=some r): ∃d S,cR TT C.wide (evW TT C.wide n8 b8) n8 Try.f8.results.toList (aU Try.f8) [.v (.sl 1 (ah cE p0))] []=some (d,S)∧bD d=true∧(frz d,S)=(.v (.sl 1 (ah cE r)),[]):=by
 revert hF
 unfold rloctets_z
 refine aX (fun h1=>?_) (fun _=>nofun)
 intro hF
 have hR:=Option.some.inj hF
 clear hF
 subst hR
 refine⟨.own 1 (ah cE p0),[],?_,rfl,by first|rfl|(simp only [*];done)|(simp only [*];rfl)⟩
 all_goals (rw [bk];show cC _ _ _ (aH _ _ _ _ (Code.seq _ _) _)=_;simp (maxSteps:=4000000) only [*,res8,n8k,n8K,↓RP,RB,enter,be,bf,aJ,Mx.bl,opnd,Mx.bI,Nat.reduceBEq,bQ,Mx.fit,co,aN,aA,Mx.put,ofConst,ofCell,Mx.prune,killB,aK,putDst,aw,List.map,aO,aC,bu,bx,cA,bS,aM,lowC,kill,ax,bne,↓ao,↓aa,aF,ty5,ty22])
def n23K:List (Nat×List Nat):=[(0,[0]),(1,[0,4]),(2,[2,7]),(3,[2,7])]
def n23A:List (Nat×List Nat×List Nat):=[(4,[],[0])]
def n23:cL where
 keep:=ax n23K
 ro:=fun _=>false
 mv:=fun _=>false
 give:=fun _=>false
 free:=fun _=>[]
 alive:=av n23A
theorem n23k (i:Nat):n23.keep i=ax n23K i:=rfl
set_option maxRecDepth 100000 in
theorem q0_sKbyte_byte_z (C:aj) (l:List (List V)) (h:dh l.length 1=true):dH TT C n23 (aU Try.f23) ⟨enter 0 [.v (.sl 1 l)],[]⟩ (Back TT 0 Try.f23.results.toList (.own 1 l) []):=by
 cases l with
 |nil=>
  simp only [List.length_nil] at h
  simp only [h,Try.f23,n23k,n23K,aU,Option.getD_some,↓cond_true,↓cond_false,enter,List.toList_toArray,cond_false,aQ,be,cond_true,bf,aJ,Mx.bl,opnd,Mx.bI,Nat.reduceBEq,bQ,Mx.fit,co,List.isEmpty_nil,Bool.false_or,Bool.or_false,Bool.true_or,Bool.or_true,Bool.and_true,Bool.true_and,Bool.not_true,Bool.not_false,Bool.and_self,gS,spend_m,aN,aA,Mx.put,ofConst,ofCell,Mx.prune,List.map_cons,killB,aK,putDst,hJ,aw,ar,List.length_cons,List.length_nil,List.map,List.take_zero,Nat.reduceMul,Nat.zero_add,Nat.add_zero,cz,aO,eq_self,reduceCtorEq,aC,bu,bx,cA,bS,bJ,aM,lowC,List.take_zero,List.length_nil,kill,spendLoc,spendOk,bO,frz,cq,bG,takeParts,bv,aR,List.append_nil,Nat.reduceBNe,Nat.reduceLeDiff,decide_true,beq_self_eq_true,bq,gG,ie,ax,ty5,ty22,dH,AllOps,nilOuts,Back,List.mem_cons,List.not_mem_nil,forall_eq_or_imp,forall_eq,exists_eq_left',Option.some.injEq,or_true,or_false,and_true,true_and]
 |cons x l=>
  simp only [List.length_cons] at h
  simp only [h,Try.f23,n23k,n23K,aU,Option.getD_some,↓cond_true,↓cond_false,enter,List.toList_toArray,Bool.false_and,cond_false,aQ,be,cond_true,bf,aJ,Mx.bl,opnd,Mx.bI,Nat.reduceBEq,bQ,Mx.fit,co,List.isEmpty_cons,List.isEmpty_nil,Bool.false_or,Bool.or_false,Bool.or_true,Bool.and_true,Bool.not_true,Bool.not_false,Bool.and_self,gS,spend_m,aN,aA,Mx.put,ofConst,ofCell,Mx.prune,List.map_cons,killB,aK,putDst,hJ,aw,ar,List.length_cons,List.length_nil,List.map,List.take_zero,Nat.reduceMul,Nat.zero_add,cz,aO,eq_self,reduceCtorEq,aC,bu,bx,cA,bS,bJ,aM,lowC,List.take_zero,List.length_nil,kill,spendLoc,spendOk,bO,frz,cq,bG,takeParts,bv,aR,List.nil_append,Nat.reduceBNe,Nat.reduceLeDiff,decide_true,beq_self_eq_true,bq,gG,ie,ax,ty5,ty22,dH,AllOps,nilOuts,Back,List.mem_cons,List.not_mem_nil,forall_eq,exists_eq_left',Option.some.injEq,or_true,or_false,true_and]
theorem q_sKbyte_byte_z (C:aj) (l r:List Int) (h:sKbyte_byte_z l=some r):dH TT C n23 (aU Try.f23) ⟨enter 0 [.v (.sl 1 (ah cE l))],[]⟩ (Back TT 0 Try.f23.results.toList (.own 1 (ah cE r)) []):=by
 unfold sKbyte_byte_z at h
 cases hq:dh l.length 1 with
 |false=>rw [hq] at h;cases h
 |true=>
  rw [hq,cond_true] at h
  obtain rfl:=Option.some.inj h
  exact q0_sKbyte_byte_z C _ (by rw [mapR_len];exact hq)
def n67K:List (Nat×List Nat):=[(0,[0,1]),(1,[0,1,18]),(2,[]),(3,[4,5,25,27,37]),(4,[0,1,5,25,27]),(5,[5,25,27]),(6,[4,5,25,27,37])]
def n67A:List (Nat×List Nat×List Nat):=[(18,[0],[0,1])]
def n67:cL where
 keep:=ax n67K
 ro:=fun _=>false
 mv:=fun _=>false
 give:=fun _=>false
 free:=fun _=>[]
 alive:=av n67A
theorem n67a (t:Nat) (x:Bool) (e:Env) (S:bH):cK n67 t x ⟨e,S⟩=atO (av n67A t x) e S:=cF rfl t x e S
theorem n67k (i:Nat):n67.keep i=ax n67K i:=rfl
theorem n67mv (t:Nat):n67.mv t=(false):=rfl
theorem res67:Try.f67.results.toList= [.tmp 4]:=rfl
noncomputable def b67:Code:=aU Try.f67
theorem r_wrtake (C:aj)  (p0:Int) (p1:Greader) (r:(List Int)×Greader) (hF:wrtake p0 p1=some r): ∃d S,cR TT C.wide (evW TT C.wide n67 b67) n67 Try.f67.results.toList (aU Try.f67) [.ptr 0 0,.v (.i .i64 p0)] [[.v (.sl 1 (ah cE p1.frest)),.v (.b p1.fshort)]]=some (d,S)∧bD d=true∧(frz d,S)=(.v (.sl 1 (ah cE r.1)),[[.v (.sl 1 (ah cE r.2.frest)),.v (.b r.2.fshort)]]):=by
 revert hF
 unfold wrtake
 refine aX (fun h1=>?_) (fun h1=>?_)
 focus
  intro hF
  have hR:=Option.some.inj hF
  clear hF
  subst hR
  refine⟨.own 1 [],[[.v (.sl 1 (ah cE p1.frest)),.v (.b true)]],?_,rfl,by first|rfl|(simp only [*];done)|(simp only [*];rfl)⟩
 rotate_left 1
 refine aX (fun h2=>?_) (fun h2=>?_)
 focus
  intro hF
  have hR:=Option.some.inj hF
  clear hF
  subst hR
  refine⟨.own 1 [],[[.v (.sl 1 (ah cE p1.frest)),.v (.b true)]],?_,rfl,by first|rfl|(simp only [*];done)|(simp only [*];rfl)⟩
 rotate_left 1
 refine aX (fun h3=>?_) (fun _=>nofun)
 refine aX (fun h4=>?_) (fun _=>nofun)
 intro hF
 have hR:=Option.some.inj hF
 clear hF
 subst hR
 refine⟨.v (.sl 1 (ah cE (dm p1.frest 0 p0))),[[.v (.sl 1 (ah cE (dm p1.frest p0 (p1.frest.length:Int)))),.v (.b false)]],?_,rfl,by first|rfl|(simp only [*];done)|(simp only [*];rfl)⟩
 all_goals (rw [bk];show cC _ _ _ (aH _ _ _ _ (Code.seq _ _) _)=_;simp (maxSteps:=4000000) only [*,res67,n67a,n67A,n67k,n67K,n67mv,↓RP,RB,enter,aQ,aD,be,bf,aJ,Mx.bl,opnd,Mx.bI,Nat.reduceBEq,bQ,Mx.fit,co,cellsOf,aN,aA,ay,Mx.put,ofConst,ofCell,Mx.prune,killB,aK,putDst,aw,aE,loadAt,bT,List.map,Nat.reduceAdd,cz,cB,cu,aC,bu,bx,cA,bS,bJ,aM,lowC,bound,ci,bj,bA,kill,bG,setCells,Nat.reduceLeDiff,ax,av,atO,cy,cx,↓ao,↓am,↓aa,bh,ty4,ty5,ty22,ty66])
def n24K:List (Nat×List Nat):=[(0,[0]),(1,[0,3]),(2,[3,7,8,9]),(3,[3,7,8,9,10]),(4,[3,5,7,8,9]),(5,[3,7,8,9]),(6,[3,7,8,9]),(7,[2])]
def n24A:List (Nat×List Nat×List Nat):=[(10,[3,7,8,9],[3])]
def n24:cL where
 keep:=ax n24K
 ro:=fun _=>false
 mv:=fun _=>false
 give:=fun _=>false
 free:=fun _=>[]
 alive:=av n24A
theorem n24a (t:Nat) (x:Bool) (e:Env) (S:bH):cK n24 t x ⟨e,S⟩=atO (av n24A t x) e S:=cF rfl t x e S
theorem n24k (i:Nat):n24.keep i=ax n24K i:=rfl
theorem n24mv (t:Nat):n24.mv t=(false):=rfl
theorem n24gv (t:Nat):n24.give t=(false):=rfl
theorem res24:Try.f24.results.toList= [.tmp 2]:=rfl
noncomputable def b24:Code:=aU Try.f24
noncomputable def c24_0:Code:=(bE 0 (aU Try.f24)).getD .skip
theorem fl24_0:bE 0 b24=some c24_0:=rfl
def hd_wrnumber_0 (p1:List Int) (p2:Int) (p4:Greader) (s:Int×Int):St:=⟨[(3,.v (.i .u64 s.1)),(7,.v (.sl 1 (ah cE p1))),(8,.v (.i .i64 p2)),(9,.v (.i .i64 s.2))],[[.v (.sl 1 (ah cE p4.frest)),.v (.b p4.fshort)]]⟩
def ou_wrnumber_0 (p1:List Int) (p2:Int) (p4:Greader) (r:Int):Option (Ex×St):=some (.normal,⟨[(3,.v (.i .u64 r))],[[.v (.sl 1 (ah cE p4.frest)),.v (.b p4.fshort)]]⟩)
theorem sl_wrnumber_0 (C:aj)  (p1:List Int) (p2:Int) (p4:Greader) (s:Int×Int) (o:(Int×Int)⊕Int) (hF:st_wrnumber_0 p1 p2 p4 s=some o):evW TT C.wide n24 b24 0 (hd_wrnumber_0 p1 p2 p4 s)=Sum.elim (fun s=>evW TT C.wide n24 b24 0 (hd_wrnumber_0 p1 p2 p4 s)) (fun r=>ou_wrnumber_0 p1 p2 p4 r) o:=by
 obtain⟨p0,p3⟩:=s
 rw [cG TT n24 fl24_0]
 revert hF
 unfold st_wrnumber_0
 try dsimp only
 refine bF (fun h1=>?_) (fun h1=>?_)
 rotate_left 1
 refine az fun x1 h2=>?_
 have g1:decide (0≤p3)=true:=(cp h2).1
 have g2:(ah cE p1)[(p3:Int).toNat]? =some [.i .u8 x1]:=cn _ h2
 all_goals (rintro⟨⟩;show cN _ _ _ (aH _ _ _ _ (Code.seq _ _) _)=_;simp (maxSteps:=4000000) only [*,hd_wrnumber_0,ou_wrnumber_0,n24a,n24A,n24k,n24K,n24mv,↓RP,RB,↓ai,be,bf,aJ,Mx.bl,opnd,Mx.bI,Nat.reduceBEq,bQ,Mx.fit,co,aN,aA,ay,Mx.put,ofConst,ofCell,Mx.prune,killB,aK,putDst,aw,loadAt,bT,List.map,cz,cB,bj,Int.reduceLE,ax,av,atO,cy,cx,↓ao,↓am,↓aa,ty5,ty22,ty107])
theorem r_wrnumber (C:aj) (k_wrtake:K_wrtake C) (p0:Greader) (r:Int×Greader) (hF:wrnumber p0=some r):cR TT C.wide (evW TT C.wide n24 b24) n24 Try.f24.results.toList (aU Try.f24) [.ptr 0 0] [[.v (.sl 1 (ah cE p0.frest)),.v (.b p0.fshort)]]=some (.v (.i .i64 r.1),[[.v (.sl 1 (ah cE r.2.frest)),.v (.b r.2.fshort)]]):=by
 revert hF
 unfold wrnumber
 refine az ?_
 rintro⟨x1,x2⟩ h1
 dsimp only
 have g1:C.wide 67 [.ptr 0 0,.v (.i .i64 8)] [[.v (.sl 1 (ah cE p0.frest)),.v (.b p0.fshort)]]=some (.v (.sl 1 (ah cE x1)),[[.v (.sl 1 (ah cE x2.frest)),.v (.b x2.fshort)]]):=cX [0] rfl rfl rfl rfl (k_wrtake 8 p0 _ h1) rfl rfl
 refine az ?_
 rintro x3 h2
 have g2:=cH _ _ (sl_wrnumber_0 C x1 (x1.length:Int) x2) h2
 try simp only [hd_wrnumber_0,ou_wrnumber_0] at g2
 all_goals (rintro⟨⟩;rw [bk];show cC _ _ _ (aH _ _ _ _ (Code.seq _ _) _)=_;simp (maxSteps:=4000000) only [*,res24,n24k,n24K,n24gv,↓RP,RB,enter,be,bf,aJ,Mx.bl,opnd,Mx.bI,Nat.reduceBEq,bQ,Mx.fit,co,aN,aA,Mx.put,ofConst,ofCell,Mx.prune,killB,aK,putDst,aw,ar,List.map,cz,cB,cu,aC,bu,bx,cA,bS,bJ,aM,bD,lowC,forceAll,kill,lend,lendA,aS,aB,bR,bare,bW,frz,cq,bw,argE,argsE,ax,newB,cw,cy,cx,↓ao,↓aa,ty3,ty22,ty107])
def n30K:List (Nat×List Nat):=[(0,[0]),(1,[6,7,8]),(2,[6,8,9]),(3,[4]),(4,[2]),(5,[6,7,8]),(6,[2])]
def n30A:List (Nat×List Nat×List Nat):=[(9,[6,8],[])]
def n30:cL where
 keep:=ax n30K
 ro:=fun _=>false
 mv:=fun _=>false
 give:=fun _=>false
 free:=fun _=>[]
 alive:=av n30A
theorem n30a (t:Nat) (x:Bool) (e:Env) (S:bH):cK n30 t x ⟨e,S⟩=atO (av n30A t x) e S:=cF rfl t x e S
theorem n30k (i:Nat):n30.keep i=ax n30K i:=rfl
theorem n30mv (t:Nat):n30.mv t=(false):=rfl
theorem n30gv (t:Nat):n30.give t=(false):=rfl
theorem res30:Try.f30.results.toList= [.tmp 2]:=rfl
noncomputable def b30:Code:=aU Try.f30
noncomputable def c30_0:Code:=(bE 0 (aU Try.f30)).getD .skip
theorem fl30_0:bE 0 b30=some c30_0:=rfl
def hd_wrsmall_0 (p0:List Int) (p1:Int) (p2:Greader) (s:Unit):St:=⟨[(6,.v (.sl 1 (ah cE p0))),(7,.v (.i .i64 p1)),(8,.v (.i .i64 0))],[[.v (.sl 1 (ah cE p2.frest)),.v (.b p2.fshort)]]⟩
def ou_wrsmall_0 (p0:List Int) (p1:Int) (p2:Greader) (r:Int⊕Unit):Option (Ex×St):=match r with
 | .inl r=>some (.ret,⟨[(2,.v (.i .i64 r))],[[.v (.sl 1 (ah cE p2.frest)),.v (.b p2.fshort)]]⟩)
 | .inr r=>some (.normal,⟨[],[[.v (.sl 1 (ah cE p2.frest)),.v (.b p2.fshort)]]⟩)
theorem sl_wrsmall_0 (C:aj)  (p0:List Int) (p1:Int) (p2:Greader) (s:Unit) (o:Unit⊕(Int⊕Unit)) (hF:st_wrsmall_0 p0 p1 p2 s=some o):evW TT C.wide n30 b30 0 (hd_wrsmall_0 p0 p1 p2 s)=Sum.elim (fun s=>evW TT C.wide n30 b30 0 (hd_wrsmall_0 p0 p1 p2 s)) (fun r=>ou_wrsmall_0 p0 p1 p2 r) o:=by
 rw [cG TT n30 fl30_0]
 revert hF
 unfold st_wrsmall_0
 try dsimp only
 refine bF (fun h1=>?_) (fun h1=>?_)
 rotate_left 1
 refine az fun x1 h2=>?_
 have g1:decide (0≤0)=true:=(cp h2).1
 have g2:(ah cE p0)[(0:Int).toNat]? =some [.i .u8 x1]:=cn _ h2
 all_goals (rintro⟨⟩;show cN _ _ _ (aH _ _ _ _ (Code.seq _ _) _)=_;simp (maxSteps:=4000000) only [*,hd_wrsmall_0,ou_wrsmall_0,n30a,n30A,n30k,n30K,n30mv,↓RP,RB,↓ai,be,bf,aJ,Mx.bl,opnd,Mx.bI,Nat.reduceBEq,bQ,Mx.fit,co,aN,aA,ay,Mx.put,Mx.prune,killB,aK,putDst,aw,loadAt,bT,List.map,cz,cB,bj,Int.reduceLE,ax,av,atO,cy,cx,↓ao,↓am,↓aa,ty3,ty5,ty22])
theorem r_wrsmall (C:aj) (k_wrtake:K_wrtake C) (p0:Greader) (r:Int×Greader) (hF:wrsmall p0=some r):cR TT C.wide (evW TT C.wide n30 b30) n30 Try.f30.results.toList (aU Try.f30) [.ptr 0 0] [[.v (.sl 1 (ah cE p0.frest)),.v (.b p0.fshort)]]=some (.v (.i .i64 r.1),[[.v (.sl 1 (ah cE r.2.frest)),.v (.b r.2.fshort)]]):=by
 revert hF
 unfold wrsmall
 refine az ?_
 rintro⟨x1,x2⟩ h1
 dsimp only
 have g1:C.wide 67 [.ptr 0 0,.v (.i .i64 1)] [[.v (.sl 1 (ah cE p0.frest)),.v (.b p0.fshort)]]=some (.v (.sl 1 (ah cE x1)),[[.v (.sl 1 (ah cE x2.frest)),.v (.b x2.fshort)]]):=cX [0] rfl rfl rfl rfl (k_wrtake 1 p0 _ h1) rfl rfl
 refine az ?_
 rintro (x3|_) h2
 focus
  dsimp only
  have g2:=cH _ _ (sl_wrsmall_0 C x1 (x1.length:Int) x2) h2
  try simp only [hd_wrsmall_0,ou_wrsmall_0] at g2
 rotate_left 1
 dsimp only
 have g3:=cH _ _ (sl_wrsmall_0 C x1 (x1.length:Int) x2) h2
 try simp only [hd_wrsmall_0,ou_wrsmall_0] at g3
 all_goals (rintro⟨⟩;rw [bk];show cC _ _ _ (aH _ _ _ _ (Code.seq _ _) _)=_;simp (maxSteps:=4000000) only [*,res30,n30k,n30K,n30gv,↓RP,RB,enter,be,bf,aJ,Mx.bl,opnd,Mx.bI,Nat.reduceBEq,bQ,Mx.fit,co,aN,aA,Mx.put,ofConst,ofCell,Mx.prune,killB,aK,putDst,aw,ar,List.map,cu,aC,bu,bx,cA,bS,bJ,aM,bD,lowC,forceAll,kill,lend,lendA,aS,aB,bR,bare,bW,frz,cq,bw,argE,argsE,ax,newB,cw,↓ao,↓aa,ty3,ty22])
def n27K:List (Nat×List Nat):=[(0,[0]),(1,[2])]
def n27:cL where
 keep:=ax n27K
 ro:=fun _=>false
 mv:=fun _=>false
 give:=fun _=>false
 free:=fun _=>[]
theorem n27k (i:Nat):n27.keep i=ax n27K i:=rfl
theorem n27gv (t:Nat):n27.give t=(false):=rfl
theorem res27:Try.f27.results.toList= [.tmp 2]:=rfl
noncomputable def b27:Code:=aU Try.f27
theorem r_wrtext (C:aj) (k_wrsmall:K_wrsmall C) (k_wrtake:K_wrtake C) (p0:Greader) (r:ByteArray×Greader) (hF:wrtext p0=some r):cR TT C.wide (evW TT C.wide n27 b27) n27 Try.f27.results.toList (aU Try.f27) [.ptr 0 0] [[.v (.sl 1 (ah cE p0.frest)),.v (.b p0.fshort)]]=some (.v (.s r.1),[[.v (.sl 1 (ah cE r.2.frest)),.v (.b r.2.fshort)]]):=by
 revert hF
 unfold wrtext
 refine az ?_
 rintro⟨x1,x2⟩ h1
 dsimp only
 have g1:C.wide 30 [.ptr 0 0] [[.v (.sl 1 (ah cE p0.frest)),.v (.b p0.fshort)]]=some (.v (.i .i64 x1),[[.v (.sl 1 (ah cE x2.frest)),.v (.b x2.fshort)]]):=cX [0] rfl rfl rfl rfl (k_wrsmall p0 _ h1) rfl rfl
 refine az ?_
 rintro⟨x3,x4⟩ h2
 dsimp only
 have g2:C.wide 67 [.ptr 0 0,.v (.i .i64 x1)] [[.v (.sl 1 (ah cE x2.frest)),.v (.b x2.fshort)]]=some (.v (.sl 1 (ah cE x3)),[[.v (.sl 1 (ah cE x4.frest)),.v (.b x4.fshort)]]):=cX [0] rfl rfl rfl rfl (k_wrtake x1 x2 _ h2) rfl rfl
 refine aX (fun h3=>?_) (fun _=>nofun)
 all_goals (rintro⟨⟩;rw [bk];show cC _ _ _ (aH _ _ _ _ (Code.seq _ _) _)=_;simp (maxSteps:=4000000) only [*,res27,n27k,n27K,n27gv,↓RP,RB,enter,be,bf,aJ,Mx.bl,opnd,Mx.bI,Nat.reduceBEq,bQ,Mx.fit,co,aN,aA,Mx.put,ofConst,ofCell,Mx.prune,killB,aK,putDst,aw,ar,List.map,aO,aC,bu,bx,cA,bS,bJ,aM,bD,lowC,forceAll,kill,lend,lendA,aS,aB,bR,bare,bW,frz,cq,bw,argE,argsE,ax,newB,cw,↓ao,↓aa,ty5,ty9,ty22])
def n68K:List (Nat×List Nat):=[(0,[])]
def n68:cL where
 keep:=ax n68K
 ro:=fun _=>false
 mv:=fun _=>false
 give:=fun _=>false
 free:=fun i=>match i with|0=>[(0,2),(1,2),(0,3),(1,3),(0,4),(1,4),(2,4),(3,4),(0,5),(1,5),(0,6),(1,6),(0,7),(1,7)]|_=>[]
theorem n68k (i:Nat):n68.keep i=ax n68K i:=rfl
theorem n68mv (t:Nat):n68.mv t=(false):=rfl
theorem n68gv (t:Nat):n68.give t=(false):=rfl
theorem n68f0:n68.free 0= [(0,2),(1,2),(0,3),(1,3),(0,4),(1,4),(2,4),(3,4),(0,5),(1,5),(0,6),(1,6),(0,7),(1,7)]:=rfl
theorem res68:Try.f68.results.toList= []:=rfl
noncomputable def b68:Code:=aU Try.f68
theorem r_wrvalue_fn1 (C:aj) (k_wrtext:K_wrtext C) (p0:Greader) (p1:GValue) (r:Greader×GValue) (hF:wrvalue_fn1 p0 p1=some r):cR TT C.wide (evW TT C.wide n68 b68) n68 Try.f68.results.toList (aU Try.f68) [.ptr 1 0,.ptr 2 0] [[.v (.sl 1 (ah cE p0.frest)),.v (.b p0.fshort)],[.v (.i .i64 p1.fKind),.v (.s p1.fText),.v (.i .i64 p1.fCount),.own 2 (ah GPair.row p1.fPairs),.own 1 (ah bY p1.fItems),.own 2 (ah GScore.row p1.fScores)],[.ptr 0 0]]=some (.tup [],[[.v (.sl 1 (ah cE r.1.frest)),.v (.b r.1.fshort)],[.v (.i .i64 r.2.fKind),.v (.s r.2.fText),.v (.i .i64 r.2.fCount),.own 2 (ah GPair.row r.2.fPairs),.own 1 (ah bY r.2.fItems),.own 2 (ah GScore.row r.2.fScores)],[.ptr 0 0]]):=by
 revert hF
 unfold wrvalue_fn1
 refine az ?_
 rintro⟨x1,x2⟩ h1
 dsimp only
 have g1:C.wide 27 [.ptr 0 0] [[.v (.sl 1 (ah cE p0.frest)),.v (.b p0.fshort)],[.v (.i .i64 p1.fKind),.v (.s p1.fText),.v (.i .i64 p1.fCount),.own 2 (ah GPair.row p1.fPairs),.own 1 (ah bY p1.fItems),.own 2 (ah GScore.row p1.fScores)],[.ptr 0 0]]=some (.v (.s x1),[[.v (.sl 1 (ah cE x2.frest)),.v (.b x2.fshort)],[.v (.i .i64 p1.fKind),.v (.s p1.fText),.v (.i .i64 p1.fCount),.own 2 (ah GPair.row p1.fPairs),.own 1 (ah bY p1.fItems),.own 2 (ah GScore.row p1.fScores)],[.ptr 0 0]]):=cX [0] rfl rfl rfl rfl (k_wrtext p0 _ h1) rfl rfl
 refine az ?_
 rintro⟨x3,x4⟩ h2
 dsimp only
 have g2:C.wide 27 [.ptr 0 0] [[.v (.sl 1 (ah cE x2.frest)),.v (.b x2.fshort)],[.v (.i .i64 p1.fKind),.v (.s p1.fText),.v (.i .i64 p1.fCount),.own 2 (ah GPair.row p1.fPairs),.own 1 (ah bY p1.fItems),.own 2 (ah GScore.row p1.fScores)],[.ptr 0 0]]=some (.v (.s x3),[[.v (.sl 1 (ah cE x4.frest)),.v (.b x4.fshort)],[.v (.i .i64 p1.fKind),.v (.s p1.fText),.v (.i .i64 p1.fCount),.own 2 (ah GPair.row p1.fPairs),.own 1 (ah bY p1.fItems),.own 2 (ah GScore.row p1.fScores)],[.ptr 0 0]]):=cX [0] rfl rfl rfl rfl (k_wrtext x2 _ h2) rfl rfl
 refine aX (fun h3=>?_) (fun _=>nofun)
 all_goals (rintro⟨⟩;rw [bk];show cC _ _ _ (aH _ _ _ _ (Code.region _ _ _) _)=_;simp (maxSteps:=4000000) only [*,res68,n68k,n68K,n68f0,n68mv,n68gv,↓RP,RB,enter,be,bf,aJ,Mx.bl,opnd,Mx.bI,Nat.reduceBEq,bQ,Mx.fit,bP,co,toVs,cellsOf,toV,aN,aA,ay,Mx.put,Mx.prune,killB,killBs,aK,putDst,aw,ar,aE,loadAt,bT,List.map,Nat.reduceAdd,Nat.reduceMul,aO,aC,bu,cA,bJ,aM,bD,lowC,forceAll,kill,spendLoc,spendOk,inFoot,inL,footOf,reachOf,go,seenD,seenP,List.foldl_cons,List.foldl_nil,List.filter_cons,List.filter_nil,fineE,callArgs,oddAl,awayF,lend,lendA,aS,aB,bR,bare,bW,frz,cq,bw,argE,argsE,bG,fill,setCells,takeParts,bv,aR,Nat.reduceSub,Nat.reduceLeDiff,bM,cd,au,aI,aY,cm,bL,cv,ch,bo,aL,bm,bp,bd,Op.operands,bq,ax,newB,cw,bne,↓aq,br,aF,bN,ty9,ty64,ty70,ty74,ty110,GPair.one])
def n25K:List (Nat×List Nat):=[(0,[0,1,4]),(1,[0,1,4,15]),(2,[0,1,4]),(3,[0,1,4])]
def n25A:List (Nat×List Nat×List Nat):=[(15,[0,1,4],[])]
def n25:cL where
 keep:=ax n25K
 ro:=fun _=>false
 mv:=fun _=>false
 give:=fun _=>false
 free:=fun _=>[]
 alive:=av n25A
theorem n25a (t:Nat) (x:Bool) (e:Env) (S:bH):cK n25 t x ⟨e,S⟩=atO (av n25A t x) e S:=cF rfl t x e S
theorem n25k (i:Nat):n25.keep i=ax n25K i:=rfl
theorem n25mv (t:Nat):n25.mv t=(false):=rfl
theorem n25gv (t:Nat):n25.give t=(false):=rfl
theorem res25:Try.f25.results.toList= []:=rfl
noncomputable def b25:Code:=aU Try.f25
noncomputable def c25_0:Code:=(bE 0 (aU Try.f25)).getD .skip
theorem fl25_0:bE 0 b25=some c25_0:=rfl
def hd_wreach_wrvalue_fn1_0  (s:Int×Greader×GValue):St:=⟨[(0,.ptr 0 0),(1,.clo 68 [.ptr 1 0,.ptr 2 0]),(4,.v (.i .i64 s.1))],[[.v (.sl 1 (ah cE s.2.1.frest)),.v (.b s.2.1.fshort)],[.v (.i .i64 s.2.2.fKind),.v (.s s.2.2.fText),.v (.i .i64 s.2.2.fCount),.own 2 (ah GPair.row s.2.2.fPairs),.own 1 (ah bY s.2.2.fItems),.own 2 (ah GScore.row s.2.2.fScores)],[.ptr 0 0]]⟩
def ou_wreach_wrvalue_fn1_0  (r:Greader×GValue):Option (Ex×St):=some (.normal,⟨[],[[.v (.sl 1 (ah cE r.1.frest)),.v (.b r.1.fshort)],[.v (.i .i64 r.2.fKind),.v (.s r.2.fText),.v (.i .i64 r.2.fCount),.own 2 (ah GPair.row r.2.fPairs),.own 1 (ah bY r.2.fItems),.own 2 (ah GScore.row r.2.fScores)],[.ptr 0 0]]⟩)
theorem sl_wreach_wrvalue_fn1_0 (C:aj) (k_wrvalue_fn1:K_wrvalue_fn1 C)  (s:Int×Greader×GValue) (o:(Int×Greader×GValue)⊕(Greader×GValue)) (hF:st_wreach_wrvalue_fn1_0  s=some o):evW TT C.wide n25 b25 0 (hd_wreach_wrvalue_fn1_0  s)=Sum.elim (fun s=>evW TT C.wide n25 b25 0 (hd_wreach_wrvalue_fn1_0  s)) (fun r=>ou_wreach_wrvalue_fn1_0  r) o:=by
 obtain⟨p0,p1,p2⟩:=s
 rw [cG TT n25 fl25_0]
 revert hF
 unfold st_wreach_wrvalue_fn1_0
 try dsimp only
 refine bF (fun h1=>?_) (fun h1=>?_)
 rotate_left 1
 refine aX (fun h2=>?_) (fun h2=>?_)
 rotate_left 1
 refine az ?_
 rintro⟨x1,x2⟩ h3
 dsimp only
 have g1:C.wide 68 [.ptr 1 0,.ptr 2 0] [[.v (.sl 1 (ah cE p1.frest)),.v (.b false)],[.v (.i .i64 p2.fKind),.v (.s p2.fText),.v (.i .i64 p2.fCount),.own 2 (ah GPair.row p2.fPairs),.own 1 (ah bY p2.fItems),.own 2 (ah GScore.row p2.fScores)],[.ptr 0 0]]=some (.tup [],[[.v (.sl 1 (ah cE x1.frest)),.v (.b x1.fshort)],[.v (.i .i64 x2.fKind),.v (.s x2.fText),.v (.i .i64 x2.fCount),.own 2 (ah GPair.row x2.fPairs),.own 1 (ah bY x2.fItems),.own 2 (ah GScore.row x2.fScores)],[.ptr 0 0]]):=wide_eqP [1,2] [0,1,2] rfl rfl rfl rfl rfl rfl rfl rfl (k_wrvalue_fn1 (Greader.mk p1.frest false) p2 _ h3) rfl rfl
 all_goals (rintro⟨⟩;show cN _ _ _ (aH _ _ _ _ (Code.seq _ _) _)=_;simp (maxSteps:=4000000) only [*,hd_wreach_wrvalue_fn1_0,ou_wreach_wrvalue_fn1_0,n25a,n25A,n25k,n25K,n25mv,↓RP,RB,↓ab,aQ,aD,be,bf,aJ,Mx.bl,opnd,Mx.bI,Nat.reduceBEq,bQ,Mx.fit,co,aN,aA,ay,Mx.put,ofConst,ofCell,Mx.prune,killB,killBs,aK,putDst,aw,aE,loadAt,bT,List.map,Nat.reduceAdd,cz,cB,bJ,kill,argsE,ax,av,atO,cy,cx,↓ao,↓am,↓aa,bh,ty3,ty4,ty66])
theorem r_wreach_wrvalue_fn1 (C:aj) (k_wrsmall:K_wrsmall C) (k_wrvalue_fn1:K_wrvalue_fn1 C) (p0:Greader) (p1:GValue) (r:Greader×GValue) (hF:wreach_wrvalue_fn1 p0 p1=some r):cR TT C.wide (evW TT C.wide n25 b25) n25 Try.f25.results.toList (aU Try.f25) [.ptr 0 0,.clo 68 [.ptr 1 0,.ptr 2 0]] [[.v (.sl 1 (ah cE p0.frest)),.v (.b p0.fshort)],[.v (.i .i64 p1.fKind),.v (.s p1.fText),.v (.i .i64 p1.fCount),.own 2 (ah GPair.row p1.fPairs),.own 1 (ah bY p1.fItems),.own 2 (ah GScore.row p1.fScores)],[.ptr 0 0]]=some (.tup [],[[.v (.sl 1 (ah cE r.1.frest)),.v (.b r.1.fshort)],[.v (.i .i64 r.2.fKind),.v (.s r.2.fText),.v (.i .i64 r.2.fCount),.own 2 (ah GPair.row r.2.fPairs),.own 1 (ah bY r.2.fItems),.own 2 (ah GScore.row r.2.fScores)],[.ptr 0 0]]):=by
 revert hF
 unfold wreach_wrvalue_fn1
 refine az ?_
 rintro⟨x1,x2⟩ h1
 dsimp only
 have g1:C.wide 30 [.ptr 0 0] [[.v (.sl 1 (ah cE p0.frest)),.v (.b p0.fshort)],[.v (.i .i64 p1.fKind),.v (.s p1.fText),.v (.i .i64 p1.fCount),.own 2 (ah GPair.row p1.fPairs),.own 1 (ah bY p1.fItems),.own 2 (ah GScore.row p1.fScores)],[.ptr 0 0]]=some (.v (.i .i64 x1),[[.v (.sl 1 (ah cE x2.frest)),.v (.b x2.fshort)],[.v (.i .i64 p1.fKind),.v (.s p1.fText),.v (.i .i64 p1.fCount),.own 2 (ah GPair.row p1.fPairs),.own 1 (ah bY p1.fItems),.own 2 (ah GScore.row p1.fScores)],[.ptr 0 0]]):=cX [0] rfl rfl rfl rfl (k_wrsmall p0 _ h1) rfl rfl
 refine az ?_
 rintro⟨x3,x4⟩ h2
 dsimp only
 have g2:=cH _ _ (sl_wreach_wrvalue_fn1_0 C k_wrvalue_fn1) h2
 try simp only [hd_wreach_wrvalue_fn1_0,ou_wreach_wrvalue_fn1_0] at g2
 all_goals (rintro⟨⟩;rw [bk];show cC _ _ _ (aH _ _ _ _ (Code.seq _ _) _)=_;simp (maxSteps:=4000000) only [*,res25,n25k,n25K,n25gv,↓RP,RB,enter,be,bf,aJ,Mx.bl,opnd,Mx.bI,Nat.reduceBEq,bQ,Mx.fit,co,aN,aA,Mx.put,Mx.prune,killB,killBs,aK,putDst,aw,ar,List.map,Nat.reduceAdd,aC,bu,cA,bJ,aM,bD,lowC,forceAll,kill,lend,lendA,aS,aB,bR,bare,bW,frz,cq,bw,argE,argsE,bq,ax,newB,cw,↓ao,↓aa,ty3])
def n70K:List (Nat×List Nat):=[(0,[])]
def n70:cL where
 keep:=ax n70K
 ro:=fun _=>false
 mv:=fun _=>false
 give:=fun _=>false
 free:=fun i=>match i with|0=>[(0,1),(0,2),(0,3)]|_=>[]
theorem n70k (i:Nat):n70.keep i=ax n70K i:=rfl
theorem n70mv (t:Nat):n70.mv t=(false):=rfl
theorem n70gv (t:Nat):n70.give t=(false):=rfl
theorem n70f0:n70.free 0= [(0,1),(0,2),(0,3)]:=rfl
theorem res70:Try.f70.results.toList= []:=rfl
noncomputable def b70:Code:=aU Try.f70
theorem r_wrtexts_fn1 (C:aj) (k_wrtext:K_wrtext C) (p0:Greader) (p1:List ByteArray) (r:Greader×(List ByteArray)) (hF:wrtexts_fn1 p0 p1=some r):cR TT C.wide (evW TT C.wide n70 b70) n70 Try.f70.results.toList (aU Try.f70) [.ptr 1 0,.ptr 2 0] [[.v (.sl 1 (ah cE p0.frest)),.v (.b p0.fshort)],[.own 1 (ah bY p1)],[.ptr 0 0]]=some (.tup [],[[.v (.sl 1 (ah cE r.1.frest)),.v (.b r.1.fshort)],[.own 1 (ah bY r.2)],[.ptr 0 0]]):=by
 revert hF
 unfold wrtexts_fn1
 refine az ?_
 rintro⟨x1,x2⟩ h1
 dsimp only
 have g1:C.wide 27 [.ptr 0 0] [[.v (.sl 1 (ah cE p0.frest)),.v (.b p0.fshort)],[.own 1 (ah bY p1)],[.ptr 0 0]]=some (.v (.s x1),[[.v (.sl 1 (ah cE x2.frest)),.v (.b x2.fshort)],[.own 1 (ah bY p1)],[.ptr 0 0]]):=cX [0] rfl rfl rfl rfl (k_wrtext p0 _ h1) rfl rfl
 refine aX (fun h2=>?_) (fun _=>nofun)
 all_goals (rintro⟨⟩;rw [bk];show cC _ _ _ (aH _ _ _ _ (Code.region _ _ _) _)=_;simp (maxSteps:=4000000) only [*,res70,n70k,n70K,n70f0,n70mv,n70gv,↓RP,RB,enter,be,bf,aJ,Mx.bl,opnd,Mx.bI,Nat.reduceBEq,bQ,Mx.fit,co,toVs,cellsOf,toV,aN,aA,ay,Mx.put,Mx.prune,killB,aK,putDst,aw,ar,loadAt,bT,List.map,Nat.reduceAdd,Nat.reduceMul,aO,aC,bu,cA,bJ,aM,bD,lowC,forceAll,kill,spendLoc,spendOk,inFoot,inL,footOf,reachOf,go,seenD,seenP,List.foldl_cons,List.foldl_nil,List.filter_cons,List.filter_nil,fineE,callArgs,oddAl,awayF,lend,lendA,aS,aB,bR,bare,bW,frz,cq,bw,argE,argsE,bG,setCells,takeParts,bv,aR,Nat.reduceSub,Nat.reduceLeDiff,bM,cd,au,aI,aY,cm,bL,cv,ch,bo,aL,bm,bp,bd,Op.operands,bq,ax,newB,cw,bne,↓aq,br,aF,bN,ty9,ty64,ty71])
def hd_wreach_wrtexts_fn1_0  (s:Int×Greader×(List ByteArray)):St:=⟨[(0,.ptr 0 0),(1,.clo 70 [.ptr 1 0,.ptr 2 0]),(4,.v (.i .i64 s.1))],[[.v (.sl 1 (ah cE s.2.1.frest)),.v (.b s.2.1.fshort)],[.own 1 (ah bY s.2.2)],[.ptr 0 0]]⟩
def ou_wreach_wrtexts_fn1_0  (r:Greader×(List ByteArray)):Option (Ex×St):=some (.normal,⟨[],[[.v (.sl 1 (ah cE r.1.frest)),.v (.b r.1.fshort)],[.own 1 (ah bY r.2)],[.ptr 0 0]]⟩)
theorem sl_wreach_wrtexts_fn1_0 (C:aj) (k_wrtexts_fn1:K_wrtexts_fn1 C)  (s:Int×Greader×(List ByteArray)) (o:(Int×Greader×(List ByteArray))⊕(Greader×(List ByteArray))) (hF:st_wreach_wrtexts_fn1_0  s=some o):evW TT C.wide n25 b25 0 (hd_wreach_wrtexts_fn1_0  s)=Sum.elim (fun s=>evW TT C.wide n25 b25 0 (hd_wreach_wrtexts_fn1_0  s)) (fun r=>ou_wreach_wrtexts_fn1_0  r) o:=by
 obtain⟨p0,p1,p2⟩:=s
 rw [cG TT n25 fl25_0]
 revert hF
 unfold st_wreach_wrtexts_fn1_0
 try dsimp only
 refine bF (fun h1=>?_) (fun h1=>?_)
 rotate_left 1
 refine aX (fun h2=>?_) (fun h2=>?_)
 rotate_left 1
 refine az ?_
 rintro⟨x1,x2⟩ h3
 dsimp only
 have g1:C.wide 70 [.ptr 1 0,.ptr 2 0] [[.v (.sl 1 (ah cE p1.frest)),.v (.b false)],[.own 1 (ah bY p2)],[.ptr 0 0]]=some (.tup [],[[.v (.sl 1 (ah cE x1.frest)),.v (.b x1.fshort)],[.own 1 (ah bY x2)],[.ptr 0 0]]):=wide_eqP [1,2] [0,1,2] rfl rfl rfl rfl rfl rfl rfl rfl (k_wrtexts_fn1 (Greader.mk p1.frest false) p2 _ h3) rfl rfl
 all_goals (rintro⟨⟩;show cN _ _ _ (aH _ _ _ _ (Code.seq _ _) _)=_;simp (maxSteps:=4000000) only [*,hd_wreach_wrtexts_fn1_0,ou_wreach_wrtexts_fn1_0,n25a,n25A,n25k,n25K,n25mv,↓RP,RB,↓ab,aQ,aD,be,bf,aJ,Mx.bl,opnd,Mx.bI,Nat.reduceBEq,bQ,Mx.fit,co,aN,aA,ay,Mx.put,ofConst,ofCell,Mx.prune,killB,killBs,aK,putDst,aw,aE,loadAt,bT,List.map,Nat.reduceAdd,cz,cB,bJ,kill,argsE,ax,av,atO,cy,cx,↓ao,↓am,↓aa,bh,ty3,ty4,ty66])
theorem r_wreach_wrtexts_fn1 (C:aj) (k_wrsmall:K_wrsmall C) (k_wrtexts_fn1:K_wrtexts_fn1 C) (p0:Greader) (p1:List ByteArray) (r:Greader×(List ByteArray)) (hF:wreach_wrtexts_fn1 p0 p1=some r):cR TT C.wide (evW TT C.wide n25 b25) n25 Try.f25.results.toList (aU Try.f25) [.ptr 0 0,.clo 70 [.ptr 1 0,.ptr 2 0]] [[.v (.sl 1 (ah cE p0.frest)),.v (.b p0.fshort)],[.own 1 (ah bY p1)],[.ptr 0 0]]=some (.tup [],[[.v (.sl 1 (ah cE r.1.frest)),.v (.b r.1.fshort)],[.own 1 (ah bY r.2)],[.ptr 0 0]]):=by
 revert hF
 unfold wreach_wrtexts_fn1
 refine az ?_
 rintro⟨x1,x2⟩ h1
 dsimp only
 have g1:C.wide 30 [.ptr 0 0] [[.v (.sl 1 (ah cE p0.frest)),.v (.b p0.fshort)],[.own 1 (ah bY p1)],[.ptr 0 0]]=some (.v (.i .i64 x1),[[.v (.sl 1 (ah cE x2.frest)),.v (.b x2.fshort)],[.own 1 (ah bY p1)],[.ptr 0 0]]):=cX [0] rfl rfl rfl rfl (k_wrsmall p0 _ h1) rfl rfl
 refine az ?_
 rintro⟨x3,x4⟩ h2
 dsimp only
 have g2:=cH _ _ (sl_wreach_wrtexts_fn1_0 C k_wrtexts_fn1) h2
 try simp only [hd_wreach_wrtexts_fn1_0,ou_wreach_wrtexts_fn1_0] at g2
 all_goals (rintro⟨⟩;rw [bk];show cC _ _ _ (aH _ _ _ _ (Code.seq _ _) _)=_;simp (maxSteps:=4000000) only [*,res25,n25k,n25K,n25gv,↓RP,RB,enter,be,bf,aJ,Mx.bl,opnd,Mx.bI,Nat.reduceBEq,bQ,Mx.fit,co,aN,aA,Mx.put,Mx.prune,killB,killBs,aK,putDst,aw,ar,List.map,Nat.reduceAdd,aC,bu,cA,bJ,aM,bD,lowC,forceAll,kill,lend,lendA,aS,aB,bR,bare,bW,frz,cq,bw,argE,argsE,bq,ax,newB,cw,↓ao,↓aa,ty3])
def n31K:List (Nat×List Nat):=[(0,[1]),(1,[1,3]),(2,[3]),(3,[2,7])]
def n31:cL where
 keep:=ax n31K
 ro:=fun _=>false
 mv:=fun t=>t==7
 give:=fun _=>false
 free:=fun _=>[]
theorem n31k (i:Nat):n31.keep i=ax n31K i:=rfl
theorem n31ro (t:Nat):n31.ro t=(false):=rfl
theorem n31mv (t:Nat):n31.mv t=(t==7):=rfl
theorem n31gv (t:Nat):n31.give t=(false):=rfl
theorem res31:Try.f31.results.toList= [.tmp 2]:=rfl
noncomputable def b31:Code:=aU Try.f31
theorem r_wrtexts (C:aj) (k_wreach_wrtexts_fn1:K_wreach_wrtexts_fn1 C) (p0:Greader) (r:(List ByteArray)×Greader) (hF:wrtexts p0=some r):cR TT C.wide (evW TT C.wide n31 b31) n31 Try.f31.results.toList (aU Try.f31) [.ptr 0 0] [[.v (.sl 1 (ah cE p0.frest)),.v (.b p0.fshort)]]=some (.own 1 (ah bY r.1),[[.v (.sl 1 (ah cE r.2.frest)),.v (.b r.2.fshort)]]):=by
 revert hF
 unfold wrtexts
 refine az ?_
 rintro⟨x1,x2⟩ h1
 dsimp only
 have g1:C.wide 25 [.ptr 0 0,.clo 70 [.ptr 2 0,.ptr 1 0]] [[.v (.sl 1 (ah cE p0.frest)),.v (.b p0.fshort)],[.ptr 0 0],[.own 1 []]]=some (.tup [],[[.v (.sl 1 (ah cE x1.frest)),.v (.b x1.fshort)],[.ptr 0 0],[.own 1 (ah bY x2)]]):=wide_eqP [0,2,1] [0,2,1] rfl rfl rfl rfl rfl rfl rfl rfl (k_wreach_wrtexts_fn1 p0 [] _ h1) rfl rfl
 all_goals (rintro⟨⟩;rw [bk];show cC _ _ _ (aH _ _ _ _ (Code.seq _ _) _)=_;simp (maxSteps:=4000000) only [*,res31,n31k,n31K,n31ro,n31mv,n31gv,↓RP,RB,enter,be,bf,aJ,Mx.bl,opnd,Mx.bI,Nat.reduceBEq,bQ,Mx.fit,co,toVs,cellsOf,toV,aN,aA,ay,Mx.put,ofConst,ofCell,Mx.prune,killB,killBs,aK,putDst,aw,ar,loadAt,bT,List.map,Nat.reduceAdd,aC,bu,bx,cA,bS,bJ,aM,bD,lowC,forceAll,kill,lend,lendA,aS,aB,bR,bare,bW,frz,cq,bw,argE,argsE,bG,ce,setCells,ax,newB,cw,bne,↓ao,↓aa,ty64,ty71])
def n69K:List (Nat×List Nat):=[(0,[])]
def n69:cL where
 keep:=ax n69K
 ro:=fun _=>false
 mv:=fun _=>false
 give:=fun _=>false
 free:=fun i=>match i with|0=>[(0,2),(1,2),(0,3),(1,3),(0,4),(1,4),(2,4),(3,4),(0,5),(1,5),(0,6),(1,6),(0,7),(1,7)]|_=>[]
theorem n69k (i:Nat):n69.keep i=ax n69K i:=rfl
theorem n69mv (t:Nat):n69.mv t=(false):=rfl
theorem n69gv (t:Nat):n69.give t=(false):=rfl
theorem n69f0:n69.free 0= [(0,2),(1,2),(0,3),(1,3),(0,4),(1,4),(2,4),(3,4),(0,5),(1,5),(0,6),(1,6),(0,7),(1,7)]:=rfl
theorem res69:Try.f69.results.toList= []:=rfl
noncomputable def b69:Code:=aU Try.f69
theorem r_wrvalue_fn2 (C:aj) (k_wrtext:K_wrtext C) (k_wrnumber:K_wrnumber C) (p0:Greader) (p1:GValue) (r:Greader×GValue) (hF:wrvalue_fn2 p0 p1=some r):cR TT C.wide (evW TT C.wide n69 b69) n69 Try.f69.results.toList (aU Try.f69) [.ptr 1 0,.ptr 2 0] [[.v (.sl 1 (ah cE p0.frest)),.v (.b p0.fshort)],[.v (.i .i64 p1.fKind),.v (.s p1.fText),.v (.i .i64 p1.fCount),.own 2 (ah GPair.row p1.fPairs),.own 1 (ah bY p1.fItems),.own 2 (ah GScore.row p1.fScores)],[.ptr 0 0]]=some (.tup [],[[.v (.sl 1 (ah cE r.1.frest)),.v (.b r.1.fshort)],[.v (.i .i64 r.2.fKind),.v (.s r.2.fText),.v (.i .i64 r.2.fCount),.own 2 (ah GPair.row r.2.fPairs),.own 1 (ah bY r.2.fItems),.own 2 (ah GScore.row r.2.fScores)],[.ptr 0 0]]):=by
 revert hF
 unfold wrvalue_fn2
 refine az ?_
 rintro⟨x1,x2⟩ h1
 dsimp only
 have g1:C.wide 27 [.ptr 0 0] [[.v (.sl 1 (ah cE p0.frest)),.v (.b p0.fshort)],[.v (.i .i64 p1.fKind),.v (.s p1.fText),.v (.i .i64 p1.fCount),.own 2 (ah GPair.row p1.fPairs),.own 1 (ah bY p1.fItems),.own 2 (ah GScore.row p1.fScores)],[.ptr 0 0]]=some (.v (.s x1),[[.v (.sl 1 (ah cE x2.frest)),.v (.b x2.fshort)],[.v (.i .i64 p1.fKind),.v (.s p1.fText),.v (.i .i64 p1.fCount),.own 2 (ah GPair.row p1.fPairs),.own 1 (ah bY p1.fItems),.own 2 (ah GScore.row p1.fScores)],[.ptr 0 0]]):=cX [0] rfl rfl rfl rfl (k_wrtext p0 _ h1) rfl rfl
 refine az ?_
 rintro⟨x3,x4⟩ h2
 dsimp only
 have g2:C.wide 24 [.ptr 0 0] [[.v (.sl 1 (ah cE x2.frest)),.v (.b x2.fshort)],[.v (.i .i64 p1.fKind),.v (.s p1.fText),.v (.i .i64 p1.fCount),.own 2 (ah GPair.row p1.fPairs),.own 1 (ah bY p1.fItems),.own 2 (ah GScore.row p1.fScores)],[.ptr 0 0]]=some (.v (.i .i64 x3),[[.v (.sl 1 (ah cE x4.frest)),.v (.b x4.fshort)],[.v (.i .i64 p1.fKind),.v (.s p1.fText),.v (.i .i64 p1.fCount),.own 2 (ah GPair.row p1.fPairs),.own 1 (ah bY p1.fItems),.own 2 (ah GScore.row p1.fScores)],[.ptr 0 0]]):=cX [0] rfl rfl rfl rfl (k_wrnumber x2 _ h2) rfl rfl
 refine aX (fun h3=>?_) (fun _=>nofun)
 all_goals (rintro⟨⟩;rw [bk];show cC _ _ _ (aH _ _ _ _ (Code.region _ _ _) _)=_;simp (maxSteps:=4000000) only [*,res69,n69k,n69K,n69f0,n69mv,n69gv,↓RP,RB,enter,be,bf,aJ,Mx.bl,opnd,Mx.bI,Nat.reduceBEq,bQ,Mx.fit,bP,co,toVs,cellsOf,toV,aN,aA,ay,Mx.put,Mx.prune,killB,killBs,aK,putDst,aw,ar,aE,loadAt,bT,List.map,Nat.reduceAdd,Nat.reduceMul,aO,aC,bu,cA,bJ,aM,bD,lowC,forceAll,kill,spendLoc,spendOk,inFoot,inL,footOf,reachOf,go,seenD,seenP,List.foldl_cons,List.foldl_nil,List.filter_cons,List.filter_nil,fineE,callArgs,oddAl,awayF,lend,lendA,aS,aB,bR,bare,bW,frz,cq,bw,argE,argsE,bG,fill,setCells,takeParts,bv,aR,Nat.reduceSub,Nat.reduceLeDiff,bM,cd,au,aI,aY,cm,bL,cv,ch,bo,aL,bm,bp,bd,Op.operands,bq,ax,newB,cw,bne,↓aq,br,aF,bN,ty3,ty9,ty64,ty72,ty74,ty112,GScore.one])
def hd_wreach_wrvalue_fn2_0  (s:Int×Greader×GValue):St:=⟨[(0,.ptr 0 0),(1,.clo 69 [.ptr 1 0,.ptr 2 0]),(4,.v (.i .i64 s.1))],[[.v (.sl 1 (ah cE s.2.1.frest)),.v (.b s.2.1.fshort)],[.v (.i .i64 s.2.2.fKind),.v (.s s.2.2.fText),.v (.i .i64 s.2.2.fCount),.own 2 (ah GPair.row s.2.2.fPairs),.own 1 (ah bY s.2.2.fItems),.own 2 (ah GScore.row s.2.2.fScores)],[.ptr 0 0]]⟩
def ou_wreach_wrvalue_fn2_0  (r:Greader×GValue):Option (Ex×St):=some (.normal,⟨[],[[.v (.sl 1 (ah cE r.1.frest)),.v (.b r.1.fshort)],[.v (.i .i64 r.2.fKind),.v (.s r.2.fText),.v (.i .i64 r.2.fCount),.own 2 (ah GPair.row r.2.fPairs),.own 1 (ah bY r.2.fItems),.own 2 (ah GScore.row r.2.fScores)],[.ptr 0 0]]⟩)
theorem sl_wreach_wrvalue_fn2_0 (C:aj) (k_wrvalue_fn2:K_wrvalue_fn2 C)  (s:Int×Greader×GValue) (o:(Int×Greader×GValue)⊕(Greader×GValue)) (hF:st_wreach_wrvalue_fn2_0  s=some o):evW TT C.wide n25 b25 0 (hd_wreach_wrvalue_fn2_0  s)=Sum.elim (fun s=>evW TT C.wide n25 b25 0 (hd_wreach_wrvalue_fn2_0  s)) (fun r=>ou_wreach_wrvalue_fn2_0  r) o:=by
 obtain⟨p0,p1,p2⟩:=s
 rw [cG TT n25 fl25_0]
 revert hF
 unfold st_wreach_wrvalue_fn2_0
 try dsimp only
 refine bF (fun h1=>?_) (fun h1=>?_)
 rotate_left 1
 refine aX (fun h2=>?_) (fun h2=>?_)
 rotate_left 1
 refine az ?_
 rintro⟨x1,x2⟩ h3
 dsimp only
 have g1:C.wide 69 [.ptr 1 0,.ptr 2 0] [[.v (.sl 1 (ah cE p1.frest)),.v (.b false)],[.v (.i .i64 p2.fKind),.v (.s p2.fText),.v (.i .i64 p2.fCount),.own 2 (ah GPair.row p2.fPairs),.own 1 (ah bY p2.fItems),.own 2 (ah GScore.row p2.fScores)],[.ptr 0 0]]=some (.tup [],[[.v (.sl 1 (ah cE x1.frest)),.v (.b x1.fshort)],[.v (.i .i64 x2.fKind),.v (.s x2.fText),.v (.i .i64 x2.fCount),.own 2 (ah GPair.row x2.fPairs),.own 1 (ah bY x2.fItems),.own 2 (ah GScore.row x2.fScores)],[.ptr 0 0]]):=wide_eqP [1,2] [0,1,2] rfl rfl rfl rfl rfl rfl rfl rfl (k_wrvalue_fn2 (Greader.mk p1.frest false) p2 _ h3) rfl rfl
 all_goals (rintro⟨⟩;show cN _ _ _ (aH _ _ _ _ (Code.seq _ _) _)=_;simp (maxSteps:=4000000) only [*,hd_wreach_wrvalue_fn2_0,ou_wreach_wrvalue_fn2_0,n25a,n25A,n25k,n25K,n25mv,↓RP,RB,↓ab,aQ,aD,be,bf,aJ,Mx.bl,opnd,Mx.bI,Nat.reduceBEq,bQ,Mx.fit,co,aN,aA,ay,Mx.put,ofConst,ofCell,Mx.prune,killB,killBs,aK,putDst,aw,aE,loadAt,bT,List.map,Nat.reduceAdd,cz,cB,bJ,kill,argsE,ax,av,atO,cy,cx,↓ao,↓am,↓aa,bh,ty3,ty4,ty66])
theorem r_wreach_wrvalue_fn2 (C:aj) (k_wrsmall:K_wrsmall C) (k_wrvalue_fn2:K_wrvalue_fn2 C) (p0:Greader) (p1:GValue) (r:Greader×GValue) (hF:wreach_wrvalue_fn2 p0 p1=some r):cR TT C.wide (evW TT C.wide n25 b25) n25 Try.f25.results.toList (aU Try.f25) [.ptr 0 0,.clo 69 [.ptr 1 0,.ptr 2 0]] [[.v (.sl 1 (ah cE p0.frest)),.v (.b p0.fshort)],[.v (.i .i64 p1.fKind),.v (.s p1.fText),.v (.i .i64 p1.fCount),.own 2 (ah GPair.row p1.fPairs),.own 1 (ah bY p1.fItems),.own 2 (ah GScore.row p1.fScores)],[.ptr 0 0]]=some (.tup [],[[.v (.sl 1 (ah cE r.1.frest)),.v (.b r.1.fshort)],[.v (.i .i64 r.2.fKind),.v (.s r.2.fText),.v (.i .i64 r.2.fCount),.own 2 (ah GPair.row r.2.fPairs),.own 1 (ah bY r.2.fItems),.own 2 (ah GScore.row r.2.fScores)],[.ptr 0 0]]):=by
 revert hF
 unfold wreach_wrvalue_fn2
 refine az ?_
 rintro⟨x1,x2⟩ h1
 dsimp only
 have g1:C.wide 30 [.ptr 0 0] [[.v (.sl 1 (ah cE p0.frest)),.v (.b p0.fshort)],[.v (.i .i64 p1.fKind),.v (.s p1.fText),.v (.i .i64 p1.fCount),.own 2 (ah GPair.row p1.fPairs),.own 1 (ah bY p1.fItems),.own 2 (ah GScore.row p1.fScores)],[.ptr 0 0]]=some (.v (.i .i64 x1),[[.v (.sl 1 (ah cE x2.frest)),.v (.b x2.fshort)],[.v (.i .i64 p1.fKind),.v (.s p1.fText),.v (.i .i64 p1.fCount),.own 2 (ah GPair.row p1.fPairs),.own 1 (ah bY p1.fItems),.own 2 (ah GScore.row p1.fScores)],[.ptr 0 0]]):=cX [0] rfl rfl rfl rfl (k_wrsmall p0 _ h1) rfl rfl
 refine az ?_
 rintro⟨x3,x4⟩ h2
 dsimp only
 have g2:=cH _ _ (sl_wreach_wrvalue_fn2_0 C k_wrvalue_fn2) h2
 try simp only [hd_wreach_wrvalue_fn2_0,ou_wreach_wrvalue_fn2_0] at g2
 all_goals (rintro⟨⟩;rw [bk];show cC _ _ _ (aH _ _ _ _ (Code.seq _ _) _)=_;simp (maxSteps:=4000000) only [*,res25,n25k,n25K,n25gv,↓RP,RB,enter,be,bf,aJ,Mx.bl,opnd,Mx.bI,Nat.reduceBEq,bQ,Mx.fit,co,aN,aA,Mx.put,Mx.prune,killB,killBs,aK,putDst,aw,ar,List.map,Nat.reduceAdd,aC,bu,cA,bJ,aM,bD,lowC,forceAll,kill,lend,lendA,aS,aB,bR,bare,bW,frz,cq,bw,argE,argsE,bq,ax,newB,cw,↓ao,↓aa,ty3])
def n28K:List (Nat×List Nat):=[(0,[1,2]),(1,[1,2,3]),(2,[1,2,3]),(3,[1,2,3]),(4,[2,3]),(5,[2])]
def n28:cL where
 keep:=ax n28K
 ro:=fun _=>false
 mv:=fun t=>t==20
 give:=fun _=>false
 free:=fun i=>match i with|1=>[(0,2),(1,2),(0,4),(1,4),(2,4),(3,4),(0,7),(1,7),(2,7),(3,7),(4,7),(5,7),(6,7)]|_=>[]
theorem n28k (i:Nat):n28.keep i=ax n28K i:=rfl
theorem n28ro (t:Nat):n28.ro t=(false):=rfl
theorem n28mv (t:Nat):n28.mv t=(t==20):=rfl
theorem n28gv (t:Nat):n28.give t=(false):=rfl
theorem n28f1:n28.free 1= [(0,2),(1,2),(0,4),(1,4),(2,4),(3,4),(0,7),(1,7),(2,7),(3,7),(4,7),(5,7),(6,7)]:=rfl
theorem res28:Try.f28.results.toList= [.cell 2 74]:=rfl
noncomputable def b28:Code:=aU Try.f28
theorem r_wrvalue (C:aj) (k_wrsmall:K_wrsmall C) (k_wrtext:K_wrtext C) (k_wrnumber:K_wrnumber C) (k_wreach_wrvalue_fn1:K_wreach_wrvalue_fn1 C) (k_wrtexts:K_wrtexts C) (k_wreach_wrvalue_fn2:K_wreach_wrvalue_fn2 C) (p0:Greader) (r:GValue×Greader) (hF:wrvalue p0=some r):cR TT C.wide (evW TT C.wide n28 b28) n28 Try.f28.results.toList (aU Try.f28) [.ptr 0 0] [[.v (.sl 1 (ah cE p0.frest)),.v (.b p0.fshort)]]=some (.agg [.v (.i .i64 r.1.fKind),.v (.s r.1.fText),.v (.i .i64 r.1.fCount),.own 2 (ah GPair.row r.1.fPairs),.own 1 (ah bY r.1.fItems),.own 2 (ah GScore.row r.1.fScores)],[[.v (.sl 1 (ah cE r.2.frest)),.v (.b r.2.fshort)]]):=by
 revert hF
 unfold wrvalue
 refine az ?_
 rintro⟨x1,x2⟩ h1
 dsimp only
 have g1:C.wide 30 [.ptr 0 0] [[.v (.sl 1 (ah cE p0.frest)),.v (.b p0.fshort)],[.ptr 0 0],[.v (.i .i64 0),.v (.s ByteArray.empty),.v (.i .i64 0),.own 2 [],.own 1 [],.own 2 []]]=some (.v (.i .i64 x1),[[.v (.sl 1 (ah cE x2.frest)),.v (.b x2.fshort)],[.ptr 0 0],[.v (.i .i64 0),.v (.s ByteArray.empty),.v (.i .i64 0),.own 2 [],.own 1 [],.own 2 []]]):=cX [0] rfl rfl rfl rfl (k_wrsmall p0 _ h1) rfl rfl
 refine az ?_
 rintro⟨x3,x4⟩ h2
 dsimp only
 have g2:C.wide 27 [.ptr 0 0] [[.v (.sl 1 (ah cE x2.frest)),.v (.b x2.fshort)],[.ptr 0 0],[.v (.i .i64 0),.v (.s ByteArray.empty),.v (.i .i64 0),.own 2 [],.own 1 [],.own 2 []]]=some (.v (.s x3),[[.v (.sl 1 (ah cE x4.frest)),.v (.b x4.fshort)],[.ptr 0 0],[.v (.i .i64 0),.v (.s ByteArray.empty),.v (.i .i64 0),.own 2 [],.own 1 [],.own 2 []]]):=cX [0] rfl rfl rfl rfl (k_wrtext x2 _ h2) rfl rfl
 refine az ?_
 rintro⟨x5,x6⟩ h3
 dsimp only
 have g3:C.wide 24 [.ptr 0 0] [[.v (.sl 1 (ah cE x4.frest)),.v (.b x4.fshort)],[.ptr 0 0],[.v (.i .i64 0),.v (.s ByteArray.empty),.v (.i .i64 0),.own 2 [],.own 1 [],.own 2 []]]=some (.v (.i .i64 x5),[[.v (.sl 1 (ah cE x6.frest)),.v (.b x6.fshort)],[.ptr 0 0],[.v (.i .i64 0),.v (.s ByteArray.empty),.v (.i .i64 0),.own 2 [],.own 1 [],.own 2 []]]):=cX [0] rfl rfl rfl rfl (k_wrnumber x4 _ h3) rfl rfl
 refine az ?_
 rintro⟨x7,x8⟩ h4
 dsimp only
 have g4:C.wide 25 [.ptr 0 0,.clo 68 [.ptr 3 0,.ptr 1 0]] [[.v (.sl 1 (ah cE x6.frest)),.v (.b x6.fshort)],[.ptr 0 0],[.v (.i .i64 0),.v (.s ByteArray.empty),.v (.i .i64 0),.own 2 [],.own 1 [],.own 2 []],[.v (.i .i64 x1),.v (.s x3),.v (.i .i64 x5),.own 2 [],.own 1 [],.own 2 []]]=some (.tup [],[[.v (.sl 1 (ah cE x7.frest)),.v (.b x7.fshort)],[.ptr 0 0],[.v (.i .i64 0),.v (.s ByteArray.empty),.v (.i .i64 0),.own 2 [],.own 1 [],.own 2 []],[.v (.i .i64 x8.fKind),.v (.s x8.fText),.v (.i .i64 x8.fCount),.own 2 (ah GPair.row x8.fPairs),.own 1 (ah bY x8.fItems),.own 2 (ah GScore.row x8.fScores)]]):=wide_eqP [0,3,1] [0,3,1] rfl rfl rfl rfl rfl rfl rfl rfl (k_wreach_wrvalue_fn1 x6 (GValue.mk x1 x3 x5 [] [] []) _ h4) rfl rfl
 refine az ?_
 rintro⟨x9,x10⟩ h5
 dsimp only
 have g5:C.wide 31 [.ptr 0 0] [[.v (.sl 1 (ah cE x7.frest)),.v (.b x7.fshort)],[.ptr 0 0],[.v (.i .i64 0),.v (.s ByteArray.empty),.v (.i .i64 0),.own 2 [],.own 1 [],.own 2 []],[.v (.i .i64 x8.fKind),.v (.s x8.fText),.v (.i .i64 x8.fCount),.own 2 (ah GPair.row x8.fPairs),.own 1 (ah bY x8.fItems),.own 2 (ah GScore.row x8.fScores)]]=some (.own 1 (ah bY x9),[[.v (.sl 1 (ah cE x10.frest)),.v (.b x10.fshort)],[.ptr 0 0],[.v (.i .i64 0),.v (.s ByteArray.empty),.v (.i .i64 0),.own 2 [],.own 1 [],.own 2 []],[.v (.i .i64 x8.fKind),.v (.s x8.fText),.v (.i .i64 x8.fCount),.own 2 (ah GPair.row x8.fPairs),.own 1 (ah bY x8.fItems),.own 2 (ah GScore.row x8.fScores)]]):=cX [0] rfl rfl rfl rfl (k_wrtexts x7 _ h5) rfl rfl
 refine az ?_
 rintro⟨x11,x12⟩ h6
 dsimp only
 have g6:C.wide 25 [.ptr 0 0,.clo 69 [.ptr 3 0,.ptr 1 0]] [[.v (.sl 1 (ah cE x10.frest)),.v (.b x10.fshort)],[.ptr 0 0],[.v (.i .i64 0),.v (.s ByteArray.empty),.v (.i .i64 0),.own 2 [],.own 1 [],.own 2 []],[.v (.i .i64 x8.fKind),.v (.s x8.fText),.v (.i .i64 x8.fCount),.own 2 (ah GPair.row x8.fPairs),.own 1 (ah bY x9),.own 2 (ah GScore.row x8.fScores)]]=some (.tup [],[[.v (.sl 1 (ah cE x11.frest)),.v (.b x11.fshort)],[.ptr 0 0],[.v (.i .i64 0),.v (.s ByteArray.empty),.v (.i .i64 0),.own 2 [],.own 1 [],.own 2 []],[.v (.i .i64 x12.fKind),.v (.s x12.fText),.v (.i .i64 x12.fCount),.own 2 (ah GPair.row x12.fPairs),.own 1 (ah bY x12.fItems),.own 2 (ah GScore.row x12.fScores)]]):=wide_eqP [0,3,1] [0,3,1] rfl rfl rfl rfl rfl rfl rfl rfl (k_wreach_wrvalue_fn2 x10 (GValue.mk x8.fKind x8.fText x8.fCount x8.fPairs x9 x8.fScores) _ h6) rfl rfl
 all_goals (rintro⟨⟩;rw [bk];show cC _ _ _ (aH _ _ _ _ (Code.seq _ _) _)=_;simp (maxSteps:=4000000) only [*,res28,n28k,n28K,n28f1,n28ro,n28mv,n28gv,↓RP,RB,enter,be,bf,aJ,Mx.bl,opnd,Mx.bI,Nat.reduceBEq,bQ,Mx.fit,bP,co,toVs,cellsOf,toV,aN,aA,ay,Mx.put,Mx.prune,killB,killBs,aK,putDst,aw,ar,aE,loadAt,bT,List.map,Nat.reduceAdd,aC,bu,bx,cA,bS,bJ,aM,bD,lowC,forceAll,kill,footOf,reachOf,go,seenD,seenP,List.foldl_cons,List.foldl_nil,List.filter_cons,List.filter_nil,fineE,callArgs,oddAl,awayF,lend,lendA,aS,aB,bR,bare,bW,frz,cq,bw,argE,argsE,bG,ce,fill,setCells,takeParts,Nat.reduceSub,Nat.reduceLT,Nat.reduceLeDiff,bM,cd,au,aI,aY,cm,bL,cv,ch,bo,aL,bm,bp,bd,cr,Op.operands,ax,newB,cw,bne,↓ao,↓aa,↓aq,br,bN,ty3,ty9,ty64,ty70,ty71,ty72,ty74])
def n26K:List (Nat×List Nat):=[(0,[])]
def n26:cL where
 keep:=ax n26K
 ro:=fun _=>false
 mv:=fun _=>false
 give:=fun _=>false
 free:=fun i=>match i with|0=>[(0,3),(1,3),(2,3),(0,4),(1,4),(2,4),(0,5),(1,5),(2,5),(3,5),(4,5),(0,6),(1,6),(2,6),(0,7),(1,7),(2,7),(3,7),(4,7),(5,7),(6,7),(0,8),(1,8),(2,8),(0,9),(1,9),(2,9),(0,10),(1,10),(2,10)]|_=>[]
theorem n26k (i:Nat):n26.keep i=ax n26K i:=rfl
theorem n26mv (t:Nat):n26.mv t=(false):=rfl
theorem n26gv (t:Nat):n26.give t=(false):=rfl
theorem n26f0:n26.free 0= [(0,3),(1,3),(2,3),(0,4),(1,4),(2,4),(0,5),(1,5),(2,5),(3,5),(4,5),(0,6),(1,6),(2,6),(0,7),(1,7),(2,7),(3,7),(4,7),(5,7),(6,7),(0,8),(1,8),(2,8),(0,9),(1,9),(2,9),(0,10),(1,10),(2,10)]:=rfl
theorem res26:Try.f26.results.toList= []:=rfl
noncomputable def b26:Code:=aU Try.f26
theorem r_wire_Decode_fn1 (C:aj) (k_wrtext:K_wrtext C) (k_wrvalue:K_wrvalue C) (k_wrnumber:K_wrnumber C) (p0:Greader) (p1:GMachine) (r:Greader×GMachine) (hF:wire_Decode_fn1 p0 p1=some r):cR TT C.wide (evW TT C.wide n26 b26) n26 Try.f26.results.toList (aU Try.f26) [.ptr 1 0,.ptr 2 0] [[.v (.sl 1 (ah cE p0.frest)),.v (.b p0.fshort)],[.v (.i .i64 p1.fStore.fNow),.own 8 (ah GEntry.row p1.fStore.fEntries),.v (.i .i64 p1.fNext),.own 7 (ah GClient.row p1.fClients)],[.ptr 0 0]]=some (.tup [],[[.v (.sl 1 (ah cE r.1.frest)),.v (.b r.1.fshort)],[.v (.i .i64 r.2.fStore.fNow),.own 8 (ah GEntry.row r.2.fStore.fEntries),.v (.i .i64 r.2.fNext),.own 7 (ah GClient.row r.2.fClients)],[.ptr 0 0]]):=by
 revert hF
 unfold wire_Decode_fn1
 refine az ?_
 rintro⟨x1,x2⟩ h1
 dsimp only
 have g1:C.wide 27 [.ptr 0 0] [[.v (.sl 1 (ah cE p0.frest)),.v (.b p0.fshort)],[.v (.i .i64 p1.fStore.fNow),.own 8 (ah GEntry.row p1.fStore.fEntries),.v (.i .i64 p1.fNext),.own 7 (ah GClient.row p1.fClients)],[.ptr 0 0]]=some (.v (.s x1),[[.v (.sl 1 (ah cE x2.frest)),.v (.b x2.fshort)],[.v (.i .i64 p1.fStore.fNow),.own 8 (ah GEntry.row p1.fStore.fEntries),.v (.i .i64 p1.fNext),.own 7 (ah GClient.row p1.fClients)],[.ptr 0 0]]):=cX [0] rfl rfl rfl rfl (k_wrtext p0 _ h1) rfl rfl
 refine az ?_
 rintro⟨x3,x4⟩ h2
 dsimp only
 have g2:C.wide 28 [.ptr 0 0] [[.v (.sl 1 (ah cE x2.frest)),.v (.b x2.fshort)],[.v (.i .i64 p1.fStore.fNow),.own 8 (ah GEntry.row p1.fStore.fEntries),.v (.i .i64 p1.fNext),.own 7 (ah GClient.row p1.fClients)],[.ptr 0 0]]=some (.agg [.v (.i .i64 x3.fKind),.v (.s x3.fText),.v (.i .i64 x3.fCount),.own 2 (ah GPair.row x3.fPairs),.own 1 (ah bY x3.fItems),.own 2 (ah GScore.row x3.fScores)],[[.v (.sl 1 (ah cE x4.frest)),.v (.b x4.fshort)],[.v (.i .i64 p1.fStore.fNow),.own 8 (ah GEntry.row p1.fStore.fEntries),.v (.i .i64 p1.fNext),.own 7 (ah GClient.row p1.fClients)],[.ptr 0 0]]):=cX [0] rfl rfl rfl rfl (k_wrvalue x2 _ h2) rfl rfl
 refine az ?_
 rintro⟨x5,x6⟩ h3
 dsimp only
 have g3:C.wide 24 [.ptr 0 0] [[.v (.sl 1 (ah cE x4.frest)),.v (.b x4.fshort)],[.v (.i .i64 p1.fStore.fNow),.own 8 (ah GEntry.row p1.fStore.fEntries),.v (.i .i64 p1.fNext),.own 7 (ah GClient.row p1.fClients)],[.ptr 0 0]]=some (.v (.i .i64 x5),[[.v (.sl 1 (ah cE x6.frest)),.v (.b x6.fshort)],[.v (.i .i64 p1.fStore.fNow),.own 8 (ah GEntry.row p1.fStore.fEntries),.v (.i .i64 p1.fNext),.own 7 (ah GClient.row p1.fClients)],[.ptr 0 0]]):=cX [0] rfl rfl rfl rfl (k_wrnumber x4 _ h3) rfl rfl
 refine aX (fun h4=>?_) (fun _=>nofun)
 all_goals (rintro⟨⟩;rw [bk];show cC _ _ _ (aH _ _ _ _ (Code.region _ _ _) _)=_;simp (maxSteps:=4000000) only [*,res26,n26k,n26K,n26f0,n26mv,n26gv,↓RP,RB,enter,be,bf,aJ,Mx.bl,opnd,Mx.bI,Nat.reduceBEq,bQ,Mx.fit,bP,co,toVs,cellsOf,toV,aN,aA,ay,Mx.put,Mx.prune,killB,killBs,aK,putDst,aw,ar,aE,loadAt,bT,List.map,Nat.reduceAdd,Nat.reduceMul,aO,aC,bu,cA,bJ,aM,bD,lowC,forceAll,kill,spendLoc,spendOk,bO,inFoot,inL,footOf,reachOf,go,seenD,seenP,List.foldl_cons,List.foldl_nil,List.filter_cons,List.filter_nil,fineE,callArgs,oddAl,awayF,lend,lendA,aS,aB,bR,bare,bW,frz,cq,bw,argE,argsE,bG,fill,setCells,takeParts,bv,aR,Nat.reduceSub,Nat.reduceLeDiff,bM,cd,au,aI,aY,cm,bL,cv,ch,bo,aL,bm,bp,bd,Op.operands,bq,ax,newB,cw,bne,↓aq,br,aF,bN,ty3,ty9,ty23,ty25,ty28,ty64,ty74,ty77,GEntry.one])
def hd_wreach_wire_Decode_fn1_0  (s:Int×Greader×GMachine):St:=⟨[(0,.ptr 0 0),(1,.clo 26 [.ptr 1 0,.ptr 2 0]),(4,.v (.i .i64 s.1))],[[.v (.sl 1 (ah cE s.2.1.frest)),.v (.b s.2.1.fshort)],[.v (.i .i64 s.2.2.fStore.fNow),.own 8 (ah GEntry.row s.2.2.fStore.fEntries),.v (.i .i64 s.2.2.fNext),.own 7 (ah GClient.row s.2.2.fClients)],[.ptr 0 0]]⟩
def ou_wreach_wire_Decode_fn1_0  (r:Greader×GMachine):Option (Ex×St):=some (.normal,⟨[],[[.v (.sl 1 (ah cE r.1.frest)),.v (.b r.1.fshort)],[.v (.i .i64 r.2.fStore.fNow),.own 8 (ah GEntry.row r.2.fStore.fEntries),.v (.i .i64 r.2.fNext),.own 7 (ah GClient.row r.2.fClients)],[.ptr 0 0]]⟩)
theorem sl_wreach_wire_Decode_fn1_0 (C:aj) (k_wire_Decode_fn1:K_wire_Decode_fn1 C)  (s:Int×Greader×GMachine) (o:(Int×Greader×GMachine)⊕(Greader×GMachine)) (hF:st_wreach_wire_Decode_fn1_0  s=some o):evW TT C.wide n25 b25 0 (hd_wreach_wire_Decode_fn1_0  s)=Sum.elim (fun s=>evW TT C.wide n25 b25 0 (hd_wreach_wire_Decode_fn1_0  s)) (fun r=>ou_wreach_wire_Decode_fn1_0  r) o:=by
 obtain⟨p0,p1,p2⟩:=s
 rw [cG TT n25 fl25_0]
 revert hF
 unfold st_wreach_wire_Decode_fn1_0
 try dsimp only
 refine bF (fun h1=>?_) (fun h1=>?_)
 rotate_left 1
 refine aX (fun h2=>?_) (fun h2=>?_)
 rotate_left 1
 refine az ?_
 rintro⟨x1,x2⟩ h3
 dsimp only
 have g1:C.wide 26 [.ptr 1 0,.ptr 2 0] [[.v (.sl 1 (ah cE p1.frest)),.v (.b false)],[.v (.i .i64 p2.fStore.fNow),.own 8 (ah GEntry.row p2.fStore.fEntries),.v (.i .i64 p2.fNext),.own 7 (ah GClient.row p2.fClients)],[.ptr 0 0]]=some (.tup [],[[.v (.sl 1 (ah cE x1.frest)),.v (.b x1.fshort)],[.v (.i .i64 x2.fStore.fNow),.own 8 (ah GEntry.row x2.fStore.fEntries),.v (.i .i64 x2.fNext),.own 7 (ah GClient.row x2.fClients)],[.ptr 0 0]]):=wide_eqP [1,2] [0,1,2] rfl rfl rfl rfl rfl rfl rfl rfl (k_wire_Decode_fn1 (Greader.mk p1.frest false) p2 _ h3) rfl rfl
 all_goals (rintro⟨⟩;show cN _ _ _ (aH _ _ _ _ (Code.seq _ _) _)=_;simp (maxSteps:=4000000) only [*,hd_wreach_wire_Decode_fn1_0,ou_wreach_wire_Decode_fn1_0,n25a,n25A,n25k,n25K,n25mv,↓RP,RB,↓ab,aQ,aD,be,bf,aJ,Mx.bl,opnd,Mx.bI,Nat.reduceBEq,bQ,Mx.fit,co,aN,aA,ay,Mx.put,ofConst,ofCell,Mx.prune,killB,killBs,aK,putDst,aw,aE,loadAt,bT,List.map,Nat.reduceAdd,cz,cB,bJ,kill,argsE,ax,av,atO,cy,cx,↓ao,↓am,↓aa,bh,ty3,ty4,ty66])
theorem r_wreach_wire_Decode_fn1 (C:aj) (k_wrsmall:K_wrsmall C) (k_wire_Decode_fn1:K_wire_Decode_fn1 C) (p0:Greader) (p1:GMachine) (r:Greader×GMachine) (hF:wreach_wire_Decode_fn1 p0 p1=some r):cR TT C.wide (evW TT C.wide n25 b25) n25 Try.f25.results.toList (aU Try.f25) [.ptr 0 0,.clo 26 [.ptr 1 0,.ptr 2 0]] [[.v (.sl 1 (ah cE p0.frest)),.v (.b p0.fshort)],[.v (.i .i64 p1.fStore.fNow),.own 8 (ah GEntry.row p1.fStore.fEntries),.v (.i .i64 p1.fNext),.own 7 (ah GClient.row p1.fClients)],[.ptr 0 0]]=some (.tup [],[[.v (.sl 1 (ah cE r.1.frest)),.v (.b r.1.fshort)],[.v (.i .i64 r.2.fStore.fNow),.own 8 (ah GEntry.row r.2.fStore.fEntries),.v (.i .i64 r.2.fNext),.own 7 (ah GClient.row r.2.fClients)],[.ptr 0 0]]):=by
 revert hF
 unfold wreach_wire_Decode_fn1
 refine az ?_
 rintro⟨x1,x2⟩ h1
 dsimp only
 have g1:C.wide 30 [.ptr 0 0] [[.v (.sl 1 (ah cE p0.frest)),.v (.b p0.fshort)],[.v (.i .i64 p1.fStore.fNow),.own 8 (ah GEntry.row p1.fStore.fEntries),.v (.i .i64 p1.fNext),.own 7 (ah GClient.row p1.fClients)],[.ptr 0 0]]=some (.v (.i .i64 x1),[[.v (.sl 1 (ah cE x2.frest)),.v (.b x2.fshort)],[.v (.i .i64 p1.fStore.fNow),.own 8 (ah GEntry.row p1.fStore.fEntries),.v (.i .i64 p1.fNext),.own 7 (ah GClient.row p1.fClients)],[.ptr 0 0]]):=cX [0] rfl rfl rfl rfl (k_wrsmall p0 _ h1) rfl rfl
 refine az ?_
 rintro⟨x3,x4⟩ h2
 dsimp only
 have g2:=cH _ _ (sl_wreach_wire_Decode_fn1_0 C k_wire_Decode_fn1) h2
 try simp only [hd_wreach_wire_Decode_fn1_0,ou_wreach_wire_Decode_fn1_0] at g2
 all_goals (rintro⟨⟩;rw [bk];show cC _ _ _ (aH _ _ _ _ (Code.seq _ _) _)=_;simp (maxSteps:=4000000) only [*,res25,n25k,n25K,n25gv,↓RP,RB,enter,be,bf,aJ,Mx.bl,opnd,Mx.bI,Nat.reduceBEq,bQ,Mx.fit,co,aN,aA,Mx.put,Mx.prune,killB,killBs,aK,putDst,aw,ar,List.map,Nat.reduceAdd,aC,bu,cA,bJ,aM,bD,lowC,forceAll,kill,lend,lendA,aS,aB,bR,bare,bW,frz,cq,bw,argE,argsE,bq,ax,newB,cw,↓ao,↓aa,ty3])
def n29K:List (Nat×List Nat):=[(0,[0,1,2]),(1,[0,1,2]),(2,[1,2]),(3,[])]
def n29:cL where
 keep:=ax n29K
 ro:=fun _=>false
 mv:=fun t=>t==24
 give:=fun _=>false
 free:=fun i=>match i with|0=>[(0,2),(1,2),(0,4),(1,4),(2,4),(3,4),(0,7),(1,7),(2,7),(3,7),(4,7),(5,7),(6,7)]|1=>[(0,2),(1,2),(0,4),(1,4),(2,4),(3,4)]|_=>[]
theorem n29k (i:Nat):n29.keep i=ax n29K i:=rfl
theorem n29mv (t:Nat):n29.mv t=(t==24):=rfl
theorem n29gv (t:Nat):n29.give t=(false):=rfl
theorem n29f0:n29.free 0= [(0,2),(1,2),(0,4),(1,4),(2,4),(3,4),(0,7),(1,7),(2,7),(3,7),(4,7),(5,7),(6,7)]:=rfl
theorem n29f1:n29.free 1= [(0,2),(1,2),(0,4),(1,4),(2,4),(3,4)]:=rfl
theorem res29:Try.f29.results.toList= []:=rfl
noncomputable def b29:Code:=aU Try.f29
theorem r_wire_Decode_fn2 (C:aj) (k_wrnumber:K_wrnumber C) (k_wrsmall:K_wrsmall C) (k_wrtext:K_wrtext C) (k_wrtexts:K_wrtexts C) (p0:Greader) (p1:GMachine) (r:Greader×GMachine) (hF:wire_Decode_fn2 p0 p1=some r):cR TT C.wide (evW TT C.wide n29 b29) n29 Try.f29.results.toList (aU Try.f29) [.ptr 1 0,.ptr 2 0] [[.v (.sl 1 (ah cE p0.frest)),.v (.b p0.fshort)],[.ptr 0 0],[.v (.i .i64 p1.fStore.fNow),.own 8 (ah GEntry.row p1.fStore.fEntries),.v (.i .i64 p1.fNext),.own 7 (ah GClient.row p1.fClients)]]=some (.tup [],[[.v (.sl 1 (ah cE r.1.frest)),.v (.b r.1.fshort)],[.ptr 0 0],[.v (.i .i64 r.2.fStore.fNow),.own 8 (ah GEntry.row r.2.fStore.fEntries),.v (.i .i64 r.2.fNext),.own 7 (ah GClient.row r.2.fClients)]]):=by
 revert hF
 unfold wire_Decode_fn2
 refine az ?_
 rintro⟨x1,x2⟩ h1
 dsimp only
 unfold wire_Decode_fn2_c0
 have g1:C.wide 24 [.ptr 0 0] [[.v (.sl 1 (ah cE p0.frest)),.v (.b p0.fshort)],[.ptr 0 0],[.v (.i .i64 p1.fStore.fNow),.own 8 (ah GEntry.row p1.fStore.fEntries),.v (.i .i64 p1.fNext),.own 7 (ah GClient.row p1.fClients)]]=some (.v (.i .i64 x1),[[.v (.sl 1 (ah cE x2.frest)),.v (.b x2.fshort)],[.ptr 0 0],[.v (.i .i64 p1.fStore.fNow),.own 8 (ah GEntry.row p1.fStore.fEntries),.v (.i .i64 p1.fNext),.own 7 (ah GClient.row p1.fClients)]]):=cX [0] rfl rfl rfl rfl (k_wrnumber p0 _ h1) rfl rfl
 refine az ?_
 rintro⟨x3,x4⟩ h2
 dsimp only
 have g2:C.wide 24 [.ptr 0 0] [[.v (.sl 1 (ah cE x2.frest)),.v (.b x2.fshort)],[.ptr 0 0],[.v (.i .i64 p1.fStore.fNow),.own 8 (ah GEntry.row p1.fStore.fEntries),.v (.i .i64 p1.fNext),.own 7 (ah GClient.row p1.fClients)]]=some (.v (.i .i64 x3),[[.v (.sl 1 (ah cE x4.frest)),.v (.b x4.fshort)],[.ptr 0 0],[.v (.i .i64 p1.fStore.fNow),.own 8 (ah GEntry.row p1.fStore.fEntries),.v (.i .i64 p1.fNext),.own 7 (ah GClient.row p1.fClients)]]):=cX [0] rfl rfl rfl rfl (k_wrnumber x2 _ h2) rfl rfl
 refine az ?_
 rintro⟨x5,x6⟩ h3
 dsimp only
 have g3:C.wide 24 [.ptr 0 0] [[.v (.sl 1 (ah cE x4.frest)),.v (.b x4.fshort)],[.ptr 0 0],[.v (.i .i64 p1.fStore.fNow),.own 8 (ah GEntry.row p1.fStore.fEntries),.v (.i .i64 p1.fNext),.own 7 (ah GClient.row p1.fClients)]]=some (.v (.i .i64 x5),[[.v (.sl 1 (ah cE x6.frest)),.v (.b x6.fshort)],[.ptr 0 0],[.v (.i .i64 p1.fStore.fNow),.own 8 (ah GEntry.row p1.fStore.fEntries),.v (.i .i64 p1.fNext),.own 7 (ah GClient.row p1.fClients)]]):=cX [0] rfl rfl rfl rfl (k_wrnumber x4 _ h3) rfl rfl
 refine az ?_
 rintro⟨x7,x8⟩ h4
 dsimp only
 have g4:C.wide 30 [.ptr 0 0] [[.v (.sl 1 (ah cE x6.frest)),.v (.b x6.fshort)],[.ptr 0 0],[.v (.i .i64 p1.fStore.fNow),.own 8 (ah GEntry.row p1.fStore.fEntries),.v (.i .i64 p1.fNext),.own 7 (ah GClient.row p1.fClients)],[.v (.i .i64 x1),.v (.i .i64 x3),.v (.i .i64 x5),.v (.i .i64 0),.v (.s ByteArray.empty),.v (.i .i64 0),.own 1 []]]=some (.v (.i .i64 x7),[[.v (.sl 1 (ah cE x8.frest)),.v (.b x8.fshort)],[.ptr 0 0],[.v (.i .i64 p1.fStore.fNow),.own 8 (ah GEntry.row p1.fStore.fEntries),.v (.i .i64 p1.fNext),.own 7 (ah GClient.row p1.fClients)],[.v (.i .i64 x1),.v (.i .i64 x3),.v (.i .i64 x5),.v (.i .i64 0),.v (.s ByteArray.empty),.v (.i .i64 0),.own 1 []]]):=cX [0] rfl rfl rfl rfl (k_wrsmall x6 _ h4) rfl rfl
 refine az ?_
 rintro⟨x9,x10⟩ h5
 dsimp only
 have g5:C.wide 27 [.ptr 0 0] [[.v (.sl 1 (ah cE x8.frest)),.v (.b x8.fshort)],[.ptr 0 0],[.v (.i .i64 p1.fStore.fNow),.own 8 (ah GEntry.row p1.fStore.fEntries),.v (.i .i64 p1.fNext),.own 7 (ah GClient.row p1.fClients)],[.v (.i .i64 x1),.v (.i .i64 x3),.v (.i .i64 x5),.v (.i .i64 0),.v (.s ByteArray.empty),.v (.i .i64 0),.own 1 []]]=some (.v (.s x9),[[.v (.sl 1 (ah cE x10.frest)),.v (.b x10.fshort)],[.ptr 0 0],[.v (.i .i64 p1.fStore.fNow),.own 8 (ah GEntry.row p1.fStore.fEntries),.v (.i .i64 p1.fNext),.own 7 (ah GClient.row p1.fClients)],[.v (.i .i64 x1),.v (.i .i64 x3),.v (.i .i64 x5),.v (.i .i64 0),.v (.s ByteArray.empty),.v (.i .i64 0),.own 1 []]]):=cX [0] rfl rfl rfl rfl (k_wrtext x8 _ h5) rfl rfl
 refine az ?_
 rintro⟨x11,x12⟩ h6
 dsimp only
 have g6:C.wide 24 [.ptr 0 0] [[.v (.sl 1 (ah cE x10.frest)),.v (.b x10.fshort)],[.ptr 0 0],[.v (.i .i64 p1.fStore.fNow),.own 8 (ah GEntry.row p1.fStore.fEntries),.v (.i .i64 p1.fNext),.own 7 (ah GClient.row p1.fClients)],[.v (.i .i64 x1),.v (.i .i64 x3),.v (.i .i64 x5),.v (.i .i64 0),.v (.s ByteArray.empty),.v (.i .i64 0),.own 1 []]]=some (.v (.i .i64 x11),[[.v (.sl 1 (ah cE x12.frest)),.v (.b x12.fshort)],[.ptr 0 0],[.v (.i .i64 p1.fStore.fNow),.own 8 (ah GEntry.row p1.fStore.fEntries),.v (.i .i64 p1.fNext),.own 7 (ah GClient.row p1.fClients)],[.v (.i .i64 x1),.v (.i .i64 x3),.v (.i .i64 x5),.v (.i .i64 0),.v (.s ByteArray.empty),.v (.i .i64 0),.own 1 []]]):=cX [0] rfl rfl rfl rfl (k_wrnumber x10 _ h6) rfl rfl
 refine az ?_
 rintro⟨x13,x14⟩ h7
 dsimp only
 have g7:C.wide 31 [.ptr 0 0] [[.v (.sl 1 (ah cE x12.frest)),.v (.b x12.fshort)],[.ptr 0 0],[.v (.i .i64 p1.fStore.fNow),.own 8 (ah GEntry.row p1.fStore.fEntries),.v (.i .i64 p1.fNext),.own 7 (ah GClient.row p1.fClients)],[.v (.i .i64 x1),.v (.i .i64 x3),.v (.i .i64 x5),.v (.i .i64 x7),.v (.s x9),.v (.i .i64 x11),.own 1 []]]=some (.own 1 (ah bY x13),[[.v (.sl 1 (ah cE x14.frest)),.v (.b x14.fshort)],[.ptr 0 0],[.v (.i .i64 p1.fStore.fNow),.own 8 (ah GEntry.row p1.fStore.fEntries),.v (.i .i64 p1.fNext),.own 7 (ah GClient.row p1.fClients)],[.v (.i .i64 x1),.v (.i .i64 x3),.v (.i .i64 x5),.v (.i .i64 x7),.v (.s x9),.v (.i .i64 x11),.own 1 []]]):=cX [0] rfl rfl rfl rfl (k_wrtexts x12 _ h7) rfl rfl
 refine aX (fun h8=>?_) (fun _=>nofun)
 all_goals (rintro⟨⟩;rw [bk];show cC _ _ _ (aH _ _ _ _ (Code.seq _ _) _)=_;simp (maxSteps:=4000000) only [*,res29,n29k,n29K,n29f0,n29f1,n29mv,n29gv,↓RP,RB,enter,be,bf,aJ,Mx.bl,opnd,Mx.bI,Nat.reduceBEq,bQ,Mx.fit,bP,co,toVs,cellsOf,toV,aN,aA,ay,Mx.put,Mx.prune,killB,killBs,aK,putDst,aw,ar,aE,loadAt,bT,List.map,Nat.reduceAdd,Nat.reduceMul,aO,aC,bu,cA,bJ,aM,bD,lowC,forceAll,kill,spendLoc,spendOk,bO,bU,footOf,reachOf,go,seenD,seenP,List.foldl_cons,List.foldl_nil,List.filter_cons,List.filter_nil,fineE,callArgs,oddAl,awayF,lend,lendA,aS,aB,bR,bare,bW,frz,cq,bw,argE,argsE,bG,ce,fill,setCells,takeParts,bv,aR,Nat.reduceSub,Nat.reduceLT,Nat.reduceLeDiff,bM,cd,au,aI,aY,cm,bL,cv,ch,bo,aL,bm,bp,bd,cr,Op.operands,bq,ax,newB,cw,bne,↓ao,↓aa,↓aq,br,aF,bN,ty3,ty9,ty26,ty28,ty29,ty64,ty71,ty79,ty81,GClient.one])
def hd_wreach_wire_Decode_fn2_0  (s:Int×Greader×GMachine):St:=⟨[(0,.ptr 0 0),(1,.clo 29 [.ptr 1 0,.ptr 2 0]),(4,.v (.i .i64 s.1))],[[.v (.sl 1 (ah cE s.2.1.frest)),.v (.b s.2.1.fshort)],[.ptr 0 0],[.v (.i .i64 s.2.2.fStore.fNow),.own 8 (ah GEntry.row s.2.2.fStore.fEntries),.v (.i .i64 s.2.2.fNext),.own 7 (ah GClient.row s.2.2.fClients)]]⟩
def ou_wreach_wire_Decode_fn2_0  (r:Greader×GMachine):Option (Ex×St):=some (.normal,⟨[],[[.v (.sl 1 (ah cE r.1.frest)),.v (.b r.1.fshort)],[.ptr 0 0],[.v (.i .i64 r.2.fStore.fNow),.own 8 (ah GEntry.row r.2.fStore.fEntries),.v (.i .i64 r.2.fNext),.own 7 (ah GClient.row r.2.fClients)]]⟩)
theorem sl_wreach_wire_Decode_fn2_0 (C:aj) (k_wire_Decode_fn2:K_wire_Decode_fn2 C)  (s:Int×Greader×GMachine) (o:(Int×Greader×GMachine)⊕(Greader×GMachine)) (hF:st_wreach_wire_Decode_fn2_0  s=some o):evW TT C.wide n25 b25 0 (hd_wreach_wire_Decode_fn2_0  s)=Sum.elim (fun s=>evW TT C.wide n25 b25 0 (hd_wreach_wire_Decode_fn2_0  s)) (fun r=>ou_wreach_wire_Decode_fn2_0  r) o:=by
 obtain⟨p0,p1,p2⟩:=s
 rw [cG TT n25 fl25_0]
 revert hF
 unfold st_wreach_wire_Decode_fn2_0
 try dsimp only
 refine bF (fun h1=>?_) (fun h1=>?_)
 rotate_left 1
 refine aX (fun h2=>?_) (fun h2=>?_)
 rotate_left 1
 refine az ?_
 rintro⟨x1,x2⟩ h3
 dsimp only
 have g1:C.wide 29 [.ptr 1 0,.ptr 2 0] [[.v (.sl 1 (ah cE p1.frest)),.v (.b false)],[.ptr 0 0],[.v (.i .i64 p2.fStore.fNow),.own 8 (ah GEntry.row p2.fStore.fEntries),.v (.i .i64 p2.fNext),.own 7 (ah GClient.row p2.fClients)]]=some (.tup [],[[.v (.sl 1 (ah cE x1.frest)),.v (.b x1.fshort)],[.ptr 0 0],[.v (.i .i64 x2.fStore.fNow),.own 8 (ah GEntry.row x2.fStore.fEntries),.v (.i .i64 x2.fNext),.own 7 (ah GClient.row x2.fClients)]]):=wide_eqP [1,2] [0,1,2] rfl rfl rfl rfl rfl rfl rfl rfl (k_wire_Decode_fn2 (Greader.mk p1.frest false) p2 _ h3) rfl rfl
 all_goals (rintro⟨⟩;show cN _ _ _ (aH _ _ _ _ (Code.seq _ _) _)=_;simp (maxSteps:=4000000) only [*,hd_wreach_wire_Decode_fn2_0,ou_wreach_wire_Decode_fn2_0,n25a,n25A,n25k,n25K,n25mv,↓RP,RB,↓ab,aQ,aD,be,bf,aJ,Mx.bl,opnd,Mx.bI,Nat.reduceBEq,bQ,Mx.fit,co,aN,aA,ay,Mx.put,ofConst,ofCell,Mx.prune,killB,killBs,aK,putDst,aw,aE,loadAt,bT,List.map,Nat.reduceAdd,cz,cB,bJ,kill,argsE,ax,av,atO,cy,cx,↓ao,↓am,↓aa,bh,ty3,ty4,ty66])
theorem r_wreach_wire_Decode_fn2 (C:aj) (k_wrsmall:K_wrsmall C) (k_wire_Decode_fn2:K_wire_Decode_fn2 C) (p0:Greader) (p1:GMachine) (r:Greader×GMachine) (hF:wreach_wire_Decode_fn2 p0 p1=some r):cR TT C.wide (evW TT C.wide n25 b25) n25 Try.f25.results.toList (aU Try.f25) [.ptr 0 0,.clo 29 [.ptr 1 0,.ptr 2 0]] [[.v (.sl 1 (ah cE p0.frest)),.v (.b p0.fshort)],[.ptr 0 0],[.v (.i .i64 p1.fStore.fNow),.own 8 (ah GEntry.row p1.fStore.fEntries),.v (.i .i64 p1.fNext),.own 7 (ah GClient.row p1.fClients)]]=some (.tup [],[[.v (.sl 1 (ah cE r.1.frest)),.v (.b r.1.fshort)],[.ptr 0 0],[.v (.i .i64 r.2.fStore.fNow),.own 8 (ah GEntry.row r.2.fStore.fEntries),.v (.i .i64 r.2.fNext),.own 7 (ah GClient.row r.2.fClients)]]):=by
 revert hF
 unfold wreach_wire_Decode_fn2
 refine az ?_
 rintro⟨x1,x2⟩ h1
 dsimp only
 have g1:C.wide 30 [.ptr 0 0] [[.v (.sl 1 (ah cE p0.frest)),.v (.b p0.fshort)],[.ptr 0 0],[.v (.i .i64 p1.fStore.fNow),.own 8 (ah GEntry.row p1.fStore.fEntries),.v (.i .i64 p1.fNext),.own 7 (ah GClient.row p1.fClients)]]=some (.v (.i .i64 x1),[[.v (.sl 1 (ah cE x2.frest)),.v (.b x2.fshort)],[.ptr 0 0],[.v (.i .i64 p1.fStore.fNow),.own 8 (ah GEntry.row p1.fStore.fEntries),.v (.i .i64 p1.fNext),.own 7 (ah GClient.row p1.fClients)]]):=cX [0] rfl rfl rfl rfl (k_wrsmall p0 _ h1) rfl rfl
 refine az ?_
 rintro⟨x3,x4⟩ h2
 dsimp only
 have g2:=cH _ _ (sl_wreach_wire_Decode_fn2_0 C k_wire_Decode_fn2) h2
 try simp only [hd_wreach_wire_Decode_fn2_0,ou_wreach_wire_Decode_fn2_0] at g2
 all_goals (rintro⟨⟩;rw [bk];show cC _ _ _ (aH _ _ _ _ (Code.seq _ _) _)=_;simp (maxSteps:=4000000) only [*,res25,n25k,n25K,n25gv,↓RP,RB,enter,be,bf,aJ,Mx.bl,opnd,Mx.bI,Nat.reduceBEq,bQ,Mx.fit,co,aN,aA,Mx.put,Mx.prune,killB,killBs,aK,putDst,aw,ar,List.map,Nat.reduceAdd,aC,bu,cA,bJ,aM,bD,lowC,forceAll,kill,lend,lendA,aS,aB,bR,bare,bW,frz,cq,bw,argE,argsE,bq,ax,newB,cw,↓ao,↓aa,ty3])
def n32K:List (Nat×List Nat):=[(0,[0,1]),(1,[0,1,5]),(2,[4]),(3,[10]),(4,[4]),(5,[4])]
def n32A:List (Nat×List Nat×List Nat):=[(5,[],[0,1]),(10,[],[])]
def n32:cL where
 keep:=ax n32K
 ro:=fun _=>false
 mv:=fun _=>false
 give:=fun _=>false
 free:=fun _=>[]
 alive:=av n32A
theorem n32a (t:Nat) (x:Bool) (e:Env) (S:bH):cK n32 t x ⟨e,S⟩=atO (av n32A t x) e S:=cF rfl t x e S
theorem n32k (i:Nat):n32.keep i=ax n32K i:=rfl
theorem n32mv (t:Nat):n32.mv t=(false):=rfl
theorem res32:Try.f32.results.toList= [.tmp 4]:=rfl
noncomputable def b32:Code:=aU Try.f32
theorem r_wrend (C:aj)  (p0:Bool) (p1:Greader) (r:Int×Greader) (hF:wrend p0 p1=some r):cR TT C.wide (evW TT C.wide n32 b32) n32 Try.f32.results.toList (aU Try.f32) [.ptr 0 0,.v (.b p0)] [[.v (.sl 1 (ah cE p1.frest)),.v (.b p1.fshort)]]=some (.v (.i .i64 r.1),[[.v (.sl 1 (ah cE r.2.frest)),.v (.b r.2.fshort)]]):=by
 revert hF
 unfold wrend
 refine aX (fun h1=>?_) (fun h1=>?_)
 rotate_left 1
 refine bF (fun h2=>?_) (fun h2=>?_)
 rotate_left 1
 refine aX (fun h3=>?_) (fun h3=>?_)
 rotate_left 1
 all_goals (rintro⟨⟩;rw [bk];show cC _ _ _ (aH _ _ _ _ (Code.seq _ _) _)=_;simp (maxSteps:=4000000) only [*,res32,n32a,n32A,n32k,n32K,n32mv,↓RP,RB,↓ai,enter,aQ,aD,be,bf,aJ,Mx.bl,opnd,Mx.bI,Nat.reduceBEq,bQ,Mx.fit,co,aN,aA,ay,Mx.put,ofConst,ofCell,Mx.prune,killB,aK,putDst,aw,aE,loadAt,bT,List.map,cz,cB,cu,aC,bu,bx,cA,bS,bJ,aM,lowC,ax,av,atO,cy,cx,↓ao,↓am,↓aa,bh,ty4,ty22,ty29,ty66])
def n114K:List (Nat×List Nat):=[(0,[1]),(1,[2])]
def n114:cL where
 keep:=ax n114K
 ro:=fun t=>t==1
 mv:=fun _=>false
 give:=fun _=>false
 free:=fun _=>[]
theorem n114k (i:Nat):n114.keep i=ax n114K i:=rfl
theorem n114ro (t:Nat):n114.ro t=(t==1):=rfl
theorem n114mv (t:Nat):n114.mv t=(false):=rfl
theorem res114:Try.f114.results.toList= [.tmp 2]:=rfl
noncomputable def b114:Code:=aU Try.f114
theorem r_value_elements (C:aj)  (p0:GValue) (r:Int) (hF:value_elements p0=some r):cR TT C.wide (evW TT C.wide n114 b114) n114 Try.f114.results.toList (aU Try.f114) [.agg [.v (.i .i64 p0.fKind),.v (.s p0.fText),.v (.i .i64 p0.fCount),.v (.sl 2 (ah GPair.row p0.fPairs)),.v (.sl 1 (ah bY p0.fItems)),.v (.sl 2 (ah GScore.row p0.fScores))]] []=some (.v (.i .i64 r),[]):=by
 revert hF
 unfold value_elements
 refine someX ?_
 unfold value_elements_v
 all_goals (rintro rfl;rw [bk];show cC _ _ _ (aH _ _ _ _ (Code.seq _ _) _)=_;simp (maxSteps:=4000000) only [*,res114,n114k,n114K,n114ro,n114mv,↓RP,RB,enter,be,bf,aJ,Mx.bl,opnd,Mx.bI,Nat.reduceBEq,bQ,Mx.fit,bP,co,toVs,cellsOf,toV,aN,aA,ay,Mx.put,ofConst,ofCell,Mx.prune,killB,aK,putDst,aw,aE,loadAt,bT,List.map,cz,cB,cu,aC,bu,bx,cA,bS,bJ,aM,lowC,ax,cy,cx,↓ao,↓aa,ty3,ty70,ty71,ty72,ty74])
def n115K:List (Nat×List Nat):=[(0,[0]),(1,[2])]
def n115:cL where
 keep:=ax n115K
 ro:=fun _=>false
 mv:=fun _=>false
 give:=fun _=>false
 free:=fun _=>[]
theorem n115k (i:Nat):n115.keep i=ax n115K i:=rfl
theorem res115:Try.f115.results.toList= [.tmp 2]:=rfl
noncomputable def b115:Code:=aU Try.f115
theorem r_value_text (C:aj)  (p0:ByteArray) (r:Bool) (hF:value_text p0=some r):cR TT C.wide (evW TT C.wide n115 b115) n115 Try.f115.results.toList (aU Try.f115) [.v (.s p0)] []=some (.v (.b r),[]):=by
 revert hF
 unfold value_text
 all_goals (rintro⟨⟩;rw [bk];show cC _ _ _ (aH _ _ _ _ (Code.seq _ _) _)=_;simp (maxSteps:=4000000) only [*,res115,n115k,n115K,↓RP,RB,enter,be,bf,aJ,Mx.bl,opnd,Mx.bI,Nat.reduceBEq,bQ,Mx.fit,co,aN,aA,Mx.put,ofConst,ofCell,Mx.prune,killB,aK,putDst,aw,List.map,cz,cB,cu,aC,bu,bx,cA,bS,bJ,aM,lowC,ax,cy,cx,↓ao,↓aa,ty4,ty9])
def n116K:List (Nat×List Nat):=[(0,[0]),(1,[2])]
def n116:cL where
 keep:=ax n116K
 ro:=fun _=>false
 mv:=fun _=>false
 give:=fun _=>false
 free:=fun _=>[]
theorem n116k (i:Nat):n116.keep i=ax n116K i:=rfl
theorem res116:Try.f116.results.toList= [.tmp 2]:=rfl
noncomputable def b116:Code:=aU Try.f116
theorem r_vaC_fn1 (C:aj) (k_value_text:K_value_text C) (p0:ByteArray) (r:Bool) (hF:vaC_fn1 p0=some r):cR TT C.wide (evW TT C.wide n116 b116) n116 Try.f116.results.toList (aU Try.f116) [.v (.s p0)] []=some (.v (.b r),[]):=by
 revert hF
 unfold vaC_fn1
 have g1:=bK (k_value_text p0 _ (value_text_t p0))
 all_goals (rintro⟨⟩;rw [bk];show cC _ _ _ (aH _ _ _ _ (Code.seq _ _) _)=_;simp (maxSteps:=4000000) only [*,res116,n116k,n116K,↓RP,RB,enter,be,bf,aJ,Mx.bl,opnd,Mx.bI,Nat.reduceBEq,bQ,Mx.fit,co,aN,aA,Mx.put,ofConst,ofCell,Mx.prune,killB,aK,putDst,aw,List.map,aC,bu,bx,cA,bS,bJ,aM,lowC,forceAll,lend,lendA,aS,aB,bR,bare,bW,ax,newB,cw,↓ao,↓aa,ty4])
def n131K:List (Nat×List Nat):=[(0,[0,1]),(1,[0,1,7,8]),(2,[0,1,7,8,9]),(3,[0,1,5,7,8]),(4,[0,1,5,7,8,16]),(5,[4]),(6,[0,1,7,8]),(7,[4])]
def n131A:List (Nat×List Nat×List Nat):=[(9,[0,1,7,8],[]),(16,[5],[0,1,7,8])]
def n131:cL where
 keep:=ax n131K
 ro:=fun _=>false
 mv:=fun _=>false
 give:=fun _=>false
 free:=fun _=>[]
 alive:=av n131A
theorem n131a (t:Nat) (x:Bool) (e:Env) (S:bH):cK n131 t x ⟨e,S⟩=atO (av n131A t x) e S:=cF rfl t x e S
theorem n131k (i:Nat):n131.keep i=ax n131K i:=rfl
theorem n131mv (t:Nat):n131.mv t=(false):=rfl
theorem n131gv (t:Nat):n131.give t=(false):=rfl
theorem res131:Try.f131.results.toList= [.tmp 4]:=rfl
noncomputable def b131:Code:=aU Try.f131
noncomputable def c131_0:Code:=(bE 0 (aU Try.f131)).getD .skip
theorem fl131_0:bE 0 b131=some c131_0:=rfl
def hd_sISvaC_fn1_0 (p0:List ByteArray) (p1:Int) (s:Int):St:=⟨[(0,.v (.sl 1 (ah bY p0))),(1,.clo 116 []),(7,.v (.i .i64 p1)),(8,.v (.i .i64 s))],[]⟩
def ou_sISvaC_fn1_0 (p0:List ByteArray) (p1:Int) (r:Int⊕Unit):Option (Ex×St):=match r with
 | .inl r=>some (.ret,⟨[(4,.v (.i .i64 r))],[]⟩)
 | .inr r=>some (.normal,⟨[],[]⟩)
theorem sl_sISvaC_fn1_0 (C:aj) (k_vaC_fn1:K_vaC_fn1 C) (p0:List ByteArray) (p1:Int) (p2:Int) (o:Int⊕(Int⊕Unit)) (hF:st_sISvaC_fn1_0 p0 p1 p2=some o):evW TT C.wide n131 b131 0 (hd_sISvaC_fn1_0 p0 p1 p2)=Sum.elim (fun s=>evW TT C.wide n131 b131 0 (hd_sISvaC_fn1_0 p0 p1 s)) (fun r=>ou_sISvaC_fn1_0 p0 p1 r) o:=by
 rw [cG TT n131 fl131_0]
 revert hF
 unfold st_sISvaC_fn1_0
 try dsimp only
 refine bF (fun h1=>?_) (fun h1=>?_)
 rotate_left 1
 refine az fun x1 h2=>?_
 have g1:decide (0≤p2)=true:=(cp h2).1
 have g2:(ah bY p0)[(p2:Int).toNat]? =some [.s x1]:=cn _ h2
 have g3:=bK (k_vaC_fn1 x1 _ (vaC_fn1_t x1))
 refine aX (fun h3=>?_) (fun h3=>?_)
 rotate_left 1
 all_goals (rintro⟨⟩;show cN _ _ _ (aH _ _ _ _ (Code.seq _ _) _)=_;simp (maxSteps:=4000000) only [*,hd_sISvaC_fn1_0,ou_sISvaC_fn1_0,n131a,n131A,n131k,n131K,n131mv,n131gv,↓RP,RB,↓ai,be,bf,aJ,Mx.bl,opnd,Mx.bI,Nat.reduceBEq,bQ,Mx.fit,co,aN,aA,ay,Mx.put,ofConst,ofCell,Mx.prune,killB,killBs,aK,putDst,aw,loadAt,bT,List.map,cz,cB,bJ,aM,bD,bj,kill,frz,cq,bw,argE,argsE,ax,av,atO,cy,cx,↓ao,↓am,↓aa,ty3,ty9,ty71])
theorem r_sISvaC_fn1 (C:aj) (k_vaC_fn1:K_vaC_fn1 C) (p0:List ByteArray) (r:Int) (hF:sISvaC_fn1 p0=some r):cR TT C.wide (evW TT C.wide n131 b131) n131 Try.f131.results.toList (aU Try.f131) [.v (.sl 1 (ah bY p0)),.clo 116 []] []=some (.v (.i .i64 r),[]):=by
 revert hF
 unfold sISvaC_fn1
 refine az ?_
 rintro (x1|_) h1
 focus
  dsimp only
  have g1:=cH _ _ (sl_sISvaC_fn1_0 C k_vaC_fn1 p0 (p0.length:Int)) h1
  try simp only [hd_sISvaC_fn1_0,ou_sISvaC_fn1_0] at g1
 rotate_left 1
 dsimp only
 have g2:=cH _ _ (sl_sISvaC_fn1_0 C k_vaC_fn1 p0 (p0.length:Int)) h1
 try simp only [hd_sISvaC_fn1_0,ou_sISvaC_fn1_0] at g2
 all_goals (rintro⟨⟩;rw [bk];show cC _ _ _ (aH _ _ _ _ (Code.seq _ _) _)=_;simp (maxSteps:=4000000) only [*,res131,n131k,n131K,↓RP,RB,enter,be,bf,aJ,Mx.bl,opnd,Mx.bI,Nat.reduceBEq,bQ,Mx.fit,co,aN,aA,Mx.put,ofConst,ofCell,Mx.prune,killB,killBs,aK,putDst,aw,List.map,cu,aC,bu,bx,cA,bS,bJ,aM,lowC,Int.reduceNeg,ax,↓ao,↓aa,ty3,ty71])
def n91K:List (Nat×List Nat):=[(0,[0,1]),(1,[4])]
def n91:cL where
 keep:=ax n91K
 ro:=fun _=>false
 mv:=fun _=>false
 give:=fun _=>false
 free:=fun _=>[]
theorem n91k (i:Nat):n91.keep i=ax n91K i:=rfl
theorem res91:Try.f91.results.toList= [.tmp 4]:=rfl
noncomputable def b91:Code:=aU Try.f91
theorem r_sCSvaC_fn1 (C:aj) (k_sISvaC_fn1:K_sISvaC_fn1 C) (p0:List ByteArray) (r:Bool) (hF:sCSvaC_fn1 p0=some r):cR TT C.wide (evW TT C.wide n91 b91) n91 Try.f91.results.toList (aU Try.f91) [.v (.sl 1 (ah bY p0)),.clo 116 []] []=some (.v (.b r),[]):=by
 revert hF
 unfold sCSvaC_fn1
 refine az fun x1 h1=>?_
 have g1:=bK (k_sISvaC_fn1 p0 _ h1)
 all_goals (rintro⟨⟩;rw [bk];show cC _ _ _ (aH _ _ _ _ (Code.seq _ _) _)=_;simp (maxSteps:=4000000) only [*,res91,n91k,n91K,↓RP,RB,enter,be,bf,aJ,Mx.bl,opnd,Mx.bI,Nat.reduceBEq,bQ,Mx.fit,co,aN,aA,Mx.put,ofConst,ofCell,Mx.prune,killB,killBs,aK,putDst,aw,List.map,cz,cB,aC,bu,bx,cA,bS,bJ,aM,lowC,forceAll,lend,lendA,aS,aB,bR,bare,bW,ax,newB,cw,cy,cx,↓ao,↓aa,ty4])
def n119K:List (Nat×List Nat):=[(0,[0]),(1,[2])]
def n119:cL where
 keep:=ax n119K
 ro:=fun _=>false
 mv:=fun _=>false
 give:=fun _=>false
 free:=fun _=>[]
theorem n119k (i:Nat):n119.keep i=ax n119K i:=rfl
theorem res119:Try.f119.results.toList= [.tmp 2]:=rfl
noncomputable def b119:Code:=aU Try.f119
theorem r_value_field (C:aj)  (p0:ByteArray) (r:Bool) (hF:value_field p0=some r):cR TT C.wide (evW TT C.wide n119 b119) n119 Try.f119.results.toList (aU Try.f119) [.v (.s p0)] []=some (.v (.b r),[]):=by
 revert hF
 unfold value_field
 refine aX (fun h1=>?_) (fun h1=>?_)
 rotate_left 1
 all_goals (rintro⟨⟩;rw [bk];show cC _ _ _ (aH _ _ _ _ (Code.seq _ _) _)=_;simp (maxSteps:=4000000) only [*,res119,n119k,n119K,↓RP,RB,enter,aQ,aD,be,bf,aJ,Mx.bl,opnd,Mx.bI,Nat.reduceBEq,bQ,Mx.fit,co,aN,aA,Mx.put,ofConst,ofCell,Mx.prune,killB,aK,putDst,aw,List.map,cz,cB,cu,aC,bu,bx,cA,bS,bJ,aM,lowC,ax,cy,cx,↓ao,↓aa,bh,ty4,ty9])
def n118K:List (Nat×List Nat):=[(0,[1]),(1,[2])]
def n118:cL where
 keep:=ax n118K
 ro:=fun t=>t==1
 mv:=fun _=>false
 give:=fun _=>false
 free:=fun _=>[]
theorem n118k (i:Nat):n118.keep i=ax n118K i:=rfl
theorem n118ro (t:Nat):n118.ro t=(t==1):=rfl
theorem n118mv (t:Nat):n118.mv t=(false):=rfl
theorem res118:Try.f118.results.toList= [.tmp 2]:=rfl
noncomputable def b118:Code:=aU Try.f118
theorem r_vaC_fn2 (C:aj) (k_value_field:K_value_field C) (k_value_text:K_value_text C) (p0:GPair) (r:Bool) (hF:vaC_fn2 p0=some r):cR TT C.wide (evW TT C.wide n118 b118) n118 Try.f118.results.toList (aU Try.f118) [.agg [.v (.s p0.fField),.v (.s p0.fText)]] []=some (.v (.b r),[]):=by
 revert hF
 unfold vaC_fn2
 have g1:=bK (k_value_field p0.fField _ (value_field_t p0.fField))
 refine aX (fun h1=>?_) (fun h1=>?_)
 focus
  have g2:=bK (k_value_text p0.fText _ (value_text_t p0.fText))
 rotate_left 1
 all_goals (rintro⟨⟩;rw [bk];show cC _ _ _ (aH _ _ _ _ (Code.seq _ _) _)=_;simp (maxSteps:=4000000) only [*,res118,n118k,n118K,n118ro,n118mv,↓RP,RB,enter,aQ,aD,be,bf,aJ,Mx.bl,opnd,Mx.bI,Nat.reduceBEq,bQ,Mx.fit,bP,co,toVs,cellsOf,toV,aN,aA,ay,Mx.put,ofConst,ofCell,Mx.prune,killB,aK,putDst,aw,aE,loadAt,bT,List.map,aC,bu,bx,cA,bS,bJ,aM,lowC,forceAll,lend,lendA,aS,aB,bR,bare,bW,ax,newB,cw,↓ao,↓aa,bh,ty4,ty9,ty110])
def n136K:List (Nat×List Nat):=[(0,[0,1]),(1,[0,1,7,8]),(2,[0,1,7,8,9]),(3,[0,1,5,7,8]),(4,[0,1,5,7,8,16]),(5,[4]),(6,[0,1,7,8]),(7,[4])]
def n136A:List (Nat×List Nat×List Nat):=[(9,[0,1,7,8],[]),(16,[5],[0,1,7,8])]
def n136:cL where
 keep:=ax n136K
 ro:=fun _=>false
 mv:=fun _=>false
 give:=fun _=>false
 free:=fun _=>[]
 alive:=av n136A
theorem n136a (t:Nat) (x:Bool) (e:Env) (S:bH):cK n136 t x ⟨e,S⟩=atO (av n136A t x) e S:=cF rfl t x e S
theorem n136k (i:Nat):n136.keep i=ax n136K i:=rfl
theorem n136mv (t:Nat):n136.mv t=(false):=rfl
theorem n136gv (t:Nat):n136.give t=(false):=rfl
theorem res136:Try.f136.results.toList= [.tmp 4]:=rfl
noncomputable def b136:Code:=aU Try.f136
noncomputable def c136_0:Code:=(bE 0 (aU Try.f136)).getD .skip
theorem fl136_0:bE 0 b136=some c136_0:=rfl
def hd_sIPvaC_fn2_0 (p0:List GPair) (p1:Int) (s:Int):St:=⟨[(0,.v (.sl 2 (ah GPair.row p0))),(1,.clo 118 []),(7,.v (.i .i64 p1)),(8,.v (.i .i64 s))],[]⟩
def ou_sIPvaC_fn2_0 (p0:List GPair) (p1:Int) (r:Int⊕Unit):Option (Ex×St):=match r with
 | .inl r=>some (.ret,⟨[(4,.v (.i .i64 r))],[]⟩)
 | .inr r=>some (.normal,⟨[],[]⟩)
theorem sl_sIPvaC_fn2_0 (C:aj) (k_vaC_fn2:K_vaC_fn2 C) (p0:List GPair) (p1:Int) (p2:Int) (o:Int⊕(Int⊕Unit)) (hF:st_sIPvaC_fn2_0 p0 p1 p2=some o):evW TT C.wide n136 b136 0 (hd_sIPvaC_fn2_0 p0 p1 p2)=Sum.elim (fun s=>evW TT C.wide n136 b136 0 (hd_sIPvaC_fn2_0 p0 p1 s)) (fun r=>ou_sIPvaC_fn2_0 p0 p1 r) o:=by
 rw [cG TT n136 fl136_0]
 revert hF
 unfold st_sIPvaC_fn2_0
 try dsimp only
 refine bF (fun h1=>?_) (fun h1=>?_)
 rotate_left 1
 refine az fun x1 h2=>?_
 have g1:decide (0≤p2)=true:=(cp h2).1
 have g2:(ah GPair.row p0)[(p2:Int).toNat]? =some [.s x1.fField,.s x1.fText]:=cn _ h2
 have g3:=bK (k_vaC_fn2 x1 _ (vaC_fn2_t x1))
 refine aX (fun h3=>?_) (fun h3=>?_)
 rotate_left 1
 all_goals (rintro⟨⟩;show cN _ _ _ (aH _ _ _ _ (Code.seq _ _) _)=_;simp (maxSteps:=4000000) only [*,hd_sIPvaC_fn2_0,ou_sIPvaC_fn2_0,n136a,n136A,n136k,n136K,n136mv,n136gv,↓RP,RB,↓ai,be,bf,aJ,Mx.bl,opnd,Mx.bI,Nat.reduceBEq,bQ,Mx.fit,co,aN,aA,ay,Mx.put,ofConst,ofCell,Mx.prune,killB,killBs,aK,putDst,aw,loadAt,bT,List.map,Nat.reduceAdd,cz,cB,bJ,aM,bD,bj,kill,frz,cq,bw,argE,argsE,ax,av,atO,cy,cx,↓ao,↓am,↓aa,ty3,ty70,ty110])
theorem r_sIPvaC_fn2 (C:aj) (k_vaC_fn2:K_vaC_fn2 C) (p0:List GPair) (r:Int) (hF:sIPvaC_fn2 p0=some r):cR TT C.wide (evW TT C.wide n136 b136) n136 Try.f136.results.toList (aU Try.f136) [.v (.sl 2 (ah GPair.row p0)),.clo 118 []] []=some (.v (.i .i64 r),[]):=by
 revert hF
 unfold sIPvaC_fn2
 refine az ?_
 rintro (x1|_) h1
 focus
  dsimp only
  have g1:=cH _ _ (sl_sIPvaC_fn2_0 C k_vaC_fn2 p0 (p0.length:Int)) h1
  try simp only [hd_sIPvaC_fn2_0,ou_sIPvaC_fn2_0] at g1
 rotate_left 1
 dsimp only
 have g2:=cH _ _ (sl_sIPvaC_fn2_0 C k_vaC_fn2 p0 (p0.length:Int)) h1
 try simp only [hd_sIPvaC_fn2_0,ou_sIPvaC_fn2_0] at g2
 all_goals (rintro⟨⟩;rw [bk];show cC _ _ _ (aH _ _ _ _ (Code.seq _ _) _)=_;simp (maxSteps:=4000000) only [*,res136,n136k,n136K,↓RP,RB,enter,be,bf,aJ,Mx.bl,opnd,Mx.bI,Nat.reduceBEq,bQ,Mx.fit,co,aN,aA,Mx.put,ofConst,ofCell,Mx.prune,killB,killBs,aK,putDst,aw,List.map,cu,aC,bu,bx,cA,bS,bJ,aM,lowC,Int.reduceNeg,ax,↓ao,↓aa,ty3,ty70])
def n117K:List (Nat×List Nat):=[(0,[0,1]),(1,[4])]
def n117:cL where
 keep:=ax n117K
 ro:=fun _=>false
 mv:=fun _=>false
 give:=fun _=>false
 free:=fun _=>[]
theorem n117k (i:Nat):n117.keep i=ax n117K i:=rfl
theorem res117:Try.f117.results.toList= [.tmp 4]:=rfl
noncomputable def b117:Code:=aU Try.f117
theorem r_sCPvaC_fn2 (C:aj) (k_sIPvaC_fn2:K_sIPvaC_fn2 C) (p0:List GPair) (r:Bool) (hF:sCPvaC_fn2 p0=some r):cR TT C.wide (evW TT C.wide n117 b117) n117 Try.f117.results.toList (aU Try.f117) [.v (.sl 2 (ah GPair.row p0)),.clo 118 []] []=some (.v (.b r),[]):=by
 revert hF
 unfold sCPvaC_fn2
 refine az fun x1 h1=>?_
 have g1:=bK (k_sIPvaC_fn2 p0 _ h1)
 all_goals (rintro⟨⟩;rw [bk];show cC _ _ _ (aH _ _ _ _ (Code.seq _ _) _)=_;simp (maxSteps:=4000000) only [*,res117,n117k,n117K,↓RP,RB,enter,be,bf,aJ,Mx.bl,opnd,Mx.bI,Nat.reduceBEq,bQ,Mx.fit,co,aN,aA,Mx.put,ofConst,ofCell,Mx.prune,killB,killBs,aK,putDst,aw,List.map,cz,cB,aC,bu,bx,cA,bS,bJ,aM,lowC,forceAll,lend,lendA,aS,aB,bR,bare,bW,ax,newB,cw,cy,cx,↓ao,↓aa,ty4])
def n121K:List (Nat×List Nat):=[(0,[1]),(1,[2])]
def n121:cL where
 keep:=ax n121K
 ro:=fun t=>t==1
 mv:=fun _=>false
 give:=fun _=>false
 free:=fun _=>[]
theorem n121k (i:Nat):n121.keep i=ax n121K i:=rfl
theorem n121ro (t:Nat):n121.ro t=(t==1):=rfl
theorem n121mv (t:Nat):n121.mv t=(false):=rfl
theorem res121:Try.f121.results.toList= [.tmp 2]:=rfl
noncomputable def b121:Code:=aU Try.f121
theorem r_vaC_fn3 (C:aj) (k_value_text:K_value_text C) (p0:GScore) (r:Bool) (hF:vaC_fn3 p0=some r):cR TT C.wide (evW TT C.wide n121 b121) n121 Try.f121.results.toList (aU Try.f121) [.agg [.v (.s p0.fMember),.v (.i .i64 p0.fN)]] []=some (.v (.b r),[]):=by
 revert hF
 unfold vaC_fn3
 have g1:=bK (k_value_text p0.fMember _ (value_text_t p0.fMember))
 all_goals (rintro⟨⟩;rw [bk];show cC _ _ _ (aH _ _ _ _ (Code.seq _ _) _)=_;simp (maxSteps:=4000000) only [*,res121,n121k,n121K,n121ro,n121mv,↓RP,RB,enter,be,bf,aJ,Mx.bl,opnd,Mx.bI,Nat.reduceBEq,bQ,Mx.fit,bP,co,toVs,cellsOf,toV,aN,aA,ay,Mx.put,ofConst,ofCell,Mx.prune,killB,aK,putDst,aw,aE,loadAt,bT,List.map,aC,bu,bx,cA,bS,bJ,aM,lowC,forceAll,lend,lendA,aS,aB,bR,bare,bW,ax,newB,cw,↓ao,↓aa,ty4,ty9,ty112])
def n137K:List (Nat×List Nat):=[(0,[0,1]),(1,[0,1,7,8]),(2,[0,1,7,8,9]),(3,[0,1,5,7,8]),(4,[0,1,5,7,8,16]),(5,[4]),(6,[0,1,7,8]),(7,[4])]
def n137A:List (Nat×List Nat×List Nat):=[(9,[0,1,7,8],[]),(16,[5],[0,1,7,8])]
def n137:cL where
 keep:=ax n137K
 ro:=fun _=>false
 mv:=fun _=>false
 give:=fun _=>false
 free:=fun _=>[]
 alive:=av n137A
theorem n137a (t:Nat) (x:Bool) (e:Env) (S:bH):cK n137 t x ⟨e,S⟩=atO (av n137A t x) e S:=cF rfl t x e S
theorem n137k (i:Nat):n137.keep i=ax n137K i:=rfl
theorem n137mv (t:Nat):n137.mv t=(false):=rfl
theorem n137gv (t:Nat):n137.give t=(false):=rfl
theorem res137:Try.f137.results.toList= [.tmp 4]:=rfl
noncomputable def b137:Code:=aU Try.f137
noncomputable def c137_0:Code:=(bE 0 (aU Try.f137)).getD .skip
theorem fl137_0:bE 0 b137=some c137_0:=rfl
def hd_sIRvaC_fn3_0 (p0:List GScore) (p1:Int) (s:Int):St:=⟨[(0,.v (.sl 2 (ah GScore.row p0))),(1,.clo 121 []),(7,.v (.i .i64 p1)),(8,.v (.i .i64 s))],[]⟩
def ou_sIRvaC_fn3_0 (p0:List GScore) (p1:Int) (r:Int⊕Unit):Option (Ex×St):=match r with
 | .inl r=>some (.ret,⟨[(4,.v (.i .i64 r))],[]⟩)
 | .inr r=>some (.normal,⟨[],[]⟩)
theorem sl_sIRvaC_fn3_0 (C:aj) (k_vaC_fn3:K_vaC_fn3 C) (p0:List GScore) (p1:Int) (p2:Int) (o:Int⊕(Int⊕Unit)) (hF:st_sIRvaC_fn3_0 p0 p1 p2=some o):evW TT C.wide n137 b137 0 (hd_sIRvaC_fn3_0 p0 p1 p2)=Sum.elim (fun s=>evW TT C.wide n137 b137 0 (hd_sIRvaC_fn3_0 p0 p1 s)) (fun r=>ou_sIRvaC_fn3_0 p0 p1 r) o:=by
 rw [cG TT n137 fl137_0]
 revert hF
 unfold st_sIRvaC_fn3_0
 try dsimp only
 refine bF (fun h1=>?_) (fun h1=>?_)
 rotate_left 1
 refine az fun x1 h2=>?_
 have g1:decide (0≤p2)=true:=(cp h2).1
 have g2:(ah GScore.row p0)[(p2:Int).toNat]? =some [.s x1.fMember,.i .i64 x1.fN]:=cn _ h2
 have g3:=bK (k_vaC_fn3 x1 _ (vaC_fn3_t x1))
 refine aX (fun h3=>?_) (fun h3=>?_)
 rotate_left 1
 all_goals (rintro⟨⟩;show cN _ _ _ (aH _ _ _ _ (Code.seq _ _) _)=_;simp (maxSteps:=4000000) only [*,hd_sIRvaC_fn3_0,ou_sIRvaC_fn3_0,n137a,n137A,n137k,n137K,n137mv,n137gv,↓RP,RB,↓ai,be,bf,aJ,Mx.bl,opnd,Mx.bI,Nat.reduceBEq,bQ,Mx.fit,co,aN,aA,ay,Mx.put,ofConst,ofCell,Mx.prune,killB,killBs,aK,putDst,aw,loadAt,bT,List.map,Nat.reduceAdd,cz,cB,bJ,aM,bD,bj,kill,frz,cq,bw,argE,argsE,ax,av,atO,cy,cx,↓ao,↓am,↓aa,ty3,ty72,ty112])
theorem r_sIRvaC_fn3 (C:aj) (k_vaC_fn3:K_vaC_fn3 C) (p0:List GScore) (r:Int) (hF:sIRvaC_fn3 p0=some r):cR TT C.wide (evW TT C.wide n137 b137) n137 Try.f137.results.toList (aU Try.f137) [.v (.sl 2 (ah GScore.row p0)),.clo 121 []] []=some (.v (.i .i64 r),[]):=by
 revert hF
 unfold sIRvaC_fn3
 refine az ?_
 rintro (x1|_) h1
 focus
  dsimp only
  have g1:=cH _ _ (sl_sIRvaC_fn3_0 C k_vaC_fn3 p0 (p0.length:Int)) h1
  try simp only [hd_sIRvaC_fn3_0,ou_sIRvaC_fn3_0] at g1
 rotate_left 1
 dsimp only
 have g2:=cH _ _ (sl_sIRvaC_fn3_0 C k_vaC_fn3 p0 (p0.length:Int)) h1
 try simp only [hd_sIRvaC_fn3_0,ou_sIRvaC_fn3_0] at g2
 all_goals (rintro⟨⟩;rw [bk];show cC _ _ _ (aH _ _ _ _ (Code.seq _ _) _)=_;simp (maxSteps:=4000000) only [*,res137,n137k,n137K,↓RP,RB,enter,be,bf,aJ,Mx.bl,opnd,Mx.bI,Nat.reduceBEq,bQ,Mx.fit,co,aN,aA,Mx.put,ofConst,ofCell,Mx.prune,killB,killBs,aK,putDst,aw,List.map,cu,aC,bu,bx,cA,bS,bJ,aM,lowC,Int.reduceNeg,ax,↓ao,↓aa,ty3,ty72])
def n120K:List (Nat×List Nat):=[(0,[0,1]),(1,[4])]
def n120:cL where
 keep:=ax n120K
 ro:=fun _=>false
 mv:=fun _=>false
 give:=fun _=>false
 free:=fun _=>[]
theorem n120k (i:Nat):n120.keep i=ax n120K i:=rfl
theorem res120:Try.f120.results.toList= [.tmp 4]:=rfl
noncomputable def b120:Code:=aU Try.f120
theorem r_sCRvaC_fn3 (C:aj) (k_sIRvaC_fn3:K_sIRvaC_fn3 C) (p0:List GScore) (r:Bool) (hF:sCRvaC_fn3 p0=some r):cR TT C.wide (evW TT C.wide n120 b120) n120 Try.f120.results.toList (aU Try.f120) [.v (.sl 2 (ah GScore.row p0)),.clo 121 []] []=some (.v (.b r),[]):=by
 revert hF
 unfold sCRvaC_fn3
 refine az fun x1 h1=>?_
 have g1:=bK (k_sIRvaC_fn3 p0 _ h1)
 all_goals (rintro⟨⟩;rw [bk];show cC _ _ _ (aH _ _ _ _ (Code.seq _ _) _)=_;simp (maxSteps:=4000000) only [*,res120,n120k,n120K,↓RP,RB,enter,be,bf,aJ,Mx.bl,opnd,Mx.bI,Nat.reduceBEq,bQ,Mx.fit,co,aN,aA,Mx.put,ofConst,ofCell,Mx.prune,killB,killBs,aK,putDst,aw,List.map,cz,cB,aC,bu,bx,cA,bS,bJ,aM,lowC,forceAll,lend,lendA,aS,aB,bR,bare,bW,ax,newB,cw,cy,cx,↓ao,↓aa,ty4])
def n122K:List (Nat×List Nat):=[(0,[0]),(1,[2])]
def n122:cL where
 keep:=ax n122K
 ro:=fun _=>false
 mv:=fun _=>false
 give:=fun _=>false
 free:=fun _=>[]
theorem n122k (i:Nat):n122.keep i=ax n122K i:=rfl
theorem res122:Try.f122.results.toList= [.tmp 2]:=rfl
noncomputable def b122:Code:=aU Try.f122
theorem r_value_count (C:aj)  (p0:Int) (r:Bool) (hF:value_count p0=some r):cR TT C.wide (evW TT C.wide n122 b122) n122 Try.f122.results.toList (aU Try.f122) [.v (.i .i64 p0)] []=some (.v (.b r),[]):=by
 revert hF
 unfold value_count
 refine aX (fun h1=>?_) (fun h1=>?_)
 rotate_left 1
 all_goals (rintro⟨⟩;rw [bk];show cC _ _ _ (aH _ _ _ _ (Code.seq _ _) _)=_;simp (maxSteps:=4000000) only [*,res122,n122k,n122K,↓RP,RB,enter,aQ,aD,be,bf,aJ,Mx.bl,opnd,Mx.bI,Nat.reduceBEq,bQ,Mx.fit,co,aN,aA,Mx.put,ofConst,ofCell,Mx.prune,killB,aK,putDst,aw,List.map,cz,cB,aC,bu,bx,cA,bS,bJ,aM,lowC,Int.reduceNeg,ax,cy,cx,↓ao,↓aa,bh,ty4])
def n123K:List (Nat×List Nat):=[(0,[1]),(1,[2])]
def n123:cL where
 keep:=ax n123K
 ro:=fun t=>t==1
 mv:=fun _=>false
 give:=fun _=>false
 free:=fun _=>[]
theorem n123k (i:Nat):n123.keep i=ax n123K i:=rfl
theorem n123ro (t:Nat):n123.ro t=(t==1):=rfl
theorem n123mv (t:Nat):n123.mv t=(false):=rfl
theorem res123:Try.f123.results.toList= [.tmp 2]:=rfl
noncomputable def b123:Code:=aU Try.f123
theorem r_vaC_fn4 (C:aj) (k_value_count:K_value_count C) (p0:GScore) (r:Bool) (hF:vaC_fn4 p0=some r):cR TT C.wide (evW TT C.wide n123 b123) n123 Try.f123.results.toList (aU Try.f123) [.agg [.v (.s p0.fMember),.v (.i .i64 p0.fN)]] []=some (.v (.b r),[]):=by
 revert hF
 unfold vaC_fn4
 have g1:=bK (k_value_count p0.fN _ (value_count_t p0.fN))
 all_goals (rintro⟨⟩;rw [bk];show cC _ _ _ (aH _ _ _ _ (Code.seq _ _) _)=_;simp (maxSteps:=4000000) only [*,res123,n123k,n123K,n123ro,n123mv,↓RP,RB,enter,be,bf,aJ,Mx.bl,opnd,Mx.bI,Nat.reduceBEq,bQ,Mx.fit,bP,co,toVs,cellsOf,toV,aN,aA,ay,Mx.put,ofConst,ofCell,Mx.prune,killB,aK,putDst,aw,aE,loadAt,bT,List.map,aC,bu,bx,cA,bS,bJ,aM,lowC,forceAll,lend,lendA,aS,aB,bR,bare,bW,ax,newB,cw,↓ao,↓aa,ty3,ty4,ty112])
def hd_sIRvaC_fn4_0 (p0:List GScore) (p1:Int) (s:Int):St:=⟨[(0,.v (.sl 2 (ah GScore.row p0))),(1,.clo 123 []),(7,.v (.i .i64 p1)),(8,.v (.i .i64 s))],[]⟩
def ou_sIRvaC_fn4_0 (p0:List GScore) (p1:Int) (r:Int⊕Unit):Option (Ex×St):=match r with
 | .inl r=>some (.ret,⟨[(4,.v (.i .i64 r))],[]⟩)
 | .inr r=>some (.normal,⟨[],[]⟩)
theorem sl_sIRvaC_fn4_0 (C:aj) (k_vaC_fn4:K_vaC_fn4 C) (p0:List GScore) (p1:Int) (p2:Int) (o:Int⊕(Int⊕Unit)) (hF:st_sIRvaC_fn4_0 p0 p1 p2=some o):evW TT C.wide n137 b137 0 (hd_sIRvaC_fn4_0 p0 p1 p2)=Sum.elim (fun s=>evW TT C.wide n137 b137 0 (hd_sIRvaC_fn4_0 p0 p1 s)) (fun r=>ou_sIRvaC_fn4_0 p0 p1 r) o:=by
 rw [cG TT n137 fl137_0]
 revert hF
 unfold st_sIRvaC_fn4_0
 try dsimp only
 refine bF (fun h1=>?_) (fun h1=>?_)
 rotate_left 1
 refine az fun x1 h2=>?_
 have g1:decide (0≤p2)=true:=(cp h2).1
 have g2:(ah GScore.row p0)[(p2:Int).toNat]? =some [.s x1.fMember,.i .i64 x1.fN]:=cn _ h2
 have g3:=bK (k_vaC_fn4 x1 _ (vaC_fn4_t x1))
 refine aX (fun h3=>?_) (fun h3=>?_)
 rotate_left 1
 all_goals (rintro⟨⟩;show cN _ _ _ (aH _ _ _ _ (Code.seq _ _) _)=_;simp (maxSteps:=4000000) only [*,hd_sIRvaC_fn4_0,ou_sIRvaC_fn4_0,n137a,n137A,n137k,n137K,n137mv,n137gv,↓RP,RB,↓ai,be,bf,aJ,Mx.bl,opnd,Mx.bI,Nat.reduceBEq,bQ,Mx.fit,co,aN,aA,ay,Mx.put,ofConst,ofCell,Mx.prune,killB,killBs,aK,putDst,aw,loadAt,bT,List.map,Nat.reduceAdd,cz,cB,bJ,aM,bD,bj,kill,frz,cq,bw,argE,argsE,ax,av,atO,cy,cx,↓ao,↓am,↓aa,ty3,ty72,ty112])
theorem r_sIRvaC_fn4 (C:aj) (k_vaC_fn4:K_vaC_fn4 C) (p0:List GScore) (r:Int) (hF:sIRvaC_fn4 p0=some r):cR TT C.wide (evW TT C.wide n137 b137) n137 Try.f137.results.toList (aU Try.f137) [.v (.sl 2 (ah GScore.row p0)),.clo 123 []] []=some (.v (.i .i64 r),[]):=by
 revert hF
 unfold sIRvaC_fn4
 refine az ?_
 rintro (x1|_) h1
 focus
  dsimp only
  have g1:=cH _ _ (sl_sIRvaC_fn4_0 C k_vaC_fn4 p0 (p0.length:Int)) h1
  try simp only [hd_sIRvaC_fn4_0,ou_sIRvaC_fn4_0] at g1
 rotate_left 1
 dsimp only
 have g2:=cH _ _ (sl_sIRvaC_fn4_0 C k_vaC_fn4 p0 (p0.length:Int)) h1
 try simp only [hd_sIRvaC_fn4_0,ou_sIRvaC_fn4_0] at g2
 all_goals (rintro⟨⟩;rw [bk];show cC _ _ _ (aH _ _ _ _ (Code.seq _ _) _)=_;simp (maxSteps:=4000000) only [*,res137,n137k,n137K,↓RP,RB,enter,be,bf,aJ,Mx.bl,opnd,Mx.bI,Nat.reduceBEq,bQ,Mx.fit,co,aN,aA,Mx.put,ofConst,ofCell,Mx.prune,killB,killBs,aK,putDst,aw,List.map,cu,aC,bu,bx,cA,bS,bJ,aM,lowC,Int.reduceNeg,ax,↓ao,↓aa,ty3,ty72])
theorem r_sCRvaC_fn4 (C:aj) (k_sIRvaC_fn4:K_sIRvaC_fn4 C) (p0:List GScore) (r:Bool) (hF:sCRvaC_fn4 p0=some r):cR TT C.wide (evW TT C.wide n120 b120) n120 Try.f120.results.toList (aU Try.f120) [.v (.sl 2 (ah GScore.row p0)),.clo 123 []] []=some (.v (.b r),[]):=by
 revert hF
 unfold sCRvaC_fn4
 refine az fun x1 h1=>?_
 have g1:=bK (k_sIRvaC_fn4 p0 _ h1)
 all_goals (rintro⟨⟩;rw [bk];show cC _ _ _ (aH _ _ _ _ (Code.seq _ _) _)=_;simp (maxSteps:=4000000) only [*,res120,n120k,n120K,↓RP,RB,enter,be,bf,aJ,Mx.bl,opnd,Mx.bI,Nat.reduceBEq,bQ,Mx.fit,co,aN,aA,Mx.put,ofConst,ofCell,Mx.prune,killB,killBs,aK,putDst,aw,List.map,cz,cB,aC,bu,bx,cA,bS,bJ,aM,lowC,forceAll,lend,lendA,aS,aB,bR,bare,bW,ax,newB,cw,cy,cx,↓ao,↓aa,ty4])
def n140K:List (Nat×List Nat):=[(0,[0,1]),(1,[4])]
def n140:cL where
 keep:=ax n140K
 ro:=fun _=>false
 mv:=fun _=>false
 give:=fun _=>false
 free:=fun _=>[]
theorem n140k (i:Nat):n140.keep i=ax n140K i:=rfl
theorem res140:Try.f140.results.toList= [.tmp 4]:=rfl
noncomputable def b140:Code:=aU Try.f140
theorem r_ibCompareString (C:aj) (k_cmpstring:K_cmpstring C) (p0:ByteArray) (p1:ByteArray) (r:Int) (hF:ibCompareString p0 p1=some r):cR TT C.wide (evW TT C.wide n140 b140) n140 Try.f140.results.toList (aU Try.f140) [.v (.s p0),.v (.s p1)] []=some (.v (.i .i64 r),[]):=by
 revert hF
 unfold ibCompareString
 refine someX ?_
 unfold ibCompareString_v
 have g1:=bK (k_cmpstring p0 p1 _ (cmpstring_t p0 p1))
 all_goals (rintro rfl;rw [bk];show cC _ _ _ (aH _ _ _ _ (Code.seq _ _) _)=_;simp (maxSteps:=4000000) only [*,res140,n140k,n140K,↓RP,RB,enter,be,bf,aJ,Mx.bl,opnd,Mx.bI,Nat.reduceBEq,bQ,Mx.fit,co,aN,aA,Mx.put,ofConst,ofCell,Mx.prune,killB,aK,putDst,aw,List.map,aC,bu,bx,cA,bS,bJ,aM,lowC,forceAll,lend,lendA,aS,aB,bR,bare,bW,ax,newB,cw,↓ao,↓aa,ty3])
end Go.Proofs.Ytgcglmoogaldbaa
