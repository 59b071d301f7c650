/- The code of these functions, run by the machine Mx, gives what the plain functions say, if their callees do (part 5). -/
import Derived.Test.YtgcglmoogaldbaaGreatWTy
import Derived.Test.YtgcglmoogaldbaaGreatTapeFoldsD
set_option linter.unusedSimpArgs false
set_option linter.unusedVariables false
set_option linter.constructorNameAsVariable false
set_option linter.unnecessarySimpa false
set_option maxRecDepth 100000
set_option maxHeartbeats 40000000
noncomputable section
namespace Go.Proofs.YtgcglmoogaldbaaGreat
open Go Go.Mx Go.Proofs
def n8K:List (Nat×List Nat):=[(0,[0,1]),(1,[0,1,10]),(2,[4]),(3,[0,1,5]),(4,[0,1,5,14]),(5,[0,1,5]),(6,[0,1,5,26]),(7,[4]),(8,[4])]
def n8A:List (Nat×List Nat×List Nat):=[(10,[],[0,1]),(14,[0,1,5],[]),(26,[],[0,1,5])]
def n8:cL where
 keep:=ax n8K
 ro:=fun _=>false
 mv:=fun _=>false
 give:=fun _=>false
 free:=fun i=>match i with|6=>[(0,1),(0,4),(1,4),(2,4),(3,4),(0,5),(1,5),(2,5),(3,5),(4,5),(0,6),(1,6),(2,6),(3,6),(0,7),(1,7),(2,7),(3,7)]|_=>[]
 alive:=av n8A
theorem n8a (t:Nat) (x:Bool) (e:Env) (S:bH):cK n8 t x ⟨e,S⟩=atO (av n8A t x) e S:=cF rfl t x e S
theorem n8k (i:Nat):n8.keep i=ax n8K i:=rfl
theorem qlo (t:Nat):n8.mv t=(false):=rfl
theorem qle:n8.free 6= [(0,1),(0,4),(1,4),(2,4),(3,4),(0,5),(1,5),(2,5),(3,5),(4,5),(0,6),(1,6),(2,6),(3,6),(0,7),(1,7),(2,7),(3,7)]:=rfl
theorem qmu:Tryz.f8.results.toList= [.tmp 4]:=rfl
def b8:Code:=aU Tryz.f8
def qlI:Code:=(bE 0 (aU Tryz.f8)).getD .skip
theorem qkk:bE 0 b8=some qlI:=rfl
def m5 (p0:List bi) (p1:List bi) (s:Int):St:=⟨[(0,.v (.sl 20 (ah bi.row p0))),(1,.v (.sl 20 (ah bi.row p1))),(5,.I s)],[]⟩
def pC (p0:List bi) (p1:List bi) (r:Unit⊕Unit):Option (Ex×St):=match r with
 | .inl r=>some (.ret,⟨[(4,.v (.b false))],[]⟩)
 | .inr r=>some (.normal,⟨[],[]⟩)
theorem v7 (C:aj) (tE:wC C) (p0:List bi) (p1:List bi) (p2:Int) (o:Int⊕(Unit⊕Unit)) (hF:m7 p0 p1 p2=some o):evW TT C.wide n8 b8 0 (m5 p0 p1 p2)=Sum.elim (fun s=>evW TT C.wide n8 b8 0 (m5 p0 p1 s)) (fun r=>pC p0 p1 r) o:=by
 rw [cG TT n8 qkk]
 revert hF
 unfold m7
 try dsimp only
 refine ip (fun h1=>az fun x1 h2=>?_) ?_
 have g1:decide (0<=p2)=true:=(cp h2).1
 have g2:(ah bi.row p0)[(p2:Int).toNat]? =some (rGRecord x1):=cn _ h2
 refine az fun x2 h3=>?_
 have g3:(ah bi.row p1)[(p2:Int).toNat]? =some (rGRecord x2):=cn _ h3
 refine az fun x3 h4=>?_
 have g4:=bK (tE x1 x2 _ h4)
 refine iv (fun h5=>?_) ?_
 all_goals (rintro⟨⟩;intros;show cN _ _ _ (aH _ _ _ _ (Code.seq _ _) _)=_;simp (maxSteps:=4000000) only [*,rGRecord,m5,pC,n8a,n8A,n8k,n8K,qle,qlo,↓RP,RB,RC,↓ai,Nat.reduceBEq,List.map,Nat.reduceAdd,↓ao,↓am,↓aa,↓aq,ty3,ty4,M8,y9])
theorem Ds (C:aj) (tE:wC C) (p0:List bi) (p1:List bi) (r:Bool) (hF:od p0 p1=some r):cR TT C.wide (evW TT C.wide n8 b8) n8 Tryz.f8.results.toList (aU Tryz.f8) [.v (.sl 20 (ah bi.row p0)),.v (.sl 20 (ah bi.row p1))] []=some (.v (.b r),[]):=by
 revert hF
 unfold od
 refine ip (fun h1=>az ?_) ?_
 rintro (_|_) h2
 focus
  dsimp only
  have g1:=cH _ _ (v7 C tE p0 p1) h2
  try simp only [m5,pC] at g1
 rotate_left 1
 dsimp only
 have g2:=cH _ _ (v7 C tE p0 p1) h2
 try simp only [m5,pC] at g2
 all_goals (rintro⟨⟩;intros;rw [bk];show cC _ _ _ (aH _ _ _ _ (Code.seq _ _) _)=_;simp (maxSteps:=4000000) only [*,qmu,n8a,n8A,n8k,n8K,↓RP,RB,RC,Nat.reduceBEq,List.map,Nat.reduceAdd,bne,↓ao,↓am,↓aa,ty3,ty4,M8])
def n4K:List (Nat×List Nat):=[(0,[0]),(1,[0,3,9]),(2,[0,3,4,5,9]),(3,[0,3,4,5,6,7,9]),(4,[2])]
def n4:cL where
 keep:=ax n4K
 ro:=fun _=>false
 mv:=fun _=>false
 give:=fun _=>false
 free:=fun _=>[]
theorem n4k (i:Nat):n4.keep i=ax n4K i:=rfl
theorem qmC (t:Nat):n4.mv t=(false):=rfl
theorem qlX (t:Nat):n4.give t=(false):=rfl
theorem qmy:Tryz.f4.results.toList= [.tmp 2]:=rfl
def b4:Code:=aU Tryz.f4
theorem Bh (C:aj) (yB:vU C) (vA:vv C) (p0:List bi) (p1:List bi) (p2:Int) (p3:Int) (p4:iL) (p5:iL) (c:Code) (ho:cD 0 4 b4=some c) (r:Bool) (hF:mr p0 p1 p2 p3 p4 p5=some r): @cV TT C.wide (evW TT C.wide n4 b4) n4 0 4 ⟨[(0,.v (.sl 20 (ah bi.row p0))),(3,.v (.sl 20 (ah bi.row p1))),(4,.ptr 0 0),(5,.I p2),(6,.ptr 1 0),(7,.I p3),(9,.v (.sl 20 (ah bi.row p1)))],[cGDisk p4,cGDisk p5]⟩ ⟨c⟩=some (.normal,⟨[(2,.v (.b r))],[cGDisk p4,cGDisk p5]⟩):=by
 have e:=Option.some.inj (ho.symm.trans (rfl:cD 0 4 b4=some _))
 subst e
 clear ho
 show aH _ _ _ _ _ _=_
 revert hF
 unfold mr
 refine ip (fun h1=>az fun x1 h2=>?_) ?_
 have g1:=bK (yB p4 p5 _ h2)
 refine ip (fun h3=>az fun x2 h4=>?_) ?_
 have g2:=bK (vA p1 p0 _ h4)
 all_goals (rintro⟨⟩;intros;simp (maxSteps:=4000000) only [*,cGDisk,n4k,n4K,qmC,↓RP,RB,RC,Nat.reduceBEq,List.map,Nat.reduceAdd,aP,ty4,kQ,An,↓aa _ _ _ _ 4])
theorem Gt (C:aj) (FO:wX C) (L0:zH C) (D1:wA C) (yB:vU C) (vA:vv C) (p0:List bi) (r:Bool) (hF:wH p0=some r):cR TT C.wide (evW TT C.wide n4 b4) n4 Tryz.f4.results.toList (aU Tryz.f4) [.v (.sl 20 (ah bi.row p0))] []=some (.v (.b r),[]):=by
 revert hF
 unfold wH
 refine az fun x1 h1=>?_
 have g1:=bK (FO p0 _ h1)
 refine az ?_
 rintro⟨x2,x3⟩ h2
 dsimp only
 have g2:=bK (L0 x1 _ h2)
 try simp only [] at g2
 refine az ?_
 rintro⟨x4,x5⟩ h3
 dsimp only
 have g3:=bK (D1 p0 _ h3)
 try simp only [] at g3
 refine az fun x6 h4=>?_
 have g4:=Bh C yB vA p0 x1 x3 x5 x2 x4 _ rfl _ h4
 all_goals (rintro⟨⟩;rw [bk];show cC _ _ _ (aH _ _ _ _ (Code.seq _ _) _)=_;simp (maxSteps:=4000000) only [*,cGDisk,qmy,n4k,n4K,qlX,↓RP,RB,RC,Nat.reduceBEq,bP,List.map,Nat.reduceAdd,Nat.reduceLeDiff,bne,↓ao,ty4,M8,kQ,An,↓aa _ _ _ _ 0,↓aa _ _ _ _ 1,↓aa _ _ _ _ 2,↓aa _ _ _ _ 3,↓bg _ _ _ _ 4])
end Go.Proofs.YtgcglmoogaldbaaGreat
