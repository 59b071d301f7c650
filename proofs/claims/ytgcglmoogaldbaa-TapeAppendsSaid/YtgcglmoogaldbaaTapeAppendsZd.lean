/- The code of these functions, run by the machine Mx, gives what the plain functions say, if their callees do (part 4). -/
import Derived.Test.YtgcglmoogaldbaaWTy
import Derived.Test.YtgcglmoogaldbaaTapeAppendsD
set_option linter.unusedSimpArgs false
set_option linter.unusedVariables false
set_option linter.constructorNameAsVariable false
set_option linter.unnecessarySimpa false
set_option maxRecDepth 100000
set_option maxHeartbeats 40000000
noncomputable section
namespace Go.Proofs.Ytgcglmoogaldbaa
open Go Go.Mx Go.Proofs
def n6K:List (Nat×List Nat):=[(0,[2,3]),(1,[2,3,5]),(2,[2,3,5,6,7]),(3,[2,5,6,7,8,9]),(4,[4])]
def n6:cL where
 keep:=ax n6K
 ro:=fun t=>t==2||t==3
 mv:=fun _=>false
 give:=fun _=>false
 free:=fun i=>match i with|2=>[(0,1),(0,2),(5,6),(0,7),(1,7),(2,7),(3,7),(4,7),(5,7),(6,7),(6,8)]|_=>[]
theorem n6k (i:Nat):n6.keep i=ax n6K i:=rfl
theorem qdv (t:Nat):n6.ro t=(t==2||t==3):=rfl
theorem qcw (t:Nat):n6.mv t=(false):=rfl
theorem qcZ (t:Nat):n6.give t=(false):=rfl
theorem qdk:n6.free 2= [(0,1),(0,2),(5,6),(0,7),(1,7),(2,7),(3,7),(4,7),(5,7),(6,7),(6,8)]:=rfl
theorem qdb:Try.f6.results.toList= [.tmp 4]:=rfl
def b6:Code:=aU Try.f6
theorem w9 (C:aj) (tB:vo C) (p0:iK) (p1:Int) (p2:Int) (p3:iK) (p4:iK) (p5:iK) (c:Code) (ho:cD 0 4 b6=some c) (r:Bool) (hF:nL p0 p1 p2 p3 p4 p5=some r): @cV TT C.wide (evW TT C.wide n6 b6) n6 0 4 ⟨[(2,.rp (rGTape p0)),(5,.ptr 0 0),(6,.ptr 1 0),(7,.I p1),(8,.ptr 2 0),(9,.I p2)],[cGTape p3,cGTape p4,cGTape p5]⟩ ⟨c⟩=some (.normal,⟨[(4,.v (.b r))],[cGTape p3,cGTape p4,cGTape p5]⟩):=by
 have e:=Option.some.inj (ho.symm.trans (rfl:cD 0 4 b6=some _))
 subst e
 clear ho
 show aH _ _ _ _ _ _=_
 revert hF
 unfold nL
 refine ip (fun h1=>az fun x1 h2=>?_) ?_
 have g1:=bK (tB p4 p5 _ h2)
 refine ip (fun h3=>az fun x2 h4=>?_) ?_
 have g2:=bK (tB p3 p0 _ h4)
 all_goals (rintro⟨⟩;intros;simp (maxSteps:=4000000) only [*,cGTape,rGTape,n6k,n6K,qcw,↓RP,RB,RC,Nat.reduceBEq,List.map,Nat.reduceAdd,jA,aP,ty4,mR,E4,↓aa _ _ _ _ 4])
theorem Ah (C:aj) (Hm:wd C) (FN:vr C) (Cp:uK C) (y9:sj C) (tB:vo C) (p0:iK) (p1:iu) (r:Bool) (hF:sE p0 p1=some r):cR TT C.wide (evW TT C.wide n6 b6) n6 Try.f6.results.toList (aU Try.f6) [.agg (cGTape p0),.agg (cGRecord p1)] []=some (.v (.b r),[]):=by
 revert hF
 unfold sE
 refine az fun x1 h1=>?_
 have g1:=bK (Hm p0 _ h1)
 refine az fun x2 h2=>?_
 have g2:=bK (FN p1 _ h2)
 refine az ?_
 rintro⟨x3,x4⟩ h3
 dsimp only
 have g3:=bK (Cp x1 x2 _ h3)
 try simp only [] at g3
 refine az ?_
 rintro⟨x5,x6⟩ h4
 dsimp only
 have g4:=bK (y9 p0 p1 _ h4)
 try simp only [] at g4
 refine az fun x7 h5=>?_
 have g5:=w9 C tB p0 x4 x6 x1 x3 x5 _ rfl _ h5
 all_goals (rintro⟨⟩;rw [bk];show cC _ _ _ (aH _ _ _ _ (Code.seq _ _) _)=_;simp (maxSteps:=4000000) only [*,cGRecord,cGTape,qdb,n6k,n6K,qdk,qdv,qcw,qcZ,↓RP,RB,RC,Nat.reduceBEq,bP,List.map,Nat.reduceAdd,Nat.reduceSub,Nat.reduceLT,Nat.reduceLeDiff,bV,cr,jA,bne,↓ao,aP,ty4,mR,A6,E4,↓aa _ _ _ _ 0,↓aa _ _ _ _ 1,↓aq _ _ _ _ 2,↓aa _ _ _ _ 3,↓bg _ _ _ _ 4])
end Go.Proofs.Ytgcglmoogaldbaa
