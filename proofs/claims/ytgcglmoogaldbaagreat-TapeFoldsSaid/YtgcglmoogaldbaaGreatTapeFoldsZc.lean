/- The code of these functions, run by the machine Mx, gives what the plain functions say, if their callees do (part 3). -/
import Derived.Test.YtgcglmoogaldbaaGreatWTy
import Derived.Test.YtgcglmoogaldbaaGreatTapeFoldsD
import Derived.Test.YtgcglmoogaldbaaGreatTapeFoldsZb
set_option linter.unusedSimpArgs false
set_option linter.unusedVariables false
set_option linter.constructorNameAsVariable false
set_option linter.unnecessarySimpa false
set_option maxRecDepth 100000
set_option maxHeartbeats 40000000
noncomputable section
namespace Go.Proofs.YtgcglmoogaldbaaGreat
open Go Go.Mx Go.Proofs
def l5  (s:Int×f7×ae):St:=⟨[(0,.ptr 0 0),(1,.clo 97 [.ptr 1 0,.ptr 2 0]),(4,.I s.1)],[cGreader s.2.1,[.I s.2.2.e5,.v (.s s.2.2.iq),.I s.2.2.iO,.own 2 (ah iC.row s.2.2.iz),.own 1 (ah bY s.2.2.af),.own 2 (ah f5.row s.2.2.f9)],[.ptr 0 0]]⟩
def oL  (r:f7×ae):Option (Ex×St):=some (.normal,⟨[],[cGreader r.1,[.I r.2.e5,.v (.s r.2.iq),.I r.2.iO,.own 2 (ah iC.row r.2.iz),.own 1 (ah bY r.2.af),.own 2 (ah f5.row r.2.f9)],[.ptr 0 0]]⟩)
theorem xZ (C:aj) (wY:xk C)  (s:Int×f7×ae) (o:(Int×f7×ae)⊕(f7×ae)) (hF:kg  s=some o):evW TT C.wide n62 b62 0 (l5  s)=Sum.elim (fun s=>evW TT C.wide n62 b62 0 (l5  s)) (fun r=>oL  r) o:=by
 obtain⟨p0,p1,p2⟩:=s
 rw [cG TT n62 EP]
 revert hF
 unfold kg
 try dsimp only
 refine ip (fun h1=>iv (fun h2=>az ?_) ?_) ?_
 rintro⟨x1,x2⟩ h3
 dsimp only
 have g1:C.wide 97 [.ptr 1 0,.ptr 2 0] [[.v (.sl 1 (ah cE p1.frest)),.v (.b false)],[.I p2.e5,.v (.s p2.iq),.I p2.iO,.own 2 (ah iC.row p2.iz),.own 1 (ah bY p2.af),.own 2 (ah f5.row p2.f9)],[.ptr 0 0]]=some (.tup [],[cGreader x1,[.I x2.e5,.v (.s x2.iq),.I x2.iO,.own 2 (ah iC.row x2.iz),.own 1 (ah bY x2.af),.own 2 (ah f5.row x2.f9)],[.ptr 0 0]]):=sa [1,2] [0,1,2] rfl rfl rfl rfl rfl rfl rfl rfl (wY (f7.mk p1.frest false) p2 _ h3) rfl rfl
 all_goals (rintro⟨⟩;intros;show cN _ _ _ (aH _ _ _ _ (Code.seq _ _) _)=_;simp (maxSteps:=4000000) only [*,cGreader,l5,oL,SU,NB,GY,Dm,L8,↓RP,RB,RC,↓ab,Nat.reduceBEq,List.map,Nat.reduceAdd,↓ao,↓am,↓aa,ty3,ty4,C8])
theorem zr (C:aj) (lN:lD C) (wY:xk C) (p0:f7) (p1:ae) (r:f7×ae) (hF:kD p0 p1=some r):cR TT C.wide (evW TT C.wide n62 b62) n62 Tryz.f62.results.toList (aU Tryz.f62) [.ptr 0 0,.clo 97 [.ptr 1 0,.ptr 2 0]] [cGreader p0,[.I p1.e5,.v (.s p1.iq),.I p1.iO,.own 2 (ah iC.row p1.iz),.own 1 (ah bY p1.af),.own 2 (ah f5.row p1.f9)],[.ptr 0 0]]=some (.tup [],[cGreader r.1,[.I r.2.e5,.v (.s r.2.iq),.I r.2.iO,.own 2 (ah iC.row r.2.iz),.own 1 (ah bY r.2.af),.own 2 (ah f5.row r.2.f9)],[.ptr 0 0]]):=by
 revert hF
 unfold kD
 refine az ?_
 rintro⟨x1,x2⟩ h1
 dsimp only
 have g1:C.wide 67 [.ptr 0 0] [cGreader p0,[.I p1.e5,.v (.s p1.iq),.I p1.iO,.own 2 (ah iC.row p1.iz),.own 1 (ah bY p1.af),.own 2 (ah f5.row p1.f9)],[.ptr 0 0]]=some (.I x1,[cGreader x2,[.I p1.e5,.v (.s p1.iq),.I p1.iO,.own 2 (ah iC.row p1.iz),.own 1 (ah bY p1.af),.own 2 (ah f5.row p1.f9)],[.ptr 0 0]]):=cX [0] rfl rfl rfl rfl (lN p0 _ h1) rfl rfl
 refine az ?_
 rintro⟨x3,x4⟩ h2
 dsimp only
 have g2:=cH _ _ (xZ C wY) h2
 try simp only [l5,oL] at g2
 all_goals (rintro⟨⟩;rw [bk];show cC _ _ _ (aH _ _ _ _ (Code.seq _ _) _)=_;simp (maxSteps:=4000000) only [*,cGreader,MM,GY,Dm,MZ,↓RP,RB,RC,Nat.reduceBEq,List.map,Nat.reduceAdd,↓ao,↓aa,ty3])
def qeU:List (Nat×List Nat):=[(0,[])]
def n99:cL where
 keep:=ax qeU
 ro:=fun _=>false
 mv:=fun _=>false
 give:=fun _=>false
 free:=fun i=>match i with|0=>[(0,1),(0,2),(0,3)]|_=>[]
theorem qml (i:Nat):n99.keep i=ax qeU i:=rfl
theorem qg9 (t:Nat):n99.mv t=(false):=rfl
theorem qif (t:Nat):n99.give t=(false):=rfl
theorem qgK:n99.free 0= [(0,1),(0,2),(0,3)]:=rfl
theorem qhv:Tryz.f99.results.toList= []:=rfl
def b99:Code:=aU Tryz.f99
theorem Gk (C:aj) (pP:pN C) (p0:f7) (p1:List ByteArray) (r:f7×(List ByteArray)) (hF:ta p0 p1=some r):cR TT C.wide (evW TT C.wide n99 b99) n99 Tryz.f99.results.toList (aU Tryz.f99) [.ptr 1 0,.ptr 2 0] [cGreader p0,[.own 1 (ah bY p1)],[.ptr 0 0]]=some (.tup [],[cGreader r.1,[.own 1 (ah bY r.2)],[.ptr 0 0]]):=by
 revert hF
 unfold ta
 refine az ?_
 rintro⟨x1,x2⟩ h1
 dsimp only
 have g1:C.wide 64 [.ptr 0 0] [cGreader p0,[.own 1 (ah bY p1)],[.ptr 0 0]]=some (.v (.s x1),[cGreader x2,[.own 1 (ah bY p1)],[.ptr 0 0]]):=cX [0] rfl rfl rfl rfl (pP p0 _ h1) rfl rfl
 refine oC fun h2=>?_
 all_goals (rintro⟨⟩;rw [bk];show cC _ _ _ (aH _ _ _ _ (Code.region _ _ _) _)=_;simp (maxSteps:=4000000) only [*,cGreader,qhv,qml,qeU,qgK,qg9,qif,↓RP,RB,RC,Nat.reduceBEq,List.map,Nat.reduceAdd,Nat.reduceMul,List.foldl_cons,List.foldl_nil,List.filter_cons,List.filter_nil,Nat.reduceSub,Nat.reduceLeDiff,bne,↓aq,ty9,mJ,CV])
def mp  (s:Int×f7×(List ByteArray)):St:=⟨[(0,.ptr 0 0),(1,.clo 99 [.ptr 1 0,.ptr 2 0]),(4,.I s.1)],[cGreader s.2.1,[.own 1 (ah bY s.2.2)],[.ptr 0 0]]⟩
def oK  (r:f7×(List ByteArray)):Option (Ex×St):=some (.normal,⟨[],[cGreader r.1,[.own 1 (ah bY r.2)],[.ptr 0 0]]⟩)
theorem xN (C:aj) (xb:xq C)  (s:Int×f7×(List ByteArray)) (o:(Int×f7×(List ByteArray))⊕(f7×(List ByteArray))) (hF:kd  s=some o):evW TT C.wide n62 b62 0 (mp  s)=Sum.elim (fun s=>evW TT C.wide n62 b62 0 (mp  s)) (fun r=>oK  r) o:=by
 obtain⟨p0,p1,p2⟩:=s
 rw [cG TT n62 EP]
 revert hF
 unfold kd
 try dsimp only
 refine ip (fun h1=>iv (fun h2=>az ?_) ?_) ?_
 rintro⟨x1,x2⟩ h3
 dsimp only
 have g1:C.wide 99 [.ptr 1 0,.ptr 2 0] [[.v (.sl 1 (ah cE p1.frest)),.v (.b false)],[.own 1 (ah bY p2)],[.ptr 0 0]]=some (.tup [],[cGreader x1,[.own 1 (ah bY x2)],[.ptr 0 0]]):=sa [1,2] [0,1,2] rfl rfl rfl rfl rfl rfl rfl rfl (xb (f7.mk p1.frest false) p2 _ h3) rfl rfl
 all_goals (rintro⟨⟩;intros;show cN _ _ _ (aH _ _ _ _ (Code.seq _ _) _)=_;simp (maxSteps:=4000000) only [*,cGreader,mp,oK,SU,NB,GY,Dm,L8,↓RP,RB,RC,↓ab,Nat.reduceBEq,List.map,Nat.reduceAdd,↓ao,↓am,↓aa,ty3,ty4,C8])
theorem zz (C:aj) (lN:lD C) (xb:xq C) (p0:f7) (p1:List ByteArray) (r:f7×(List ByteArray)) (hF:lK p0 p1=some r):cR TT C.wide (evW TT C.wide n62 b62) n62 Tryz.f62.results.toList (aU Tryz.f62) [.ptr 0 0,.clo 99 [.ptr 1 0,.ptr 2 0]] [cGreader p0,[.own 1 (ah bY p1)],[.ptr 0 0]]=some (.tup [],[cGreader r.1,[.own 1 (ah bY r.2)],[.ptr 0 0]]):=by
 revert hF
 unfold lK
 refine az ?_
 rintro⟨x1,x2⟩ h1
 dsimp only
 have g1:C.wide 67 [.ptr 0 0] [cGreader p0,[.own 1 (ah bY p1)],[.ptr 0 0]]=some (.I x1,[cGreader x2,[.own 1 (ah bY p1)],[.ptr 0 0]]):=cX [0] rfl rfl rfl rfl (lN p0 _ h1) rfl rfl
 refine az ?_
 rintro⟨x3,x4⟩ h2
 dsimp only
 have g2:=cH _ _ (xN C xb) h2
 try simp only [mp,oK] at g2
 all_goals (rintro⟨⟩;rw [bk];show cC _ _ _ (aH _ _ _ _ (Code.seq _ _) _)=_;simp (maxSteps:=4000000) only [*,cGreader,MM,GY,Dm,MZ,↓RP,RB,RC,Nat.reduceBEq,List.map,Nat.reduceAdd,↓ao,↓aa,ty3])
def Z9:List (Nat×List Nat):=[(0,[1]),(1,[1,3]),(2,[3]),(3,[2,7])]
def n68:cL where
 keep:=ax Z9
 ro:=fun _=>false
 mv:=fun t=>t==7
 give:=fun _=>false
 free:=fun _=>[]
theorem qmQ (i:Nat):n68.keep i=ax Z9 i:=rfl
theorem qky (t:Nat):n68.ro t=(false):=rfl
theorem qhg (t:Nat):n68.mv t=(t==7):=rfl
theorem qhl (t:Nat):n68.give t=(false):=rfl
theorem qhz:Tryz.f68.results.toList= [.tmp 2]:=rfl
def b68:Code:=aU Tryz.f68
theorem QR (C:aj) (zM:u6 C) (p0:f7) (r:(List ByteArray)×f7) (hF:wN p0=some r):cR TT C.wide (evW TT C.wide n68 b68) n68 Tryz.f68.results.toList (aU Tryz.f68) [.ptr 0 0] [cGreader p0]=some (.own 1 (ah bY r.1),[cGreader r.2]):=by
 revert hF
 unfold wN
 refine az ?_
 rintro⟨x1,x2⟩ h1
 dsimp only
 have g1:C.wide 62 [.ptr 0 0,.clo 99 [.ptr 2 0,.ptr 1 0]] [cGreader p0,[.ptr 0 0],[.own 1 []]]=some (.tup [],[cGreader x1,[.ptr 0 0],[.own 1 (ah bY x2)]]):=sa [0,2,1] [0,2,1] rfl rfl rfl rfl rfl rfl rfl rfl (zM p0 [] _ h1) rfl rfl
 all_goals (rintro⟨⟩;rw [bk];show cC _ _ _ (aH _ _ _ _ (Code.seq _ _) _)=_;simp (maxSteps:=4000000) only [*,cGreader,qhz,qmQ,Z9,qky,qhg,qhl,↓RP,RB,RC,Nat.reduceBEq,List.map,Nat.reduceAdd,bne,↓ao,↓aa,mJ,CV])
def Zy:List (Nat×List Nat):=[(0,[])]
def n98:cL where
 keep:=ax Zy
 ro:=fun _=>false
 mv:=fun _=>false
 give:=fun _=>false
 free:=fun i=>match i with|0=>[(0,2),(1,2),(0,3),(1,3),(0,4),(1,4),(2,4),(3,4),(0,5),(1,5),(0,6),(1,6),(0,7),(1,7)]|_=>[]
theorem qlE (i:Nat):n98.keep i=ax Zy i:=rfl
theorem qgn (t:Nat):n98.mv t=(false):=rfl
theorem qhk (t:Nat):n98.give t=(false):=rfl
theorem qgd:n98.free 0= [(0,2),(1,2),(0,3),(1,3),(0,4),(1,4),(2,4),(3,4),(0,5),(1,5),(0,6),(1,6),(0,7),(1,7)]:=rfl
theorem qhO:Tryz.f98.results.toList= []:=rfl
def b98:Code:=aU Tryz.f98
theorem GD (C:aj) (pP:pN C) (lQ:m8 C) (p0:f7) (p1:ae) (r:f7×ae) (hF:sV p0 p1=some r):cR TT C.wide (evW TT C.wide n98 b98) n98 Tryz.f98.results.toList (aU Tryz.f98) [.ptr 1 0,.ptr 2 0] [cGreader p0,[.I p1.e5,.v (.s p1.iq),.I p1.iO,.own 2 (ah iC.row p1.iz),.own 1 (ah bY p1.af),.own 2 (ah f5.row p1.f9)],[.ptr 0 0]]=some (.tup [],[cGreader r.1,[.I r.2.e5,.v (.s r.2.iq),.I r.2.iO,.own 2 (ah iC.row r.2.iz),.own 1 (ah bY r.2.af),.own 2 (ah f5.row r.2.f9)],[.ptr 0 0]]):=by
 revert hF
 unfold sV
 refine az ?_
 rintro⟨x1,x2⟩ h1
 dsimp only
 have g1:C.wide 64 [.ptr 0 0] [cGreader p0,[.I p1.e5,.v (.s p1.iq),.I p1.iO,.own 2 (ah iC.row p1.iz),.own 1 (ah bY p1.af),.own 2 (ah f5.row p1.f9)],[.ptr 0 0]]=some (.v (.s x1),[cGreader x2,[.I p1.e5,.v (.s p1.iq),.I p1.iO,.own 2 (ah iC.row p1.iz),.own 1 (ah bY p1.af),.own 2 (ah f5.row p1.f9)],[.ptr 0 0]]):=cX [0] rfl rfl rfl rfl (pP p0 _ h1) rfl rfl
 refine az ?_
 rintro⟨x3,x4⟩ h2
 dsimp only
 have g2:C.wide 61 [.ptr 0 0] [cGreader x2,[.I p1.e5,.v (.s p1.iq),.I p1.iO,.own 2 (ah iC.row p1.iz),.own 1 (ah bY p1.af),.own 2 (ah f5.row p1.f9)],[.ptr 0 0]]=some (.I x3,[cGreader x4,[.I p1.e5,.v (.s p1.iq),.I p1.iO,.own 2 (ah iC.row p1.iz),.own 1 (ah bY p1.af),.own 2 (ah f5.row p1.f9)],[.ptr 0 0]]):=cX [0] rfl rfl rfl rfl (lQ x2 _ h2) rfl rfl
 refine oC fun h3=>?_
 all_goals (rintro⟨⟩;rw [bk];show cC _ _ _ (aH _ _ _ _ (Code.region _ _ _) _)=_;simp (maxSteps:=4000000) only [*,cGreader,qhO,qlE,Zy,qgd,qgn,qhk,↓RP,RB,RC,Nat.reduceBEq,bP,List.map,Nat.reduceAdd,Nat.reduceMul,List.foldl_cons,List.foldl_nil,List.filter_cons,List.filter_nil,Nat.reduceSub,Nat.reduceLeDiff,bne,↓aq,ty3,ty9,oN,kU,CV,ua,f5.one])
def mn  (s:Int×f7×ae):St:=⟨[(0,.ptr 0 0),(1,.clo 98 [.ptr 1 0,.ptr 2 0]),(4,.I s.1)],[cGreader s.2.1,[.I s.2.2.e5,.v (.s s.2.2.iq),.I s.2.2.iO,.own 2 (ah iC.row s.2.2.iz),.own 1 (ah bY s.2.2.af),.own 2 (ah f5.row s.2.2.f9)],[.ptr 0 0]]⟩
def pg  (r:f7×ae):Option (Ex×St):=some (.normal,⟨[],[cGreader r.1,[.I r.2.e5,.v (.s r.2.iq),.I r.2.iO,.own 2 (ah iC.row r.2.iz),.own 1 (ah bY r.2.af),.own 2 (ah f5.row r.2.f9)],[.ptr 0 0]]⟩)
theorem xx (C:aj) (xe:wW C)  (s:Int×f7×ae) (o:(Int×f7×ae)⊕(f7×ae)) (hF:ke  s=some o):evW TT C.wide n62 b62 0 (mn  s)=Sum.elim (fun s=>evW TT C.wide n62 b62 0 (mn  s)) (fun r=>pg  r) o:=by
 obtain⟨p0,p1,p2⟩:=s
 rw [cG TT n62 EP]
 revert hF
 unfold ke
 try dsimp only
 refine ip (fun h1=>iv (fun h2=>az ?_) ?_) ?_
 rintro⟨x1,x2⟩ h3
 dsimp only
 have g1:C.wide 98 [.ptr 1 0,.ptr 2 0] [[.v (.sl 1 (ah cE p1.frest)),.v (.b false)],[.I p2.e5,.v (.s p2.iq),.I p2.iO,.own 2 (ah iC.row p2.iz),.own 1 (ah bY p2.af),.own 2 (ah f5.row p2.f9)],[.ptr 0 0]]=some (.tup [],[cGreader x1,[.I x2.e5,.v (.s x2.iq),.I x2.iO,.own 2 (ah iC.row x2.iz),.own 1 (ah bY x2.af),.own 2 (ah f5.row x2.f9)],[.ptr 0 0]]):=sa [1,2] [0,1,2] rfl rfl rfl rfl rfl rfl rfl rfl (xe (f7.mk p1.frest false) p2 _ h3) rfl rfl
 all_goals (rintro⟨⟩;intros;show cN _ _ _ (aH _ _ _ _ (Code.seq _ _) _)=_;simp (maxSteps:=4000000) only [*,cGreader,mn,pg,SU,NB,GY,Dm,L8,↓RP,RB,RC,↓ab,Nat.reduceBEq,List.map,Nat.reduceAdd,↓ao,↓am,↓aa,ty3,ty4,C8])
theorem zG (C:aj) (lN:lD C) (xe:wW C) (p0:f7) (p1:ae) (r:f7×ae) (hF:kI p0 p1=some r):cR TT C.wide (evW TT C.wide n62 b62) n62 Tryz.f62.results.toList (aU Tryz.f62) [.ptr 0 0,.clo 98 [.ptr 1 0,.ptr 2 0]] [cGreader p0,[.I p1.e5,.v (.s p1.iq),.I p1.iO,.own 2 (ah iC.row p1.iz),.own 1 (ah bY p1.af),.own 2 (ah f5.row p1.f9)],[.ptr 0 0]]=some (.tup [],[cGreader r.1,[.I r.2.e5,.v (.s r.2.iq),.I r.2.iO,.own 2 (ah iC.row r.2.iz),.own 1 (ah bY r.2.af),.own 2 (ah f5.row r.2.f9)],[.ptr 0 0]]):=by
 revert hF
 unfold kI
 refine az ?_
 rintro⟨x1,x2⟩ h1
 dsimp only
 have g1:C.wide 67 [.ptr 0 0] [cGreader p0,[.I p1.e5,.v (.s p1.iq),.I p1.iO,.own 2 (ah iC.row p1.iz),.own 1 (ah bY p1.af),.own 2 (ah f5.row p1.f9)],[.ptr 0 0]]=some (.I x1,[cGreader x2,[.I p1.e5,.v (.s p1.iq),.I p1.iO,.own 2 (ah iC.row p1.iz),.own 1 (ah bY p1.af),.own 2 (ah f5.row p1.f9)],[.ptr 0 0]]):=cX [0] rfl rfl rfl rfl (lN p0 _ h1) rfl rfl
 refine az ?_
 rintro⟨x3,x4⟩ h2
 dsimp only
 have g2:=cH _ _ (xx C xe) h2
 try simp only [mn,pg] at g2
 all_goals (rintro⟨⟩;rw [bk];show cC _ _ _ (aH _ _ _ _ (Code.seq _ _) _)=_;simp (maxSteps:=4000000) only [*,cGreader,MM,GY,Dm,MZ,↓RP,RB,RC,Nat.reduceBEq,List.map,Nat.reduceAdd,↓ao,↓aa,ty3])
def Z7:List (Nat×List Nat):=[(0,[1,2]),(1,[1,2,3]),(2,[1,2,3]),(3,[1,2,3]),(4,[2,3]),(5,[2])]
def n65:cL where
 keep:=ax Z7
 ro:=fun _=>false
 mv:=fun t=>t==20
 give:=fun _=>false
 free:=fun i=>match i with|1=>[(0,2),(1,2),(0,4),(1,4),(2,4),(3,4),(0,7),(1,7),(2,7),(3,7),(4,7),(5,7),(6,7)]|_=>[]
theorem qmi (i:Nat):n65.keep i=ax Z7 i:=rfl
theorem qhZ (t:Nat):n65.ro t=(false):=rfl
theorem qiT (t:Nat):n65.mv t=(t==20):=rfl
theorem qf5 (t:Nat):n65.give t=(false):=rfl
theorem qjv:n65.free 1= [(0,2),(1,2),(0,4),(1,4),(2,4),(3,4),(0,7),(1,7),(2,7),(3,7),(4,7),(5,7),(6,7)]:=rfl
theorem qkz:Tryz.f65.results.toList= [.cell 2 109]:=rfl
def b65:Code:=aU Tryz.f65
theorem QB (C:aj) (lN:lD C) (pP:pN C) (lQ:m8 C) (zt:q9 C) (CG:xQ C) (zJ:u7 C) (p0:f7) (r:ae×f7) (hF:yc p0=some r):cR TT C.wide (evW TT C.wide n65 b65) n65 Tryz.f65.results.toList (aU Tryz.f65) [.ptr 0 0] [cGreader p0]=some (.agg [.I r.1.e5,.v (.s r.1.iq),.I r.1.iO,.own 2 (ah iC.row r.1.iz),.own 1 (ah bY r.1.af),.own 2 (ah f5.row r.1.f9)],[cGreader r.2]):=by
 revert hF
 unfold yc
 refine az ?_
 rintro⟨x1,x2⟩ h1
 dsimp only
 have g1:C.wide 67 [.ptr 0 0] [cGreader p0,[.ptr 0 0],[.I 0,.v (.s ByteArray.empty),.I 0,.own 2 [],.own 1 [],.own 2 []]]=some (.I x1,[cGreader x2,[.ptr 0 0],[.I 0,.v (.s ByteArray.empty),.I 0,.own 2 [],.own 1 [],.own 2 []]]):=cX [0] rfl rfl rfl rfl (lN p0 _ h1) rfl rfl
 refine az ?_
 rintro⟨x3,x4⟩ h2
 dsimp only
 have g2:C.wide 64 [.ptr 0 0] [cGreader x2,[.ptr 0 0],[.I 0,.v (.s ByteArray.empty),.I 0,.own 2 [],.own 1 [],.own 2 []]]=some (.v (.s x3),[cGreader x4,[.ptr 0 0],[.I 0,.v (.s ByteArray.empty),.I 0,.own 2 [],.own 1 [],.own 2 []]]):=cX [0] rfl rfl rfl rfl (pP x2 _ h2) rfl rfl
 refine az ?_
 rintro⟨x5,x6⟩ h3
 dsimp only
 have g3:C.wide 61 [.ptr 0 0] [cGreader x4,[.ptr 0 0],[.I 0,.v (.s ByteArray.empty),.I 0,.own 2 [],.own 1 [],.own 2 []]]=some (.I x5,[cGreader x6,[.ptr 0 0],[.I 0,.v (.s ByteArray.empty),.I 0,.own 2 [],.own 1 [],.own 2 []]]):=cX [0] rfl rfl rfl rfl (lQ x4 _ h3) rfl rfl
 refine az ?_
 rintro⟨x7,x8⟩ h4
 dsimp only
 have g4:C.wide 62 [.ptr 0 0,.clo 97 [.ptr 3 0,.ptr 1 0]] [cGreader x6,[.ptr 0 0],[.I 0,.v (.s ByteArray.empty),.I 0,.own 2 [],.own 1 [],.own 2 []],[.I x1,.v (.s x3),.I x5,.own 2 [],.own 1 [],.own 2 []]]=some (.tup [],[cGreader x7,[.ptr 0 0],[.I 0,.v (.s ByteArray.empty),.I 0,.own 2 [],.own 1 [],.own 2 []],[.I x8.e5,.v (.s x8.iq),.I x8.iO,.own 2 (ah iC.row x8.iz),.own 1 (ah bY x8.af),.own 2 (ah f5.row x8.f9)]]):=sa [0,3,1] [0,3,1] rfl rfl rfl rfl rfl rfl rfl rfl (zt x6 (ae.mk x1 x3 x5 [] [] []) _ h4) rfl rfl
 refine az ?_
 rintro⟨x9,x10⟩ h5
 dsimp only
 have g5:C.wide 68 [.ptr 0 0] [cGreader x7,[.ptr 0 0],[.I 0,.v (.s ByteArray.empty),.I 0,.own 2 [],.own 1 [],.own 2 []],[.I x8.e5,.v (.s x8.iq),.I x8.iO,.own 2 (ah iC.row x8.iz),.own 1 (ah bY x8.af),.own 2 (ah f5.row x8.f9)]]=some (.own 1 (ah bY x9),[cGreader x10,[.ptr 0 0],[.I 0,.v (.s ByteArray.empty),.I 0,.own 2 [],.own 1 [],.own 2 []],[.I x8.e5,.v (.s x8.iq),.I x8.iO,.own 2 (ah iC.row x8.iz),.own 1 (ah bY x8.af),.own 2 (ah f5.row x8.f9)]]):=cX [0] rfl rfl rfl rfl (CG x7 _ h5) rfl rfl
 refine az ?_
 rintro⟨x11,x12⟩ h6
 dsimp only
 have g6:C.wide 62 [.ptr 0 0,.clo 98 [.ptr 3 0,.ptr 1 0]] [cGreader x10,[.ptr 0 0],[.I 0,.v (.s ByteArray.empty),.I 0,.own 2 [],.own 1 [],.own 2 []],[.I x8.e5,.v (.s x8.iq),.I x8.iO,.own 2 (ah iC.row x8.iz),.own 1 (ah bY x9),.own 2 (ah f5.row x8.f9)]]=some (.tup [],[cGreader x11,[.ptr 0 0],[.I 0,.v (.s ByteArray.empty),.I 0,.own 2 [],.own 1 [],.own 2 []],[.I x12.e5,.v (.s x12.iq),.I x12.iO,.own 2 (ah iC.row x12.iz),.own 1 (ah bY x12.af),.own 2 (ah f5.row x12.f9)]]):=sa [0,3,1] [0,3,1] rfl rfl rfl rfl rfl rfl rfl rfl (zJ x10 (ae.mk x8.e5 x8.iq x8.iO x8.iz x9 x8.f9) _ h6) rfl rfl
 all_goals (rintro⟨⟩;rw [bk];show cC _ _ _ (aH _ _ _ _ (Code.seq _ _) _)=_;simp (maxSteps:=4000000) only [*,cGreader,qkz,qmi,Z7,qjv,qhZ,qiT,qf5,↓RP,RB,RC,Nat.reduceBEq,bP,List.map,Nat.reduceAdd,List.foldl_cons,List.foldl_nil,List.filter_cons,List.filter_nil,Nat.reduceSub,Nat.reduceLT,Nat.reduceLeDiff,cr,bne,↓ao,↓aa,↓aq,ty3,ty9,ti,mJ,oN,kU,CV])
def qd0:List (Nat×List Nat):=[(0,[])]
def n63:cL where
 keep:=ax qd0
 ro:=fun _=>false
 mv:=fun _=>false
 give:=fun _=>false
 free:=fun i=>match i with|0=>[(0,3),(1,3),(2,3),(0,4),(1,4),(2,4),(0,5),(1,5),(2,5),(3,5),(4,5),(0,6),(1,6),(2,6),(0,7),(1,7),(2,7),(3,7),(4,7),(5,7),(6,7),(0,8),(1,8),(2,8),(0,9),(1,9),(2,9),(0,10),(1,10),(2,10)]|_=>[]
theorem qlQ (i:Nat):n63.keep i=ax qd0 i:=rfl
theorem qgA (t:Nat):n63.mv t=(false):=rfl
theorem qhp (t:Nat):n63.give t=(false):=rfl
theorem qgs:n63.free 0= [(0,3),(1,3),(2,3),(0,4),(1,4),(2,4),(0,5),(1,5),(2,5),(3,5),(4,5),(0,6),(1,6),(2,6),(0,7),(1,7),(2,7),(3,7),(4,7),(5,7),(6,7),(0,8),(1,8),(2,8),(0,9),(1,9),(2,9),(0,10),(1,10),(2,10)]:=rfl
theorem qf0:Tryz.f63.results.toList= []:=rfl
def b63:Code:=aU Tryz.f63
theorem A7 (C:aj) (pP:pN C) (Qx:I3 C) (lQ:m8 C) (p0:f7) (p1:ad) (r:f7×ad) (hF:nC p0 p1=some r):cR TT C.wide (evW TT C.wide n63 b63) n63 Tryz.f63.results.toList (aU Tryz.f63) [.ptr 1 0,.ptr 2 0] [cGreader p0,[.I p1.e7.iS,.own 8 (ah gi.row p1.e7.f6),.I p1.iI,.own 7 (ah cc.row p1.cO)],[.ptr 0 0]]=some (.tup [],[cGreader r.1,[.I r.2.e7.iS,.own 8 (ah gi.row r.2.e7.f6),.I r.2.iI,.own 7 (ah cc.row r.2.cO)],[.ptr 0 0]]):=by
 revert hF
 unfold nC
 refine az ?_
 rintro⟨x1,x2⟩ h1
 dsimp only
 have g1:C.wide 64 [.ptr 0 0] [cGreader p0,[.I p1.e7.iS,.own 8 (ah gi.row p1.e7.f6),.I p1.iI,.own 7 (ah cc.row p1.cO)],[.ptr 0 0]]=some (.v (.s x1),[cGreader x2,[.I p1.e7.iS,.own 8 (ah gi.row p1.e7.f6),.I p1.iI,.own 7 (ah cc.row p1.cO)],[.ptr 0 0]]):=cX [0] rfl rfl rfl rfl (pP p0 _ h1) rfl rfl
 refine az ?_
 rintro⟨x3,x4⟩ h2
 dsimp only
 have g2:C.wide 65 [.ptr 0 0] [cGreader x2,[.I p1.e7.iS,.own 8 (ah gi.row p1.e7.f6),.I p1.iI,.own 7 (ah cc.row p1.cO)],[.ptr 0 0]]=some (.agg [.I x3.e5,.v (.s x3.iq),.I x3.iO,.own 2 (ah iC.row x3.iz),.own 1 (ah bY x3.af),.own 2 (ah f5.row x3.f9)],[cGreader x4,[.I p1.e7.iS,.own 8 (ah gi.row p1.e7.f6),.I p1.iI,.own 7 (ah cc.row p1.cO)],[.ptr 0 0]]):=cX [0] rfl rfl rfl rfl (Qx x2 _ h2) rfl rfl
 refine az ?_
 rintro⟨x5,x6⟩ h3
 dsimp only
 have g3:C.wide 61 [.ptr 0 0] [cGreader x4,[.I p1.e7.iS,.own 8 (ah gi.row p1.e7.f6),.I p1.iI,.own 7 (ah cc.row p1.cO)],[.ptr 0 0]]=some (.I x5,[cGreader x6,[.I p1.e7.iS,.own 8 (ah gi.row p1.e7.f6),.I p1.iI,.own 7 (ah cc.row p1.cO)],[.ptr 0 0]]):=cX [0] rfl rfl rfl rfl (lQ x4 _ h3) rfl rfl
 refine oC fun h4=>?_
 all_goals (rintro⟨⟩;rw [bk];show cC _ _ _ (aH _ _ _ _ (Code.region _ _ _) _)=_;simp (maxSteps:=4000000) only [*,cGreader,qf0,qlQ,qd0,qgs,qgA,qhp,↓RP,RB,RC,Nat.reduceBEq,bP,List.map,Nat.reduceAdd,Nat.reduceMul,List.foldl_cons,List.foldl_nil,List.filter_cons,List.filter_nil,Nat.reduceSub,Nat.reduceLeDiff,bne,↓aq,ty3,ty9,Ad,ug,sm,kU,zO,CV,gi.one])
def kR  (s:Int×f7×ad):St:=⟨[(0,.ptr 0 0),(1,.clo 63 [.ptr 1 0,.ptr 2 0]),(4,.I s.1)],[cGreader s.2.1,[.I s.2.2.e7.iS,.own 8 (ah gi.row s.2.2.e7.f6),.I s.2.2.iI,.own 7 (ah cc.row s.2.2.cO)],[.ptr 0 0]]⟩
def mI  (r:f7×ad):Option (Ex×St):=some (.normal,⟨[],[cGreader r.1,[.I r.2.e7.iS,.own 8 (ah gi.row r.2.e7.f6),.I r.2.iI,.own 7 (ah cc.row r.2.cO)],[.ptr 0 0]]⟩)
theorem vK (C:aj) (tv:tS C)  (s:Int×f7×ad) (o:(Int×f7×ad)⊕(f7×ad)) (hF:jJ  s=some o):evW TT C.wide n62 b62 0 (kR  s)=Sum.elim (fun s=>evW TT C.wide n62 b62 0 (kR  s)) (fun r=>mI  r) o:=by
 obtain⟨p0,p1,p2⟩:=s
 rw [cG TT n62 EP]
 revert hF
 unfold jJ
 try dsimp only
 refine ip (fun h1=>iv (fun h2=>az ?_) ?_) ?_
 rintro⟨x1,x2⟩ h3
 dsimp only
 have g1:C.wide 63 [.ptr 1 0,.ptr 2 0] [[.v (.sl 1 (ah cE p1.frest)),.v (.b false)],[.I p2.e7.iS,.own 8 (ah gi.row p2.e7.f6),.I p2.iI,.own 7 (ah cc.row p2.cO)],[.ptr 0 0]]=some (.tup [],[cGreader x1,[.I x2.e7.iS,.own 8 (ah gi.row x2.e7.f6),.I x2.iI,.own 7 (ah cc.row x2.cO)],[.ptr 0 0]]):=sa [1,2] [0,1,2] rfl rfl rfl rfl rfl rfl rfl rfl (tv (f7.mk p1.frest false) p2 _ h3) rfl rfl
 all_goals (rintro⟨⟩;intros;show cN _ _ _ (aH _ _ _ _ (Code.seq _ _) _)=_;simp (maxSteps:=4000000) only [*,cGreader,kR,mI,SU,NB,GY,Dm,L8,↓RP,RB,RC,↓ab,Nat.reduceBEq,List.map,Nat.reduceAdd,↓ao,↓am,↓aa,ty3,ty4,C8])
theorem xg (C:aj) (lN:lD C) (tv:tS C) (p0:f7) (p1:ad) (r:f7×ad) (hF:jT p0 p1=some r):cR TT C.wide (evW TT C.wide n62 b62) n62 Tryz.f62.results.toList (aU Tryz.f62) [.ptr 0 0,.clo 63 [.ptr 1 0,.ptr 2 0]] [cGreader p0,[.I p1.e7.iS,.own 8 (ah gi.row p1.e7.f6),.I p1.iI,.own 7 (ah cc.row p1.cO)],[.ptr 0 0]]=some (.tup [],[cGreader r.1,[.I r.2.e7.iS,.own 8 (ah gi.row r.2.e7.f6),.I r.2.iI,.own 7 (ah cc.row r.2.cO)],[.ptr 0 0]]):=by
 revert hF
 unfold jT
 refine az ?_
 rintro⟨x1,x2⟩ h1
 dsimp only
 have g1:C.wide 67 [.ptr 0 0] [cGreader p0,[.I p1.e7.iS,.own 8 (ah gi.row p1.e7.f6),.I p1.iI,.own 7 (ah cc.row p1.cO)],[.ptr 0 0]]=some (.I x1,[cGreader x2,[.I p1.e7.iS,.own 8 (ah gi.row p1.e7.f6),.I p1.iI,.own 7 (ah cc.row p1.cO)],[.ptr 0 0]]):=cX [0] rfl rfl rfl rfl (lN p0 _ h1) rfl rfl
 refine az ?_
 rintro⟨x3,x4⟩ h2
 dsimp only
 have g2:=cH _ _ (vK C tv) h2
 try simp only [kR,mI] at g2
 all_goals (rintro⟨⟩;rw [bk];show cC _ _ _ (aH _ _ _ _ (Code.seq _ _) _)=_;simp (maxSteps:=4000000) only [*,cGreader,MM,GY,Dm,MZ,↓RP,RB,RC,Nat.reduceBEq,List.map,Nat.reduceAdd,↓ao,↓aa,ty3])
def qat:List (Nat×List Nat):=[(0,[0,1,2]),(1,[0,1,2]),(2,[1,2]),(3,[])]
def n66:cL where
 keep:=ax qat
 ro:=fun _=>false
 mv:=fun t=>t==24
 give:=fun _=>false
 free:=fun i=>match i with|0=>[(0,2),(1,2),(0,4),(1,4),(2,4),(3,4),(0,7),(1,7),(2,7),(3,7),(4,7),(5,7),(6,7)]|1=>[(0,2),(1,2),(0,4),(1,4),(2,4),(3,4)]|_=>[]
theorem qmb (i:Nat):n66.keep i=ax qat i:=rfl
theorem qh5 (t:Nat):n66.mv t=(t==24):=rfl
theorem qik (t:Nat):n66.give t=(false):=rfl
theorem qkZ:n66.free 0= [(0,2),(1,2),(0,4),(1,4),(2,4),(3,4),(0,7),(1,7),(2,7),(3,7),(4,7),(5,7),(6,7)]:=rfl
theorem qkh:n66.free 1= [(0,2),(1,2),(0,4),(1,4),(2,4),(3,4)]:=rfl
theorem qfR:Tryz.f66.results.toList= []:=rfl
def b66:Code:=aU Tryz.f66
theorem Bj (C:aj) (lQ:m8 C) (lN:lD C) (pP:pN C) (CG:xQ C) (p0:f7) (p1:ad) (r:f7×ad) (hF:nB p0 p1=some r):cR TT C.wide (evW TT C.wide n66 b66) n66 Tryz.f66.results.toList (aU Tryz.f66) [.ptr 1 0,.ptr 2 0] [cGreader p0,[.ptr 0 0],[.I p1.e7.iS,.own 8 (ah gi.row p1.e7.f6),.I p1.iI,.own 7 (ah cc.row p1.cO)]]=some (.tup [],[cGreader r.1,[.ptr 0 0],[.I r.2.e7.iS,.own 8 (ah gi.row r.2.e7.f6),.I r.2.iI,.own 7 (ah cc.row r.2.cO)]]):=by
 revert hF
 unfold nB
 refine az ?_
 rintro⟨x1,x2⟩ h1
 dsimp only
 unfold sP
 have g1:C.wide 61 [.ptr 0 0] [cGreader p0,[.ptr 0 0],[.I p1.e7.iS,.own 8 (ah gi.row p1.e7.f6),.I p1.iI,.own 7 (ah cc.row p1.cO)]]=some (.I x1,[cGreader x2,[.ptr 0 0],[.I p1.e7.iS,.own 8 (ah gi.row p1.e7.f6),.I p1.iI,.own 7 (ah cc.row p1.cO)]]):=cX [0] rfl rfl rfl rfl (lQ p0 _ h1) rfl rfl
 refine az ?_
 rintro⟨x3,x4⟩ h2
 dsimp only
 have g2:C.wide 61 [.ptr 0 0] [cGreader x2,[.ptr 0 0],[.I p1.e7.iS,.own 8 (ah gi.row p1.e7.f6),.I p1.iI,.own 7 (ah cc.row p1.cO)]]=some (.I x3,[cGreader x4,[.ptr 0 0],[.I p1.e7.iS,.own 8 (ah gi.row p1.e7.f6),.I p1.iI,.own 7 (ah cc.row p1.cO)]]):=cX [0] rfl rfl rfl rfl (lQ x2 _ h2) rfl rfl
 refine az ?_
 rintro⟨x5,x6⟩ h3
 dsimp only
 have g3:C.wide 61 [.ptr 0 0] [cGreader x4,[.ptr 0 0],[.I p1.e7.iS,.own 8 (ah gi.row p1.e7.f6),.I p1.iI,.own 7 (ah cc.row p1.cO)]]=some (.I x5,[cGreader x6,[.ptr 0 0],[.I p1.e7.iS,.own 8 (ah gi.row p1.e7.f6),.I p1.iI,.own 7 (ah cc.row p1.cO)]]):=cX [0] rfl rfl rfl rfl (lQ x4 _ h3) rfl rfl
 refine az ?_
 rintro⟨x7,x8⟩ h4
 dsimp only
 have g4:C.wide 67 [.ptr 0 0] [cGreader x6,[.ptr 0 0],[.I p1.e7.iS,.own 8 (ah gi.row p1.e7.f6),.I p1.iI,.own 7 (ah cc.row p1.cO)],[.I x1,.I x3,.I x5,.I 0,.v (.s ByteArray.empty),.I 0,.own 1 []]]=some (.I x7,[cGreader x8,[.ptr 0 0],[.I p1.e7.iS,.own 8 (ah gi.row p1.e7.f6),.I p1.iI,.own 7 (ah cc.row p1.cO)],[.I x1,.I x3,.I x5,.I 0,.v (.s ByteArray.empty),.I 0,.own 1 []]]):=cX [0] rfl rfl rfl rfl (lN x6 _ h4) rfl rfl
 refine az ?_
 rintro⟨x9,x10⟩ h5
 dsimp only
 have g5:C.wide 64 [.ptr 0 0] [cGreader x8,[.ptr 0 0],[.I p1.e7.iS,.own 8 (ah gi.row p1.e7.f6),.I p1.iI,.own 7 (ah cc.row p1.cO)],[.I x1,.I x3,.I x5,.I 0,.v (.s ByteArray.empty),.I 0,.own 1 []]]=some (.v (.s x9),[cGreader x10,[.ptr 0 0],[.I p1.e7.iS,.own 8 (ah gi.row p1.e7.f6),.I p1.iI,.own 7 (ah cc.row p1.cO)],[.I x1,.I x3,.I x5,.I 0,.v (.s ByteArray.empty),.I 0,.own 1 []]]):=cX [0] rfl rfl rfl rfl (pP x8 _ h5) rfl rfl
 refine az ?_
 rintro⟨x11,x12⟩ h6
 dsimp only
 have g6:C.wide 61 [.ptr 0 0] [cGreader x10,[.ptr 0 0],[.I p1.e7.iS,.own 8 (ah gi.row p1.e7.f6),.I p1.iI,.own 7 (ah cc.row p1.cO)],[.I x1,.I x3,.I x5,.I 0,.v (.s ByteArray.empty),.I 0,.own 1 []]]=some (.I x11,[cGreader x12,[.ptr 0 0],[.I p1.e7.iS,.own 8 (ah gi.row p1.e7.f6),.I p1.iI,.own 7 (ah cc.row p1.cO)],[.I x1,.I x3,.I x5,.I 0,.v (.s ByteArray.empty),.I 0,.own 1 []]]):=cX [0] rfl rfl rfl rfl (lQ x10 _ h6) rfl rfl
 refine az ?_
 rintro⟨x13,x14⟩ h7
 dsimp only
 have g7:C.wide 68 [.ptr 0 0] [cGreader x12,[.ptr 0 0],[.I p1.e7.iS,.own 8 (ah gi.row p1.e7.f6),.I p1.iI,.own 7 (ah cc.row p1.cO)],[.I x1,.I x3,.I x5,.I x7,.v (.s x9),.I x11,.own 1 []]]=some (.own 1 (ah bY x13),[cGreader x14,[.ptr 0 0],[.I p1.e7.iS,.own 8 (ah gi.row p1.e7.f6),.I p1.iI,.own 7 (ah cc.row p1.cO)],[.I x1,.I x3,.I x5,.I x7,.v (.s x9),.I x11,.own 1 []]]):=cX [0] rfl rfl rfl rfl (CG x12 _ h7) rfl rfl
 refine oC fun h8=>?_
 all_goals (rintro⟨⟩;rw [bk];show cC _ _ _ (aH _ _ _ _ (Code.seq _ _) _)=_;simp (maxSteps:=4000000) only [*,cGreader,qfR,qmb,qat,qkZ,qkh,qh5,qik,↓RP,RB,RC,Nat.reduceBEq,bP,List.map,Nat.reduceAdd,Nat.reduceMul,List.foldl_cons,List.foldl_nil,List.filter_cons,List.filter_nil,Nat.reduceSub,Nat.reduceLT,Nat.reduceLeDiff,cr,bne,↓ao,↓aa,↓aq,ty3,ty9,kQ,xm,sm,mJ,wQ,zm,CV,cc.one])
def kS  (s:Int×f7×ad):St:=⟨[(0,.ptr 0 0),(1,.clo 66 [.ptr 1 0,.ptr 2 0]),(4,.I s.1)],[cGreader s.2.1,[.ptr 0 0],[.I s.2.2.e7.iS,.own 8 (ah gi.row s.2.2.e7.f6),.I s.2.2.iI,.own 7 (ah cc.row s.2.2.cO)]]⟩
def mH  (r:f7×ad):Option (Ex×St):=some (.normal,⟨[],[cGreader r.1,[.ptr 0 0],[.I r.2.e7.iS,.own 8 (ah gi.row r.2.e7.f6),.I r.2.iI,.own 7 (ah cc.row r.2.cO)]]⟩)
theorem vS (C:aj) (tB:tL C)  (s:Int×f7×ad) (o:(Int×f7×ad)⊕(f7×ad)) (hF:jK  s=some o):evW TT C.wide n62 b62 0 (kS  s)=Sum.elim (fun s=>evW TT C.wide n62 b62 0 (kS  s)) (fun r=>mH  r) o:=by
 obtain⟨p0,p1,p2⟩:=s
 rw [cG TT n62 EP]
 revert hF
 unfold jK
 try dsimp only
 refine ip (fun h1=>iv (fun h2=>az ?_) ?_) ?_
 rintro⟨x1,x2⟩ h3
 dsimp only
 have g1:C.wide 66 [.ptr 1 0,.ptr 2 0] [[.v (.sl 1 (ah cE p1.frest)),.v (.b false)],[.ptr 0 0],[.I p2.e7.iS,.own 8 (ah gi.row p2.e7.f6),.I p2.iI,.own 7 (ah cc.row p2.cO)]]=some (.tup [],[cGreader x1,[.ptr 0 0],[.I x2.e7.iS,.own 8 (ah gi.row x2.e7.f6),.I x2.iI,.own 7 (ah cc.row x2.cO)]]):=sa [1,2] [0,1,2] rfl rfl rfl rfl rfl rfl rfl rfl (tB (f7.mk p1.frest false) p2 _ h3) rfl rfl
 all_goals (rintro⟨⟩;intros;show cN _ _ _ (aH _ _ _ _ (Code.seq _ _) _)=_;simp (maxSteps:=4000000) only [*,cGreader,kS,mH,SU,NB,GY,Dm,L8,↓RP,RB,RC,↓ab,Nat.reduceBEq,List.map,Nat.reduceAdd,↓ao,↓am,↓aa,ty3,ty4,C8])
theorem w3 (C:aj) (lN:lD C) (tB:tL C) (p0:f7) (p1:ad) (r:f7×ad) (hF:jR p0 p1=some r):cR TT C.wide (evW TT C.wide n62 b62) n62 Tryz.f62.results.toList (aU Tryz.f62) [.ptr 0 0,.clo 66 [.ptr 1 0,.ptr 2 0]] [cGreader p0,[.ptr 0 0],[.I p1.e7.iS,.own 8 (ah gi.row p1.e7.f6),.I p1.iI,.own 7 (ah cc.row p1.cO)]]=some (.tup [],[cGreader r.1,[.ptr 0 0],[.I r.2.e7.iS,.own 8 (ah gi.row r.2.e7.f6),.I r.2.iI,.own 7 (ah cc.row r.2.cO)]]):=by
 revert hF
 unfold jR
 refine az ?_
 rintro⟨x1,x2⟩ h1
 dsimp only
 have g1:C.wide 67 [.ptr 0 0] [cGreader p0,[.ptr 0 0],[.I p1.e7.iS,.own 8 (ah gi.row p1.e7.f6),.I p1.iI,.own 7 (ah cc.row p1.cO)]]=some (.I x1,[cGreader x2,[.ptr 0 0],[.I p1.e7.iS,.own 8 (ah gi.row p1.e7.f6),.I p1.iI,.own 7 (ah cc.row p1.cO)]]):=cX [0] rfl rfl rfl rfl (lN p0 _ h1) rfl rfl
 refine az ?_
 rintro⟨x3,x4⟩ h2
 dsimp only
 have g2:=cH _ _ (vS C tB) h2
 try simp only [kS,mH] at g2
 all_goals (rintro⟨⟩;rw [bk];show cC _ _ _ (aH _ _ _ _ (Code.seq _ _) _)=_;simp (maxSteps:=4000000) only [*,cGreader,MM,GY,Dm,MZ,↓RP,RB,RC,Nat.reduceBEq,List.map,Nat.reduceAdd,↓ao,↓aa,ty3])
def qd7:List (Nat×List Nat):=[(0,[0,1]),(1,[0,1,5]),(2,[4]),(3,[10]),(4,[4]),(5,[4])]
def qeD:List (Nat×List Nat×List Nat):=[(5,[],[0,1]),(10,[],[])]
def n69:cL where
 keep:=ax qd7
 ro:=fun _=>false
 mv:=fun _=>false
 give:=fun _=>false
 free:=fun _=>[]
 alive:=av qeD
theorem qmU (t:Nat) (x:Bool) (e:Env) (S:bH):cK n69 t x ⟨e,S⟩=atO (av qeD t x) e S:=cF rfl t x e S
theorem qlk (i:Nat):n69.keep i=ax qd7 i:=rfl
theorem qf1 (t:Nat):n69.mv t=(false):=rfl
theorem qjx:Tryz.f69.results.toList= [.tmp 4]:=rfl
def b69:Code:=aU Tryz.f69
theorem Wa (C:aj)  (p0:Bool) (p1:f7) (r:Int×f7) (hF:Hi p0 p1=some r):cR TT C.wide (evW TT C.wide n69 b69) n69 Tryz.f69.results.toList (aU Tryz.f69) [.ptr 0 0,.v (.b p0)] [cGreader p1]=some (.I r.1,[cGreader r.2]):=by
 revert hF
 unfold Hi
 refine iv (fun h1=>ip (fun h2=>iv (fun h3=>?_) ?_) ?_) ?_
 all_goals (rintro⟨⟩;intros;rw [bk];show cC _ _ _ (aH _ _ _ _ (Code.seq _ _) _)=_;simp (maxSteps:=4000000) only [*,cGreader,qjx,qmU,qeD,qlk,qd7,qf1,↓RP,RB,RC,↓ai,Nat.reduceBEq,List.map,Nat.reduceAdd,↓ao,↓am,↓aa,ty3,ty4,AJ,kQ,C8])
def qft:List (Nat×List Nat):=[(0,[0,2]),(1,[0,2,10]),(2,[2,3]),(3,[2,4]),(4,[2,4,5]),(5,[2,4,5]),(6,[2,4,5]),(7,[2,4,5]),(8,[2,4,5]),(9,[2,5,6]),(10,[2,5,6,32]),(11,[2,3]),(12,[2,5,7]),(13,[2,5,7,38]),(14,[2,3]),(15,[2,3])]
def qeL:List (Nat×List Nat×List Nat):=[(10,[2],[0,2]),(32,[2,6],[2,5]),(38,[2,7],[2,5])]
def n29:cL where
 keep:=ax qft
 ro:=fun _=>false
 mv:=fun t=>t==41
 give:=fun _=>false
 free:=fun _=>[]
 alive:=av qeL
theorem ql3 (t:Nat) (x:Bool) (e:Env) (S:bH):cK n29 t x ⟨e,S⟩=atO (av qeL t x) e S:=cF rfl t x e S
theorem ql8 (i:Nat):n29.keep i=ax qft i:=rfl
theorem qkY (t:Nat):n29.ro t=(false):=rfl
theorem qh0 (t:Nat):n29.mv t=(t==41):=rfl
theorem qgw (t:Nat):n29.give t=(false):=rfl
theorem qfP:Tryz.f29.results.toList= [.cell 2 39,.tmp 3]:=rfl
def b29:Code:=aU Tryz.f29
theorem Gp (C:aj) (DA:vo C) (lQ:m8 C) (xj:ou C) (xl:oj C) (WG:PB C) (Lh:DV C) (p0:List Int) (r:ad×Int) (hF:qZ p0=some r):cR TT C.wide (evW TT C.wide n29 b29) n29 Tryz.f29.results.toList (aU Tryz.f29) [.v (.sl 1 (ah cE p0))] []=some (.tup [.agg (cGMachine r.1),.I r.2],[]):=by
 revert hF
 unfold qZ
 refine iv (fun h1=>az fun x1 h2=>?_) ?_
 have g1:=bK (DA p0 _ h2)
 refine az ?_
 rintro⟨x2,x3⟩ h3
 dsimp only
 unfold wy
 have g2:C.wide 61 [.ptr 1 0] [[.I 0,.own 8 [],.I 0,.own 7 []],[.v (.sl 1 (ah cE x1)),.v (.b false)],[.ptr 1 0],[.I 0,.own 8 [],.I 0,.own 7 []]]=some (.I x2,[[.I 0,.own 8 [],.I 0,.own 7 []],cGreader x3,[.ptr 1 0],[.I 0,.own 8 [],.I 0,.own 7 []]]):=cX [1] rfl rfl rfl rfl (lQ (f7.mk x1 false) _ h3) rfl rfl
 refine az ?_
 rintro⟨x4,x5⟩ h4
 dsimp only
 have g3:C.wide 62 [.ptr 1 0,.clo 63 [.ptr 3 0,.ptr 2 0]] [[.I 0,.own 8 [],.I 0,.own 7 []],cGreader x3,[.ptr 1 0],[.I x2,.own 8 [],.I 0,.own 7 []]]=some (.tup [],[[.I 0,.own 8 [],.I 0,.own 7 []],cGreader x4,[.ptr 1 0],[.I x5.e7.iS,.own 8 (ah gi.row x5.e7.f6),.I x5.iI,.own 7 (ah cc.row x5.cO)]]):=sa [1,3,2] [1,3,2] rfl rfl rfl rfl rfl rfl rfl rfl (xj x3 (ad.mk (iJ.mk x2 []) 0 []) _ h4) rfl rfl
 refine az ?_
 rintro⟨x6,x7⟩ h5
 dsimp only
 have g4:C.wide 61 [.ptr 1 0] [[.I 0,.own 8 [],.I 0,.own 7 []],cGreader x4,[.ptr 1 0],[.I x5.e7.iS,.own 8 (ah gi.row x5.e7.f6),.I x5.iI,.own 7 (ah cc.row x5.cO)]]=some (.I x6,[[.I 0,.own 8 [],.I 0,.own 7 []],cGreader x7,[.ptr 1 0],[.I x5.e7.iS,.own 8 (ah gi.row x5.e7.f6),.I x5.iI,.own 7 (ah cc.row x5.cO)]]):=cX [1] rfl rfl rfl rfl (lQ x4 _ h5) rfl rfl
 refine az ?_
 rintro⟨x8,x9⟩ h6
 dsimp only
 have g5:C.wide 62 [.ptr 1 0,.clo 66 [.ptr 2 0,.ptr 3 0]] [[.I 0,.own 8 [],.I 0,.own 7 []],cGreader x7,[.ptr 1 0],[.I x5.e7.iS,.own 8 (ah gi.row x5.e7.f6),.I x6,.own 7 (ah cc.row x5.cO)]]=some (.tup [],[[.I 0,.own 8 [],.I 0,.own 7 []],cGreader x8,[.ptr 1 0],[.I x9.e7.iS,.own 8 (ah gi.row x9.e7.f6),.I x9.iI,.own 7 (ah cc.row x9.cO)]]):=sa [1,2,3] [1,2,3] rfl rfl rfl rfl rfl rfl rfl rfl (xl x7 (ad.mk x5.e7 x6 x5.cO) _ h6) rfl rfl
 refine az ?_
 rintro⟨x10,x11⟩ h7
 dsimp only
 have g6:C.wide 69 [.ptr 1 0,.v (.b true)] [[.I 0,.own 8 [],.I 0,.own 7 []],cGreader x8,[.ptr 1 0],[.I x9.e7.iS,.own 8 (ah gi.row x9.e7.f6),.I x9.iI,.own 7 (ah cc.row x9.cO)]]=some (.I x10,[[.I 0,.own 8 [],.I 0,.own 7 []],cGreader x11,[.ptr 1 0],[.I x9.e7.iS,.own 8 (ah gi.row x9.e7.f6),.I x9.iI,.own 7 (ah cc.row x9.cO)]]):=cX [1] rfl rfl rfl rfl (WG true x8 _ h7) rfl rfl
 refine ip (fun h8=>az fun x12 h9=>?_) ?_
 have g7:=bK (Lh x9 _ h9)
 refine iv (fun h10=>?_) ?_
 all_goals (rintro⟨⟩;intros;rw [bk];show cC _ _ _ (aH _ _ _ _ (Code.seq _ _) _)=_;simp (maxSteps:=4000000) only [*,cGMachine,cGreader,qfP,ql3,qeL,ql8,qft,qkY,qh0,qgw,↓RP,RB,RC,Nat.reduceBEq,bP,List.map,Nat.reduceAdd,Nat.reduceLT,Nat.reduceLeDiff,bne,↓ao,↓am,↓aa,aP,ty3,ty4,AJ,kQ,ug,xm,sm,CV,C8])
def Qn:List (Nat×List Nat):=[(0,[0,2]),(1,[0,2,4]),(2,[0,2,4,13,14,15]),(3,[0,2,4,13,14,15,16]),(4,[0,2,4,6,13,14,15]),(5,[0,2,4,6,7,13,14,15]),(6,[0,2,4,6,7,13,14,15,22]),(7,[2,3]),(8,[0,2,4,6,13,14,15,26]),(9,[0,2,4,6,13,14,15,26,27]),(10,[0,2,4,13,14,15]),(11,[0,2,4,6,13,14,15,26,35]),(12,[0,2,4,8,9,13,14,15]),(13,[0,2,4,8,9,13,14,15,48]),(14,[2,3]),(15,[0,2,4,13,14,15]),(16,[0,2,4,6,13,14,15,53]),(17,[0,2,4,6,13,14,15,61]),(18,[0,2,4,13,14,15]),(19,[0,2,4,13,14,15]),(20,[2,4,10,77]),(21,[2,4]),(22,[2,4]),(23,[2,3])]
def RZ:List (Nat×List Nat×List Nat):=[(16,[0,2,4,13,14,15],[2,4]),(22,[2,7],[0,2,4,6,13,14,15]),(27,[0,2,4,6,13,14,15],[0,2,4,6,13,14,15,26]),(35,[0,2,4,6,13,14,15],[0,2,4,6,13,14,15,26]),(48,[2,9],[0,2,4,8,13,14,15]),(53,[0,2,4,6,13,14,15],[0,2,4,13,14,15]),(61,[0,2,4,6,13,14,15],[0,2,4,13,14,15])]
def n11:cL where
 keep:=ax Qn
 ro:=fun _=>false
 mv:=fun _=>false
 give:=fun t=>t==2||t==4||t==52||t==69||t==70||t==85||t==91
 free:=fun i=>match i with|10=>[(0,2),(1,2),(0,3),(1,3),(2,4),(3,4),(2,5),(3,5)]|18=>[(0,2),(1,2),(0,3),(1,3),(0,4),(1,4),(2,4),(3,4),(0,5),(1,5),(2,5),(3,5),(0,6),(1,6),(4,7),(5,7),(6,7)]|_=>[]
 alive:=av RZ
theorem qcU (t:Nat) (x:Bool) (e:Env) (S:bH):cK n11 t x ⟨e,S⟩=atO (av RZ t x) e S:=cF rfl t x e S
theorem VD (i:Nat):n11.keep i=ax Qn i:=rfl
theorem Qg (t:Nat):n11.mv t=(false):=rfl
theorem SR (t:Nat):n11.give t=(t==2||t==4||t==52||t==69||t==70||t==85||t==91):=rfl
theorem qbn:n11.free 10= [(0,2),(1,2),(0,3),(1,3),(2,4),(3,4),(2,5),(3,5)]:=rfl
theorem qbb:n11.free 18= [(0,2),(1,2),(0,3),(1,3),(0,4),(1,4),(2,4),(3,4),(0,5),(1,5),(2,5),(3,5),(0,6),(1,6),(4,7),(5,7),(6,7)]:=rfl
theorem qkU:Tryz.f11.results.toList= [.cell 2 46,.tmp 3]:=rfl
def b11:Code:=aU Tryz.f11
def qkV:Code:=(bE 0 (aU Tryz.f11)).getD .skip
theorem qek:bE 0 b11=some qkV:=rfl
theorem AN (C:aj) (nK:tm C) (p0:List bi) (p1:Int) (p2:Int) (p3:Bool) (p4:iL) (p5:bi) (c:Code) (ho:cD 1 61 b11=some c) (r:iL) (hF:pM p0 p1 p2 p3 p4 p5=some r): @cV TT C.wide (evW TT C.wide n11 b11) n11 1 61 ⟨[(0,.v (.sl 20 (ah bi.row p0))),(2,.ptr 0 0),(4,.ptr 1 0),(6,.ptr 2 0),(13,.v (.sl 20 (ah bi.row p0))),(14,.I p1),(15,.I p2),(61,.v (.b p3))],[[.I 0,.I 0,.I 0,.I 0,.I 0,.own 8 [],.I 0,.own 7 [],.I 0,.I 0,.own 10 []],cGDisk p4,cGRecord p5]⟩ ⟨c⟩=some (.normal,⟨[(0,.v (.sl 20 (ah bi.row p0))),(2,.ptr 0 0),(4,.ptr 1 0),(13,.v (.sl 20 (ah bi.row p0))),(14,.I p1),(15,.I p2)],[[.I 0,.I 0,.I 0,.I 0,.I 0,.own 8 [],.I 0,.own 7 [],.I 0,.I 0,.own 10 []],cGDisk r,cGRecord p5]⟩):=by
 have e:=Option.some.inj (ho.symm.trans (rfl:cD 1 61 b11=some _))
 subst e
 clear ho
 show aH _ _ _ _ _ _=_
 revert hF
 unfold pM
 refine ip (fun h1=>az fun x1 h2=>?_) ?_
 have g1:=bK (nK p4.jh p5.iG _ h2)
 all_goals (rintro⟨⟩;intros;simp (maxSteps:=4000000) only [*,cGDisk,cGLog,cGRecord,qcU,RZ,VD,Qn,qbb,Qg,SR,↓RP,RB,RC,Nat.reduceBEq,bP,List.map,Nat.reduceAdd,Nat.reduceSub,Nat.reduceLeDiff,aP,tZ,sj,An,y9,↓am _ _ _ _ 61,↓aq _ _ _ _ 18])
theorem AQ (C:aj) (nK:tm C) (p0:List bi) (p1:Int) (p2:Int) (p3:Bool) (p4:iL) (p5:bi) (c:Code) (ho:cD 1 53 b11=some c) (r:iL) (hF:pG p0 p1 p2 p3 p4 p5=some r): @cV TT C.wide (evW TT C.wide n11 b11) n11 1 53 ⟨[(0,.v (.sl 20 (ah bi.row p0))),(2,.ptr 0 0),(4,.ptr 1 0),(6,.ptr 2 0),(13,.v (.sl 20 (ah bi.row p0))),(14,.I p1),(15,.I p2),(53,.v (.b p3))],[[.I 0,.I 0,.I 0,.I 0,.I 0,.own 8 [],.I 0,.own 7 [],.I 0,.I 0,.own 10 []],cGDisk p4,cGRecord p5]⟩ ⟨c⟩=some (.normal,⟨[(0,.v (.sl 20 (ah bi.row p0))),(2,.ptr 0 0),(4,.ptr 1 0),(13,.v (.sl 20 (ah bi.row p0))),(14,.I p1),(15,.I p2)],[[.I 0,.I 0,.I 0,.I 0,.I 0,.own 8 [],.I 0,.own 7 [],.I 0,.I 0,.own 10 []],cGDisk r,cGRecord p5]⟩):=by
 have e:=Option.some.inj (ho.symm.trans (rfl:cD 1 53 b11=some _))
 subst e
 clear ho
 show aH _ _ _ _ _ _=_
 revert hF
 unfold pG
 refine ip (fun h1=>az fun x1 h2=>?_) ?_
 have g1:=AN C nK p0 p1 p2 (decide (p4.iG.iB<p5.iG.iB)) p4 p5 _ rfl _ h2
 all_goals (rintro⟨⟩;intros;simp (maxSteps:=4000000) only [*,cGDisk,cGRecord,qcU,RZ,VD,Qn,Qg,↓RP,RB,RC,Nat.reduceBEq,List.map,↓ao,ty3,tZ,An,y9,↓am _ _ _ _ 53,↓aa _ _ _ _ 17,↓da _ _ _ _ 61])
def oP (p0:List bi) (p1:Int) (s:Int×iL):St:=⟨[(0,.v (.sl 20 (ah bi.row p0))),(2,.ptr 0 0),(4,.ptr 1 0),(13,.v (.sl 20 (ah bi.row p0))),(14,.I p1),(15,.I s.1)],[[.I 0,.I 0,.I 0,.I 0,.I 0,.own 8 [],.I 0,.own 7 [],.I 0,.I 0,.own 10 []],cGDisk s.2]⟩
def qT (p0:List bi) (p1:Int) (r:(Int×iL×bi×iP)⊕((Int×iL×bi)⊕iL)):Option (Ex×St):=match r with
 | .inl r=>some (.ret,⟨[(2,.ptr 0 0),(3,.I r.1)],[[.I 0,.I 0,.I 0,.I 0,.I 0,.v (.sl 8 []),.I 0,.v (.sl 7 []),.I 0,.I 0,.v (.sl 10 [])],cGDisk r.2.1,cGRecord r.2.2.1,cGLog r.2.2.2]⟩)
 | .inr (.inl r)=>some (.ret,⟨[(2,.ptr 0 0),(3,.I r.1)],[[.I 0,.I 0,.I 0,.I 0,.I 0,.v (.sl 8 []),.I 0,.v (.sl 7 []),.I 0,.I 0,.v (.sl 10 [])],cGDisk r.2.1,cGRecord r.2.2]⟩)
 | .inr (.inr r)=>some (.normal,⟨[(2,.ptr 0 0),(4,.ptr 1 0)],[[.I 0,.I 0,.I 0,.I 0,.I 0,.own 8 [],.I 0,.own 7 [],.I 0,.I 0,.own 10 []],cGDisk r]⟩)
theorem v6 (C:aj) (tu:vQ C) (u2:zf C) (nK:tm C) (p0:List bi) (p1:Int) (s:Int×iL) (o:(Int×iL)⊕((Int×iL×bi×iP)⊕((Int×iL×bi)⊕iL))) (hF:lr p0 p1 s=some o):evW TT C.wide n11 b11 0 (oP p0 p1 s)=Sum.elim (fun s=>evW TT C.wide n11 b11 0 (oP p0 p1 s)) (fun r=>qT p0 p1 r) o:=by
 obtain⟨p2,p3⟩:=s
 rw [cG TT n11 qek]
 revert hF
 unfold lr
 try dsimp only
 refine ip (fun h1=>az fun x1 h2=>?_) ?_
 unfold tI
 have g1:decide (0<=p2)=true:=(cp h2).1
 have g2:(ah bi.row p0)[(p2:Int).toNat]? =some (rGRecord x1):=cn _ h2
 refine az fun x2 h3=>?_
 have g3:=bK (tu x1 _ h3)
 refine ip (fun h4=>iv (fun h5=>bF (fun h6=>?_) (fun h6=>?_)) ?_) ?_
 focus
  refine az fun x3 h7=>?_
  have g4:=AQ C nK p0 p1 p2 (x1.e5==3) p3 x1 _ rfl _ h7
 rotate_left 1
 refine az ?_
 rintro⟨x3,x4⟩ h7
 dsimp only
 have g5:=bK (u2 p3.jh x1.iB x1.iR _ h7)
 try simp only [] at g5
 refine iv (fun h8=>?_) ?_
 all_goals (rintro⟨⟩;intros;show cN _ _ _ (aH _ _ _ _ (Code.seq _ _) _)=_;simp (maxSteps:=4000000) only [*,cGDisk,cGLog,cGRecord,rGRecord,oP,qT,qcU,RZ,VD,Qn,qbn,Qg,SR,↓RP,RB,RC,↓ai,Nat.reduceBEq,bP,List.map,Nat.reduceAdd,Nat.reduceSub,Nat.reduceLT,Nat.reduceLeDiff,cr,bne,↓ao,aP,ty3,ty4,M8,kQ,tZ,sj,An,vR,y9,↓aa _ _ _ _ 3,↓am _ _ _ _ 16,↓aa _ _ _ _ 4,↓aa _ _ _ _ 5,↓aa _ _ _ _ 6,↓am _ _ _ _ 22,↓aa _ _ _ _ 7,↓aa _ _ _ _ 8,↓aa _ _ _ _ 9,↓am _ _ _ _ 27,↓aq _ _ _ _ 10,↓aa _ _ _ _ 11,↓am _ _ _ _ 35,↓aa _ _ _ _ 12,↓aa _ _ _ _ 13,↓am _ _ _ _ 48,↓aa _ _ _ _ 14,↓aa _ _ _ _ 15,↓aa _ _ _ _ 16,↓da _ _ _ _ 53,↓aa _ _ _ _ 19])
theorem M5 (C:aj) (OM:AO C) (Gd:wV C) (FV:w5 C) (rY:og C) (nK:tm C) (tu:vQ C) (u2:zf C) (p0:List bi) (r:iL×Int) (hF:vY p0=some r):cR TT C.wide (evW TT C.wide n11 b11) n11 Tryz.f11.results.toList (aU Tryz.f11) [.v (.sl 20 (ah bi.row p0))] []=some (.tup [.agg (cGDisk r.1),.I r.2],[]):=by
 revert hF
 unfold vY
 have g1:=bK (OM  _ (OQ))
 refine az ?_
 rintro (⟨x1,x2,x3,x4⟩|⟨x1,x2,x3⟩|x1) h1
 focus
  dsimp only
  have g2:=cH _ _ (v6 C tu u2 nK p0 (p0.length:Int)) h1
  try simp only [oP,qT] at g2
 rotate_left 1
 focus
  dsimp only
  have g3:=cH _ _ (v6 C tu u2 nK p0 (p0.length:Int)) h1
  try simp only [oP,qT] at g3
 rotate_left 1
 dsimp only
 unfold yp
 have g4:=cH _ _ (v6 C tu u2 nK p0 (p0.length:Int)) h1
 try simp only [oP,qT] at g4
 refine az ?_
 rintro⟨x2,x3⟩ h2
 dsimp only
 have g5:=bK (Gd x1.iG.iy _ h2)
 try simp only [] at g5
 refine az ?_
 rintro⟨x4,x5⟩ h3
 dsimp only
 have g6:=bK (FV x2 _ h3)
 try simp only [] at g6
 refine az fun x6 h4=>?_
 have g7:=bK (rY x1.jh.af _ h4)
 all_goals (rintro⟨⟩;rw [bk];show cC _ _ _ (aH _ _ _ _ (Code.seq _ _) _)=_;simp (maxSteps:=4000000) only [*,cGDisk,cGLog,cGRecord,qkU,VD,Qn,Qg,SR,↓RP,RB,RC,Nat.reduceBEq,bP,List.map,Nat.reduceAdd,Nat.reduceLeDiff,bne,↓ao,aP,AJ,M8,kQ,sm,tZ,vq,sj,An,iE.flat,↓aa _ _ _ _ 0,↓aa _ _ _ _ 1,↓aa _ _ _ _ 2,↓aa _ _ _ _ 20,↓aa _ _ _ _ 21,↓aa _ _ _ _ 22,↓aa _ _ _ _ 23])
def qeC:List (Nat×List Nat):=[(0,[0]),(1,[0])]
def n70:cL where
 keep:=ax qeC
 ro:=fun _=>false
 mv:=fun _=>false
 give:=fun _=>false
 free:=fun _=>[]
theorem qlL (i:Nat):n70.keep i=ax qeC i:=rfl
theorem qfW (t:Nat):n70.give t=(false):=rfl
theorem qkT:Tryz.f70.results.toList= [.cell 0 39]:=rfl
def b70:Code:=aU Tryz.f70
theorem BU (C:aj)   (r:ad) (hF:qN=some r):cR TT C.wide (evW TT C.wide n70 b70) n70 Tryz.f70.results.toList (aU Tryz.f70) [] []=some (.agg [.I r.e7.iS,.own 8 (ah gi.row r.e7.f6),.I r.iI,.own 7 (ah cc.row r.cO)],[]):=by
 revert hF
 unfold qN
 refine vg ?_
 unfold rM
 all_goals (rintro rfl;rw [bk];show cC _ _ _ (aH _ _ _ _ (Code.seq _ _) _)=_;simp (maxSteps:=4000000) only [*,qkT,qlL,qeC,qfW,↓RP,RB,RC,Nat.reduceBEq,bP,List.map,Nat.reduceAdd,Nat.reduceLeDiff,bne,↓ao,↓aa,ty3,ug,xm,sm])
def ZC:List (Nat×List Nat):=[(0,[0]),(1,[0])]
def n31:cL where
 keep:=ax ZC
 ro:=fun _=>false
 mv:=fun _=>false
 give:=fun _=>false
 free:=fun _=>[]
theorem qlA (i:Nat):n31.keep i=ax ZC i:=rfl
theorem qfM (t:Nat):n31.give t=(false):=rfl
theorem qfG:Tryz.f31.results.toList= [.cell 0 46]:=rfl
def b31:Code:=aU Tryz.f31
theorem FP (C:aj) (Cs:xM C)  (r:iL) (hF:u9=some r):cR TT C.wide (evW TT C.wide n31 b31) n31 Tryz.f31.results.toList (aU Tryz.f31) [] []=some (.agg [.I r.iK,.I r.lS,.I r.iG.iB,.I r.iG.iK,.I r.iG.iy.e7.iS,.own 8 (ah gi.row r.iG.iy.e7.f6),.I r.iG.iy.iI,.own 7 (ah cc.row r.iG.iy.cO),.I r.jh.iD,.I r.jh.iw,.own 10 (ah iE.row r.jh.af)],[]):=by
 revert hF
 unfold u9
 refine vg ?_
 unfold sd
 have g1:=bK (Cs  _ (CD))
 all_goals (rintro rfl;rw [bk];show cC _ _ _ (aH _ _ _ _ (Code.seq _ _) _)=_;simp (maxSteps:=4000000) only [*,qfG,qlA,ZC,qfM,↓RP,RB,RC,Nat.reduceBEq,bP,List.map,Nat.reduceAdd,Nat.reduceLeDiff,Int.reduceNeg,bne,↓ao,↓aa,ty3,sm,tZ,sj,An])
def ZD:List (Nat×List Nat):=[(0,[0,1,2]),(1,[6])]
def n42:cL where
 keep:=ax ZD
 ro:=fun _=>false
 mv:=fun _=>false
 give:=fun _=>false
 free:=fun _=>[]
theorem qme (i:Nat):n42.keep i=ax ZD i:=rfl
theorem qin:Tryz.f42.results.toList= [.tmp 6]:=rfl
def b42:Code:=aU Tryz.f42
theorem qeW (C:aj)  (p0:Int) (p1:Int) (p2:Int) (r:Bool) (hF:Rk p0 p1 p2=some r):cR TT C.wide (evW TT C.wide n42 b42) n42 Tryz.f42.results.toList (aU Tryz.f42) [.I p0,.I p1,.I p2] []=some (.v (.b r),[]):=by
 revert hF
 unfold Rk
 refine iv (fun h1=>?_) ?_
 all_goals (rintro⟨⟩;intros;rw [bk];show cC _ _ _ (aH _ _ _ _ (Code.seq _ _) _)=_;simp (maxSteps:=4000000) only [*,qin,qme,ZD,↓RP,RB,RC,Nat.reduceBEq,List.map,Nat.reduceAdd,↓ao,↓aa,ty3,ty4])
def Vk:List (Nat×List Nat):=[(0,[1]),(1,[2])]
def n71:cL where
 keep:=ax Vk
 ro:=fun t=>t==1
 mv:=fun _=>false
 give:=fun _=>false
 free:=fun _=>[]
theorem qjC (i:Nat):n71.keep i=ax Vk i:=rfl
theorem qjO (t:Nat):n71.ro t=(t==1):=rfl
theorem qjH (t:Nat):n71.mv t=(false):=rfl
theorem qio:Tryz.f71.results.toList= [.tmp 2]:=rfl
def b71:Code:=aU Tryz.f71
theorem BL (C:aj)  (p0:i4) (c:Code) (ho:cD 0 1 b71=some c) (r:Bool) (hF:lE p0=r): @cV TT C.wide (evW TT C.wide n71 b71) n71 0 1 ⟨[(1,.rp (rGSnap p0))],[]⟩ ⟨c⟩=some (.normal,⟨[(2,.v (.b r))],[]⟩):=by
 have e:=Option.some.inj (ho.symm.trans (rfl:cD 0 1 b71=some _))
 subst e
 clear ho
 show aH _ _ _ _ _ _=_
 revert hF
 unfold lE
 refine ip (fun h1=>ip (fun h2=>ip (fun h3=>ip (fun h4=>iv (fun h5=>?_) ?_) ?_) ?_) ?_) ?_
 all_goals (rintro rfl;intros;simp (maxSteps:=4000000) only [*,rGSnap,qjC,Vk,qjH,↓RP,RB,RC,Nat.reduceBEq,List.map,ty3,ty4,Ad,ug,xm,sm,tZ,↓aa _ _ _ _ 1])
theorem FS (C:aj)  (p0:i4) (r:Bool) (hF:sZ p0=some r):cR TT C.wide (evW TT C.wide n71 b71) n71 Tryz.f71.results.toList (aU Tryz.f71) [.agg (cGSnap p0)] []=some (.v (.b r),[]):=by
 revert hF
 unfold sZ
 have g1:=BL C p0 _ rfl (lE p0) rfl
 all_goals (rintro⟨⟩;rw [bk];show cC _ _ _ (aH _ _ _ _ (Code.seq _ _) _)=_;simp (maxSteps:=4000000) only [*,cGSnap,qio,qjC,Vk,qjO,↓RP,RB,RC,Nat.reduceBEq,bP,List.map,↓ao,ty4,tZ,↓aa _ _ _ _ 0,↓bg _ _ _ _ 1])
def qeB:List (Nat×List Nat):=[(0,[0]),(1,[2])]
def n73:cL where
 keep:=ax qeB
 ro:=fun _=>false
 mv:=fun _=>false
 give:=fun _=>false
 free:=fun _=>[]
theorem qlf (i:Nat):n73.keep i=ax qeB i:=rfl
theorem qj6:Tryz.f73.results.toList= [.tmp 2]:=rfl
def b73:Code:=aU Tryz.f73
theorem Gy (C:aj) (jr:kF C) (p0:Int) (r:Bool) (hF:tc p0=some r):cR TT C.wide (evW TT C.wide n73 b73) n73 Tryz.f73.results.toList (aU Tryz.f73) [.I p0] []=some (.v (.b r),[]):=by
 revert hF
 unfold tc
 have g1:=bK (jr p0 1 1048576 _ (oc p0 1 1048576))
 have g2:jc p0 1 1048576=(decide (1<=p0)&&decide (p0<=1048576)):=by first|rfl|(simp [jc];done)|(simp only [jc];decide)
 all_goals (rintro⟨⟩;rw [bk];show cC _ _ _ (aH _ _ _ _ (Code.seq _ _) _)=_;simp (maxSteps:=4000000) only [*,qj6,qlf,qeB,↓RP,RB,RC,Nat.reduceBEq,List.map,↓ao,↓aa,ty4])
def Tp:List (Nat×List Nat):=[(0,[0]),(1,[2])]
def U7:cL where
 keep:=ax Tp
 ro:=fun _=>false
 mv:=fun _=>false
 give:=fun _=>false
 free:=fun _=>[]
theorem qjU (i:Nat):U7.keep i=ax Tp i:=rfl
theorem qdc:Tryz.f116.results.toList= [.tmp 2]:=rfl
def qmJ:Code:=aU Tryz.f116
theorem KK (C:aj) (jr:kF C) (p0:ByteArray) (r:Bool) (hF:uv p0=some r):cR TT C.wide (evW TT C.wide U7 qmJ) U7 Tryz.f116.results.toList (aU Tryz.f116) [.v (.s p0)] []=some (.v (.b r),[]):=by
 revert hF
 unfold uv
 have g1:=bK (jr (p0.size:Int) 1 12 _ (oc (p0.size:Int) 1 12))
 have g2:jc (p0.size:Int) 1 12=(decide (1<=(p0.size:Int))&&decide ((p0.size:Int)<=12)):=by first|rfl|(simp [jc];done)|(simp only [jc];decide)
 all_goals (rintro⟨⟩;rw [bk];show cC _ _ _ (aH _ _ _ _ (Code.seq _ _) _)=_;simp (maxSteps:=4000000) only [*,qdc,qjU,Tp,↓RP,RB,RC,Nat.reduceBEq,List.map,↓ao,↓aa,ty4,ty9])
def Sj:List (Nat×List Nat):=[(0,[1]),(1,[2])]
def Rt:cL where
 keep:=ax Sj
 ro:=fun t=>t==1
 mv:=fun _=>false
 give:=fun _=>false
 free:=fun _=>[]
theorem qjV (i:Nat):Rt.keep i=ax Sj i:=rfl
theorem qde (t:Nat):Rt.ro t=(t==1):=rfl
theorem qfj (t:Nat):Rt.mv t=(false):=rfl
theorem qdt:Tryz.f138.results.toList= [.tmp 2]:=rfl
def qla:Code:=aU Tryz.f138
theorem OC (C:aj)  (p0:ae) (r:Int) (hF:zo p0=some r):cR TT C.wide (evW TT C.wide Rt qla) Rt Tryz.f138.results.toList (aU Tryz.f138) [.agg (cGValue p0)] []=some (.I r,[]):=by
 revert hF
 unfold zo
 refine vg ?_
 unfold nh
 all_goals (rintro rfl;rw [bk];show cC _ _ _ (aH _ _ _ _ (Code.seq _ _) _)=_;simp (maxSteps:=4000000) only [*,cGValue,qdt,qjV,Sj,qde,qfj,↓RP,RB,RC,Nat.reduceBEq,bP,List.map,↓ao,↓aa,ty3,ti,mJ,oN,kU])
def TN:List (Nat×List Nat):=[(0,[0]),(1,[2])]
def Xs:cL where
 keep:=ax TN
 ro:=fun _=>false
 mv:=fun _=>false
 give:=fun _=>false
 free:=fun _=>[]
theorem qkO (i:Nat):Xs.keep i=ax TN i:=rfl
theorem qeX:Tryz.f118.results.toList= [.tmp 2]:=rfl
def qlZ:Code:=aU Tryz.f118
theorem Mv (C:aj)  (p0:ByteArray) (r:Bool) (hF:v5 p0=some r):cR TT C.wide (evW TT C.wide Xs qlZ) Xs Tryz.f118.results.toList (aU Tryz.f118) [.v (.s p0)] []=some (.v (.b r),[]):=by
 revert hF
 unfold v5
 all_goals (rintro⟨⟩;rw [bk];show cC _ _ _ (aH _ _ _ _ (Code.seq _ _) _)=_;simp (maxSteps:=4000000) only [*,qeX,qkO,TN,↓RP,RB,RC,Nat.reduceBEq,List.map,↓ao,↓aa,ty3,ty4,ty9])
def S5:List (Nat×List Nat):=[(0,[0]),(1,[2])]
def Wk:cL where
 keep:=ax S5
 ro:=fun _=>false
 mv:=fun _=>false
 give:=fun _=>false
 free:=fun _=>[]
theorem qi1 (i:Nat):Wk.keep i=ax S5 i:=rfl
theorem Zb:Tryz.f119.results.toList= [.tmp 2]:=rfl
def qlw:Code:=aU Tryz.f119
theorem Kf (C:aj) (jr:kF C) (p0:Int) (r:Bool) (hF:uD p0=some r):cR TT C.wide (evW TT C.wide Wk qlw) Wk Tryz.f119.results.toList (aU Tryz.f119) [.I p0] []=some (.v (.b r),[]):=by
 revert hF
 unfold uD
 have g1:=bK (jr p0 (-1099511627776) 1099511627776 _ (oc p0 (-1099511627776) 1099511627776))
 have g2:jc p0 (-1099511627776) 1099511627776=(decide ((-1099511627776)<=p0)&&decide (p0<=1099511627776)):=by first|rfl|(simp [jc];done)|(simp only [jc];decide)
 all_goals (rintro⟨⟩;rw [bk];show cC _ _ _ (aH _ _ _ _ (Code.seq _ _) _)=_;simp (maxSteps:=4000000) only [*,Zb,qi1,S5,↓RP,RB,RC,Nat.reduceBEq,List.map,Int.reduceNeg,↓ao,↓aa,ty4])
def Ts:List (Nat×List Nat):=[(0,[2,3]),(1,[2,3,9]),(2,[4]),(3,[4])]
def TR:List (Nat×List Nat×List Nat):=[(9,[2,3],[2,3])]
def Nv:cL where
 keep:=ax Ts
 ro:=fun t=>t==2||t==3
 mv:=fun _=>false
 give:=fun _=>false
 free:=fun _=>[]
 alive:=av TR
theorem qhG (t:Nat) (x:Bool) (e:Env) (S:bH):cK Nv t x ⟨e,S⟩=atO (av TR t x) e S:=cF rfl t x e S
theorem qkx (i:Nat):Nv.keep i=ax Ts i:=rfl
theorem qcg (t:Nat):Nv.ro t=(t==2||t==3):=rfl
theorem qev (t:Nat):Nv.mv t=(false):=rfl
theorem ZP:Tryz.f139.results.toList= [.tmp 4]:=rfl
def qlV:Code:=aU Tryz.f139
theorem DL (C:aj)  (p0:f5) (p1:f5) (r:Bool) (hF:rO p0 p1=some r):cR TT C.wide (evW TT C.wide Nv qlV) Nv Tryz.f139.results.toList (aU Tryz.f139) [.agg (cGScore p0),.agg (cGScore p1)] []=some (.v (.b r),[]):=by
 revert hF
 unfold rO
 refine iv (fun h1=>?_) ?_
 all_goals (rintro⟨⟩;intros;rw [bk];show cC _ _ _ (aH _ _ _ _ (Code.seq _ _) _)=_;simp (maxSteps:=4000000) only [*,cGScore,ZP,qhG,TR,qkx,Ts,qcg,qev,↓RP,RB,RC,Nat.reduceBEq,bP,List.map,Nat.reduceAdd,bne,↓ao,↓am,↓aa,ty3,ty4,ty9,ua])
def Pu:List (Nat×List Nat):=[(0,[0,1]),(1,[0,1,5]),(2,[0,1,5,9]),(3,[0,1,5]),(4,[0,1,5,18]),(5,[4]),(6,[4])]
def TG:List (Nat×List Nat×List Nat):=[(9,[0,1,5],[]),(18,[5],[0,1,5])]
def Kc:cL where
 keep:=ax Pu
 ro:=fun _=>false
 mv:=fun _=>false
 give:=fun _=>false
 free:=fun _=>[]
 alive:=av TG
theorem qkv (t:Nat) (x:Bool) (e:Env) (S:bH):cK Kc t x ⟨e,S⟩=atO (av TG t x) e S:=cF rfl t x e S
theorem Yb (i:Nat):Kc.keep i=ax Pu i:=rfl
theorem qb1 (t:Nat):Kc.mv t=(false):=rfl
theorem qet:Tryz.f140.results.toList= [.tmp 4]:=rfl
def Vr:Code:=aU Tryz.f140
def qbE:Code:=(bE 0 (aU Tryz.f140)).getD .skip
theorem Xg:bE 0 Vr=some qbE:=rfl
def qa (p0:List f5) (p1:ByteArray) (s:Int):St:=⟨[(0,.v (.sl 2 (ah f5.row p0))),(1,.v (.s p1)),(5,.I s)],[]⟩
def sB (p0:List f5) (p1:ByteArray) (r:Int⊕Unit):Option (Ex×St):=match r with
 | .inl r=>some (.ret,⟨[(4,.I r)],[]⟩)
 | .inr r=>some (.normal,⟨[],[]⟩)
theorem yY (C:aj)  (p0:List f5) (p1:ByteArray) (p2:Int) (o:Int⊕(Int⊕Unit)) (hF:nz p0 p1 p2=some o):evW TT C.wide Kc Vr 0 (qa p0 p1 p2)=Sum.elim (fun s=>evW TT C.wide Kc Vr 0 (qa p0 p1 s)) (fun r=>sB p0 p1 r) o:=by
 rw [cG TT Kc Xg]
 revert hF
 unfold nz
 try dsimp only
 refine ip (fun h1=>az fun x1 h2=>?_) ?_
 have g1:decide (0<=p2)=true:=(cp h2).1
 have g2:(ah f5.row p0)[(p2:Int).toNat]? =some (rGScore x1):=cn _ h2
 refine iv (fun h3=>?_) ?_
 all_goals (rintro⟨⟩;intros;show cN _ _ _ (aH _ _ _ _ (Code.seq _ _) _)=_;simp (maxSteps:=4000000) only [*,rGScore,qa,sB,qkv,TG,Yb,Pu,qb1,↓RP,RB,RC,↓ai,Nat.reduceBEq,List.map,↓ao,↓am,↓aa,ty3,ty9,oN,ua])
theorem Kr (C:aj)  (p0:List f5) (p1:ByteArray) (r:Int) (hF:sQ p0 p1=some r):cR TT C.wide (evW TT C.wide Kc Vr) Kc Tryz.f140.results.toList (aU Tryz.f140) [.v (.sl 2 (ah f5.row p0)),.v (.s p1)] []=some (.I r,[]):=by
 revert hF
 unfold sQ
 refine az ?_
 rintro (x1|_) h1
 focus
  dsimp only
  have g1:=cH _ _ (yY C p0 p1) h1
  try simp only [qa,sB] at g1
 rotate_left 1
 dsimp only
 have g2:=cH _ _ (yY C p0 p1) h1
 try simp only [qa,sB] at g2
 all_goals (rintro⟨⟩;rw [bk];show cC _ _ _ (aH _ _ _ _ (Code.seq _ _) _)=_;simp (maxSteps:=4000000) only [*,qet,Yb,Pu,↓RP,RB,RC,Nat.reduceBEq,List.map,Nat.reduceAdd,Int.reduceNeg,↓ao,↓aa,ty3])
def xC:List (Nat×List Nat):=[(0,[1]),(1,[1,14]),(2,[2]),(3,[1,3]),(4,[1,72]),(5,[2]),(6,[1,87]),(7,[2]),(8,[1,4]),(9,[1,4,92]),(10,[1,4]),(11,[1,4,101]),(12,[2]),(13,[1,5]),(14,[1,5,106]),(15,[1,5]),(16,[1,5,126]),(17,[2]),(18,[1,6]),(19,[1,6,131]),(20,[1,6]),(21,[1,6,141]),(22,[2]),(23,[1,145]),(24,[2]),(25,[1,7]),(26,[1,7,150]),(27,[1,7]),(28,[1,7,160]),(29,[2]),(30,[1,8]),(31,[1,8,165]),(32,[1,8]),(33,[1,8,181]),(34,[2]),(35,[1,9]),(36,[1,9,191]),(37,[1,9]),(38,[1,9,205]),(39,[2]),(40,[1,10]),(41,[1,10,210]),(42,[1,10]),(43,[1,10,239]),(44,[2]),(45,[2])]
def As:List (Nat×List Nat×List Nat):=[(14,[],[1]),(72,[],[1]),(87,[],[1]),(92,[1,4],[1]),(101,[],[1,4]),(106,[1,5],[1]),(126,[],[1,5]),(131,[1,6],[1]),(141,[],[1,6]),(145,[],[1]),(150,[1,7],[1]),(160,[],[1,7]),(165,[1,8],[1]),(181,[],[1,8]),(191,[1,9],[1]),(205,[],[1,9]),(210,[1,10],[]),(239,[],[1,10])]
def qt:cL where
 keep:=ax xC
 ro:=fun t=>t==1
 mv:=fun _=>false
 give:=fun _=>false
 free:=fun i=>match i with|33=>[(0,2),(1,2),(0,3),(1,3),(0,7),(1,7),(2,7),(3,7),(4,7),(5,7),(6,7),(0,8),(1,8),(2,8),(3,8),(4,8),(5,8),(6,8),(0,9),(1,9),(2,9),(3,9),(4,9),(5,9),(6,9),(7,9),(8,9),(0,10),(1,10),(2,10),(3,10),(4,10),(5,10),(6,10),(0,11),(1,11),(2,11),(3,11),(4,11),(5,11),(6,11),(0,12),(1,12),(2,12),(3,12),(4,12),(5,12),(6,12)]|38=>[(0,2),(1,2),(0,3),(1,3),(0,6),(1,6),(2,6),(3,6),(4,6),(5,6),(0,7),(1,7),(2,7),(3,7),(4,7),(5,7),(0,8),(1,8),(2,8),(3,8),(4,8),(5,8),(6,8),(7,8),(0,9),(1,9),(2,9),(3,9),(4,9),(5,9),(0,10),(1,10),(2,10),(3,10),(4,10),(5,10)]|43=>[(0,2),(1,2),(0,3),(1,3),(0,6),(1,6),(2,6),(3,6),(4,6),(5,6),(0,7),(1,7),(2,7),(3,7),(4,7),(5,7),(0,8),(1,8),(2,8),(3,8),(4,8),(5,8),(6,8),(7,8),(0,9),(1,9),(2,9),(3,9),(4,9),(5,9),(0,10),(1,10),(2,10),(3,10),(4,10),(5,10),(14,16),(15,16),(14,18),(15,18),(16,18),(17,18),(14,19),(15,19),(16,19),(17,19),(14,20),(15,20),(16,20),(17,20),(18,20),(19,20),(14,21),(15,21),(16,21),(17,21),(14,22),(15,22),(16,22),(17,22),(14,23),(15,23),(16,23),(17,23)]|_=>[]
 alive:=av As
theorem Da (t:Nat) (x:Bool) (e:Env) (S:bH):cK qt t x ⟨e,S⟩=atO (av As t x) e S:=cF rfl t x e S
theorem zv (i:Nat):qt.keep i=ax xC i:=rfl
theorem qbR (t:Nat):qt.ro t=(t==1):=rfl
theorem wB (t:Nat):qt.mv t=(false):=rfl
theorem Xl:qt.free 33= [(0,2),(1,2),(0,3),(1,3),(0,7),(1,7),(2,7),(3,7),(4,7),(5,7),(6,7),(0,8),(1,8),(2,8),(3,8),(4,8),(5,8),(6,8),(0,9),(1,9),(2,9),(3,9),(4,9),(5,9),(6,9),(7,9),(8,9),(0,10),(1,10),(2,10),(3,10),(4,10),(5,10),(6,10),(0,11),(1,11),(2,11),(3,11),(4,11),(5,11),(6,11),(0,12),(1,12),(2,12),(3,12),(4,12),(5,12),(6,12)]:=rfl
theorem Wz:qt.free 38= [(0,2),(1,2),(0,3),(1,3),(0,6),(1,6),(2,6),(3,6),(4,6),(5,6),(0,7),(1,7),(2,7),(3,7),(4,7),(5,7),(0,8),(1,8),(2,8),(3,8),(4,8),(5,8),(6,8),(7,8),(0,9),(1,9),(2,9),(3,9),(4,9),(5,9),(0,10),(1,10),(2,10),(3,10),(4,10),(5,10)]:=rfl
theorem Wm:qt.free 43= [(0,2),(1,2),(0,3),(1,3),(0,6),(1,6),(2,6),(3,6),(4,6),(5,6),(0,7),(1,7),(2,7),(3,7),(4,7),(5,7),(0,8),(1,8),(2,8),(3,8),(4,8),(5,8),(6,8),(7,8),(0,9),(1,9),(2,9),(3,9),(4,9),(5,9),(0,10),(1,10),(2,10),(3,10),(4,10),(5,10),(14,16),(15,16),(14,18),(15,18),(16,18),(17,18),(14,19),(15,19),(16,19),(17,19),(14,20),(15,20),(16,20),(17,20),(18,20),(19,20),(14,21),(15,21),(16,21),(17,21),(14,22),(15,22),(16,22),(17,22),(14,23),(15,23),(16,23),(17,23)]:=rfl
theorem qdI:Tryz.f117.results.toList= [.tmp 2]:=rfl
def sM:Code:=aU Tryz.f117
def qdn:Code:=(bE 0 (aU Tryz.f117)).getD .skip
theorem Wi:bE 0 sM=some qdn:=rfl
def qeS:Code:=(bE 2 (aU Tryz.f117)).getD .skip
theorem VH:bE 2 sM=some qeS:=rfl
def qcJ:Code:=(bE 4 (aU Tryz.f117)).getD .skip
theorem Vt:bE 4 sM=some qcJ:=rfl
def qdf:Code:=(bE 6 (aU Tryz.f117)).getD .skip
theorem Wh:bE 6 sM=some qdf:=rfl
def ZA:Code:=(bE 8 (aU Tryz.f117)).getD .skip
theorem XR:bE 8 sM=some ZA:=rfl
def V7:Code:=(bE 10 (aU Tryz.f117)).getD .skip
theorem T4:bE 10 sM=some V7:=rfl
def Wo:Code:=(bE 12 (aU Tryz.f117)).getD .skip
theorem Tq:bE 12 sM=some Wo:=rfl
theorem AK (C:aj)  (p0:ae) (c:Code) (ho:cD 0 4 sM=some c) (r:Bool) (hF:lW p0=r): @cV TT C.wide (evW TT C.wide qt sM) qt 0 4 ⟨[(1,.rp (rGValue p0)),(3,.v (.b true))],[]⟩ ⟨c⟩=some (.normal,⟨[(1,.rp (rGValue p0)),(72,.v (.b r))],[]⟩):=by
 have e:=Option.some.inj (ho.symm.trans (rfl:cD 0 4 sM=some _))
 subst e
 clear ho
 show aH _ _ _ _ _ _=_
 revert hF
 unfold lW
 refine aX (fun h1=>?_) (fun h1=>?_)
 focus
  refine aX (fun h2=>?_) (fun h2=>?_)
  focus
   refine aX (fun h3=>?_) (fun h3=>?_)
   focus
    refine iv (fun h4=>?_) ?_
   rotate_left 2
   refine iv (fun h4=>iv (fun h5=>?_) ?_) ?_
  rotate_left 5
  unfold pd
  refine ip (fun h3=>aX (fun h4=>?_) (fun h4=>?_)) ?_
  focus
   refine iv (fun h5=>?_) ?_
  rotate_left 2
  refine iv (fun h5=>iv (fun h6=>?_) ?_) ?_
 rotate_left 11
 unfold oT
 refine ip (fun h2=>aX (fun h3=>?_) (fun h3=>?_)) ?_
 focus
  refine aX (fun h4=>?_) (fun h4=>?_)
  focus
   refine iv (fun h5=>?_) ?_
  rotate_left 2
  refine iv (fun h5=>iv (fun h6=>?_) ?_) ?_
 rotate_left 5
 unfold pn
 refine ip (fun h4=>aX (fun h5=>?_) (fun h5=>?_)) ?_
 focus
  refine iv (fun h6=>?_) ?_
 rotate_left 2
 refine iv (fun h6=>iv (fun h7=>?_) ?_) ?_
 all_goals (rintro rfl;intros;simp (maxSteps:=4000000) only [*,rGValue,zv,xC,wB,↓RP,RB,RC,Nat.reduceBEq,List.map,bne,ty3,ty9,ti,oN,kU,↓aa _ _ _ _ 4])
theorem wz (C:aj) (yy:ye C) (jr:kF C) (iY:kN C) (p0:ae) (c:Code) (ho:cD 0 6 sM=some c) (r:Bool) (hF:jP p0=r): @cV TT C.wide (evW TT C.wide qt sM) qt 0 6 ⟨[(1,.rp (rGValue p0))],[]⟩ ⟨c⟩=some (.normal,⟨[(1,.rp (rGValue p0)),(87,.v (.b r))],[]⟩):=by
 have e:=Option.some.inj (ho.symm.trans (rfl:cD 0 6 sM=some _))
 subst e
 clear ho
 show aH _ _ _ _ _ _=_
 revert hF
 unfold jP
 refine bF (fun h1=>?_) (fun h1=>?_)
 focus
  have g1:=bK (iY p0.iq _ (lY p0.iq))
 rotate_left 1
 have g2:=bK (yy p0 _ (No p0))
 have g3:=bK (jr (nh p0) 1 20 _ (oc (nh p0) 1 20))
 have g4:jc (nh p0) 1 20=(decide (1<=(nh p0))&&decide ((nh p0)<=20)):=by first|rfl|(simp [jc];done)|(simp only [jc];decide)
 refine ip (fun h2=>aX (fun h3=>?_) (fun h3=>?_)) ?_
 focus
  have g1:=bK (iY p0.iq _ (lY p0.iq))
 rotate_left 1
 all_goals (rintro rfl;intros;simp (maxSteps:=4000000) only [*,rGValue,zv,xC,wB,↓RP,RB,RC,Nat.reduceBEq,List.map,Nat.reduceAdd,ty3,ty9,kU,↓aa _ _ _ _ 6])
def lq (p0:ae) (s:Int):St:=⟨[(1,.rp (rGValue p0)),(4,.I s)],[]⟩
def md (p0:ae) (r:Unit⊕Unit):Option (Ex×St):=match r with
 | .inl r=>some (.ret,⟨[(2,.I 1)],[]⟩)
 | .inr r=>some (.normal,⟨[(1,.rp (rGValue p0))],[]⟩)
theorem qz (C:aj) (iY:kN C) (p0:ae) (p1:Int) (o:Int⊕(Unit⊕Unit)) (hF:kv p0 p1=some o):evW TT C.wide qt sM 0 (lq p0 p1)=Sum.elim (fun s=>evW TT C.wide qt sM 0 (lq p0 s)) (fun r=>md p0 r) o:=by
 rw [cG TT qt Wi]
 revert hF
 unfold kv
 try dsimp only
 refine ip (fun h1=>az fun x1 h2=>?_) ?_
 have g1:decide (0<=p1)=true:=(cp h2).1
 have g2:(ah bY p0.af)[(p1:Int).toNat]? =some [.s x1]:=cn _ h2
 have g3:=bK (iY x1 _ (lY x1))
 refine iv (fun h3=>?_) ?_
 all_goals (rintro⟨⟩;intros;show cN _ _ _ (aH _ _ _ _ (Code.seq _ _) _)=_;simp (maxSteps:=4000000) only [*,rGValue,lq,md,Da,As,zv,xC,wB,↓RP,RB,RC,↓ai,Nat.reduceBEq,List.map,↓ao,↓am,ty3,ty9,kQ,mJ,kU,↓aa _ _ _ _ 9,↓aa _ _ _ _ 11,↓aa _ _ _ _ 12,↓aa _ _ _ _ 10])
def lu (p0:ae) (s:Int):St:=⟨[(1,.rp (rGValue p0)),(5,.I s)],[]⟩
def mh (p0:ae) (r:Unit⊕Unit):Option (Ex×St):=match r with
 | .inl r=>some (.ret,⟨[(2,.I 1)],[]⟩)
 | .inr r=>some (.normal,⟨[(1,.rp (rGValue p0))],[]⟩)
theorem qI (C:aj) (jx:ln C) (iY:kN C) (p0:ae) (p1:Int) (o:Int⊕(Unit⊕Unit)) (hF:lk p0 p1=some o):evW TT C.wide qt sM 2 (lu p0 p1)=Sum.elim (fun s=>evW TT C.wide qt sM 2 (lu p0 s)) (fun r=>mh p0 r) o:=by
 rw [cG TT qt VH]
 revert hF
 unfold lk
 try dsimp only
 refine ip (fun h1=>az fun x1 h2=>?_) ?_
 have g1:decide (0<=p1)=true:=(cp h2).1
 have g2:(ah iC.row p0.iz)[(p1:Int).toNat]? =some (rGPair x1):=cn _ h2
 have g3:=bK (jx x1.iN _ (tR x1.iN))
 refine ip (fun h3=>?_) ?_
 have g4:=bK (iY x1.iq _ (lY x1.iq))
 refine iv (fun h4=>?_) ?_
 all_goals (rintro⟨⟩;intros;show cN _ _ _ (aH _ _ _ _ (Code.seq _ _) _)=_;simp (maxSteps:=4000000) only [*,rGPair,rGValue,lu,mh,Da,As,zv,xC,wB,↓RP,RB,RC,↓ai,Nat.reduceBEq,List.map,↓ao,↓am,ty3,ty9,kQ,ti,kU,AE,↓aa _ _ _ _ 14,↓aa _ _ _ _ 16,↓aa _ _ _ _ 17,↓aa _ _ _ _ 15])
def lp (p0:ae) (s:Int):St:=⟨[(1,.rp (rGValue p0)),(6,.I s)],[]⟩
def me (p0:ae) (r:Unit⊕Unit):Option (Ex×St):=match r with
 | .inl r=>some (.ret,⟨[(2,.I 1)],[]⟩)
 | .inr r=>some (.normal,⟨[(1,.rp (rGValue p0))],[]⟩)
theorem qG (C:aj) (iY:kN C) (p0:ae) (p1:Int) (o:Int⊕(Unit⊕Unit)) (hF:kX p0 p1=some o):evW TT C.wide qt sM 4 (lp p0 p1)=Sum.elim (fun s=>evW TT C.wide qt sM 4 (lp p0 s)) (fun r=>me p0 r) o:=by
 rw [cG TT qt Vt]
 revert hF
 unfold kX
 try dsimp only
 refine ip (fun h1=>az fun x1 h2=>?_) ?_
 have g1:decide (0<=p1)=true:=(cp h2).1
 have g2:(ah f5.row p0.f9)[(p1:Int).toNat]? =some (rGScore x1):=cn _ h2
 have g3:=bK (iY x1.i6 _ (lY x1.i6))
 refine iv (fun h3=>?_) ?_
 all_goals (rintro⟨⟩;intros;show cN _ _ _ (aH _ _ _ _ (Code.seq _ _) _)=_;simp (maxSteps:=4000000) only [*,rGScore,rGValue,lp,me,Da,As,zv,xC,wB,↓RP,RB,RC,↓ai,Nat.reduceBEq,List.map,↓ao,↓am,ty3,ty9,kQ,oN,kU,ua,↓aa _ _ _ _ 19,↓aa _ _ _ _ 21,↓aa _ _ _ _ 22,↓aa _ _ _ _ 20])
def la (p0:ae) (s:Int):St:=⟨[(1,.rp (rGValue p0)),(7,.I s)],[]⟩
def mg (p0:ae) (r:Unit⊕Unit):Option (Ex×St):=match r with
 | .inl r=>some (.ret,⟨[(2,.I 2)],[]⟩)
 | .inr r=>some (.normal,⟨[(1,.rp (rGValue p0))],[]⟩)
theorem qF (C:aj) (kz:pF C) (p0:ae) (p1:Int) (o:Int⊕(Unit⊕Unit)) (hF:kY p0 p1=some o):evW TT C.wide qt sM 6 (la p0 p1)=Sum.elim (fun s=>evW TT C.wide qt sM 6 (la p0 s)) (fun r=>mg p0 r) o:=by
 rw [cG TT qt Wh]
 revert hF
 unfold kY
 try dsimp only
 refine ip (fun h1=>az fun x1 h2=>?_) ?_
 have g1:decide (0<=p1)=true:=(cp h2).1
 have g2:(ah f5.row p0.f9)[(p1:Int).toNat]? =some (rGScore x1):=cn _ h2
 have g3:=bK (kz x1.fN _ (tD x1.fN))
 refine iv (fun h3=>?_) ?_
 all_goals (rintro⟨⟩;intros;show cN _ _ _ (aH _ _ _ _ (Code.seq _ _) _)=_;simp (maxSteps:=4000000) only [*,rGScore,rGValue,la,mg,Da,As,zv,xC,wB,↓RP,RB,RC,↓ai,Nat.reduceBEq,List.map,↓ao,↓am,ty3,kQ,oN,kU,ua,↓aa _ _ _ _ 26,↓aa _ _ _ _ 28,↓aa _ _ _ _ 29,↓aa _ _ _ _ 27])
def lb (p0:ae) (s:Int):St:=⟨[(1,.rp (rGValue p0)),(8,.I s)],[]⟩
def mc (p0:ae) (r:Unit⊕Unit):Option (Ex×St):=match r with
 | .inl r=>some (.ret,⟨[(2,.I 10)],[]⟩)
 | .inr r=>some (.normal,⟨[(1,.rp (rGValue p0))],[]⟩)
theorem qy (C:aj)  (p0:ae) (p1:Int) (o:Int⊕(Unit⊕Unit)) (hF:kZ p0 p1=some o):evW TT C.wide qt sM 8 (lb p0 p1)=Sum.elim (fun s=>evW TT C.wide qt sM 8 (lb p0 s)) (fun r=>mc p0 r) o:=by
 rw [cG TT qt XR]
 revert hF
 unfold kZ
 try dsimp only
 refine ip (fun h1=>az fun x1 h2=>?_) ?_
 have g1:decide (0<=(IntKind.i64.wrap (p1-1)))=true:=(cp h2).1
 have g2:(ah iC.row p0.iz)[((IntKind.i64.wrap (p1-1)):Int).toNat]? =some (rGPair x1):=cn _ h2
 refine az fun x2 h3=>?_
 have g3:decide (0<=p1)=true:=(cp h3).1
 have g4:(ah iC.row p0.iz)[(p1:Int).toNat]? =some (rGPair x2):=cn _ h3
 refine iv (fun h4=>?_) ?_
 all_goals (rintro⟨⟩;intros;show cN _ _ _ (aH _ _ _ _ (Code.seq _ _) _)=_;simp (maxSteps:=4000000) only [*,rGPair,rGValue,lb,mc,Da,As,zv,xC,Xl,wB,↓RP,RB,RC,↓ai,Nat.reduceBEq,List.map,↓ao,↓am,ty3,ty9,kQ,ti,kU,AE,↓aa _ _ _ _ 31,↓aq _ _ _ _ 33,↓aa _ _ _ _ 34,↓aa _ _ _ _ 32])
def kE (p0:ae) (s:Int):St:=⟨[(1,.rp (rGValue p0)),(9,.I s)],[]⟩
def lL (p0:ae) (r:Unit⊕Unit):Option (Ex×St):=match r with
 | .inl r=>some (.ret,⟨[(2,.I 10)],[]⟩)
 | .inr r=>some (.normal,⟨[(1,.rp (rGValue p0))],[]⟩)
theorem pK (C:aj)  (p0:ae) (p1:Int) (o:Int⊕(Unit⊕Unit)) (hF:jH p0 p1=some o):evW TT C.wide qt sM 10 (kE p0 p1)=Sum.elim (fun s=>evW TT C.wide qt sM 10 (kE p0 s)) (fun r=>lL p0 r) o:=by
 rw [cG TT qt T4]
 revert hF
 unfold jH
 try dsimp only
 refine ip (fun h1=>ip (fun h2=>az fun x1 h3=>?_) ?_) ?_
 have g1:decide (0<=(IntKind.i64.wrap (p1-1)))=true:=(cp h3).1
 have g2:(ah bY p0.af)[((IntKind.i64.wrap (p1-1)):Int).toNat]? =some [.s x1]:=cn _ h3
 refine az fun x2 h4=>?_
 have g3:decide (0<=p1)=true:=(cp h4).1
 have g4:(ah bY p0.af)[(p1:Int).toNat]? =some [.s x2]:=cn _ h4
 refine iv (fun h5=>?_) ?_
 all_goals (rintro⟨⟩;intros;show cN _ _ _ (aH _ _ _ _ (Code.seq _ _) _)=_;simp (maxSteps:=4000000) only [*,rGValue,kE,lL,Da,As,zv,xC,Wz,wB,↓RP,RB,RC,↓ai,Nat.reduceBEq,List.map,↓ao,↓am,ty3,ty9,kQ,mJ,kU,↓aa _ _ _ _ 36,↓aq _ _ _ _ 38,↓aa _ _ _ _ 39,↓aa _ _ _ _ 37])
def kH (p0:ae) (s:Int):St:=⟨[(1,.rp (rGValue p0)),(10,.I s)],[]⟩
def lM (p0:ae) (r:Unit⊕Unit):Option (Ex×St):=match r with
 | .inl r=>some (.ret,⟨[(2,.I 10)],[]⟩)
 | .inr r=>some (.normal,⟨[],[]⟩)
theorem pw (C:aj) (pj:tP C) (rS:yF C) (p0:ae) (p1:Int) (o:Int⊕(Unit⊕Unit)) (hF:kB p0 p1=some o):evW TT C.wide qt sM 12 (kH p0 p1)=Sum.elim (fun s=>evW TT C.wide qt sM 12 (kH p0 s)) (fun r=>lM p0 r) o:=by
 rw [cG TT qt Tq]
 revert hF
 unfold kB
 try dsimp only
 refine ip (fun h1=>az fun x1 h2=>?_) ?_
 have g1:decide (0<=(IntKind.i64.wrap (p1-1)))=true:=(cp h2).1
 have g2:(ah f5.row p0.f9)[((IntKind.i64.wrap (p1-1)):Int).toNat]? =some (rGScore x1):=cn _ h2
 refine az fun x2 h3=>?_
 have g3:decide (0<=p1)=true:=(cp h3).1
 have g4:(ah f5.row p0.f9)[(p1:Int).toNat]? =some (rGScore x2):=cn _ h3
 have g5:=bK (pj x1 x2 _ (DZ x1 x2))
 refine ip (fun h4=>oC fun h5=>az fun x3 h6=>?_) ?_
 have g6:=bK (rS (dm p0.f9 0 p1) x2.i6 _ h6)
 refine iv (fun h7=>?_) ?_
 all_goals (rintro⟨⟩;intros;show cN _ _ _ (aH _ _ _ _ (Code.seq _ _) _)=_;simp (maxSteps:=4000000) only [*,rGScore,rGValue,kH,lM,Da,As,zv,xC,Wm,wB,↓RP,RB,RC,↓ai,Nat.reduceBEq,List.map,Nat.reduceAdd,↓ao,↓am,ty3,ty9,kQ,oN,kU,ua,↓aa _ _ _ _ 41,↓aq _ _ _ _ 43,↓aa _ _ _ _ 44,↓aa _ _ _ _ 42])
theorem zk (C:aj)  (p0:ae) (p1:Bool) (c:Code) (ho:cD 0 4 sM=some c) (r:Bool) (hF:lj p0 p1=r): @cV TT C.wide (evW TT C.wide qt sM) qt 0 4 ⟨[(1,.rp (rGValue p0)),(3,.v (.b p1))],[]⟩ ⟨c⟩=some (.normal,⟨[(1,.rp (rGValue p0)),(72,.v (.b r))],[]⟩):=by
 have e:=Option.some.inj (ho.symm.trans (rfl:cD 0 4 sM=some _))
 subst e
 clear ho
 show aH _ _ _ _ _ _=_
 revert hF
 unfold lj
 refine aX (fun h1=>?_) (fun h1=>?_)
 focus
  refine aX (fun h2=>?_) (fun h2=>?_)
  focus
   refine aX (fun h3=>?_) (fun h3=>?_)
   focus
    refine aX (fun h4=>?_) (fun h4=>?_)
    focus
     refine iv (fun h5=>?_) ?_
    rotate_left 2
    refine iv (fun h5=>iv (fun h6=>?_) ?_) ?_
   rotate_left 5
   unfold nk
   refine iv (fun h4=>aX (fun h5=>?_) (fun h5=>?_)) ?_
   focus
    refine iv (fun h6=>?_) ?_
   rotate_left 2
   refine iv (fun h6=>iv (fun h7=>?_) ?_) ?_
  rotate_left 11
  unfold ny
  refine ip (fun h3=>aX (fun h4=>?_) (fun h4=>?_)) ?_
  focus
   refine aX (fun h5=>?_) (fun h5=>?_)
   focus
    refine iv (fun h6=>?_) ?_
   rotate_left 2
   refine iv (fun h6=>iv (fun h7=>?_) ?_) ?_
  rotate_left 5
  unfold nu
  refine iv (fun h5=>aX (fun h6=>?_) (fun h6=>?_)) ?_
  focus
   refine iv (fun h7=>?_) ?_
  rotate_left 2
  refine iv (fun h7=>iv (fun h8=>?_) ?_) ?_
 rotate_left 23
 unfold np
 refine ip (fun h2=>aX (fun h3=>?_) (fun h3=>?_)) ?_
 focus
  refine aX (fun h4=>?_) (fun h4=>?_)
  focus
   refine aX (fun h5=>?_) (fun h5=>?_)
   focus
    refine iv (fun h6=>?_) ?_
   rotate_left 2
   refine iv (fun h6=>iv (fun h7=>?_) ?_) ?_
  rotate_left 5
  unfold nx
  refine iv (fun h5=>aX (fun h6=>?_) (fun h6=>?_)) ?_
  focus
   refine iv (fun h7=>?_) ?_
  rotate_left 2
  refine iv (fun h7=>iv (fun h8=>?_) ?_) ?_
 rotate_left 11
 unfold nq
 refine ip (fun h4=>aX (fun h5=>?_) (fun h5=>?_)) ?_
 focus
  refine aX (fun h6=>?_) (fun h6=>?_)
  focus
   refine iv (fun h7=>?_) ?_
  rotate_left 2
  refine iv (fun h7=>iv (fun h8=>?_) ?_) ?_
 rotate_left 5
 unfold nr
 refine iv (fun h6=>aX (fun h7=>?_) (fun h7=>?_)) ?_
 focus
  refine iv (fun h8=>?_) ?_
 rotate_left 2
 refine iv (fun h8=>iv (fun h9=>?_) ?_) ?_
 all_goals (rintro rfl;intros;simp (maxSteps:=4000000) only [*,rGValue,zv,xC,wB,↓RP,RB,RC,Nat.reduceBEq,List.map,bne,ty3,ty9,ti,mJ,oN,kU,↓aa _ _ _ _ 4])
theorem EZ (C:aj) (jr:kF C) (yy:ye C) (iY:kN C) (kz:pF C) (jx:ln C) (pj:tP C) (rS:yF C) (p0:ae) (r:Int) (hF:pL p0=some r):cR TT C.wide (evW TT C.wide qt sM) qt Tryz.f117.results.toList (aU Tryz.f117) [.agg (cGValue p0)] []=some (.I r,[]):=by
 revert hF
 unfold pL
 have g1:=bK (jr p0.e5 1 6 _ (oc p0.e5 1 6))
 have g2:jc p0.e5 1 6=(decide (1<=p0.e5)&&decide (p0.e5<=6)):=by first|rfl|(simp [jc];done)|(simp only [jc];decide)
 refine ip (fun h1=>ip (fun h2=>aX (fun h3=>?_) (fun h3=>?_)) ?_) ?_
 focus
  unfold uA
  have g3:=AK C p0 _ rfl (lW p0) rfl
  refine iv (fun h4=>?_) ?_
  have g4:=wz C yy jr iY p0 _ rfl (jP p0) rfl
  refine iv (fun h5=>az ?_) ?_
  rintro (_|_) h6
  focus
   dsimp only
   have g5:=cH _ _ (qz C iY p0) h6
   try simp only [lq,md] at g5
  rotate_left 1
  dsimp only
  unfold pS
  have g6:=cH _ _ (qz C iY p0) h6
  try simp only [lq,md] at g6
  refine az ?_
  rintro (_|_) h7
  focus
   dsimp only
   have g7:=cH _ _ (qI C jx iY p0) h7
   try simp only [lu,mh] at g7
  rotate_left 1
  dsimp only
  unfold vp
  have g8:=cH _ _ (qI C jx iY p0) h7
  try simp only [lu,mh] at g8
  refine az ?_
  rintro (_|_) h8
  focus
   dsimp only
   have g9:=cH _ _ (qG C iY p0) h8
   try simp only [lp,me] at g9
  rotate_left 1
  dsimp only
  unfold vB
  have g10:=cH _ _ (qG C iY p0) h8
  have g11:=bK (kz p0.iO _ (tD p0.iO))
  try simp only [lp,me] at g10
  refine ip (fun h9=>az ?_) ?_
  rintro (_|_) h10
  focus
   dsimp only
   have g12:=cH _ _ (qF C kz p0) h10
   try simp only [la,mg] at g12
  rotate_left 1
  dsimp only
  unfold vw
  have g13:=cH _ _ (qF C kz p0) h10
  try simp only [la,mg] at g13
  refine az ?_
  rintro (_|_) h11
  focus
   dsimp only
   have g14:=cH _ _ (qy C p0) h11
   try simp only [lb,mc] at g14
  rotate_left 1
  dsimp only
  unfold vm
  have g15:=cH _ _ (qy C p0) h11
  try simp only [lb,mc] at g15
  refine az ?_
  rintro (_|_) h12
  focus
   dsimp only
   have g16:=cH _ _ (pK C p0) h12
   try simp only [kE,lL] at g16
  rotate_left 1
  dsimp only
  unfold vF
  have g17:=cH _ _ (pK C p0) h12
  try simp only [kE,lL] at g17
  refine az ?_
  rintro (_|_) h13
  focus
   dsimp only
   have g18:=cH _ _ (pw C pj rS p0) h13
   try simp only [kH,lM] at g18
  rotate_left 1
  dsimp only
  have g19:=cH _ _ (pw C pj rS p0) h13
  try simp only [kH,lM] at g19
 rotate_left 11
 have g20:=zk C p0 (p0.e5==5) _ rfl (lj p0 (p0.e5==5)) rfl
 refine iv (fun h4=>?_) ?_
 have g4:=wz C yy jr iY p0 _ rfl (jP p0) rfl
 refine iv (fun h5=>az ?_) ?_
 rintro (_|_) h6
 focus
  dsimp only
  have g5:=cH _ _ (qz C iY p0) h6
  try simp only [lq,md] at g5
 rotate_left 1
 dsimp only
 unfold uu
 have g6:=cH _ _ (qz C iY p0) h6
 try simp only [lq,md] at g6
 refine az ?_
 rintro (_|_) h7
 focus
  dsimp only
  have g7:=cH _ _ (qI C jx iY p0) h7
  try simp only [lu,mh] at g7
 rotate_left 1
 dsimp only
 unfold xw
 have g8:=cH _ _ (qI C jx iY p0) h7
 try simp only [lu,mh] at g8
 refine az ?_
 rintro (_|_) h8
 focus
  dsimp only
  have g9:=cH _ _ (qG C iY p0) h8
  try simp only [lp,me] at g9
 rotate_left 1
 dsimp only
 unfold yI
 have g10:=cH _ _ (qG C iY p0) h8
 have g11:=bK (kz p0.iO _ (tD p0.iO))
 try simp only [lp,me] at g10
 refine ip (fun h9=>az ?_) ?_
 rintro (_|_) h10
 focus
  dsimp only
  have g12:=cH _ _ (qF C kz p0) h10
  try simp only [la,mg] at g12
 rotate_left 1
 dsimp only
 unfold yN
 have g13:=cH _ _ (qF C kz p0) h10
 try simp only [la,mg] at g13
 refine az ?_
 rintro (_|_) h11
 focus
  dsimp only
  have g14:=cH _ _ (qy C p0) h11
  try simp only [lb,mc] at g14
 rotate_left 1
 dsimp only
 unfold yK
 have g15:=cH _ _ (qy C p0) h11
 try simp only [lb,mc] at g15
 refine az ?_
 rintro (_|_) h12
 focus
  dsimp only
  have g16:=cH _ _ (pK C p0) h12
  try simp only [kE,lL] at g16
 rotate_left 1
 dsimp only
 unfold yS
 have g17:=cH _ _ (pK C p0) h12
 try simp only [kE,lL] at g17
 refine az ?_
 rintro (_|_) h13
 focus
  dsimp only
  have g18:=cH _ _ (pw C pj rS p0) h13
  try simp only [kH,lM] at g18
 rotate_left 1
 dsimp only
 have g19:=cH _ _ (pw C pj rS p0) h13
 try simp only [kH,lM] at g19
 all_goals (rintro⟨⟩;intros;rw [bk];show cC _ _ _ (aH _ _ _ _ (Code.seq _ _) _)=_;simp (maxSteps:=4000000) only [*,cGValue,rGValue,qdI,Da,As,zv,xC,qbR,wB,↓RP,RB,RC,Nat.reduceBEq,bP,List.map,↓ao,↓am,ty3,ty4,kQ,kU,↓aa _ _ _ _ 0,↓aa _ _ _ _ 1,↓aa _ _ _ _ 2,↓aa _ _ _ _ 3,↓bg _ _ _ _ 4,↓aa _ _ _ _ 5,↓bg _ _ _ _ 6,↓aa _ _ _ _ 7,↓aa _ _ _ _ 8,↓aa _ _ _ _ 13,↓aa _ _ _ _ 18,↓aa _ _ _ _ 23,↓aa _ _ _ _ 24,↓aa _ _ _ _ 25,↓aa _ _ _ _ 30,↓aa _ _ _ _ 35,↓aa _ _ _ _ 40,↓aa _ _ _ _ 45])
def Fe:List (Nat×List Nat):=[(0,[1]),(1,[1,14]),(2,[2]),(3,[1,3]),(4,[1,3,19]),(5,[1,3]),(6,[1,3,4]),(7,[1,3,4,52]),(8,[2]),(9,[1,3,68]),(10,[2]),(11,[2])]
def Ph:List (Nat×List Nat×List Nat):=[(14,[],[1]),(19,[1,3],[]),(52,[],[1,3,4]),(68,[],[1,3])]
def y6:cL where
 keep:=ax Fe
 ro:=fun t=>t==1
 mv:=fun _=>false
 give:=fun _=>false
 free:=fun i=>match i with|7=>[(14,16),(15,16),(14,17),(15,17),(14,21),(15,21),(16,21),(17,21),(18,21),(19,21),(20,21),(14,22),(15,22),(16,22),(17,22),(18,22),(19,22),(20,22)]|_=>[]
 alive:=av Ph
theorem X4 (t:Nat) (x:Bool) (e:Env) (S:bH):cK y6 t x ⟨e,S⟩=atO (av Ph t x) e S:=cF rfl t x e S
theorem LE (i:Nat):y6.keep i=ax Fe i:=rfl
theorem qbo (t:Nat):y6.ro t=(t==1):=rfl
theorem Kb (t:Nat):y6.mv t=(false):=rfl
theorem Zw (t:Nat):y6.give t=(false):=rfl
theorem qaC:y6.free 7= [(14,16),(15,16),(14,17),(15,17),(14,21),(15,21),(16,21),(17,21),(18,21),(19,21),(20,21),(14,22),(15,22),(16,22),(17,22),(18,22),(19,22),(20,22)]:=rfl
theorem qby:Tryz.f105.results.toList= [.tmp 2]:=rfl
def Cq:Code:=aU Tryz.f105
def qcD:Code:=(bE 0 (aU Tryz.f105)).getD .skip
theorem WT:bE 0 Cq=some qcD:=rfl
theorem AV (C:aj) (jr:kF C) (p0:iJ) (c:Code) (ho:cD 0 1 Cq=some c) (r:Bool) (hF:kK p0=r): @cV TT C.wide (evW TT C.wide y6 Cq) y6 0 1 ⟨[(1,.rp (rGStore p0))],[]⟩ ⟨c⟩=some (.normal,⟨[(1,.rp (rGStore p0)),(14,.v (.b r))],[]⟩):=by
 have e:=Option.some.inj (ho.symm.trans (rfl:cD 0 1 Cq=some _))
 subst e
 clear ho
 show aH _ _ _ _ _ _=_
 revert hF
 unfold kK
 have g1:=bK (jr p0.iS 0 1073741824 _ (oc p0.iS 0 1073741824))
 have g2:jc p0.iS 0 1073741824=(decide (0<=p0.iS)&&decide (p0.iS<=1073741824)):=by first|rfl|(simp [jc];done)|(simp only [jc];decide)
 refine ip (fun h1=>iv (fun h2=>?_) ?_) ?_
 all_goals (rintro rfl;intros;simp (maxSteps:=4000000) only [*,rGStore,LE,Fe,Kb,↓RP,RB,RC,Nat.reduceBEq,List.map,ty3,Ad,ug,↓aa _ _ _ _ 1])
theorem zw (C:aj) (jx:ln C) (pf:tV C) (p0:iJ) (p1:Int) (p2:gi) (c:Code) (ho:cD 0 7 Cq=some c) (r:Bool) (hF:lU p0 p1 p2=some r): @cV TT C.wide (evW TT C.wide y6 Cq) y6 0 7 ⟨[(1,.rp (rGStore p0)),(3,.I p1),(4,.ptr 0 0)],[cGEntry p2]⟩ ⟨c⟩=some (.normal,⟨[(1,.rp (rGStore p0)),(3,.I p1),(4,.ptr 0 0),(52,.v (.b r))],[cGEntry p2]⟩):=by
 have e:=Option.some.inj (ho.symm.trans (rfl:cD 0 7 Cq=some _))
 subst e
 clear ho
 show aH _ _ _ _ _ _=_
 revert hF
 unfold lU
 have g1:=bK (jx p2.jm _ (tR p2.jm))
 refine ip (fun h1=>az fun x1 h2=>?_) ?_
 have g2:=bK (pf p2.jt _ h2)
 refine ip (fun h3=>ip (fun h4=>az fun x2 h5=>?_) ?_) ?_
 have g3:decide (0<=(IntKind.i64.wrap (p1-1)))=true:=(cp h5).1
 have g4:(ah gi.row p0.f6)[((IntKind.i64.wrap (p1-1)):Int).toNat]? =some (rGEntry x2):=cn _ h5
 all_goals (rintro⟨⟩;intros;simp (maxSteps:=4000000) only [*,cGEntry,rGEntry,rGStore,LE,Fe,qaC,Kb,↓RP,RB,RC,Nat.reduceBEq,List.map,Nat.reduceAdd,Nat.reduceSub,bne,aP,ty3,ty9,kQ,Ad,ug,kU,zO,↓aq _ _ _ _ 7])
theorem zu (C:aj) (jr:kF C) (p0:iJ) (p1:Int) (p2:gi) (c:Code) (ho:cD 0 9 Cq=some c) (r:Bool) (hF:lm p0 p1 p2=r): @cV TT C.wide (evW TT C.wide y6 Cq) y6 0 9 ⟨[(1,.rp (rGStore p0)),(3,.I p1),(4,.ptr 0 0)],[cGEntry p2]⟩ ⟨c⟩=some (.normal,⟨[(1,.rp (rGStore p0)),(3,.I p1),(68,.v (.b r))],[cGEntry p2]⟩):=by
 have e:=Option.some.inj (ho.symm.trans (rfl:cD 0 9 Cq=some _))
 subst e
 clear ho
 show aH _ _ _ _ _ _=_
 revert hF
 unfold lm
 refine iv (fun h1=>?_) ?_
 have g1:=bK (jr p2.jX 0 1073741824 _ (oc p2.jX 0 1073741824))
 have g2:jc p2.jX 0 1073741824=(decide (0<=p2.jX)&&decide (p2.jX<=1073741824)):=by first|rfl|(simp [jc];done)|(simp only [jc];decide)
 refine ip (fun h2=>iv (fun h3=>?_) ?_) ?_
 all_goals (rintro rfl;intros;simp (maxSteps:=4000000) only [*,cGEntry,rGStore,LE,Fe,Kb,↓RP,RB,RC,Nat.reduceBEq,List.map,bne,ty3,ug,zO,↓aa _ _ _ _ 9])
def nT (p0:iJ) (s:Int):St:=⟨[(1,.rp (rGStore p0)),(3,.I s)],[]⟩
def qA (p0:iJ) (r:gi⊕Unit):Option (Ex×St):=match r with
 | .inl r=>some (.ret,⟨[(2,.I 13)],[cGEntry r]⟩)
 | .inr r=>some (.normal,⟨[],[]⟩)
theorem wS (C:aj) (jx:ln C) (pf:tV C) (jr:kF C) (p0:iJ) (p1:Int) (o:Int⊕(gi⊕Unit)) (hF:mm p0 p1=some o):evW TT C.wide y6 Cq 0 (nT p0 p1)=Sum.elim (fun s=>evW TT C.wide y6 Cq 0 (nT p0 s)) (fun r=>qA p0 r) o:=by
 rw [cG TT y6 WT]
 revert hF
 unfold mm
 try dsimp only
 refine ip (fun h1=>az fun x1 h2=>?_) ?_
 have g1:decide (0<=p1)=true:=(cp h2).1
 have g2:(ah gi.row p0.f6)[(p1:Int).toNat]? =some (rGEntry x1):=cn _ h2
 refine az fun x2 h3=>?_
 have g3:=zw C jx pf p0 p1 x1 _ rfl _ h3
 refine iv (fun h4=>?_) ?_
 have g4:=zu C jr p0 p1 x1 _ rfl (lm p0 p1 x1) rfl
 refine iv (fun h5=>?_) ?_
 all_goals (rintro⟨⟩;intros;show cN _ _ _ (aH _ _ _ _ (Code.seq _ _) _)=_;simp (maxSteps:=4000000) only [*,cGEntry,rGEntry,rGStore,nT,qA,X4,Ph,LE,Fe,Kb,Zw,↓RP,RB,RC,↓ai,Nat.reduceBEq,bP,List.map,Nat.reduceAdd,Nat.reduceLeDiff,bne,↓ao,↓am,ty3,kQ,Ad,ug,zO,↓aa _ _ _ _ 4,↓aa _ _ _ _ 6,↓bg _ _ _ _ 7,↓aa _ _ _ _ 8,↓bg _ _ _ _ 9,↓aa _ _ _ _ 10,↓aa _ _ _ _ 5])
theorem FC (C:aj) (jr:kF C) (jx:ln C) (pf:tV C) (p0:iJ) (r:Int) (hF:pI p0=some r):cR TT C.wide (evW TT C.wide y6 Cq) y6 Tryz.f105.results.toList (aU Tryz.f105) [.agg (cGStore p0)] []=some (.I r,[]):=by
 revert hF
 unfold pI
 have g1:=AV C jr p0 _ rfl (kK p0) rfl
 refine iv (fun h1=>az ?_) ?_
 rintro (x1|_) h2
 focus
  dsimp only
  have g2:=cH _ _ (wS C jx pf jr p0) h2
  try simp only [nT,qA] at g2
 rotate_left 1
 dsimp only
 have g3:=cH _ _ (wS C jx pf jr p0) h2
 try simp only [nT,qA] at g3
 all_goals (rintro⟨⟩;intros;rw [bk];show cC _ _ _ (aH _ _ _ _ (Code.seq _ _) _)=_;simp (maxSteps:=4000000) only [*,cGEntry,cGStore,rGStore,qby,X4,Ph,LE,Fe,qbo,↓RP,RB,RC,Nat.reduceBEq,bP,List.map,↓ao,↓am,ty3,kQ,ug,↓aa _ _ _ _ 0,↓bg _ _ _ _ 1,↓aa _ _ _ _ 2,↓aa _ _ _ _ 3,↓aa _ _ _ _ 11])
end Go.Proofs.YtgcglmoogaldbaaGreat
