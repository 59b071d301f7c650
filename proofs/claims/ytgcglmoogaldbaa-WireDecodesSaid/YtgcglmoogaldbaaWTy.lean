/- Part of the proof by the machine Mx: the types (WTy). -/
import Derived.Test.YtgcglmoogaldbaaMxFour
import Derived.Test.YtgcglmoogaldbaaTyTab
set_option linter.unusedSimpArgs false
set_option linter.unusedVariables false
set_option linter.constructorNameAsVariable false
set_option linter.unnecessarySimpa false
namespace Go.Proofs.Ytgcglmoogaldbaa
open Go Go.Mx Go.Proofs
structure GPair where
 fField:ByteArray
 fText:ByteArray
def GPair.row (x:GPair):List V:=[.s x.fField,.s x.fText]
def GPair.d (x:GPair):D:=.agg [.v (.s x.fField),.v (.s x.fText)]
def GPair.ok (x:GPair):Prop:=(okS x.fField)∧(okS x.fText)
theorem GPair.row_inj (a b:GPair) (h:a.row=b.row):a=b:=by
 obtain⟨a0,a1⟩:=a;obtain⟨b0,b1⟩:=b
 simp only [GPair.row,List.cons.injEq,V.i.injEq,V.s.injEq,V.b.injEq,V.sl.injEq,true_and,and_true,bc,ba,aZ] at h
 simp only [GPair.mk.injEq]
 simp only [h,and_self]
theorem GPair.map_inj {a b:List GPair} :ah GPair.row a=ah GPair.row b↔a=b:=dA GPair.row_inj
theorem GPair.one (a0:ByteArray) (a1:ByteArray): [([.s a0,.s a1]:List V)]=ah GPair.row [(⟨a0,a1⟩:GPair)]:=rfl
theorem GPair.cons (a0:ByteArray) (a1:ByteArray) (l:List GPair):([.s a0,.s a1]:List V)::ah GPair.row l=ah GPair.row ((⟨a0,a1⟩:GPair)::l):=rfl
theorem GPair.set (a0:ByteArray) (a1:ByteArray) (l:List GPair) (i:Int):(ah GPair.row l).set i.toNat ([.s a0,.s a1]:List V)=ah GPair.row (setL l i (⟨a0,a1⟩:GPair)):=dj GPair.row l _ (⟨a0,a1⟩:GPair)
theorem GPair.flat (l:List GPair):(ah GPair.row l).all gh=true:=ev l (fun _=>rfl)
structure GScore where
 fMember:ByteArray
 fN:Int
def GScore.row (x:GScore):List V:=[.s x.fMember,.i .i64 x.fN]
def GScore.d (x:GScore):D:=.agg [.v (.s x.fMember),.v (.i .i64 x.fN)]
def GScore.ok (x:GScore):Prop:=(okS x.fMember)∧(okI x.fN)
theorem GScore.row_inj (a b:GScore) (h:a.row=b.row):a=b:=by
 obtain⟨a0,a1⟩:=a;obtain⟨b0,b1⟩:=b
 simp only [GScore.row,List.cons.injEq,V.i.injEq,V.s.injEq,V.b.injEq,V.sl.injEq,true_and,and_true,bc,ba,aZ,GPair.map_inj] at h
 simp only [GScore.mk.injEq]
 simp only [h,and_self]
theorem GScore.map_inj {a b:List GScore} :ah GScore.row a=ah GScore.row b↔a=b:=dA GScore.row_inj
theorem GScore.one (a0:ByteArray) (a1:Int): [([.s a0,.i .i64 a1]:List V)]=ah GScore.row [(⟨a0,a1⟩:GScore)]:=rfl
theorem GScore.cons (a0:ByteArray) (a1:Int) (l:List GScore):([.s a0,.i .i64 a1]:List V)::ah GScore.row l=ah GScore.row ((⟨a0,a1⟩:GScore)::l):=rfl
theorem GScore.set (a0:ByteArray) (a1:Int) (l:List GScore) (i:Int):(ah GScore.row l).set i.toNat ([.s a0,.i .i64 a1]:List V)=ah GScore.row (setL l i (⟨a0,a1⟩:GScore)):=dj GScore.row l _ (⟨a0,a1⟩:GScore)
theorem GScore.flat (l:List GScore):(ah GScore.row l).all gh=true:=ev l (fun _=>rfl)
structure GValue where
 fKind:Int
 fText:ByteArray
 fCount:Int
 fPairs:List GPair
 fItems:List ByteArray
 fScores:List GScore
def GValue.row (x:GValue):List V:=[.i .i64 x.fKind,.s x.fText,.i .i64 x.fCount,.sl 2 (ah GPair.row x.fPairs),.sl 1 (ah bY x.fItems),.sl 2 (ah GScore.row x.fScores)]
def GValue.d (x:GValue):D:=.agg [.v (.i .i64 x.fKind),.v (.s x.fText),.v (.i .i64 x.fCount),.v (.sl 2 (ah GPair.row x.fPairs)),.v (.sl 1 (ah bY x.fItems)),.v (.sl 2 (ah GScore.row x.fScores))]
def GValue.ok (x:GValue):Prop:=(okI x.fKind)∧(okS x.fText)∧(okI x.fCount)∧((okN 32 x.fPairs.length∧ ∀y∈x.fPairs,y.ok))∧((okN 16 x.fItems.length∧ ∀y∈x.fItems,okS y))∧((okN 24 x.fScores.length∧ ∀y∈x.fScores,y.ok))
theorem GValue.row_inj (a b:GValue) (h:a.row=b.row):a=b:=by
 obtain⟨a0,a1,a2,a3,a4,a5⟩:=a;obtain⟨b0,b1,b2,b3,b4,b5⟩:=b
 simp only [GValue.row,List.cons.injEq,V.i.injEq,V.s.injEq,V.b.injEq,V.sl.injEq,true_and,and_true,bc,ba,aZ,GPair.map_inj,GScore.map_inj] at h
 simp only [GValue.mk.injEq]
 simp only [h,and_self]
theorem GValue.map_inj {a b:List GValue} :ah GValue.row a=ah GValue.row b↔a=b:=dA GValue.row_inj
theorem GValue.one (a0:Int) (a1:ByteArray) (a2:Int) (a3:List GPair) (a4:List ByteArray) (a5:List GScore): [([.i .i64 a0,.s a1,.i .i64 a2,.sl 2 (ah GPair.row a3),.sl 1 (ah bY a4),.sl 2 (ah GScore.row a5)]:List V)]=ah GValue.row [(⟨a0,a1,a2,a3,a4,a5⟩:GValue)]:=rfl
theorem GValue.cons (a0:Int) (a1:ByteArray) (a2:Int) (a3:List GPair) (a4:List ByteArray) (a5:List GScore) (l:List GValue):([.i .i64 a0,.s a1,.i .i64 a2,.sl 2 (ah GPair.row a3),.sl 1 (ah bY a4),.sl 2 (ah GScore.row a5)]:List V)::ah GValue.row l=ah GValue.row ((⟨a0,a1,a2,a3,a4,a5⟩:GValue)::l):=rfl
theorem GValue.set (a0:Int) (a1:ByteArray) (a2:Int) (a3:List GPair) (a4:List ByteArray) (a5:List GScore) (l:List GValue) (i:Int):(ah GValue.row l).set i.toNat ([.i .i64 a0,.s a1,.i .i64 a2,.sl 2 (ah GPair.row a3),.sl 1 (ah bY a4),.sl 2 (ah GScore.row a5)]:List V)=ah GValue.row (setL l i (⟨a0,a1,a2,a3,a4,a5⟩:GValue)):=dj GValue.row l _ (⟨a0,a1,a2,a3,a4,a5⟩:GValue)
structure GEntry where
 fKey:ByteArray
 fValue:GValue
 fUntil:Int
def GEntry.row (x:GEntry):List V:=[.s x.fKey,.i .i64 x.fValue.fKind,.s x.fValue.fText,.i .i64 x.fValue.fCount,.sl 2 (ah GPair.row x.fValue.fPairs),.sl 1 (ah bY x.fValue.fItems),.sl 2 (ah GScore.row x.fValue.fScores),.i .i64 x.fUntil]
def GEntry.d (x:GEntry):D:=.agg [.v (.s x.fKey),.v (.i .i64 x.fValue.fKind),.v (.s x.fValue.fText),.v (.i .i64 x.fValue.fCount),.v (.sl 2 (ah GPair.row x.fValue.fPairs)),.v (.sl 1 (ah bY x.fValue.fItems)),.v (.sl 2 (ah GScore.row x.fValue.fScores)),.v (.i .i64 x.fUntil)]
def GEntry.ok (x:GEntry):Prop:=(okS x.fKey)∧(x.fValue.ok)∧(okI x.fUntil)
theorem GEntry.row_inj (a b:GEntry) (h:a.row=b.row):a=b:=by
 obtain⟨a0,⟨a1,a2,a3,a4,a5,a6⟩,a7⟩:=a;obtain⟨b0,⟨b1,b2,b3,b4,b5,b6⟩,b7⟩:=b
 simp only [GEntry.row,List.cons.injEq,V.i.injEq,V.s.injEq,V.b.injEq,V.sl.injEq,true_and,and_true,bc,ba,aZ,GPair.map_inj,GScore.map_inj] at h
 simp only [GValue.mk.injEq,GEntry.mk.injEq]
 simp only [h,and_self]
theorem GEntry.map_inj {a b:List GEntry} :ah GEntry.row a=ah GEntry.row b↔a=b:=dA GEntry.row_inj
theorem GEntry.one (a0:ByteArray) (a1:Int) (a2:ByteArray) (a3:Int) (a4:List GPair) (a5:List ByteArray) (a6:List GScore) (a7:Int): [([.s a0,.i .i64 a1,.s a2,.i .i64 a3,.sl 2 (ah GPair.row a4),.sl 1 (ah bY a5),.sl 2 (ah GScore.row a6),.i .i64 a7]:List V)]=ah GEntry.row [(⟨a0,⟨a1,a2,a3,a4,a5,a6⟩,a7⟩:GEntry)]:=rfl
theorem GEntry.cons (a0:ByteArray) (a1:Int) (a2:ByteArray) (a3:Int) (a4:List GPair) (a5:List ByteArray) (a6:List GScore) (a7:Int) (l:List GEntry):([.s a0,.i .i64 a1,.s a2,.i .i64 a3,.sl 2 (ah GPair.row a4),.sl 1 (ah bY a5),.sl 2 (ah GScore.row a6),.i .i64 a7]:List V)::ah GEntry.row l=ah GEntry.row ((⟨a0,⟨a1,a2,a3,a4,a5,a6⟩,a7⟩:GEntry)::l):=rfl
theorem GEntry.set (a0:ByteArray) (a1:Int) (a2:ByteArray) (a3:Int) (a4:List GPair) (a5:List ByteArray) (a6:List GScore) (a7:Int) (l:List GEntry) (i:Int):(ah GEntry.row l).set i.toNat ([.s a0,.i .i64 a1,.s a2,.i .i64 a3,.sl 2 (ah GPair.row a4),.sl 1 (ah bY a5),.sl 2 (ah GScore.row a6),.i .i64 a7]:List V)=ah GEntry.row (setL l i (⟨a0,⟨a1,a2,a3,a4,a5,a6⟩,a7⟩:GEntry)):=dj GEntry.row l _ (⟨a0,⟨a1,a2,a3,a4,a5,a6⟩,a7⟩:GEntry)
structure GStore where
 fNow:Int
 fEntries:List GEntry
def GStore.row (x:GStore):List V:=[.i .i64 x.fNow,.sl 8 (ah GEntry.row x.fEntries)]
def GStore.d (x:GStore):D:=.agg [.v (.i .i64 x.fNow),.v (.sl 8 (ah GEntry.row x.fEntries))]
def GStore.ok (x:GStore):Prop:=(okI x.fNow)∧((okN 128 x.fEntries.length∧ ∀y∈x.fEntries,y.ok))
theorem GStore.row_inj (a b:GStore) (h:a.row=b.row):a=b:=by
 obtain⟨a0,a1⟩:=a;obtain⟨b0,b1⟩:=b
 simp only [GStore.row,List.cons.injEq,V.i.injEq,V.s.injEq,V.b.injEq,V.sl.injEq,true_and,and_true,bc,ba,aZ,GPair.map_inj,GScore.map_inj,GValue.map_inj,GEntry.map_inj] at h
 simp only [GStore.mk.injEq]
 simp only [h,and_self]
theorem GStore.map_inj {a b:List GStore} :ah GStore.row a=ah GStore.row b↔a=b:=dA GStore.row_inj
theorem GStore.one (a0:Int) (a1:List GEntry): [([.i .i64 a0,.sl 8 (ah GEntry.row a1)]:List V)]=ah GStore.row [(⟨a0,a1⟩:GStore)]:=rfl
theorem GStore.cons (a0:Int) (a1:List GEntry) (l:List GStore):([.i .i64 a0,.sl 8 (ah GEntry.row a1)]:List V)::ah GStore.row l=ah GStore.row ((⟨a0,a1⟩:GStore)::l):=rfl
theorem GStore.set (a0:Int) (a1:List GEntry) (l:List GStore) (i:Int):(ah GStore.row l).set i.toNat ([.i .i64 a0,.sl 8 (ah GEntry.row a1)]:List V)=ah GStore.row (setL l i (⟨a0,a1⟩:GStore)):=dj GStore.row l _ (⟨a0,a1⟩:GStore)
structure GReply where
 fCode:Int
 fText:ByteArray
 fN:Int
 fList:List ByteArray
def GReply.row (x:GReply):List V:=[.i .i64 x.fCode,.s x.fText,.i .i64 x.fN,.sl 1 (ah bY x.fList)]
def GReply.d (x:GReply):D:=.agg [.v (.i .i64 x.fCode),.v (.s x.fText),.v (.i .i64 x.fN),.v (.sl 1 (ah bY x.fList))]
def GReply.ok (x:GReply):Prop:=(okI x.fCode)∧(okS x.fText)∧(okI x.fN)∧((okN 16 x.fList.length∧ ∀y∈x.fList,okS y))
theorem GReply.row_inj (a b:GReply) (h:a.row=b.row):a=b:=by
 obtain⟨a0,a1,a2,a3⟩:=a;obtain⟨b0,b1,b2,b3⟩:=b
 simp only [GReply.row,List.cons.injEq,V.i.injEq,V.s.injEq,V.b.injEq,V.sl.injEq,true_and,and_true,bc,ba,aZ,GPair.map_inj,GScore.map_inj,GValue.map_inj,GEntry.map_inj,GStore.map_inj] at h
 simp only [GReply.mk.injEq]
 simp only [h,and_self]
theorem GReply.map_inj {a b:List GReply} :ah GReply.row a=ah GReply.row b↔a=b:=dA GReply.row_inj
theorem GReply.one (a0:Int) (a1:ByteArray) (a2:Int) (a3:List ByteArray): [([.i .i64 a0,.s a1,.i .i64 a2,.sl 1 (ah bY a3)]:List V)]=ah GReply.row [(⟨a0,a1,a2,a3⟩:GReply)]:=rfl
theorem GReply.cons (a0:Int) (a1:ByteArray) (a2:Int) (a3:List ByteArray) (l:List GReply):([.i .i64 a0,.s a1,.i .i64 a2,.sl 1 (ah bY a3)]:List V)::ah GReply.row l=ah GReply.row ((⟨a0,a1,a2,a3⟩:GReply)::l):=rfl
theorem GReply.set (a0:Int) (a1:ByteArray) (a2:Int) (a3:List ByteArray) (l:List GReply) (i:Int):(ah GReply.row l).set i.toNat ([.i .i64 a0,.s a1,.i .i64 a2,.sl 1 (ah bY a3)]:List V)=ah GReply.row (setL l i (⟨a0,a1,a2,a3⟩:GReply)):=dj GReply.row l _ (⟨a0,a1,a2,a3⟩:GReply)
structure GClient where
 fId:Int
 fSeq:Int
 fTime:Int
 fReply:GReply
def GClient.row (x:GClient):List V:=[.i .i64 x.fId,.i .i64 x.fSeq,.i .i64 x.fTime,.i .i64 x.fReply.fCode,.s x.fReply.fText,.i .i64 x.fReply.fN,.sl 1 (ah bY x.fReply.fList)]
def GClient.d (x:GClient):D:=.agg [.v (.i .i64 x.fId),.v (.i .i64 x.fSeq),.v (.i .i64 x.fTime),.v (.i .i64 x.fReply.fCode),.v (.s x.fReply.fText),.v (.i .i64 x.fReply.fN),.v (.sl 1 (ah bY x.fReply.fList))]
def GClient.ok (x:GClient):Prop:=(okI x.fId)∧(okI x.fSeq)∧(okI x.fTime)∧(x.fReply.ok)
theorem GClient.row_inj (a b:GClient) (h:a.row=b.row):a=b:=by
 obtain⟨a0,a1,a2,⟨a3,a4,a5,a6⟩⟩:=a;obtain⟨b0,b1,b2,⟨b3,b4,b5,b6⟩⟩:=b
 simp only [GClient.row,List.cons.injEq,V.i.injEq,V.s.injEq,V.b.injEq,V.sl.injEq,true_and,and_true,bc,ba,aZ,GPair.map_inj,GScore.map_inj,GValue.map_inj,GEntry.map_inj,GStore.map_inj] at h
 simp only [GReply.mk.injEq,GClient.mk.injEq]
 simp only [h,and_self]
theorem GClient.map_inj {a b:List GClient} :ah GClient.row a=ah GClient.row b↔a=b:=dA GClient.row_inj
theorem GClient.one (a0:Int) (a1:Int) (a2:Int) (a3:Int) (a4:ByteArray) (a5:Int) (a6:List ByteArray): [([.i .i64 a0,.i .i64 a1,.i .i64 a2,.i .i64 a3,.s a4,.i .i64 a5,.sl 1 (ah bY a6)]:List V)]=ah GClient.row [(⟨a0,a1,a2,⟨a3,a4,a5,a6⟩⟩:GClient)]:=rfl
theorem GClient.cons (a0:Int) (a1:Int) (a2:Int) (a3:Int) (a4:ByteArray) (a5:Int) (a6:List ByteArray) (l:List GClient):([.i .i64 a0,.i .i64 a1,.i .i64 a2,.i .i64 a3,.s a4,.i .i64 a5,.sl 1 (ah bY a6)]:List V)::ah GClient.row l=ah GClient.row ((⟨a0,a1,a2,⟨a3,a4,a5,a6⟩⟩:GClient)::l):=rfl
theorem GClient.set (a0:Int) (a1:Int) (a2:Int) (a3:Int) (a4:ByteArray) (a5:Int) (a6:List ByteArray) (l:List GClient) (i:Int):(ah GClient.row l).set i.toNat ([.i .i64 a0,.i .i64 a1,.i .i64 a2,.i .i64 a3,.s a4,.i .i64 a5,.sl 1 (ah bY a6)]:List V)=ah GClient.row (setL l i (⟨a0,a1,a2,⟨a3,a4,a5,a6⟩⟩:GClient)):=dj GClient.row l _ (⟨a0,a1,a2,⟨a3,a4,a5,a6⟩⟩:GClient)
structure GMachine where
 fStore:GStore
 fNext:Int
 fClients:List GClient
def GMachine.row (x:GMachine):List V:=[.i .i64 x.fStore.fNow,.sl 8 (ah GEntry.row x.fStore.fEntries),.i .i64 x.fNext,.sl 7 (ah GClient.row x.fClients)]
def GMachine.d (x:GMachine):D:=.agg [.v (.i .i64 x.fStore.fNow),.v (.sl 8 (ah GEntry.row x.fStore.fEntries)),.v (.i .i64 x.fNext),.v (.sl 7 (ah GClient.row x.fClients))]
def GMachine.ok (x:GMachine):Prop:=(x.fStore.ok)∧(okI x.fNext)∧((okN 80 x.fClients.length∧ ∀y∈x.fClients,y.ok))
theorem GMachine.row_inj (a b:GMachine) (h:a.row=b.row):a=b:=by
 obtain⟨⟨a0,a1⟩,a2,a3⟩:=a;obtain⟨⟨b0,b1⟩,b2,b3⟩:=b
 simp only [GMachine.row,List.cons.injEq,V.i.injEq,V.s.injEq,V.b.injEq,V.sl.injEq,true_and,and_true,bc,ba,aZ,GPair.map_inj,GScore.map_inj,GValue.map_inj,GEntry.map_inj,GReply.map_inj,GClient.map_inj] at h
 simp only [GStore.mk.injEq,GMachine.mk.injEq]
 simp only [h,and_self]
theorem GMachine.map_inj {a b:List GMachine} :ah GMachine.row a=ah GMachine.row b↔a=b:=dA GMachine.row_inj
theorem GMachine.one (a0:Int) (a1:List GEntry) (a2:Int) (a3:List GClient): [([.i .i64 a0,.sl 8 (ah GEntry.row a1),.i .i64 a2,.sl 7 (ah GClient.row a3)]:List V)]=ah GMachine.row [(⟨⟨a0,a1⟩,a2,a3⟩:GMachine)]:=rfl
theorem GMachine.cons (a0:Int) (a1:List GEntry) (a2:Int) (a3:List GClient) (l:List GMachine):([.i .i64 a0,.sl 8 (ah GEntry.row a1),.i .i64 a2,.sl 7 (ah GClient.row a3)]:List V)::ah GMachine.row l=ah GMachine.row ((⟨⟨a0,a1⟩,a2,a3⟩:GMachine)::l):=rfl
theorem GMachine.set (a0:Int) (a1:List GEntry) (a2:Int) (a3:List GClient) (l:List GMachine) (i:Int):(ah GMachine.row l).set i.toNat ([.i .i64 a0,.sl 8 (ah GEntry.row a1),.i .i64 a2,.sl 7 (ah GClient.row a3)]:List V)=ah GMachine.row (setL l i (⟨⟨a0,a1⟩,a2,a3⟩:GMachine)):=dj GMachine.row l _ (⟨⟨a0,a1⟩,a2,a3⟩:GMachine)
structure GCommand where
 fKind:Int
 fKey:ByteArray
 fField:ByteArray
 fText:ByteArray
 fN:Int
def GCommand.row (x:GCommand):List V:=[.i .i64 x.fKind,.s x.fKey,.s x.fField,.s x.fText,.i .i64 x.fN]
def GCommand.d (x:GCommand):D:=.agg [.v (.i .i64 x.fKind),.v (.s x.fKey),.v (.s x.fField),.v (.s x.fText),.v (.i .i64 x.fN)]
def GCommand.ok (x:GCommand):Prop:=(okI x.fKind)∧(okS x.fKey)∧(okS x.fField)∧(okS x.fText)∧(okI x.fN)
theorem GCommand.row_inj (a b:GCommand) (h:a.row=b.row):a=b:=by
 obtain⟨a0,a1,a2,a3,a4⟩:=a;obtain⟨b0,b1,b2,b3,b4⟩:=b
 simp only [GCommand.row,List.cons.injEq,V.i.injEq,V.s.injEq,V.b.injEq,V.sl.injEq,true_and,and_true,bc,ba,aZ,GPair.map_inj,GScore.map_inj,GValue.map_inj,GEntry.map_inj,GStore.map_inj,GReply.map_inj,GClient.map_inj,GMachine.map_inj] at h
 simp only [GCommand.mk.injEq]
 simp only [h,and_self]
theorem GCommand.map_inj {a b:List GCommand} :ah GCommand.row a=ah GCommand.row b↔a=b:=dA GCommand.row_inj
theorem GCommand.one (a0:Int) (a1:ByteArray) (a2:ByteArray) (a3:ByteArray) (a4:Int): [([.i .i64 a0,.s a1,.s a2,.s a3,.i .i64 a4]:List V)]=ah GCommand.row [(⟨a0,a1,a2,a3,a4⟩:GCommand)]:=rfl
theorem GCommand.cons (a0:Int) (a1:ByteArray) (a2:ByteArray) (a3:ByteArray) (a4:Int) (l:List GCommand):([.i .i64 a0,.s a1,.s a2,.s a3,.i .i64 a4]:List V)::ah GCommand.row l=ah GCommand.row ((⟨a0,a1,a2,a3,a4⟩:GCommand)::l):=rfl
theorem GCommand.set (a0:Int) (a1:ByteArray) (a2:ByteArray) (a3:ByteArray) (a4:Int) (l:List GCommand) (i:Int):(ah GCommand.row l).set i.toNat ([.i .i64 a0,.s a1,.s a2,.s a3,.i .i64 a4]:List V)=ah GCommand.row (setL l i (⟨a0,a1,a2,a3,a4⟩:GCommand)):=dj GCommand.row l _ (⟨a0,a1,a2,a3,a4⟩:GCommand)
theorem GCommand.flat (l:List GCommand):(ah GCommand.row l).all gh=true:=ev l (fun _=>rfl)
structure GCall where
 fClient:Int
 fSeq:Int
 fCommand:GCommand
def GCall.row (x:GCall):List V:=[.i .i64 x.fClient,.i .i64 x.fSeq,.i .i64 x.fCommand.fKind,.s x.fCommand.fKey,.s x.fCommand.fField,.s x.fCommand.fText,.i .i64 x.fCommand.fN]
def GCall.d (x:GCall):D:=.agg [.v (.i .i64 x.fClient),.v (.i .i64 x.fSeq),.v (.i .i64 x.fCommand.fKind),.v (.s x.fCommand.fKey),.v (.s x.fCommand.fField),.v (.s x.fCommand.fText),.v (.i .i64 x.fCommand.fN)]
def GCall.ok (x:GCall):Prop:=(okI x.fClient)∧(okI x.fSeq)∧(x.fCommand.ok)
theorem GCall.row_inj (a b:GCall) (h:a.row=b.row):a=b:=by
 obtain⟨a0,a1,⟨a2,a3,a4,a5,a6⟩⟩:=a;obtain⟨b0,b1,⟨b2,b3,b4,b5,b6⟩⟩:=b
 simp only [GCall.row,List.cons.injEq,V.i.injEq,V.s.injEq,V.b.injEq,V.sl.injEq,true_and,and_true,bc,ba,aZ,GPair.map_inj,GScore.map_inj,GValue.map_inj,GEntry.map_inj,GStore.map_inj,GReply.map_inj,GClient.map_inj,GMachine.map_inj] at h
 simp only [GCommand.mk.injEq,GCall.mk.injEq]
 simp only [h,and_self]
theorem GCall.map_inj {a b:List GCall} :ah GCall.row a=ah GCall.row b↔a=b:=dA GCall.row_inj
theorem GCall.one (a0:Int) (a1:Int) (a2:Int) (a3:ByteArray) (a4:ByteArray) (a5:ByteArray) (a6:Int): [([.i .i64 a0,.i .i64 a1,.i .i64 a2,.s a3,.s a4,.s a5,.i .i64 a6]:List V)]=ah GCall.row [(⟨a0,a1,⟨a2,a3,a4,a5,a6⟩⟩:GCall)]:=rfl
theorem GCall.cons (a0:Int) (a1:Int) (a2:Int) (a3:ByteArray) (a4:ByteArray) (a5:ByteArray) (a6:Int) (l:List GCall):([.i .i64 a0,.i .i64 a1,.i .i64 a2,.s a3,.s a4,.s a5,.i .i64 a6]:List V)::ah GCall.row l=ah GCall.row ((⟨a0,a1,⟨a2,a3,a4,a5,a6⟩⟩:GCall)::l):=rfl
theorem GCall.set (a0:Int) (a1:Int) (a2:Int) (a3:ByteArray) (a4:ByteArray) (a5:ByteArray) (a6:Int) (l:List GCall) (i:Int):(ah GCall.row l).set i.toNat ([.i .i64 a0,.i .i64 a1,.i .i64 a2,.s a3,.s a4,.s a5,.i .i64 a6]:List V)=ah GCall.row (setL l i (⟨a0,a1,⟨a2,a3,a4,a5,a6⟩⟩:GCall)):=dj GCall.row l _ (⟨a0,a1,⟨a2,a3,a4,a5,a6⟩⟩:GCall)
theorem GCall.flat (l:List GCall):(ah GCall.row l).all gh=true:=ev l (fun _=>rfl)
structure GItem where
 fTerm:Int
 fTime:Int
 fNop:Bool
 fCall:GCall
def GItem.row (x:GItem):List V:=[.i .i64 x.fTerm,.i .i64 x.fTime,.b x.fNop,.i .i64 x.fCall.fClient,.i .i64 x.fCall.fSeq,.i .i64 x.fCall.fCommand.fKind,.s x.fCall.fCommand.fKey,.s x.fCall.fCommand.fField,.s x.fCall.fCommand.fText,.i .i64 x.fCall.fCommand.fN]
def GItem.d (x:GItem):D:=.agg [.v (.i .i64 x.fTerm),.v (.i .i64 x.fTime),.v (.b x.fNop),.v (.i .i64 x.fCall.fClient),.v (.i .i64 x.fCall.fSeq),.v (.i .i64 x.fCall.fCommand.fKind),.v (.s x.fCall.fCommand.fKey),.v (.s x.fCall.fCommand.fField),.v (.s x.fCall.fCommand.fText),.v (.i .i64 x.fCall.fCommand.fN)]
def GItem.ok (x:GItem):Prop:=(okI x.fTerm)∧(okI x.fTime)∧(True)∧(x.fCall.ok)
theorem GItem.row_inj (a b:GItem) (h:a.row=b.row):a=b:=by
 obtain⟨a0,a1,a2,⟨a3,a4,⟨a5,a6,a7,a8,a9⟩⟩⟩:=a;obtain⟨b0,b1,b2,⟨b3,b4,⟨b5,b6,b7,b8,b9⟩⟩⟩:=b
 simp only [GItem.row,List.cons.injEq,V.i.injEq,V.s.injEq,V.b.injEq,V.sl.injEq,true_and,and_true,bc,ba,aZ,GPair.map_inj,GScore.map_inj,GValue.map_inj,GEntry.map_inj,GStore.map_inj,GReply.map_inj,GClient.map_inj,GMachine.map_inj] at h
 simp only [GCommand.mk.injEq,GCall.mk.injEq,GItem.mk.injEq]
 simp only [h,and_self]
theorem GItem.map_inj {a b:List GItem} :ah GItem.row a=ah GItem.row b↔a=b:=dA GItem.row_inj
theorem GItem.one (a0:Int) (a1:Int) (a2:Bool) (a3:Int) (a4:Int) (a5:Int) (a6:ByteArray) (a7:ByteArray) (a8:ByteArray) (a9:Int): [([.i .i64 a0,.i .i64 a1,.b a2,.i .i64 a3,.i .i64 a4,.i .i64 a5,.s a6,.s a7,.s a8,.i .i64 a9]:List V)]=ah GItem.row [(⟨a0,a1,a2,⟨a3,a4,⟨a5,a6,a7,a8,a9⟩⟩⟩:GItem)]:=rfl
theorem GItem.cons (a0:Int) (a1:Int) (a2:Bool) (a3:Int) (a4:Int) (a5:Int) (a6:ByteArray) (a7:ByteArray) (a8:ByteArray) (a9:Int) (l:List GItem):([.i .i64 a0,.i .i64 a1,.b a2,.i .i64 a3,.i .i64 a4,.i .i64 a5,.s a6,.s a7,.s a8,.i .i64 a9]:List V)::ah GItem.row l=ah GItem.row ((⟨a0,a1,a2,⟨a3,a4,⟨a5,a6,a7,a8,a9⟩⟩⟩:GItem)::l):=rfl
theorem GItem.set (a0:Int) (a1:Int) (a2:Bool) (a3:Int) (a4:Int) (a5:Int) (a6:ByteArray) (a7:ByteArray) (a8:ByteArray) (a9:Int) (l:List GItem) (i:Int):(ah GItem.row l).set i.toNat ([.i .i64 a0,.i .i64 a1,.b a2,.i .i64 a3,.i .i64 a4,.i .i64 a5,.s a6,.s a7,.s a8,.i .i64 a9]:List V)=ah GItem.row (setL l i (⟨a0,a1,a2,⟨a3,a4,⟨a5,a6,a7,a8,a9⟩⟩⟩:GItem)):=dj GItem.row l _ (⟨a0,a1,a2,⟨a3,a4,⟨a5,a6,a7,a8,a9⟩⟩⟩:GItem)
theorem GItem.flat (l:List GItem):(ah GItem.row l).all gh=true:=ev l (fun _=>rfl)
structure GSnap where
 fIndex:Int
 fTerm:Int
 fMachine:GMachine
def GSnap.row (x:GSnap):List V:=[.i .i64 x.fIndex,.i .i64 x.fTerm,.i .i64 x.fMachine.fStore.fNow,.sl 8 (ah GEntry.row x.fMachine.fStore.fEntries),.i .i64 x.fMachine.fNext,.sl 7 (ah GClient.row x.fMachine.fClients)]
def GSnap.d (x:GSnap):D:=.agg [.v (.i .i64 x.fIndex),.v (.i .i64 x.fTerm),.v (.i .i64 x.fMachine.fStore.fNow),.v (.sl 8 (ah GEntry.row x.fMachine.fStore.fEntries)),.v (.i .i64 x.fMachine.fNext),.v (.sl 7 (ah GClient.row x.fMachine.fClients))]
def GSnap.ok (x:GSnap):Prop:=(okI x.fIndex)∧(okI x.fTerm)∧(x.fMachine.ok)
theorem GSnap.row_inj (a b:GSnap) (h:a.row=b.row):a=b:=by
 obtain⟨a0,a1,⟨⟨a2,a3⟩,a4,a5⟩⟩:=a;obtain⟨b0,b1,⟨⟨b2,b3⟩,b4,b5⟩⟩:=b
 simp only [GSnap.row,List.cons.injEq,V.i.injEq,V.s.injEq,V.b.injEq,V.sl.injEq,true_and,and_true,bc,ba,aZ,GPair.map_inj,GScore.map_inj,GValue.map_inj,GEntry.map_inj,GReply.map_inj,GClient.map_inj,GCommand.map_inj,GCall.map_inj,GItem.map_inj] at h
 simp only [GStore.mk.injEq,GMachine.mk.injEq,GSnap.mk.injEq]
 simp only [h,and_self]
theorem GSnap.map_inj {a b:List GSnap} :ah GSnap.row a=ah GSnap.row b↔a=b:=dA GSnap.row_inj
theorem GSnap.one (a0:Int) (a1:Int) (a2:Int) (a3:List GEntry) (a4:Int) (a5:List GClient): [([.i .i64 a0,.i .i64 a1,.i .i64 a2,.sl 8 (ah GEntry.row a3),.i .i64 a4,.sl 7 (ah GClient.row a5)]:List V)]=ah GSnap.row [(⟨a0,a1,⟨⟨a2,a3⟩,a4,a5⟩⟩:GSnap)]:=rfl
theorem GSnap.cons (a0:Int) (a1:Int) (a2:Int) (a3:List GEntry) (a4:Int) (a5:List GClient) (l:List GSnap):([.i .i64 a0,.i .i64 a1,.i .i64 a2,.sl 8 (ah GEntry.row a3),.i .i64 a4,.sl 7 (ah GClient.row a5)]:List V)::ah GSnap.row l=ah GSnap.row ((⟨a0,a1,⟨⟨a2,a3⟩,a4,a5⟩⟩:GSnap)::l):=rfl
theorem GSnap.set (a0:Int) (a1:Int) (a2:Int) (a3:List GEntry) (a4:Int) (a5:List GClient) (l:List GSnap) (i:Int):(ah GSnap.row l).set i.toNat ([.i .i64 a0,.i .i64 a1,.i .i64 a2,.sl 8 (ah GEntry.row a3),.i .i64 a4,.sl 7 (ah GClient.row a5)]:List V)=ah GSnap.row (setL l i (⟨a0,a1,⟨⟨a2,a3⟩,a4,a5⟩⟩:GSnap)):=dj GSnap.row l _ (⟨a0,a1,⟨⟨a2,a3⟩,a4,a5⟩⟩:GSnap)
structure GRecord where
 fKind:Int
 fTerm:Int
 fFor:Int
 fIndex:Int
 fItem:GItem
 fSnap:GSnap
def GRecord.row (x:GRecord):List V:=[.i .i64 x.fKind,.i .i64 x.fTerm,.i .i64 x.fFor,.i .i64 x.fIndex,.i .i64 x.fItem.fTerm,.i .i64 x.fItem.fTime,.b x.fItem.fNop,.i .i64 x.fItem.fCall.fClient,.i .i64 x.fItem.fCall.fSeq,.i .i64 x.fItem.fCall.fCommand.fKind,.s x.fItem.fCall.fCommand.fKey,.s x.fItem.fCall.fCommand.fField,.s x.fItem.fCall.fCommand.fText,.i .i64 x.fItem.fCall.fCommand.fN,.i .i64 x.fSnap.fIndex,.i .i64 x.fSnap.fTerm,.i .i64 x.fSnap.fMachine.fStore.fNow,.sl 8 (ah GEntry.row x.fSnap.fMachine.fStore.fEntries),.i .i64 x.fSnap.fMachine.fNext,.sl 7 (ah GClient.row x.fSnap.fMachine.fClients)]
def GRecord.d (x:GRecord):D:=.agg [.v (.i .i64 x.fKind),.v (.i .i64 x.fTerm),.v (.i .i64 x.fFor),.v (.i .i64 x.fIndex),.v (.i .i64 x.fItem.fTerm),.v (.i .i64 x.fItem.fTime),.v (.b x.fItem.fNop),.v (.i .i64 x.fItem.fCall.fClient),.v (.i .i64 x.fItem.fCall.fSeq),.v (.i .i64 x.fItem.fCall.fCommand.fKind),.v (.s x.fItem.fCall.fCommand.fKey),.v (.s x.fItem.fCall.fCommand.fField),.v (.s x.fItem.fCall.fCommand.fText),.v (.i .i64 x.fItem.fCall.fCommand.fN),.v (.i .i64 x.fSnap.fIndex),.v (.i .i64 x.fSnap.fTerm),.v (.i .i64 x.fSnap.fMachine.fStore.fNow),.v (.sl 8 (ah GEntry.row x.fSnap.fMachine.fStore.fEntries)),.v (.i .i64 x.fSnap.fMachine.fNext),.v (.sl 7 (ah GClient.row x.fSnap.fMachine.fClients))]
def GRecord.ok (x:GRecord):Prop:=(okI x.fKind)∧(okI x.fTerm)∧(okI x.fFor)∧(okI x.fIndex)∧(x.fItem.ok)∧(x.fSnap.ok)
theorem GRecord.row_inj (a b:GRecord) (h:a.row=b.row):a=b:=by
 obtain⟨a0,a1,a2,a3,⟨a4,a5,a6,⟨a7,a8,⟨a9,a10,a11,a12,a13⟩⟩⟩,⟨a14,a15,⟨⟨a16,a17⟩,a18,a19⟩⟩⟩:=a;obtain⟨b0,b1,b2,b3,⟨b4,b5,b6,⟨b7,b8,⟨b9,b10,b11,b12,b13⟩⟩⟩,⟨b14,b15,⟨⟨b16,b17⟩,b18,b19⟩⟩⟩:=b
 simp only [GRecord.row,List.cons.injEq,V.i.injEq,V.s.injEq,V.b.injEq,V.sl.injEq,true_and,and_true,bc,ba,aZ,GPair.map_inj,GScore.map_inj,GValue.map_inj,GEntry.map_inj,GReply.map_inj,GClient.map_inj] at h
 simp only [GCommand.mk.injEq,GCall.mk.injEq,GItem.mk.injEq,GStore.mk.injEq,GMachine.mk.injEq,GSnap.mk.injEq,GRecord.mk.injEq]
 simp only [h,and_self]
theorem GRecord.map_inj {a b:List GRecord} :ah GRecord.row a=ah GRecord.row b↔a=b:=dA GRecord.row_inj
theorem GRecord.one (a0:Int) (a1:Int) (a2:Int) (a3:Int) (a4:Int) (a5:Int) (a6:Bool) (a7:Int) (a8:Int) (a9:Int) (a10:ByteArray) (a11:ByteArray) (a12:ByteArray) (a13:Int) (a14:Int) (a15:Int) (a16:Int) (a17:List GEntry) (a18:Int) (a19:List GClient): [([.i .i64 a0,.i .i64 a1,.i .i64 a2,.i .i64 a3,.i .i64 a4,.i .i64 a5,.b a6,.i .i64 a7,.i .i64 a8,.i .i64 a9,.s a10,.s a11,.s a12,.i .i64 a13,.i .i64 a14,.i .i64 a15,.i .i64 a16,.sl 8 (ah GEntry.row a17),.i .i64 a18,.sl 7 (ah GClient.row a19)]:List V)]=ah GRecord.row [(⟨a0,a1,a2,a3,⟨a4,a5,a6,⟨a7,a8,⟨a9,a10,a11,a12,a13⟩⟩⟩,⟨a14,a15,⟨⟨a16,a17⟩,a18,a19⟩⟩⟩:GRecord)]:=rfl
theorem GRecord.cons (a0:Int) (a1:Int) (a2:Int) (a3:Int) (a4:Int) (a5:Int) (a6:Bool) (a7:Int) (a8:Int) (a9:Int) (a10:ByteArray) (a11:ByteArray) (a12:ByteArray) (a13:Int) (a14:Int) (a15:Int) (a16:Int) (a17:List GEntry) (a18:Int) (a19:List GClient) (l:List GRecord):([.i .i64 a0,.i .i64 a1,.i .i64 a2,.i .i64 a3,.i .i64 a4,.i .i64 a5,.b a6,.i .i64 a7,.i .i64 a8,.i .i64 a9,.s a10,.s a11,.s a12,.i .i64 a13,.i .i64 a14,.i .i64 a15,.i .i64 a16,.sl 8 (ah GEntry.row a17),.i .i64 a18,.sl 7 (ah GClient.row a19)]:List V)::ah GRecord.row l=ah GRecord.row ((⟨a0,a1,a2,a3,⟨a4,a5,a6,⟨a7,a8,⟨a9,a10,a11,a12,a13⟩⟩⟩,⟨a14,a15,⟨⟨a16,a17⟩,a18,a19⟩⟩⟩:GRecord)::l):=rfl
theorem GRecord.set (a0:Int) (a1:Int) (a2:Int) (a3:Int) (a4:Int) (a5:Int) (a6:Bool) (a7:Int) (a8:Int) (a9:Int) (a10:ByteArray) (a11:ByteArray) (a12:ByteArray) (a13:Int) (a14:Int) (a15:Int) (a16:Int) (a17:List GEntry) (a18:Int) (a19:List GClient) (l:List GRecord) (i:Int):(ah GRecord.row l).set i.toNat ([.i .i64 a0,.i .i64 a1,.i .i64 a2,.i .i64 a3,.i .i64 a4,.i .i64 a5,.b a6,.i .i64 a7,.i .i64 a8,.i .i64 a9,.s a10,.s a11,.s a12,.i .i64 a13,.i .i64 a14,.i .i64 a15,.i .i64 a16,.sl 8 (ah GEntry.row a17),.i .i64 a18,.sl 7 (ah GClient.row a19)]:List V)=ah GRecord.row (setL l i (⟨a0,a1,a2,a3,⟨a4,a5,a6,⟨a7,a8,⟨a9,a10,a11,a12,a13⟩⟩⟩,⟨a14,a15,⟨⟨a16,a17⟩,a18,a19⟩⟩⟩:GRecord)):=dj GRecord.row l _ (⟨a0,a1,a2,a3,⟨a4,a5,a6,⟨a7,a8,⟨a9,a10,a11,a12,a13⟩⟩⟩,⟨a14,a15,⟨⟨a16,a17⟩,a18,a19⟩⟩⟩:GRecord)
structure GLog where
 fBase:Int
 fBaseTerm:Int
 fItems:List GItem
def GLog.row (x:GLog):List V:=[.i .i64 x.fBase,.i .i64 x.fBaseTerm,.sl 10 (ah GItem.row x.fItems)]
def GLog.d (x:GLog):D:=.agg [.v (.i .i64 x.fBase),.v (.i .i64 x.fBaseTerm),.v (.sl 10 (ah GItem.row x.fItems))]
def GLog.ok (x:GLog):Prop:=(okI x.fBase)∧(okI x.fBaseTerm)∧((okN 104 x.fItems.length∧ ∀y∈x.fItems,y.ok))
theorem GLog.row_inj (a b:GLog) (h:a.row=b.row):a=b:=by
 obtain⟨a0,a1,a2⟩:=a;obtain⟨b0,b1,b2⟩:=b
 simp only [GLog.row,List.cons.injEq,V.i.injEq,V.s.injEq,V.b.injEq,V.sl.injEq,true_and,and_true,bc,ba,aZ,GPair.map_inj,GScore.map_inj,GValue.map_inj,GEntry.map_inj,GStore.map_inj,GReply.map_inj,GClient.map_inj,GMachine.map_inj,GCommand.map_inj,GCall.map_inj,GItem.map_inj,GSnap.map_inj,GRecord.map_inj] at h
 simp only [GLog.mk.injEq]
 simp only [h,and_self]
theorem GLog.map_inj {a b:List GLog} :ah GLog.row a=ah GLog.row b↔a=b:=dA GLog.row_inj
theorem GLog.one (a0:Int) (a1:Int) (a2:List GItem): [([.i .i64 a0,.i .i64 a1,.sl 10 (ah GItem.row a2)]:List V)]=ah GLog.row [(⟨a0,a1,a2⟩:GLog)]:=rfl
theorem GLog.cons (a0:Int) (a1:Int) (a2:List GItem) (l:List GLog):([.i .i64 a0,.i .i64 a1,.sl 10 (ah GItem.row a2)]:List V)::ah GLog.row l=ah GLog.row ((⟨a0,a1,a2⟩:GLog)::l):=rfl
theorem GLog.set (a0:Int) (a1:Int) (a2:List GItem) (l:List GLog) (i:Int):(ah GLog.row l).set i.toNat ([.i .i64 a0,.i .i64 a1,.sl 10 (ah GItem.row a2)]:List V)=ah GLog.row (setL l i (⟨a0,a1,a2⟩:GLog)):=dj GLog.row l _ (⟨a0,a1,a2⟩:GLog)
structure GTape where
 fData:List Int
 fSynced:Int
def GTape.row (x:GTape):List V:=[.sl 1 (ah cE x.fData),.i .i64 x.fSynced]
def GTape.d (x:GTape):D:=.agg [.v (.sl 1 (ah cE x.fData)),.v (.i .i64 x.fSynced)]
def GTape.ok (x:GTape):Prop:=((okN 1 x.fData.length∧ ∀y∈x.fData,((IntKind.u8).min≤y∧y≤(IntKind.u8).max)))∧(okI x.fSynced)
theorem GTape.row_inj (a b:GTape) (h:a.row=b.row):a=b:=by
 obtain⟨a0,a1⟩:=a;obtain⟨b0,b1⟩:=b
 simp only [GTape.row,List.cons.injEq,V.i.injEq,V.s.injEq,V.b.injEq,V.sl.injEq,true_and,and_true,bc,ba,aZ,GPair.map_inj,GScore.map_inj,GValue.map_inj,GEntry.map_inj,GStore.map_inj,GReply.map_inj,GClient.map_inj,GMachine.map_inj,GCommand.map_inj,GCall.map_inj,GItem.map_inj,GSnap.map_inj,GRecord.map_inj,GLog.map_inj] at h
 simp only [GTape.mk.injEq]
 simp only [h,and_self]
theorem GTape.map_inj {a b:List GTape} :ah GTape.row a=ah GTape.row b↔a=b:=dA GTape.row_inj
theorem GTape.one (a0:List Int) (a1:Int): [([.sl 1 (ah cE a0),.i .i64 a1]:List V)]=ah GTape.row [(⟨a0,a1⟩:GTape)]:=rfl
theorem GTape.cons (a0:List Int) (a1:Int) (l:List GTape):([.sl 1 (ah cE a0),.i .i64 a1]:List V)::ah GTape.row l=ah GTape.row ((⟨a0,a1⟩:GTape)::l):=rfl
theorem GTape.set (a0:List Int) (a1:Int) (l:List GTape) (i:Int):(ah GTape.row l).set i.toNat ([.sl 1 (ah cE a0),.i .i64 a1]:List V)=ah GTape.row (setL l i (⟨a0,a1⟩:GTape)):=dj GTape.row l _ (⟨a0,a1⟩:GTape)
structure Greader where
 frest:List Int
 fshort:Bool
def Greader.row (x:Greader):List V:=[.sl 1 (ah cE x.frest),.b x.fshort]
def Greader.d (x:Greader):D:=.agg [.v (.sl 1 (ah cE x.frest)),.v (.b x.fshort)]
def Greader.ok (x:Greader):Prop:=((okN 1 x.frest.length∧ ∀y∈x.frest,((IntKind.u8).min≤y∧y≤(IntKind.u8).max)))∧(True)
theorem Greader.row_inj (a b:Greader) (h:a.row=b.row):a=b:=by
 obtain⟨a0,a1⟩:=a;obtain⟨b0,b1⟩:=b
 simp only [Greader.row,List.cons.injEq,V.i.injEq,V.s.injEq,V.b.injEq,V.sl.injEq,true_and,and_true,bc,ba,aZ,GPair.map_inj,GScore.map_inj,GValue.map_inj,GEntry.map_inj,GStore.map_inj,GReply.map_inj,GClient.map_inj,GMachine.map_inj,GCommand.map_inj,GCall.map_inj,GItem.map_inj,GSnap.map_inj,GRecord.map_inj,GLog.map_inj,GTape.map_inj] at h
 simp only [Greader.mk.injEq]
 simp only [h,and_self]
theorem Greader.map_inj {a b:List Greader} :ah Greader.row a=ah Greader.row b↔a=b:=dA Greader.row_inj
theorem Greader.one (a0:List Int) (a1:Bool): [([.sl 1 (ah cE a0),.b a1]:List V)]=ah Greader.row [(⟨a0,a1⟩:Greader)]:=rfl
theorem Greader.cons (a0:List Int) (a1:Bool) (l:List Greader):([.sl 1 (ah cE a0),.b a1]:List V)::ah Greader.row l=ah Greader.row ((⟨a0,a1⟩:Greader)::l):=rfl
theorem Greader.set (a0:List Int) (a1:Bool) (l:List Greader) (i:Int):(ah Greader.row l).set i.toNat ([.sl 1 (ah cE a0),.b a1]:List V)=ah Greader.row (setL l i (⟨a0,a1⟩:Greader)):=dj Greader.row l _ (⟨a0,a1⟩:Greader)
structure Gscan where
 fb:List Int
 fat:Int
def Gscan.row (x:Gscan):List V:=[.sl 1 (ah cE x.fb),.i .i64 x.fat]
def Gscan.d (x:Gscan):D:=.agg [.v (.sl 1 (ah cE x.fb)),.v (.i .i64 x.fat)]
def Gscan.ok (x:Gscan):Prop:=((okN 1 x.fb.length∧ ∀y∈x.fb,((IntKind.u8).min≤y∧y≤(IntKind.u8).max)))∧(okI x.fat)
theorem Gscan.row_inj (a b:Gscan) (h:a.row=b.row):a=b:=by
 obtain⟨a0,a1⟩:=a;obtain⟨b0,b1⟩:=b
 simp only [Gscan.row,List.cons.injEq,V.i.injEq,V.s.injEq,V.b.injEq,V.sl.injEq,true_and,and_true,bc,ba,aZ,GPair.map_inj,GScore.map_inj,GValue.map_inj,GEntry.map_inj,GStore.map_inj,GReply.map_inj,GClient.map_inj,GMachine.map_inj,GCommand.map_inj,GCall.map_inj,GItem.map_inj,GSnap.map_inj,GRecord.map_inj,GLog.map_inj,GTape.map_inj,Greader.map_inj] at h
 simp only [Gscan.mk.injEq]
 simp only [h,and_self]
theorem Gscan.map_inj {a b:List Gscan} :ah Gscan.row a=ah Gscan.row b↔a=b:=dA Gscan.row_inj
theorem Gscan.one (a0:List Int) (a1:Int): [([.sl 1 (ah cE a0),.i .i64 a1]:List V)]=ah Gscan.row [(⟨a0,a1⟩:Gscan)]:=rfl
theorem Gscan.cons (a0:List Int) (a1:Int) (l:List Gscan):([.sl 1 (ah cE a0),.i .i64 a1]:List V)::ah Gscan.row l=ah Gscan.row ((⟨a0,a1⟩:Gscan)::l):=rfl
theorem Gscan.set (a0:List Int) (a1:Int) (l:List Gscan) (i:Int):(ah Gscan.row l).set i.toNat ([.sl 1 (ah cE a0),.i .i64 a1]:List V)=ah Gscan.row (setL l i (⟨a0,a1⟩:Gscan)):=dj Gscan.row l _ (⟨a0,a1⟩:Gscan)
structure Gwriter where
 fb:List Int
def Gwriter.row (x:Gwriter):List V:=[.sl 1 (ah cE x.fb)]
def Gwriter.d (x:Gwriter):D:=.agg [.v (.sl 1 (ah cE x.fb))]
def Gwriter.ok (x:Gwriter):Prop:=((okN 1 x.fb.length∧ ∀y∈x.fb,((IntKind.u8).min≤y∧y≤(IntKind.u8).max)))
theorem Gwriter.row_inj (a b:Gwriter) (h:a.row=b.row):a=b:=by
 obtain⟨a0⟩:=a;obtain⟨b0⟩:=b
 simp only [Gwriter.row,List.cons.injEq,V.i.injEq,V.s.injEq,V.b.injEq,V.sl.injEq,true_and,and_true,bc,ba,aZ,GPair.map_inj,GScore.map_inj,GValue.map_inj,GEntry.map_inj,GStore.map_inj,GReply.map_inj,GClient.map_inj,GMachine.map_inj,GCommand.map_inj,GCall.map_inj,GItem.map_inj,GSnap.map_inj,GRecord.map_inj,GLog.map_inj,GTape.map_inj,Greader.map_inj,Gscan.map_inj] at h
 simp only [Gwriter.mk.injEq]
 simp only [h,and_self]
theorem Gwriter.map_inj {a b:List Gwriter} :ah Gwriter.row a=ah Gwriter.row b↔a=b:=dA Gwriter.row_inj
theorem Gwriter.one (a0:List Int): [([.sl 1 (ah cE a0)]:List V)]=ah Gwriter.row [(⟨a0⟩:Gwriter)]:=rfl
theorem Gwriter.cons (a0:List Int) (l:List Gwriter):([.sl 1 (ah cE a0)]:List V)::ah Gwriter.row l=ah Gwriter.row ((⟨a0⟩:Gwriter)::l):=rfl
theorem Gwriter.set (a0:List Int) (l:List Gwriter) (i:Int):(ah Gwriter.row l).set i.toNat ([.sl 1 (ah cE a0)]:List V)=ah Gwriter.row (setL l i (⟨a0⟩:Gwriter)):=dj Gwriter.row l _ (⟨a0⟩:Gwriter)
end Go.Proofs.Ytgcglmoogaldbaa
