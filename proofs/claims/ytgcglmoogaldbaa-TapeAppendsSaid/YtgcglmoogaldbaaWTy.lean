/- Part of the proof by the machine Mx: the types (WTy). -/
import Derived.Test.YtgcglmoogaldbaaMxFour
import Derived.Test.YtgcglmoogaldbaaTyTab
set_option linter.unusedSimpArgs false
set_option linter.unusedVariables false
set_option linter.constructorNameAsVariable false
set_option linter.unnecessarySimpa false
namespace Go.Proofs.Ytgcglmoogaldbaa
open Go Go.Mx Go.Proofs
structure iw where
 iv:ByteArray
 gi:ByteArray
def iw.row (x:iw):List V:=[.s x.iv,.s x.gi]
def iw.d (x:iw):D:=.agg [.v (.s x.iv),.v (.s x.gi)]
def iw.ok (x:iw):Prop:=(okS x.iv)/\(okS x.gi)
theorem iw.row_inj (a b:iw) (h:a.row=b.row):a=b:=by
 obtain⟨a0,a1⟩:=a;obtain⟨b0,b1⟩:=b
 simp only [iw.row,List.cons.injEq,V.i.injEq,V.s.injEq,V.b.injEq,V.sl.injEq,true_and,and_true,bc,ba,aZ] at h
 simp only [iw.mk.injEq]
 simp only [h,and_self]
theorem iw.map_inj {a b:List iw} :ah iw.row a=ah iw.row b↔a=b:=dA iw.row_inj
theorem iw.one (a0:ByteArray) (a1:ByteArray): [([.s a0,.s a1]:List V)]=ah iw.row [(⟨a0,a1⟩:iw)]:=rfl
theorem iw.cons (a0:ByteArray) (a1:ByteArray) (l:List iw):([.s a0,.s a1]:List V)::ah iw.row l=ah iw.row ((⟨a0,a1⟩:iw)::l):=rfl
theorem iw.set (a0:ByteArray) (a1:ByteArray) (l:List iw) (i:Int):(ah iw.row l).set i.toNat ([.s a0,.s a1]:List V)=ah iw.row (ud l i (⟨a0,a1⟩:iw)):=dj iw.row l _ (⟨a0,a1⟩:iw)
theorem iw.flat (l:List iw):(ah iw.row l).all gh=true:=ev l (fun _=>rfl)
structure ae where
 iU:ByteArray
 fN:Int
def ae.row (x:ae):List V:=[.s x.iU,.i .i64 x.fN]
def ae.d (x:ae):D:=.agg [.v (.s x.iU),.v (.i .i64 x.fN)]
def ae.ok (x:ae):Prop:=(okS x.iU)/\(okI x.fN)
theorem ae.row_inj (a b:ae) (h:a.row=b.row):a=b:=by
 obtain⟨a0,a1⟩:=a;obtain⟨b0,b1⟩:=b
 simp only [ae.row,List.cons.injEq,V.i.injEq,V.s.injEq,V.b.injEq,V.sl.injEq,true_and,and_true,bc,ba,aZ,iw.map_inj] at h
 simp only [ae.mk.injEq]
 simp only [h,and_self]
theorem ae.map_inj {a b:List ae} :ah ae.row a=ah ae.row b↔a=b:=dA ae.row_inj
theorem ae.one (a0:ByteArray) (a1:Int): [([.s a0,.i .i64 a1]:List V)]=ah ae.row [(⟨a0,a1⟩:ae)]:=rfl
theorem ae.cons (a0:ByteArray) (a1:Int) (l:List ae):([.s a0,.i .i64 a1]:List V)::ah ae.row l=ah ae.row ((⟨a0,a1⟩:ae)::l):=rfl
theorem ae.set (a0:ByteArray) (a1:Int) (l:List ae) (i:Int):(ah ae.row l).set i.toNat ([.s a0,.i .i64 a1]:List V)=ah ae.row (ud l i (⟨a0,a1⟩:ae)):=dj ae.row l _ (⟨a0,a1⟩:ae)
theorem ae.flat (l:List ae):(ah ae.row l).all gh=true:=ev l (fun _=>rfl)
structure ad where
 af:Int
 gi:ByteArray
 i8:Int
 iD:List iw
 iG:List ByteArray
 cO:List ae
def ad.row (x:ad):List V:=[.i .i64 x.af,.s x.gi,.i .i64 x.i8,.sl 2 (ah iw.row x.iD),.sl 1 (ah bY x.iG),.sl 2 (ah ae.row x.cO)]
def ad.d (x:ad):D:=.agg [.v (.i .i64 x.af),.v (.s x.gi),.v (.i .i64 x.i8),.v (.sl 2 (ah iw.row x.iD)),.v (.sl 1 (ah bY x.iG)),.v (.sl 2 (ah ae.row x.cO))]
def ad.ok (x:ad):Prop:=(okI x.af)/\(okS x.gi)/\(okI x.i8)/\((okN 32 x.iD.length/\ ∀y∈x.iD,y.ok))/\((okN 16 x.iG.length/\ ∀y∈x.iG,okS y))/\((okN 24 x.cO.length/\ ∀y∈x.cO,y.ok))
theorem ad.row_inj (a b:ad) (h:a.row=b.row):a=b:=by
 obtain⟨a0,a1,a2,a3,a4,a5⟩:=a;obtain⟨b0,b1,b2,b3,b4,b5⟩:=b
 simp only [ad.row,List.cons.injEq,V.i.injEq,V.s.injEq,V.b.injEq,V.sl.injEq,true_and,and_true,bc,ba,aZ,iw.map_inj,ae.map_inj] at h
 simp only [ad.mk.injEq]
 simp only [h,and_self]
theorem ad.map_inj {a b:List ad} :ah ad.row a=ah ad.row b↔a=b:=dA ad.row_inj
theorem ad.one (a0:Int) (a1:ByteArray) (a2:Int) (a3:List iw) (a4:List ByteArray) (a5:List ae): [([.i .i64 a0,.s a1,.i .i64 a2,.sl 2 (ah iw.row a3),.sl 1 (ah bY a4),.sl 2 (ah ae.row a5)]:List V)]=ah ad.row [(⟨a0,a1,a2,a3,a4,a5⟩:ad)]:=rfl
theorem ad.cons (a0:Int) (a1:ByteArray) (a2:Int) (a3:List iw) (a4:List ByteArray) (a5:List ae) (l:List ad):([.i .i64 a0,.s a1,.i .i64 a2,.sl 2 (ah iw.row a3),.sl 1 (ah bY a4),.sl 2 (ah ae.row a5)]:List V)::ah ad.row l=ah ad.row ((⟨a0,a1,a2,a3,a4,a5⟩:ad)::l):=rfl
theorem ad.set (a0:Int) (a1:ByteArray) (a2:Int) (a3:List iw) (a4:List ByteArray) (a5:List ae) (l:List ad) (i:Int):(ah ad.row l).set i.toNat ([.i .i64 a0,.s a1,.i .i64 a2,.sl 2 (ah iw.row a3),.sl 1 (ah bY a4),.sl 2 (ah ae.row a5)]:List V)=ah ad.row (ud l i (⟨a0,a1,a2,a3,a4,a5⟩:ad)):=dj ad.row l _ (⟨a0,a1,a2,a3,a4,a5⟩:ad)
structure hM where
 jj:ByteArray
 jG:ad
 km:Int
def hM.row (x:hM):List V:=[.s x.jj,.i .i64 x.jG.af,.s x.jG.gi,.i .i64 x.jG.i8,.sl 2 (ah iw.row x.jG.iD),.sl 1 (ah bY x.jG.iG),.sl 2 (ah ae.row x.jG.cO),.i .i64 x.km]
def hM.d (x:hM):D:=.agg [.v (.s x.jj),.v (.i .i64 x.jG.af),.v (.s x.jG.gi),.v (.i .i64 x.jG.i8),.v (.sl 2 (ah iw.row x.jG.iD)),.v (.sl 1 (ah bY x.jG.iG)),.v (.sl 2 (ah ae.row x.jG.cO)),.v (.i .i64 x.km)]
def hM.ok (x:hM):Prop:=(okS x.jj)/\(x.jG.ok)/\(okI x.km)
theorem hM.row_inj (a b:hM) (h:a.row=b.row):a=b:=by
 obtain⟨a0,⟨a1,a2,a3,a4,a5,a6⟩,a7⟩:=a;obtain⟨b0,⟨b1,b2,b3,b4,b5,b6⟩,b7⟩:=b
 simp only [hM.row,List.cons.injEq,V.i.injEq,V.s.injEq,V.b.injEq,V.sl.injEq,true_and,and_true,bc,ba,aZ,iw.map_inj,ae.map_inj] at h
 simp only [ad.mk.injEq,hM.mk.injEq]
 simp only [h,and_self]
theorem hM.map_inj {a b:List hM} :ah hM.row a=ah hM.row b↔a=b:=dA hM.row_inj
theorem hM.one (a0:ByteArray) (a1:Int) (a2:ByteArray) (a3:Int) (a4:List iw) (a5:List ByteArray) (a6:List ae) (a7:Int): [([.s a0,.i .i64 a1,.s a2,.i .i64 a3,.sl 2 (ah iw.row a4),.sl 1 (ah bY a5),.sl 2 (ah ae.row a6),.i .i64 a7]:List V)]=ah hM.row [(⟨a0,⟨a1,a2,a3,a4,a5,a6⟩,a7⟩:hM)]:=rfl
theorem hM.cons (a0:ByteArray) (a1:Int) (a2:ByteArray) (a3:Int) (a4:List iw) (a5:List ByteArray) (a6:List ae) (a7:Int) (l:List hM):([.s a0,.i .i64 a1,.s a2,.i .i64 a3,.sl 2 (ah iw.row a4),.sl 1 (ah bY a5),.sl 2 (ah ae.row a6),.i .i64 a7]:List V)::ah hM.row l=ah hM.row ((⟨a0,⟨a1,a2,a3,a4,a5,a6⟩,a7⟩:hM)::l):=rfl
theorem hM.set (a0:ByteArray) (a1:Int) (a2:ByteArray) (a3:Int) (a4:List iw) (a5:List ByteArray) (a6:List ae) (a7:Int) (l:List hM) (i:Int):(ah hM.row l).set i.toNat ([.s a0,.i .i64 a1,.s a2,.i .i64 a3,.sl 2 (ah iw.row a4),.sl 1 (ah bY a5),.sl 2 (ah ae.row a6),.i .i64 a7]:List V)=ah hM.row (ud l i (⟨a0,⟨a1,a2,a3,a4,a5,a6⟩,a7⟩:hM)):=dj hM.row l _ (⟨a0,⟨a1,a2,a3,a4,a5,a6⟩,a7⟩:hM)
structure iE where
 jv:Int
 im:List hM
def iE.row (x:iE):List V:=[.i .i64 x.jv,.sl 8 (ah hM.row x.im)]
def iE.d (x:iE):D:=.agg [.v (.i .i64 x.jv),.v (.sl 8 (ah hM.row x.im))]
def iE.ok (x:iE):Prop:=(okI x.jv)/\((okN 128 x.im.length/\ ∀y∈x.im,y.ok))
theorem iE.row_inj (a b:iE) (h:a.row=b.row):a=b:=by
 obtain⟨a0,a1⟩:=a;obtain⟨b0,b1⟩:=b
 simp only [iE.row,List.cons.injEq,V.i.injEq,V.s.injEq,V.b.injEq,V.sl.injEq,true_and,and_true,bc,ba,aZ,iw.map_inj,ae.map_inj,ad.map_inj,hM.map_inj] at h
 simp only [iE.mk.injEq]
 simp only [h,and_self]
theorem iE.map_inj {a b:List iE} :ah iE.row a=ah iE.row b↔a=b:=dA iE.row_inj
theorem iE.one (a0:Int) (a1:List hM): [([.i .i64 a0,.sl 8 (ah hM.row a1)]:List V)]=ah iE.row [(⟨a0,a1⟩:iE)]:=rfl
theorem iE.cons (a0:Int) (a1:List hM) (l:List iE):([.i .i64 a0,.sl 8 (ah hM.row a1)]:List V)::ah iE.row l=ah iE.row ((⟨a0,a1⟩:iE)::l):=rfl
theorem iE.set (a0:Int) (a1:List hM) (l:List iE) (i:Int):(ah iE.row l).set i.toNat ([.i .i64 a0,.sl 8 (ah hM.row a1)]:List V)=ah iE.row (ud l i (⟨a0,a1⟩:iE)):=dj iE.row l _ (⟨a0,a1⟩:iE)
structure iM where
 ky:Int
 gi:ByteArray
 fN:Int
 jW:List ByteArray
def iM.row (x:iM):List V:=[.i .i64 x.ky,.s x.gi,.i .i64 x.fN,.sl 1 (ah bY x.jW)]
def iM.d (x:iM):D:=.agg [.v (.i .i64 x.ky),.v (.s x.gi),.v (.i .i64 x.fN),.v (.sl 1 (ah bY x.jW))]
def iM.ok (x:iM):Prop:=(okI x.ky)/\(okS x.gi)/\(okI x.fN)/\((okN 16 x.jW.length/\ ∀y∈x.jW,okS y))
theorem iM.row_inj (a b:iM) (h:a.row=b.row):a=b:=by
 obtain⟨a0,a1,a2,a3⟩:=a;obtain⟨b0,b1,b2,b3⟩:=b
 simp only [iM.row,List.cons.injEq,V.i.injEq,V.s.injEq,V.b.injEq,V.sl.injEq,true_and,and_true,bc,ba,aZ,iw.map_inj,ae.map_inj,ad.map_inj,hM.map_inj,iE.map_inj] at h
 simp only [iM.mk.injEq]
 simp only [h,and_self]
theorem iM.map_inj {a b:List iM} :ah iM.row a=ah iM.row b↔a=b:=dA iM.row_inj
theorem iM.one (a0:Int) (a1:ByteArray) (a2:Int) (a3:List ByteArray): [([.i .i64 a0,.s a1,.i .i64 a2,.sl 1 (ah bY a3)]:List V)]=ah iM.row [(⟨a0,a1,a2,a3⟩:iM)]:=rfl
theorem iM.cons (a0:Int) (a1:ByteArray) (a2:Int) (a3:List ByteArray) (l:List iM):([.i .i64 a0,.s a1,.i .i64 a2,.sl 1 (ah bY a3)]:List V)::ah iM.row l=ah iM.row ((⟨a0,a1,a2,a3⟩:iM)::l):=rfl
theorem iM.set (a0:Int) (a1:ByteArray) (a2:Int) (a3:List ByteArray) (l:List iM) (i:Int):(ah iM.row l).set i.toNat ([.i .i64 a0,.s a1,.i .i64 a2,.sl 1 (ah bY a3)]:List V)=ah iM.row (ud l i (⟨a0,a1,a2,a3⟩:iM)):=dj iM.row l _ (⟨a0,a1,a2,a3⟩:iM)
structure f7 where
 fId:Int
 jT:Int
 i6:Int
 jd:iM
def f7.row (x:f7):List V:=[.i .i64 x.fId,.i .i64 x.jT,.i .i64 x.i6,.i .i64 x.jd.ky,.s x.jd.gi,.i .i64 x.jd.fN,.sl 1 (ah bY x.jd.jW)]
def f7.d (x:f7):D:=.agg [.v (.i .i64 x.fId),.v (.i .i64 x.jT),.v (.i .i64 x.i6),.v (.i .i64 x.jd.ky),.v (.s x.jd.gi),.v (.i .i64 x.jd.fN),.v (.sl 1 (ah bY x.jd.jW))]
def f7.ok (x:f7):Prop:=(okI x.fId)/\(okI x.jT)/\(okI x.i6)/\(x.jd.ok)
theorem f7.row_inj (a b:f7) (h:a.row=b.row):a=b:=by
 obtain⟨a0,a1,a2,⟨a3,a4,a5,a6⟩⟩:=a;obtain⟨b0,b1,b2,⟨b3,b4,b5,b6⟩⟩:=b
 simp only [f7.row,List.cons.injEq,V.i.injEq,V.s.injEq,V.b.injEq,V.sl.injEq,true_and,and_true,bc,ba,aZ,iw.map_inj,ae.map_inj,ad.map_inj,hM.map_inj,iE.map_inj] at h
 simp only [iM.mk.injEq,f7.mk.injEq]
 simp only [h,and_self]
theorem f7.map_inj {a b:List f7} :ah f7.row a=ah f7.row b↔a=b:=dA f7.row_inj
theorem f7.one (a0:Int) (a1:Int) (a2:Int) (a3:Int) (a4:ByteArray) (a5:Int) (a6:List ByteArray): [([.i .i64 a0,.i .i64 a1,.i .i64 a2,.i .i64 a3,.s a4,.i .i64 a5,.sl 1 (ah bY a6)]:List V)]=ah f7.row [(⟨a0,a1,a2,⟨a3,a4,a5,a6⟩⟩:f7)]:=rfl
theorem f7.cons (a0:Int) (a1:Int) (a2:Int) (a3:Int) (a4:ByteArray) (a5:Int) (a6:List ByteArray) (l:List f7):([.i .i64 a0,.i .i64 a1,.i .i64 a2,.i .i64 a3,.s a4,.i .i64 a5,.sl 1 (ah bY a6)]:List V)::ah f7.row l=ah f7.row ((⟨a0,a1,a2,⟨a3,a4,a5,a6⟩⟩:f7)::l):=rfl
theorem f7.set (a0:Int) (a1:Int) (a2:Int) (a3:Int) (a4:ByteArray) (a5:Int) (a6:List ByteArray) (l:List f7) (i:Int):(ah f7.row l).set i.toNat ([.i .i64 a0,.i .i64 a1,.i .i64 a2,.i .i64 a3,.s a4,.i .i64 a5,.sl 1 (ah bY a6)]:List V)=ah f7.row (ud l i (⟨a0,a1,a2,⟨a3,a4,a5,a6⟩⟩:f7)):=dj f7.row l _ (⟨a0,a1,a2,⟨a3,a4,a5,a6⟩⟩:f7)
structure cc where
 iA:iE
 ji:Int
 ir:List f7
def cc.row (x:cc):List V:=[.i .i64 x.iA.jv,.sl 8 (ah hM.row x.iA.im),.i .i64 x.ji,.sl 7 (ah f7.row x.ir)]
def cc.d (x:cc):D:=.agg [.v (.i .i64 x.iA.jv),.v (.sl 8 (ah hM.row x.iA.im)),.v (.i .i64 x.ji),.v (.sl 7 (ah f7.row x.ir))]
def cc.ok (x:cc):Prop:=(x.iA.ok)/\(okI x.ji)/\((okN 80 x.ir.length/\ ∀y∈x.ir,y.ok))
theorem cc.row_inj (a b:cc) (h:a.row=b.row):a=b:=by
 obtain⟨⟨a0,a1⟩,a2,a3⟩:=a;obtain⟨⟨b0,b1⟩,b2,b3⟩:=b
 simp only [cc.row,List.cons.injEq,V.i.injEq,V.s.injEq,V.b.injEq,V.sl.injEq,true_and,and_true,bc,ba,aZ,iw.map_inj,ae.map_inj,ad.map_inj,hM.map_inj,iM.map_inj,f7.map_inj] at h
 simp only [iE.mk.injEq,cc.mk.injEq]
 simp only [h,and_self]
theorem cc.map_inj {a b:List cc} :ah cc.row a=ah cc.row b↔a=b:=dA cc.row_inj
theorem cc.one (a0:Int) (a1:List hM) (a2:Int) (a3:List f7): [([.i .i64 a0,.sl 8 (ah hM.row a1),.i .i64 a2,.sl 7 (ah f7.row a3)]:List V)]=ah cc.row [(⟨⟨a0,a1⟩,a2,a3⟩:cc)]:=rfl
theorem cc.cons (a0:Int) (a1:List hM) (a2:Int) (a3:List f7) (l:List cc):([.i .i64 a0,.sl 8 (ah hM.row a1),.i .i64 a2,.sl 7 (ah f7.row a3)]:List V)::ah cc.row l=ah cc.row ((⟨⟨a0,a1⟩,a2,a3⟩:cc)::l):=rfl
theorem cc.set (a0:Int) (a1:List hM) (a2:Int) (a3:List f7) (l:List cc) (i:Int):(ah cc.row l).set i.toNat ([.i .i64 a0,.sl 8 (ah hM.row a1),.i .i64 a2,.sl 7 (ah f7.row a3)]:List V)=ah cc.row (ud l i (⟨⟨a0,a1⟩,a2,a3⟩:cc)):=dj cc.row l _ (⟨⟨a0,a1⟩,a2,a3⟩:cc)
structure f5 where
 af:Int
 jj:ByteArray
 iv:ByteArray
 gi:ByteArray
 fN:Int
def f5.row (x:f5):List V:=[.i .i64 x.af,.s x.jj,.s x.iv,.s x.gi,.i .i64 x.fN]
def f5.d (x:f5):D:=.agg [.v (.i .i64 x.af),.v (.s x.jj),.v (.s x.iv),.v (.s x.gi),.v (.i .i64 x.fN)]
def f5.ok (x:f5):Prop:=(okI x.af)/\(okS x.jj)/\(okS x.iv)/\(okS x.gi)/\(okI x.fN)
theorem f5.row_inj (a b:f5) (h:a.row=b.row):a=b:=by
 obtain⟨a0,a1,a2,a3,a4⟩:=a;obtain⟨b0,b1,b2,b3,b4⟩:=b
 simp only [f5.row,List.cons.injEq,V.i.injEq,V.s.injEq,V.b.injEq,V.sl.injEq,true_and,and_true,bc,ba,aZ,iw.map_inj,ae.map_inj,ad.map_inj,hM.map_inj,iE.map_inj,iM.map_inj,f7.map_inj,cc.map_inj] at h
 simp only [f5.mk.injEq]
 simp only [h,and_self]
theorem f5.map_inj {a b:List f5} :ah f5.row a=ah f5.row b↔a=b:=dA f5.row_inj
theorem f5.one (a0:Int) (a1:ByteArray) (a2:ByteArray) (a3:ByteArray) (a4:Int): [([.i .i64 a0,.s a1,.s a2,.s a3,.i .i64 a4]:List V)]=ah f5.row [(⟨a0,a1,a2,a3,a4⟩:f5)]:=rfl
theorem f5.cons (a0:Int) (a1:ByteArray) (a2:ByteArray) (a3:ByteArray) (a4:Int) (l:List f5):([.i .i64 a0,.s a1,.s a2,.s a3,.i .i64 a4]:List V)::ah f5.row l=ah f5.row ((⟨a0,a1,a2,a3,a4⟩:f5)::l):=rfl
theorem f5.set (a0:Int) (a1:ByteArray) (a2:ByteArray) (a3:ByteArray) (a4:Int) (l:List f5) (i:Int):(ah f5.row l).set i.toNat ([.i .i64 a0,.s a1,.s a2,.s a3,.i .i64 a4]:List V)=ah f5.row (ud l i (⟨a0,a1,a2,a3,a4⟩:f5)):=dj f5.row l _ (⟨a0,a1,a2,a3,a4⟩:f5)
theorem f5.flat (l:List f5):(ah f5.row l).all gh=true:=ev l (fun _=>rfl)
structure jB where
 iP:Int
 jT:Int
 bt:f5
def jB.row (x:jB):List V:=[.i .i64 x.iP,.i .i64 x.jT,.i .i64 x.bt.af,.s x.bt.jj,.s x.bt.iv,.s x.bt.gi,.i .i64 x.bt.fN]
def jB.d (x:jB):D:=.agg [.v (.i .i64 x.iP),.v (.i .i64 x.jT),.v (.i .i64 x.bt.af),.v (.s x.bt.jj),.v (.s x.bt.iv),.v (.s x.bt.gi),.v (.i .i64 x.bt.fN)]
def jB.ok (x:jB):Prop:=(okI x.iP)/\(okI x.jT)/\(x.bt.ok)
theorem jB.row_inj (a b:jB) (h:a.row=b.row):a=b:=by
 obtain⟨a0,a1,⟨a2,a3,a4,a5,a6⟩⟩:=a;obtain⟨b0,b1,⟨b2,b3,b4,b5,b6⟩⟩:=b
 simp only [jB.row,List.cons.injEq,V.i.injEq,V.s.injEq,V.b.injEq,V.sl.injEq,true_and,and_true,bc,ba,aZ,iw.map_inj,ae.map_inj,ad.map_inj,hM.map_inj,iE.map_inj,iM.map_inj,f7.map_inj,cc.map_inj] at h
 simp only [f5.mk.injEq,jB.mk.injEq]
 simp only [h,and_self]
theorem jB.map_inj {a b:List jB} :ah jB.row a=ah jB.row b↔a=b:=dA jB.row_inj
theorem jB.one (a0:Int) (a1:Int) (a2:Int) (a3:ByteArray) (a4:ByteArray) (a5:ByteArray) (a6:Int): [([.i .i64 a0,.i .i64 a1,.i .i64 a2,.s a3,.s a4,.s a5,.i .i64 a6]:List V)]=ah jB.row [(⟨a0,a1,⟨a2,a3,a4,a5,a6⟩⟩:jB)]:=rfl
theorem jB.cons (a0:Int) (a1:Int) (a2:Int) (a3:ByteArray) (a4:ByteArray) (a5:ByteArray) (a6:Int) (l:List jB):([.i .i64 a0,.i .i64 a1,.i .i64 a2,.s a3,.s a4,.s a5,.i .i64 a6]:List V)::ah jB.row l=ah jB.row ((⟨a0,a1,⟨a2,a3,a4,a5,a6⟩⟩:jB)::l):=rfl
theorem jB.set (a0:Int) (a1:Int) (a2:Int) (a3:ByteArray) (a4:ByteArray) (a5:ByteArray) (a6:Int) (l:List jB) (i:Int):(ah jB.row l).set i.toNat ([.i .i64 a0,.i .i64 a1,.i .i64 a2,.s a3,.s a4,.s a5,.i .i64 a6]:List V)=ah jB.row (ud l i (⟨a0,a1,⟨a2,a3,a4,a5,a6⟩⟩:jB)):=dj jB.row l _ (⟨a0,a1,⟨a2,a3,a4,a5,a6⟩⟩:jB)
theorem jB.flat (l:List jB):(ah jB.row l).all gh=true:=ev l (fun _=>rfl)
structure iX where
 iO:Int
 i6:Int
 tj:Bool
 iz:jB
def iX.row (x:iX):List V:=[.i .i64 x.iO,.i .i64 x.i6,.b x.tj,.i .i64 x.iz.iP,.i .i64 x.iz.jT,.i .i64 x.iz.bt.af,.s x.iz.bt.jj,.s x.iz.bt.iv,.s x.iz.bt.gi,.i .i64 x.iz.bt.fN]
def iX.d (x:iX):D:=.agg [.v (.i .i64 x.iO),.v (.i .i64 x.i6),.v (.b x.tj),.v (.i .i64 x.iz.iP),.v (.i .i64 x.iz.jT),.v (.i .i64 x.iz.bt.af),.v (.s x.iz.bt.jj),.v (.s x.iz.bt.iv),.v (.s x.iz.bt.gi),.v (.i .i64 x.iz.bt.fN)]
def iX.ok (x:iX):Prop:=(okI x.iO)/\(okI x.i6)/\(True)/\(x.iz.ok)
theorem iX.row_inj (a b:iX) (h:a.row=b.row):a=b:=by
 obtain⟨a0,a1,a2,⟨a3,a4,⟨a5,a6,a7,a8,a9⟩⟩⟩:=a;obtain⟨b0,b1,b2,⟨b3,b4,⟨b5,b6,b7,b8,b9⟩⟩⟩:=b
 simp only [iX.row,List.cons.injEq,V.i.injEq,V.s.injEq,V.b.injEq,V.sl.injEq,true_and,and_true,bc,ba,aZ,iw.map_inj,ae.map_inj,ad.map_inj,hM.map_inj,iE.map_inj,iM.map_inj,f7.map_inj,cc.map_inj] at h
 simp only [f5.mk.injEq,jB.mk.injEq,iX.mk.injEq]
 simp only [h,and_self]
theorem iX.map_inj {a b:List iX} :ah iX.row a=ah iX.row b↔a=b:=dA iX.row_inj
theorem iX.one (a0:Int) (a1:Int) (a2:Bool) (a3:Int) (a4:Int) (a5:Int) (a6:ByteArray) (a7:ByteArray) (a8:ByteArray) (a9:Int): [([.i .i64 a0,.i .i64 a1,.b a2,.i .i64 a3,.i .i64 a4,.i .i64 a5,.s a6,.s a7,.s a8,.i .i64 a9]:List V)]=ah iX.row [(⟨a0,a1,a2,⟨a3,a4,⟨a5,a6,a7,a8,a9⟩⟩⟩:iX)]:=rfl
theorem iX.cons (a0:Int) (a1:Int) (a2:Bool) (a3:Int) (a4:Int) (a5:Int) (a6:ByteArray) (a7:ByteArray) (a8:ByteArray) (a9:Int) (l:List iX):([.i .i64 a0,.i .i64 a1,.b a2,.i .i64 a3,.i .i64 a4,.i .i64 a5,.s a6,.s a7,.s a8,.i .i64 a9]:List V)::ah iX.row l=ah iX.row ((⟨a0,a1,a2,⟨a3,a4,⟨a5,a6,a7,a8,a9⟩⟩⟩:iX)::l):=rfl
theorem iX.set (a0:Int) (a1:Int) (a2:Bool) (a3:Int) (a4:Int) (a5:Int) (a6:ByteArray) (a7:ByteArray) (a8:ByteArray) (a9:Int) (l:List iX) (i:Int):(ah iX.row l).set i.toNat ([.i .i64 a0,.i .i64 a1,.b a2,.i .i64 a3,.i .i64 a4,.i .i64 a5,.s a6,.s a7,.s a8,.i .i64 a9]:List V)=ah iX.row (ud l i (⟨a0,a1,a2,⟨a3,a4,⟨a5,a6,a7,a8,a9⟩⟩⟩:iX)):=dj iX.row l _ (⟨a0,a1,a2,⟨a3,a4,⟨a5,a6,a7,a8,a9⟩⟩⟩:iX)
theorem iX.flat (l:List iX):(ah iX.row l).all gh=true:=ev l (fun _=>rfl)
structure jr where
 jg:Int
 iO:Int
 iC:cc
def jr.row (x:jr):List V:=[.i .i64 x.jg,.i .i64 x.iO,.i .i64 x.iC.iA.jv,.sl 8 (ah hM.row x.iC.iA.im),.i .i64 x.iC.ji,.sl 7 (ah f7.row x.iC.ir)]
def jr.d (x:jr):D:=.agg [.v (.i .i64 x.jg),.v (.i .i64 x.iO),.v (.i .i64 x.iC.iA.jv),.v (.sl 8 (ah hM.row x.iC.iA.im)),.v (.i .i64 x.iC.ji),.v (.sl 7 (ah f7.row x.iC.ir))]
def jr.ok (x:jr):Prop:=(okI x.jg)/\(okI x.iO)/\(x.iC.ok)
theorem jr.row_inj (a b:jr) (h:a.row=b.row):a=b:=by
 obtain⟨a0,a1,⟨⟨a2,a3⟩,a4,a5⟩⟩:=a;obtain⟨b0,b1,⟨⟨b2,b3⟩,b4,b5⟩⟩:=b
 simp only [jr.row,List.cons.injEq,V.i.injEq,V.s.injEq,V.b.injEq,V.sl.injEq,true_and,and_true,bc,ba,aZ,iw.map_inj,ae.map_inj,ad.map_inj,hM.map_inj,iM.map_inj,f7.map_inj,f5.map_inj,jB.map_inj,iX.map_inj] at h
 simp only [iE.mk.injEq,cc.mk.injEq,jr.mk.injEq]
 simp only [h,and_self]
theorem jr.map_inj {a b:List jr} :ah jr.row a=ah jr.row b↔a=b:=dA jr.row_inj
theorem jr.one (a0:Int) (a1:Int) (a2:Int) (a3:List hM) (a4:Int) (a5:List f7): [([.i .i64 a0,.i .i64 a1,.i .i64 a2,.sl 8 (ah hM.row a3),.i .i64 a4,.sl 7 (ah f7.row a5)]:List V)]=ah jr.row [(⟨a0,a1,⟨⟨a2,a3⟩,a4,a5⟩⟩:jr)]:=rfl
theorem jr.cons (a0:Int) (a1:Int) (a2:Int) (a3:List hM) (a4:Int) (a5:List f7) (l:List jr):([.i .i64 a0,.i .i64 a1,.i .i64 a2,.sl 8 (ah hM.row a3),.i .i64 a4,.sl 7 (ah f7.row a5)]:List V)::ah jr.row l=ah jr.row ((⟨a0,a1,⟨⟨a2,a3⟩,a4,a5⟩⟩:jr)::l):=rfl
theorem jr.set (a0:Int) (a1:Int) (a2:Int) (a3:List hM) (a4:Int) (a5:List f7) (l:List jr) (i:Int):(ah jr.row l).set i.toNat ([.i .i64 a0,.i .i64 a1,.i .i64 a2,.sl 8 (ah hM.row a3),.i .i64 a4,.sl 7 (ah f7.row a5)]:List V)=ah jr.row (ud l i (⟨a0,a1,⟨⟨a2,a3⟩,a4,a5⟩⟩:jr)):=dj jr.row l _ (⟨a0,a1,⟨⟨a2,a3⟩,a4,a5⟩⟩:jr)
structure iu where
 af:Int
 iO:Int
 qu:Int
 jg:Int
 iN:iX
 iS:jr
def iu.row (x:iu):List V:=[.i .i64 x.af,.i .i64 x.iO,.i .i64 x.qu,.i .i64 x.jg,.i .i64 x.iN.iO,.i .i64 x.iN.i6,.b x.iN.tj,.i .i64 x.iN.iz.iP,.i .i64 x.iN.iz.jT,.i .i64 x.iN.iz.bt.af,.s x.iN.iz.bt.jj,.s x.iN.iz.bt.iv,.s x.iN.iz.bt.gi,.i .i64 x.iN.iz.bt.fN,.i .i64 x.iS.jg,.i .i64 x.iS.iO,.i .i64 x.iS.iC.iA.jv,.sl 8 (ah hM.row x.iS.iC.iA.im),.i .i64 x.iS.iC.ji,.sl 7 (ah f7.row x.iS.iC.ir)]
def iu.d (x:iu):D:=.agg [.v (.i .i64 x.af),.v (.i .i64 x.iO),.v (.i .i64 x.qu),.v (.i .i64 x.jg),.v (.i .i64 x.iN.iO),.v (.i .i64 x.iN.i6),.v (.b x.iN.tj),.v (.i .i64 x.iN.iz.iP),.v (.i .i64 x.iN.iz.jT),.v (.i .i64 x.iN.iz.bt.af),.v (.s x.iN.iz.bt.jj),.v (.s x.iN.iz.bt.iv),.v (.s x.iN.iz.bt.gi),.v (.i .i64 x.iN.iz.bt.fN),.v (.i .i64 x.iS.jg),.v (.i .i64 x.iS.iO),.v (.i .i64 x.iS.iC.iA.jv),.v (.sl 8 (ah hM.row x.iS.iC.iA.im)),.v (.i .i64 x.iS.iC.ji),.v (.sl 7 (ah f7.row x.iS.iC.ir))]
def iu.ok (x:iu):Prop:=(okI x.af)/\(okI x.iO)/\(okI x.qu)/\(okI x.jg)/\(x.iN.ok)/\(x.iS.ok)
theorem iu.row_inj (a b:iu) (h:a.row=b.row):a=b:=by
 obtain⟨a0,a1,a2,a3,⟨a4,a5,a6,⟨a7,a8,⟨a9,a10,a11,a12,a13⟩⟩⟩,⟨a14,a15,⟨⟨a16,a17⟩,a18,a19⟩⟩⟩:=a;obtain⟨b0,b1,b2,b3,⟨b4,b5,b6,⟨b7,b8,⟨b9,b10,b11,b12,b13⟩⟩⟩,⟨b14,b15,⟨⟨b16,b17⟩,b18,b19⟩⟩⟩:=b
 simp only [iu.row,List.cons.injEq,V.i.injEq,V.s.injEq,V.b.injEq,V.sl.injEq,true_and,and_true,bc,ba,aZ,iw.map_inj,ae.map_inj,ad.map_inj,hM.map_inj,iM.map_inj,f7.map_inj] at h
 simp only [f5.mk.injEq,jB.mk.injEq,iX.mk.injEq,iE.mk.injEq,cc.mk.injEq,jr.mk.injEq,iu.mk.injEq]
 simp only [h,and_self]
theorem iu.map_inj {a b:List iu} :ah iu.row a=ah iu.row b↔a=b:=dA iu.row_inj
theorem iu.one (a0:Int) (a1:Int) (a2:Int) (a3:Int) (a4:Int) (a5:Int) (a6:Bool) (a7:Int) (a8:Int) (a9:Int) (a10:ByteArray) (a11:ByteArray) (a12:ByteArray) (a13:Int) (a14:Int) (a15:Int) (a16:Int) (a17:List hM) (a18:Int) (a19:List f7): [([.i .i64 a0,.i .i64 a1,.i .i64 a2,.i .i64 a3,.i .i64 a4,.i .i64 a5,.b a6,.i .i64 a7,.i .i64 a8,.i .i64 a9,.s a10,.s a11,.s a12,.i .i64 a13,.i .i64 a14,.i .i64 a15,.i .i64 a16,.sl 8 (ah hM.row a17),.i .i64 a18,.sl 7 (ah f7.row a19)]:List V)]=ah iu.row [(⟨a0,a1,a2,a3,⟨a4,a5,a6,⟨a7,a8,⟨a9,a10,a11,a12,a13⟩⟩⟩,⟨a14,a15,⟨⟨a16,a17⟩,a18,a19⟩⟩⟩:iu)]:=rfl
theorem iu.cons (a0:Int) (a1:Int) (a2:Int) (a3:Int) (a4:Int) (a5:Int) (a6:Bool) (a7:Int) (a8:Int) (a9:Int) (a10:ByteArray) (a11:ByteArray) (a12:ByteArray) (a13:Int) (a14:Int) (a15:Int) (a16:Int) (a17:List hM) (a18:Int) (a19:List f7) (l:List iu):([.i .i64 a0,.i .i64 a1,.i .i64 a2,.i .i64 a3,.i .i64 a4,.i .i64 a5,.b a6,.i .i64 a7,.i .i64 a8,.i .i64 a9,.s a10,.s a11,.s a12,.i .i64 a13,.i .i64 a14,.i .i64 a15,.i .i64 a16,.sl 8 (ah hM.row a17),.i .i64 a18,.sl 7 (ah f7.row a19)]:List V)::ah iu.row l=ah iu.row ((⟨a0,a1,a2,a3,⟨a4,a5,a6,⟨a7,a8,⟨a9,a10,a11,a12,a13⟩⟩⟩,⟨a14,a15,⟨⟨a16,a17⟩,a18,a19⟩⟩⟩:iu)::l):=rfl
theorem iu.set (a0:Int) (a1:Int) (a2:Int) (a3:Int) (a4:Int) (a5:Int) (a6:Bool) (a7:Int) (a8:Int) (a9:Int) (a10:ByteArray) (a11:ByteArray) (a12:ByteArray) (a13:Int) (a14:Int) (a15:Int) (a16:Int) (a17:List hM) (a18:Int) (a19:List f7) (l:List iu) (i:Int):(ah iu.row l).set i.toNat ([.i .i64 a0,.i .i64 a1,.i .i64 a2,.i .i64 a3,.i .i64 a4,.i .i64 a5,.b a6,.i .i64 a7,.i .i64 a8,.i .i64 a9,.s a10,.s a11,.s a12,.i .i64 a13,.i .i64 a14,.i .i64 a15,.i .i64 a16,.sl 8 (ah hM.row a17),.i .i64 a18,.sl 7 (ah f7.row a19)]:List V)=ah iu.row (ud l i (⟨a0,a1,a2,a3,⟨a4,a5,a6,⟨a7,a8,⟨a9,a10,a11,a12,a13⟩⟩⟩,⟨a14,a15,⟨⟨a16,a17⟩,a18,a19⟩⟩⟩:iu)):=dj iu.row l _ (⟨a0,a1,a2,a3,⟨a4,a5,a6,⟨a7,a8,⟨a9,a10,a11,a12,a13⟩⟩⟩,⟨a14,a15,⟨⟨a16,a17⟩,a18,a19⟩⟩⟩:iu)
structure qd where
 Np:Int
 y0:Int
 iG:List iX
def qd.row (x:qd):List V:=[.i .i64 x.Np,.i .i64 x.y0,.sl 10 (ah iX.row x.iG)]
def qd.d (x:qd):D:=.agg [.v (.i .i64 x.Np),.v (.i .i64 x.y0),.v (.sl 10 (ah iX.row x.iG))]
def qd.ok (x:qd):Prop:=(okI x.Np)/\(okI x.y0)/\((okN 104 x.iG.length/\ ∀y∈x.iG,y.ok))
theorem qd.row_inj (a b:qd) (h:a.row=b.row):a=b:=by
 obtain⟨a0,a1,a2⟩:=a;obtain⟨b0,b1,b2⟩:=b
 simp only [qd.row,List.cons.injEq,V.i.injEq,V.s.injEq,V.b.injEq,V.sl.injEq,true_and,and_true,bc,ba,aZ,iw.map_inj,ae.map_inj,ad.map_inj,hM.map_inj,iE.map_inj,iM.map_inj,f7.map_inj,cc.map_inj,f5.map_inj,jB.map_inj,iX.map_inj,jr.map_inj,iu.map_inj] at h
 simp only [qd.mk.injEq]
 simp only [h,and_self]
theorem qd.map_inj {a b:List qd} :ah qd.row a=ah qd.row b↔a=b:=dA qd.row_inj
theorem qd.one (a0:Int) (a1:Int) (a2:List iX): [([.i .i64 a0,.i .i64 a1,.sl 10 (ah iX.row a2)]:List V)]=ah qd.row [(⟨a0,a1,a2⟩:qd)]:=rfl
theorem qd.cons (a0:Int) (a1:Int) (a2:List iX) (l:List qd):([.i .i64 a0,.i .i64 a1,.sl 10 (ah iX.row a2)]:List V)::ah qd.row l=ah qd.row ((⟨a0,a1,a2⟩:qd)::l):=rfl
theorem qd.set (a0:Int) (a1:Int) (a2:List iX) (l:List qd) (i:Int):(ah qd.row l).set i.toNat ([.i .i64 a0,.i .i64 a1,.sl 10 (ah iX.row a2)]:List V)=ah qd.row (ud l i (⟨a0,a1,a2⟩:qd)):=dj qd.row l _ (⟨a0,a1,a2⟩:qd)
structure iK where
 j9:List Int
 kg:Int
def iK.row (x:iK):List V:=[.sl 1 (ah cE x.j9),.i .i64 x.kg]
def iK.d (x:iK):D:=.agg [.v (.sl 1 (ah cE x.j9)),.v (.i .i64 x.kg)]
def iK.ok (x:iK):Prop:=((okN 1 x.j9.length/\ ∀y∈x.j9,((IntKind.u8).min<=y/\y<=(IntKind.u8).max)))/\(okI x.kg)
theorem iK.row_inj (a b:iK) (h:a.row=b.row):a=b:=by
 obtain⟨a0,a1⟩:=a;obtain⟨b0,b1⟩:=b
 simp only [iK.row,List.cons.injEq,V.i.injEq,V.s.injEq,V.b.injEq,V.sl.injEq,true_and,and_true,bc,ba,aZ,iw.map_inj,ae.map_inj,ad.map_inj,hM.map_inj,iE.map_inj,iM.map_inj,f7.map_inj,cc.map_inj,f5.map_inj,jB.map_inj,iX.map_inj,jr.map_inj,iu.map_inj,qd.map_inj] at h
 simp only [iK.mk.injEq]
 simp only [h,and_self]
theorem iK.map_inj {a b:List iK} :ah iK.row a=ah iK.row b↔a=b:=dA iK.row_inj
theorem iK.one (a0:List Int) (a1:Int): [([.sl 1 (ah cE a0),.i .i64 a1]:List V)]=ah iK.row [(⟨a0,a1⟩:iK)]:=rfl
theorem iK.cons (a0:List Int) (a1:Int) (l:List iK):([.sl 1 (ah cE a0),.i .i64 a1]:List V)::ah iK.row l=ah iK.row ((⟨a0,a1⟩:iK)::l):=rfl
theorem iK.set (a0:List Int) (a1:Int) (l:List iK) (i:Int):(ah iK.row l).set i.toNat ([.sl 1 (ah cE a0),.i .i64 a1]:List V)=ah iK.row (ud l i (⟨a0,a1⟩:iK)):=dj iK.row l _ (⟨a0,a1⟩:iK)
structure jU where
 frest:List Int
 fshort:Bool
def jU.row (x:jU):List V:=[.sl 1 (ah cE x.frest),.b x.fshort]
def jU.d (x:jU):D:=.agg [.v (.sl 1 (ah cE x.frest)),.v (.b x.fshort)]
def jU.ok (x:jU):Prop:=((okN 1 x.frest.length/\ ∀y∈x.frest,((IntKind.u8).min<=y/\y<=(IntKind.u8).max)))/\(True)
theorem jU.row_inj (a b:jU) (h:a.row=b.row):a=b:=by
 obtain⟨a0,a1⟩:=a;obtain⟨b0,b1⟩:=b
 simp only [jU.row,List.cons.injEq,V.i.injEq,V.s.injEq,V.b.injEq,V.sl.injEq,true_and,and_true,bc,ba,aZ,iw.map_inj,ae.map_inj,ad.map_inj,hM.map_inj,iE.map_inj,iM.map_inj,f7.map_inj,cc.map_inj,f5.map_inj,jB.map_inj,iX.map_inj,jr.map_inj,iu.map_inj,qd.map_inj,iK.map_inj] at h
 simp only [jU.mk.injEq]
 simp only [h,and_self]
theorem jU.map_inj {a b:List jU} :ah jU.row a=ah jU.row b↔a=b:=dA jU.row_inj
theorem jU.one (a0:List Int) (a1:Bool): [([.sl 1 (ah cE a0),.b a1]:List V)]=ah jU.row [(⟨a0,a1⟩:jU)]:=rfl
theorem jU.cons (a0:List Int) (a1:Bool) (l:List jU):([.sl 1 (ah cE a0),.b a1]:List V)::ah jU.row l=ah jU.row ((⟨a0,a1⟩:jU)::l):=rfl
theorem jU.set (a0:List Int) (a1:Bool) (l:List jU) (i:Int):(ah jU.row l).set i.toNat ([.sl 1 (ah cE a0),.b a1]:List V)=ah jU.row (ud l i (⟨a0,a1⟩:jU)):=dj jU.row l _ (⟨a0,a1⟩:jU)
structure mL where
 fb:List Int
 fat:Int
def mL.row (x:mL):List V:=[.sl 1 (ah cE x.fb),.i .i64 x.fat]
def mL.d (x:mL):D:=.agg [.v (.sl 1 (ah cE x.fb)),.v (.i .i64 x.fat)]
def mL.ok (x:mL):Prop:=((okN 1 x.fb.length/\ ∀y∈x.fb,((IntKind.u8).min<=y/\y<=(IntKind.u8).max)))/\(okI x.fat)
theorem mL.row_inj (a b:mL) (h:a.row=b.row):a=b:=by
 obtain⟨a0,a1⟩:=a;obtain⟨b0,b1⟩:=b
 simp only [mL.row,List.cons.injEq,V.i.injEq,V.s.injEq,V.b.injEq,V.sl.injEq,true_and,and_true,bc,ba,aZ,iw.map_inj,ae.map_inj,ad.map_inj,hM.map_inj,iE.map_inj,iM.map_inj,f7.map_inj,cc.map_inj,f5.map_inj,jB.map_inj,iX.map_inj,jr.map_inj,iu.map_inj,qd.map_inj,iK.map_inj,jU.map_inj] at h
 simp only [mL.mk.injEq]
 simp only [h,and_self]
theorem mL.map_inj {a b:List mL} :ah mL.row a=ah mL.row b↔a=b:=dA mL.row_inj
theorem mL.one (a0:List Int) (a1:Int): [([.sl 1 (ah cE a0),.i .i64 a1]:List V)]=ah mL.row [(⟨a0,a1⟩:mL)]:=rfl
theorem mL.cons (a0:List Int) (a1:Int) (l:List mL):([.sl 1 (ah cE a0),.i .i64 a1]:List V)::ah mL.row l=ah mL.row ((⟨a0,a1⟩:mL)::l):=rfl
theorem mL.set (a0:List Int) (a1:Int) (l:List mL) (i:Int):(ah mL.row l).set i.toNat ([.sl 1 (ah cE a0),.i .i64 a1]:List V)=ah mL.row (ud l i (⟨a0,a1⟩:mL)):=dj mL.row l _ (⟨a0,a1⟩:mL)
structure bi where
 fb:List Int
def bi.row (x:bi):List V:=[.sl 1 (ah cE x.fb)]
def bi.d (x:bi):D:=.agg [.v (.sl 1 (ah cE x.fb))]
def bi.ok (x:bi):Prop:=((okN 1 x.fb.length/\ ∀y∈x.fb,((IntKind.u8).min<=y/\y<=(IntKind.u8).max)))
theorem bi.row_inj (a b:bi) (h:a.row=b.row):a=b:=by
 obtain⟨a0⟩:=a;obtain⟨b0⟩:=b
 simp only [bi.row,List.cons.injEq,V.i.injEq,V.s.injEq,V.b.injEq,V.sl.injEq,true_and,and_true,bc,ba,aZ,iw.map_inj,ae.map_inj,ad.map_inj,hM.map_inj,iE.map_inj,iM.map_inj,f7.map_inj,cc.map_inj,f5.map_inj,jB.map_inj,iX.map_inj,jr.map_inj,iu.map_inj,qd.map_inj,iK.map_inj,jU.map_inj,mL.map_inj] at h
 simp only [bi.mk.injEq]
 simp only [h,and_self]
theorem bi.map_inj {a b:List bi} :ah bi.row a=ah bi.row b↔a=b:=dA bi.row_inj
theorem bi.one (a0:List Int): [([.sl 1 (ah cE a0)]:List V)]=ah bi.row [(⟨a0⟩:bi)]:=rfl
theorem bi.cons (a0:List Int) (l:List bi):([.sl 1 (ah cE a0)]:List V)::ah bi.row l=ah bi.row ((⟨a0⟩:bi)::l):=rfl
theorem bi.set (a0:List Int) (l:List bi) (i:Int):(ah bi.row l).set i.toNat ([.sl 1 (ah cE a0)]:List V)=ah bi.row (ud l i (⟨a0⟩:bi)):=dj bi.row l _ (⟨a0⟩:bi)
theorem iw.of110 {k:Nat} {r:List V} (h:xb Try.prog k 110 r): ∃x:iw,r=x.row/\x.ok:=by
 obtain⟨k0,h0⟩:=cZ Try.underlying110 h
 simp only [dR] at h0
 obtain⟨_,_,rfl,f0_0,_,_,rfl,f0_1,rfl⟩:=h0
 obtain⟨n1,rfl,o1⟩:=eb Try.underlying9 f0_0
 obtain⟨n2,rfl,o2⟩:=eb Try.underlying9 f0_1
 exact⟨⟨n1,n2⟩,rfl,⟨o1,o2⟩⟩
theorem ae.of112 {k:Nat} {r:List V} (h:xb Try.prog k 112 r): ∃x:ae,r=x.row/\x.ok:=by
 obtain⟨k0,h0⟩:=cZ Try.underlying112 h
 simp only [dR] at h0
 obtain⟨_,_,rfl,f0_0,_,_,rfl,f0_1,rfl⟩:=h0
 obtain⟨n1,rfl,o1⟩:=eb Try.underlying9 f0_0
 obtain⟨n2,rfl,o2⟩:=df Try.underlying3 f0_1
 exact⟨⟨n1,n2⟩,rfl,⟨o1,(dt o2)⟩⟩
theorem hM.of77 {k:Nat} {r:List V} (h:xb Try.prog k 77 r): ∃x:hM,r=x.row/\x.ok:=by
 obtain⟨k0,h0⟩:=cZ Try.underlying77 h
 simp only [dR] at h0
 obtain⟨_,_,rfl,f0_0,_,_,rfl,f0_1,_,_,rfl,f0_2,rfl⟩:=h0
 obtain⟨n1,rfl,o1⟩:=eb Try.underlying9 f0_0
 obtain⟨k2,h2⟩:=cZ Try.underlying74 f0_1
 simp only [dR] at h2
 obtain⟨_,_,rfl,f2_0,_,_,rfl,f2_1,_,_,rfl,f2_2,_,_,rfl,f2_3,_,_,rfl,f2_4,_,_,rfl,f2_5,rfl⟩:=h2
 obtain⟨n3,rfl,o3⟩:=df Try.underlying3 f2_0
 obtain⟨n4,rfl,o4⟩:=eb Try.underlying9 f2_1
 obtain⟨n5,rfl,o5⟩:=df Try.underlying3 f2_2
 obtain⟨l6,j6,rfl,o6,q6⟩:=dB (n:=2) (m:=32) Try.underlying70 (by kernel_rfl) (by kernel_rfl) f2_3
 obtain⟨n6,rfl,p6⟩:=dU (f:=iw.row) (ok:=fun y=>y.ok) (fun r hr=>iw.of110 (q6 r hr))
 rw [List.length_map] at o6
 obtain⟨l7,j7,rfl,o7,q7⟩:=dB (n:=1) (m:=16) Try.underlying71 (by kernel_rfl) (by kernel_rfl) f2_4
 obtain⟨n7,rfl,p7⟩:=dU (f:=bY) (ok:=fun y=>okS y) (fun r hr=>by obtain⟨s,h1,h2⟩:=eb Try.underlying9 (q7 r hr);exact⟨s,h1,h2⟩)
 rw [List.length_map] at o7
 obtain⟨l8,j8,rfl,o8,q8⟩:=dB (n:=2) (m:=24) Try.underlying72 (by kernel_rfl) (by kernel_rfl) f2_5
 obtain⟨n8,rfl,p8⟩:=dU (f:=ae.row) (ok:=fun y=>y.ok) (fun r hr=>ae.of112 (q8 r hr))
 rw [List.length_map] at o8
 obtain⟨n9,rfl,o9⟩:=df Try.underlying3 f0_2
 exact⟨⟨n1,⟨n3,n4,n5,n6,n7,n8⟩,n9⟩,rfl,⟨o1,⟨(dt o3),o4,(dt o5),⟨o6,p6⟩,⟨o7,p7⟩,⟨o8,p8⟩⟩,(dt o9)⟩⟩
theorem f7.of81 {k:Nat} {r:List V} (h:xb Try.prog k 81 r): ∃x:f7,r=x.row/\x.ok:=by
 obtain⟨k0,h0⟩:=cZ Try.underlying81 h
 simp only [dR] at h0
 obtain⟨_,_,rfl,f0_0,_,_,rfl,f0_1,_,_,rfl,f0_2,_,_,rfl,f0_3,rfl⟩:=h0
 obtain⟨n1,rfl,o1⟩:=df Try.underlying3 f0_0
 obtain⟨n2,rfl,o2⟩:=df Try.underlying3 f0_1
 obtain⟨n3,rfl,o3⟩:=df Try.underlying3 f0_2
 obtain⟨k4,h4⟩:=cZ Try.underlying79 f0_3
 simp only [dR] at h4
 obtain⟨_,_,rfl,f4_0,_,_,rfl,f4_1,_,_,rfl,f4_2,_,_,rfl,f4_3,rfl⟩:=h4
 obtain⟨n5,rfl,o5⟩:=df Try.underlying29 f4_0
 obtain⟨n6,rfl,o6⟩:=eb Try.underlying9 f4_1
 obtain⟨n7,rfl,o7⟩:=df Try.underlying3 f4_2
 obtain⟨l8,j8,rfl,o8,q8⟩:=dB (n:=1) (m:=16) Try.underlying71 (by kernel_rfl) (by kernel_rfl) f4_3
 obtain⟨n8,rfl,p8⟩:=dU (f:=bY) (ok:=fun y=>okS y) (fun r hr=>by obtain⟨s,h1,h2⟩:=eb Try.underlying9 (q8 r hr);exact⟨s,h1,h2⟩)
 rw [List.length_map] at o8
 exact⟨⟨n1,n2,n3,⟨n5,n6,n7,n8⟩⟩,rfl,⟨(dt o1),(dt o2),(dt o3),⟨(dt o5),o6,(dt o7),⟨o8,p8⟩⟩⟩⟩
theorem iu.of44 {k:Nat} {r:List V} (h:xb Try.prog k 44 r): ∃x:iu,r=x.row/\x.ok:=by
 obtain⟨k0,h0⟩:=cZ Try.underlying44 h
 simp only [dR] at h0
 obtain⟨_,_,rfl,f0_0,_,_,rfl,f0_1,_,_,rfl,f0_2,_,_,rfl,f0_3,_,_,rfl,f0_4,_,_,rfl,f0_5,rfl⟩:=h0
 obtain⟨n1,rfl,o1⟩:=df Try.underlying3 f0_0
 obtain⟨n2,rfl,o2⟩:=df Try.underlying3 f0_1
 obtain⟨n3,rfl,o3⟩:=df Try.underlying3 f0_2
 obtain⟨n4,rfl,o4⟩:=df Try.underlying3 f0_3
 obtain⟨k5,h5⟩:=cZ Try.underlying40 f0_4
 simp only [dR] at h5
 obtain⟨_,_,rfl,f5_0,_,_,rfl,f5_1,_,_,rfl,f5_2,_,_,rfl,f5_3,rfl⟩:=h5
 obtain⟨n6,rfl,o6⟩:=df Try.underlying3 f5_0
 obtain⟨n7,rfl,o7⟩:=df Try.underlying3 f5_1
 obtain⟨n8,rfl⟩:=Ox Try.underlying4 f5_2
 obtain⟨k9,h9⟩:=cZ Try.underlying38 f5_3
 simp only [dR] at h9
 obtain⟨_,_,rfl,f9_0,_,_,rfl,f9_1,_,_,rfl,f9_2,rfl⟩:=h9
 obtain⟨n10,rfl,o10⟩:=df Try.underlying3 f9_0
 obtain⟨n11,rfl,o11⟩:=df Try.underlying3 f9_1
 obtain⟨k12,h12⟩:=cZ Try.underlying36 f9_2
 simp only [dR] at h12
 obtain⟨_,_,rfl,f12_0,_,_,rfl,f12_1,_,_,rfl,f12_2,_,_,rfl,f12_3,_,_,rfl,f12_4,rfl⟩:=h12
 obtain⟨n13,rfl,o13⟩:=df Try.underlying3 f12_0
 obtain⟨n14,rfl,o14⟩:=eb Try.underlying9 f12_1
 obtain⟨n15,rfl,o15⟩:=eb Try.underlying9 f12_2
 obtain⟨n16,rfl,o16⟩:=eb Try.underlying9 f12_3
 obtain⟨n17,rfl,o17⟩:=df Try.underlying3 f12_4
 obtain⟨k18,h18⟩:=cZ Try.underlying42 f0_5
 simp only [dR] at h18
 obtain⟨_,_,rfl,f18_0,_,_,rfl,f18_1,_,_,rfl,f18_2,rfl⟩:=h18
 obtain⟨n19,rfl,o19⟩:=df Try.underlying3 f18_0
 obtain⟨n20,rfl,o20⟩:=df Try.underlying3 f18_1
 obtain⟨k21,h21⟩:=cZ Try.underlying28 f18_2
 simp only [dR] at h21
 obtain⟨_,_,rfl,f21_0,_,_,rfl,f21_1,_,_,rfl,f21_2,rfl⟩:=h21
 obtain⟨k22,h22⟩:=cZ Try.underlying25 f21_0
 simp only [dR] at h22
 obtain⟨_,_,rfl,f22_0,_,_,rfl,f22_1,rfl⟩:=h22
 obtain⟨n23,rfl,o23⟩:=df Try.underlying3 f22_0
 obtain⟨l24,j24,rfl,o24,q24⟩:=dB (n:=8) (m:=128) Try.underlying23 (by kernel_rfl) (by kernel_rfl) f22_1
 obtain⟨n24,rfl,p24⟩:=dU (f:=hM.row) (ok:=fun y=>y.ok) (fun r hr=>hM.of77 (q24 r hr))
 rw [List.length_map] at o24
 obtain⟨n25,rfl,o25⟩:=df Try.underlying3 f21_1
 obtain⟨l26,j26,rfl,o26,q26⟩:=dB (n:=7) (m:=80) Try.underlying26 (by kernel_rfl) (by kernel_rfl) f21_2
 obtain⟨n26,rfl,p26⟩:=dU (f:=f7.row) (ok:=fun y=>y.ok) (fun r hr=>f7.of81 (q26 r hr))
 rw [List.length_map] at o26
 exact⟨⟨n1,n2,n3,n4,⟨n6,n7,n8,⟨n10,n11,⟨n13,n14,n15,n16,n17⟩⟩⟩,⟨n19,n20,⟨⟨n23,n24⟩,n25,n26⟩⟩⟩,rfl,⟨(dt o1),(dt o2),(dt o3),(dt o4),⟨(dt o6),(dt o7),trivial,⟨(dt o10),(dt o11),⟨(dt o13),o14,o15,o16,(dt o17)⟩⟩⟩,⟨(dt o19),(dt o20),⟨⟨(dt o23),⟨o24,p24⟩⟩,(dt o25),⟨o26,p26⟩⟩⟩⟩⟩
theorem iK.of58 {k:Nat} {r:List V} (h:xb Try.prog k 58 r): ∃x:iK,r=x.row/\x.ok:=by
 obtain⟨k0,h0⟩:=cZ Try.underlying58 h
 simp only [dR] at h0
 obtain⟨_,_,rfl,f0_0,_,_,rfl,f0_1,rfl⟩:=h0
 obtain⟨l1,j1,rfl,o1,q1⟩:=dB (n:=1) (m:=1) Try.underlying22 (by kernel_rfl) (by kernel_rfl) f0_0
 obtain⟨n1,rfl,p1⟩:=dU (f:=cE) (ok:=fun y=>((IntKind.u8).min<=y/\y<=(IntKind.u8).max)) (fun r hr=>by obtain⟨s,h1,h2⟩:=df Try.underlying5 (q1 r hr);exact⟨s,h1,h2⟩)
 rw [List.length_map] at o1
 obtain⟨n2,rfl,o2⟩:=df Try.underlying3 f0_1
 exact⟨⟨n1,n2⟩,rfl,⟨⟨o1,p1⟩,(dt o2)⟩⟩
@[reducible] def cGRecord (x:iu):List D:=[.v (.i .i64 x.af),.v (.i .i64 x.iO),.v (.i .i64 x.qu),.v (.i .i64 x.jg),.v (.i .i64 x.iN.iO),.v (.i .i64 x.iN.i6),.v (.b x.iN.tj),.v (.i .i64 x.iN.iz.iP),.v (.i .i64 x.iN.iz.jT),.v (.i .i64 x.iN.iz.bt.af),.v (.s x.iN.iz.bt.jj),.v (.s x.iN.iz.bt.iv),.v (.s x.iN.iz.bt.gi),.v (.i .i64 x.iN.iz.bt.fN),.v (.i .i64 x.iS.jg),.v (.i .i64 x.iS.iO),.v (.i .i64 x.iS.iC.iA.jv),.v (.sl 8 (ah hM.row x.iS.iC.iA.im)),.v (.i .i64 x.iS.iC.ji),.v (.sl 7 (ah f7.row x.iS.iC.ir))]
@[reducible] def rGRecord (x:iu):List V:=[.i .i64 x.af,.i .i64 x.iO,.i .i64 x.qu,.i .i64 x.jg,.i .i64 x.iN.iO,.i .i64 x.iN.i6,.b x.iN.tj,.i .i64 x.iN.iz.iP,.i .i64 x.iN.iz.jT,.i .i64 x.iN.iz.bt.af,.s x.iN.iz.bt.jj,.s x.iN.iz.bt.iv,.s x.iN.iz.bt.gi,.i .i64 x.iN.iz.bt.fN,.i .i64 x.iS.jg,.i .i64 x.iS.iO,.i .i64 x.iS.iC.iA.jv,.sl 8 (ah hM.row x.iS.iC.iA.im),.i .i64 x.iS.iC.ji,.sl 7 (ah f7.row x.iS.iC.ir)]
@[reducible] def cGItem (x:iX):List D:=[.v (.i .i64 x.iO),.v (.i .i64 x.i6),.v (.b x.tj),.v (.i .i64 x.iz.iP),.v (.i .i64 x.iz.jT),.v (.i .i64 x.iz.bt.af),.v (.s x.iz.bt.jj),.v (.s x.iz.bt.iv),.v (.s x.iz.bt.gi),.v (.i .i64 x.iz.bt.fN)]
@[reducible] def cGEntry (x:hM):List D:=[.v (.s x.jj),.v (.i .i64 x.jG.af),.v (.s x.jG.gi),.v (.i .i64 x.jG.i8),.v (.sl 2 (ah iw.row x.jG.iD)),.v (.sl 1 (ah bY x.jG.iG)),.v (.sl 2 (ah ae.row x.jG.cO)),.v (.i .i64 x.km)]
@[reducible] def rGItem (x:iX):List V:=[.i .i64 x.iO,.i .i64 x.i6,.b x.tj,.i .i64 x.iz.iP,.i .i64 x.iz.jT,.i .i64 x.iz.bt.af,.s x.iz.bt.jj,.s x.iz.bt.iv,.s x.iz.bt.gi,.i .i64 x.iz.bt.fN]
@[reducible] def cGSnap (x:jr):List D:=[.v (.i .i64 x.jg),.v (.i .i64 x.iO),.v (.i .i64 x.iC.iA.jv),.v (.sl 8 (ah hM.row x.iC.iA.im)),.v (.i .i64 x.iC.ji),.v (.sl 7 (ah f7.row x.iC.ir))]
@[reducible] def rGEntry (x:hM):List V:=[.s x.jj,.i .i64 x.jG.af,.s x.jG.gi,.i .i64 x.jG.i8,.sl 2 (ah iw.row x.jG.iD),.sl 1 (ah bY x.jG.iG),.sl 2 (ah ae.row x.jG.cO),.i .i64 x.km]
@[reducible] def rGSnap (x:jr):List V:=[.i .i64 x.jg,.i .i64 x.iO,.i .i64 x.iC.iA.jv,.sl 8 (ah hM.row x.iC.iA.im),.i .i64 x.iC.ji,.sl 7 (ah f7.row x.iC.ir)]
@[reducible] def cGCall (x:jB):List D:=[.v (.i .i64 x.iP),.v (.i .i64 x.jT),.v (.i .i64 x.bt.af),.v (.s x.bt.jj),.v (.s x.bt.iv),.v (.s x.bt.gi),.v (.i .i64 x.bt.fN)]
@[reducible] def cGClient (x:f7):List D:=[.v (.i .i64 x.fId),.v (.i .i64 x.jT),.v (.i .i64 x.i6),.v (.i .i64 x.jd.ky),.v (.s x.jd.gi),.v (.i .i64 x.jd.fN),.v (.sl 1 (ah bY x.jd.jW))]
@[reducible] def cGValue (x:ad):List D:=[.v (.i .i64 x.af),.v (.s x.gi),.v (.i .i64 x.i8),.v (.sl 2 (ah iw.row x.iD)),.v (.sl 1 (ah bY x.iG)),.v (.sl 2 (ah ae.row x.cO))]
@[reducible] def rGCall (x:jB):List V:=[.i .i64 x.iP,.i .i64 x.jT,.i .i64 x.bt.af,.s x.bt.jj,.s x.bt.iv,.s x.bt.gi,.i .i64 x.bt.fN]
@[reducible] def rGClient (x:f7):List V:=[.i .i64 x.fId,.i .i64 x.jT,.i .i64 x.i6,.i .i64 x.jd.ky,.s x.jd.gi,.i .i64 x.jd.fN,.sl 1 (ah bY x.jd.jW)]
@[reducible] def rGValue (x:ad):List V:=[.i .i64 x.af,.s x.gi,.i .i64 x.i8,.sl 2 (ah iw.row x.iD),.sl 1 (ah bY x.iG),.sl 2 (ah ae.row x.cO)]
@[reducible] def cGMachine (x:cc):List D:=[.v (.i .i64 x.iA.jv),.v (.sl 8 (ah hM.row x.iA.im)),.v (.i .i64 x.ji),.v (.sl 7 (ah f7.row x.ir))]
@[reducible] def rGMachine (x:cc):List V:=[.i .i64 x.iA.jv,.sl 8 (ah hM.row x.iA.im),.i .i64 x.ji,.sl 7 (ah f7.row x.ir)]
@[reducible] def cGCommand (x:f5):List D:=[.v (.i .i64 x.af),.v (.s x.jj),.v (.s x.iv),.v (.s x.gi),.v (.i .i64 x.fN)]
@[reducible] def cGReply (x:iM):List D:=[.v (.i .i64 x.ky),.v (.s x.gi),.v (.i .i64 x.fN),.v (.sl 1 (ah bY x.jW))]
@[reducible] def rGReply (x:iM):List V:=[.i .i64 x.ky,.s x.gi,.i .i64 x.fN,.sl 1 (ah bY x.jW)]
@[reducible] def rGCommand (x:f5):List V:=[.i .i64 x.af,.s x.jj,.s x.iv,.s x.gi,.i .i64 x.fN]
@[reducible] def cGStore (x:iE):List D:=[.v (.i .i64 x.jv),.v (.sl 8 (ah hM.row x.im))]
@[reducible] def cGTape (x:iK):List D:=[.v (.sl 1 (ah cE x.j9)),.v (.i .i64 x.kg)]
@[reducible] def rGStore (x:iE):List V:=[.i .i64 x.jv,.sl 8 (ah hM.row x.im)]
@[reducible] def rGTape (x:iK):List V:=[.sl 1 (ah cE x.j9),.i .i64 x.kg]
@[reducible] def cGScore (x:ae):List D:=[.v (.s x.iU),.v (.i .i64 x.fN)]
@[reducible] def cGPair (x:iw):List D:=[.v (.s x.iv),.v (.s x.gi)]
@[reducible] def rGScore (x:ae):List V:=[.s x.iU,.i .i64 x.fN]
@[reducible] def rGPair (x:iw):List V:=[.s x.iv,.s x.gi]
end Go.Proofs.Ytgcglmoogaldbaa
