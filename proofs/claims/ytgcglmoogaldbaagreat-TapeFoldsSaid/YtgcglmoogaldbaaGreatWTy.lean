/- Part of the proof by the machine Mx: the types (WTy). -/
import Derived.Test.YtgcglmoogaldbaaGreatMxFour
import Derived.Test.YtgcglmoogaldbaaGreatTyTab
set_option linter.unusedSimpArgs false
set_option linter.unusedVariables false
set_option linter.constructorNameAsVariable false
set_option linter.unnecessarySimpa false
namespace Go.Proofs.YtgcglmoogaldbaaGreat
open Go Go.Mx Go.Proofs
structure kf where
 Qe:List Int
 KG:Int
def kf.row (x:kf):List V:=[.sl 1 (ah cE x.Qe),.i .i64 x.KG]
def kf.d (x:kf):D:=.agg [.v (.sl 1 (ah cE x.Qe)),.v (.i .i64 x.KG)]
def kf.ok (x:kf):Prop:=((okN 1 x.Qe.length/\ ∀y∈x.Qe,((IntKind.u8).min<=y/\y<=(IntKind.u8).max)))/\(okI x.KG)
theorem kf.row_inj (a b:kf) (h:a.row=b.row):a=b:=by
 obtain⟨a0,a1⟩:=a;obtain⟨b0,b1⟩:=b
 simp only [kf.row,List.cons.injEq,V.i.injEq,V.s.injEq,V.b.injEq,V.sl.injEq,true_and,and_true,bc,ba,aZ] at h
 simp only [kf.mk.injEq]
 simp only [h,and_self]
theorem kf.map_inj {a b:List kf} :ah kf.row a=ah kf.row b↔a=b:=dA kf.row_inj
theorem kf.one (a0:List Int) (a1:Int): [([.sl 1 (ah cE a0),.i .i64 a1]:List V)]=ah kf.row [(⟨a0,a1⟩:kf)]:=rfl
theorem kf.cons (a0:List Int) (a1:Int) (l:List kf):([.sl 1 (ah cE a0),.i .i64 a1]:List V)::ah kf.row l=ah kf.row ((⟨a0,a1⟩:kf)::l):=rfl
theorem kf.set (a0:List Int) (a1:Int) (l:List kf) (i:Int):(ah kf.row l).set i.toNat ([.sl 1 (ah cE a0),.i .i64 a1]:List V)=ah kf.row (wE l i (⟨a0,a1⟩:kf)):=dj kf.row l _ (⟨a0,a1⟩:kf)
structure iC where
 iN:ByteArray
 iq:ByteArray
def iC.row (x:iC):List V:=[.s x.iN,.s x.iq]
def iC.d (x:iC):D:=.agg [.v (.s x.iN),.v (.s x.iq)]
def iC.ok (x:iC):Prop:=(okS x.iN)/\(okS x.iq)
theorem iC.row_inj (a b:iC) (h:a.row=b.row):a=b:=by
 obtain⟨a0,a1⟩:=a;obtain⟨b0,b1⟩:=b
 simp only [iC.row,List.cons.injEq,V.i.injEq,V.s.injEq,V.b.injEq,V.sl.injEq,true_and,and_true,bc,ba,aZ,kf.map_inj] at h
 simp only [iC.mk.injEq]
 simp only [h,and_self]
theorem iC.map_inj {a b:List iC} :ah iC.row a=ah iC.row b↔a=b:=dA iC.row_inj
theorem iC.one (a0:ByteArray) (a1:ByteArray): [([.s a0,.s a1]:List V)]=ah iC.row [(⟨a0,a1⟩:iC)]:=rfl
theorem iC.cons (a0:ByteArray) (a1:ByteArray) (l:List iC):([.s a0,.s a1]:List V)::ah iC.row l=ah iC.row ((⟨a0,a1⟩:iC)::l):=rfl
theorem iC.set (a0:ByteArray) (a1:ByteArray) (l:List iC) (i:Int):(ah iC.row l).set i.toNat ([.s a0,.s a1]:List V)=ah iC.row (wE l i (⟨a0,a1⟩:iC)):=dj iC.row l _ (⟨a0,a1⟩:iC)
theorem iC.flat (l:List iC):(ah iC.row l).all gh=true:=ev l (fun _=>rfl)
structure f5 where
 i6:ByteArray
 fN:Int
def f5.row (x:f5):List V:=[.s x.i6,.i .i64 x.fN]
def f5.d (x:f5):D:=.agg [.v (.s x.i6),.v (.i .i64 x.fN)]
def f5.ok (x:f5):Prop:=(okS x.i6)/\(okI x.fN)
theorem f5.row_inj (a b:f5) (h:a.row=b.row):a=b:=by
 obtain⟨a0,a1⟩:=a;obtain⟨b0,b1⟩:=b
 simp only [f5.row,List.cons.injEq,V.i.injEq,V.s.injEq,V.b.injEq,V.sl.injEq,true_and,and_true,bc,ba,aZ,kf.map_inj,iC.map_inj] at h
 simp only [f5.mk.injEq]
 simp only [h,and_self]
theorem f5.map_inj {a b:List f5} :ah f5.row a=ah f5.row b↔a=b:=dA f5.row_inj
theorem f5.one (a0:ByteArray) (a1:Int): [([.s a0,.i .i64 a1]:List V)]=ah f5.row [(⟨a0,a1⟩:f5)]:=rfl
theorem f5.cons (a0:ByteArray) (a1:Int) (l:List f5):([.s a0,.i .i64 a1]:List V)::ah f5.row l=ah f5.row ((⟨a0,a1⟩:f5)::l):=rfl
theorem f5.set (a0:ByteArray) (a1:Int) (l:List f5) (i:Int):(ah f5.row l).set i.toNat ([.s a0,.i .i64 a1]:List V)=ah f5.row (wE l i (⟨a0,a1⟩:f5)):=dj f5.row l _ (⟨a0,a1⟩:f5)
theorem f5.flat (l:List f5):(ah f5.row l).all gh=true:=ev l (fun _=>rfl)
structure ae where
 e5:Int
 iq:ByteArray
 iO:Int
 iz:List iC
 af:List ByteArray
 f9:List f5
def ae.row (x:ae):List V:=[.i .i64 x.e5,.s x.iq,.i .i64 x.iO,.sl 2 (ah iC.row x.iz),.sl 1 (ah bY x.af),.sl 2 (ah f5.row x.f9)]
def ae.d (x:ae):D:=.agg [.v (.i .i64 x.e5),.v (.s x.iq),.v (.i .i64 x.iO),.v (.sl 2 (ah iC.row x.iz)),.v (.sl 1 (ah bY x.af)),.v (.sl 2 (ah f5.row x.f9))]
def ae.ok (x:ae):Prop:=(okI x.e5)/\(okS x.iq)/\(okI x.iO)/\((okN 32 x.iz.length/\ ∀y∈x.iz,y.ok))/\((okN 16 x.af.length/\ ∀y∈x.af,okS y))/\((okN 24 x.f9.length/\ ∀y∈x.f9,y.ok))
theorem ae.row_inj (a b:ae) (h:a.row=b.row):a=b:=by
 obtain⟨a0,a1,a2,a3,a4,a5⟩:=a;obtain⟨b0,b1,b2,b3,b4,b5⟩:=b
 simp only [ae.row,List.cons.injEq,V.i.injEq,V.s.injEq,V.b.injEq,V.sl.injEq,true_and,and_true,bc,ba,aZ,kf.map_inj,iC.map_inj,f5.map_inj] at h
 simp only [ae.mk.injEq]
 simp only [h,and_self]
theorem ae.map_inj {a b:List ae} :ah ae.row a=ah ae.row b↔a=b:=dA ae.row_inj
theorem ae.one (a0:Int) (a1:ByteArray) (a2:Int) (a3:List iC) (a4:List ByteArray) (a5:List f5): [([.i .i64 a0,.s a1,.i .i64 a2,.sl 2 (ah iC.row a3),.sl 1 (ah bY a4),.sl 2 (ah f5.row a5)]:List V)]=ah ae.row [(⟨a0,a1,a2,a3,a4,a5⟩:ae)]:=rfl
theorem ae.cons (a0:Int) (a1:ByteArray) (a2:Int) (a3:List iC) (a4:List ByteArray) (a5:List f5) (l:List ae):([.i .i64 a0,.s a1,.i .i64 a2,.sl 2 (ah iC.row a3),.sl 1 (ah bY a4),.sl 2 (ah f5.row a5)]:List V)::ah ae.row l=ah ae.row ((⟨a0,a1,a2,a3,a4,a5⟩:ae)::l):=rfl
theorem ae.set (a0:Int) (a1:ByteArray) (a2:Int) (a3:List iC) (a4:List ByteArray) (a5:List f5) (l:List ae) (i:Int):(ah ae.row l).set i.toNat ([.i .i64 a0,.s a1,.i .i64 a2,.sl 2 (ah iC.row a3),.sl 1 (ah bY a4),.sl 2 (ah f5.row a5)]:List V)=ah ae.row (wE l i (⟨a0,a1,a2,a3,a4,a5⟩:ae)):=dj ae.row l _ (⟨a0,a1,a2,a3,a4,a5⟩:ae)
structure gi where
 jm:ByteArray
 jt:ae
 jX:Int
def gi.row (x:gi):List V:=[.s x.jm,.i .i64 x.jt.e5,.s x.jt.iq,.i .i64 x.jt.iO,.sl 2 (ah iC.row x.jt.iz),.sl 1 (ah bY x.jt.af),.sl 2 (ah f5.row x.jt.f9),.i .i64 x.jX]
def gi.d (x:gi):D:=.agg [.v (.s x.jm),.v (.i .i64 x.jt.e5),.v (.s x.jt.iq),.v (.i .i64 x.jt.iO),.v (.sl 2 (ah iC.row x.jt.iz)),.v (.sl 1 (ah bY x.jt.af)),.v (.sl 2 (ah f5.row x.jt.f9)),.v (.i .i64 x.jX)]
def gi.ok (x:gi):Prop:=(okS x.jm)/\(x.jt.ok)/\(okI x.jX)
theorem gi.row_inj (a b:gi) (h:a.row=b.row):a=b:=by
 obtain⟨a0,⟨a1,a2,a3,a4,a5,a6⟩,a7⟩:=a;obtain⟨b0,⟨b1,b2,b3,b4,b5,b6⟩,b7⟩:=b
 simp only [gi.row,List.cons.injEq,V.i.injEq,V.s.injEq,V.b.injEq,V.sl.injEq,true_and,and_true,bc,ba,aZ,kf.map_inj,iC.map_inj,f5.map_inj] at h
 simp only [ae.mk.injEq,gi.mk.injEq]
 simp only [h,and_self]
theorem gi.map_inj {a b:List gi} :ah gi.row a=ah gi.row b↔a=b:=dA gi.row_inj
theorem gi.one (a0:ByteArray) (a1:Int) (a2:ByteArray) (a3:Int) (a4:List iC) (a5:List ByteArray) (a6:List f5) (a7:Int): [([.s a0,.i .i64 a1,.s a2,.i .i64 a3,.sl 2 (ah iC.row a4),.sl 1 (ah bY a5),.sl 2 (ah f5.row a6),.i .i64 a7]:List V)]=ah gi.row [(⟨a0,⟨a1,a2,a3,a4,a5,a6⟩,a7⟩:gi)]:=rfl
theorem gi.cons (a0:ByteArray) (a1:Int) (a2:ByteArray) (a3:Int) (a4:List iC) (a5:List ByteArray) (a6:List f5) (a7:Int) (l:List gi):([.s a0,.i .i64 a1,.s a2,.i .i64 a3,.sl 2 (ah iC.row a4),.sl 1 (ah bY a5),.sl 2 (ah f5.row a6),.i .i64 a7]:List V)::ah gi.row l=ah gi.row ((⟨a0,⟨a1,a2,a3,a4,a5,a6⟩,a7⟩:gi)::l):=rfl
theorem gi.set (a0:ByteArray) (a1:Int) (a2:ByteArray) (a3:Int) (a4:List iC) (a5:List ByteArray) (a6:List f5) (a7:Int) (l:List gi) (i:Int):(ah gi.row l).set i.toNat ([.s a0,.i .i64 a1,.s a2,.i .i64 a3,.sl 2 (ah iC.row a4),.sl 1 (ah bY a5),.sl 2 (ah f5.row a6),.i .i64 a7]:List V)=ah gi.row (wE l i (⟨a0,⟨a1,a2,a3,a4,a5,a6⟩,a7⟩:gi)):=dj gi.row l _ (⟨a0,⟨a1,a2,a3,a4,a5,a6⟩,a7⟩:gi)
structure iJ where
 iS:Int
 f6:List gi
def iJ.row (x:iJ):List V:=[.i .i64 x.iS,.sl 8 (ah gi.row x.f6)]
def iJ.d (x:iJ):D:=.agg [.v (.i .i64 x.iS),.v (.sl 8 (ah gi.row x.f6))]
def iJ.ok (x:iJ):Prop:=(okI x.iS)/\((okN 128 x.f6.length/\ ∀y∈x.f6,y.ok))
theorem iJ.row_inj (a b:iJ) (h:a.row=b.row):a=b:=by
 obtain⟨a0,a1⟩:=a;obtain⟨b0,b1⟩:=b
 simp only [iJ.row,List.cons.injEq,V.i.injEq,V.s.injEq,V.b.injEq,V.sl.injEq,true_and,and_true,bc,ba,aZ,kf.map_inj,iC.map_inj,f5.map_inj,ae.map_inj,gi.map_inj] at h
 simp only [iJ.mk.injEq]
 simp only [h,and_self]
theorem iJ.map_inj {a b:List iJ} :ah iJ.row a=ah iJ.row b↔a=b:=dA iJ.row_inj
theorem iJ.one (a0:Int) (a1:List gi): [([.i .i64 a0,.sl 8 (ah gi.row a1)]:List V)]=ah iJ.row [(⟨a0,a1⟩:iJ)]:=rfl
theorem iJ.cons (a0:Int) (a1:List gi) (l:List iJ):([.i .i64 a0,.sl 8 (ah gi.row a1)]:List V)::ah iJ.row l=ah iJ.row ((⟨a0,a1⟩:iJ)::l):=rfl
theorem iJ.set (a0:Int) (a1:List gi) (l:List iJ) (i:Int):(ah iJ.row l).set i.toNat ([.i .i64 a0,.sl 8 (ah gi.row a1)]:List V)=ah iJ.row (wE l i (⟨a0,a1⟩:iJ)):=dj iJ.row l _ (⟨a0,a1⟩:iJ)
structure iT where
 j9:Int
 iq:ByteArray
 fN:Int
 jG:List ByteArray
def iT.row (x:iT):List V:=[.i .i64 x.j9,.s x.iq,.i .i64 x.fN,.sl 1 (ah bY x.jG)]
def iT.d (x:iT):D:=.agg [.v (.i .i64 x.j9),.v (.s x.iq),.v (.i .i64 x.fN),.v (.sl 1 (ah bY x.jG))]
def iT.ok (x:iT):Prop:=(okI x.j9)/\(okS x.iq)/\(okI x.fN)/\((okN 16 x.jG.length/\ ∀y∈x.jG,okS y))
theorem iT.row_inj (a b:iT) (h:a.row=b.row):a=b:=by
 obtain⟨a0,a1,a2,a3⟩:=a;obtain⟨b0,b1,b2,b3⟩:=b
 simp only [iT.row,List.cons.injEq,V.i.injEq,V.s.injEq,V.b.injEq,V.sl.injEq,true_and,and_true,bc,ba,aZ,kf.map_inj,iC.map_inj,f5.map_inj,ae.map_inj,gi.map_inj,iJ.map_inj] at h
 simp only [iT.mk.injEq]
 simp only [h,and_self]
theorem iT.map_inj {a b:List iT} :ah iT.row a=ah iT.row b↔a=b:=dA iT.row_inj
theorem iT.one (a0:Int) (a1:ByteArray) (a2:Int) (a3:List ByteArray): [([.i .i64 a0,.s a1,.i .i64 a2,.sl 1 (ah bY a3)]:List V)]=ah iT.row [(⟨a0,a1,a2,a3⟩:iT)]:=rfl
theorem iT.cons (a0:Int) (a1:ByteArray) (a2:Int) (a3:List ByteArray) (l:List iT):([.i .i64 a0,.s a1,.i .i64 a2,.sl 1 (ah bY a3)]:List V)::ah iT.row l=ah iT.row ((⟨a0,a1,a2,a3⟩:iT)::l):=rfl
theorem iT.set (a0:Int) (a1:ByteArray) (a2:Int) (a3:List ByteArray) (l:List iT) (i:Int):(ah iT.row l).set i.toNat ([.i .i64 a0,.s a1,.i .i64 a2,.sl 1 (ah bY a3)]:List V)=ah iT.row (wE l i (⟨a0,a1,a2,a3⟩:iT)):=dj iT.row l _ (⟨a0,a1,a2,a3⟩:iT)
structure cc where
 fId:Int
 jQ:Int
 iZ:Int
 i5:iT
def cc.row (x:cc):List V:=[.i .i64 x.fId,.i .i64 x.jQ,.i .i64 x.iZ,.i .i64 x.i5.j9,.s x.i5.iq,.i .i64 x.i5.fN,.sl 1 (ah bY x.i5.jG)]
def cc.d (x:cc):D:=.agg [.v (.i .i64 x.fId),.v (.i .i64 x.jQ),.v (.i .i64 x.iZ),.v (.i .i64 x.i5.j9),.v (.s x.i5.iq),.v (.i .i64 x.i5.fN),.v (.sl 1 (ah bY x.i5.jG))]
def cc.ok (x:cc):Prop:=(okI x.fId)/\(okI x.jQ)/\(okI x.iZ)/\(x.i5.ok)
theorem cc.row_inj (a b:cc) (h:a.row=b.row):a=b:=by
 obtain⟨a0,a1,a2,⟨a3,a4,a5,a6⟩⟩:=a;obtain⟨b0,b1,b2,⟨b3,b4,b5,b6⟩⟩:=b
 simp only [cc.row,List.cons.injEq,V.i.injEq,V.s.injEq,V.b.injEq,V.sl.injEq,true_and,and_true,bc,ba,aZ,kf.map_inj,iC.map_inj,f5.map_inj,ae.map_inj,gi.map_inj,iJ.map_inj] at h
 simp only [iT.mk.injEq,cc.mk.injEq]
 simp only [h,and_self]
theorem cc.map_inj {a b:List cc} :ah cc.row a=ah cc.row b↔a=b:=dA cc.row_inj
theorem cc.one (a0:Int) (a1:Int) (a2:Int) (a3:Int) (a4:ByteArray) (a5:Int) (a6:List ByteArray): [([.i .i64 a0,.i .i64 a1,.i .i64 a2,.i .i64 a3,.s a4,.i .i64 a5,.sl 1 (ah bY a6)]:List V)]=ah cc.row [(⟨a0,a1,a2,⟨a3,a4,a5,a6⟩⟩:cc)]:=rfl
theorem cc.cons (a0:Int) (a1:Int) (a2:Int) (a3:Int) (a4:ByteArray) (a5:Int) (a6:List ByteArray) (l:List cc):([.i .i64 a0,.i .i64 a1,.i .i64 a2,.i .i64 a3,.s a4,.i .i64 a5,.sl 1 (ah bY a6)]:List V)::ah cc.row l=ah cc.row ((⟨a0,a1,a2,⟨a3,a4,a5,a6⟩⟩:cc)::l):=rfl
theorem cc.set (a0:Int) (a1:Int) (a2:Int) (a3:Int) (a4:ByteArray) (a5:Int) (a6:List ByteArray) (l:List cc) (i:Int):(ah cc.row l).set i.toNat ([.i .i64 a0,.i .i64 a1,.i .i64 a2,.i .i64 a3,.s a4,.i .i64 a5,.sl 1 (ah bY a6)]:List V)=ah cc.row (wE l i (⟨a0,a1,a2,⟨a3,a4,a5,a6⟩⟩:cc)):=dj cc.row l _ (⟨a0,a1,a2,⟨a3,a4,a5,a6⟩⟩:cc)
structure ad where
 e7:iJ
 iI:Int
 cO:List cc
def ad.row (x:ad):List V:=[.i .i64 x.e7.iS,.sl 8 (ah gi.row x.e7.f6),.i .i64 x.iI,.sl 7 (ah cc.row x.cO)]
def ad.d (x:ad):D:=.agg [.v (.i .i64 x.e7.iS),.v (.sl 8 (ah gi.row x.e7.f6)),.v (.i .i64 x.iI),.v (.sl 7 (ah cc.row x.cO))]
def ad.ok (x:ad):Prop:=(x.e7.ok)/\(okI x.iI)/\((okN 80 x.cO.length/\ ∀y∈x.cO,y.ok))
theorem ad.row_inj (a b:ad) (h:a.row=b.row):a=b:=by
 obtain⟨⟨a0,a1⟩,a2,a3⟩:=a;obtain⟨⟨b0,b1⟩,b2,b3⟩:=b
 simp only [ad.row,List.cons.injEq,V.i.injEq,V.s.injEq,V.b.injEq,V.sl.injEq,true_and,and_true,bc,ba,aZ,kf.map_inj,iC.map_inj,f5.map_inj,ae.map_inj,gi.map_inj,iT.map_inj,cc.map_inj] at h
 simp only [iJ.mk.injEq,ad.mk.injEq]
 simp only [h,and_self]
theorem ad.map_inj {a b:List ad} :ah ad.row a=ah ad.row b↔a=b:=dA ad.row_inj
theorem ad.one (a0:Int) (a1:List gi) (a2:Int) (a3:List cc): [([.i .i64 a0,.sl 8 (ah gi.row a1),.i .i64 a2,.sl 7 (ah cc.row a3)]:List V)]=ah ad.row [(⟨⟨a0,a1⟩,a2,a3⟩:ad)]:=rfl
theorem ad.cons (a0:Int) (a1:List gi) (a2:Int) (a3:List cc) (l:List ad):([.i .i64 a0,.sl 8 (ah gi.row a1),.i .i64 a2,.sl 7 (ah cc.row a3)]:List V)::ah ad.row l=ah ad.row ((⟨⟨a0,a1⟩,a2,a3⟩:ad)::l):=rfl
theorem ad.set (a0:Int) (a1:List gi) (a2:Int) (a3:List cc) (l:List ad) (i:Int):(ah ad.row l).set i.toNat ([.i .i64 a0,.sl 8 (ah gi.row a1),.i .i64 a2,.sl 7 (ah cc.row a3)]:List V)=ah ad.row (wE l i (⟨⟨a0,a1⟩,a2,a3⟩:ad)):=dj ad.row l _ (⟨⟨a0,a1⟩,a2,a3⟩:ad)
structure i4 where
 iB:Int
 iK:Int
 iy:ad
def i4.row (x:i4):List V:=[.i .i64 x.iB,.i .i64 x.iK,.i .i64 x.iy.e7.iS,.sl 8 (ah gi.row x.iy.e7.f6),.i .i64 x.iy.iI,.sl 7 (ah cc.row x.iy.cO)]
def i4.d (x:i4):D:=.agg [.v (.i .i64 x.iB),.v (.i .i64 x.iK),.v (.i .i64 x.iy.e7.iS),.v (.sl 8 (ah gi.row x.iy.e7.f6)),.v (.i .i64 x.iy.iI),.v (.sl 7 (ah cc.row x.iy.cO))]
def i4.ok (x:i4):Prop:=(okI x.iB)/\(okI x.iK)/\(x.iy.ok)
theorem i4.row_inj (a b:i4) (h:a.row=b.row):a=b:=by
 obtain⟨a0,a1,⟨⟨a2,a3⟩,a4,a5⟩⟩:=a;obtain⟨b0,b1,⟨⟨b2,b3⟩,b4,b5⟩⟩:=b
 simp only [i4.row,List.cons.injEq,V.i.injEq,V.s.injEq,V.b.injEq,V.sl.injEq,true_and,and_true,bc,ba,aZ,kf.map_inj,iC.map_inj,f5.map_inj,ae.map_inj,gi.map_inj,iT.map_inj,cc.map_inj] at h
 simp only [iJ.mk.injEq,ad.mk.injEq,i4.mk.injEq]
 simp only [h,and_self]
theorem i4.map_inj {a b:List i4} :ah i4.row a=ah i4.row b↔a=b:=dA i4.row_inj
theorem i4.one (a0:Int) (a1:Int) (a2:Int) (a3:List gi) (a4:Int) (a5:List cc): [([.i .i64 a0,.i .i64 a1,.i .i64 a2,.sl 8 (ah gi.row a3),.i .i64 a4,.sl 7 (ah cc.row a5)]:List V)]=ah i4.row [(⟨a0,a1,⟨⟨a2,a3⟩,a4,a5⟩⟩:i4)]:=rfl
theorem i4.cons (a0:Int) (a1:Int) (a2:Int) (a3:List gi) (a4:Int) (a5:List cc) (l:List i4):([.i .i64 a0,.i .i64 a1,.i .i64 a2,.sl 8 (ah gi.row a3),.i .i64 a4,.sl 7 (ah cc.row a5)]:List V)::ah i4.row l=ah i4.row ((⟨a0,a1,⟨⟨a2,a3⟩,a4,a5⟩⟩:i4)::l):=rfl
theorem i4.set (a0:Int) (a1:Int) (a2:Int) (a3:List gi) (a4:Int) (a5:List cc) (l:List i4) (i:Int):(ah i4.row l).set i.toNat ([.i .i64 a0,.i .i64 a1,.i .i64 a2,.sl 8 (ah gi.row a3),.i .i64 a4,.sl 7 (ah cc.row a5)]:List V)=ah i4.row (wE l i (⟨a0,a1,⟨⟨a2,a3⟩,a4,a5⟩⟩:i4)):=dj i4.row l _ (⟨a0,a1,⟨⟨a2,a3⟩,a4,a5⟩⟩:i4)
structure iA where
 e5:Int
 jm:ByteArray
 iN:ByteArray
 iq:ByteArray
 fN:Int
def iA.row (x:iA):List V:=[.i .i64 x.e5,.s x.jm,.s x.iN,.s x.iq,.i .i64 x.fN]
def iA.d (x:iA):D:=.agg [.v (.i .i64 x.e5),.v (.s x.jm),.v (.s x.iN),.v (.s x.iq),.v (.i .i64 x.fN)]
def iA.ok (x:iA):Prop:=(okI x.e5)/\(okS x.jm)/\(okS x.iN)/\(okS x.iq)/\(okI x.fN)
theorem iA.row_inj (a b:iA) (h:a.row=b.row):a=b:=by
 obtain⟨a0,a1,a2,a3,a4⟩:=a;obtain⟨b0,b1,b2,b3,b4⟩:=b
 simp only [iA.row,List.cons.injEq,V.i.injEq,V.s.injEq,V.b.injEq,V.sl.injEq,true_and,and_true,bc,ba,aZ,kf.map_inj,iC.map_inj,f5.map_inj,ae.map_inj,gi.map_inj,iJ.map_inj,iT.map_inj,cc.map_inj,ad.map_inj,i4.map_inj] at h
 simp only [iA.mk.injEq]
 simp only [h,and_self]
theorem iA.map_inj {a b:List iA} :ah iA.row a=ah iA.row b↔a=b:=dA iA.row_inj
theorem iA.one (a0:Int) (a1:ByteArray) (a2:ByteArray) (a3:ByteArray) (a4:Int): [([.i .i64 a0,.s a1,.s a2,.s a3,.i .i64 a4]:List V)]=ah iA.row [(⟨a0,a1,a2,a3,a4⟩:iA)]:=rfl
theorem iA.cons (a0:Int) (a1:ByteArray) (a2:ByteArray) (a3:ByteArray) (a4:Int) (l:List iA):([.i .i64 a0,.s a1,.s a2,.s a3,.i .i64 a4]:List V)::ah iA.row l=ah iA.row ((⟨a0,a1,a2,a3,a4⟩:iA)::l):=rfl
theorem iA.set (a0:Int) (a1:ByteArray) (a2:ByteArray) (a3:ByteArray) (a4:Int) (l:List iA) (i:Int):(ah iA.row l).set i.toNat ([.i .i64 a0,.s a1,.s a2,.s a3,.i .i64 a4]:List V)=ah iA.row (wE l i (⟨a0,a1,a2,a3,a4⟩:iA)):=dj iA.row l _ (⟨a0,a1,a2,a3,a4⟩:iA)
theorem iA.flat (l:List iA):(ah iA.row l).all gh=true:=ev l (fun _=>rfl)
structure jM where
 jv:Int
 jQ:Int
 ir:iA
def jM.row (x:jM):List V:=[.i .i64 x.jv,.i .i64 x.jQ,.i .i64 x.ir.e5,.s x.ir.jm,.s x.ir.iN,.s x.ir.iq,.i .i64 x.ir.fN]
def jM.d (x:jM):D:=.agg [.v (.i .i64 x.jv),.v (.i .i64 x.jQ),.v (.i .i64 x.ir.e5),.v (.s x.ir.jm),.v (.s x.ir.iN),.v (.s x.ir.iq),.v (.i .i64 x.ir.fN)]
def jM.ok (x:jM):Prop:=(okI x.jv)/\(okI x.jQ)/\(x.ir.ok)
theorem jM.row_inj (a b:jM) (h:a.row=b.row):a=b:=by
 obtain⟨a0,a1,⟨a2,a3,a4,a5,a6⟩⟩:=a;obtain⟨b0,b1,⟨b2,b3,b4,b5,b6⟩⟩:=b
 simp only [jM.row,List.cons.injEq,V.i.injEq,V.s.injEq,V.b.injEq,V.sl.injEq,true_and,and_true,bc,ba,aZ,kf.map_inj,iC.map_inj,f5.map_inj,ae.map_inj,gi.map_inj,iJ.map_inj,iT.map_inj,cc.map_inj,ad.map_inj,i4.map_inj] at h
 simp only [iA.mk.injEq,jM.mk.injEq]
 simp only [h,and_self]
theorem jM.map_inj {a b:List jM} :ah jM.row a=ah jM.row b↔a=b:=dA jM.row_inj
theorem jM.one (a0:Int) (a1:Int) (a2:Int) (a3:ByteArray) (a4:ByteArray) (a5:ByteArray) (a6:Int): [([.i .i64 a0,.i .i64 a1,.i .i64 a2,.s a3,.s a4,.s a5,.i .i64 a6]:List V)]=ah jM.row [(⟨a0,a1,⟨a2,a3,a4,a5,a6⟩⟩:jM)]:=rfl
theorem jM.cons (a0:Int) (a1:Int) (a2:Int) (a3:ByteArray) (a4:ByteArray) (a5:ByteArray) (a6:Int) (l:List jM):([.i .i64 a0,.i .i64 a1,.i .i64 a2,.s a3,.s a4,.s a5,.i .i64 a6]:List V)::ah jM.row l=ah jM.row ((⟨a0,a1,⟨a2,a3,a4,a5,a6⟩⟩:jM)::l):=rfl
theorem jM.set (a0:Int) (a1:Int) (a2:Int) (a3:ByteArray) (a4:ByteArray) (a5:ByteArray) (a6:Int) (l:List jM) (i:Int):(ah jM.row l).set i.toNat ([.i .i64 a0,.i .i64 a1,.i .i64 a2,.s a3,.s a4,.s a5,.i .i64 a6]:List V)=ah jM.row (wE l i (⟨a0,a1,⟨a2,a3,a4,a5,a6⟩⟩:jM)):=dj jM.row l _ (⟨a0,a1,⟨a2,a3,a4,a5,a6⟩⟩:jM)
theorem jM.flat (l:List jM):(ah jM.row l).all gh=true:=ev l (fun _=>rfl)
structure iE where
 iK:Int
 iZ:Int
 wF:Bool
 iQ:jM
def iE.row (x:iE):List V:=[.i .i64 x.iK,.i .i64 x.iZ,.b x.wF,.i .i64 x.iQ.jv,.i .i64 x.iQ.jQ,.i .i64 x.iQ.ir.e5,.s x.iQ.ir.jm,.s x.iQ.ir.iN,.s x.iQ.ir.iq,.i .i64 x.iQ.ir.fN]
def iE.d (x:iE):D:=.agg [.v (.i .i64 x.iK),.v (.i .i64 x.iZ),.v (.b x.wF),.v (.i .i64 x.iQ.jv),.v (.i .i64 x.iQ.jQ),.v (.i .i64 x.iQ.ir.e5),.v (.s x.iQ.ir.jm),.v (.s x.iQ.ir.iN),.v (.s x.iQ.ir.iq),.v (.i .i64 x.iQ.ir.fN)]
def iE.ok (x:iE):Prop:=(okI x.iK)/\(okI x.iZ)/\(True)/\(x.iQ.ok)
theorem iE.row_inj (a b:iE) (h:a.row=b.row):a=b:=by
 obtain⟨a0,a1,a2,⟨a3,a4,⟨a5,a6,a7,a8,a9⟩⟩⟩:=a;obtain⟨b0,b1,b2,⟨b3,b4,⟨b5,b6,b7,b8,b9⟩⟩⟩:=b
 simp only [iE.row,List.cons.injEq,V.i.injEq,V.s.injEq,V.b.injEq,V.sl.injEq,true_and,and_true,bc,ba,aZ,kf.map_inj,iC.map_inj,f5.map_inj,ae.map_inj,gi.map_inj,iJ.map_inj,iT.map_inj,cc.map_inj,ad.map_inj,i4.map_inj] at h
 simp only [iA.mk.injEq,jM.mk.injEq,iE.mk.injEq]
 simp only [h,and_self]
theorem iE.map_inj {a b:List iE} :ah iE.row a=ah iE.row b↔a=b:=dA iE.row_inj
theorem iE.one (a0:Int) (a1:Int) (a2:Bool) (a3:Int) (a4:Int) (a5:Int) (a6:ByteArray) (a7:ByteArray) (a8:ByteArray) (a9:Int): [([.i .i64 a0,.i .i64 a1,.b a2,.i .i64 a3,.i .i64 a4,.i .i64 a5,.s a6,.s a7,.s a8,.i .i64 a9]:List V)]=ah iE.row [(⟨a0,a1,a2,⟨a3,a4,⟨a5,a6,a7,a8,a9⟩⟩⟩:iE)]:=rfl
theorem iE.cons (a0:Int) (a1:Int) (a2:Bool) (a3:Int) (a4:Int) (a5:Int) (a6:ByteArray) (a7:ByteArray) (a8:ByteArray) (a9:Int) (l:List iE):([.i .i64 a0,.i .i64 a1,.b a2,.i .i64 a3,.i .i64 a4,.i .i64 a5,.s a6,.s a7,.s a8,.i .i64 a9]:List V)::ah iE.row l=ah iE.row ((⟨a0,a1,a2,⟨a3,a4,⟨a5,a6,a7,a8,a9⟩⟩⟩:iE)::l):=rfl
theorem iE.set (a0:Int) (a1:Int) (a2:Bool) (a3:Int) (a4:Int) (a5:Int) (a6:ByteArray) (a7:ByteArray) (a8:ByteArray) (a9:Int) (l:List iE) (i:Int):(ah iE.row l).set i.toNat ([.i .i64 a0,.i .i64 a1,.b a2,.i .i64 a3,.i .i64 a4,.i .i64 a5,.s a6,.s a7,.s a8,.i .i64 a9]:List V)=ah iE.row (wE l i (⟨a0,a1,a2,⟨a3,a4,⟨a5,a6,a7,a8,a9⟩⟩⟩:iE)):=dj iE.row l _ (⟨a0,a1,a2,⟨a3,a4,⟨a5,a6,a7,a8,a9⟩⟩⟩:iE)
theorem iE.flat (l:List iE):(ah iE.row l).all gh=true:=ev l (fun _=>rfl)
structure iP where
 iD:Int
 iw:Int
 af:List iE
def iP.row (x:iP):List V:=[.i .i64 x.iD,.i .i64 x.iw,.sl 10 (ah iE.row x.af)]
def iP.d (x:iP):D:=.agg [.v (.i .i64 x.iD),.v (.i .i64 x.iw),.v (.sl 10 (ah iE.row x.af))]
def iP.ok (x:iP):Prop:=(okI x.iD)/\(okI x.iw)/\((okN 104 x.af.length/\ ∀y∈x.af,y.ok))
theorem iP.row_inj (a b:iP) (h:a.row=b.row):a=b:=by
 obtain⟨a0,a1,a2⟩:=a;obtain⟨b0,b1,b2⟩:=b
 simp only [iP.row,List.cons.injEq,V.i.injEq,V.s.injEq,V.b.injEq,V.sl.injEq,true_and,and_true,bc,ba,aZ,kf.map_inj,iC.map_inj,f5.map_inj,ae.map_inj,gi.map_inj,iJ.map_inj,iT.map_inj,cc.map_inj,ad.map_inj,i4.map_inj,iA.map_inj,jM.map_inj,iE.map_inj] at h
 simp only [iP.mk.injEq]
 simp only [h,and_self]
theorem iP.map_inj {a b:List iP} :ah iP.row a=ah iP.row b↔a=b:=dA iP.row_inj
theorem iP.one (a0:Int) (a1:Int) (a2:List iE): [([.i .i64 a0,.i .i64 a1,.sl 10 (ah iE.row a2)]:List V)]=ah iP.row [(⟨a0,a1,a2⟩:iP)]:=rfl
theorem iP.cons (a0:Int) (a1:Int) (a2:List iE) (l:List iP):([.i .i64 a0,.i .i64 a1,.sl 10 (ah iE.row a2)]:List V)::ah iP.row l=ah iP.row ((⟨a0,a1,a2⟩:iP)::l):=rfl
theorem iP.set (a0:Int) (a1:Int) (a2:List iE) (l:List iP) (i:Int):(ah iP.row l).set i.toNat ([.i .i64 a0,.i .i64 a1,.sl 10 (ah iE.row a2)]:List V)=ah iP.row (wE l i (⟨a0,a1,a2⟩:iP)):=dj iP.row l _ (⟨a0,a1,a2⟩:iP)
structure iL where
 iK:Int
 lS:Int
 iG:i4
 jh:iP
def iL.row (x:iL):List V:=[.i .i64 x.iK,.i .i64 x.lS,.i .i64 x.iG.iB,.i .i64 x.iG.iK,.i .i64 x.iG.iy.e7.iS,.sl 8 (ah gi.row x.iG.iy.e7.f6),.i .i64 x.iG.iy.iI,.sl 7 (ah cc.row x.iG.iy.cO),.i .i64 x.jh.iD,.i .i64 x.jh.iw,.sl 10 (ah iE.row x.jh.af)]
def iL.d (x:iL):D:=.agg [.v (.i .i64 x.iK),.v (.i .i64 x.lS),.v (.i .i64 x.iG.iB),.v (.i .i64 x.iG.iK),.v (.i .i64 x.iG.iy.e7.iS),.v (.sl 8 (ah gi.row x.iG.iy.e7.f6)),.v (.i .i64 x.iG.iy.iI),.v (.sl 7 (ah cc.row x.iG.iy.cO)),.v (.i .i64 x.jh.iD),.v (.i .i64 x.jh.iw),.v (.sl 10 (ah iE.row x.jh.af))]
def iL.ok (x:iL):Prop:=(okI x.iK)/\(okI x.lS)/\(x.iG.ok)/\(x.jh.ok)
theorem iL.row_inj (a b:iL) (h:a.row=b.row):a=b:=by
 obtain⟨a0,a1,⟨a2,a3,⟨⟨a4,a5⟩,a6,a7⟩⟩,⟨a8,a9,a10⟩⟩:=a;obtain⟨b0,b1,⟨b2,b3,⟨⟨b4,b5⟩,b6,b7⟩⟩,⟨b8,b9,b10⟩⟩:=b
 simp only [iL.row,List.cons.injEq,V.i.injEq,V.s.injEq,V.b.injEq,V.sl.injEq,true_and,and_true,bc,ba,aZ,kf.map_inj,iC.map_inj,f5.map_inj,ae.map_inj,gi.map_inj,iT.map_inj,cc.map_inj,iA.map_inj,jM.map_inj,iE.map_inj] at h
 simp only [iJ.mk.injEq,ad.mk.injEq,i4.mk.injEq,iP.mk.injEq,iL.mk.injEq]
 simp only [h,and_self]
theorem iL.map_inj {a b:List iL} :ah iL.row a=ah iL.row b↔a=b:=dA iL.row_inj
theorem iL.one (a0:Int) (a1:Int) (a2:Int) (a3:Int) (a4:Int) (a5:List gi) (a6:Int) (a7:List cc) (a8:Int) (a9:Int) (a10:List iE): [([.i .i64 a0,.i .i64 a1,.i .i64 a2,.i .i64 a3,.i .i64 a4,.sl 8 (ah gi.row a5),.i .i64 a6,.sl 7 (ah cc.row a7),.i .i64 a8,.i .i64 a9,.sl 10 (ah iE.row a10)]:List V)]=ah iL.row [(⟨a0,a1,⟨a2,a3,⟨⟨a4,a5⟩,a6,a7⟩⟩,⟨a8,a9,a10⟩⟩:iL)]:=rfl
theorem iL.cons (a0:Int) (a1:Int) (a2:Int) (a3:Int) (a4:Int) (a5:List gi) (a6:Int) (a7:List cc) (a8:Int) (a9:Int) (a10:List iE) (l:List iL):([.i .i64 a0,.i .i64 a1,.i .i64 a2,.i .i64 a3,.i .i64 a4,.sl 8 (ah gi.row a5),.i .i64 a6,.sl 7 (ah cc.row a7),.i .i64 a8,.i .i64 a9,.sl 10 (ah iE.row a10)]:List V)::ah iL.row l=ah iL.row ((⟨a0,a1,⟨a2,a3,⟨⟨a4,a5⟩,a6,a7⟩⟩,⟨a8,a9,a10⟩⟩:iL)::l):=rfl
theorem iL.set (a0:Int) (a1:Int) (a2:Int) (a3:Int) (a4:Int) (a5:List gi) (a6:Int) (a7:List cc) (a8:Int) (a9:Int) (a10:List iE) (l:List iL) (i:Int):(ah iL.row l).set i.toNat ([.i .i64 a0,.i .i64 a1,.i .i64 a2,.i .i64 a3,.i .i64 a4,.sl 8 (ah gi.row a5),.i .i64 a6,.sl 7 (ah cc.row a7),.i .i64 a8,.i .i64 a9,.sl 10 (ah iE.row a10)]:List V)=ah iL.row (wE l i (⟨a0,a1,⟨a2,a3,⟨⟨a4,a5⟩,a6,a7⟩⟩,⟨a8,a9,a10⟩⟩:iL)):=dj iL.row l _ (⟨a0,a1,⟨a2,a3,⟨⟨a4,a5⟩,a6,a7⟩⟩,⟨a8,a9,a10⟩⟩:iL)
structure bi where
 e5:Int
 iK:Int
 lS:Int
 iB:Int
 iR:iE
 iG:i4
def bi.row (x:bi):List V:=[.i .i64 x.e5,.i .i64 x.iK,.i .i64 x.lS,.i .i64 x.iB,.i .i64 x.iR.iK,.i .i64 x.iR.iZ,.b x.iR.wF,.i .i64 x.iR.iQ.jv,.i .i64 x.iR.iQ.jQ,.i .i64 x.iR.iQ.ir.e5,.s x.iR.iQ.ir.jm,.s x.iR.iQ.ir.iN,.s x.iR.iQ.ir.iq,.i .i64 x.iR.iQ.ir.fN,.i .i64 x.iG.iB,.i .i64 x.iG.iK,.i .i64 x.iG.iy.e7.iS,.sl 8 (ah gi.row x.iG.iy.e7.f6),.i .i64 x.iG.iy.iI,.sl 7 (ah cc.row x.iG.iy.cO)]
def bi.d (x:bi):D:=.agg [.v (.i .i64 x.e5),.v (.i .i64 x.iK),.v (.i .i64 x.lS),.v (.i .i64 x.iB),.v (.i .i64 x.iR.iK),.v (.i .i64 x.iR.iZ),.v (.b x.iR.wF),.v (.i .i64 x.iR.iQ.jv),.v (.i .i64 x.iR.iQ.jQ),.v (.i .i64 x.iR.iQ.ir.e5),.v (.s x.iR.iQ.ir.jm),.v (.s x.iR.iQ.ir.iN),.v (.s x.iR.iQ.ir.iq),.v (.i .i64 x.iR.iQ.ir.fN),.v (.i .i64 x.iG.iB),.v (.i .i64 x.iG.iK),.v (.i .i64 x.iG.iy.e7.iS),.v (.sl 8 (ah gi.row x.iG.iy.e7.f6)),.v (.i .i64 x.iG.iy.iI),.v (.sl 7 (ah cc.row x.iG.iy.cO))]
def bi.ok (x:bi):Prop:=(okI x.e5)/\(okI x.iK)/\(okI x.lS)/\(okI x.iB)/\(x.iR.ok)/\(x.iG.ok)
theorem bi.row_inj (a b:bi) (h:a.row=b.row):a=b:=by
 obtain⟨a0,a1,a2,a3,⟨a4,a5,a6,⟨a7,a8,⟨a9,a10,a11,a12,a13⟩⟩⟩,⟨a14,a15,⟨⟨a16,a17⟩,a18,a19⟩⟩⟩:=a;obtain⟨b0,b1,b2,b3,⟨b4,b5,b6,⟨b7,b8,⟨b9,b10,b11,b12,b13⟩⟩⟩,⟨b14,b15,⟨⟨b16,b17⟩,b18,b19⟩⟩⟩:=b
 simp only [bi.row,List.cons.injEq,V.i.injEq,V.s.injEq,V.b.injEq,V.sl.injEq,true_and,and_true,bc,ba,aZ,kf.map_inj,iC.map_inj,f5.map_inj,ae.map_inj,gi.map_inj,iT.map_inj,cc.map_inj,iP.map_inj,iL.map_inj] at h
 simp only [iA.mk.injEq,jM.mk.injEq,iE.mk.injEq,iJ.mk.injEq,ad.mk.injEq,i4.mk.injEq,bi.mk.injEq]
 simp only [h,and_self]
theorem bi.map_inj {a b:List bi} :ah bi.row a=ah bi.row b↔a=b:=dA bi.row_inj
theorem bi.one (a0:Int) (a1:Int) (a2:Int) (a3:Int) (a4:Int) (a5:Int) (a6:Bool) (a7:Int) (a8:Int) (a9:Int) (a10:ByteArray) (a11:ByteArray) (a12:ByteArray) (a13:Int) (a14:Int) (a15:Int) (a16:Int) (a17:List gi) (a18:Int) (a19:List cc): [([.i .i64 a0,.i .i64 a1,.i .i64 a2,.i .i64 a3,.i .i64 a4,.i .i64 a5,.b a6,.i .i64 a7,.i .i64 a8,.i .i64 a9,.s a10,.s a11,.s a12,.i .i64 a13,.i .i64 a14,.i .i64 a15,.i .i64 a16,.sl 8 (ah gi.row a17),.i .i64 a18,.sl 7 (ah cc.row a19)]:List V)]=ah bi.row [(⟨a0,a1,a2,a3,⟨a4,a5,a6,⟨a7,a8,⟨a9,a10,a11,a12,a13⟩⟩⟩,⟨a14,a15,⟨⟨a16,a17⟩,a18,a19⟩⟩⟩:bi)]:=rfl
theorem bi.cons (a0:Int) (a1:Int) (a2:Int) (a3:Int) (a4:Int) (a5:Int) (a6:Bool) (a7:Int) (a8:Int) (a9:Int) (a10:ByteArray) (a11:ByteArray) (a12:ByteArray) (a13:Int) (a14:Int) (a15:Int) (a16:Int) (a17:List gi) (a18:Int) (a19:List cc) (l:List bi):([.i .i64 a0,.i .i64 a1,.i .i64 a2,.i .i64 a3,.i .i64 a4,.i .i64 a5,.b a6,.i .i64 a7,.i .i64 a8,.i .i64 a9,.s a10,.s a11,.s a12,.i .i64 a13,.i .i64 a14,.i .i64 a15,.i .i64 a16,.sl 8 (ah gi.row a17),.i .i64 a18,.sl 7 (ah cc.row a19)]:List V)::ah bi.row l=ah bi.row ((⟨a0,a1,a2,a3,⟨a4,a5,a6,⟨a7,a8,⟨a9,a10,a11,a12,a13⟩⟩⟩,⟨a14,a15,⟨⟨a16,a17⟩,a18,a19⟩⟩⟩:bi)::l):=rfl
theorem bi.set (a0:Int) (a1:Int) (a2:Int) (a3:Int) (a4:Int) (a5:Int) (a6:Bool) (a7:Int) (a8:Int) (a9:Int) (a10:ByteArray) (a11:ByteArray) (a12:ByteArray) (a13:Int) (a14:Int) (a15:Int) (a16:Int) (a17:List gi) (a18:Int) (a19:List cc) (l:List bi) (i:Int):(ah bi.row l).set i.toNat ([.i .i64 a0,.i .i64 a1,.i .i64 a2,.i .i64 a3,.i .i64 a4,.i .i64 a5,.b a6,.i .i64 a7,.i .i64 a8,.i .i64 a9,.s a10,.s a11,.s a12,.i .i64 a13,.i .i64 a14,.i .i64 a15,.i .i64 a16,.sl 8 (ah gi.row a17),.i .i64 a18,.sl 7 (ah cc.row a19)]:List V)=ah bi.row (wE l i (⟨a0,a1,a2,a3,⟨a4,a5,a6,⟨a7,a8,⟨a9,a10,a11,a12,a13⟩⟩⟩,⟨a14,a15,⟨⟨a16,a17⟩,a18,a19⟩⟩⟩:bi)):=dj bi.row l _ (⟨a0,a1,a2,a3,⟨a4,a5,a6,⟨a7,a8,⟨a9,a10,a11,a12,a13⟩⟩⟩,⟨a14,a15,⟨⟨a16,a17⟩,a18,a19⟩⟩⟩:bi)
structure iu where
 fb:List Int
def iu.row (x:iu):List V:=[.sl 1 (ah cE x.fb)]
def iu.d (x:iu):D:=.agg [.v (.sl 1 (ah cE x.fb))]
def iu.ok (x:iu):Prop:=((okN 1 x.fb.length/\ ∀y∈x.fb,((IntKind.u8).min<=y/\y<=(IntKind.u8).max)))
theorem iu.row_inj (a b:iu) (h:a.row=b.row):a=b:=by
 obtain⟨a0⟩:=a;obtain⟨b0⟩:=b
 simp only [iu.row,List.cons.injEq,V.i.injEq,V.s.injEq,V.b.injEq,V.sl.injEq,true_and,and_true,bc,ba,aZ,kf.map_inj,iC.map_inj,f5.map_inj,ae.map_inj,gi.map_inj,iJ.map_inj,iT.map_inj,cc.map_inj,ad.map_inj,i4.map_inj,iA.map_inj,jM.map_inj,iE.map_inj,iP.map_inj,iL.map_inj,bi.map_inj] at h
 simp only [iu.mk.injEq]
 simp only [h,and_self]
theorem iu.map_inj {a b:List iu} :ah iu.row a=ah iu.row b↔a=b:=dA iu.row_inj
theorem iu.one (a0:List Int): [([.sl 1 (ah cE a0)]:List V)]=ah iu.row [(⟨a0⟩:iu)]:=rfl
theorem iu.cons (a0:List Int) (l:List iu):([.sl 1 (ah cE a0)]:List V)::ah iu.row l=ah iu.row ((⟨a0⟩:iu)::l):=rfl
theorem iu.set (a0:List Int) (l:List iu) (i:Int):(ah iu.row l).set i.toNat ([.sl 1 (ah cE a0)]:List V)=ah iu.row (wE l i (⟨a0⟩:iu)):=dj iu.row l _ (⟨a0⟩:iu)
structure f7 where
 frest:List Int
 fshort:Bool
def f7.row (x:f7):List V:=[.sl 1 (ah cE x.frest),.b x.fshort]
def f7.d (x:f7):D:=.agg [.v (.sl 1 (ah cE x.frest)),.v (.b x.fshort)]
def f7.ok (x:f7):Prop:=((okN 1 x.frest.length/\ ∀y∈x.frest,((IntKind.u8).min<=y/\y<=(IntKind.u8).max)))/\(True)
theorem f7.row_inj (a b:f7) (h:a.row=b.row):a=b:=by
 obtain⟨a0,a1⟩:=a;obtain⟨b0,b1⟩:=b
 simp only [f7.row,List.cons.injEq,V.i.injEq,V.s.injEq,V.b.injEq,V.sl.injEq,true_and,and_true,bc,ba,aZ,kf.map_inj,iC.map_inj,f5.map_inj,ae.map_inj,gi.map_inj,iJ.map_inj,iT.map_inj,cc.map_inj,ad.map_inj,i4.map_inj,iA.map_inj,jM.map_inj,iE.map_inj,iP.map_inj,iL.map_inj,bi.map_inj,iu.map_inj] at h
 simp only [f7.mk.injEq]
 simp only [h,and_self]
theorem f7.map_inj {a b:List f7} :ah f7.row a=ah f7.row b↔a=b:=dA f7.row_inj
theorem f7.one (a0:List Int) (a1:Bool): [([.sl 1 (ah cE a0),.b a1]:List V)]=ah f7.row [(⟨a0,a1⟩:f7)]:=rfl
theorem f7.cons (a0:List Int) (a1:Bool) (l:List f7):([.sl 1 (ah cE a0),.b a1]:List V)::ah f7.row l=ah f7.row ((⟨a0,a1⟩:f7)::l):=rfl
theorem f7.set (a0:List Int) (a1:Bool) (l:List f7) (i:Int):(ah f7.row l).set i.toNat ([.sl 1 (ah cE a0),.b a1]:List V)=ah f7.row (wE l i (⟨a0,a1⟩:f7)):=dj f7.row l _ (⟨a0,a1⟩:f7)
structure nj where
 fb:List Int
 fat:Int
def nj.row (x:nj):List V:=[.sl 1 (ah cE x.fb),.i .i64 x.fat]
def nj.d (x:nj):D:=.agg [.v (.sl 1 (ah cE x.fb)),.v (.i .i64 x.fat)]
def nj.ok (x:nj):Prop:=((okN 1 x.fb.length/\ ∀y∈x.fb,((IntKind.u8).min<=y/\y<=(IntKind.u8).max)))/\(okI x.fat)
theorem nj.row_inj (a b:nj) (h:a.row=b.row):a=b:=by
 obtain⟨a0,a1⟩:=a;obtain⟨b0,b1⟩:=b
 simp only [nj.row,List.cons.injEq,V.i.injEq,V.s.injEq,V.b.injEq,V.sl.injEq,true_and,and_true,bc,ba,aZ,kf.map_inj,iC.map_inj,f5.map_inj,ae.map_inj,gi.map_inj,iJ.map_inj,iT.map_inj,cc.map_inj,ad.map_inj,i4.map_inj,iA.map_inj,jM.map_inj,iE.map_inj,iP.map_inj,iL.map_inj,bi.map_inj,iu.map_inj,f7.map_inj] at h
 simp only [nj.mk.injEq]
 simp only [h,and_self]
theorem nj.map_inj {a b:List nj} :ah nj.row a=ah nj.row b↔a=b:=dA nj.row_inj
theorem nj.one (a0:List Int) (a1:Int): [([.sl 1 (ah cE a0),.i .i64 a1]:List V)]=ah nj.row [(⟨a0,a1⟩:nj)]:=rfl
theorem nj.cons (a0:List Int) (a1:Int) (l:List nj):([.sl 1 (ah cE a0),.i .i64 a1]:List V)::ah nj.row l=ah nj.row ((⟨a0,a1⟩:nj)::l):=rfl
theorem nj.set (a0:List Int) (a1:Int) (l:List nj) (i:Int):(ah nj.row l).set i.toNat ([.sl 1 (ah cE a0),.i .i64 a1]:List V)=ah nj.row (wE l i (⟨a0,a1⟩:nj)):=dj nj.row l _ (⟨a0,a1⟩:nj)
theorem iC.of146 {k:Nat} {r:List V} (h:AP Tryz.prog k 146 r): ∃x:iC,r=x.row/\x.ok:=by
 obtain⟨k0,h0⟩:=cZ Tryz.underlying146 h
 simp only [dR] at h0
 obtain⟨_,_,rfl,f0_0,_,_,rfl,f0_1,rfl⟩:=h0
 obtain⟨n1,rfl,o1⟩:=eb Tryz.underlying9 f0_0
 obtain⟨n2,rfl,o2⟩:=eb Tryz.underlying9 f0_1
 exact⟨⟨n1,n2⟩,rfl,⟨o1,o2⟩⟩
theorem f5.of148 {k:Nat} {r:List V} (h:AP Tryz.prog k 148 r): ∃x:f5,r=x.row/\x.ok:=by
 obtain⟨k0,h0⟩:=cZ Tryz.underlying148 h
 simp only [dR] at h0
 obtain⟨_,_,rfl,f0_0,_,_,rfl,f0_1,rfl⟩:=h0
 obtain⟨n1,rfl,o1⟩:=eb Tryz.underlying9 f0_0
 obtain⟨n2,rfl,o2⟩:=df Tryz.underlying3 f0_1
 exact⟨⟨n1,n2⟩,rfl,⟨o1,(dt o2)⟩⟩
theorem gi.of111 {k:Nat} {r:List V} (h:AP Tryz.prog k 111 r): ∃x:gi,r=x.row/\x.ok:=by
 obtain⟨k0,h0⟩:=cZ Tryz.underlying111 h
 simp only [dR] at h0
 obtain⟨_,_,rfl,f0_0,_,_,rfl,f0_1,_,_,rfl,f0_2,rfl⟩:=h0
 obtain⟨n1,rfl,o1⟩:=eb Tryz.underlying9 f0_0
 obtain⟨k2,h2⟩:=cZ Tryz.underlying109 f0_1
 simp only [dR] at h2
 obtain⟨_,_,rfl,f2_0,_,_,rfl,f2_1,_,_,rfl,f2_2,_,_,rfl,f2_3,_,_,rfl,f2_4,_,_,rfl,f2_5,rfl⟩:=h2
 obtain⟨n3,rfl,o3⟩:=df Tryz.underlying3 f2_0
 obtain⟨n4,rfl,o4⟩:=eb Tryz.underlying9 f2_1
 obtain⟨n5,rfl,o5⟩:=df Tryz.underlying3 f2_2
 obtain⟨l6,j6,rfl,o6,q6⟩:=dB (n:=2) (m:=32) Tryz.underlying105 (by kernel_rfl) (by kernel_rfl) f2_3
 obtain⟨n6,rfl,p6⟩:=dU (f:=iC.row) (ok:=fun y=>y.ok) (fun r hr=>iC.of146 (q6 r hr))
 rw [List.length_map] at o6
 obtain⟨l7,j7,rfl,o7,q7⟩:=dB (n:=1) (m:=16) Tryz.underlying106 (by kernel_rfl) (by kernel_rfl) f2_4
 obtain⟨n7,rfl,p7⟩:=dU (f:=bY) (ok:=fun y=>okS y) (fun r hr=>by obtain⟨s,h1,h2⟩:=eb Tryz.underlying9 (q7 r hr);exact⟨s,h1,h2⟩)
 rw [List.length_map] at o7
 obtain⟨l8,j8,rfl,o8,q8⟩:=dB (n:=2) (m:=24) Tryz.underlying107 (by kernel_rfl) (by kernel_rfl) f2_5
 obtain⟨n8,rfl,p8⟩:=dU (f:=f5.row) (ok:=fun y=>y.ok) (fun r hr=>f5.of148 (q8 r hr))
 rw [List.length_map] at o8
 obtain⟨n9,rfl,o9⟩:=df Tryz.underlying3 f0_2
 exact⟨⟨n1,⟨n3,n4,n5,n6,n7,n8⟩,n9⟩,rfl,⟨o1,⟨(dt o3),o4,(dt o5),⟨o6,p6⟩,⟨o7,p7⟩,⟨o8,p8⟩⟩,(dt o9)⟩⟩
theorem cc.of117 {k:Nat} {r:List V} (h:AP Tryz.prog k 117 r): ∃x:cc,r=x.row/\x.ok:=by
 obtain⟨k0,h0⟩:=cZ Tryz.underlying117 h
 simp only [dR] at h0
 obtain⟨_,_,rfl,f0_0,_,_,rfl,f0_1,_,_,rfl,f0_2,_,_,rfl,f0_3,rfl⟩:=h0
 obtain⟨n1,rfl,o1⟩:=df Tryz.underlying3 f0_0
 obtain⟨n2,rfl,o2⟩:=df Tryz.underlying3 f0_1
 obtain⟨n3,rfl,o3⟩:=df Tryz.underlying3 f0_2
 obtain⟨k4,h4⟩:=cZ Tryz.underlying115 f0_3
 simp only [dR] at h4
 obtain⟨_,_,rfl,f4_0,_,_,rfl,f4_1,_,_,rfl,f4_2,_,_,rfl,f4_3,rfl⟩:=h4
 obtain⟨n5,rfl,o5⟩:=df Tryz.underlying27 f4_0
 obtain⟨n6,rfl,o6⟩:=eb Tryz.underlying9 f4_1
 obtain⟨n7,rfl,o7⟩:=df Tryz.underlying3 f4_2
 obtain⟨l8,j8,rfl,o8,q8⟩:=dB (n:=1) (m:=16) Tryz.underlying106 (by kernel_rfl) (by kernel_rfl) f4_3
 obtain⟨n8,rfl,p8⟩:=dU (f:=bY) (ok:=fun y=>okS y) (fun r hr=>by obtain⟨s,h1,h2⟩:=eb Tryz.underlying9 (q8 r hr);exact⟨s,h1,h2⟩)
 rw [List.length_map] at o8
 exact⟨⟨n1,n2,n3,⟨n5,n6,n7,n8⟩⟩,rfl,⟨(dt o1),(dt o2),(dt o3),⟨(dt o5),o6,(dt o7),⟨o8,p8⟩⟩⟩⟩
theorem bi.of62 {k:Nat} {r:List V} (h:AP Tryz.prog k 62 r): ∃x:bi,r=x.row/\x.ok:=by
 obtain⟨k0,h0⟩:=cZ Tryz.underlying62 h
 simp only [dR] at h0
 obtain⟨_,_,rfl,f0_0,_,_,rfl,f0_1,_,_,rfl,f0_2,_,_,rfl,f0_3,_,_,rfl,f0_4,_,_,rfl,f0_5,rfl⟩:=h0
 obtain⟨n1,rfl,o1⟩:=df Tryz.underlying3 f0_0
 obtain⟨n2,rfl,o2⟩:=df Tryz.underlying3 f0_1
 obtain⟨n3,rfl,o3⟩:=df Tryz.underlying3 f0_2
 obtain⟨n4,rfl,o4⟩:=df Tryz.underlying3 f0_3
 obtain⟨k5,h5⟩:=cZ Tryz.underlying60 f0_4
 simp only [dR] at h5
 obtain⟨_,_,rfl,f5_0,_,_,rfl,f5_1,_,_,rfl,f5_2,_,_,rfl,f5_3,rfl⟩:=h5
 obtain⟨n6,rfl,o6⟩:=df Tryz.underlying3 f5_0
 obtain⟨n7,rfl,o7⟩:=df Tryz.underlying3 f5_1
 obtain⟨n8,rfl⟩:=UD Tryz.underlying4 f5_2
 obtain⟨k9,h9⟩:=cZ Tryz.underlying58 f5_3
 simp only [dR] at h9
 obtain⟨_,_,rfl,f9_0,_,_,rfl,f9_1,_,_,rfl,f9_2,rfl⟩:=h9
 obtain⟨n10,rfl,o10⟩:=df Tryz.underlying3 f9_0
 obtain⟨n11,rfl,o11⟩:=df Tryz.underlying3 f9_1
 obtain⟨k12,h12⟩:=cZ Tryz.underlying56 f9_2
 simp only [dR] at h12
 obtain⟨_,_,rfl,f12_0,_,_,rfl,f12_1,_,_,rfl,f12_2,_,_,rfl,f12_3,_,_,rfl,f12_4,rfl⟩:=h12
 obtain⟨n13,rfl,o13⟩:=df Tryz.underlying3 f12_0
 obtain⟨n14,rfl,o14⟩:=eb Tryz.underlying9 f12_1
 obtain⟨n15,rfl,o15⟩:=eb Tryz.underlying9 f12_2
 obtain⟨n16,rfl,o16⟩:=eb Tryz.underlying9 f12_3
 obtain⟨n17,rfl,o17⟩:=df Tryz.underlying3 f12_4
 obtain⟨k18,h18⟩:=cZ Tryz.underlying41 f0_5
 simp only [dR] at h18
 obtain⟨_,_,rfl,f18_0,_,_,rfl,f18_1,_,_,rfl,f18_2,rfl⟩:=h18
 obtain⟨n19,rfl,o19⟩:=df Tryz.underlying3 f18_0
 obtain⟨n20,rfl,o20⟩:=df Tryz.underlying3 f18_1
 obtain⟨k21,h21⟩:=cZ Tryz.underlying39 f18_2
 simp only [dR] at h21
 obtain⟨_,_,rfl,f21_0,_,_,rfl,f21_1,_,_,rfl,f21_2,rfl⟩:=h21
 obtain⟨k22,h22⟩:=cZ Tryz.underlying36 f21_0
 simp only [dR] at h22
 obtain⟨_,_,rfl,f22_0,_,_,rfl,f22_1,rfl⟩:=h22
 obtain⟨n23,rfl,o23⟩:=df Tryz.underlying3 f22_0
 obtain⟨l24,j24,rfl,o24,q24⟩:=dB (n:=8) (m:=128) Tryz.underlying34 (by kernel_rfl) (by kernel_rfl) f22_1
 obtain⟨n24,rfl,p24⟩:=dU (f:=gi.row) (ok:=fun y=>y.ok) (fun r hr=>gi.of111 (q24 r hr))
 rw [List.length_map] at o24
 obtain⟨n25,rfl,o25⟩:=df Tryz.underlying3 f21_1
 obtain⟨l26,j26,rfl,o26,q26⟩:=dB (n:=7) (m:=80) Tryz.underlying37 (by kernel_rfl) (by kernel_rfl) f21_2
 obtain⟨n26,rfl,p26⟩:=dU (f:=cc.row) (ok:=fun y=>y.ok) (fun r hr=>cc.of117 (q26 r hr))
 rw [List.length_map] at o26
 exact⟨⟨n1,n2,n3,n4,⟨n6,n7,n8,⟨n10,n11,⟨n13,n14,n15,n16,n17⟩⟩⟩,⟨n19,n20,⟨⟨n23,n24⟩,n25,n26⟩⟩⟩,rfl,⟨(dt o1),(dt o2),(dt o3),(dt o4),⟨(dt o6),(dt o7),trivial,⟨(dt o10),(dt o11),⟨(dt o13),o14,o15,o16,(dt o17)⟩⟩⟩,⟨(dt o19),(dt o20),⟨⟨(dt o23),⟨o24,p24⟩⟩,(dt o25),⟨o26,p26⟩⟩⟩⟩⟩
@[reducible] def cGRecord (x:bi):List D:=[.v (.i .i64 x.e5),.v (.i .i64 x.iK),.v (.i .i64 x.lS),.v (.i .i64 x.iB),.v (.i .i64 x.iR.iK),.v (.i .i64 x.iR.iZ),.v (.b x.iR.wF),.v (.i .i64 x.iR.iQ.jv),.v (.i .i64 x.iR.iQ.jQ),.v (.i .i64 x.iR.iQ.ir.e5),.v (.s x.iR.iQ.ir.jm),.v (.s x.iR.iQ.ir.iN),.v (.s x.iR.iQ.ir.iq),.v (.i .i64 x.iR.iQ.ir.fN),.v (.i .i64 x.iG.iB),.v (.i .i64 x.iG.iK),.v (.i .i64 x.iG.iy.e7.iS),.v (.sl 8 (ah gi.row x.iG.iy.e7.f6)),.v (.i .i64 x.iG.iy.iI),.v (.sl 7 (ah cc.row x.iG.iy.cO))]
@[reducible] def rGRecord (x:bi):List V:=[.i .i64 x.e5,.i .i64 x.iK,.i .i64 x.lS,.i .i64 x.iB,.i .i64 x.iR.iK,.i .i64 x.iR.iZ,.b x.iR.wF,.i .i64 x.iR.iQ.jv,.i .i64 x.iR.iQ.jQ,.i .i64 x.iR.iQ.ir.e5,.s x.iR.iQ.ir.jm,.s x.iR.iQ.ir.iN,.s x.iR.iQ.ir.iq,.i .i64 x.iR.iQ.ir.fN,.i .i64 x.iG.iB,.i .i64 x.iG.iK,.i .i64 x.iG.iy.e7.iS,.sl 8 (ah gi.row x.iG.iy.e7.f6),.i .i64 x.iG.iy.iI,.sl 7 (ah cc.row x.iG.iy.cO)]
@[reducible] def cGDisk (x:iL):List D:=[.v (.i .i64 x.iK),.v (.i .i64 x.lS),.v (.i .i64 x.iG.iB),.v (.i .i64 x.iG.iK),.v (.i .i64 x.iG.iy.e7.iS),.v (.sl 8 (ah gi.row x.iG.iy.e7.f6)),.v (.i .i64 x.iG.iy.iI),.v (.sl 7 (ah cc.row x.iG.iy.cO)),.v (.i .i64 x.jh.iD),.v (.i .i64 x.jh.iw),.v (.sl 10 (ah iE.row x.jh.af))]
@[reducible] def rGDisk (x:iL):List V:=[.i .i64 x.iK,.i .i64 x.lS,.i .i64 x.iG.iB,.i .i64 x.iG.iK,.i .i64 x.iG.iy.e7.iS,.sl 8 (ah gi.row x.iG.iy.e7.f6),.i .i64 x.iG.iy.iI,.sl 7 (ah cc.row x.iG.iy.cO),.i .i64 x.jh.iD,.i .i64 x.jh.iw,.sl 10 (ah iE.row x.jh.af)]
@[reducible] def cGItem (x:iE):List D:=[.v (.i .i64 x.iK),.v (.i .i64 x.iZ),.v (.b x.wF),.v (.i .i64 x.iQ.jv),.v (.i .i64 x.iQ.jQ),.v (.i .i64 x.iQ.ir.e5),.v (.s x.iQ.ir.jm),.v (.s x.iQ.ir.iN),.v (.s x.iQ.ir.iq),.v (.i .i64 x.iQ.ir.fN)]
@[reducible] def cGEntry (x:gi):List D:=[.v (.s x.jm),.v (.i .i64 x.jt.e5),.v (.s x.jt.iq),.v (.i .i64 x.jt.iO),.v (.sl 2 (ah iC.row x.jt.iz)),.v (.sl 1 (ah bY x.jt.af)),.v (.sl 2 (ah f5.row x.jt.f9)),.v (.i .i64 x.jX)]
@[reducible] def rGItem (x:iE):List V:=[.i .i64 x.iK,.i .i64 x.iZ,.b x.wF,.i .i64 x.iQ.jv,.i .i64 x.iQ.jQ,.i .i64 x.iQ.ir.e5,.s x.iQ.ir.jm,.s x.iQ.ir.iN,.s x.iQ.ir.iq,.i .i64 x.iQ.ir.fN]
@[reducible] def cGSnap (x:i4):List D:=[.v (.i .i64 x.iB),.v (.i .i64 x.iK),.v (.i .i64 x.iy.e7.iS),.v (.sl 8 (ah gi.row x.iy.e7.f6)),.v (.i .i64 x.iy.iI),.v (.sl 7 (ah cc.row x.iy.cO))]
@[reducible] def rGEntry (x:gi):List V:=[.s x.jm,.i .i64 x.jt.e5,.s x.jt.iq,.i .i64 x.jt.iO,.sl 2 (ah iC.row x.jt.iz),.sl 1 (ah bY x.jt.af),.sl 2 (ah f5.row x.jt.f9),.i .i64 x.jX]
@[reducible] def rGSnap (x:i4):List V:=[.i .i64 x.iB,.i .i64 x.iK,.i .i64 x.iy.e7.iS,.sl 8 (ah gi.row x.iy.e7.f6),.i .i64 x.iy.iI,.sl 7 (ah cc.row x.iy.cO)]
@[reducible] def cGCall (x:jM):List D:=[.v (.i .i64 x.jv),.v (.i .i64 x.jQ),.v (.i .i64 x.ir.e5),.v (.s x.ir.jm),.v (.s x.ir.iN),.v (.s x.ir.iq),.v (.i .i64 x.ir.fN)]
@[reducible] def cGClient (x:cc):List D:=[.v (.i .i64 x.fId),.v (.i .i64 x.jQ),.v (.i .i64 x.iZ),.v (.i .i64 x.i5.j9),.v (.s x.i5.iq),.v (.i .i64 x.i5.fN),.v (.sl 1 (ah bY x.i5.jG))]
@[reducible] def cGValue (x:ae):List D:=[.v (.i .i64 x.e5),.v (.s x.iq),.v (.i .i64 x.iO),.v (.sl 2 (ah iC.row x.iz)),.v (.sl 1 (ah bY x.af)),.v (.sl 2 (ah f5.row x.f9))]
@[reducible] def rGClient (x:cc):List V:=[.i .i64 x.fId,.i .i64 x.jQ,.i .i64 x.iZ,.i .i64 x.i5.j9,.s x.i5.iq,.i .i64 x.i5.fN,.sl 1 (ah bY x.i5.jG)]
@[reducible] def rGValue (x:ae):List V:=[.i .i64 x.e5,.s x.iq,.i .i64 x.iO,.sl 2 (ah iC.row x.iz),.sl 1 (ah bY x.af),.sl 2 (ah f5.row x.f9)]
@[reducible] def cGMachine (x:ad):List D:=[.v (.i .i64 x.e7.iS),.v (.sl 8 (ah gi.row x.e7.f6)),.v (.i .i64 x.iI),.v (.sl 7 (ah cc.row x.cO))]
@[reducible] def rGMachine (x:ad):List V:=[.i .i64 x.e7.iS,.sl 8 (ah gi.row x.e7.f6),.i .i64 x.iI,.sl 7 (ah cc.row x.cO)]
@[reducible] def cGCommand (x:iA):List D:=[.v (.i .i64 x.e5),.v (.s x.jm),.v (.s x.iN),.v (.s x.iq),.v (.i .i64 x.fN)]
@[reducible] def cGReply (x:iT):List D:=[.v (.i .i64 x.j9),.v (.s x.iq),.v (.i .i64 x.fN),.v (.sl 1 (ah bY x.jG))]
@[reducible] def cGLog (x:iP):List D:=[.v (.i .i64 x.iD),.v (.i .i64 x.iw),.v (.sl 10 (ah iE.row x.af))]
@[reducible] def rGLog (x:iP):List V:=[.i .i64 x.iD,.i .i64 x.iw,.sl 10 (ah iE.row x.af)]
@[reducible] def rGReply (x:iT):List V:=[.i .i64 x.j9,.s x.iq,.i .i64 x.fN,.sl 1 (ah bY x.jG)]
@[reducible] def rGCommand (x:iA):List V:=[.i .i64 x.e5,.s x.jm,.s x.iN,.s x.iq,.i .i64 x.fN]
@[reducible] def cGStore (x:iJ):List D:=[.v (.i .i64 x.iS),.v (.sl 8 (ah gi.row x.f6))]
@[reducible] def rGStore (x:iJ):List V:=[.i .i64 x.iS,.sl 8 (ah gi.row x.f6)]
@[reducible] def cGreader (x:f7):List D:=[.v (.sl 1 (ah cE x.frest)),.v (.b x.fshort)]
@[reducible] def cGScore (x:f5):List D:=[.v (.s x.i6),.v (.i .i64 x.fN)]
@[reducible] def cGPair (x:iC):List D:=[.v (.s x.iN),.v (.s x.iq)]
@[reducible] def rGScore (x:f5):List V:=[.s x.i6,.i .i64 x.fN]
@[reducible] def rGPair (x:iC):List V:=[.s x.iN,.s x.iq]
end Go.Proofs.YtgcglmoogaldbaaGreat
