/- Part of the proof by the machine Mx: the types (WTy). -/
import Derived.Test.YtgcglmoogaldbaaGreatMxFour
import Derived.Test.YtgcglmoogaldbaaGreatTyTab
set_option linter.unusedSimpArgs false
set_option linter.unusedVariables false
set_option linter.constructorNameAsVariable false
set_option linter.unnecessarySimpa false
namespace Go.Proofs.YtgcglmoogaldbaaGreat
open Go Go.Mx Go.Proofs
noncomputable section
structure iY where
 iW:List Int
 iP:Int
def iY.row (x:iY):List V:=[.sl 1 (ah cE x.iW),.i .i64 x.iP]
def iY.d (x:iY):D:=.agg [.v (.sl 1 (ah cE x.iW)),.v (.i .i64 x.iP)]
def iY.ok (x:iY):Prop:=((okN 1 x.iW.length/\ ∀y∈x.iW,((IntKind.u8).min<=y/\y<=(IntKind.u8).max)))/\(okI x.iP)
theorem iY.row_inj (a b:iY) (h:a.row=b.row):a=b:=by
 obtain⟨a0,a1⟩:=a;obtain⟨b0,b1⟩:=b
 simp only [iY.row,List.cons.injEq,V.i.injEq,V.s.injEq,V.b.injEq,V.sl.injEq,true_and,and_true,bc,ba,aZ] at h
 simp only [iY.mk.injEq]
 simp only [h,and_self]
theorem iY.map_inj {a b:List iY} :ah iY.row a=ah iY.row b↔a=b:=dA iY.row_inj
theorem iY.one (a0:List Int) (a1:Int): [([.sl 1 (ah cE a0),.i .i64 a1]:List V)]=ah iY.row [(⟨a0,a1⟩:iY)]:=rfl
theorem iY.cons (a0:List Int) (a1:Int) (l:List iY):([.sl 1 (ah cE a0),.i .i64 a1]:List V)::ah iY.row l=ah iY.row ((⟨a0,a1⟩:iY)::l):=rfl
theorem iY.set (a0:List Int) (a1:Int) (l:List iY) (i:Int):(ah iY.row l).set i.toNat ([.sl 1 (ah cE a0),.i .i64 a1]:List V)=ah iY.row (ww l i (⟨a0,a1⟩:iY)):=dj iY.row l _ (⟨a0,a1⟩:iY)
structure iD where
 iE:ByteArray
 iq:ByteArray
def iD.row (x:iD):List V:=[.s x.iE,.s x.iq]
def iD.d (x:iD):D:=.agg [.v (.s x.iE),.v (.s x.iq)]
def iD.ok (x:iD):Prop:=(okS x.iE)/\(okS x.iq)
theorem iD.row_inj (a b:iD) (h:a.row=b.row):a=b:=by
 obtain⟨a0,a1⟩:=a;obtain⟨b0,b1⟩:=b
 simp only [iD.row,List.cons.injEq,V.i.injEq,V.s.injEq,V.b.injEq,V.sl.injEq,true_and,and_true,bc,ba,aZ,iY.map_inj] at h
 simp only [iD.mk.injEq]
 simp only [h,and_self]
theorem iD.map_inj {a b:List iD} :ah iD.row a=ah iD.row b↔a=b:=dA iD.row_inj
theorem iD.one (a0:ByteArray) (a1:ByteArray): [([.s a0,.s a1]:List V)]=ah iD.row [(⟨a0,a1⟩:iD)]:=rfl
theorem iD.cons (a0:ByteArray) (a1:ByteArray) (l:List iD):([.s a0,.s a1]:List V)::ah iD.row l=ah iD.row ((⟨a0,a1⟩:iD)::l):=rfl
theorem iD.set (a0:ByteArray) (a1:ByteArray) (l:List iD) (i:Int):(ah iD.row l).set i.toNat ([.s a0,.s a1]:List V)=ah iD.row (ww l i (⟨a0,a1⟩:iD)):=dj iD.row l _ (⟨a0,a1⟩:iD)
theorem iD.flat (l:List iD):(ah iD.row l).all gh=true:=ev l (fun _=>rfl)
structure im where
 iZ:ByteArray
 fN:Int
def im.row (x:im):List V:=[.s x.iZ,.i .i64 x.fN]
def im.d (x:im):D:=.agg [.v (.s x.iZ),.v (.i .i64 x.fN)]
def im.ok (x:im):Prop:=(okS x.iZ)/\(okI x.fN)
theorem im.row_inj (a b:im) (h:a.row=b.row):a=b:=by
 obtain⟨a0,a1⟩:=a;obtain⟨b0,b1⟩:=b
 simp only [im.row,List.cons.injEq,V.i.injEq,V.s.injEq,V.b.injEq,V.sl.injEq,true_and,and_true,bc,ba,aZ,iY.map_inj,iD.map_inj] at h
 simp only [im.mk.injEq]
 simp only [h,and_self]
theorem im.map_inj {a b:List im} :ah im.row a=ah im.row b↔a=b:=dA im.row_inj
theorem im.one (a0:ByteArray) (a1:Int): [([.s a0,.i .i64 a1]:List V)]=ah im.row [(⟨a0,a1⟩:im)]:=rfl
theorem im.cons (a0:ByteArray) (a1:Int) (l:List im):([.s a0,.i .i64 a1]:List V)::ah im.row l=ah im.row ((⟨a0,a1⟩:im)::l):=rfl
theorem im.set (a0:ByteArray) (a1:Int) (l:List im) (i:Int):(ah im.row l).set i.toNat ([.s a0,.i .i64 a1]:List V)=ah im.row (ww l i (⟨a0,a1⟩:im)):=dj im.row l _ (⟨a0,a1⟩:im)
theorem im.flat (l:List im):(ah im.row l).all gh=true:=ev l (fun _=>rfl)
structure iy where
 bt:Int
 iq:ByteArray
 iF:Int
 iA:List iD
 iC:List ByteArray
 il:List im
def iy.row (x:iy):List V:=[.i .i64 x.bt,.s x.iq,.i .i64 x.iF,.sl 2 (ah iD.row x.iA),.sl 1 (ah bY x.iC),.sl 2 (ah im.row x.il)]
def iy.d (x:iy):D:=.agg [.v (.i .i64 x.bt),.v (.s x.iq),.v (.i .i64 x.iF),.v (.sl 2 (ah iD.row x.iA)),.v (.sl 1 (ah bY x.iC)),.v (.sl 2 (ah im.row x.il))]
def iy.ok (x:iy):Prop:=(okI x.bt)/\(okS x.iq)/\(okI x.iF)/\((okN 32 x.iA.length/\ ∀y∈x.iA,y.ok))/\((okN 16 x.iC.length/\ ∀y∈x.iC,okS y))/\((okN 24 x.il.length/\ ∀y∈x.il,y.ok))
theorem iy.row_inj (a b:iy) (h:a.row=b.row):a=b:=by
 obtain⟨a0,a1,a2,a3,a4,a5⟩:=a;obtain⟨b0,b1,b2,b3,b4,b5⟩:=b
 simp only [iy.row,List.cons.injEq,V.i.injEq,V.s.injEq,V.b.injEq,V.sl.injEq,true_and,and_true,bc,ba,aZ,iY.map_inj,iD.map_inj,im.map_inj] at h
 simp only [iy.mk.injEq]
 simp only [h,and_self]
theorem iy.map_inj {a b:List iy} :ah iy.row a=ah iy.row b↔a=b:=dA iy.row_inj
theorem iy.one (a0:Int) (a1:ByteArray) (a2:Int) (a3:List iD) (a4:List ByteArray) (a5:List im): [([.i .i64 a0,.s a1,.i .i64 a2,.sl 2 (ah iD.row a3),.sl 1 (ah bY a4),.sl 2 (ah im.row a5)]:List V)]=ah iy.row [(⟨a0,a1,a2,a3,a4,a5⟩:iy)]:=rfl
theorem iy.cons (a0:Int) (a1:ByteArray) (a2:Int) (a3:List iD) (a4:List ByteArray) (a5:List im) (l:List iy):([.i .i64 a0,.s a1,.i .i64 a2,.sl 2 (ah iD.row a3),.sl 1 (ah bY a4),.sl 2 (ah im.row a5)]:List V)::ah iy.row l=ah iy.row ((⟨a0,a1,a2,a3,a4,a5⟩:iy)::l):=rfl
theorem iy.set (a0:Int) (a1:ByteArray) (a2:Int) (a3:List iD) (a4:List ByteArray) (a5:List im) (l:List iy) (i:Int):(ah iy.row l).set i.toNat ([.i .i64 a0,.s a1,.i .i64 a2,.sl 2 (ah iD.row a3),.sl 1 (ah bY a4),.sl 2 (ah im.row a5)]:List V)=ah iy.row (ww l i (⟨a0,a1,a2,a3,a4,a5⟩:iy)):=dj iy.row l _ (⟨a0,a1,a2,a3,a4,a5⟩:iy)
structure ip where
 iU:ByteArray
 iJ:iy
 jQ:Int
def ip.row (x:ip):List V:=[.s x.iU,.i .i64 x.iJ.bt,.s x.iJ.iq,.i .i64 x.iJ.iF,.sl 2 (ah iD.row x.iJ.iA),.sl 1 (ah bY x.iJ.iC),.sl 2 (ah im.row x.iJ.il),.i .i64 x.jQ]
def ip.d (x:ip):D:=.agg [.v (.s x.iU),.v (.i .i64 x.iJ.bt),.v (.s x.iJ.iq),.v (.i .i64 x.iJ.iF),.v (.sl 2 (ah iD.row x.iJ.iA)),.v (.sl 1 (ah bY x.iJ.iC)),.v (.sl 2 (ah im.row x.iJ.il)),.v (.i .i64 x.jQ)]
def ip.ok (x:ip):Prop:=(okS x.iU)/\(x.iJ.ok)/\(okI x.jQ)
theorem ip.row_inj (a b:ip) (h:a.row=b.row):a=b:=by
 obtain⟨a0,⟨a1,a2,a3,a4,a5,a6⟩,a7⟩:=a;obtain⟨b0,⟨b1,b2,b3,b4,b5,b6⟩,b7⟩:=b
 simp only [ip.row,List.cons.injEq,V.i.injEq,V.s.injEq,V.b.injEq,V.sl.injEq,true_and,and_true,bc,ba,aZ,iY.map_inj,iD.map_inj,im.map_inj] at h
 simp only [iy.mk.injEq,ip.mk.injEq]
 simp only [h,and_self]
theorem ip.map_inj {a b:List ip} :ah ip.row a=ah ip.row b↔a=b:=dA ip.row_inj
theorem ip.one (a0:ByteArray) (a1:Int) (a2:ByteArray) (a3:Int) (a4:List iD) (a5:List ByteArray) (a6:List im) (a7:Int): [([.s a0,.i .i64 a1,.s a2,.i .i64 a3,.sl 2 (ah iD.row a4),.sl 1 (ah bY a5),.sl 2 (ah im.row a6),.i .i64 a7]:List V)]=ah ip.row [(⟨a0,⟨a1,a2,a3,a4,a5,a6⟩,a7⟩:ip)]:=rfl
theorem ip.cons (a0:ByteArray) (a1:Int) (a2:ByteArray) (a3:Int) (a4:List iD) (a5:List ByteArray) (a6:List im) (a7:Int) (l:List ip):([.s a0,.i .i64 a1,.s a2,.i .i64 a3,.sl 2 (ah iD.row a4),.sl 1 (ah bY a5),.sl 2 (ah im.row a6),.i .i64 a7]:List V)::ah ip.row l=ah ip.row ((⟨a0,⟨a1,a2,a3,a4,a5,a6⟩,a7⟩:ip)::l):=rfl
theorem ip.set (a0:ByteArray) (a1:Int) (a2:ByteArray) (a3:Int) (a4:List iD) (a5:List ByteArray) (a6:List im) (a7:Int) (l:List ip) (i:Int):(ah ip.row l).set i.toNat ([.s a0,.i .i64 a1,.s a2,.i .i64 a3,.sl 2 (ah iD.row a4),.sl 1 (ah bY a5),.sl 2 (ah im.row a6),.i .i64 a7]:List V)=ah ip.row (ww l i (⟨a0,⟨a1,a2,a3,a4,a5,a6⟩,a7⟩:ip)):=dj ip.row l _ (⟨a0,⟨a1,a2,a3,a4,a5,a6⟩,a7⟩:ip)
structure iN where
 iL:Int
 bi:List ip
def iN.row (x:iN):List V:=[.i .i64 x.iL,.sl 8 (ah ip.row x.bi)]
def iN.d (x:iN):D:=.agg [.v (.i .i64 x.iL),.v (.sl 8 (ah ip.row x.bi))]
def iN.ok (x:iN):Prop:=(okI x.iL)/\((okN 128 x.bi.length/\ ∀y∈x.bi,y.ok))
theorem iN.row_inj (a b:iN) (h:a.row=b.row):a=b:=by
 obtain⟨a0,a1⟩:=a;obtain⟨b0,b1⟩:=b
 simp only [iN.row,List.cons.injEq,V.i.injEq,V.s.injEq,V.b.injEq,V.sl.injEq,true_and,and_true,bc,ba,aZ,iY.map_inj,iD.map_inj,im.map_inj,iy.map_inj,ip.map_inj] at h
 simp only [iN.mk.injEq]
 simp only [h,and_self]
theorem iN.map_inj {a b:List iN} :ah iN.row a=ah iN.row b↔a=b:=dA iN.row_inj
theorem iN.one (a0:Int) (a1:List ip): [([.i .i64 a0,.sl 8 (ah ip.row a1)]:List V)]=ah iN.row [(⟨a0,a1⟩:iN)]:=rfl
theorem iN.cons (a0:Int) (a1:List ip) (l:List iN):([.i .i64 a0,.sl 8 (ah ip.row a1)]:List V)::ah iN.row l=ah iN.row ((⟨a0,a1⟩:iN)::l):=rfl
theorem iN.set (a0:Int) (a1:List ip) (l:List iN) (i:Int):(ah iN.row l).set i.toNat ([.i .i64 a0,.sl 8 (ah ip.row a1)]:List V)=ah iN.row (ww l i (⟨a0,a1⟩:iN)):=dj iN.row l _ (⟨a0,a1⟩:iN)
structure jf where
 jW:Int
 iq:ByteArray
 fN:Int
 jH:List ByteArray
def jf.row (x:jf):List V:=[.i .i64 x.jW,.s x.iq,.i .i64 x.fN,.sl 1 (ah bY x.jH)]
def jf.d (x:jf):D:=.agg [.v (.i .i64 x.jW),.v (.s x.iq),.v (.i .i64 x.fN),.v (.sl 1 (ah bY x.jH))]
def jf.ok (x:jf):Prop:=(okI x.jW)/\(okS x.iq)/\(okI x.fN)/\((okN 16 x.jH.length/\ ∀y∈x.jH,okS y))
theorem jf.row_inj (a b:jf) (h:a.row=b.row):a=b:=by
 obtain⟨a0,a1,a2,a3⟩:=a;obtain⟨b0,b1,b2,b3⟩:=b
 simp only [jf.row,List.cons.injEq,V.i.injEq,V.s.injEq,V.b.injEq,V.sl.injEq,true_and,and_true,bc,ba,aZ,iY.map_inj,iD.map_inj,im.map_inj,iy.map_inj,ip.map_inj,iN.map_inj] at h
 simp only [jf.mk.injEq]
 simp only [h,and_self]
theorem jf.map_inj {a b:List jf} :ah jf.row a=ah jf.row b↔a=b:=dA jf.row_inj
theorem jf.one (a0:Int) (a1:ByteArray) (a2:Int) (a3:List ByteArray): [([.i .i64 a0,.s a1,.i .i64 a2,.sl 1 (ah bY a3)]:List V)]=ah jf.row [(⟨a0,a1,a2,a3⟩:jf)]:=rfl
theorem jf.cons (a0:Int) (a1:ByteArray) (a2:Int) (a3:List ByteArray) (l:List jf):([.i .i64 a0,.s a1,.i .i64 a2,.sl 1 (ah bY a3)]:List V)::ah jf.row l=ah jf.row ((⟨a0,a1,a2,a3⟩:jf)::l):=rfl
theorem jf.set (a0:Int) (a1:ByteArray) (a2:Int) (a3:List ByteArray) (l:List jf) (i:Int):(ah jf.row l).set i.toNat ([.i .i64 a0,.s a1,.i .i64 a2,.sl 1 (ah bY a3)]:List V)=ah jf.row (ww l i (⟨a0,a1,a2,a3⟩:jf)):=dj jf.row l _ (⟨a0,a1,a2,a3⟩:jf)
structure gi where
 fId:Int
 je:Int
 iS:Int
 iX:jf
def gi.row (x:gi):List V:=[.i .i64 x.fId,.i .i64 x.je,.i .i64 x.iS,.i .i64 x.iX.jW,.s x.iX.iq,.i .i64 x.iX.fN,.sl 1 (ah bY x.iX.jH)]
def gi.d (x:gi):D:=.agg [.v (.i .i64 x.fId),.v (.i .i64 x.je),.v (.i .i64 x.iS),.v (.i .i64 x.iX.jW),.v (.s x.iX.iq),.v (.i .i64 x.iX.fN),.v (.sl 1 (ah bY x.iX.jH))]
def gi.ok (x:gi):Prop:=(okI x.fId)/\(okI x.je)/\(okI x.iS)/\(x.iX.ok)
theorem gi.row_inj (a b:gi) (h:a.row=b.row):a=b:=by
 obtain⟨a0,a1,a2,⟨a3,a4,a5,a6⟩⟩:=a;obtain⟨b0,b1,b2,⟨b3,b4,b5,b6⟩⟩:=b
 simp only [gi.row,List.cons.injEq,V.i.injEq,V.s.injEq,V.b.injEq,V.sl.injEq,true_and,and_true,bc,ba,aZ,iY.map_inj,iD.map_inj,im.map_inj,iy.map_inj,ip.map_inj,iN.map_inj] at h
 simp only [jf.mk.injEq,gi.mk.injEq]
 simp only [h,and_self]
theorem gi.map_inj {a b:List gi} :ah gi.row a=ah gi.row b↔a=b:=dA gi.row_inj
theorem gi.one (a0:Int) (a1:Int) (a2:Int) (a3:Int) (a4:ByteArray) (a5:Int) (a6:List ByteArray): [([.i .i64 a0,.i .i64 a1,.i .i64 a2,.i .i64 a3,.s a4,.i .i64 a5,.sl 1 (ah bY a6)]:List V)]=ah gi.row [(⟨a0,a1,a2,⟨a3,a4,a5,a6⟩⟩:gi)]:=rfl
theorem gi.cons (a0:Int) (a1:Int) (a2:Int) (a3:Int) (a4:ByteArray) (a5:Int) (a6:List ByteArray) (l:List gi):([.i .i64 a0,.i .i64 a1,.i .i64 a2,.i .i64 a3,.s a4,.i .i64 a5,.sl 1 (ah bY a6)]:List V)::ah gi.row l=ah gi.row ((⟨a0,a1,a2,⟨a3,a4,a5,a6⟩⟩:gi)::l):=rfl
theorem gi.set (a0:Int) (a1:Int) (a2:Int) (a3:Int) (a4:ByteArray) (a5:Int) (a6:List ByteArray) (l:List gi) (i:Int):(ah gi.row l).set i.toNat ([.i .i64 a0,.i .i64 a1,.i .i64 a2,.i .i64 a3,.s a4,.i .i64 a5,.sl 1 (ah bY a6)]:List V)=ah gi.row (ww l i (⟨a0,a1,a2,⟨a3,a4,a5,a6⟩⟩:gi)):=dj gi.row l _ (⟨a0,a1,a2,⟨a3,a4,a5,a6⟩⟩:gi)
structure iv where
 af:iN
 iG:Int
 bz:List gi
def iv.row (x:iv):List V:=[.i .i64 x.af.iL,.sl 8 (ah ip.row x.af.bi),.i .i64 x.iG,.sl 7 (ah gi.row x.bz)]
def iv.d (x:iv):D:=.agg [.v (.i .i64 x.af.iL),.v (.sl 8 (ah ip.row x.af.bi)),.v (.i .i64 x.iG),.v (.sl 7 (ah gi.row x.bz))]
def iv.ok (x:iv):Prop:=(x.af.ok)/\(okI x.iG)/\((okN 80 x.bz.length/\ ∀y∈x.bz,y.ok))
theorem iv.row_inj (a b:iv) (h:a.row=b.row):a=b:=by
 obtain⟨⟨a0,a1⟩,a2,a3⟩:=a;obtain⟨⟨b0,b1⟩,b2,b3⟩:=b
 simp only [iv.row,List.cons.injEq,V.i.injEq,V.s.injEq,V.b.injEq,V.sl.injEq,true_and,and_true,bc,ba,aZ,iY.map_inj,iD.map_inj,im.map_inj,iy.map_inj,ip.map_inj,jf.map_inj,gi.map_inj] at h
 simp only [iN.mk.injEq,iv.mk.injEq]
 simp only [h,and_self]
theorem iv.map_inj {a b:List iv} :ah iv.row a=ah iv.row b↔a=b:=dA iv.row_inj
theorem iv.one (a0:Int) (a1:List ip) (a2:Int) (a3:List gi): [([.i .i64 a0,.sl 8 (ah ip.row a1),.i .i64 a2,.sl 7 (ah gi.row a3)]:List V)]=ah iv.row [(⟨⟨a0,a1⟩,a2,a3⟩:iv)]:=rfl
theorem iv.cons (a0:Int) (a1:List ip) (a2:Int) (a3:List gi) (l:List iv):([.i .i64 a0,.sl 8 (ah ip.row a1),.i .i64 a2,.sl 7 (ah gi.row a3)]:List V)::ah iv.row l=ah iv.row ((⟨⟨a0,a1⟩,a2,a3⟩:iv)::l):=rfl
theorem iv.set (a0:Int) (a1:List ip) (a2:Int) (a3:List gi) (l:List iv) (i:Int):(ah iv.row l).set i.toNat ([.i .i64 a0,.sl 8 (ah ip.row a1),.i .i64 a2,.sl 7 (ah gi.row a3)]:List V)=ah iv.row (ww l i (⟨⟨a0,a1⟩,a2,a3⟩:iv)):=dj iv.row l _ (⟨⟨a0,a1⟩,a2,a3⟩:iv)
structure i5 where
 iT:Int
 iI:Int
 iu:iv
def i5.row (x:i5):List V:=[.i .i64 x.iT,.i .i64 x.iI,.i .i64 x.iu.af.iL,.sl 8 (ah ip.row x.iu.af.bi),.i .i64 x.iu.iG,.sl 7 (ah gi.row x.iu.bz)]
def i5.d (x:i5):D:=.agg [.v (.i .i64 x.iT),.v (.i .i64 x.iI),.v (.i .i64 x.iu.af.iL),.v (.sl 8 (ah ip.row x.iu.af.bi)),.v (.i .i64 x.iu.iG),.v (.sl 7 (ah gi.row x.iu.bz))]
def i5.ok (x:i5):Prop:=(okI x.iT)/\(okI x.iI)/\(x.iu.ok)
theorem i5.row_inj (a b:i5) (h:a.row=b.row):a=b:=by
 obtain⟨a0,a1,⟨⟨a2,a3⟩,a4,a5⟩⟩:=a;obtain⟨b0,b1,⟨⟨b2,b3⟩,b4,b5⟩⟩:=b
 simp only [i5.row,List.cons.injEq,V.i.injEq,V.s.injEq,V.b.injEq,V.sl.injEq,true_and,and_true,bc,ba,aZ,iY.map_inj,iD.map_inj,im.map_inj,iy.map_inj,ip.map_inj,jf.map_inj,gi.map_inj] at h
 simp only [iN.mk.injEq,iv.mk.injEq,i5.mk.injEq]
 simp only [h,and_self]
theorem i5.map_inj {a b:List i5} :ah i5.row a=ah i5.row b↔a=b:=dA i5.row_inj
theorem i5.one (a0:Int) (a1:Int) (a2:Int) (a3:List ip) (a4:Int) (a5:List gi): [([.i .i64 a0,.i .i64 a1,.i .i64 a2,.sl 8 (ah ip.row a3),.i .i64 a4,.sl 7 (ah gi.row a5)]:List V)]=ah i5.row [(⟨a0,a1,⟨⟨a2,a3⟩,a4,a5⟩⟩:i5)]:=rfl
theorem i5.cons (a0:Int) (a1:Int) (a2:Int) (a3:List ip) (a4:Int) (a5:List gi) (l:List i5):([.i .i64 a0,.i .i64 a1,.i .i64 a2,.sl 8 (ah ip.row a3),.i .i64 a4,.sl 7 (ah gi.row a5)]:List V)::ah i5.row l=ah i5.row ((⟨a0,a1,⟨⟨a2,a3⟩,a4,a5⟩⟩:i5)::l):=rfl
theorem i5.set (a0:Int) (a1:Int) (a2:Int) (a3:List ip) (a4:Int) (a5:List gi) (l:List i5) (i:Int):(ah i5.row l).set i.toNat ([.i .i64 a0,.i .i64 a1,.i .i64 a2,.sl 8 (ah ip.row a3),.i .i64 a4,.sl 7 (ah gi.row a5)]:List V)=ah i5.row (ww l i (⟨a0,a1,⟨⟨a2,a3⟩,a4,a5⟩⟩:i5)):=dj i5.row l _ (⟨a0,a1,⟨⟨a2,a3⟩,a4,a5⟩⟩:i5)
structure iB where
 bt:Int
 iU:ByteArray
 iE:ByteArray
 iq:ByteArray
 fN:Int
def iB.row (x:iB):List V:=[.i .i64 x.bt,.s x.iU,.s x.iE,.s x.iq,.i .i64 x.fN]
def iB.d (x:iB):D:=.agg [.v (.i .i64 x.bt),.v (.s x.iU),.v (.s x.iE),.v (.s x.iq),.v (.i .i64 x.fN)]
def iB.ok (x:iB):Prop:=(okI x.bt)/\(okS x.iU)/\(okS x.iE)/\(okS x.iq)/\(okI x.fN)
theorem iB.row_inj (a b:iB) (h:a.row=b.row):a=b:=by
 obtain⟨a0,a1,a2,a3,a4⟩:=a;obtain⟨b0,b1,b2,b3,b4⟩:=b
 simp only [iB.row,List.cons.injEq,V.i.injEq,V.s.injEq,V.b.injEq,V.sl.injEq,true_and,and_true,bc,ba,aZ,iY.map_inj,iD.map_inj,im.map_inj,iy.map_inj,ip.map_inj,iN.map_inj,jf.map_inj,gi.map_inj,iv.map_inj,i5.map_inj] at h
 simp only [iB.mk.injEq]
 simp only [h,and_self]
theorem iB.map_inj {a b:List iB} :ah iB.row a=ah iB.row b↔a=b:=dA iB.row_inj
theorem iB.one (a0:Int) (a1:ByteArray) (a2:ByteArray) (a3:ByteArray) (a4:Int): [([.i .i64 a0,.s a1,.s a2,.s a3,.i .i64 a4]:List V)]=ah iB.row [(⟨a0,a1,a2,a3,a4⟩:iB)]:=rfl
theorem iB.cons (a0:Int) (a1:ByteArray) (a2:ByteArray) (a3:ByteArray) (a4:Int) (l:List iB):([.i .i64 a0,.s a1,.s a2,.s a3,.i .i64 a4]:List V)::ah iB.row l=ah iB.row ((⟨a0,a1,a2,a3,a4⟩:iB)::l):=rfl
theorem iB.set (a0:Int) (a1:ByteArray) (a2:ByteArray) (a3:ByteArray) (a4:Int) (l:List iB) (i:Int):(ah iB.row l).set i.toNat ([.i .i64 a0,.s a1,.s a2,.s a3,.i .i64 a4]:List V)=ah iB.row (ww l i (⟨a0,a1,a2,a3,a4⟩:iB)):=dj iB.row l _ (⟨a0,a1,a2,a3,a4⟩:iB)
theorem iB.flat (l:List iB):(ah iB.row l).all gh=true:=ev l (fun _=>rfl)
structure i8 where
 iO:Int
 je:Int
 ad:iB
def i8.row (x:i8):List V:=[.i .i64 x.iO,.i .i64 x.je,.i .i64 x.ad.bt,.s x.ad.iU,.s x.ad.iE,.s x.ad.iq,.i .i64 x.ad.fN]
def i8.d (x:i8):D:=.agg [.v (.i .i64 x.iO),.v (.i .i64 x.je),.v (.i .i64 x.ad.bt),.v (.s x.ad.iU),.v (.s x.ad.iE),.v (.s x.ad.iq),.v (.i .i64 x.ad.fN)]
def i8.ok (x:i8):Prop:=(okI x.iO)/\(okI x.je)/\(x.ad.ok)
theorem i8.row_inj (a b:i8) (h:a.row=b.row):a=b:=by
 obtain⟨a0,a1,⟨a2,a3,a4,a5,a6⟩⟩:=a;obtain⟨b0,b1,⟨b2,b3,b4,b5,b6⟩⟩:=b
 simp only [i8.row,List.cons.injEq,V.i.injEq,V.s.injEq,V.b.injEq,V.sl.injEq,true_and,and_true,bc,ba,aZ,iY.map_inj,iD.map_inj,im.map_inj,iy.map_inj,ip.map_inj,iN.map_inj,jf.map_inj,gi.map_inj,iv.map_inj,i5.map_inj] at h
 simp only [iB.mk.injEq,i8.mk.injEq]
 simp only [h,and_self]
theorem i8.map_inj {a b:List i8} :ah i8.row a=ah i8.row b↔a=b:=dA i8.row_inj
theorem i8.one (a0:Int) (a1:Int) (a2:Int) (a3:ByteArray) (a4:ByteArray) (a5:ByteArray) (a6:Int): [([.i .i64 a0,.i .i64 a1,.i .i64 a2,.s a3,.s a4,.s a5,.i .i64 a6]:List V)]=ah i8.row [(⟨a0,a1,⟨a2,a3,a4,a5,a6⟩⟩:i8)]:=rfl
theorem i8.cons (a0:Int) (a1:Int) (a2:Int) (a3:ByteArray) (a4:ByteArray) (a5:ByteArray) (a6:Int) (l:List i8):([.i .i64 a0,.i .i64 a1,.i .i64 a2,.s a3,.s a4,.s a5,.i .i64 a6]:List V)::ah i8.row l=ah i8.row ((⟨a0,a1,⟨a2,a3,a4,a5,a6⟩⟩:i8)::l):=rfl
theorem i8.set (a0:Int) (a1:Int) (a2:Int) (a3:ByteArray) (a4:ByteArray) (a5:ByteArray) (a6:Int) (l:List i8) (i:Int):(ah i8.row l).set i.toNat ([.i .i64 a0,.i .i64 a1,.i .i64 a2,.s a3,.s a4,.s a5,.i .i64 a6]:List V)=ah i8.row (ww l i (⟨a0,a1,⟨a2,a3,a4,a5,a6⟩⟩:i8)):=dj i8.row l _ (⟨a0,a1,⟨a2,a3,a4,a5,a6⟩⟩:i8)
theorem i8.flat (l:List i8):(ah i8.row l).all gh=true:=ev l (fun _=>rfl)
structure iV where
 iI:Int
 iS:Int
 jY:Bool
 cO:i8
def iV.row (x:iV):List V:=[.i .i64 x.iI,.i .i64 x.iS,.b x.jY,.i .i64 x.cO.iO,.i .i64 x.cO.je,.i .i64 x.cO.ad.bt,.s x.cO.ad.iU,.s x.cO.ad.iE,.s x.cO.ad.iq,.i .i64 x.cO.ad.fN]
def iV.d (x:iV):D:=.agg [.v (.i .i64 x.iI),.v (.i .i64 x.iS),.v (.b x.jY),.v (.i .i64 x.cO.iO),.v (.i .i64 x.cO.je),.v (.i .i64 x.cO.ad.bt),.v (.s x.cO.ad.iU),.v (.s x.cO.ad.iE),.v (.s x.cO.ad.iq),.v (.i .i64 x.cO.ad.fN)]
def iV.ok (x:iV):Prop:=(okI x.iI)/\(okI x.iS)/\(True)/\(x.cO.ok)
theorem iV.row_inj (a b:iV) (h:a.row=b.row):a=b:=by
 obtain⟨a0,a1,a2,⟨a3,a4,⟨a5,a6,a7,a8,a9⟩⟩⟩:=a;obtain⟨b0,b1,b2,⟨b3,b4,⟨b5,b6,b7,b8,b9⟩⟩⟩:=b
 simp only [iV.row,List.cons.injEq,V.i.injEq,V.s.injEq,V.b.injEq,V.sl.injEq,true_and,and_true,bc,ba,aZ,iY.map_inj,iD.map_inj,im.map_inj,iy.map_inj,ip.map_inj,iN.map_inj,jf.map_inj,gi.map_inj,iv.map_inj,i5.map_inj] at h
 simp only [iB.mk.injEq,i8.mk.injEq,iV.mk.injEq]
 simp only [h,and_self]
theorem iV.map_inj {a b:List iV} :ah iV.row a=ah iV.row b↔a=b:=dA iV.row_inj
theorem iV.one (a0:Int) (a1:Int) (a2:Bool) (a3:Int) (a4:Int) (a5:Int) (a6:ByteArray) (a7:ByteArray) (a8:ByteArray) (a9:Int): [([.i .i64 a0,.i .i64 a1,.b a2,.i .i64 a3,.i .i64 a4,.i .i64 a5,.s a6,.s a7,.s a8,.i .i64 a9]:List V)]=ah iV.row [(⟨a0,a1,a2,⟨a3,a4,⟨a5,a6,a7,a8,a9⟩⟩⟩:iV)]:=rfl
theorem iV.cons (a0:Int) (a1:Int) (a2:Bool) (a3:Int) (a4:Int) (a5:Int) (a6:ByteArray) (a7:ByteArray) (a8:ByteArray) (a9:Int) (l:List iV):([.i .i64 a0,.i .i64 a1,.b a2,.i .i64 a3,.i .i64 a4,.i .i64 a5,.s a6,.s a7,.s a8,.i .i64 a9]:List V)::ah iV.row l=ah iV.row ((⟨a0,a1,a2,⟨a3,a4,⟨a5,a6,a7,a8,a9⟩⟩⟩:iV)::l):=rfl
theorem iV.set (a0:Int) (a1:Int) (a2:Bool) (a3:Int) (a4:Int) (a5:Int) (a6:ByteArray) (a7:ByteArray) (a8:ByteArray) (a9:Int) (l:List iV) (i:Int):(ah iV.row l).set i.toNat ([.i .i64 a0,.i .i64 a1,.b a2,.i .i64 a3,.i .i64 a4,.i .i64 a5,.s a6,.s a7,.s a8,.i .i64 a9]:List V)=ah iV.row (ww l i (⟨a0,a1,a2,⟨a3,a4,⟨a5,a6,a7,a8,a9⟩⟩⟩:iV)):=dj iV.row l _ (⟨a0,a1,a2,⟨a3,a4,⟨a5,a6,a7,a8,a9⟩⟩⟩:iV)
theorem iV.flat (l:List iV):(ah iV.row l).all gh=true:=ev l (fun _=>rfl)
structure rl where
 Lj:Int
 xj:Int
 iC:List iV
def rl.row (x:rl):List V:=[.i .i64 x.Lj,.i .i64 x.xj,.sl 10 (ah iV.row x.iC)]
def rl.d (x:rl):D:=.agg [.v (.i .i64 x.Lj),.v (.i .i64 x.xj),.v (.sl 10 (ah iV.row x.iC))]
def rl.ok (x:rl):Prop:=(okI x.Lj)/\(okI x.xj)/\((okN 104 x.iC.length/\ ∀y∈x.iC,y.ok))
theorem rl.row_inj (a b:rl) (h:a.row=b.row):a=b:=by
 obtain⟨a0,a1,a2⟩:=a;obtain⟨b0,b1,b2⟩:=b
 simp only [rl.row,List.cons.injEq,V.i.injEq,V.s.injEq,V.b.injEq,V.sl.injEq,true_and,and_true,bc,ba,aZ,iY.map_inj,iD.map_inj,im.map_inj,iy.map_inj,ip.map_inj,iN.map_inj,jf.map_inj,gi.map_inj,iv.map_inj,i5.map_inj,iB.map_inj,i8.map_inj,iV.map_inj] at h
 simp only [rl.mk.injEq]
 simp only [h,and_self]
theorem rl.map_inj {a b:List rl} :ah rl.row a=ah rl.row b↔a=b:=dA rl.row_inj
theorem rl.one (a0:Int) (a1:Int) (a2:List iV): [([.i .i64 a0,.i .i64 a1,.sl 10 (ah iV.row a2)]:List V)]=ah rl.row [(⟨a0,a1,a2⟩:rl)]:=rfl
theorem rl.cons (a0:Int) (a1:Int) (a2:List iV) (l:List rl):([.i .i64 a0,.i .i64 a1,.sl 10 (ah iV.row a2)]:List V)::ah rl.row l=ah rl.row ((⟨a0,a1,a2⟩:rl)::l):=rfl
theorem rl.set (a0:Int) (a1:Int) (a2:List iV) (l:List rl) (i:Int):(ah rl.row l).set i.toNat ([.i .i64 a0,.i .i64 a1,.sl 10 (ah iV.row a2)]:List V)=ah rl.row (ww l i (⟨a0,a1,a2⟩:rl)):=dj rl.row l _ (⟨a0,a1,a2⟩:rl)
structure mS where
 iI:Int
 lz:Int
 iH:i5
 LU:rl
def mS.row (x:mS):List V:=[.i .i64 x.iI,.i .i64 x.lz,.i .i64 x.iH.iT,.i .i64 x.iH.iI,.i .i64 x.iH.iu.af.iL,.sl 8 (ah ip.row x.iH.iu.af.bi),.i .i64 x.iH.iu.iG,.sl 7 (ah gi.row x.iH.iu.bz),.i .i64 x.LU.Lj,.i .i64 x.LU.xj,.sl 10 (ah iV.row x.LU.iC)]
def mS.d (x:mS):D:=.agg [.v (.i .i64 x.iI),.v (.i .i64 x.lz),.v (.i .i64 x.iH.iT),.v (.i .i64 x.iH.iI),.v (.i .i64 x.iH.iu.af.iL),.v (.sl 8 (ah ip.row x.iH.iu.af.bi)),.v (.i .i64 x.iH.iu.iG),.v (.sl 7 (ah gi.row x.iH.iu.bz)),.v (.i .i64 x.LU.Lj),.v (.i .i64 x.LU.xj),.v (.sl 10 (ah iV.row x.LU.iC))]
def mS.ok (x:mS):Prop:=(okI x.iI)/\(okI x.lz)/\(x.iH.ok)/\(x.LU.ok)
theorem mS.row_inj (a b:mS) (h:a.row=b.row):a=b:=by
 obtain⟨a0,a1,⟨a2,a3,⟨⟨a4,a5⟩,a6,a7⟩⟩,⟨a8,a9,a10⟩⟩:=a;obtain⟨b0,b1,⟨b2,b3,⟨⟨b4,b5⟩,b6,b7⟩⟩,⟨b8,b9,b10⟩⟩:=b
 simp only [mS.row,List.cons.injEq,V.i.injEq,V.s.injEq,V.b.injEq,V.sl.injEq,true_and,and_true,bc,ba,aZ,iY.map_inj,iD.map_inj,im.map_inj,iy.map_inj,ip.map_inj,jf.map_inj,gi.map_inj,iB.map_inj,i8.map_inj,iV.map_inj] at h
 simp only [iN.mk.injEq,iv.mk.injEq,i5.mk.injEq,rl.mk.injEq,mS.mk.injEq]
 simp only [h,and_self]
theorem mS.map_inj {a b:List mS} :ah mS.row a=ah mS.row b↔a=b:=dA mS.row_inj
theorem mS.one (a0:Int) (a1:Int) (a2:Int) (a3:Int) (a4:Int) (a5:List ip) (a6:Int) (a7:List gi) (a8:Int) (a9:Int) (a10:List iV): [([.i .i64 a0,.i .i64 a1,.i .i64 a2,.i .i64 a3,.i .i64 a4,.sl 8 (ah ip.row a5),.i .i64 a6,.sl 7 (ah gi.row a7),.i .i64 a8,.i .i64 a9,.sl 10 (ah iV.row a10)]:List V)]=ah mS.row [(⟨a0,a1,⟨a2,a3,⟨⟨a4,a5⟩,a6,a7⟩⟩,⟨a8,a9,a10⟩⟩:mS)]:=rfl
theorem mS.cons (a0:Int) (a1:Int) (a2:Int) (a3:Int) (a4:Int) (a5:List ip) (a6:Int) (a7:List gi) (a8:Int) (a9:Int) (a10:List iV) (l:List mS):([.i .i64 a0,.i .i64 a1,.i .i64 a2,.i .i64 a3,.i .i64 a4,.sl 8 (ah ip.row a5),.i .i64 a6,.sl 7 (ah gi.row a7),.i .i64 a8,.i .i64 a9,.sl 10 (ah iV.row a10)]:List V)::ah mS.row l=ah mS.row ((⟨a0,a1,⟨a2,a3,⟨⟨a4,a5⟩,a6,a7⟩⟩,⟨a8,a9,a10⟩⟩:mS)::l):=rfl
theorem mS.set (a0:Int) (a1:Int) (a2:Int) (a3:Int) (a4:Int) (a5:List ip) (a6:Int) (a7:List gi) (a8:Int) (a9:Int) (a10:List iV) (l:List mS) (i:Int):(ah mS.row l).set i.toNat ([.i .i64 a0,.i .i64 a1,.i .i64 a2,.i .i64 a3,.i .i64 a4,.sl 8 (ah ip.row a5),.i .i64 a6,.sl 7 (ah gi.row a7),.i .i64 a8,.i .i64 a9,.sl 10 (ah iV.row a10)]:List V)=ah mS.row (ww l i (⟨a0,a1,⟨a2,a3,⟨⟨a4,a5⟩,a6,a7⟩⟩,⟨a8,a9,a10⟩⟩:mS)):=dj mS.row l _ (⟨a0,a1,⟨a2,a3,⟨⟨a4,a5⟩,a6,a7⟩⟩,⟨a8,a9,a10⟩⟩:mS)
structure iw where
 bt:Int
 iI:Int
 lz:Int
 iT:Int
 iz:iV
 iH:i5
def iw.row (x:iw):List V:=[.i .i64 x.bt,.i .i64 x.iI,.i .i64 x.lz,.i .i64 x.iT,.i .i64 x.iz.iI,.i .i64 x.iz.iS,.b x.iz.jY,.i .i64 x.iz.cO.iO,.i .i64 x.iz.cO.je,.i .i64 x.iz.cO.ad.bt,.s x.iz.cO.ad.iU,.s x.iz.cO.ad.iE,.s x.iz.cO.ad.iq,.i .i64 x.iz.cO.ad.fN,.i .i64 x.iH.iT,.i .i64 x.iH.iI,.i .i64 x.iH.iu.af.iL,.sl 8 (ah ip.row x.iH.iu.af.bi),.i .i64 x.iH.iu.iG,.sl 7 (ah gi.row x.iH.iu.bz)]
def iw.d (x:iw):D:=.agg [.v (.i .i64 x.bt),.v (.i .i64 x.iI),.v (.i .i64 x.lz),.v (.i .i64 x.iT),.v (.i .i64 x.iz.iI),.v (.i .i64 x.iz.iS),.v (.b x.iz.jY),.v (.i .i64 x.iz.cO.iO),.v (.i .i64 x.iz.cO.je),.v (.i .i64 x.iz.cO.ad.bt),.v (.s x.iz.cO.ad.iU),.v (.s x.iz.cO.ad.iE),.v (.s x.iz.cO.ad.iq),.v (.i .i64 x.iz.cO.ad.fN),.v (.i .i64 x.iH.iT),.v (.i .i64 x.iH.iI),.v (.i .i64 x.iH.iu.af.iL),.v (.sl 8 (ah ip.row x.iH.iu.af.bi)),.v (.i .i64 x.iH.iu.iG),.v (.sl 7 (ah gi.row x.iH.iu.bz))]
def iw.ok (x:iw):Prop:=(okI x.bt)/\(okI x.iI)/\(okI x.lz)/\(okI x.iT)/\(x.iz.ok)/\(x.iH.ok)
theorem iw.row_inj (a b:iw) (h:a.row=b.row):a=b:=by
 obtain⟨a0,a1,a2,a3,⟨a4,a5,a6,⟨a7,a8,⟨a9,a10,a11,a12,a13⟩⟩⟩,⟨a14,a15,⟨⟨a16,a17⟩,a18,a19⟩⟩⟩:=a;obtain⟨b0,b1,b2,b3,⟨b4,b5,b6,⟨b7,b8,⟨b9,b10,b11,b12,b13⟩⟩⟩,⟨b14,b15,⟨⟨b16,b17⟩,b18,b19⟩⟩⟩:=b
 simp only [iw.row,List.cons.injEq,V.i.injEq,V.s.injEq,V.b.injEq,V.sl.injEq,true_and,and_true,bc,ba,aZ,iY.map_inj,iD.map_inj,im.map_inj,iy.map_inj,ip.map_inj,jf.map_inj,gi.map_inj,rl.map_inj,mS.map_inj] at h
 simp only [iB.mk.injEq,i8.mk.injEq,iV.mk.injEq,iN.mk.injEq,iv.mk.injEq,i5.mk.injEq,iw.mk.injEq]
 simp only [h,and_self]
theorem iw.map_inj {a b:List iw} :ah iw.row a=ah iw.row b↔a=b:=dA iw.row_inj
theorem iw.one (a0:Int) (a1:Int) (a2:Int) (a3:Int) (a4:Int) (a5:Int) (a6:Bool) (a7:Int) (a8:Int) (a9:Int) (a10:ByteArray) (a11:ByteArray) (a12:ByteArray) (a13:Int) (a14:Int) (a15:Int) (a16:Int) (a17:List ip) (a18:Int) (a19:List gi): [([.i .i64 a0,.i .i64 a1,.i .i64 a2,.i .i64 a3,.i .i64 a4,.i .i64 a5,.b a6,.i .i64 a7,.i .i64 a8,.i .i64 a9,.s a10,.s a11,.s a12,.i .i64 a13,.i .i64 a14,.i .i64 a15,.i .i64 a16,.sl 8 (ah ip.row a17),.i .i64 a18,.sl 7 (ah gi.row a19)]:List V)]=ah iw.row [(⟨a0,a1,a2,a3,⟨a4,a5,a6,⟨a7,a8,⟨a9,a10,a11,a12,a13⟩⟩⟩,⟨a14,a15,⟨⟨a16,a17⟩,a18,a19⟩⟩⟩:iw)]:=rfl
theorem iw.cons (a0:Int) (a1:Int) (a2:Int) (a3:Int) (a4:Int) (a5:Int) (a6:Bool) (a7:Int) (a8:Int) (a9:Int) (a10:ByteArray) (a11:ByteArray) (a12:ByteArray) (a13:Int) (a14:Int) (a15:Int) (a16:Int) (a17:List ip) (a18:Int) (a19:List gi) (l:List iw):([.i .i64 a0,.i .i64 a1,.i .i64 a2,.i .i64 a3,.i .i64 a4,.i .i64 a5,.b a6,.i .i64 a7,.i .i64 a8,.i .i64 a9,.s a10,.s a11,.s a12,.i .i64 a13,.i .i64 a14,.i .i64 a15,.i .i64 a16,.sl 8 (ah ip.row a17),.i .i64 a18,.sl 7 (ah gi.row a19)]:List V)::ah iw.row l=ah iw.row ((⟨a0,a1,a2,a3,⟨a4,a5,a6,⟨a7,a8,⟨a9,a10,a11,a12,a13⟩⟩⟩,⟨a14,a15,⟨⟨a16,a17⟩,a18,a19⟩⟩⟩:iw)::l):=rfl
theorem iw.set (a0:Int) (a1:Int) (a2:Int) (a3:Int) (a4:Int) (a5:Int) (a6:Bool) (a7:Int) (a8:Int) (a9:Int) (a10:ByteArray) (a11:ByteArray) (a12:ByteArray) (a13:Int) (a14:Int) (a15:Int) (a16:Int) (a17:List ip) (a18:Int) (a19:List gi) (l:List iw) (i:Int):(ah iw.row l).set i.toNat ([.i .i64 a0,.i .i64 a1,.i .i64 a2,.i .i64 a3,.i .i64 a4,.i .i64 a5,.b a6,.i .i64 a7,.i .i64 a8,.i .i64 a9,.s a10,.s a11,.s a12,.i .i64 a13,.i .i64 a14,.i .i64 a15,.i .i64 a16,.sl 8 (ah ip.row a17),.i .i64 a18,.sl 7 (ah gi.row a19)]:List V)=ah iw.row (ww l i (⟨a0,a1,a2,a3,⟨a4,a5,a6,⟨a7,a8,⟨a9,a10,a11,a12,a13⟩⟩⟩,⟨a14,a15,⟨⟨a16,a17⟩,a18,a19⟩⟩⟩:iw)):=dj iw.row l _ (⟨a0,a1,a2,a3,⟨a4,a5,a6,⟨a7,a8,⟨a9,a10,a11,a12,a13⟩⟩⟩,⟨a14,a15,⟨⟨a16,a17⟩,a18,a19⟩⟩⟩:iw)
structure ko where
 fb:List Int
def ko.row (x:ko):List V:=[.sl 1 (ah cE x.fb)]
def ko.d (x:ko):D:=.agg [.v (.sl 1 (ah cE x.fb))]
def ko.ok (x:ko):Prop:=((okN 1 x.fb.length/\ ∀y∈x.fb,((IntKind.u8).min<=y/\y<=(IntKind.u8).max)))
theorem ko.row_inj (a b:ko) (h:a.row=b.row):a=b:=by
 obtain⟨a0⟩:=a;obtain⟨b0⟩:=b
 simp only [ko.row,List.cons.injEq,V.i.injEq,V.s.injEq,V.b.injEq,V.sl.injEq,true_and,and_true,bc,ba,aZ,iY.map_inj,iD.map_inj,im.map_inj,iy.map_inj,ip.map_inj,iN.map_inj,jf.map_inj,gi.map_inj,iv.map_inj,i5.map_inj,iB.map_inj,i8.map_inj,iV.map_inj,rl.map_inj,mS.map_inj,iw.map_inj] at h
 simp only [ko.mk.injEq]
 simp only [h,and_self]
theorem ko.map_inj {a b:List ko} :ah ko.row a=ah ko.row b↔a=b:=dA ko.row_inj
theorem ko.one (a0:List Int): [([.sl 1 (ah cE a0)]:List V)]=ah ko.row [(⟨a0⟩:ko)]:=rfl
theorem ko.cons (a0:List Int) (l:List ko):([.sl 1 (ah cE a0)]:List V)::ah ko.row l=ah ko.row ((⟨a0⟩:ko)::l):=rfl
theorem ko.set (a0:List Int) (l:List ko) (i:Int):(ah ko.row l).set i.toNat ([.sl 1 (ah cE a0)]:List V)=ah ko.row (ww l i (⟨a0⟩:ko)):=dj ko.row l _ (⟨a0⟩:ko)
structure ir where
 frest:List Int
 fshort:Bool
def ir.row (x:ir):List V:=[.sl 1 (ah cE x.frest),.b x.fshort]
def ir.d (x:ir):D:=.agg [.v (.sl 1 (ah cE x.frest)),.v (.b x.fshort)]
def ir.ok (x:ir):Prop:=((okN 1 x.frest.length/\ ∀y∈x.frest,((IntKind.u8).min<=y/\y<=(IntKind.u8).max)))/\(True)
theorem ir.row_inj (a b:ir) (h:a.row=b.row):a=b:=by
 obtain⟨a0,a1⟩:=a;obtain⟨b0,b1⟩:=b
 simp only [ir.row,List.cons.injEq,V.i.injEq,V.s.injEq,V.b.injEq,V.sl.injEq,true_and,and_true,bc,ba,aZ,iY.map_inj,iD.map_inj,im.map_inj,iy.map_inj,ip.map_inj,iN.map_inj,jf.map_inj,gi.map_inj,iv.map_inj,i5.map_inj,iB.map_inj,i8.map_inj,iV.map_inj,rl.map_inj,mS.map_inj,iw.map_inj,ko.map_inj] at h
 simp only [ir.mk.injEq]
 simp only [h,and_self]
theorem ir.map_inj {a b:List ir} :ah ir.row a=ah ir.row b↔a=b:=dA ir.row_inj
theorem ir.one (a0:List Int) (a1:Bool): [([.sl 1 (ah cE a0),.b a1]:List V)]=ah ir.row [(⟨a0,a1⟩:ir)]:=rfl
theorem ir.cons (a0:List Int) (a1:Bool) (l:List ir):([.sl 1 (ah cE a0),.b a1]:List V)::ah ir.row l=ah ir.row ((⟨a0,a1⟩:ir)::l):=rfl
theorem ir.set (a0:List Int) (a1:Bool) (l:List ir) (i:Int):(ah ir.row l).set i.toNat ([.sl 1 (ah cE a0),.b a1]:List V)=ah ir.row (ww l i (⟨a0,a1⟩:ir)):=dj ir.row l _ (⟨a0,a1⟩:ir)
structure iK where
 fb:List Int
 fat:Int
def iK.row (x:iK):List V:=[.sl 1 (ah cE x.fb),.i .i64 x.fat]
def iK.d (x:iK):D:=.agg [.v (.sl 1 (ah cE x.fb)),.v (.i .i64 x.fat)]
def iK.ok (x:iK):Prop:=((okN 1 x.fb.length/\ ∀y∈x.fb,((IntKind.u8).min<=y/\y<=(IntKind.u8).max)))/\(okI x.fat)
theorem iK.row_inj (a b:iK) (h:a.row=b.row):a=b:=by
 obtain⟨a0,a1⟩:=a;obtain⟨b0,b1⟩:=b
 simp only [iK.row,List.cons.injEq,V.i.injEq,V.s.injEq,V.b.injEq,V.sl.injEq,true_and,and_true,bc,ba,aZ,iY.map_inj,iD.map_inj,im.map_inj,iy.map_inj,ip.map_inj,iN.map_inj,jf.map_inj,gi.map_inj,iv.map_inj,i5.map_inj,iB.map_inj,i8.map_inj,iV.map_inj,rl.map_inj,mS.map_inj,iw.map_inj,ko.map_inj,ir.map_inj] at h
 simp only [iK.mk.injEq]
 simp only [h,and_self]
theorem iK.map_inj {a b:List iK} :ah iK.row a=ah iK.row b↔a=b:=dA iK.row_inj
theorem iK.one (a0:List Int) (a1:Int): [([.sl 1 (ah cE a0),.i .i64 a1]:List V)]=ah iK.row [(⟨a0,a1⟩:iK)]:=rfl
theorem iK.cons (a0:List Int) (a1:Int) (l:List iK):([.sl 1 (ah cE a0),.i .i64 a1]:List V)::ah iK.row l=ah iK.row ((⟨a0,a1⟩:iK)::l):=rfl
theorem iK.set (a0:List Int) (a1:Int) (l:List iK) (i:Int):(ah iK.row l).set i.toNat ([.sl 1 (ah cE a0),.i .i64 a1]:List V)=ah iK.row (ww l i (⟨a0,a1⟩:iK)):=dj iK.row l _ (⟨a0,a1⟩:iK)
theorem iY.of24 {k:Nat} {r:List V} (h:Jy Tryz.prog k 24 r): ∃x:iY,r=x.row/\x.ok:=by
 obtain⟨k0,h0⟩:=cZ Tryz.underlying24 h
 simp only [dR] at h0
 obtain⟨_,_,rfl,f0_0,_,_,rfl,f0_1,rfl⟩:=h0
 obtain⟨l1,j1,rfl,o1,q1⟩:=dB (n:=1) (m:=1) Tryz.underlying22 (by kernel_rfl) (by kernel_rfl) f0_0
 obtain⟨n1,rfl,p1⟩:=dU (f:=cE) (ok:=fun y=>((IntKind.u8).min<=y/\y<=(IntKind.u8).max)) (fun r hr=>by obtain⟨s,h1,h2⟩:=NJ Tryz.underlying5 (q1 r hr);exact⟨s,h1,h2⟩)
 rw [List.length_map] at o1
 obtain⟨n2,rfl,o2⟩:=NJ Tryz.underlying3 f0_1
 exact⟨⟨n1,n2⟩,rfl,⟨⟨o1,p1⟩,(dt o2)⟩⟩
end
end Go.Proofs.YtgcglmoogaldbaaGreat
