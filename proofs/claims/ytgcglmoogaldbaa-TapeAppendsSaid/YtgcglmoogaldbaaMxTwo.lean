/- The machine Mx: Go code run on plain data in place of memory, and that it tells the truth of the model (part MxTwo). -/
import Derived.Test.YtgcglmoogaldbaaMxOne
import Derived.Laws.IdiomStrings
import Derived.Laws.MakeOwn
import Derived.Laws.Tables
import Derived.Great.BuildSlice
import Derived.Room.Entries
set_option linter.unusedSimpArgs false
set_option linter.unusedVariables false
set_option linter.constructorNameAsVariable false
set_option linter.unnecessarySimpa false
namespace Go.Mx
open Go
structure dv (h:Array Obj) (G G':Gh):Prop where
 rd:cS G.rd G'.rd
 ob:G'.ob=G.ob
 mine: ∀l b f,G'.ow l=some (b,f)-> ∃l0 f0,G.ow l0=some (b,f0)
 rdn: ∀b,G'.rd b≠none->G.rd b≠none∨ ∃l f,G.ow l=some (b,f)
theorem dv.step {w:World} {G G':Gh} (S:dv w.heap G G'):w7 w G w G':=
 ⟨rfl,rfl,rfl,Nat.le_refl _,fun _ _ _=>rfl,fun b hb=>.inl (by
  rcases hb with⟨o,ho⟩|⟨l,f,hl⟩
  ·exact .inl ⟨o,by rw [<-S.ob];exact ho⟩
  ·obtain⟨l0,f0,h0⟩:=S.mine l b f hl;exact .inr ⟨l0,f0,h0⟩),S.rd,fun b hb=>(S.rdn b hb).imp id (fun ⟨l,f,hl⟩=>.inl (.inr ⟨l,f,hl⟩))⟩
theorem dv.refl (h:Array Obj) (G:Gh):dv h G G:=⟨cS.refl _,rfl,fun l b f hl=>⟨l,f,hl⟩,fun b hb=>.inl hb⟩
theorem dv.trans {h:Array Obj} {G G1 G2:Gh} (S:dv h G G1) (T:dv h G1 G2):dv h G G2:=
 ⟨S.rd.trans T.rd,T.ob.trans S.ob,fun l b f hl=>by
  obtain⟨l0,f0,h0⟩:=T.mine l b f hl
  exact S.mine l0 b f0 h0,fun b hb=>(T.rdn b hb).elim (S.rdn b) (fun ⟨l,f,hl⟩=>by
   obtain⟨l0,f0,h0⟩:=S.mine l b f hl;exact .inr ⟨l0,f0,h0⟩)⟩
theorem yS.same {k:Nat} {h:Array Obj} {G G':Gh} (T:yS k h G G'):dv h G G':=
 ⟨by rw [T.rd];exact cS.refl _,T.ob,fun l b f hl=>by obtain⟨l0,h0⟩:=T.mine l _ hl;exact⟨l0,f,h0⟩,fun b hb=>.inl (by rw [<-T.rd];exact hb)⟩
section
variable {h:Array Obj} {G:Gh} {tmps:Array Value} {σ:St}
theorem Rel.give (R:Rel h G tmps σ) {k t:Nat} {d:D} {v:Value} (H:dG h G k d v) (ht:t<tmps.size):
  ∃G',Rel h G' (tmps.setIfInBounds t v) { σ with env:=setReg σ.env t d } /\dv h G G'/\(∀j,G'.ow (.hand k j)=none)/\(∀q j,q≠k->G'.ow (.hand q j)=G.ow (.hand q j))/\(∀o off,G'.ow (.cell o off)=G.ow (.cell o off)):=by
 let ow:Loc->Option (Nat×Nat):=fun l=>match l with
  | .hand q j=>if q=k then none else G.ow (.hand q j)
  | .reg u j=>if u=t then G.ow (.hand k j) else G.ow (.reg u j)
  |l=>G.ow l
 have o1: ∀j,ow (.hand k j)=none:=fun j=>by simp [ow]
 have o2: ∀q j,q≠k->ow (.hand q j)=G.ow (.hand q j):=fun q j hq=>by simp [ow,hq]
 have o3: ∀j,ow (.reg t j)=G.ow (.hand k j):=fun j=>by simp [ow]
 have o4: ∀u j,u≠t->ow (.reg u j)=G.ow (.reg u j):=fun q j hq=>by simp [ow,hq]
 let r:Loc->Loc:=fun l=>match l with
  | .reg u j=>if u=t then .hand k j else .reg u j
  |l=>l
 have hr: ∀l p,ow l=some p->G.ow (r l)=some p:=by
  intro l p hl
  cases l with
  |hand q j=>
   by_cases hq:q=k
   ·subst hq;rw [o1] at hl;cases hl
   ·rw [o2 q j hq] at hl;exact hl
  |reg u j=>
   by_cases hu:u=t
   ·subst hu;rw [o3] at hl;simpa [r] using hl
   ·rw [o4 u j hu] at hl;simpa [r,hu] using hl
  |_=>exact hl
 have hk0: ∀l p,ow l=some p-> ∀j,l≠ .hand k j:=by
  rintro l p hl j rfl
  rw [o1] at hl;cases hl
 have hinj: ∀l l' b f f',ow l=some (b,f)->ow l'=some (b,f')->l=l':=by
  intro l l' b f f' h1 h2
  have e:=R.inv.ow_inj _ _ b f f' (hr _ _ h1) (hr _ _ h2)
  have g1:=hk0 _ _ h1
  have g2:=hk0 _ _ h2
  cases l<;>cases l'<;>simp only [r] at e<;>(try split at e)<;>(try split at e)<;>simp_all
 have I:Inv h { G with ow:=ow } :=R.inv.sub (fun l p hl=>⟨_,hr l p hl⟩) hinj
 have F:Fr (fun l=>∃j,l= .reg t j) h G h { G with ow:=ow } :=⟨cS.refl _,fun _ _ h=>h,fun l p hpl hl hp=>by
   show ow l=some p
   cases l with
   |hand q j=>cases hpl
   |reg u j=>rw [o4 u j (fun hu=>hl ⟨j,by rw [hu]⟩)];exact hp
   |_=>exact hp,fun _ _ _ _ _ _=>rfl⟩
 refine⟨{ G with ow:=ow },R.reg ht I F (fun _=>rfl) (fun _ _ _=>rfl) ?_ ?_ ?_,⟨cS.refl _,rfl,fun l b f hl=>⟨_,f,hr l _ hl⟩,fun b hb=>.inl hb⟩,o1,o2,fun _ _=>rfl⟩
 ·intro l p hpl hl hn
  cases l with
  |hand q j=>cases hpl
  |reg u j=>rw [<-o4 u j (fun hu=>hn j (by rw [hu]))];exact hl
  |_=>exact hl
 ·exact RD.valMove (G:=G) (G':={ G with ow:=ow }) ⟨cS.refl _,fun _ _ h=>h⟩ H.ok (fun j _ b f hb=>⟨by rw [show ({ G with ow:=ow } :Gh).ow=ow from rfl,o3];exact hb,rfl⟩) H.rd
 ·intro j p hp
  exact H.own j p (by rw [<-o3];exact hp)
def RVl (rd:Rd):List V->List Value->Prop
 | [],[]=>True
 |x::xs,v::vs=>RV rd x v/\RVl rd xs vs
 |_,_=>False
theorem RVl.mono {rd rd':Rd} (hl:cS rd rd'): ∀(xs:List V) (vs:List Value),RVl rd xs vs->RVl rd' xs vs
 | [],[],_=>trivial
 |x::xs,v::vs,hr=>⟨RV.mono hl x v hr.1,RVl.mono hl xs vs hr.2⟩
 | [],_::_,hr=>hr.elim
 |_::_,[],hr=>hr.elim
theorem RVl.length {rd:Rd} : ∀(xs:List V) (vs:List Value),RVl rd xs vs->vs.length=xs.length
 | [],[],_=>rfl
 |x::xs,v::vs,hr=>by simp [RVl.length xs vs hr.2]
 | [],_::_,hr=>hr.elim
 |_::_,[],hr=>hr.elim
theorem RVc.ofRVl {rd:Rd} : ∀(xs:List V) (vs:List Value) (c:Array Value) (off:Nat),RVl rd xs vs->(∀q v,vs[q]? =some v->c[off+q]? =some v)->RVc rd xs c off
 | [],[],_,_,_,_=>by simp only [RVc]
 |x::xs,v::vs,c,off,hr,hc=>by
  simp only [RVc]
  refine⟨⟨v,by simpa using hc 0 v rfl,hr.1⟩,RVc.ofRVl xs vs c (off+1) hr.2 (fun q u hu=>?_)⟩
  have:=hc (q+1) u (by simpa using hu)
  rw [show off+1+q=off+(q+1) by omega]
  exact this
 | [],_::_,_,_,hr,_=>hr.elim
 |_::_,[],_,_,hr,_=>hr.elim
theorem RD.toV {loc:Nat->Loc} {d:D} {v:Value} {x:V} {rd':Rd} (hl:cS G.rd rd') (ho: ∀b f,bG d=true->G.ow (loc 0)=some (b,f)-> ∀c e fr,h[b]? =some (.cells c e fr)->rd' b=some c)
  (hr:RD h G loc d v) (hx:Mx.toV d=some x):RV rd' x v:=by
 cases d<;>simp [Mx.toV] at hx<;>subst hx
 ·simp only [RD] at hr;exact RV.mono hl _ _ hr
 ·rename_i sz l
  simp only [RD,RV] at*
  rcases hr with⟨h1,rfl⟩|⟨b,off,cap,c,e,fr,h1,h2,h3,h4,h5,h6,h7⟩
  ·exact⟨none,0,by simp [h1],by simp,.inl rfl⟩
  ·exact⟨_,cap,h1,h5.1,.inr ⟨b,off,c,rfl,ho b off rfl h2 c e fr h3,RVr.mono hl _ _ _ _ h7⟩⟩
 ·rename_i sz l
  simp only [RD,RV] at*
  obtain⟨base,h1,h2⟩:=hr
  refine⟨base,l.length,h1,Nat.le_refl _,h2.imp id ?_⟩
  rintro⟨b,off,c,g1,g2,g3⟩
  exact⟨b,off,c,g1,hl _ _ g2,RVr.mono hl _ _ _ _ g3⟩
theorem RDs.toVs {loc:Nat->Loc} {rd':Rd} (hl:cS G.rd rd'): ∀(j:Nat) (ds:List D) (vs:List Value) (xs:List V),
  (∀i d,ds[i]? =some d->bG d=true-> ∀b f,G.ow (loc (j+i))=some (b,f)-> ∀c e fr,h[b]? =some (.cells c e fr)->rd' b=some c)->RDs h G loc j ds vs->Mx.toVs ds=some xs->RVl rd' xs vs
 |_,[],[],xs,_,_,hx=>by simp [Mx.toVs] at hx;subst hx;trivial
 |j,d::ds,v::vs,xs,ho,hr,hx=>by
  simp only [RDs] at hr
  simp only [Mx.toVs] at hx
  split at hx<;>try (simp at hx;done)
  rename_i x h1
  split at hx<;>try (simp at hx;done)
  rename_i s h2
  cases hx
  refine⟨RD.toV hl (fun b f hd=>by simpa using ho 0 d rfl hd b f) hr.1 h1,RDs.toVs hl (j+1) ds vs s (fun i d' hd=>?_) hr.2 h2⟩
  have:=ho (i+1) d' (by simpa using hd)
  rw [Nat.add_assoc,Nat.add_comm 1 i]
  exact this
 |_,[],_::_,_,_,hr,_=>by simp only [RDs] at hr
 |_,_::_,[],_,_,hr,_=>by simp only [RDs] at hr
theorem RD.cells {loc:Nat->Loc} {d:D} {v:Value} (hv:bD d=true) (hr:RD h G loc d v) (hb: ∀x,d= .v x->True):d= .bad∨d= .undef∨RDs h G loc 0 (cellsOf d) v.cells.toList:=by
 cases d with
 |agg cs=>
  simp only [RD] at hr
  obtain⟨vs,rfl,h2⟩:=hr
  exact .inr (.inr (by simpa [cellsOf,Value.cells] using h2))
 |bad=>exact .inl rfl
 |undef=>exact .inr (.inl rfl)
 |v x=>
  refine .inr (.inr ?_)
  have hc:v.cells= #[v]:=by
   simp only [RD] at hr
   cases x<;>simp only [RV] at hr<;>first|(subst hr;rfl)|(obtain⟨_,_,rfl,_⟩:=hr;rfl)
  rw [hc]
  simp only [cellsOf,RDs]
  exact⟨by simpa only [RD] using hr,trivial⟩
 |own sz l=>
  refine .inr (.inr ?_)
  have hc:v.cells= #[v]:=by
   simp only [RD] at hr
   rcases hr with⟨rfl,_⟩|⟨_,_,_,_,_,_,rfl,_⟩<;>rfl
  rw [hc]
  simp only [cellsOf,RDs]
  exact⟨by simpa only [RD] using hr,trivial⟩
 |cut sz l=>
  refine .inr (.inr ?_)
  have hc:v.cells= #[v]:=by
   simp only [RD] at hr
   obtain⟨_,rfl,_⟩:=hr;rfl
  rw [hc]
  simp only [cellsOf,RDs]
  exact⟨by simpa only [RD] using hr,trivial⟩
 |rp cs=>
  refine .inr (.inr ?_)
  have hc:v.cells= #[v]:=by
   simp only [RD] at hr
   obtain⟨_,_,_,rfl,_⟩:=hr;rfl
  rw [hc]
  simp only [cellsOf,RDs]
  exact⟨by simpa only [RD] using hr,trivial⟩
 |ptr o f=>
  refine .inr (.inr ?_)
  have hc:v.cells= #[v]:=by
   simp only [RD] at hr
   obtain⟨_,_,rfl⟩:=hr;rfl
  rw [hc]
  simp only [cellsOf,RDs]
  exact⟨by simpa only [RD] using hr,trivial⟩
 |clo f cs=>
  refine .inr (.inr ?_)
  have hc:v.cells= #[v]:=by
   simp only [RD] at hr
   obtain⟨_,rfl,_⟩:=hr;rfl
  rw [hc]
  simp only [cellsOf,RDs]
  exact⟨by simpa only [RD] using hr,trivial⟩
 |nilp=>
  refine .inr (.inr ?_)
  have hc:v.cells= #[v]:=by
   simp only [RD] at hr
   subst hr;rfl
  rw [hc]
  simp only [cellsOf,RDs]
  exact⟨by simpa only [RD] using hr,trivial⟩
 |_=>simp [bD,aM,bJ] at hv
theorem Rel.freeze0 (R:Rel h G tmps σ) (k:Nat):
  ∃G',Rel h G' tmps σ/\dv h G G'/\(∀b j f c e fr,G.ow (.hand k j)=some (b,f)->h[b]? =some (.cells c e fr)->G'.rd b=some c)/\(∀j,G'.ow (.hand k j)=none)/\(∀l,(∀j,l≠ .hand k j)->G'.ow l=G.ow l):=by
 let ow:Loc->Option (Nat×Nat):=fun l=>match l with
  | .hand q j=>if q=k then none else G.ow (.hand q j)
  |l=>G.ow l
 have o1: ∀j,ow (.hand k j)=none:=fun j=>by simp [ow]
 have o2: ∀l,(∀j,l≠ .hand k j)->ow l=G.ow l:=by
  intro l hl
  cases l with
  |hand q j=>simp only [ow];rw [if_neg (fun hq=>hl j (by rw [hq]))]
  |_=>rfl
 have hsub: ∀l p,ow l=some p->G.ow l=some p/\ ∀j,l≠ .hand k j:=by
  intro l p hl
  have hn: ∀j,l≠ .hand k j:=by rintro j rfl;rw [o1] at hl;cases hl
  exact⟨by rw [<-o2 l hn];exact hl,hn⟩
 let rd:Rd:=fun b=>open Classical in if (∃j f,G.ow (.hand k j)=some (b,f)) then (match h[b]? with|some (.cells c _ _)=>some c|_=>none) else G.rd b
 have r1: ∀b,(¬∃j f,G.ow (.hand k j)=some (b,f))->rd b=G.rd b:=fun b hb=>by simp only [rd];rw [if_neg hb]
 have r2: ∀b j f c e fr,G.ow (.hand k j)=some (b,f)->h[b]? =some (.cells c e fr)->rd b=some c:=fun b j f c e fr hb hc=>by simp only [rd];rw [if_pos ⟨j,f,hb⟩,hc]
 have hle:cS G.rd rd:=by
  intro b c hc
  rw [r1 b]
  ·exact hc
  ·rintro⟨j,f,hb⟩
   rw [R.inv.ow_rd _ b f hb] at hc;cases hc
 have I:Inv h { G with rd:=rd,ow:=ow } :={
  rd_ok:=fun b c hc=>by
   by_cases hb: ∃j f,G.ow (.hand k j)=some (b,f)
   ·have hc':rd b=some c:=hc
    simp only [rd] at hc'
    rw [if_pos hb] at hc'
    split at hc'
    ·rename_i c' e fr hcell
     cases hc'
     exact⟨e,fr,hcell⟩
    ·cases hc'
   ·exact R.inv.rd_ok b c (by rw [<-r1 b hb];exact hc)
  ob_lt:=R.inv.ob_lt
  ob_rd:=fun o b hb=>by
   show rd b=none
   rw [r1 b]
   ·exact R.inv.ob_rd o b hb
   ·rintro⟨j,f,hj⟩
    exact R.inv.ow_ob _ b f o hj hb
  ob_inj:=R.inv.ob_inj
  ow_lt:=fun l b f hl=>R.inv.ow_lt l b f (hsub l _ hl).1
  ow_rd:=fun l b f hl=>by
   show rd b=none
   have hl':=hsub l _ hl
   rw [r1 b]
   ·exact R.inv.ow_rd l b f hl'.1
   ·rintro⟨j,f',hj⟩
    exact hl'.2 j (R.inv.ow_inj l _ b f f' hl'.1 hj)
  ow_ob:=fun l b f o hl=>R.inv.ow_ob l b f o (hsub l _ hl).1
  ow_inj:=fun l l' b f f' h1 h2=>R.inv.ow_inj l l' b f f' (hsub _ _ h1).1 (hsub _ _ h2).1 }
 have F:Fr (fun _=>False) h G h { G with rd:=rd,ow:=ow } :=⟨hle,fun _ _ h=>h,fun l p hpl _ hp=>by
  show ow l=some p
  rw [o2 l (by rintro j rfl;cases hpl)];exact hp,fun _ _ _ _ _ _=>rfl⟩
 refine⟨{ G with rd:=rd,ow:=ow },⟨I,fun t=>RD.fr F _ (fun _=>rfl) _ _ (free.none _ _) (R.env t),?_,R.obc,R.obn,fun l p hh hl=>R.own l p hh (hsub l p hl).1⟩,⟨hle,rfl,fun l b f hl=>⟨l,f,(hsub l _ hl).1⟩,?_⟩,r2,o1,o2⟩
 ·intro o cs hcs
  obtain⟨b,c,e,fr,h1,h2,h3,h4⟩:=R.obj o cs hcs
  exact⟨b,c,e,fr,h1,h2,h3,RDs.fr F _ (fun _=>rfl) _ _ _ (kn.none _ _ _) h4⟩
 ·intro b hb
  by_cases hb': ∃j f,G.ow (.hand k j)=some (b,f)
  ·obtain⟨j,f,hj⟩:=hb';exact .inr ⟨_,f,hj⟩
  ·exact .inl (by rw [<-r1 b hb'];exact hb)
theorem Rel.freeze (R:Rel h G tmps σ) {k:Nat} {d:D} {v:Value} (H:dG h G k d v) {xs:List V} (hx:Mx.toVs (cellsOf d)=some xs):
  ∃G',Rel h G' tmps σ/\dv h G G'/\RVl G'.rd xs v.cells.toList/\(∀j,G'.ow (.hand k j)=none)/\(∀l,(∀j,l≠ .hand k j)->G'.ow l=G.ow l):=by
 obtain⟨G',R',S',hr,h1,h2⟩:=R.freeze0 k
 refine⟨G',R',S',?_,h1,h2⟩
 rcases RD.cells H.ok H.rd (fun _ _=>trivial) with rfl|rfl|hc
 ·simp [cellsOf,Mx.toVs,toV] at hx
 ·simp [cellsOf,Mx.toVs,toV] at hx
 ·exact RDs.toVs S'.rd 0 _ _ xs (fun i d' _ _ b f hb c e fr hcell=>hr b _ f c e fr (by simpa using hb) hcell) hc hx
theorem dv.more {G G':Gh} (S:dv h G G'):Cq h G h G':=⟨S.rd,fun o b hb=>by rw [S.ob];exact hb⟩
theorem Rel.freezeF (R:Rel h G tmps σ) {k:Nat} {d:D} {v:Value} (H:dG h G k d v):
  ∃G',Rel h G' tmps σ/\dv h G G'/\(∀loc,RD h G' loc (frz d) v)/\(∀j,G'.ow (.hand k j)=none)/\(∀l,(∀j,l≠ .hand k j)->G'.ow l=G.ow l):=by
 obtain⟨G',R',S',hr,h1,h2⟩:=R.freeze0 k
 refine⟨G',R',S',?_,h1,h2⟩
 have cell: ∀(j:Nat) (d:D) (v:Value) (loc:Nat->Loc),aM d=true->RD h G (fun _=>.hand k j) d v->RD h G' loc (cq d) v:=by
  intro j d v loc hck hd
  cases d with
  |own sz l=>
   have:=RD.toV (G:=G) (loc:=fun _=>.hand k j) (d:=.own sz l) (x:=.sl sz l) S'.rd (fun b f _ hb c e fr hcell=>hr b _ f c e fr hb hcell) hd rfl
   simpa only [cq,RD] using this
  |clo f cs=>
   simp only [cq,RD] at*
   obtain⟨vs,g1,g2⟩:=hd
   exact⟨vs,g1,RDs.stay S'.more 0 0 _ _ (by simpa [aM] using hck) g2⟩
  |_=>first|(exact RD.stay S'.more rfl hd)|(simp [aM,bJ] at hck)
 have cells: ∀(ds:List D) (vs:List Value) (j j':Nat) (loc:Nat->Loc),ds.all aM=true->RDs h G (Loc.hand k) j ds vs->RDs h G' loc j' (ds.map cq) vs:=by
  intro ds
  induction ds with
  |nil=>intro vs j j' loc _ hd;cases vs with
   |nil=>simp only [List.map_nil,RDs]
   |cons _ _=>simp only [RDs] at hd
  |cons d r ih=>intro vs j j' loc hok hd;cases vs with
   |nil=>simp only [RDs] at hd
   |cons v vs=>
    simp only [List.all_cons,Bool.and_eq_true] at hok
    simp only [List.map_cons,RDs] at*
    exact⟨cell j d v _ hok.1 hd.1,ih vs _ _ loc hok.2 hd.2⟩
 intro loc
 cases d with
 |agg cs=>
  have hd:=H.rd
  simp only [RD,frz] at*
  obtain⟨vs,g1,g2⟩:=hd
  exact⟨vs,g1,cells cs _ 0 0 loc (by simpa [bD] using H.ok) g2⟩
 |own sz l=>exact cell 0 (.own sz l) v loc rfl (by simpa only [RD] using H.rd)
 |clo f cs=>exact cell 0 (.clo f cs) v loc H.ok (by simpa only [RD] using H.rd)
 |_=>first|(exact RD.stay S'.more rfl H.rd)|(have:=H.ok;simp [bD,aM,bJ] at this)
end
end Go.Mx
namespace Go.Mx
open Go
section
variable {h:Array Obj} {G:Gh} {tmps:Array Value} {σ:St}
theorem fE (o:Obj) {b:Nat} (hb:b<h.size):(h.push o)[b]? =h[b]? :=by
 rw [Array.getElem?_push];rw [if_neg (by omega)]
theorem AL (o:Obj):(h.push o)[h.size]? =some o:=by simp
theorem J1 (I:Inv h G) {b:Nat} {c:Array Value} (hb:G.rd b=some c):b<h.size:=by
 obtain⟨e,fr,h1⟩:=I.rd_ok b c hb
 rcases Nat.lt_or_ge b h.size with hl|hl
 ·exact hl
 ·simp [Array.getElem?_eq_none hl] at h1
theorem Rel.grow (R:Rel h G tmps σ) (o:Obj):Rel (h.push o) G tmps σ:=by
 have I:Inv (h.push o) G:={
  rd_ok:=fun b c hb=>by
   obtain⟨e,fr,h1⟩:=R.inv.rd_ok b c hb
   exact⟨e,fr,by rw [fE o (J1 R.inv hb)];exact h1⟩
  ob_lt:=fun o' b hb=>by have:=R.inv.ob_lt o' b hb;simp;omega
  ob_rd:=R.inv.ob_rd
  ob_inj:=R.inv.ob_inj
  ow_lt:=fun l b f hb=>by have:=R.inv.ow_lt l b f hb;simp;omega
  ow_rd:=R.inv.ow_rd
  ow_ob:=R.inv.ow_ob
  ow_inj:=R.inv.ow_inj }
 have F:Fr (fun _=>False) h G (h.push o) G:=⟨cS.refl _,fun _ _ h=>h,fun _ _ _ _ h=>h,fun l b f _ _ hb=>fE o (R.inv.ow_lt l b f hb)⟩
 refine⟨I,fun t=>RD.fr F _ (fun _=>rfl) _ _ (free.none _ _) (R.env t),?_,R.obc,R.obn,R.own⟩
 intro q cs hcs
 obtain⟨b,c,e,fr,h1,h2,h3,h4⟩:=R.obj q cs hcs
 exact⟨b,c,e,fr,h1,by rw [fE o (R.inv.ob_lt q b h1)];exact h2,h3,RDs.fr F _ (fun _=>rfl) _ _ _ (kn.none _ _ _) h4⟩
theorem Cq.grow (I:Inv h G) (o:Obj):Cq h G (h.push o) G:=⟨cS.refl _,fun _ _ h=>h⟩
theorem dG.grow (R:Rel h G tmps σ) (o:Obj) {k:Nat} {d:D} {v:Value} (H:dG h G k d v):dG (h.push o) G k d v:=
 ⟨RD.valMove (Cq.grow R.inv o) H.ok (fun j _ b f hb=>⟨hb,fE o (R.inv.ow_lt _ b f hb)⟩) H.rd,H.own,H.ok⟩
theorem Rel.newRd (R:Rel h G tmps σ) (c:Array Value) (e:TypeId) (fr:Nat×Nat):
  ∃G',Rel (h.push (.cells c e fr)) G' tmps σ/\G'.rd h.size=some c/\cS G.rd G'.rd/\G'.ob=G.ob/\G'.ow=G.ow/\(∀b,G'.rd b≠none->G.rd b≠none∨b=h.size):=by
 let rd:Rd:=fun b=>if b=h.size then some c else G.rd b
 have r1:rd h.size=some c:=by simp [rd]
 have r2: ∀b,b≠h.size->rd b=G.rd b:=fun b hb=>by simp [rd,hb]
 have hle:cS G.rd rd:=fun b c' hb=>by rw [r2 b (by have:=J1 R.inv hb;omega)];exact hb
 have R':=R.grow (.cells c e fr)
 have I:Inv (h.push (.cells c e fr)) { G with rd:=rd } :={
  rd_ok:=fun b c' hb=>by
   by_cases hbs:b=h.size
   ·subst hbs
    have:rd h.size=some c':=hb
    rw [r1] at this;cases this
    exact⟨e,fr,AL _⟩
   ·exact R'.inv.rd_ok b c' (by rw [<-r2 b hbs];exact hb)
  ob_lt:=R'.inv.ob_lt
  ob_rd:=fun o b hb=>by
   show rd b=none
   rw [r2 b (by have:=R.inv.ob_lt o b hb;omega)];exact R.inv.ob_rd o b hb
  ob_inj:=R.inv.ob_inj
  ow_lt:=R'.inv.ow_lt
  ow_rd:=fun l b f hb=>by
   show rd b=none
   rw [r2 b (by have:=R.inv.ow_lt l b f hb;omega)];exact R.inv.ow_rd l b f hb
  ow_ob:=R.inv.ow_ob
  ow_inj:=R.inv.ow_inj }
 have F:Fr (fun _=>False) (h.push (.cells c e fr)) G (h.push (.cells c e fr)) { G with rd:=rd } :=⟨hle,fun _ _ h=>h,fun _ _ _ _ h=>h,fun _ _ _ _ _ _=>rfl⟩
 refine⟨{ G with rd:=rd },⟨I,fun t=>RD.fr F _ (fun _=>rfl) _ _ (free.none _ _) (R'.env t),?_,R.obc,R.obn,R.own⟩,r1,hle,rfl,rfl,fun b hb=>?_⟩
 ·intro q cs hcs
  obtain⟨b,c',e',fr',h1,h2,h3,h4⟩:=R'.obj q cs hcs
  exact⟨b,c',e',fr',h1,h2,h3,RDs.fr F _ (fun _=>rfl) _ _ _ (kn.none _ _ _) h4⟩
 ·by_cases hbs:b=h.size
  ·exact .inr hbs
  ·exact .inl (by rw [<-r2 b hbs];exact hb)
theorem Rel.newOwn (R:Rel h G tmps σ) {k:Nat} (hk: ∀j,G.ow (.hand k j)=none) (c:Array Value) (e:TypeId) (fr:Nat×Nat) (hfr:fQ c fr) {sz len cap:Nat} {l:List (List V)}
  (hl:l.length=len) (hz:sz≠0) (hc:len<=cap) (hs:cap*sz<=c.size) (hr:RVr G.rd sz l c 0):
  ∃G',Rel (h.push (.cells c e fr)) G' tmps σ/\dG (h.push (.cells c e fr)) G' k (.own sz l) (.slice (some ⟨h.size,0,none⟩) len cap)/\G'.rd=G.rd/\G'.ob=G.ob/\(∀l,(∀j,l≠ .hand k j)->G'.ow l=G.ow l)/\
   (∀l b f,G'.ow l=some (b,f)->G.ow l=some (b,f)∨b=h.size):=by
 let ow:Loc->Option (Nat×Nat):=fun l=>if l= .hand k 0 then some (h.size,0) else G.ow l
 have o1:ow (.hand k 0)=some (h.size,0):=by simp [ow]
 have o2: ∀l,l≠ .hand k 0->ow l=G.ow l:=fun l hl=>by simp [ow,hl]
 have R':=R.grow (.cells c e fr)
 have hcase: ∀l b f,ow l=some (b,f)->G.ow l=some (b,f)∨(l= .hand k 0/\b=h.size/\f=0):=by
  intro l b f hb
  by_cases hl0:l= .hand k 0
  ·subst hl0;rw [o1] at hb;cases hb;exact .inr ⟨rfl,rfl,rfl⟩
  ·exact .inl (by rw [<-o2 l hl0];exact hb)
 have I:Inv (h.push (.cells c e fr)) { G with ow:=ow } :={
  rd_ok:=R'.inv.rd_ok
  ob_lt:=R'.inv.ob_lt
  ob_rd:=R.inv.ob_rd
  ob_inj:=R.inv.ob_inj
  ow_lt:=fun l b f hb=>by
   rcases hcase l b f hb with hb|⟨_,rfl,_⟩
   ·exact R'.inv.ow_lt l b f hb
   ·simp
  ow_rd:=fun l b f hb=>by
   rcases hcase l b f hb with hb|⟨_,rfl,_⟩
   ·exact R.inv.ow_rd l b f hb
   ·cases hrd:G.rd h.size with
    |none=>rfl
    |some c'=>have:=J1 R.inv hrd;omega
  ow_ob:=fun l b f o hb ho=>by
   rcases hcase l b f hb with hb|⟨_,rfl,_⟩
   ·exact R.inv.ow_ob l b f o hb ho
   ·have:=R.inv.ob_lt o _ ho;omega
  ow_inj:=fun l l' b f f' h1 h2=>by
   rcases hcase l b f h1 with h1|⟨rfl,rfl,rfl⟩<;>rcases hcase l' _ f' h2 with h2|⟨rfl,hb,rfl⟩
   ·exact R.inv.ow_inj l l' b f f' h1 h2
   ·subst hb;have:=R.inv.ow_lt l _ f h1;omega
   ·have:=R.inv.ow_lt l' _ f' h2;omega
   ·rfl }
 have F:Fr (fun _=>False) (h.push (.cells c e fr)) G (h.push (.cells c e fr)) { G with ow:=ow } :=⟨cS.refl _,fun _ _ h=>h,fun l p hpl _ hp=>by
  show ow l=some p
  rw [o2 l (by rintro rfl;cases hpl)];exact hp,fun _ _ _ _ _ _=>rfl⟩
 refine⟨{ G with ow:=ow },⟨I,fun t=>RD.fr F _ (fun _=>rfl) _ _ (free.none _ _) (R'.env t),?_,R.obc,R.obn,?_⟩,⟨?_,?_,rfl⟩,rfl,rfl,fun l hl'=>o2 l (hl' 0),fun l b f hb=>(hcase l b f hb).imp id (fun h=>h.2.1)⟩
 ·intro q cs hcs
  obtain⟨b,c',e',fr',h1,h2,h3,h4⟩:=R'.obj q cs hcs
  exact⟨b,c',e',fr',h1,h2,h3,RDs.fr F _ (fun _=>rfl) _ _ _ (kn.none _ _ _) h4⟩
 ·intro l p hh hp
  have hp':ow l=some p:=hp
  rw [o2 l (hh k 0)] at hp'
  exact R.own l p hh hp'
 ·simp only [RD]
  refine .inr ⟨h.size,0,cap,c,e,fr,by rw [hl],o1,AL _,hfr,by omega,by simpa using hs,hr⟩
 ·intro j p hp
  have hp':ow (.hand k j)=some p:=hp
  by_cases hj:j=0
  ·subst hj;rfl
  ·rw [o2 _ (by simpa using hj),hk] at hp';cases hp'
theorem Rel.newObj (R : Rel h G tmps σ) {k : Nat} {d : D} {v : Value} (H : dG h G k d v) (hok : (cellsOf d).all aM = true) (hcells : RDs h G (Loc.hand k) 0 (cellsOf d) v.cells.toList) (e : TypeId) :
    ∃ G', Rel (h.push (.cells v.cells e)) G' tmps { σ with S := σ.S ++ [cellsOf d] } /\ G'.ob σ.S.length = some h.size /\ G'.rd = G.rd /\ (∀ o, o ≠ σ.S.length -> G'.ob o = G.ob o) /\ (∀ j, G'.ow (.hand k j) = none) /\
      (∀ l, (∀ j, l ≠ .hand k j) -> (∀ j, l ≠ .cell σ.S.length j) -> G'.ow l = G.ow l) /\ (∀ l b f, G'.ow l = some (b, f) -> ∃ l0, G.ow l0 = some (b, f)) := by
  let N := σ.S.length
  let ow : Loc -> Option (Nat × Nat) := fun l => match l with
    | .hand q j => if q = k then none else G.ow (.hand q j)
    | .cell o j => if o = N then G.ow (.hand k j) else G.ow (.cell o j)
    | l => G.ow l
  let ob : Nat -> Option Nat := fun o => if o = N then some h.size else G.ob o
  have o1 : ∀ j, ow (.hand k j) = none := fun j => by simp [ow]
  have o3 : ∀ j, ow (.cell N j) = G.ow (.hand k j) := fun j => by simp [ow]
  have o2 : ∀ l, (∀ j, l ≠ .hand k j) -> (∀ j, l ≠ .cell N j) -> ow l = G.ow l := by
    intro l h1 h2
    cases l with
    | hand q j => simp only [ow]; rw [if_neg (fun hq => h1 j (by rw [hq]))]
    | cell o j => simp only [ow]; rw [if_neg (fun hq => h2 j (by rw [hq]))]
    | _ => rfl
  have b1 : ob N = some h.size := by simp [ob]
  have b2 : ∀ o, o ≠ N -> ob o = G.ob o := fun o ho => by simp [ob, ho]
  have hobN : G.ob N = none := R.obn N (Nat.le_refl _)
  have hSN : σ.S[N]? = none := by simp [N]
  let r : Loc -> Loc := fun l => match l with
    | .cell o j => if o = N then .hand k j else .cell o j
    | l => l
  have hr : ∀ l p, ow l = some p -> G.ow (r l) = some p /\ ∀ j, l ≠ .hand k j := by
    intro l p hl
    refine ⟨?_, by rintro j rfl; rw [o1] at hl; cases hl⟩
    cases l with
    | hand q j =>
      by_cases hq : q = k
      . subst hq; rw [o1] at hl; cases hl
      . simp only [ow] at hl; rw [if_neg hq] at hl; exact hl
    | cell o j =>
      by_cases ho : o = N
      . subst ho; rw [o3] at hl; simpa [r] using hl
      . simp only [ow] at hl; rw [if_neg ho] at hl; simpa [r, ho] using hl
    | _ => exact hl
  have R' := R.grow (.cells v.cells e)
  have hinj : ∀ l l' b f f', ow l = some (b, f) -> ow l' = some (b, f') -> l = l' := by
    intro l l' b f f' h1 h2
    have e := R.inv.ow_inj _ _ b f f' (hr _ _ h1).1 (hr _ _ h2).1
    have g1 := (hr _ _ h1).2
    have g2 := (hr _ _ h2).2
    cases l <;> cases l' <;> simp only [r] at e <;> (try split at e) <;> (try split at e) <;> simp_all
  have I : Inv (h.push (.cells v.cells e)) { rd := G.rd, ob := ob, ow := ow } := {
    rd_ok := R'.inv.rd_ok
    ob_lt := fun o b hb => by
      by_cases ho : o = N
      . subst ho
        have : ob N = some b := hb
        rw [b1] at this; cases this; simp
      . exact R'.inv.ob_lt o b (by rw [<- b2 o ho]; exact hb)
    ob_rd := fun o b hb => by
      by_cases ho : o = N
      . subst ho
        have : ob N = some b := hb
        rw [b1] at this; cases this
        cases hrd : G.rd h.size with
        | none => rfl
        | some c' => have := J1 R.inv hrd; omega
      . exact R.inv.ob_rd o b (by rw [<- b2 o ho]; exact hb)
    ob_inj := fun o o' b h1 h2 => by
      have h1' : ob o = some b := h1
      have h2' : ob o' = some b := h2
      by_cases ho : o = N <;> by_cases ho' : o' = N
      . rw [ho, ho']
      . rw [ho, b1] at h1'; cases h1'
        rw [b2 o' ho'] at h2'
        have := R.inv.ob_lt o' _ h2'; omega
      . rw [ho', b1] at h2'; cases h2'
        rw [b2 o ho] at h1'
        have := R.inv.ob_lt o _ h1'; omega
      . rw [b2 o ho] at h1'; rw [b2 o' ho'] at h2'
        exact R.inv.ob_inj o o' b h1' h2'
    ow_lt := fun l b f hl => R'.inv.ow_lt _ b f (hr l _ hl).1
    ow_rd := fun l b f hl => R.inv.ow_rd _ b f (hr l _ hl).1
    ow_ob := fun l b f o hl ho => by
      have hl' := (hr l _ hl).1
      have ho' : ob o = some b := ho
      by_cases hoN : o = N
      . rw [hoN, b1] at ho'; cases ho'
        have := R.inv.ow_lt _ _ f hl'; omega
      . rw [b2 o hoN] at ho'
        exact R.inv.ow_ob _ b f o hl' ho'
    ow_inj := hinj }
  have F : Fr (fun l => ∃ j, l = .cell N j) (h.push (.cells v.cells e)) G (h.push (.cells v.cells e)) { rd := G.rd, ob := ob, ow := ow } := ⟨cS.refl _, fun o b hb => by
      show ob o = some b
      rw [b2 o (by rintro rfl; rw [hobN] at hb; cases hb)]; exact hb, fun l p hpl hl hp => by
      show ow l = some p
      rw [o2 l (by rintro j rfl; cases hpl) (fun j hj => hl ⟨j, hj⟩)]; exact hp, fun _ _ _ _ _ _ => rfl⟩
  -- nothing is owned at the new variable's places till now
  have hNo : ∀ j, G.ow (.cell N j) = none := by
    intro j
    cases ho : G.ow (.cell N j) with
    | none => rfl
    | some p =>
      have := R.own _ p (fun _ _ h => by cases h) ho
      simp [dg, hSN] at this
  have F0 : Fr (fun _ => False) (h.push (.cells v.cells e)) G (h.push (.cells v.cells e)) { rd := G.rd, ob := ob, ow := ow } := ⟨F.rd, F.ob, fun l p hpl _ hp => F.ow l p hpl (by rintro ⟨j, rfl⟩; rw [hNo] at hp; cases hp) hp, fun _ _ _ _ _ _ => rfl⟩
  refine ⟨{ rd := G.rd, ob := ob, ow := ow }, ⟨I, fun t => RD.fr F0 _ (fun _ => rfl) _ _ (free.none _ _) (R'.env t), ?_, ?_, ?_, ?_⟩, b1, rfl, b2, o1, o2, fun l b f hl => ⟨_, (hr l _ hl).1⟩⟩
  . intro q cs hcs
    by_cases hq : q < σ.S.length
    . rw [List.getElem?_append_left hq] at hcs
      obtain ⟨b, c', e', fr', h1, h2, h3, h4⟩ := R'.obj q cs hcs
      exact ⟨b, c', e', fr', F.ob q b h1, h2, h3, RDs.fr F0 _ (fun _ => rfl) _ _ _ (kn.none _ _ _) h4⟩
    . rw [List.getElem?_append_right (by omega)] at hcs
      have hqN : q - σ.S.length = 0 := by
        rcases Nat.eq_zero_or_pos (q - σ.S.length) with h0 | h0
        . exact h0
        . rw [List.getElem?_eq_none (by simp; omega)] at hcs; cases hcs
      rw [hqN] at hcs
      simp at hcs
      subst hcs
      have hqe : q = N := by simp only [N]; omega
      subst hqe
      refine ⟨h.size, v.cells, e, (0, 0), b1, AL _, by intro i _; omega, ?_⟩
      refine RDs.cellMove (G := G) (G' := { rd := G.rd, ob := ob, ow := ow }) (h := h) ⟨cS.refl _, F.ob⟩ 0 0 _ _ hok (fun i d' hd _ b f hb => ⟨?_, fE _ (R.inv.ow_lt _ b f hb)⟩) hcells
      show ow (.cell N (0 + i)) = some (b, f)
      rw [o3]; exact hb
  . intro q cs hcs
    by_cases hq : q < σ.S.length
    . rw [List.getElem?_append_left hq] at hcs; exact R.obc q cs hcs
    . rw [List.getElem?_append_right (by omega)] at hcs
      have hqN : q - σ.S.length = 0 := by
        rcases Nat.eq_zero_or_pos (q - σ.S.length) with h0 | h0
        . exact h0
        . rw [List.getElem?_eq_none (by simp; omega)] at hcs; cases hcs
      rw [hqN] at hcs
      simp at hcs
      subst hcs
      exact hok
  . intro o ho
    simp at ho
    show ob o = none
    rw [b2 o (by simp only [N]; omega)]
    exact R.obn o (by omega)
  . intro l p hh hp
    have hp' : ow l = some p := hp
    cases l with
    | hand q j => exact absurd rfl (hh q j)
    | cell o j =>
      by_cases ho : o = N
      . subst ho
        rw [o3] at hp'
        have := H.own j p hp'
        have hg : (σ.S ++ [cellsOf d])[N]? = some (cellsOf d) := by simp [N]
        unfold dg
        simp only [hg]
        unfold cW at this
        cases d <;> simp only [cellsOf] at * <;> try (cases this; done)
        . have hj : j = 0 := by simpa using this
          subst hj; rfl
        . rename_i cs
          cases hcj : cs[j]? with
          | none => rw [hcj] at this; cases this
          | some d' => rw [hcj] at this; exact this
      . have hl' : G.ow (.cell o j) = some p := by simp only [ow] at hp'; rw [if_neg ho] at hp'; exact hp'
        have := R.own _ p hh hl'
        unfold dg at this ⊢
        simp only at this ⊢
        have hlt : o < σ.S.length := by
          rcases Nat.lt_or_ge o σ.S.length with h' | h'
          . exact h'
          . rw [List.getElem?_eq_none h'] at this; cases this
        rw [List.getElem?_append_left hlt]
        exact this
    | reg t j =>
      have hl' : G.ow (.reg t j) = some p := hp'
      exact R.own _ p hh hl'
    | nowhere =>
      have hl' : G.ow .nowhere = some p := hp'
      exact R.own _ p hh hl'
end
end Go.Mx
namespace Go.Mx
open Go
def wr (c:Array Value) (o:Nat):List Value->Array Value
 | []=>c
 |v::r=>wr (c.setIfInBounds o v) (o+1) r
theorem eT: ∀(vs:List Value) (c:Array Value) (o:Nat),(wr c o vs).size=c.size
 | [],_,_=>rfl
 |v::r,c,o=>by rw [wr,eT r];simp
theorem gq: ∀(vs:List Value) (c:Array Value) (o i:Nat),(i<o∨o+vs.length<=i)->(wr c o vs)[i]? =c[i]?
 | [],_,_,_,_=>rfl
 |v::r,c,o,i,h=>by
  simp only [List.length_cons] at h
  rw [wr,gq r _ _ i (by omega),Array.getElem?_setIfInBounds,if_neg (by omega)]
theorem CI: ∀(vs:List Value) (c:Array Value) (o j:Nat),o+vs.length<=c.size->j<vs.length->(wr c o vs)[o+j]? =vs[j]?
 | [],_,_,_,_,h=>by simp at h
 |v::r,c,o,0,hs,_=>by
  simp only [List.length_cons] at hs
  rw [wr,gq r _ _ _ (by omega),Array.getElem?_setIfInBounds,if_pos (by omega),if_pos (by omega)];rfl
 |v::r,c,o,j+1,hs,h=>by
  simp only [List.length_cons] at hs h
  have:=CI r (c.setIfInBounds o v) (o+1) j (by simp;omega) (by omega)
  rw [wr,show o+(j+1)=o+1+j by omega,this];rfl
section
variable (w:World) (b:Nat)
theorem EZ {c:Array Value} {e:TypeId} {fr:Nat×Nat} (h:w.heap[b]? =some (.cells c e fr)) (o:Nat) (v:Value):(w.setCell ⟨b,o,none⟩ v).heap[b]? =some (.cells (c.setIfInBounds o v) e fr):=by
 simp [World.setCell,Array.getElem?_modify,h]
end
theorem eR (b:Nat) {e:TypeId} {fr:Nat×Nat} : ∀(vs:List Value) (w:World) (c:Array Value) (o:Nat),w.heap[b]? =some (.cells c e fr)->(w.setCells b o vs).heap[b]? =some (.cells (wr c o vs) e fr)
 | [],_,_,_,h=>h
 |v::r,w,c,o,h=>by
  rw [World.setCells,wr]
  exact eR b r _ _ _ (EZ w b h o v)
theorem dK (b:Nat) {k:Nat} (hk:k≠b): ∀(vs:List Value) (w:World) (o:Nat),(w.setCells b o vs).heap[k]? =w.heap[k]?
 | [],_,_=>rfl
 |v::r,w,o=>by
  rw [World.setCells,dK b hk r]
  simp only [World.setCell,Array.getElem?_modify]
  rw [if_neg (fun h=>hk h.symm)]
theorem dD (b:Nat): ∀(vs:List Value) (w:World) (o:Nat),(w.setCells b o vs).heap.size=w.heap.size
 | [],_,_=>rfl
 |v::r,w,o=>by rw [World.setCells,dD b r];simp [World.setCell]
theorem gL (b:Nat): ∀(vs:List Value) (w:World) (o:Nat),(w.setCells b o vs).tape=w.tape
 | [],_,_=>rfl
 |v::r,w,o=>by rw [World.setCells,gL b r];rfl
theorem ig (b:Nat): ∀(vs:List Value) (w:World) (o:Nat),(w.setCells b o vs).os=w.os
 | [],_,_=>rfl
 |v::r,w,o=>by rw [World.setCells,ig b r];rfl
theorem fP (b:Nat): ∀(vs:List Value) (w:World) (o:Nat),(w.setCells b o vs).output=w.output
 | [],_,_=>rfl
 |v::r,w,o=>by rw [World.setCells,fP b r];rfl
theorem HY {w:World} {b o n:Nat} {c:Array Value} {e:TypeId} {fr:Nat×Nat} (h:w.heap[b]? =some (.cells c e fr)) (hf:fQ c fr) (hn:o+n<=c.size):w.there b o n:=by
 intro j hj
 refine⟨?_,?_⟩
 ·rw [dZ rfl h];simp;omega
 ·have:=hf (o+j) (by omega)
  simp only [World.frozen?,h]
  simp only [Bool.and_eq_false_iff,decide_eq_false_iff_not]
  omega
theorem RDs.of_get {h:Array Obj} {G:Gh} (loc:Nat->Loc): ∀(j:Nat) (ds:List D) (vs:List Value),vs.length=ds.length->(∀i d,ds[i]? =some d-> ∃v,vs[i]? =some v/\RD h G (fun _=>loc (j+i)) d v)->RDs h G loc j ds vs
 |_,[],[],_,_=>by simp only [RDs]
 |j,d::ds,v::vs,hl,hg=>by
  simp only [RDs]
  refine⟨?_,RDs.of_get loc (j+1) ds vs (by simpa using hl) (fun i d' hd=>?_)⟩
  ·obtain⟨v',h1,h2⟩:=hg 0 d rfl
   simp at h1;subst h1;simpa using h2
  ·obtain⟨v',h1,h2⟩:=hg (i+1) d' (by simpa using hd)
   refine⟨v',by simpa using h1,?_⟩
   rw [Nat.add_assoc,Nat.add_comm 1 i];exact h2
 |_,[],_::_,hl,_=>by simp at hl
 |_,_::_,[],hl,_=>by simp at hl
theorem RVc.of_get {rd:Rd} : ∀(l:List V) (c:Array Value) (off:Nat),(∀i x,l[i]? =some x-> ∃v,c[off+i]? =some v/\RV rd x v)->RVc rd l c off
 | [],_,_,_=>by simp only [RVc]
 |x::r,c,off,h=>by
  simp only [RVc]
  refine⟨by simpa using h 0 x rfl,RVc.of_get r c (off+1) (fun i y hy=>?_)⟩
  have:=h (i+1) y (by simpa using hy)
  rwa [Nat.add_assoc,Nat.add_comm 1 i]
theorem RVr.of_get {rd:Rd} (sz:Nat): ∀(l:List (List V)) (c:Array Value) (off:Nat),(∀i r,l[i]? =some r->r.length=sz/\RVc rd r c (off+i*sz))->RVr rd sz l c off
 | [],_,_,_=>by simp only [RVr]
 |r::l,c,off,h=>by
  simp only [RVr]
  have h0:=h 0 r rfl
  refine⟨h0.1,by simpa using h0.2,RVr.of_get sz l c (off+sz) (fun i y hy=>?_)⟩
  have:=h (i+1) y (by simpa using hy)
  rwa [Nat.succ_mul,Nat.add_comm (i*sz) sz,<-Nat.add_assoc] at this
theorem em: ∀(ds cs:List D) (off:Nat),(setCells cs off ds).length=cs.length
 | [],_,_=>rfl
 |d::r,cs,off=>by rw [setCells,em r];simp
theorem di: ∀(ds cs:List D) (off i:Nat),(i<off∨off+ds.length<=i)->(setCells cs off ds)[i]? =cs[i]?
 | [],_,_,_,_=>rfl
 |d::r,cs,off,i,h=>by
  simp only [List.length_cons] at h
  rw [setCells,di r _ _ i (by omega),List.getElem?_set,if_neg (by omega)]
theorem dF: ∀(ds cs:List D) (off j:Nat),off+ds.length<=cs.length->j<ds.length->(setCells cs off ds)[off+j]? =ds[j]?
 | [],_,_,_,_,h=>by simp at h
 |d::r,cs,off,0,hs,_=>by
  simp only [List.length_cons] at hs
  rw [setCells,di r _ _ _ (by omega),List.getElem?_set,if_pos (by omega),if_pos (by omega)];rfl
 |d::r,cs,off,j+1,hs,h=>by
  simp only [List.length_cons] at hs h
  have:=dF r (cs.set off d) (off+1) j (by simp;omega) (by omega)
  rw [setCells]
  rw [show off+(j+1)=off+1+j by omega,this];rfl
theorem gY: ∀(ds cs:List V) (off:Nat),(bX cs off ds).length=cs.length
 | [],_,_=>rfl
 |d::r,cs,off=>by rw [bX,gY r];simp
theorem yR: ∀(ds cs:List V) (off i:Nat),(i<off∨off+ds.length<=i)->(bX cs off ds)[i]? =cs[i]?
 | [],_,_,_,_=>rfl
 |d::r,cs,off,i,h=>by
  simp only [List.length_cons] at h
  rw [bX,yR r _ _ i (by omega),List.getElem?_set,if_neg (by omega)]
theorem HI: ∀(ds cs:List V) (off j:Nat),off+ds.length<=cs.length->j<ds.length->(bX cs off ds)[off+j]? =ds[j]?
 | [],_,_,_,_,h=>by simp at h
 |d::r,cs,off,0,hs,_=>by
  simp only [List.length_cons] at hs
  rw [bX,yR r _ _ _ (by omega),List.getElem?_set,if_pos (by omega),if_pos (by omega)];rfl
 |d::r,cs,off,j+1,hs,h=>by
  simp only [List.length_cons] at hs h
  have:=HI r (cs.set off d) (off+1) j (by simp;omega) (by omega)
  rw [bX]
  rw [show off+(j+1)=off+1+j by omega,this];rfl
theorem zU {d:D} {j:Nat} (h:cW d j=true): ∃d',(cellsOf d)[j]? =some d'/\bG d'=true:=by
 unfold cW at h
 split at h
 ·have hj:j=0:=by simpa using h
  subst hj;exact⟨_,rfl,rfl⟩
 ·rename_i cs
  cases hc:cs[j]? with
  |none=>simp [hc] at h
  |some d'=>exact⟨d',by simpa [cellsOf] using hc,by simpa [hc] using h⟩
 ·cases h
section
variable {h h':Array Obj} {G:Gh} {tmps:Array Value} {σ:St}
theorem Rel.put (R:Rel h G tmps σ) {k:Nat} {d:D} {v:Value} (H:dG h G k d v) (hok:(cellsOf d).all aM=true) (hcells:RDs h G (Loc.hand k) 0 (cellsOf d) v.cells.toList)
  {o b off:Nat} {cs:List D} {c:Array Value} {e:TypeId} {fr:Nat×Nat} (hcs:σ.S[o]? =some cs) (hb:G.ob o=some b) (hh:h[b]? =some (.cells c e fr)) (hoff:off+(cellsOf d).length<=cs.length)
  (hs:h'.size=h.size) (hne: ∀q,q≠b->h'[q]? =h[q]?) (hb':h'[b]? =some (.cells (wr c off v.cells.toList) e fr)):
  ∃G',Rel h' G' tmps { env:=bif ((cs.drop off).take (cellsOf d).length).any bG then kill (bU o) σ.env else σ.env,S:=σ.S.set o (setCells cs off (cellsOf d)) } /\G'.rd=G.rd/\G'.ob=G.ob/\(∀j,G'.ow (.hand k j)=none)/\
   (∀l p,G'.ow l=some p-> ∃l0,G.ow l0=some p)/\(∀q j,q≠k->G'.ow (.hand q j)=G.ow (.hand q j)):=by
 let n:=(cellsOf d).length
 have hn:(cellsOf d).length=n:=rfl
 let ow:Loc->Option (Nat×Nat):=fun l=>match l with
  | .hand q j=>if q=k then none else G.ow (.hand q j)
  | .cell q j=>if q=o/\off<=j/\j<off+n then G.ow (.hand k (j-off)) else G.ow (.cell q j)
  |l=>G.ow l
 have o1: ∀j,ow (.hand k j)=none:=fun j=>by simp [ow]
 have o2: ∀q j,q≠k->ow (.hand q j)=G.ow (.hand q j):=fun q j hq=>by simp [ow,hq]
 have o3: ∀j,off<=j->j<off+n->ow (.cell o j)=G.ow (.hand k (j-off)):=fun j h1 h2=>by simp [ow,h1,h2]
 have o4: ∀q j,¬(q=o/\off<=j/\j<off+n)->ow (.cell q j)=G.ow (.cell q j):=fun q j hq=>by simp only [ow];rw [if_neg hq]
 let r:Loc->Loc:=fun l=>match l with
  | .cell q j=>if q=o/\off<=j/\j<off+n then .hand k (j-off) else .cell q j
  |l=>l
 have hr: ∀l p,ow l=some p->G.ow (r l)=some p/\ ∀j,l≠ .hand k j:=by
  intro l p hl
  refine⟨?_,by rintro j rfl;rw [o1] at hl;cases hl⟩
  cases l with
  |hand q j=>
   by_cases hq:q=k
   ·subst hq;rw [o1] at hl;cases hl
   ·rw [o2 q j hq] at hl;exact hl
  |cell q j=>
   by_cases hq:q=o/\off<=j/\j<off+n
   ·obtain⟨rfl,h1,h2⟩:=hq
    rw [o3 j h1 h2] at hl;simpa [r,h1,h2] using hl
   ·rw [o4 q j hq] at hl;simp only [r];rw [if_neg hq];exact hl
  |_=>exact hl
 have hinj: ∀l l' b f f',ow l=some (b,f)->ow l'=some (b,f')->l=l':=by
  intro l l' b f f' h1 h2
  have e:=R.inv.ow_inj _ _ b f f' (hr _ _ h1).1 (hr _ _ h2).1
  have g1:=(hr _ _ h1).2
  have g2:=(hr _ _ h2).2
  cases l with
  |cell q j=>
   cases l' with
   |cell q' j'=>
    simp only [r] at e
    split at e<;>split at e
    ·rename_i a1 a2
     have:j=j':=by injection e;omega
     rw [a1.1,a2.1,this]
    ·cases e
    ·cases e
    ·exact e
   |hand q' j'=>
    simp only [r] at e
    split at e
    ·injection e with e1 e2;subst e1;exact absurd rfl (g2 _)
    ·cases e
   |_=>simp only [r] at e;split at e<;>cases e
  |hand q j=>
   cases l' with
   |cell q' j'=>
    simp only [r] at e
    split at e
    ·injection e with e1 e2;subst e1;exact absurd rfl (g1 _)
    ·cases e
   |_=>exact e
  |_=>
   cases l' with
   |cell q' j'=>simp only [r] at e;split at e<;>cases e
   |_=>exact e
 have hrdb:G.rd b=none:=R.inv.ob_rd o b hb
 have I:Inv h' { rd:=G.rd,ob:=G.ob,ow:=ow } :={
  rd_ok:=fun q c' hq=>by
   have hqb:q≠b:=by rintro rfl;rw [hrdb] at hq;cases hq
   rw [hne q hqb];exact R.inv.rd_ok q c' hq
  ob_lt:=fun q b' hq=>by rw [hs];exact R.inv.ob_lt q b' hq
  ob_rd:=R.inv.ob_rd
  ob_inj:=R.inv.ob_inj
  ow_lt:=fun l b f hl=>by rw [hs];exact R.inv.ow_lt _ b f (hr l _ hl).1
  ow_rd:=fun l b f hl=>R.inv.ow_rd _ b f (hr l _ hl).1
  ow_ob:=fun l b f o hl ho=>R.inv.ow_ob _ b f o (hr l _ hl).1 ho
  ow_inj:=hinj }
 have howh: ∀l b' f,G.ow l=some (b',f)->h'[b']? =h[b']? :=fun l b' f hl=>hne b' (by rintro rfl;exact R.inv.ow_ob l _ f o hl hb)
 have F:Fr (fun l=>∃j,off<=j/\j<off+n/\l= .cell o j) h G h' { rd:=G.rd,ob:=G.ob,ow:=ow } :=⟨cS.refl _,fun _ _ h=>h,fun l p hpl hl hp=>by
   show ow l=some p
   cases l with
   |hand q j=>cases hpl
   |cell q j=>
    rw [o4 q j (fun ⟨a,b,c⟩=>hl ⟨j,b,c,by rw [a]⟩)];exact hp
   |_=>exact hp,fun l b' f _ _ hl=>howh l b' f hl⟩
 obtain⟨b0,c0,e0,fr0,g1,g2,g3,g4⟩:=R.obj o cs hcs
 have hbb:b0=b:=by rw [hb] at g1;cases g1;rfl
 subst hbb
 rw [hh] at g2;cases g2
 have hlen:=RDs.length _ _ _ _ g4
 have hvl:=RDs.length _ _ _ _ hcells
 have hNo:((cs.drop off).take n).any bG=false-> ∀j,off<=j->j<off+n->G.ow (.cell o j)=none:=by
  intro ha j h1 h2
  cases ho:G.ow (.cell o j) with
  |none=>rfl
  |some p=>
   exfalso
   have:=R.own _ p (fun _ _ h=>by cases h) ho
   simp only [dg,hcs] at this
   cases hj:cs[j]? with
   |none=>rw [hj] at this;cases this
   |some d'=>
    rw [hj] at this
    rw [List.any_eq_false] at ha
    refine ha d' ?_ this
    refine List.mem_of_getElem? (i:=j-off) ?_
    rw [List.getElem?_take,if_pos (by omega),List.getElem?_drop,show off+(j-off)=j by omega,hj]
 refine⟨{ rd:=G.rd,ob:=G.ob,ow:=ow },⟨I,?_,?_,?_,?_,?_⟩,rfl,rfl,o1,fun l p hl=>⟨_,(hr l p hl).1⟩,o2⟩
 ·intro t
  simp only [hn]
  cases ha:((cs.drop off).take n).any bG with
  |false=>
   simp only [cond_false]
   have F0:Fr (fun _=>False) h G h' { rd:=G.rd,ob:=G.ob,ow:=ow } :=⟨F.rd,F.ob,fun l p hpl _ hp=>F.ow l p hpl (by rintro⟨j,h1,h2,rfl⟩;rw [hNo ha j h1 h2] at hp;cases hp) hp,fun l b' f _ _ hl=>howh l b' f hl⟩
   exact RD.fr F0 _ (fun _=>rfl) _ _ (free.none _ _) (R.env t)
  |true=>
   simp only [cond_true]
   rw [cU]
   refine RD.fr F _ (fun _=>rfl) _ _ (free.kill ?_ ?_ ?_ _) (RD.kill _ _ _ (R.env t))
   ·rintro l ⟨j,_,_,rfl⟩;simp [bU]
   ·rintro⟨j,_,_,hj⟩;cases hj
   ·rintro j ⟨q,_,_,hq⟩;cases hq
 ·intro q cs' hcs'
  have hol:o<σ.S.length:=by
   rcases Nat.lt_or_ge o σ.S.length with hl|hl
   ·exact hl
   ·rw [List.getElem?_eq_none hl] at hcs;cases hcs
  simp only [List.getElem?_set] at hcs'
  by_cases hq:o=q
  ·subst hq
   rw [if_pos rfl,if_pos hol] at hcs'
   cases hcs'
   refine⟨b0,_,e,fr,hb,hb',?_,?_⟩
   ·intro i hi;rw [eT] at hi;exact g3 i hi
   ·refine RDs.of_get _ _ _ _ ?_ ?_
    ·rw [Array.length_toList,eT,em,<-hlen,Array.length_toList]
    ·intro i d' hd'
     rw [Nat.zero_add]
     by_cases hin:off<=i/\i<off+n
     ·have hi':i=off+(i-off):=by omega
      rw [hi',dF _ _ _ _ hoff (by omega)] at hd'
      obtain⟨v',hv1,hv2⟩:=RDs.get _ _ _ _ _ _ hcells hd'
      refine⟨v',?_,?_⟩
      ·rw [Array.getElem?_toList,hi',CI _ _ _ _ (by rw [hvl,<-Array.length_toList,hlen];exact hoff) (by rw [hvl];omega)];exact hv1
      ·rw [Nat.zero_add] at hv2
       have hck:aM d'=true:=List.all_eq_true.1 hok d' (List.mem_of_getElem? hd')
       refine RD.cellMove (G:=G) (h:=h) (l:=.hand k (i-off)) ⟨cS.refl _,fun _ _ h=>h⟩ hck (fun _ b f hb=>⟨?_,howh _ _ _ hb⟩) hv2
       show ow (.cell o i)=some (b,f)
       rw [o3 i hin.1 hin.2];exact hb
     ·rw [di _ _ _ _ (by omega)] at hd'
      obtain⟨v',hv1,hv2⟩:=RDs.get _ _ _ _ _ _ g4 hd'
      refine⟨v',?_,?_⟩
      ·rw [Array.getElem?_toList] at*
       rw [gq _ _ _ _ (by rw [hvl];omega)];exact hv1
      ·rw [Nat.zero_add] at hv2
       have hck:aM d'=true:=List.all_eq_true.1 (R.obc o cs hcs) d' (List.mem_of_getElem? hd')
       refine RD.cellMove (G:=G) (h:=h) (l:=.cell o i) ⟨cS.refl _,fun _ _ h=>h⟩ hck (fun _ b f hb=>⟨?_,howh _ _ _ hb⟩) hv2
       show ow (.cell o i)=some (b,f)
       rw [o4 o i (fun ⟨_,a,b⟩=>hin ⟨a,b⟩)];exact hb
  ·rw [if_neg hq] at hcs'
   obtain⟨b',c',e',fr',h1,h2,h3,h4⟩:=R.obj q cs' hcs'
   have hbb:b'≠b0:=by rintro rfl;exact hq (R.inv.ob_inj o q _ hb h1)
   refine⟨b',c',e',fr',h1,by rw [hne b' hbb];exact h2,h3,?_⟩
   exact RDs.fr F _ (fun _=>rfl) _ _ _ (kn.cell 0 cs' (R.obc q cs' hcs') (by rintro i d _ _ ⟨j,_,_,hj⟩;cases hj;exact hq rfl)) h4
 ·intro q cs' hcs'
  simp only [List.getElem?_set] at hcs'
  by_cases hq:o=q
  ·subst hq
   rw [if_pos rfl] at hcs'
   split at hcs'
   ·cases hcs'
    rw [List.all_eq_true]
    intro d' hd'
    obtain⟨i,hi⟩:=List.mem_iff_getElem?.1 hd'
    by_cases hin:off<=i/\i<off+n
    ·rw [show i=off+(i-off) by omega,dF _ _ _ _ hoff (by omega)] at hi
     exact List.all_eq_true.1 hok d' (List.mem_of_getElem? hi)
    ·rw [di _ _ _ _ (by omega)] at hi
     exact List.all_eq_true.1 (R.obc o cs hcs) d' (List.mem_of_getElem? hi)
   ·cases hcs'
  ·rw [if_neg hq] at hcs'
   exact R.obc q cs' hcs'
 ·intro q hq
  simp only [List.length_set] at hq
  exact R.obn q hq
 ·intro l p hhd hp
  have hp':ow l=some p:=hp
  have hol:o<σ.S.length:=by
   rcases Nat.lt_or_ge o σ.S.length with hl|hl
   ·exact hl
   ·rw [List.getElem?_eq_none hl] at hcs;cases hcs
  cases l with
  |hand q j=>exact absurd rfl (hhd q j)
  |nowhere=>exact R.own _ p hhd hp'
  |reg t j=>
   have:=R.own _ p hhd hp'
   rw [dc] at*
   simp only
   cases ((cs.drop off).take (cellsOf d).length).any bG with
   |false=>simpa only [cond_false] using this
   |true=>simp only [cond_true,cU,eJ];exact this
  |cell q j=>
   unfold dg
   simp only [List.getElem?_set]
   by_cases hq:o=q
   ·subst hq
    rw [if_pos rfl,if_pos hol]
    simp only
    by_cases hin:off<=j/\j<off+n
    ·rw [o3 j hin.1 hin.2] at hp'
     obtain⟨d',h1,h2⟩:=zU (H.own _ p hp')
     have hj:(setCells cs off (cellsOf d))[j]? =some d':=by
      rw [show j=off+(j-off) by omega,dF _ _ _ _ hoff (by omega)];exact h1
     rw [hj];exact h2
    ·rw [o4 o j (fun ⟨_,a,b⟩=>hin ⟨a,b⟩)] at hp'
     have:=R.own _ p hhd hp'
     unfold dg at this
     simp only [hcs] at this
     rw [di _ _ _ _ (by omega)];exact this
   ·rw [if_neg hq]
    rw [o4 q j (fun ⟨a,_,_⟩=>hq a.symm)] at hp'
    have:=R.own _ p hhd hp'
    unfold dg at this
    exact this
end
end Go.Mx
namespace Go.Mx
open Go
section
variable {h h':Array Obj} {G:Gh} {tmps:Array Value} {σ:St}
theorem Inv.write (I:Inv h G) {b:Nat} (hrd:G.rd b=none) (hs:h'.size=h.size) (hne: ∀q,q≠b->h'[q]? =h[q]?):Inv h' G where
 rd_ok:=fun q c' hq=>by
  have hqb:q≠b:=by rintro rfl;rw [hrd] at hq;cases hq
  rw [hne q hqb];exact I.rd_ok q c' hq
 ob_lt:=fun q b' hq=>by rw [hs];exact I.ob_lt q b' hq
 ob_rd:=I.ob_rd
 ob_inj:=I.ob_inj
 ow_lt:=fun l b f hl=>by rw [hs];exact I.ow_lt _ b f hl
 ow_rd:=I.ow_rd
 ow_ob:=I.ow_ob
 ow_inj:=I.ow_inj
theorem Rel.writeHand (R:Rel h G tmps σ) {k j b f:Nat} (hw:G.ow (.hand k j)=some (b,f)) (hs:h'.size=h.size) (hne: ∀q,q≠b->h'[q]? =h[q]?):Rel h' G tmps σ:=by
 have hrd:=R.inv.ow_rd _ b f hw
 have F:Fr (fun _=>False) h G h' G:=⟨cS.refl _,fun _ _ h=>h,fun _ _ _ _ h=>h,fun l b' f' hp _ hl=>hne b' (by
  rintro rfl
  have:=R.inv.ow_inj _ _ _ _ _ hl hw
  subst this;cases hp)⟩
 refine⟨R.inv.write hrd hs hne,fun t=>RD.fr F _ (fun _=>rfl) _ _ (free.none _ _) (R.env t),?_,R.obc,R.obn,R.own⟩
 intro o cs hcs
 obtain⟨b',c',e',fr',h1,h2,h3,h4⟩:=R.obj o cs hcs
 have hbb:b'≠b:=by rintro rfl;exact R.inv.ow_ob _ _ f o hw h1
 exact⟨b',c',e',fr',h1,by rw [hne b' hbb];exact h2,h3,RDs.fr F _ (fun _=>rfl) _ _ _ (kn.none _ _ _) h4⟩
mutual
theorem RD.dropAl {src:Loc} {b f:Nat} (hw:G.ow src=some (b,f)) (I:Inv h G) (hne: ∀q,q≠b->h'[q]? =h[q]?) (hn:src≠ .nowhere) (loc:Nat->Loc) (hl: ∀j,loc j≠src): ∀(d:D) (v:Value),RD h G loc d v->RD h' G loc (dropAl src d) v
 | .v x,v,hr=>by simpa only [Mx.dropAl,RD] using hr
 | .undef,v,hr=>by simpa only [Mx.dropAl,RD] using hr
 | .bad,v,hr=>by simp only [Mx.dropAl,RD]
 | .mb g d,v,hr=>by
  simp only [Mx.dropAl,RD] at*
  exact⟨fun hg=>RD.dropAl hw I hne hn loc hl d v (hr.1 hg),hr.2⟩
 | .own sz l,v,hr=>by
  simp only [Mx.dropAl,RD] at*
  rcases hr with hr|⟨b',off,cap,c,e,fr,h1,h2,h3,h4,h5,h6,h7⟩
  ·exact .inl hr
  ·exact .inr ⟨b',off,cap,c,e,fr,h1,h2,by rw [hne b' (by rintro rfl;exact hl 0 (I.ow_inj _ _ _ _ _ h2 hw))];exact h3,h4,h5,h6,h7⟩
 | .al full sz l s,v,hr=>by
  simp only [Mx.dropAl]
  cases hs:(s==src) with
  |true=>simp only [cond_true,RD]
  |false=>
   have hs':s≠src:=by simpa using hs
   simp only [cond_false,RD] at*
   obtain⟨h1,h2,h3⟩:=hr
   refine⟨fun hf=>?_,?_,h3⟩
   ·rcases h1 hf with hr|⟨b',off,cap,c,e,fr,h1,h2,h3,h4,h5,h6,h7⟩
    ·exact .inl hr
    ·exact .inr ⟨b',off,cap,c,e,fr,h1,h2,by rw [hne b' (by rintro rfl;exact hs' (I.ow_inj _ _ _ _ _ h2 hw))];exact h3,h4,h5,h6,h7⟩
   ·obtain⟨base,cap,g1,g2,g3⟩:=h2
    refine⟨base,cap,g1,g2,g3.imp id ?_⟩
    rintro⟨b',off,o,c,e,fr,k1,k2,k3,k4⟩
    exact⟨b',off,o,c,e,fr,k1,k2,by rw [hne b' (by rintro rfl;exact hs' (I.ow_inj _ _ _ _ _ k2 hw))];exact k3,k4⟩
 | .cut sz l,v,hr=>by simpa only [Mx.dropAl,RD] using hr
 | .rp c,v,hr=>by simpa only [Mx.dropAl,RD] using hr
 | .ptr o off,v,hr=>by simpa only [Mx.dropAl,RD] using hr
 | .ep s sz i off,v,hr=>by simpa only [Mx.dropAl,RD] using hr
 | .agg cs,v,hr=>by
  simp only [Mx.dropAl,RD] at*
  obtain⟨vs,h1,h2⟩:=hr
  exact⟨vs,h1,RDs.dropAl hw I hne hn loc hl 0 cs _ h2⟩
 | .tup cs,v,hr=>by
  simp only [Mx.dropAl,RD] at*
  obtain⟨vs,h1,h2⟩:=hr
  exact⟨vs,h1,RDs.dropAl hw I hne hn _ (fun j hj=>hn hj.symm) 0 cs _ h2⟩
 | .clo g cs,v,hr=>by
  simp only [Mx.dropAl,RD] at*
  obtain⟨vs,h1,h2⟩:=hr
  exact⟨vs,h1,RDs.dropAl hw I hne hn _ (fun j hj=>hn hj.symm) 0 cs _ h2⟩
 | .nilp,v,hr=>by simpa only [Mx.dropAl,RD] using hr
theorem RDs.dropAl {src:Loc} {b f:Nat} (hw:G.ow src=some (b,f)) (I:Inv h G) (hne: ∀q,q≠b->h'[q]? =h[q]?) (hn:src≠ .nowhere) (loc:Nat->Loc) (hl: ∀j,loc j≠src): ∀(j:Nat) (ds:List D) (vs:List Value),RDs h G loc j ds vs->RDs h' G loc j (rB src ds) vs
 |_,[],[],_=>by simp only [rB,RDs]
 |j,d::ds,v::vs,hr=>by
  simp only [rB,RDs] at*
  exact⟨RD.dropAl hw I hne hn _ (fun _=>hl j) d v hr.1,RDs.dropAl hw I hne hn loc hl (j+1) ds vs hr.2⟩
 |_,[],_::_,hr=>by simp only [RDs] at hr
 |_,_::_,[],hr=>by simp only [RDs] at hr
end
theorem Gc {src:Loc} (d:D):bG (dropAl src d)=bG d:=by
 cases d with
 |al f z m s=>simp only [Mx.dropAl];cases (s==src)<;>rfl
 |_=>simp only [Mx.dropAl]<;>rfl
theorem zP {src:Loc} : ∀(cs:List D) (j:Nat),(rB src cs)[j]? =(cs[j]?).map (dropAl src)
 | [],_=>by simp [rB]
 |d::r,0=>by simp [rB]
 |d::r,j+1=>by simp [rB,zP r j]
theorem AX {src:Loc} (d:D) (j:Nat):cW (Mx.dropAl src d) j=cW d j:=by
 cases d with
 |al f z m s=>simp only [Mx.dropAl];cases (s==src)<;>rfl
 |agg cs=>
  simp only [Mx.dropAl,cW,zP]
  cases cs[j]? with
  |none=>rfl
  |some d=>simp [Gc]
 |_=>simp only [Mx.dropAl,cW]
theorem Rel.setOwn (R:Rel h G tmps σ) {src:Loc} {b f sz sz':Nat} {l l2:List (List V)} (hw:G.ow src=some (b,f)) (hown:ownAt σ src=some (sz,l)) (hs:h'.size=h.size) (hne: ∀q,q≠b->h'[q]? =h[q]?)
  (hnew: ∀v,wa h G.rd (G.ow src) sz l v->wa h' G.rd (G.ow src) sz' l2 v):Rel h' G tmps (Mx.setOwn σ src sz' l2):=by
 have hnw:src≠ .nowhere:=by rintro rfl;simp [ownAt] at hown
 have I':=R.inv.write (R.inv.ow_rd _ b f hw) hs hne
 cases src with
 |hand k j=>simp [ownAt] at hown
 |nowhere=>exact absurd rfl hnw
 |reg t j=>
  have hlk:bI σ.env t= .own sz l/\j=0:=by
   simp only [ownAt] at hown
   split at hown
   ·rename_i sz0 l0 hl
    by_cases hj:j=0
    ·subst hj
     simp at hown;rw [hl,hown.1,hown.2];exact⟨rfl,rfl⟩
    ·have:(j==0)=false:=by simpa using hj
     rw [this] at hown;simp at hown
   ·cases hown
  obtain⟨hlk,rfl⟩:=hlk
  have hlook: ∀u,bI (Mx.setOwn σ (.reg t 0) sz' l2).env u=if t=u then .own sz' l2 else Mx.dropAl (.reg t 0) (bI σ.env u):=by
   intro u
   simp only [Mx.setOwn,cJ]
   split
   ·rfl
   ·exact fH (Mx.dropAl (.reg t 0)) rfl _ _
  refine⟨I',?_,?_,R.obc,R.obn,?_⟩
  ·intro u
   rw [hlook]
   by_cases hu:t=u
   ·subst hu
    simp only [if_true]
    have:=R.env t
    rw [hlk] at this
    simp only [RD] at*
    exact hnew _ this
   ·simp only [hu,if_false]
    exact RD.dropAl hw R.inv hne hnw _ (fun j hj=>by cases hj;exact hu rfl) _ _ (R.env u)
  ·intro q cs hcs
   obtain⟨b',c',e',fr',h1,h2,h3,h4⟩:=R.obj q cs hcs
   have hbb:b'≠b:=by rintro rfl;exact R.inv.ow_ob _ _ f q hw h1
   refine⟨b',c',e',fr',h1,by rw [hne b' hbb];exact h2,h3,RDs.cellMove (G:=G) (G':=G) (h:=h) ⟨cS.refl _,fun _ _ h=>h⟩ 0 0 cs _ (R.obc q cs hcs) (fun i d' _ _ b2 f2 hb2=>⟨hb2,hne b2 (by
    rintro rfl
    have:=R.inv.ow_inj _ _ _ _ _ hb2 hw
    cases this)⟩) h4⟩
  ·intro l0 p hh hp
   have:=R.own l0 p hh hp
   cases l0 with
   |reg u j=>
    rw [dc] at*
    rw [hlook]
    by_cases hu:t=u
    ·subst hu;rw [hlk] at this;simpa [cW] using this
    ·simp only [hu,if_false,AX];exact this
   |_=>exact this
 |cell o off=>
  simp only [ownAt] at hown
  cases hcs:σ.S[o]? with
  |none=>rw [hcs] at hown;cases hown
  |some cs=>
   rw [hcs] at hown
   simp only at hown
   have hcell:cs[off]? =some (.own sz l):=by
    split at hown
    ·rename_i sz0 l0 hl;cases hown;exact hl
    ·cases hown
   have hlook: ∀u,bI (Mx.setOwn σ (.cell o off) sz' l2).env u=Mx.dropAl (.cell o off) (bI σ.env u):=by
    intro u
    exact fH (Mx.dropAl (.cell o off)) rfl _ _
   have hS: ∀q cs',(Mx.setOwn σ (.cell o off) sz' l2).S[q]? =some cs'->(q=o/\cs'=cs.set off (.own sz' l2))∨(q≠o/\σ.S[q]? =some cs'):=by
    intro q cs' hq
    simp only [Mx.setOwn,List.getElem?_modify] at hq
    by_cases hqo:o=q
    ·subst hqo
     rw [hcs] at hq
     simp at hq
     exact .inl ⟨rfl,hq.symm⟩
    ·right
     refine⟨fun e=>hqo e.symm,?_⟩
     cases hq':σ.S[q]? with
     |none=>rw [hq'] at hq;simp at hq
     |some x=>rw [hq'] at hq;simp [hqo] at hq;rw [hq]
   have hSo:(Mx.setOwn σ (.cell o off) sz' l2).S[o]? =some (cs.set off (.own sz' l2)):=by
    simp [Mx.setOwn,List.getElem?_modify,hcs]
   refine⟨I',?_,?_,?_,?_,?_⟩
   ·intro u
    rw [hlook]
    exact RD.dropAl hw R.inv hne hnw _ (fun j hj=>by cases hj) _ _ (R.env u)
   ·intro q cs' hq
    rcases hS q cs' hq with⟨rfl,rfl⟩|⟨hqo,hq⟩
    ·obtain⟨b',c',e',fr',h1,h2,h3,h4⟩:=R.obj q cs hcs
     have hbb:b'≠b:=by rintro rfl;exact R.inv.ow_ob _ _ f q hw h1
     refine⟨b',c',e',fr',h1,by rw [hne b' hbb];exact h2,h3,?_⟩
     refine RDs.of_get _ _ _ _ ?_ ?_
     ·rw [RDs.length _ _ _ _ h4];simp
     ·intro i d' hd'
      rw [Nat.zero_add]
      by_cases hi:off=i
      ·subst hi
       obtain⟨v',hv1,hv2⟩:=RDs.get _ _ _ _ _ _ h4 hcell
       rw [List.getElem?_set] at hd'
       rw [if_pos rfl] at hd'
       split at hd'
       ·cases hd'
        rw [Nat.zero_add] at hv2
        refine⟨v',hv1,?_⟩
        simp only [RD] at*
        exact hnew _ hv2
       ·cases hd'
      ·rw [List.getElem?_set,if_neg hi] at hd'
       obtain⟨v',hv1,hv2⟩:=RDs.get _ _ _ _ _ _ h4 hd'
       rw [Nat.zero_add] at hv2
       refine⟨v',hv1,?_⟩
       have hck:aM d'=true:=List.all_eq_true.1 (R.obc q cs hcs) d' (List.mem_of_getElem? hd')
       refine RD.cellMove (G:=G) (h:=h) (l:=.cell q i) ⟨cS.refl _,fun _ _ h=>h⟩ hck (fun _ b2 f2 hb2=>⟨hb2,hne b2 ?_⟩) hv2
       rintro rfl
       have:=R.inv.ow_inj _ _ _ _ _ hb2 hw
       cases this;exact hi rfl
    ·obtain⟨b',c',e',fr',h1,h2,h3,h4⟩:=R.obj q cs' hq
     have hbb:b'≠b:=by rintro rfl;exact R.inv.ow_ob _ _ f q hw h1
     refine⟨b',c',e',fr',h1,by rw [hne b' hbb];exact h2,h3,RDs.cellMove (G:=G) (G':=G) (h:=h) ⟨cS.refl _,fun _ _ h=>h⟩ 0 0 cs' _ (R.obc q cs' hq) (fun i d' _ _ b2 f2 hb2=>⟨hb2,hne b2 (by
      rintro rfl
      have:=R.inv.ow_inj _ _ _ _ _ hb2 hw
      cases this;exact hqo rfl)⟩) h4⟩
   ·intro q cs' hq
    rcases hS q cs' hq with⟨rfl,rfl⟩|⟨hqo,hq⟩
    ·rw [List.all_eq_true]
     intro d' hd'
     rcases List.mem_or_eq_of_mem_set hd' with hd'|rfl
     ·exact List.all_eq_true.1 (R.obc q cs hcs) d' hd'
     ·rfl
    ·exact R.obc q cs' hq
   ·intro q hq
    refine R.obn q ?_
    simpa [Mx.setOwn] using hq
   ·intro l0 p hh hp
    have:=R.own l0 p hh hp
    cases l0 with
    |reg u j=>
     rw [dc] at*
     rw [hlook,AX];exact this
    |cell q j=>
     unfold dg at this⊢
     simp only at this⊢
     by_cases hq:q=o
     ·subst hq
      rw [hSo]
      simp only [hcs] at this
      simp only [List.getElem?_set]
      by_cases hj:off=j
      ·subst hj
       rw [if_pos rfl]
       rw [hcell] at this
       have:off<cs.length:=by
        rcases Nat.lt_or_ge off cs.length with h'|h'
        ·exact h'
        ·rw [List.getElem?_eq_none h'] at hcell;cases hcell
       rw [if_pos this];rfl
      ·rw [if_neg hj];exact this
     ·have he:(Mx.setOwn σ (.cell o off) sz' l2).S[q]? =σ.S[q]? :=by
       have hq': ¬o=q:=fun e=>hq e.symm
       simp only [Mx.setOwn,List.getElem?_modify]
       cases σ.S[q]? <;>simp [hq']
      rw [he];exact this
    |_=>exact this
end
end Go.Mx
namespace Go.Mx
open Go
structure Gz (k:Nat) (h:Array Obj) (G:Gh) (G':Gh):Prop where
 rd:G'.rd=G.rd
 ob:G'.ob=G.ob
 mine: ∀l p,G'.ow l=some p-> ∃l0,G.ow l0=some p
 hand: ∀q j,q≠k->G'.ow (.hand q j)=G.ow (.hand q j)
theorem Gz.same {k:Nat} {h:Array Obj} {G G':Gh} (T:Gz k h G G'):dv h G G':=
 ⟨by rw [T.rd];exact cS.refl _,T.ob,fun l b f hl=>by obtain⟨l0,h0⟩:=T.mine l _ hl;exact⟨l0,f,h0⟩,fun b hb=>.inl (by rw [<-T.rd];exact hb)⟩
section
variable {h:Array Obj} {G:Gh} {tmps:Array Value} {σ:St} {ds:List Deferred}
theorem Rel.congr (R:Rel h G tmps σ) {σ':St} (he: ∀t,bI σ'.env t=bI σ.env t) (hS:σ'.S=σ.S):Rel h G tmps σ':=by
 refine⟨R.inv,fun t=>by rw [he];exact R.env t,by rw [hS];exact R.obj,by rw [hS];exact R.obc,by rw [hS];exact R.obn,?_⟩
 intro l p hh hp
 have:=R.own l p hh hp
 cases l with
 |reg t j=>rw [dc] at*;rw [he];exact this
 |cell o j=>unfold dg at*;rw [hS];exact this
 |_=>exact this
theorem Rel.putStay (R:Rel h G tmps σ) {u:Nat} (hu: ∀j,G.ow (.reg u j)=none) {d:D} (hd:RD h G (Loc.reg u) d (tmps.getD u undef)):Rel h G tmps { σ with env:=Mx.put σ.env u d } :=by
 refine⟨R.inv,fun t=>?_,R.obj,R.obc,R.obn,?_⟩
 ·rw [cJ]
  by_cases ht:u=t
  ·subst ht;simpa using hd
  ·simp only [ht,if_false];exact R.env t
 ·intro l p hh hp
  have:=R.own l p hh hp
  cases l with
  |reg t j=>
   rw [dc] at*
   rw [cJ]
   by_cases ht:u=t
   ·subst ht;rw [hu j] at hp;cases hp
   ·simp only [ht,if_false];exact this
  |_=>exact this
theorem Rel.frzReg (R : Rel h G tmps σ) (k : Nat) (hk : ∀ j, G.ow (.hand k j) = none) {x : Operand} {d : D} (hf : bl true (Mx.opnd σ.env x) = some d) (hv : bD d = true) :
    ∃ G', Rel h G' tmps { σ with env := Mx.frzReg σ.env x } /\ dv h G G' /\ (∀ loc, RD h G' loc (frz d) ((⟨tmps, ds⟩ : Act).eval x)) /\ (∀ q j, G'.ow (.hand q j) = G.ow (.hand q j)) /\ (∀ o off, G'.ow (.cell o off) = G.ow (.cell o off)) := by
  have frz_free : ∀ d : D, aA d = true -> frz d = d := by
    intro d hd
    cases d with
    | agg cs =>
      simp only [frz]
      congr 1
      have : ∀ cs : List D, cs.all ay = true -> cs.map cq = cs := by
        intro cs
        induction cs with
        | nil => intro _; rfl
        | cons d r ih =>
          intro hc
          simp only [List.all_cons, Bool.and_eq_true] at hc
          simp only [List.map_cons, ih hc.2]
          congr 1
          cases d <;> first | rfl | (simp [ay] at hc)
      exact this cs (by simpa [aA] using hd)
    | own sz l => simp [aA] at hd
    | _ => rfl
  have still : aA d = true -> Mx.frzReg σ.env x = σ.env -> RD h G (JF x) d ((⟨tmps, ds⟩ : Act).eval x) -> ∃ G', Rel h G' tmps { σ with env := Mx.frzReg σ.env x } /\ dv h G G' /\ (∀ loc, RD h G' loc (frz d) ((⟨tmps, ds⟩ : Act).eval x)) /\ (∀ q j, G'.ow (.hand q j) = G.ow (.hand q j)) /\ (∀ o off, G'.ow (.cell o off) = G.ow (.cell o off)) := by
    intro ho he hrd
    refine ⟨G, by rw [he]; exact R, dv.refl _ _, fun loc => ?_, fun _ _ => rfl, fun _ _ => rfl⟩
    rw [frz_free d ho]
    exact RD.reloc ho hrd
  have hrd := R.opndF ds hf
  cases x with
  | const v =>
    refine ?_
    have h1 : ∀ loc, RD h G loc d v := fun loc => (fR hf (RD.ofConst loc v)).1
    refine ⟨G, R, dv.refl _ _, fun loc => ?_, fun _ _ => rfl, fun _ _ => rfl⟩
    -- a constant owns nothing but the nil slice
    have key : ∀ (d : D) (v : Value), (∀ loc, RD h G loc d v) -> bD d = true -> RD h G loc (frz d) v := by
      intro d v h1 hv
      have hw : ∀ j, G.ow ((fun _ => Loc.hand k j) 0) = none := fun j => hk j
      have cell : ∀ (d : D) (v : Value) (j : Nat) (loc : Nat -> Loc), RD h G (fun _ => .hand k j) d v -> aM d = true -> RD h G loc (cq d) v := by
        intro d v j loc hd hck
        cases d with
        | own sz l =>
          simp only [RD, cq, wa, hk] at *
          rcases hd with ⟨rfl, rfl⟩ | ⟨b, _, _, _, _, _, _, h2, _⟩
          . simp only [RV]; exact ⟨none, 0, rfl, Nat.le_refl _, .inl trivial⟩
          . cases h2
        | clo f cs => simpa only [RD, cq] using hd
        | _ => first | (exact RD.stay ⟨cS.refl _, fun _ _ h => h⟩ rfl hd) | (simp [aM, bJ] at hck)
      have cells : ∀ (ds : List D) (vs : List Value) (j j' : Nat) (loc : Nat -> Loc), ds.all aM = true -> RDs h G (Loc.hand k) j ds vs -> RDs h G loc j' (ds.map cq) vs := by
        intro ds
        induction ds with
        | nil => intro vs j j' loc _ hd; cases vs with
          | nil => simp only [List.map_nil, RDs]
          | cons _ _ => simp only [RDs] at hd
        | cons d r ih => intro vs j j' loc hok hd; cases vs with
          | nil => simp only [RDs] at hd
          | cons v vs =>
            simp only [List.all_cons, Bool.and_eq_true] at hok
            simp only [List.map_cons, RDs] at *
            exact ⟨cell d v _ _ hd.1 hok.1, ih vs _ _ loc hok.2 hd.2⟩
      have h2 := h1 (Loc.hand k)
      cases d with
      | agg cs =>
        simp only [RD, frz] at *
        obtain ⟨vs, g1, g2⟩ := h2
        exact ⟨vs, g1, cells cs _ 0 0 loc (by simpa [bD] using hv) g2⟩
      | own sz l => exact cell (.own sz l) v 0 loc (by simpa only [RD] using h2) rfl
      | clo f cs => exact cell (.clo f cs) v 0 loc (by simpa only [RD] using h2) hv
      | _ => first | (exact RD.stay ⟨cS.refl _, fun _ _ h => h⟩ rfl h2) | (simp [bD, aM, bJ] at hv)
    exact key d v h1 hv
  | global g => simp [Mx.opnd, bl, bQ] at hf
  | func f =>
    have : d = .clo f [] := by simpa [Mx.opnd, bl, bQ] using hf.symm
    exact still (by rw [this]; rfl) rfl hrd
  | tmp u =>
    have hfo := yX hf
    simp only [Mx.opnd] at hfo hf
    cases hh : aN (bI σ.env u) with
    | false =>
      have hof : aA d = true := by
        rcases hfo with ⟨he, hkn⟩ | ⟨ho, _⟩
        . rw [he] at hh
          cases d <;> simp_all [aN, ey]
        . exact ho
      exact still hof (by simp [Mx.frzReg, hh]) hrd
    | true =>
      have he : bI σ.env u = d := by
        rcases hfo with ⟨he, _⟩ | ⟨_, g, hg⟩
        . exact he
        . rw [hg] at hh; simp [aN] at hh
      obtain ⟨G1, R1, T, h1, h2⟩ := R.takeReg k u hk
      have hr := R.env u
      rw [he] at hr
      have H : dG h G1 k d (tmps.getD u undef) := ⟨RD.valMove T.more hv (fun j _ b f hb => ⟨by rw [h1]; exact hb, rfl⟩) hr, by
        intro j p hp
        rw [h1] at hp
        have := R.own _ p (fun _ _ h => by cases h) hp
        rw [dc, he] at this
        exact this, hv⟩
      obtain ⟨G2, R2, S2, h3, h4, h5⟩ := R1.freezeF H
      have hu : ∀ j, G2.ow (.reg u j) = none := by
        intro j
        cases ho : G2.ow (.reg u j) with
        | none => rfl
        | some p =>
          have := R2.own _ p (fun _ _ h => by cases h) ho
          rw [dc, cJ] at this
          simp [cW] at this
      refine ⟨G2, ?_, T.same.trans S2, h3, ?_, ?_⟩
      . have R3 := R2.putStay hu (h3 (Loc.reg u))
        refine R3.congr (fun t => ?_) rfl
        simp only [Mx.frzReg, hh, cond_true, cJ]
        by_cases ht : u = t
        . simp only [ht, if_true]; rw [<- ht, he]
        . simp only [ht, if_false]
      . intro q j
        by_cases hq : q = k
        . subst hq; rw [h4, hk]
        . rw [h5 _ (by rintro j' hj; cases hj; exact hq rfl), T.hand q j hq]
      . intro o off
        rw [h5 _ (by rintro j' hj; cases hj), T.cell]
theorem Rel.takeCells (R : Rel h G tmps σ) (k : Nat) (hk : ∀ j, G.ow (.hand k j) = none) {o off n : Nat} {cs cs' : List D} (hcs : σ.S[o]? = some cs) (p : Loc -> Bool) (hp : ∀ j, off <= j -> j < off + n -> p (.cell o j) = true)
    (hlen : cs'.length = cs.length) (hout : ∀ j, ¬ (off <= j /\ j < off + n) -> cs'[j]? = cs[j]?) (hin : ∀ j d, off <= j -> j < off + n -> cs[j]? = some d -> cs'[j]? = some .bad ∨ (bG d = false /\ cs'[j]? = some d)) :
    ∃ G', Rel h G' tmps { env := kill p σ.env, S := σ.S.set o cs' } /\ Gz k h G G' /\ (∀ j, j < n -> G'.ow (.hand k j) = G.ow (.cell o (off + j))) /\ (∀ j, n <= j -> G'.ow (.hand k j) = none) /\ (∀ t j, G'.ow (.reg t j) = G.ow (.reg t j)) := by
  let ow : Loc -> Option (Nat × Nat) := fun l => match l with
    | .hand q j => if q = k then (if j < n then G.ow (.cell o (off + j)) else none) else G.ow (.hand q j)
    | .cell q j => if q = o /\ off <= j /\ j < off + n then none else G.ow (.cell q j)
    | l => G.ow l
  have o1 : ∀ j, j < n -> ow (.hand k j) = G.ow (.cell o (off + j)) := fun j hj => by simp [ow, hj]
  have o1' : ∀ j, n <= j -> ow (.hand k j) = none := fun j hj => by simp [ow]; omega
  have o2 : ∀ q j, q ≠ k -> ow (.hand q j) = G.ow (.hand q j) := fun q j hq => by simp [ow, hq]
  have o3 : ∀ j, off <= j -> j < off + n -> ow (.cell o j) = none := fun j h1 h2 => by simp [ow, h1, h2]
  have o4 : ∀ q j, ¬ (q = o /\ off <= j /\ j < off + n) -> ow (.cell q j) = G.ow (.cell q j) := fun q j hq => by simp only [ow]; rw [if_neg hq]
  let r : Loc -> Loc := fun l => match l with
    | .hand q j => if q = k then .cell o (off + j) else .hand q j
    | l => l
  have hr : ∀ l p, ow l = some p -> G.ow (r l) = some p /\ (∀ j, off <= j -> j < off + n -> l ≠ .cell o j) /\ (∀ j, l = .hand k j -> j < n) := by
    intro l p hl
    refine ⟨?_, ⟨(by rintro j h1 h2 rfl; rw [o3 j h1 h2] at hl; cases hl), ?_⟩⟩
    . cases l with
      | hand q j =>
        by_cases hq : q = k
        . subst hq
          by_cases hj : j < n
          . rw [o1 j hj] at hl; simpa [r] using hl
          . rw [o1' j (by omega)] at hl; cases hl
        . rw [o2 q j hq] at hl; simpa [r, hq] using hl
      | cell q j =>
        by_cases hq : q = o /\ off <= j /\ j < off + n
        . obtain ⟨rfl, h1, h2⟩ := hq
          rw [o3 j h1 h2] at hl; cases hl
        . rw [o4 q j hq] at hl; exact hl
      | _ => exact hl
    . rintro j rfl
      rcases Nat.lt_or_ge j n with hj | hj
      . exact hj
      . rw [o1' j hj] at hl; cases hl
  have hinj : ∀ l l' b f f', ow l = some (b, f) -> ow l' = some (b, f') -> l = l' := by
    intro l l' b f f' h1 h2
    have e := R.inv.ow_inj _ _ b f f' (hr _ _ h1).1 (hr _ _ h2).1
    have g1 := (hr _ _ h1).2
    have g2 := (hr _ _ h2).2
    cases l with
    | hand q j =>
      cases l' with
      | hand q' j' =>
        simp only [r] at e
        split at e <;> split at e
        . rename_i a1 a2
          injection e with e1 e2
          rw [a1, a2, show j = j' by omega]
        . cases e
        . cases e
        . exact e
      | cell q' j' =>
        simp only [r] at e
        split at e
        . rename_i a1
          injection e with e1 e2
          subst a1
          exact absurd (by rw [e1]) (g2.1 j' (by omega) (by have := g1.2 j rfl; omega))
        . cases e
      | _ => simp only [r] at e; split at e <;> cases e
    | cell q j =>
      cases l' with
      | hand q' j' =>
        simp only [r] at e
        split at e
        . rename_i a1
          injection e with e1 e2
          subst a1
          exact absurd (by rw [e1]) (g1.1 j (by omega) (by have := g2.2 j' rfl; omega))
        . cases e
      | _ => exact e
    | _ =>
      cases l' with
      | hand q' j' => simp only [r] at e; split at e <;> cases e
      | _ => exact e
  have F : Fr (fun l => ∃ j, off <= j /\ j < off + n /\ l = .cell o j) h G h { G with ow := ow } := ⟨cS.refl _, fun _ _ h => h, fun l p hpl hl hp => by
      show ow l = some p
      cases l with
      | hand q j => cases hpl
      | cell q j =>
        rw [o4 q j (fun ⟨a, b, c⟩ => hl ⟨j, b, c, by rw [a]⟩)]; exact hp
      | _ => exact hp, fun _ _ _ _ _ _ => rfl⟩
  have hol : o < σ.S.length := by
    rcases Nat.lt_or_ge o σ.S.length with hl | hl
    . exact hl
    . rw [List.getElem?_eq_none hl] at hcs; cases hcs
  -- the cells behind
  have hcell : ∀ j d', cs'[j]? = some d' -> ∃ d, cs[j]? = some d /\ ((¬ (off <= j /\ j < off + n) /\ d' = d) ∨ (off <= j /\ j < off + n /\ (d' = .bad ∨ (bG d = false /\ d' = d)))) := by
    intro j d' hd'
    by_cases hj : off <= j /\ j < off + n
    . cases hc : cs[j]? with
      | none =>
        have : cs.length <= j := by simpa using hc
        rw [List.getElem?_eq_none (by omega)] at hd'; cases hd'
      | some d =>
        rcases hin j d hj.1 hj.2 hc with hb | ⟨hno, hb⟩
        . rw [hb] at hd'; cases hd'
          exact ⟨d, rfl, .inr ⟨hj.1, hj.2, .inl rfl⟩⟩
        . rw [hb] at hd'; cases hd'
          exact ⟨_, rfl, .inr ⟨hj.1, hj.2, .inr ⟨hno, rfl⟩⟩⟩
    . rw [hout j hj] at hd'
      exact ⟨d', hd', .inl ⟨hj, rfl⟩⟩
  refine ⟨{ G with ow := ow }, ⟨R.inv.sub (fun l p hl => ⟨_, (hr l p hl).1⟩) hinj, ?_, ?_, ?_, ?_, ?_⟩, ⟨rfl, rfl, fun l p hl => ⟨_, (hr l p hl).1⟩, o2⟩, o1, o1', fun _ _ => rfl⟩
  . intro t
    rw [cU]
    refine RD.fr F _ (fun _ => rfl) _ _ (free.kill ?_ ?_ ?_ _) (RD.kill _ _ _ (R.env t))
    . rintro l ⟨j, h1, h2, rfl⟩; exact hp j h1 h2
    . rintro ⟨j, _, _, hj⟩; cases hj
    . rintro j ⟨q, _, _, hq⟩; cases hq
  . intro q cs2 hq
    simp only [List.getElem?_set] at hq
    by_cases hqo : o = q
    . subst hqo
      rw [if_pos rfl, if_pos hol] at hq
      cases hq
      obtain ⟨b, c, e, fr, h1, h2, h3, h4⟩ := R.obj o cs hcs
      refine ⟨b, c, e, fr, h1, h2, h3, RDs.of_get _ _ _ _ (by rw [RDs.length _ _ _ _ h4, hlen]) ?_⟩
      intro i d' hd'
      obtain ⟨d, hd, hor⟩ := hcell i d' hd'
      obtain ⟨v', hv1, hv2⟩ := RDs.get _ _ _ _ _ _ h4 hd
      rw [Nat.zero_add] at *
      refine ⟨v', hv1, ?_⟩
      have hck : aM d = true := List.all_eq_true.1 (R.obc o cs hcs) d (List.mem_of_getElem? hd)
      rcases hor with ⟨hno, rfl⟩ | ⟨hi1, hi2, rfl | ⟨hio, rfl⟩⟩
      . exact RD.cellMove (G := G) (G' := { G with ow := ow }) (h := h) (l := .cell o i) ⟨cS.refl _, fun _ _ h => h⟩ hck (fun _ b f hb => ⟨by
          show ow (.cell o i) = some (b, f)
          rw [o4 o i (fun ⟨_, a, b⟩ => hno ⟨a, b⟩)]; exact hb, rfl⟩) hv2
      . simp only [RD]
      . exact RD.cellMove (G := G) (G' := { G with ow := ow }) (h := h) (l := .cell o i) ⟨cS.refl _, fun _ _ h => h⟩ hck (fun hx => by rw [hio] at hx; cases hx) hv2
    . rw [if_neg hqo] at hq
      obtain ⟨b, c, e, fr, h1, h2, h3, h4⟩ := R.obj q cs2 hq
      exact ⟨b, c, e, fr, h1, h2, h3, RDs.fr F _ (fun _ => rfl) _ _ _ (kn.cell 0 cs2 (R.obc q cs2 hq) (by rintro i d _ _ ⟨j, _, _, hj⟩; cases hj; exact hqo rfl)) h4⟩
  . intro q cs2 hq
    simp only [List.getElem?_set] at hq
    by_cases hqo : o = q
    . subst hqo
      rw [if_pos rfl, if_pos hol] at hq
      cases hq
      rw [List.all_eq_true]
      intro d' hd'
      obtain ⟨i, hi⟩ := List.mem_iff_getElem?.1 hd'
      obtain ⟨d, hd, hor⟩ := hcell i d' hi
      have hck : aM d = true := List.all_eq_true.1 (R.obc o cs hcs) d (List.mem_of_getElem? hd)
      rcases hor with ⟨_, rfl⟩ | ⟨_, _, rfl | ⟨_, rfl⟩⟩
      . exact hck
      . rfl
      . exact hck
    . rw [if_neg hqo] at hq; exact R.obc q cs2 hq
  . intro q hq
    simp only [List.length_set] at hq
    exact R.obn q hq
  . intro l p0 hh hl
    have hl' : ow l = some p0 := hl
    cases l with
    | hand q j => exact absurd rfl (hh q j)
    | nowhere => exact R.own _ p0 hh hl'
    | reg t j =>
      have := R.own _ p0 hh hl'
      rw [dc] at *
      simp only [cU, eJ]; exact this
    | cell q j =>
      have hno := (hr (.cell q j) _ hl').2.1
      have hG := (hr (.cell q j) _ hl').1
      simp only [r] at hG
      have := R.own _ p0 hh hG
      unfold dg at this ⊢
      simp only [List.getElem?_set] at this ⊢
      by_cases hqo : o = q
      . subst hqo
        rw [if_pos rfl, if_pos hol]
        simp only [hcs] at this ⊢
        rw [hout j (fun ⟨a, b⟩ => hno j a b rfl)]; exact this
      . rw [if_neg hqo]; exact this
end
end Go.Mx
namespace Go.Mx
open Go
def Low (S:bH):Prop:=∀(o:Nat) (cs:List D),S[o]? =some cs->cs.all (lowC o)=true
structure dE (h:Array Obj) (G:Gh) (tmps:Array Value) (σ:St):Prop where
 rel:Rel h G tmps σ
 clean:xd G
 low:Low σ.S
structure dq (w:World) (G:Gh) (σ:St) (w':World) (G':Gh) (σ':St):Prop where
 step:w7 w G w' G'
 len:σ.S.length<=σ'.S.length
 ob: ∀o,o<σ.S.length->G'.ob o=G.ob o
theorem dq.refl (w:World) (G:Gh) (σ:St):dq w G σ w G σ:=⟨w7.refl _ _,Nat.le_refl _,fun _ _=>rfl⟩
theorem dq.trans {w w1 w2:World} {G G1 G2:Gh} {σ σ1 σ2:St} (a:dq w G σ w1 G1 σ1) (b:dq w1 G1 σ1 w2 G2 σ2):dq w G σ w2 G2 σ2:=
 ⟨a.step.trans b.step,Nat.le_trans a.len b.len,fun o ho=>(b.ob o (Nat.lt_of_lt_of_le ho a.len)).trans (a.ob o ho)⟩
theorem dv.goes {w:World} {G G':Gh} (S:dv w.heap G G') {σ σ':St} (h:σ'.S.length=σ.S.length):dq w G σ w G' σ':=⟨S.step,by omega,fun o _=>by rw [S.ob]⟩
def dp (P:Program) (w:World) (G:Gh) (a:Act) (σ:St) (o:Oper) (σ':St):Prop:=
 ∀(next:Act->World->Prop) (Q:Exit->Act->World->Prop),(∀a' w' G',a'.defers=a.defers->a'.tmps.size=a.tmps.size->dE w'.heap G' a'.tmps σ'->dq w G σ w' G' σ'->next a' w')->o.wp P a w next Q
section
variable {P:Program} {w:World} {G:Gh} {tmps:Array Value} {σ σ':St} {ds:List Deferred} {C:aj} {ro mv gv:Nat->Bool}
theorem dp.give {o:Oper} {v:Value} {w1:World} {G1:Gh} {σ1:St} {t:Nat} {d:D} (hdst:o.dst=some t) (ht:t<tmps.size) (hrun:(execOp (⟨tmps,ds⟩:Act).eval o).run P w= .ok (.value v) w1)
  (R:Rel w1.heap G1 tmps σ1) (H:dG w1.heap G1 0 d v) (hc: ∀q j,q≠0->G1.ow (.hand q j)=none) (low:Low σ1.S) (hg:dq w G σ w1 G1 σ1):dp P w G ⟨tmps,ds⟩ σ o { σ1 with env:=setReg σ1.env t d } :=by
 intro next Q hn
 unfold Oper.wp
 rw [hrun,Oper.upon_value]
 obtain⟨G2,R2,S2,h1,h2,h3⟩:=R.give H ht
 refine hn _ w1 G2 (by simp [Act.put,hdst]) (by simp [Act.put,hdst]) ⟨by simpa [Act.put,hdst] using R2,?_,low⟩ (hg.trans (S2.goes rfl))
 intro q j
 by_cases hq:q=0
 ·subst hq;exact h1 j
 ·rw [h2 q j hq,hc q j hq]
theorem dG.free (cl:xd G) {h:Array Obj} {k:Nat} {d:D} {v:Value} (hr: ∀loc,RD h G loc d v) (hv:bD d=true):dG h G k d v:=⟨hr _,fun j p hp=>(by rw [cl k j] at hp;cases hp),hv⟩
theorem gn {env:Env} {t:Nat} {d:D} (ho:aA d=true):aA (offReg env (some t) d)=true:=by
 unfold offReg
 simp only
 cases aN (bI env t) with
 |false=>exact ho
 |true=>
  simp only [cond_true]
  cases d with
  |al f s l src=>simp only [iy];cases bO t src<;>rfl
  |ep src s i off=>simp only [iy];cases bO t src<;>rfl
  |agg cs=>
   simp only [iy,aA] at*
   have: ∀cs:List D,cs.all ay=true->(kt (bO t) cs).all ay=true:=by
    intro cs
    induction cs with
    |nil=>intro _;rfl
    |cons d r ih=>
     intro hc
     simp only [List.all_cons,Bool.and_eq_true] at hc
     simp only [kt,List.all_cons,Bool.and_eq_true]
     refine⟨?_,ih hc.2⟩
     cases d with
     |al f s l src=>simp only [iy];cases bO t src<;>rfl
     |ep src s i off=>simp only [iy];cases bO t src<;>rfl
     |own _ _=>simp [ay] at hc
     |agg _=>simp [ay] at hc
     |mb _ _=>simp [ay] at hc
     |_=>rfl
   exact this cs ho
  |_=>first|rfl|(simp [aA] at ho)
theorem Rel.setFree {h : Array Obj} (R : Rel h G tmps σ) {t : Nat} {d : D} {v : Value} (ht : t < tmps.size) (ho : aA d = true) (hr : ∀ loc, RD h G loc d v) :
    ∃ G', Rel h G' (tmps.setIfInBounds t v) { σ with env := setReg σ.env t (offReg σ.env (some t) d) } /\ dv h G G' /\ (∀ k j, G'.ow (.hand k j) = G.ow (.hand k j)) := by
  let ow : Loc -> Option (Nat × Nat) := fun l => match l with
    | .reg u j => if u = t then none else G.ow (.reg u j)
    | l => G.ow l
  have o3 : ∀ j, ow (.reg t j) = none := fun j => by simp [ow]
  have o4 : ∀ u j, u ≠ t -> ow (.reg u j) = G.ow (.reg u j) := fun q j hq => by simp [ow, hq]
  have hr' : ∀ l p, ow l = some p -> G.ow l = some p /\ ∀ j, l ≠ .reg t j := by
    intro l p hl
    refine ⟨?_, by rintro j rfl; rw [o3] at hl; cases hl⟩
    cases l with
    | reg u j =>
      by_cases hu : u = t
      . subst hu; rw [o3] at hl; cases hl
      . rw [o4 u j hu] at hl; exact hl
    | _ => exact hl
  have I : Inv h { G with ow := ow } := R.inv.sub (fun l p hl => ⟨_, (hr' l p hl).1⟩) (fun l l' b f f' h1 h2 => R.inv.ow_inj l l' b f f' (hr' _ _ h1).1 (hr' _ _ h2).1)
  have F : Fr (fun l => ∃ j, l = .reg t j) h G h { G with ow := ow } := ⟨cS.refl _, fun _ _ h => h, fun l p hpl hl hp => by
      show ow l = some p
      cases l with
      | hand q j => cases hpl
      | reg u j => rw [o4 u j (fun hu => hl ⟨j, by rw [hu]⟩)]; exact hp
      | _ => exact hp, fun _ _ _ _ _ _ => rfl⟩
  refine ⟨{ G with ow := ow }, R.reg ht I F (fun _ => rfl) (fun _ _ _ => rfl) (fun l p hpl hl _ => (hr' l p hl).1) ?_ ?_, ⟨cS.refl _, rfl, fun l b f hl => ⟨l, f, (hr' l _ hl).1⟩, fun b hb => .inl hb⟩, fun _ _ => rfl⟩
  . -- the value
    have hd : RD h G (fun _ => Loc.nowhere) d v := hr _
    have key : RD h { G with ow := ow } (fun _ => Loc.nowhere) (offReg σ.env (some t) d) v := by
      unfold offReg
      simp only
      cases hh : aN (bI σ.env t) with
      | true =>
        simp only [cond_true]
        refine RD.fr F _ (fun _ => rfl) _ _ (free.kill ?_ ?_ ?_ _) (RD.kill _ _ _ hd)
        . rintro l ⟨j, rfl⟩; simp [bO]
        . rintro ⟨j, hj⟩; cases hj
        . rintro j ⟨q, hq⟩; cases hq
      | false =>
        simp only [cond_false]
        have F0 : Fr (fun _ => False) h G h { G with ow := ow } := ⟨F.rd, F.ob, fun l p hpl _ hp => (by
          refine F.ow l p hpl ?_ hp
          rintro ⟨j, rfl⟩
          have := gP (R.own _ _ (fun _ _ h => by cases h) hp)
          rw [hh] at this; cases this), fun _ _ _ _ _ _ => rfl⟩
        exact RD.fr F0 _ (fun _ => rfl) _ _ (free.none _ _) hd
    exact RD.reloc (gn ho) key
  . intro j p hp
    have hp' : ow (.reg t j) = some p := hp
    rw [o3] at hp'; cases hp'
theorem dp.free {o:Oper} {v:Value} {t:Nat} {d:D} (hdst:o.dst=some t) (ht:t<tmps.size) (hrun:(execOp (⟨tmps,ds⟩:Act).eval o).run P w= .ok (.value v) w)
  (R:dE w.heap G tmps σ) (ho:aA d=true) (hr: ∀loc,RD w.heap G loc d v):dp P w G ⟨tmps,ds⟩ σ o { σ with env:=setReg σ.env t (offReg σ.env (some t) d) } :=by
 intro next Q hn
 unfold Oper.wp
 rw [hrun,Oper.upon_value]
 obtain⟨G2,R2,S2,h1⟩:=R.rel.setFree ht ho hr
 exact hn _ w G2 (by simp [Act.put,hdst]) (by simp [Act.put,hdst]) ⟨by simpa [Act.put,hdst] using R2,fun q j=>by rw [h1];exact R.clean q j,R.low⟩ (S2.goes rfl)
theorem Aq {h:Array Obj} {k:Nat} {d d':D} {v:Value} {loc:Nat->Loc} (hf:co k d=some d') (hr:RD h G loc d v):RD h G loc d' v/\bG d'=bG d/\aM d'=true:=by
 cases d with
 |own sz l=>
  simp only [co] at hf
  cases hk:(k==0) with
  |true=>simp [hk] at hf
  |false=>
   simp only [hk,cond_false] at hf
   cases hc:(sz==k||(sz==0&&l.isEmpty)) with
   |false=>simp [hc] at hf
   |true=>
    simp only [hc,cond_true] at hf
    cases hf
    refine⟨?_,rfl,rfl⟩
    simp only [RD] at*
    by_cases hsk:sz=k
    ·subst hsk;exact hr
    ·rcases hr with hr|⟨b,off,cap,c,e,fr,h1,h2,h3,h4,h5,h6,h7⟩
     ·exact .inl hr
     ·simp at hc;omega
 |cut sz l=>
  simp only [co] at hf
  cases hk:(k==0) with
  |true=>simp [hk] at hf
  |false=>
   simp only [hk,cond_false] at hf
   cases hc:(sz==k||l.isEmpty) with
   |false=>simp [hc] at hf
   |true=>
    simp only [hc,cond_true] at hf
    cases hf
    refine⟨?_,rfl,rfl⟩
    simp only [RD,RV] at*
    obtain⟨base,h1,h2⟩:=hr
    refine⟨base,l.length,h1,Nat.le_refl _,?_⟩
    rcases h2 with h2|⟨b,off,c,g1,g2,g3⟩
    ·exact .inl h2
    ·by_cases hsk:sz=k
     ·subst hsk;exact .inr ⟨b,off,c,g1,g2,g3⟩
     ·left;simp at hc;rcases hc with hc|hc
      ·exact absurd hc hsk
      ·exact hc
 |v x=>
  cases x with
  |sl sz l=>
   simp only [co] at hf
   cases hk:(k==0) with
   |true=>simp [hk] at hf
   |false=>
    simp only [hk,cond_false] at hf
    cases hc:(sz==k||l.isEmpty) with
    |false=>simp [hc] at hf
    |true=>
     simp only [hc,cond_true] at hf
     cases hf
     refine⟨?_,rfl,rfl⟩
     simp only [RD,RV] at*
     obtain⟨base,cap,h1,h0,h2⟩:=hr
     refine⟨base,cap,h1,h0,?_⟩
     rcases h2 with h2|⟨b,off,c,g1,g2,g3⟩
     ·exact .inl h2
     ·by_cases hsk:sz=k
      ·subst hsk;exact .inr ⟨b,off,c,g1,g2,g3⟩
      ·left;simp at hc;rcases hc with hc|hc
       ·exact absurd hc hsk
       ·exact hc
  |_=>
   simp only [co] at hf
   cases hk:(k==0)<;>simp [hk] at hf
   subst hf
   exact⟨hr,rfl,rfl⟩
 |ptr o f=>simp [co] at hf;subst hf;exact⟨hr,rfl,rfl⟩
 |rp c=>simp [co] at hf;subst hf;exact⟨hr,rfl,rfl⟩
 |nilp=>simp [co] at hf;subst hf;exact⟨hr,rfl,rfl⟩
 |clo f c=>
  simp only [co] at hf
  cases hc:c.all bJ with
  |false=>simp [hc] at hf
  |true=>simp [hc] at hf;subst hf;exact⟨hr,rfl,by simpa [aM] using hc⟩
 |_=>simp [co] at hf
theorem Ge {k:Nat} {d d':D} (hf:co k d=some d'):d'≠ .bad/\d'≠ .undef:=by
 cases d with
 |v x=>
  cases x<;>simp only [co,cond_eq_ite] at hf<;>(repeat' split at hf)<;>first|(cases hf;done)|(cases hf;exact⟨fun h=>(by cases h),fun h=>(by cases h)⟩)
 |_=>simp only [co,cond_eq_ite] at hf<;>(repeat' split at hf)<;>first|(cases hf;done)|(cases hf;exact⟨fun h=>(by cases h),fun h=>(by cases h)⟩)
theorem Ho {h:Array Obj} {loc:Nat->Loc} : ∀(ks:List Nat) (j:Nat) (ds ds':List D) (vs:List Value),bP ks ds=some ds'->RDs h G loc j ds vs->RDs h G loc j ds' vs/\ds'.all aM=true/\ds'.length=ds.length/\ ∀(i:Nat) (d:D),ds[i]? =some d-> ∃d',ds'[i]? =some d'/\bG d'=bG d
 | [],j,[],ds',vs,hf,hr=>by simp [bP] at hf;subst hf;exact⟨hr,rfl,rfl,fun i d hd=>by simp at hd⟩
 |k::ks,j,d::ds,ds',vs,hf,hr=>by
  cases vs with
  |nil=>simp only [RDs] at hr
  |cons v vs=>
  simp only [bP] at hf
  cases h1:co k d with
  |none=>simp [h1] at hf
  |some d1=>
   simp only [h1] at hf
   cases h2:bP ks ds with
   |none=>simp [h2] at hf
   |some r=>
    simp only [h2] at hf
    cases hf
    simp only [RDs] at*
    obtain⟨g1,g2,g3⟩:=Aq h1 hr.1
    obtain⟨k1,k2,k3,k4⟩:=Ho ks (j+1) ds r vs h2 hr.2
    refine⟨⟨g1,k1⟩,by simp [g3,k2],by simp [k3],fun i d0 hd=>?_⟩
    cases i with
    |zero=>simp at hd;subst hd;exact⟨d1,rfl,g2⟩
    |succ i=>simpa using k4 i d0 (by simpa using hd)
 | [],_,_::_,_,_,hf,_=>by simp [bP] at hf
 |_::_,_,[],_,_,hf,_=>by simp [bP] at hf
theorem dG.fit {h:Array Obj} {k:Nat} {d d':D} {v:Value} {ty:Ty} (H:dG h G k d v) (hf:Mx.fit ty d=some d'):dG h G k d' v/\(cellsOf d').all aM=true/\RDs h G (Loc.hand k) 0 (cellsOf d') v.cells.toList:=by
 have one: ∀q,co q d=some d'->(∀cs,d≠ .agg cs)->dG h G k d' v/\(cellsOf d').all aM=true/\RDs h G (Loc.hand k) 0 (cellsOf d') v.cells.toList:=by
  intro q hq hna
  obtain⟨g1,g2,g3⟩:=Aq hq H.rd
  have hna': ∀cs,d'≠ .agg cs:=by rintro cs rfl;simp [aM,bJ] at g3
  have hok:bD d'=true:=by cases d'<;>first|exact g3|exact absurd rfl (hna' _)
  have hH:dG h G k d' v:=⟨g1,fun j p hp=>by
   have:=H.own j p hp
   cases d<;>simp only [cW] at this<;>try (cases this;done)
   ·have hd':bG d'=true:=by rw [g2];rfl
    cases d'<;>simp only [bG] at hd'<;>try (cases hd';done)
    simpa [cW] using this
   ·exact absurd rfl (hna _),hok⟩
  have hco:cellsOf d'= [d']:=by cases d'<;>first|rfl|exact absurd rfl (hna' _)
  refine⟨hH,by rw [hco];simp [g3],?_⟩
  rcases RD.cells hok g1 (fun _ _=>trivial) with rfl|rfl|hc
  ·exact absurd rfl (Ge hq).1
  ·exact absurd rfl (Ge hq).2
  ·exact hc
 cases d with
 |agg cs=>
  simp only [Mx.fit] at hf
  cases ha:ty.agg with
  |false=>simp [ha] at hf
  |true=>
   simp only [ha,cond_true] at hf
   cases h2:bP ty.flat cs with
   |none=>simp [h2] at hf
   |some r=>
    simp only [h2] at hf
    cases hf
    have hrd:=H.rd
    simp only [RD] at hrd
    obtain⟨vs,g1,g2⟩:=hrd
    obtain⟨k1,k2,k3,k4⟩:=Ho _ _ _ _ _ h2 g2
    refine⟨⟨by simp only [RD];exact⟨vs,g1,k1⟩,?_,by simpa [bD] using k2⟩,k2,by rw [g1];exact k1⟩
    intro j p hp
    have:=H.own j p hp
    simp only [cW] at*
    cases hcj:cs[j]? with
    |none=>rw [hcj] at this;cases this
    |some d0=>
     rw [hcj] at this
     obtain⟨d1,e1,e2⟩:=k4 j d0 hcj
     rw [e1];simpa [e2] using this
 |_=>
  simp only [Mx.fit] at hf
  split at hf
  ·rename_i q hq
   cases ha:ty.agg with
   |true=>simp [ha] at hf
   |false=>
    simp only [ha,cond_false] at hf
    exact one q hf (by rintro cs h;cases h)
  ·cases hf
end
end Go.Mx
namespace Go.Mx
open Go
section
variable {P:Program} {w:World} {G:Gh} {tmps:Array Value} {σ σ':St} {ds:List Deferred} {C:aj} {ro mv gv:Nat->Bool} {o:Oper}
theorem M7 {ty:Ty} {d d':D} (hf:Mx.fit ty d=some d'):(∃cs,d= .agg cs)∨ ∃k,co k d=some d':=by
 cases d with
 |agg cs=>exact .inl ⟨cs,rfl⟩
 |_=>
  right
  simp only [Mx.fit] at hf
  split at hf
  ·rename_i q hq
   cases ha:ty.agg with
   |true=>simp [ha] at hf
   |false=>simp only [ha,cond_false] at hf;exact⟨q,hf⟩
  ·cases hf
theorem Ap {ty:Ty} {d d':D} (hf:Mx.fit ty d=some d'):bD d=true:=by
 have one: ∀(k:Nat) (d d':D),co k d=some d'->aM d=true:=by
  intro k d d' hk
  cases d with
  |clo f c=>
   simp only [co] at hk
   cases hc:c.all bJ with
   |false=>simp [hc] at hk
   |true=>simpa [aM] using hc
  |v x=>rfl
  |own _ _=>rfl
  |cut _ _=>rfl
  |ptr _ _=>rfl
  |rp _=>rfl
  |nilp=>rfl
  |undef=>rfl
  |bad=>rfl
  |_=>simp [co] at hk
 cases d with
 |agg cs=>
  simp only [Mx.fit] at hf
  cases ha:ty.agg with
  |false=>simp [ha] at hf
  |true=>
   simp only [ha,cond_true] at hf
   cases h2:bP ty.flat cs with
   |none=>simp [h2] at hf
   |some r=>
    have: ∀(ks:List Nat) (cs r:List D),bP ks cs=some r->cs.all aM=true:=by
     intro ks
     induction ks with
     |nil=>intro cs r h;cases cs with
      |nil=>rfl
      |cons _ _=>simp [bP] at h
     |cons k ks ih=>intro cs r h;cases cs with
      |nil=>rfl
      |cons d ds=>
       simp only [bP] at h
       cases h1:co k d with
       |none=>simp [h1] at h
       |some d1=>
        simp only [h1] at h
        cases h2:bP ks ds with
        |none=>simp [h2] at h
        |some r'=>simp [one k d d1 h1,ih ds r' h2]
    simpa [bD] using this _ _ _ h2
 |_=>
  rcases M7 hf with⟨cs,hcs⟩|⟨k,hk⟩
  ·cases hcs
  ·exact one k _ _ hk
theorem yS.goes {k:Nat} {G':Gh} (T:yS k w.heap G G') {σ':St} (h:σ'.S.length=σ.S.length):dq w G σ w G' σ':=T.same.goes h
theorem Gy {x:Operand} (F:dE w.heap G tmps σ) (ho:o.op= .assign x) (hsz: ∀t,o.dst=some t->t<tmps.size) (hd:aJ (ck P) C ro mv gv σ o.dst o.type o.op=some σ'):dp P w G ⟨tmps,ds⟩ σ o σ':=by
 rw [ho] at hd
 simp only [aJ] at hd
 have hrun:(execOp (⟨tmps,ds⟩:Act).eval o).run P w= .ok (.value ((⟨tmps,ds⟩:Act).eval x)) w:=by unfold execOp;simp only [ho];rfl
 cases hf:bl true (Mx.opnd σ.env x) with
 |none=>simp [hf] at hd
 |some d=>
  cases hdst:o.dst with
  |none=>simp [hf,hdst] at hd
  |some t=>
   simp only [hf,hdst] at hd
   have hrd:=F.rel.opndF ds hf
   cases hft:Mx.fit (ck P o.type) d with
   |some d'=>
    simp only [hft] at hd
    cases hd
    obtain⟨G1,R1,T,H1⟩:=F.rel.take (ds:=ds) 0 (F.clean 0) hf (Ap hft)
    exact dp.give hdst (hsz t hdst) hrun R1 (H1.fit hft).1 (fun q j hq=>by rw [T.hand q j hq];exact F.clean q j) F.low (T.goes rfl)
   |none=>
    simp only [hft] at hd
    cases d with
    |tup cs=>
     cases hd
     exact dp.free hdst (hsz t hdst) hrun F rfl (fun loc=>RD.reloc (d:=.tup cs) rfl hrd)
    |ep src sz i off=>
     cases hd
     exact dp.free hdst (hsz t hdst) hrun F rfl (fun loc=>RD.reloc (d:=.ep src sz i off) rfl hrd)
    |al f sz l src=>
     cases hd
     exact dp.free hdst (hsz t hdst) hrun F rfl (fun loc=>RD.reloc (d:=.al f sz l src) rfl hrd)
    |_=>simp at hd
theorem dq.push {G':Gh} {w':World} (ob:Obj) (hw:w'=w.alloc ob∨w'=w.drew.alloc ob) (hrd:cS G.rd G'.rd) (hm: ∀b,mine G' b->mine G b∨b=w.heap.size) (hrdn: ∀b,G'.rd b≠none->G.rd b≠none∨mine G b∨b=w.heap.size)
  (hlen:σ.S.length<=σ'.S.length) (hob: ∀q,q<σ.S.length->G'.ob q=G.ob q):dq w G σ w' G' σ':=by
 have hheap:w'.heap=w.heap.push ob:=by rcases hw with rfl|rfl<;>rfl
 refine⟨⟨?_,?_,?_,?_,?_,fun b hb=>(hm b hb).imp id (fun e=>by rw [e];exact Nat.le_refl _),hrd,fun b hb=>(hrdn b hb).imp id (Or.imp id (fun e=>by rw [e];exact Nat.le_refl _))⟩,hlen,hob⟩
 ·rcases hw with rfl|rfl<;>rfl
 ·rcases hw with rfl|rfl<;>rfl
 ·rcases hw with rfl|rfl<;>rfl
 ·rw [hheap];simp
 ·intro b hb _
  rw [hheap];exact fE ob hb
theorem OS {h:Array Obj} (R:Rel h G tmps σ) {loc:Nat->Loc} : ∀(j:Nat) (cs:List D) (vs:List Value),RDs h G loc j cs vs->cs.all aM=true->cs.all (lowC σ.S.length)=true:=by
 have hp: ∀q b,G.ob q=some b->q<σ.S.length:=by
  intro q b hb
  rcases Nat.lt_or_ge q σ.S.length with hl|hl
  ·exact hl
  ·rw [R.obn q hl] at hb;cases hb
 have inner: ∀(cs:List D) (vs:List Value) (loc:Nat->Loc) (j:Nat),RDs h G loc j cs vs->cs.all bJ=true->cs.all (lowP σ.S.length)=true:=by
  intro cs
  induction cs with
  |nil=>intros;rfl
  |cons d r ih=>
   intro vs loc j hr hc
   cases vs with
   |nil=>simp only [RDs] at hr
   |cons v vs=>
    simp only [RDs] at hr
    simp only [List.all_cons,Bool.and_eq_true] at hc⊢
    refine⟨?_,ih _ _ _ hr.2 hc.2⟩
    cases d with
    |ptr q off=>
     have h1:=hr.1
     simp only [RD] at h1
     obtain⟨b,hb,_⟩:=h1
     simpa [lowP] using hp q b hb
    |_=>first|exact hc.1|rfl
 intro j cs
 induction cs generalizing j with
 |nil=>intros;rfl
 |cons d r ih=>
  intro vs hr hc
  cases vs with
  |nil=>simp only [RDs] at hr
  |cons v vs=>
   simp only [RDs] at hr
   simp only [List.all_cons,Bool.and_eq_true] at hc⊢
   refine⟨?_,ih _ _ hr.2 hc.2⟩
   cases d with
   |ptr q off=>
    have h1:=hr.1
    simp only [RD] at h1
    obtain⟨b,hb,_⟩:=h1
    simpa [lowC] using hp q b hb
   |clo f cs=>
    have h1:=hr.1
    simp only [RD] at h1
    obtain⟨vs,_,h2⟩:=h1
    simpa only [lowC] using inner cs _ _ _ h2 (by simpa [aM] using hc.1)
   |_=>first|exact hc.1|rfl
theorem Low.push {S:bH} (L:Low S) {cs:List D} (h:cs.all (lowC S.length)=true):Low (S++ [cs]):=by
 intro q cs' hq
 by_cases hl:q<S.length
 ·rw [List.getElem?_append_left hl] at hq;exact L q cs' hq
 ·rw [List.getElem?_append_right (by omega)] at hq
  have hqN:q-S.length=0:=by
   rcases Nat.eq_zero_or_pos (q-S.length) with h0|h0
   ·exact h0
   ·rw [List.getElem?_eq_none (by simp;omega)] at hq;cases hq
  rw [hqN] at hq
  simp at hq
  subst hq
  rw [show q=S.length by omega];exact h
theorem dp.new {t:Nat} {v1:Value} {w1:World} {e:TypeId} {G1:Gh} {σ1:St} {d:D} {v:Value} (hdst:o.dst=some t) (ht:t<tmps.size)
  (hrun:(execOp (⟨tmps,ds⟩:Act).eval o).run P w= .ok (.value (.pointer (some ⟨w.heap.size,0,none⟩))) (w.alloc (.cells v.cells e)))
  (R:Rel w.heap G1 tmps σ1) (S1:dv w.heap G G1) (H:dG w.heap G1 0 d v) (hcl: ∀q j,q≠0->G1.ow (.hand q j)=none) (hlen:σ1.S=σ.S) (low:Low σ.S)
  (hok:(cellsOf d).all aM=true) (hcells:RDs w.heap G1 (Loc.hand 0) 0 (cellsOf d) v.cells.toList):
  dp P w G ⟨tmps,ds⟩ σ o { env:=setReg σ1.env t (.ptr σ.S.length 0),S:=σ1.S++ [cellsOf d] } :=by
 obtain⟨G2,R2,b1,b2,b3,b4,b5,b6⟩:=R.newObj H hok hcells e
 have hlow:=OS R 0 _ _ hcells hok
 have hb: ∀l b f,G2.ow l=some (b,f)->mine G b:=by
  intro l b f hl
  obtain⟨l0,h0⟩:=b6 l b f hl
  obtain⟨l1,f1,h1⟩:=S1.mine l0 b f h0
  exact .inr ⟨l1,f1,h1⟩
 have R2':Rel (w.alloc (.cells v.cells e)).heap G2 tmps { σ1 with S:=σ1.S++ [cellsOf d] } :=R2
 refine dp.give (σ1:={ σ1 with S:=σ1.S++ [cellsOf d] }) hdst ht hrun R2' (d:=.ptr σ.S.length 0) ?_ ?_ ?_ ?_
 ·refine⟨by simp only [RD];exact⟨w.heap.size,by rw [<-hlen];exact b1,rfl⟩,fun j p hp=>?_,rfl⟩
  rw [b4] at hp;cases hp
 ·intro q j hq
  rw [b5 (.hand q j) (by rintro j' hj;cases hj;exact hq rfl) (by rintro j' hj;cases hj)]
  exact hcl q j hq
 ·show Low (σ1.S++ [cellsOf d])
  rw [hlen] at*
  exact low.push (by rw [<-hlen];exact hlow)
 ·refine dq.push (.cells v.cells e) (.inl rfl) ?_ ?_ ?_ ?_ ?_
  ·rw [b2];exact S1.rd
  ·intro b hm
   rcases hm with⟨q,hq⟩|⟨l,f,hl⟩
   ·by_cases hqn:q=σ1.S.length
    ·subst hqn;rw [b1] at hq;cases hq;exact .inr rfl
    ·rw [b3 q hqn,S1.ob] at hq;exact .inl (.inl ⟨q,hq⟩)
   ·exact .inl (hb l b f hl)
  ·intro b hb'
   rw [b2] at hb'
   rcases S1.rdn b hb' with h1|⟨l,f,h1⟩
   ·exact .inl h1
   ·exact .inr (.inl (.inr ⟨l,f,h1⟩))
  ·simp [hlen]
  ·intro q hq
   rw [b3 q (by rw [hlen];omega),S1.ob]
theorem N2 {t:Nat} {x:Operand} (F:dE w.heap G tmps σ) (ho:o.op= .box t x) (hsz: ∀t,o.dst=some t->t<tmps.size) (hd:aJ (ck P) C ro mv gv σ o.dst o.type o.op=some σ'):dp P w G ⟨tmps,ds⟩ σ o σ':=by
 rw [ho] at hd
 simp only [aJ] at hd
 cases hf:bl true (Mx.opnd σ.env x) with
 |none=>simp [hf] at hd
 |some d=>
  cases hdst:o.dst with
  |none=>simp [hf,hdst] at hd
  |some u=>
   simp only [hf,hdst] at hd
   cases hft:Mx.fit (ck P t) d with
   |none=>simp [hft] at hd
   |some d'=>
    simp only [hft] at hd
    have hrun:(execOp (⟨tmps,ds⟩:Act).eval o).run P w= .ok (.value (.pointer (some ⟨w.heap.size,0,none⟩))) (w.alloc (.cells ((⟨tmps,ds⟩:Act).eval x).cells t)):=by
     unfold execOp;simp only [ho,Instr.box,newVar,newRow];rfl
    obtain⟨G1,R1,T,H1⟩:=F.rel.take (ds:=ds) 0 (F.clean 0) hf (Ap hft)
    obtain⟨H2,hok,hcells⟩:=H1.fit hft
    have hcl: ∀q j,q≠0->G1.ow (.hand q j)=none:=fun q j hq=>by rw [T.hand q j hq];exact F.clean q j
    cases hro:ro u with
    |false=>
     simp only [hro,cond_false] at hd
     cases hd
     exact dp.new (v1:=.bool true) (w1:=w) hdst (hsz u hdst) hrun R1 T.same H2 hcl rfl F.low hok hcells
    |true=>
     simp only [hro,cond_true] at hd
     cases hx:toVs (cellsOf d') with
     |none=>simp [hx] at hd
     |some xs=>
      simp only [hx] at hd
      cases hd
      obtain⟨G2,R2,S2,hl,k1,k2⟩:=R1.freeze H2 hx
      obtain⟨G3,R3,r1,r2,r3,r4,r5⟩:=R2.newRd ((⟨tmps,ds⟩:Act).eval x).cells t (0,0)
      have S12:=T.same.trans S2
      refine dp.give (d:=.rp xs) (σ1:={ σ with env:=spend σ.env x }) hdst (hsz u hdst) hrun R3 ?_ ?_ F.low ?_
      ·refine⟨?_,fun j p hp=>?_,rfl⟩
       ·simp only [RD]
        refine⟨w.heap.size,0,_,rfl,r1,?_⟩
        exact RVc.ofRVl xs _ _ 0 (RVl.mono r2 _ _ hl) (fun q v hv=>by rw [Nat.zero_add];simpa using hv)
       ·rw [r4,k1] at hp;cases hp
      ·intro q j hq
       rw [r4,k2 _ (by rintro j' hj;cases hj;exact hq rfl)];exact hcl q j hq
      ·refine dq.push _ (.inl rfl) (S12.rd.trans r2) ?_ ?_ (Nat.le_refl _) ?_
       ·intro b hm
        rcases hm with⟨q,hq⟩|⟨l,f,hl⟩
        ·rw [r3,S12.ob] at hq;exact .inl (.inl ⟨q,hq⟩)
        ·rw [r4] at hl
         obtain⟨l1,f1,h1⟩:=S12.mine l b f hl
         exact .inl (.inr ⟨l1,f1,h1⟩)
       ·intro b hb
        rcases r5 b hb with hb|hb
        ·rcases S12.rdn b hb with h1|⟨l,f,h1⟩
         ·exact .inl h1
         ·exact .inr (.inl (.inr ⟨l,f,h1⟩))
        ·exact .inr (.inr hb)
       ·intro q _;rw [r3,S12.ob]
theorem RD.zeroCell {h:Array Obj} {loc:Nat->Loc} (k:Nat) (v:Value):RD h G loc (Mx.zeroCell k v) v/\aM (Mx.zeroCell k v)=true:=by
 unfold Mx.zeroCell
 split<;>try (exact⟨by simp only [RD,RV],rfl⟩)
 cases (k==0) with
 |true=>exact⟨by simp only [cond_true,RD],rfl⟩
 |false=>exact⟨by simp only [cond_false,RD];exact .inl ⟨rfl,rfl⟩,rfl⟩
theorem RDs.zero {h:Array Obj} {loc:Nat->Loc} : ∀(j:Nat) (fl:List Nat) (vs:List Value),fl.length=vs.length->RDs h G loc j (List.zipWith Mx.zeroCell fl vs) vs/\(List.zipWith Mx.zeroCell fl vs).all aM=true
 |_,[],[],_=>⟨by simp only [List.zipWith,RDs],rfl⟩
 |j,k::fl,v::vs,hl=>by
  obtain⟨h1,h2⟩:=RDs.zero (loc:=loc) (h:=h) (j+1) fl vs (by simpa using hl)
  obtain⟨g1,g2⟩:=RD.zeroCell (G:=G) (h:=h) (loc:=fun _=>loc j) k v
  simp only [List.zipWith,RDs]
  exact⟨⟨g1,h1⟩,by simp [g2,h2]⟩
 |_,[],_::_,hl=>by simp at hl
 |_,_::_,[],hl=>by simp at hl
theorem eL {t:TypeId} (hz:(ck P t).zero.length=(ck P t).size) (h0:(ck P t).size≠0): ∃i z,P.info? t=some i/\i.zero=some z/\z.cells.size=(ck P t).size/\i.size=(ck P t).size/\i.bytes=(ck P t).bytes/\
  ∀(h:Array Obj) (loc:Nat->Loc) (j:Nat),RDs h G loc j (ck P t).zero z.cells.toList/\(ck P t).zero.all aM=true:=by
 unfold ck at*
 cases hi:P.info? t with
 |none=>simp [hi] at hz
 |some i=>
  simp only [hi] at*
  cases hfl:BH P 12 t with
  |none=>simp [hfl] at hz
  |some fl=>
   simp only [hfl] at*
   cases hzz:i.zero with
   |none=>simp [hzz] at hz
   |some z=>
    have hzk:=hzz
    simp only [hzz] at hz h0⊢
    have key:(fg fl z i.size).length=i.size->i.size≠0->z.cells.size=i.size/\ ∀(h:Array Obj) (loc:Nat->Loc) (j:Nat),RDs h G loc j (fg fl z i.size) z.cells.toList/\(fg fl z i.size).all aM=true:=by
     intro h1 h2
     unfold fg at*
     cases hc:(fl.length==i.size&&z.cells.size==i.size&&i.size != 0) with
     |false=>simp [hc] at h1;exact absurd h1.symm h2
     |true=>
      simp at hc
      refine⟨hc.1.2,fun h loc j=>?_⟩
      simp only [cond_true]
      exact RDs.zero j fl _ (by rw [Array.length_toList];exact hc.1.1.trans hc.1.2.symm)
    cases hu:P.underlying t with
    |none=>simp [hu] at hz
    |some u=>
     simp only [hu] at hz h0⊢
     cases u with
     |bool=>obtain⟨k1,k2⟩:=key hz h0;exact⟨i,z,rfl,hzk,k1,rfl,rfl,k2⟩
     |int _=>obtain⟨k1,k2⟩:=key hz h0;exact⟨i,z,rfl,hzk,k1,rfl,rfl,k2⟩
     |string=>obtain⟨k1,k2⟩:=key hz h0;exact⟨i,z,rfl,hzk,k1,rfl,rfl,k2⟩
     |slice _=>obtain⟨k1,k2⟩:=key hz h0;exact⟨i,z,rfl,hzk,k1,rfl,rfl,k2⟩
     |pointer _=>obtain⟨k1,k2⟩:=key hz h0;exact⟨i,z,rfl,hzk,k1,rfl,rfl,k2⟩
     |struct _=>obtain⟨k1,k2⟩:=key hz h0;exact⟨i,z,rfl,hzk,k1,rfl,rfl,k2⟩
     |array _ _=>obtain⟨k1,k2⟩:=key hz h0;exact⟨i,z,rfl,hzk,k1,rfl,rfl,k2⟩
     |func _ _ _=>exact absurd (show i.size=0 from hz.symm) h0
     |_=>exact absurd hz (by intro h;cases h)
theorem BE {t:TypeId} {i:TypeInfo} {z:Value} (hi:P.info? t=some i) (hz:i.zero=some z):(zeroValue t).run P w= .ok z w:=by
 simp [zeroValue,typeInfo,hi,hz]
theorem IX {t:Nat} (F:dE w.heap G tmps σ) (ho:o.op= .alloc t) (hsz: ∀t,o.dst=some t->t<tmps.size) (hd:aJ (ck P) C ro mv gv σ o.dst o.type o.op=some σ'):dp P w G ⟨tmps,ds⟩ σ o σ':=by
 rw [ho] at hd
 simp only [aJ] at hd
 cases hdst:o.dst with
 |none=>simp [hdst] at hd
 |some u=>
  simp only [hdst] at hd
  cases hc:((ck P t).zero.length==(ck P t).size&&(ck P t).size != 0) with
  |false=>simp [hc] at hd
  |true=>
   simp only [hc,cond_true] at hd
   cases hd
   simp at hc
   obtain⟨i,z,hi,hz,h1,h2,_,h3⟩:=eL (G:=G) hc.1 hc.2
   obtain⟨h4,h5⟩:=h3 w.heap (Loc.hand 0) 0
   have hrun:(execOp (⟨tmps,ds⟩:Act).eval o).run P w= .ok (.value (.pointer (some ⟨w.heap.size,0,none⟩))) (w.alloc (.cells (Value.agg z.cells).cells t)):=by
    unfold execOp;simp only [ho,Instr.alloc,Sem.run_bind,BE hi hz,Result.andThen_ok,newVar,newRow];rfl
   have:=dp.new (v1:=.bool true) (w1:=w) (d:=.agg (ck P t).zero) (v:=.agg z.cells) hdst (hsz u hdst) hrun F.rel (dv.refl _ _) (dG.free F.clean (fun loc=>by
    simp only [RD];exact⟨_,rfl,(h3 w.heap loc 0).1⟩) (by simpa [bD] using h5)) (fun q j _=>F.clean q j) rfl F.low h5 h4
   exact this
theorem dp.newOwn {t:Nat} {w1:World} {G1:Gh} {σ1:St} {c:Array Value} {e:TypeId} {fr:Nat×Nat} {sz len cap:Nat} {l:List (List V)} (hdst:o.dst=some t) (ht:t<tmps.size)
  (hrun:(execOp (⟨tmps,ds⟩:Act).eval o).run P w= .ok (.value (.slice (some ⟨w.heap.size,0,none⟩) len cap)) w1) (hw:w1=w.alloc (.cells c e fr)∨w1=w.drew.alloc (.cells c e fr))
  (R:Rel w.heap G1 tmps σ1) (hcl:xd G1) (hS:σ1.S.length=σ.S.length) (low:Low σ1.S) (S1:dv w.heap G G1)
  (hfr:fQ c fr) (hl:l.length=len) (hz:sz≠0) (hc:len<=cap) (hs:cap*sz<=c.size) (hr:RVr G1.rd sz l c 0):dp P w G ⟨tmps,ds⟩ σ o { σ1 with env:=setReg σ1.env t (.own sz l) } :=by
 obtain⟨G2,R2,H,b1,b2,b3,b4⟩:=R.newOwn (k:=0) (hcl 0) c e fr hfr hl hz hc hs hr
 have hheap:w1.heap=w.heap.push (.cells c e fr):=by rcases hw with rfl|rfl<;>rfl
 refine dp.give hdst ht hrun (by rw [hheap];exact R2) (by rw [hheap];exact H) ?_ low ?_
 ·intro q j hq
  rw [b3 _ (by rintro j' hj;cases hj;exact hq rfl)];exact hcl q j
 ·refine dq.push _ hw (by rw [b1];exact S1.rd) ?_ ?_ (by rw [hS];exact Nat.le_refl _) (fun q _=>by rw [b2,S1.ob])
  ·intro b hm
   rcases hm with⟨q,hq⟩|⟨l,f,hl⟩
   ·rw [b2,S1.ob] at hq;exact .inl (.inl ⟨q,hq⟩)
   ·rcases b4 l b f hl with h1|h1
    ·obtain⟨l1,f1,h2⟩:=S1.mine l b f h1;exact .inl (.inr ⟨l1,f1,h2⟩)
    ·exact .inr h1
  ·intro b hb
   rw [b1] at hb
   rcases S1.rdn b hb with h1|⟨l,f,h1⟩
   ·exact .inl h1
   ·exact .inr (.inl (.inr ⟨l,f,h1⟩))
theorem EV {src dst:Nat} {x:Operand} (F:dE w.heap G tmps σ) (ho:o.op= .convert src dst x) (hsz: ∀t,o.dst=some t->t<tmps.size) (hus:P.underlying src=some .string) (hd:aJ (ck P) C ro mv gv σ o.dst o.type o.op=some σ'):dp P w G ⟨tmps,ds⟩ σ o σ':=by
 rw [ho] at hd
 simp only [aJ] at hd
 split at hd
 ·rename_i s u hf hdst
  split at hd
  ·rename_i e hte
   split at hd
   ·rename_i hue
    cases hd
    have hx:(⟨tmps,ds⟩:Act).eval x= .string s:=RD.str (F.rel.opndF ds hf)
    obtain⟨i1,hi1,hu1⟩:=dw hte
    obtain⟨i2,hi2,hu2⟩:=gT hue
    have hrun:=run_bytes_of_string (P:=P) w src dst e s hus hu1 hu2
    refine dp.newOwn (w1:=w.drew.alloc (.cells (bytesRow s (grownCap w s.size 0 e)) e ((bytesRow s (grownCap w s.size 0 e)).size,(bytesRow s (grownCap w s.size 0 e)).size+1))) (c:=bytesRow s (grownCap w s.size 0 e)) (e:=e) (fr:=((bytesRow s (grownCap w s.size 0 e)).size,(bytesRow s (grownCap w s.size 0 e)).size+1)) (σ1:=σ) (len:=s.size) (cap:=grownCap w s.size 0 e) hdst (hsz u hdst) ?_ (.inr rfl) F.rel F.clean rfl F.low (dv.refl _ _) ?_ ?_ (by decide) (grownCap_ge _ _ _ _) ?_ ?_
    ·unfold execOp
     simp only [ho,hx,Sem.run_bind,hrun,Result.andThen_ok];rfl
    ·intro i hi;omega
    ·simp [dJ]
    ·have:=grownCap_ge w s.size 0 e
     have hss:s.data.size=s.size:=rfl
     simp [bytesRow];omega
    ·refine RVr.of_get 1 _ _ 0 (fun i r hr=>?_)
     unfold dJ at hr
     rw [List.getElem?_map] at hr
     cases hb:s.data.toList[i]? with
     |none=>rw [hb] at hr;cases hr
     |some b=>
      rw [hb] at hr
      simp at hr
      subst hr
      have hi:i<s.data.size:=by
       have:=(List.getElem?_eq_some_iff.1 hb).1
       simpa using this
      have hbi:s.data[i]=b:=by
       have:=(List.getElem?_eq_some_iff.1 hb).2
       simpa using this
      refine⟨rfl,?_⟩
      simp only [RVc,Nat.zero_add,Nat.mul_one]
      exact⟨⟨_,bytesRow_at s _ i hi,by simp only [RV,hbi]⟩,trivial⟩
   ·cases hd
  ·cases hd
 ·cases hd
theorem BU (z:Array Value) (n i q:Nat) (hz:z.size≠0) (hi:i*z.size+q<n) (hq:q<z.size):(madeCells z n)[i*z.size+q]? =z[q]? :=by
 unfold madeCells
 rw [Array.getElem?_map]
 have:(Array.range n)[i*z.size+q]? =some (i*z.size+q):=by
  rw [Array.getElem?_range];simp [hi]
 rw [this]
 simp only [Option.map_some]
 rw [Nat.mul_add_mod_self_right,Nat.mod_eq_of_lt hq,Array.getElem?_eq_getElem hq]
 simp [hq]
theorem LA {t:Nat} {n m:Operand} (F:dE w.heap G tmps σ) (ho:o.op= .makeSlice t n m) (hnm:(⟨tmps,ds⟩:Act).eval m=(⟨tmps,ds⟩:Act).eval n) (hsz: ∀t,o.dst=some t->t<tmps.size) (hd:aJ (ck P) C ro mv gv σ o.dst o.type o.op=some σ'):dp P w G ⟨tmps,ds⟩ σ o σ':=by
 rw [ho] at hd
 simp only [aJ] at hd
 split at hd
 ·rename_i k n0 u hf hdst
  split at hd
  ·rename_i e hte
   cases hc:((ck P e).zero.length==(ck P e).size&&(ck P e).size != 0&&Ow n0 (ck P e).bytes) with
   |false=>rw [hc] at hd;cases hd
   |true=>
    rw [hc,cond_true] at hd
    simp at hc
    obtain⟨⟨hc1,hc2⟩,hc3,hc4,hc5⟩:=hc
    split at hd
    ·rename_i z0 hz0
     cases hd
     obtain⟨i,z,hi,hz,h1,h2,hby,h3⟩:=eL (G:=G) hc1 hc2
     obtain⟨i1,hi1,hu1⟩:=dw hte
     have hx:(⟨tmps,ds⟩:Act).eval n= .int k n0:=RD.int (F.rel.opndF ds hf)
     have hrow:RVl G.rd z0 z.cells.toList:=by
      refine RDs.toVs (G:=G) (h:=w.heap) (loc:=Loc.hand 0) (cS.refl _) 0 (ck P e).zero z.cells.toList z0 (fun i d _ _ b f hb=>?_) (h3 w.heap (Loc.hand 0) 0).1 hz0
      rw [F.clean] at hb;cases hb
     have hzl:=RVl.length _ _ hrow
     have hrun:=run_make (P:=P) w t e i z hu1 hi hz k k n0 n0 hc3 (Int.le_refl _) (by rw [hby,Int.mul_comm];omega) (by omega)
     have hzs:z.cells.size=(ck P e).size:=h1
     refine dp.newOwn (w1:=w.alloc (.cells (madeCells z.cells (n0.toNat*i.size)) e)) (c:=madeCells z.cells (n0.toNat*i.size)) (e:=e) (fr:=(0,0)) (σ1:=σ) (len:=n0.toNat) (cap:=n0.toNat) hdst (hsz u hdst) ?_ (.inl rfl) F.rel F.clean rfl F.low (dv.refl _ _) ?_ (by simp) hc2 (Nat.le_refl _) ?_ ?_
     ·unfold execOp
      simp only [ho,hx,hnm,Sem.run_bind,hrun,Result.andThen_ok];rfl
     ·intro i hi;omega
     ·rw [size_madeCells,h2];exact Nat.le_refl _
     ·refine RVr.of_get _ _ _ 0 (fun q r hr=>?_)
      rw [List.getElem?_replicate] at hr
      split at hr
      ·rename_i hq
       cases hr
       have hl0:z0.length=(ck P e).size:=by rw [<-hzl,Array.length_toList,h1]
       refine⟨hl0,?_⟩
       rw [Nat.zero_add]
       refine RVc.ofRVl z0 _ _ _ hrow (fun p v hv=>?_)
       have hp:p<z.cells.size:=by
        have:=(List.getElem?_eq_some_iff.1 hv).1
        simpa using this
       rw [<-hzs,BU z.cells _ q p (by omega) ?_ hp]
       ·simpa using hv
       ·rw [h2,<-hzs]
        calc q*z.cells.size+p<q*z.cells.size+z.cells.size:=by omega
         _=(q+1)*z.cells.size:=by rw [Nat.succ_mul]
         _<=n0.toNat*z.cells.size:=Nat.mul_le_mul_right _ hq
      ·cases hr
    ·cases hd
  ·cases hd
 ·cases hd
end
end Go.Mx
namespace Go.Mx
open Go
section
variable {P:Program} {w:World} {h:Array Obj} {G:Gh} {tmps:Array Value} {σ σ':St} {ds:List Deferred} {C:aj} {ro mv gv:Nat->Bool} {o:Oper}
theorem Rel.hands (R:Rel h G tmps σ) {ow:Loc->Option (Nat×Nat)} (hp: ∀l,l.place=true->ow l=G.ow l) (hs: ∀l p,ow l=some p-> ∃l0,G.ow l0=some p)
  (hi: ∀l l' b f f',ow l=some (b,f)->ow l'=some (b,f')->l=l'):Rel h { G with ow:=ow } tmps σ:=by
 have F:Fr (fun _=>False) h G h { G with ow:=ow } :=⟨cS.refl _,fun _ _ h=>h,fun l p hpl _ hl=>by
  show ow l=some p
  rw [hp l hpl];exact hl,fun _ _ _ _ _ _=>rfl⟩
 refine⟨R.inv.sub hs hi,fun t=>RD.fr F _ (fun _=>rfl) _ _ (free.none _ _) (R.env t),?_,R.obc,R.obn,?_⟩
 ·intro q cs hcs
  obtain⟨b,c,e,fr,h1,h2,h3,h4⟩:=R.obj q cs hcs
  exact⟨b,c,e,fr,h1,h2,h3,RDs.fr F _ (fun _=>rfl) _ _ _ (kn.none _ _ _) h4⟩
 ·intro l p hh hl
  have hl':ow l=some p:=hl
  rw [hp l (by cases l<;>first|rfl|exact absurd rfl (hh _ _))] at hl'
  exact R.own l p hh hl'
theorem Rel.merge (R:Rel h G tmps σ) {cs:List D} {vs:Array Value} (H0:dG h G 0 (.agg cs) (.agg vs)) {d:D} {v:Value} (H1:dG h G 1 d v) {off:Nat}
  (hok:(cellsOf d).all aM=true) (hcells:RDs h G (Loc.hand 1) 0 (cellsOf d) v.cells.toList) (hoff:off+(cellsOf d).length<=cs.length):
  ∃G',Rel h G' tmps σ/\dG h G' 0 (.agg (setCells cs off (cellsOf d))) (.agg (wr vs off v.cells.toList))/\dv h G G'/\(∀j,G'.ow (.hand 1 j)=none)/\(∀q j,q≠0->q≠1->G'.ow (.hand q j)=G.ow (.hand q j)):=by
 let n:=(cellsOf d).length
 have hn:(cellsOf d).length=n:=rfl
 let ow:Loc->Option (Nat×Nat):=fun l=>match l with
  | .hand q j=>if q=1 then none else if q=0/\off<=j/\j<off+n then G.ow (.hand 1 (j-off)) else G.ow (.hand q j)
  |l=>G.ow l
 have o1: ∀j,ow (.hand 1 j)=none:=fun j=>by simp [ow]
 have o2: ∀j,off<=j->j<off+n->ow (.hand 0 j)=G.ow (.hand 1 (j-off)):=fun j h1 h2=>by simp [ow,h1,h2]
 have o3: ∀j,¬(off<=j/\j<off+n)->ow (.hand 0 j)=G.ow (.hand 0 j):=fun j hj=>by simp only [ow];rw [if_neg (by decide),if_neg (fun hx=>hj hx.2)]
 have o4: ∀q j,q≠0->q≠1->ow (.hand q j)=G.ow (.hand q j):=fun q j h0 h1=>by simp [ow,h0,h1]
 let r:Loc->Loc:=fun l=>match l with
  | .hand q j=>if q=0/\off<=j/\j<off+n then .hand 1 (j-off) else .hand q j
  |l=>l
 have hr: ∀l p,ow l=some p->G.ow (r l)=some p/\ ∀j,l≠ .hand 1 j:=by
  intro l p hl
  refine⟨?_,by rintro j rfl;rw [o1] at hl;cases hl⟩
  cases l with
  |hand q j=>
   by_cases hq:q=1
   ·subst hq;rw [o1] at hl;cases hl
   ·by_cases h0:q=0
    ·subst h0
     by_cases hj:off<=j/\j<off+n
     ·rw [o2 j hj.1 hj.2] at hl;simpa [r,hj.1,hj.2] using hl
     ·rw [o3 j hj] at hl;simp only [r];rw [if_neg (fun hx=>hj hx.2)];exact hl
    ·rw [o4 q j h0 hq] at hl;simp only [r];rw [if_neg (fun hx=>h0 hx.1)];exact hl
  |_=>exact hl
 have hinj: ∀l l' b f f',ow l=some (b,f)->ow l'=some (b,f')->l=l':=by
  intro l l' b f f' h1 h2
  have e:=R.inv.ow_inj _ _ b f f' (hr _ _ h1).1 (hr _ _ h2).1
  have g1:=(hr _ _ h1).2
  have g2:=(hr _ _ h2).2
  cases l with
  |hand q j=>
   cases l' with
   |hand q' j'=>
    simp only [r] at e
    split at e<;>split at e
    ·rename_i a1 a2
     injection e with e1 e2
     rw [a1.1,a2.1,show j=j' by omega]
    ·injection e with e1 e2;subst e1;exact absurd rfl (g2 _)
    ·injection e with e1 e2;subst e1;exact absurd rfl (g1 _)
    ·exact e
   |_=>simp only [r] at e;split at e<;>cases e
  |_=>
   cases l' with
   |hand q' j'=>simp only [r] at e;split at e<;>cases e
   |_=>exact e
 refine⟨{ G with ow:=ow },R.hands (fun l hl=>by cases l<;>first|rfl|cases hl) (fun l p hl=>⟨_,(hr l p hl).1⟩) hinj,⟨?_,?_,?_⟩,⟨cS.refl _,rfl,fun l b f hl=>⟨_,f,(hr l _ hl).1⟩,fun b hb=>.inl hb⟩,o1,o4⟩
 ·have hr0:=H0.rd
  simp only [RD] at hr0⊢
  obtain⟨vs',e1,h4⟩:=hr0
  cases e1
  refine⟨_,rfl,RDs.of_get _ _ _ _ ?_ ?_⟩
  ·rw [Array.length_toList,eT,em,<-RDs.length _ _ _ _ h4,Array.length_toList]
  ·have hvl:=RDs.length _ _ _ _ hcells
   have hlen:=RDs.length _ _ _ _ h4
   intro i d' hd'
   rw [Nat.zero_add]
   have hok0:cs.all aM=true:=by simpa [bD] using H0.ok
   by_cases hin:off<=i/\i<off+n
   ·have hi':i=off+(i-off):=by omega
    rw [hi',dF _ _ _ _ hoff (by omega)] at hd'
    obtain⟨v',hv1,hv2⟩:=RDs.get _ _ _ _ _ _ hcells hd'
    refine⟨v',?_,?_⟩
    ·rw [Array.getElem?_toList,hi',CI _ _ _ _ (by rw [hvl,<-Array.length_toList,hlen];exact hoff) (by rw [hvl];omega)];exact hv1
    ·rw [Nat.zero_add] at hv2
     have hck:aM d'=true:=List.all_eq_true.1 hok d' (List.mem_of_getElem? hd')
     refine RD.cellMove (G:=G) (G':={ G with ow:=ow }) (h:=h) (l:=.hand 1 (i-off)) ⟨cS.refl _,fun _ _ h=>h⟩ hck (fun _ b f hb=>⟨?_,rfl⟩) hv2
     show ow (.hand 0 i)=some (b,f)
     rw [o2 i hin.1 hin.2];exact hb
   ·rw [di _ _ _ _ (by omega)] at hd'
    obtain⟨v',hv1,hv2⟩:=RDs.get _ _ _ _ _ _ h4 hd'
    refine⟨v',?_,?_⟩
    ·rw [Array.getElem?_toList] at*
     rw [gq _ _ _ _ (by rw [hvl];omega)];exact hv1
    ·rw [Nat.zero_add] at hv2
     have hck:aM d'=true:=List.all_eq_true.1 hok0 d' (List.mem_of_getElem? hd')
     refine RD.cellMove (G:=G) (G':={ G with ow:=ow }) (h:=h) (l:=.hand 0 i) ⟨cS.refl _,fun _ _ h=>h⟩ hck (fun _ b f hb=>⟨?_,rfl⟩) hv2
     show ow (.hand 0 i)=some (b,f)
     rw [o3 i hin];exact hb
 ·intro j p hp
  have hp':ow (.hand 0 j)=some p:=hp
  simp only [cW]
  by_cases hin:off<=j/\j<off+n
  ·rw [o2 j hin.1 hin.2] at hp'
   obtain⟨d',h1,h2⟩:=zU (H1.own _ p hp')
   have hj:(setCells cs off (cellsOf d))[j]? =some d':=by
    rw [show j=off+(j-off) by omega,dF _ _ _ _ hoff (by omega)];exact h1
   rw [hj];exact h2
  ·rw [o3 j hin] at hp'
   have:=H0.own _ p hp'
   simp only [cW] at this
   rw [di _ _ _ _ (by omega)];exact this
 ·have hok0:cs.all aM=true:=by simpa [bD] using H0.ok
  simp only [bD]
  rw [List.all_eq_true]
  intro d' hd'
  obtain⟨i,hi⟩:=List.mem_iff_getElem?.1 hd'
  by_cases hin:off<=i/\i<off+n
  ·rw [show i=off+(i-off) by omega,dF _ _ _ _ hoff (by omega)] at hi
   exact List.all_eq_true.1 hok d' (List.mem_of_getElem? hi)
  ·rw [di _ _ _ _ (by omega)] at hi
   exact List.all_eq_true.1 hok0 d' (List.mem_of_getElem? hi)
theorem HL: ∀(vs:List Value) (c:Array Value) (off k:Nat),(vs.zipIdx k).foldl (fun cs (x:Value×Nat)=>cs.setIfInBounds (off+x.2) x.1) c=wr c (off+k) vs
 | [],_,_,_=>rfl
 |v::r,c,off,k=>by
  simp only [List.zipIdx_cons,List.foldl_cons]
  rw [HL r,wr,Nat.add_assoc]
theorem CM {place:Nat->Option (Nat×Nat)} {cells:Array Value} {i off n:Nat} {v:Value} {rest:List (Nat×Value)} (hp:place i=some (off,n)) (hv:v.cells.size=n) (hc:off+n<=cells.size):
  Instr.fill place cells ((i,v)::rest)=Instr.fill place (wr cells off v.cells.toList) rest:=by
 simp only [Instr.fill,hp]
 have hno:(decide (v.cells.size≠n)||decide (off+v.cells.size>cells.size))=false:=by simp [hv];omega
 rw [if_neg (by rw [hno];decide)]
 congr 1
 rw [<-Array.foldl_toList,Array.toList_zipIdx,HL,Nat.add_zero]
theorem Ig {loc:Nat->Loc} {d:D} {v:Value} (hk:ey d=true) (hv:bD d=true) (hr:RD h G loc d v):RDs h G loc 0 (cellsOf d) v.cells.toList/\(cellsOf d).all aM=true:=by
 refine⟨?_,?_⟩
 ·rcases RD.cells hv hr (fun _ _=>trivial) with rfl|rfl|hc
  ·simp [ey] at hk
  ·simp [ey] at hk
  ·exact hc
 ·cases d with
  |agg cs=>simpa [bD,cellsOf] using hv
  |_=>simpa [bD,cellsOf] using hv
theorem zW {pa pc:Nat->Option (Nat×Nat)} (hpl: ∀i x,pa i=some x->pc i=some x): ∀(parts:List (Nat×Operand)) (env env':Env) (dsl:List (Nat×D)) (cs cs':List D) (vs:Array Value) (G:Gh),
  Rel h G tmps { σ with env:=env } ->dG h G 0 (.agg cs) (.agg vs)->(∀q j,q≠0->G.ow (.hand q j)=none)->takeParts env parts=some (dsl,env')->fill pa cs dsl=some cs'->
  ∃G' vs',Instr.fill pc vs (parts.map fun p=>(p.1,(⟨tmps,ds⟩:Act).eval p.2))=some vs'/\Rel h G' tmps { σ with env:=env' } /\dG h G' 0 (.agg cs') (.agg vs')/\dv h G G'/\(∀q j,q≠0->G'.ow (.hand q j)=none)
 | [],env,env',dsl,cs,cs',vs,G,R,H0,hc,ht,hf=>by
  simp only [takeParts] at ht
  cases ht
  simp only [fill] at hf
  cases hf
  exact⟨G,vs,rfl,R,H0,dv.refl _ _,hc⟩
 |(i,x)::rest,env,env',dsl,cs,cs',vs,G,R,H0,hc,ht,hf=>by
  simp only [takeParts] at ht
  cases hfo:bl true (Mx.opnd env x) with
  |none=>simp [hfo] at ht
  |some d=>
   simp only [hfo] at ht
   cases hv:bD d with
   |false=>simp [hv] at ht
   |true=>
    simp only [hv,cond_true] at ht
    cases htr:takeParts (spend env x) rest with
    |none=>simp [htr] at ht
    |some p=>
     obtain⟨s,env1⟩:=p
     simp only [htr] at ht
     cases ht
     simp only [fill] at hf
     cases hpa:pa i with
     |none=>simp [hpa] at hf
     |some q=>
      obtain⟨off,n⟩:=q
      simp only [hpa] at hf
      cases hcnd:((cellsOf d).length==n&&decide (off+n<=cs.length)) with
      |false=>simp [hcnd] at hf
      |true=>
       simp only [hcnd,cond_true] at hf
       simp at hcnd
       obtain⟨G1,R1,T,H1⟩:=R.take (σ:={ σ with env:=env }) (ds:=ds) 1 (fun j=>hc 1 j (by decide)) (x:=x) hfo hv
       obtain⟨hcells,hok⟩:=Ig (fj hfo) hv H1.rd
       have H0':=T.held (q:=0) (by decide) H0
       obtain⟨G2,R2,H2,S2,c1,c2⟩:=R1.merge H0' H1 (off:=off) hok hcells (by omega)
       have hvl:=RDs.length _ _ _ _ hcells
       obtain⟨G3,vs',f3,R3,H3,S3,c3⟩:=zW hpl rest (spend env x) env' s _ cs' _ G2 R2 H2 (fun q j h0=>by
        by_cases hq:q=1
        ·subst hq;exact c1 j
        ·rw [c2 q j h0 hq,T.hand q j hq];exact hc q j h0) htr hf
       refine⟨G3,vs',?_,R3,H3,(T.same.trans S2).trans S3,c3⟩
       simp only [List.map_cons]
       have hvs:vs.size=cs.length:=by
        have:=H0.rd
        simp only [RD] at this
        obtain⟨vs0,e0,h4⟩:=this
        cases e0
        have:=RDs.length _ _ _ _ h4
        simpa using this
       rw [CM (hpl i _ hpa) (by rw [<-Array.length_toList,hvl];exact hcnd.1) (by omega)]
       exact f3
theorem Iy {t:Nat} {parts:Array (Nat×Operand)} (F:dE w.heap G tmps σ) (ho:o.op= .build t parts) (hsz: ∀t,o.dst=some t->t<tmps.size) (hd:aJ (ck P) C ro mv gv σ o.dst o.type o.op=some σ'):dp P w G ⟨tmps,ds⟩ σ o σ':=by
 rw [ho] at hd
 simp only [aJ] at hd
 split at hd
 ·rename_i dsl env' u htp hdst
  split at hd
  ·rename_i fs htk
   cases hc:((ck P t).zero.length==(ck P t).size&&(ck P t).size != 0&&fs.all (fun f=>!(ck P f.2).flat.isEmpty)) with
   |false=>rw [hc] at hd;cases hd
   |true=>
    rw [hc,cond_true] at hd
    split at hd
    ·rename_i cs hfill
     split at hd
     ·rename_i cs' hfit
      cases hd
      simp only [Bool.and_eq_true,beq_iff_eq,bne_iff_ne] at hc
      obtain⟨⟨hc1,hc2⟩,hc3⟩:=hc
      obtain⟨i,z,hi,hz,h1,h2,hby,h3⟩:=eL (G:=G) hc1 hc2
      obtain⟨i1,fs0,hi1,hu1,hfs,hagg⟩:=zD htk
      have hplaces:fs0.toList.mapM (fun f=>(P.info? f.type).map fun i=>(f.offset,i.size))=some (fs.map fun f=>(f.1,(ck P f.2).size)):=by
       rw [hfs] at hc3⊢
       generalize fs0.toList=l at hc3
       induction l with
       |nil=>rfl
       |cons f r ih=>
        simp only [List.map_cons,List.all_cons,Bool.and_eq_true] at hc3
        obtain⟨i2,e1,e2,_⟩:=fF (P:=P) (t:=f.type) (by intro hx;rw [hx] at hc3;simp at hc3)
        simp only [List.mapM_cons,e1,Option.map_some,List.map_cons,e2]
        rw [ih hc3.2];rfl
      have Hz:dG w.heap G 0 (.agg (ck P t).zero) (.agg z.cells):=dG.free F.clean (fun loc=>by simp only [RD];exact⟨_,rfl,(h3 w.heap loc 0).1⟩) (by simpa [bD] using (h3 w.heap (Loc.hand 0) 0).2)
      obtain⟨G1,vs',f1,R1,H1,S1,c1⟩:=zW (ds:=ds) (σ:=σ) (pa:=fun i=>(fs[i]?).map fun f=>(f.1,(ck P f.2).size)) (pc:=((fs.map fun f=>(f.1,(ck P f.2).size)).toArray[·]?)) (fun i x hx=>by simpa using hx)
       parts.toList σ.env env' dsl _ cs _ G F.rel Hz (fun q j _=>F.clean q j) htp hfill
      have hb:P.built t (parts.map fun p=>(p.1,(⟨tmps,ds⟩:Act).eval p.2)).toList=some vs':=by
       unfold Program.built
       simp only [hi,hu1,hz,hplaces]
       simpa using f1
      have H2:dG w.heap G1 0 (.agg cs') (.agg vs'):=by
       have hft:Mx.fit (ck P t) (.agg cs)=some (.agg cs'):=by simp [Mx.fit,hagg,hfit]
       exact (H1.fit hft).1
      refine dp.give (σ1:={ σ with env:=env' }) hdst (hsz u hdst) ?_ R1 H2 c1 F.low (S1.goes rfl)
      unfold execOp
      simp only [ho,Sem.run_bind,run_build w t _ vs' hb,Result.andThen_ok];rfl
     ·cases hd
    ·cases hd
  ·cases hd
 ·cases hd
theorem zX {sz:Nat} : ∀(parts:List (Nat×Operand)) (m:Nat) (env env':Env) (dsl:List (Nat×D)) (rows:List (List V)) (vs:Array Value) (G:Gh),
  Rel h G tmps { σ with env:=env } ->xd G->takeParts env parts=some (dsl,env')->bv sz dsl=some rows->aR m dsl=true->(m+dsl.length)*sz<=vs.size->
  ∃G' vs',Instr.fill (fun i=>some (i*sz,sz)) vs (parts.map fun p=>(p.1,(⟨tmps,ds⟩:Act).eval p.2))=some vs'/\vs'.size=vs.size/\(∀i,i<m*sz->vs'[i]? =vs[i]?)/\RVr G'.rd sz rows vs' (m*sz)/\rows.length=dsl.length/\
   Rel h G' tmps { σ with env:=env' } /\dv h G G'/\xd G'
 | [],m,env,env',dsl,rows,vs,G,R,cl,ht,hr,hi,hsz=>by
  simp only [takeParts] at ht
  cases ht
  simp only [bv] at hr
  cases hr
  exact⟨G,vs,rfl,rfl,fun _ _=>rfl,by simp only [RVr],rfl,R,dv.refl _ _,cl⟩
 |(i,x)::rest,m,env,env',dsl,rows,vs,G,R,cl,ht,hr,hi,hsz=>by
  simp only [takeParts] at ht
  cases hfo:bl true (Mx.opnd env x) with
  |none=>simp [hfo] at ht
  |some d=>
   simp only [hfo] at ht
   cases hv:bD d with
   |false=>simp [hv] at ht
   |true=>
    simp only [hv,cond_true] at ht
    cases htr:takeParts (spend env x) rest with
    |none=>simp [htr] at ht
    |some p=>
     obtain⟨s,env1⟩:=p
     simp only [htr] at ht
     cases ht
     simp only [bv] at hr
     cases hx:toVs (cellsOf d) with
     |none=>simp [hx] at hr
     |some row=>
      simp only [hx] at hr
      cases hl:(row.length==sz) with
      |false=>simp [hl] at hr
      |true=>
       simp only [hl,cond_true] at hr
       cases hrr:bv sz s with
       |none=>simp [hrr] at hr
       |some rows1=>
        simp only [hrr] at hr
        cases hr
        simp only [aR,Bool.and_eq_true,beq_iff_eq] at hi
        obtain⟨rfl,hi2⟩:=hi
        have hl':row.length=sz:=by simpa using hl
        obtain⟨G1,R1,T,H1⟩:=R.take (σ:={ σ with env:=env }) (ds:=ds) 1 (fun j=>cl 1 j) (x:=x) hfo hv
        obtain⟨G2,R2,S2,l2,c1,c2⟩:=R1.freeze H1 hx
        have cl2:xd G2:=fun q j=>by
         by_cases hq:q=1
         ·subst hq;exact c1 j
         ·rw [c2 _ (by rintro j' hj;cases hj;exact hq rfl),T.hand q j hq];exact cl q j
        have hvl:=RVl.length _ _ l2
        have hvs:((⟨tmps,ds⟩:Act).eval x).cells.size=sz:=by rw [<-Array.length_toList,hvl,hl']
        have hroom:i*sz+sz<=vs.size:=by
         refine Nat.le_trans ?_ hsz
         simp only [List.length_cons]
         rw [<-Nat.succ_mul]
         exact Nat.mul_le_mul_right _ (by omega)
        obtain⟨G3,vs',f3,hs3,hk3,r3,len3,R3,S3,c3⟩:=zX rest (i+1) (spend env x) env' s rows1 (wr vs (i*sz) ((⟨tmps,ds⟩:Act).eval x).cells.toList) G2 R2 cl2 htr hrr hi2 (by
         rw [eT];simp only [List.length_cons] at hsz;rw [show i+1+s.length=i+(s.length+1) by omega];exact hsz)
        refine⟨G3,vs',?_,by rw [hs3,eT],?_,?_,by simp [len3],R3,(T.same.trans S2).trans S3,c3⟩
        ·simp only [List.map_cons]
         rw [CM rfl hvs hroom];exact f3
        ·intro q hq
         rw [hk3 q (by rw [Nat.succ_mul];omega),gq _ _ _ _ (.inl hq)]
        ·simp only [RVr]
         refine⟨hl',?_,by rw [<-Nat.succ_mul];exact r3⟩
         refine RVc.ofRVl row _ _ _ (RVl.mono S3.rd _ _ l2) (fun q v hv'=>?_)
         have hq:q<sz:=by
          have:=(List.getElem?_eq_some_iff.1 hv').1
          rw [hvl] at this;omega
         rw [hk3 _ (by rw [Nat.succ_mul];omega),CI _ _ _ _ (by rw [Array.length_toList,hvs];exact hroom) (by rw [Array.length_toList,hvs];exact hq)]
         exact hv'
theorem Ab {t n:Nat} {parts:Array (Nat×Operand)} (F:dE w.heap G tmps σ) (ho:o.op= .buildSlice t n parts) (hsz: ∀t,o.dst=some t->t<tmps.size) (hd:aJ (ck P) C ro mv gv σ o.dst o.type o.op=some σ'):dp P w G ⟨tmps,ds⟩ σ o σ':=by
 rw [ho] at hd
 simp only [aJ] at hd
 split at hd
 ·rename_i dsl env' u htp hdst
  split at hd
  ·rename_i e htk
   cases hc:((ck P e).zero.length==(ck P e).size&&(ck P e).size != 0&&decide (n*(ck P e).size<=16777216)&&aR 0 dsl&&dsl.length==n) with
   |false=>rw [hc] at hd;cases hd
   |true=>
    rw [hc,cond_true] at hd
    split at hd
    ·rename_i rows hrows
     cases hd
     simp only [Bool.and_eq_true,beq_iff_eq,bne_iff_ne,decide_eq_true_eq] at hc
     obtain⟨⟨⟨⟨hc1,hc2⟩,hc3⟩,hc4⟩,hc5⟩:=hc
     obtain⟨i,z,hi,hz,h1,h2,hby,h3⟩:=eL (G:=G) hc1 hc2
     obtain⟨i1,hi1,hu1⟩:=dw htk
     obtain⟨G1,vs',f1,hs1,_,r1,len1,R1,S1,c1⟩:=zX (ds:=ds) (σ:=σ) (sz:=(ck P e).size) parts.toList 0 σ.env env' dsl rows (if n*(ck P e).size=0 then #[] else (Array.range (n*i.size)).map (z.cells[·% z.cells.size]!)) G F.rel F.clean htp hrows hc4 (by
      rw [Nat.zero_add,hc5]
      split
      ·rename_i hz0;rw [hz0];exact Nat.zero_le _
      ·simp [h2])
     have hrun:(Instr.buildSlice t n (parts.map fun p=>(p.1,(⟨tmps,ds⟩:Act).eval p.2))).run P w= .ok (.slice (some ⟨w.heap.size,0,none⟩) n n) (w.alloc (.cells vs' e)):=by
      by_cases hn0:n*(ck P e).size=0
      ·have hn:n=0:=by
        rcases Nat.mul_eq_zero.1 hn0 with h|h
        ·exact h
        ·exact absurd h hc2
       subst hn
       have hdl:dsl= []:=List.length_eq_zero_iff.1 hc5
       have hpl:parts.toList= []:=by
        cases hpp:parts.toList with
        |nil=>rfl
        |cons p r=>
         rw [hpp] at htp
         obtain⟨a,b⟩:=p
         simp only [takeParts] at htp
         split at htp
         ·cases hv:bD _<;>rw [hv] at htp
          ·cases htp
          ·simp only [cond_true] at htp
           split at htp
           ·cases htp;cases hdl
           ·cases htp
         ·cases htp
       have hpa:parts= #[]:=by apply Array.ext';simpa using hpl
       subst hpa
       rw [if_pos hn0] at f1
       simp [Instr.fill] at f1
       subst f1
       simp [Instr.buildSlice,run_underlying hu1,sizeOf,typeInfo,hi,newRow,Instr.fill]
       congr 2
       apply Array.ext'
       simp [Array.range]
      ·refine run_buildSlice w t e n _ vs' i z hu1 hi hz (by rw [h2];omega) (by rw [h2];exact hn0) ?_
       rw [if_neg hn0] at f1
       rw [h2] at f1⊢
       simpa using f1
     refine dp.newOwn (w1:=w.alloc (.cells vs' e)) (c:=vs') (e:=e) (fr:=(0,0)) (σ1:={ σ with env:=env' }) (len:=n) (cap:=n) hdst (hsz u hdst) ?_ (.inl rfl) R1 c1 rfl F.low S1 ?_ (by rw [len1,hc5]) hc2 (Nat.le_refl _) ?_ (by simpa using r1)
     ·unfold execOp
      simp only [ho,Sem.run_bind]
      rw [hrun];rfl
     ·intro i hi;omega
     ·rw [hs1]
      split
      ·rename_i hz0;rw [hz0];exact Nat.zero_le _
      ·simp [h2]
    ·cases hd
  ·cases hd
 ·cases hd
end
end Go.Mx
namespace Go.Mx
open Go
section
variable {P:Program} {w:World} {h:Array Obj} {G:Gh} {tmps:Array Value} {σ σ':St} {ds:List Deferred} {C:aj} {ro mv gv:Nat->Bool} {o:Oper}
theorem Fv {loc:Nat->Loc} {d:D} {v:Value} (hc:aM d=true) (hk:ey d=true) (hr:RD h G loc d v):v.oneCell'=true:=by
 cases d with
 |v x=>
  cases x with
  |b x=>simp only [RD,RV] at hr;subst hr;rfl
  |i k n=>simp only [RD,RV] at hr;subst hr;rfl
  |s x=>simp only [RD,RV] at hr;subst hr;rfl
  |sl sz l=>simp only [RD,RV] at hr;obtain⟨_,_,rfl,_⟩:=hr;rfl
 |own sz l=>simp only [RD,wa] at hr;rcases hr with⟨rfl,_⟩|⟨_,_,_,_,_,_,rfl,_⟩<;>rfl
 |cut sz l=>simp only [RD] at hr;obtain⟨_,rfl,_⟩:=hr;rfl
 |rp c=>simp only [RD] at hr;obtain⟨_,_,_,rfl,_⟩:=hr;rfl
 |ptr o f=>simp only [RD] at hr;obtain⟨_,_,rfl⟩:=hr;rfl
 |clo f c=>simp only [RD] at hr;obtain⟨_,rfl,_⟩:=hr;rfl
 |nilp=>simp only [RD] at hr;subst hr;rfl
 |undef=>simp [ey] at hk
 |bad=>simp [ey] at hk
 |_=>simp [aM,bJ] at hc
theorem A8 {k:Nat} {d d':D} (hf:co k d=some d'):ey d'=true:=by
 obtain⟨h1,h2⟩:=Ge hf
 cases d with
 |v x=>
  cases x<;>simp only [co,cond_eq_ite] at hf<;>(repeat' split at hf)<;>first|(cases hf;done)|(cases hf;rfl)
 |_=>simp only [co,cond_eq_ite] at hf<;>(repeat' split at hf)<;>first|(cases hf;done)|(cases hf;rfl)
theorem zI: ∀(ks:List Nat) (cs r:List D),bP ks cs=some r->r.all ey=true/\r.length=ks.length
 | [],[],r,hf=>by simp [bP] at hf;subst hf;exact⟨rfl,rfl⟩
 |k::ks,d::ds,r,hf=>by
  simp only [bP] at hf
  cases h1:co k d with
  |none=>simp [h1] at hf
  |some d1=>
   simp only [h1] at hf
   cases h2:bP ks ds with
   |none=>simp [h2] at hf
   |some r'=>
    simp only [h2] at hf
    cases hf
    obtain⟨g1,g2⟩:=zI ks ds r' h2
    exact⟨by simp [A8 h1,g1],by simp [g2]⟩
 | [],_::_,_,hf=>by simp [bP] at hf
 |_::_,[],_,hf=>by simp [bP] at hf
theorem Dq {ty:Ty} {d d':D} (hf:Mx.fit ty d=some d'):(cellsOf d').all ey=true/\(cellsOf d').length=ty.flat.length:=by
 cases d with
 |agg cs=>
  simp only [Mx.fit] at hf
  cases ha:ty.agg with
  |false=>simp [ha] at hf
  |true=>
   simp only [ha,cond_true] at hf
   cases h2:bP ty.flat cs with
   |none=>simp [h2] at hf
   |some r=>
    simp only [h2] at hf
    cases hf
    exact zI _ _ _ h2
 |_=>
  simp only [Mx.fit] at hf
  split at hf
  ·rename_i q hq
   cases ha:ty.agg with
   |true=>simp [ha] at hf
   |false=>
    simp only [ha,cond_false] at hf
    have hk:=A8 hf
    have hne: ∀cs,d'≠ .agg cs:=by
     rintro cs rfl
     have:=Aq (G:=⟨fun _=>none,fun _=>none,fun _=>none⟩) (h:=#[]) (loc:=fun _=>.nowhere) (v:=.bool true) hf
     simp only [co,cond_eq_ite] at hf
     (repeat' split at hf)<;>cases hf
    have hco:cellsOf d'= [d']:=by cases d'<;>first|rfl|exact absurd rfl (hne _)
    rw [hco,hq]
    exact⟨by simp [hk],rfl⟩
  ·cases hf
theorem RDs.oneCell {loc:Nat->Loc} : ∀(j:Nat) (cs:List D) (vs:List Value),RDs h G loc j cs vs->cs.all aM=true->cs.all ey=true-> ∀v∈vs,v.oneCell'=true
 |_,[],[],_,_,_,_,hv=>by cases hv
 |j,d::cs,v::vs,hr,hc,hk,x,hx=>by
  simp only [List.all_cons,Bool.and_eq_true] at hc hk
  simp only [RDs] at hr
  rcases List.mem_cons.1 hx with rfl|hx
  ·exact Fv hc.1 hk.1 hr.1
  ·exact RDs.oneCell _ cs vs hr.2 hc.2 hk.2 x hx
 |_,[],_::_,hr,_,_,_,_=>by simp only [RDs] at hr
 |_,_::_,[],hr,_,_,_,_=>by simp only [RDs] at hr
theorem gV {t:TypeId} {i:TypeInfo} {b off:Nat} {v:Value} {c:Array Value} {e:TypeId} {fr:Nat×Nat} (hi:P.info? t=some i) (hs:v.cells.size=i.size) (hb:w.heap[b]? =some (.cells c e fr)) (hf:fQ c fr) (hn:off+v.cells.size<=c.size)
  (h1: ∀x∈v.cells.toList,x.oneCell'=true):(Instr.storeAt t (.pointer (some ⟨b,off,none⟩)) v).run P w= .ok () (w.setCells b off v.cells.toList):=by
 have ht:=HY hb hf hn
 have:=run_storeCells_cells (P:=P) b off v.cells.toList 0 w (fun j hj=>by simpa using (ht j (by simpa using hj)).1) (fun j hj=>by simpa using (ht j (by simpa using hj)).2) h1
 simp only [Nat.add_zero] at this
 simp only [Instr.storeAt,Instr.sureAddr,Sem.run_bind,Sem.run_pure,Result.andThen_ok,storeVar,sizeOf,typeInfo,Sem.run_bind]
 simp [hi,hs,this]
theorem Low.set {S:bH} (L:Low S) {o:Nat} {cs:List D} (h:cs.all (lowC o)=true):Low (S.set o cs):=by
 intro q cs' hq
 rw [List.getElem?_set] at hq
 by_cases hqo:o=q
 ·subst hqo
  rw [if_pos rfl] at hq
  split at hq
  ·cases hq;exact h
  ·cases hq
 ·rw [if_neg hqo] at hq;exact L q cs' hq
theorem hZ {p:D->Bool} {cs dd:List D} {off:Nat} (h1:cs.all p=true) (h2:dd.all p=true) (hoff:off+dd.length<=cs.length):(setCells cs off dd).all p=true:=by
 rw [List.all_eq_true]
 intro d' hd'
 obtain⟨i,hi⟩:=List.mem_iff_getElem?.1 hd'
 by_cases hin:off<=i/\i<off+dd.length
 ·rw [show i=off+(i-off) by omega,dF _ _ _ _ hoff (by omega)] at hi
  exact List.all_eq_true.1 h2 d' (List.mem_of_getElem? hi)
 ·rw [di _ _ _ _ (by omega)] at hi
  exact List.all_eq_true.1 h1 d' (List.mem_of_getElem? hi)
theorem w7.setCells {G':Gh} {b off:Nat} {vs:List Value} (hm:Mx.mine G b) (hrd:cS G.rd G'.rd) (hmi: ∀b,Mx.mine G' b->Mx.mine G b) (hrdn: ∀b,G'.rd b≠none->G.rd b≠none∨Mx.mine G b):w7 w G (w.setCells b off vs) G':=
 ⟨ig b vs w off,gL b vs w off,fP b vs w off,by rw [dD];exact Nat.le_refl _,fun q hq hnm=>dK b (by rintro rfl;exact hnm hm) vs w off,fun q hq=>.inl (hmi q hq),hrd,fun q hq=>(hrdn q hq).imp id .inl⟩
theorem dv.mineB {G':Gh} (S:dv h G G') {b:Nat} (hm:Mx.mine G' b):Mx.mine G b:=by
 rcases hm with⟨q,hq⟩|⟨l,f,hl⟩
 ·exact .inl ⟨q,by rw [<-S.ob];exact hq⟩
 ·obtain⟨l0,f0,h0⟩:=S.mine l b f hl;exact .inr ⟨l0,f0,h0⟩
theorem dv.rdB {G':Gh} (S:dv h G G') {b:Nat} (hb:G'.rd b≠none):G.rd b≠none∨Mx.mine G b:=(S.rdn b hb).imp id (fun ⟨l,f,hl⟩=>.inr ⟨l,f,hl⟩)
theorem RVl.get {rd:Rd} : ∀(xs:List V) (vs:List Value) (i:Nat) (x:V),RVl rd xs vs->xs[i]? =some x-> ∃v,vs[i]? =some v/\RV rd x v
 | [],_,_,_,_,h=>by simp at h
 |y::xs,[],_,_,h,_=>h.elim
 |y::xs,v::vs,0,x,h,hx=>by simp at hx;subst hx;exact⟨v,rfl,h.1⟩
 |y::xs,v::vs,i+1,x,h,hx=>by
  obtain⟨v',h1,h2⟩:=RVl.get xs vs i x h.2 (by simpa using hx)
  exact⟨v',by simpa using h1,h2⟩
theorem Low.setOwn {σ:St} (L:Low σ.S) {src:Loc} {sz:Nat} {l:List (List V)} :Low (Mx.setOwn σ src sz l).S:=by
 cases src with
 |cell o off=>
  intro q cs hq
  simp only [Mx.setOwn,List.getElem?_modify] at hq
  cases hs:σ.S[q]? with
  |none=>rw [hs] at hq;simp at hq
  |some cs0=>
   rw [hs] at hq
   by_cases hqo:o=q
   ·simp [hqo] at hq
    subst hq
    rw [List.all_eq_true]
    intro d hd
    rcases List.mem_or_eq_of_mem_set hd with hd|rfl
    ·exact List.all_eq_true.1 (L q cs0 hs) d hd
    ·rfl
   ·simp [hqo] at hq
    subst hq
    exact L q cs0 hs
 |_=>exact L
theorem yM {d:D} (hv:bD d=true):bD (frz d)=true/\ ∀j,cW (frz d) j=false:=by
 have cell: ∀d:D,aM d=true->aM (cq d)=true/\bG (cq d)=false:=by
  intro d hd
  cases d<;>first|exact⟨rfl,rfl⟩|exact⟨hd,rfl⟩|simp [aM,bJ] at hd
 cases d with
 |agg cs=>
  have hc:cs.all aM=true:=by simpa [bD] using hv
  refine⟨?_,fun j=>?_⟩
  ·simp only [frz,bD]
   rw [List.all_eq_true] at*
   intro d hd
   obtain⟨d0,h0,rfl⟩:=List.mem_map.1 hd
   exact (cell d0 (hc d0 h0)).1
  ·simp only [frz,cW,List.getElem?_map]
   cases hj:cs[j]? with
   |none=>rfl
   |some d=>exact (cell d (List.all_eq_true.1 hc d (List.mem_of_getElem? hj))).2
 |own sz l=>exact⟨rfl,fun _=>rfl⟩
 |clo f cs=>exact⟨hv,fun _=>rfl⟩
 |_=>first|exact⟨rfl,fun _=>rfl⟩|simp [bD,aM,bJ] at hv
theorem y5 {d:D} (h:(cellsOf d).all ey=true):(cellsOf (frz d)).all ey=true:=by
 cases d with
 |agg cs=>
  simp only [frz,cellsOf,List.all_map,List.all_eq_true] at*
  intro c hc
  have:=h c hc
  cases c<;>first|rfl|exact this
 |_=>first|rfl|exact h
theorem Lw {d:D} (h:bD d=true):(cellsOf (frz d)).all aM=true/\(cellsOf (frz d)).length=(cellsOf d).length:=by
 cases d with
 |agg cs=>
  simp only [frz,cellsOf,bD,List.all_map,List.all_eq_true,List.length_map,and_true] at*
  intro c hc
  have:=h c hc
  cases c<;>first|rfl|exact this
 |_=>first|exact⟨rfl,rfl⟩|(refine⟨?_,rfl⟩;simpa [frz,cq,cellsOf,bD] using h)
theorem Lx {ty:Ty} {g:Bool} {d d':D} {x:Operand} {v:Value} {G1:Gh} (R1:Rel h G1 tmps σ) (H1:dG h G1 0 d v) (hf:fitS g ty d=some d'):
  ∃G2,Rel h G2 tmps σ/\dv h G1 G2/\(∀q j,q≠0->G2.ow (.hand q j)=G1.ow (.hand q j))/\dG h G2 0 d' v/\(cellsOf d').all aM=true/\RDs h G2 (Loc.hand 0) 0 (cellsOf d') v.cells.toList/\(cellsOf d').all ey=true:=by
 unfold fitS at hf
 cases hft:Mx.fit ty d with
 |none=>rw [hft] at hf;cases hf
 |some d0=>
  rw [hft] at hf
  obtain⟨H2,hok,hcells⟩:=H1.fit hft
  have hk:=(Dq hft).1
  cases g with
  |false=>cases hf;exact⟨G1,R1,dv.refl _ _,fun _ _ _=>rfl,H2,hok,hcells,hk⟩
  |true=>
   cases hf
   obtain⟨G2,R2,S2,hr,c1,c2⟩:=R1.freezeF H2
   have hv:=(yM H2.ok).1
   refine⟨G2,R2,S2,fun q j hq=>c2 _ (fun i hi=>by cases hi;exact hq rfl),⟨hr _,fun j p hp=>(by rw [c1 j] at hp;cases hp),hv⟩,(Lw H2.ok).1,?_,y5 hk⟩
   rcases RD.cells hv (hr (Loc.hand 0)) (fun _ _=>trivial) with h|h|h
   ·exfalso
    have:=y5 hk
    rw [h] at this;simp [cellsOf,ey] at this
   ·exfalso
    have:=y5 hk
    rw [h] at this;simp [cellsOf,ey] at this
   ·exact h
theorem Ir {t : Nat} {a x : Operand} (F : dE w.heap G tmps σ) (ho : o.op = .store t a x) (hdst : o.dst = none) (hd : aJ (ck P) C ro mv gv σ o.dst o.type o.op = some σ') : dp P w G ⟨tmps, ds⟩ σ o σ' := by
  rw [ho] at hd
  simp only [aJ] at hd
  -- the run, once the store itself is ey
  have fin : ∀ (w1 : World) (G1 : Gh), (Instr.storeAt t ((⟨tmps, ds⟩ : Act).eval a) ((⟨tmps, ds⟩ : Act).eval x)).run P w = .ok () w1 -> dE w1.heap G1 tmps σ' -> dq w G σ w1 G1 σ' -> dp P w G ⟨tmps, ds⟩ σ o σ' := by
    intro w1 G1 hrun F1 hg next Q hn
    unfold Oper.wp execOp
    simp only [ho, Sem.run_bind, hrun, Result.andThen_ok, Sem.run_pure, Oper.upon_skip]
    exact hn _ w1 G1 (by simp [Act.put, hdst]) (by simp [Act.put, hdst]) (by simpa [Act.put, hdst] using F1) hg
  split at hd
  . rename_i q off d hfa hfx
    cases hft : Mx.fitS (bw gv a) (ck P t) d with
    | none => simp [hft] at hd
    | some d' =>
      simp only [hft] at hd
      cases hcs : σ.S[q]? with
      | none => simp [hcs] at hd
      | some cs =>
        simp only [hcs] at hd
        cases hc : (decide (off + (cellsOf d').length <= cs.length) && (cellsOf d').all (lowC q) && (cellsOf d').length == (ck P t).size && !(ck P t).flat.isEmpty) with
        | false => rw [hc] at hd; cases hd
        | true =>
          rw [hc, cond_true] at hd
          simp only [Bool.and_eq_true, decide_eq_true_eq, beq_iff_eq, Bool.not_eq_true'] at hc
          obtain ⟨⟨⟨hoff, hlow⟩, hsize⟩, hne⟩ := hc
          have hra := F.rel.opndF ds hfa
          simp only [RD] at hra
          obtain ⟨b, hb, hva⟩ := hra
          have hft0 : ∃ d0, Mx.fit (ck P t) d = some d0 := by
            unfold Mx.fitS at hft
            cases hq : Mx.fit (ck P t) d with
            | none => rw [hq] at hft; cases hft
            | some d0 => exact ⟨d0, rfl⟩
          obtain ⟨d0, hft0⟩ := hft0
          obtain ⟨G0, R0, T, H1⟩ := F.rel.take (ds := ds) 0 (F.clean 0) hfx (Ap hft0)
          obtain ⟨G1, R1, S1, hh1, H2, hok, hcells, hkn⟩ := Lx (x := x) R0 H1 hft
          have hcs1 : ({ σ with env := spend σ.env x } : St).S[q]? = some cs := hcs
          obtain ⟨b0, c, e, fr, g1, g2, g3, g4⟩ := R1.obj q cs hcs1
          have hb1 : G1.ob q = some b := by rw [S1.ob, T.ob]; exact hb
          have hbb : b0 = b := by rw [hb1] at g1; cases g1; rfl
          subst hbb
          have hvl := RDs.length _ _ _ _ hcells
          have hlen := RDs.length _ _ _ _ g4
          obtain ⟨i, hi, hsz, _⟩ := fF (P := P) (t := t) (by intro h0; rw [h0] at hne; cases hne)
          have hrun := gV (P := P) (w := w) (t := t) (v := (⟨tmps, ds⟩ : Act).eval x) (off := off) hi (by rw [<- Array.length_toList, hvl, hsize, hsz]) g2 g3 (by rw [<- Array.length_toList, hvl, <- Array.length_toList (xs := c), hlen]; exact hoff)
            (RDs.oneCell _ _ _ hcells hok hkn)
          obtain ⟨G2, R2, r1, r2, r3, r4, r5⟩ := R1.put H2 hok hcells (h' := (w.setCells b0 off ((⟨tmps, ds⟩ : Act).eval x).cells.toList).heap) hcs1 hb1 g2 hoff (dD _ _ _ _) (fun q hq => dK _ hq _ _ _) (eR _ _ _ _ _ g2)
          cases hd
          refine fin _ G2 (by rw [hva]; exact hrun) ⟨R2, ?_, ?_⟩ ⟨w7.setCells (.inl ⟨q, hb⟩) ?_ ?_ ?_, ?_, ?_⟩
          . intro q' j
            by_cases hq : q' = 0
            . subst hq; exact r3 j
            . rw [r5 q' j hq, hh1 q' j hq, T.hand q' j hq]; exact F.clean q' j
          . exact F.low.set (hZ (F.low q cs hcs) hlow hoff)
          . rw [r1, <- T.rd]; exact S1.rd
          . intro b' hm
            rcases hm with ⟨p, hp⟩ | ⟨l, f, hl⟩
            . rw [r2, S1.ob, T.ob] at hp; exact .inl ⟨p, hp⟩
            . obtain ⟨l0, h0⟩ := r4 l _ hl
              obtain ⟨l2, f2, h2⟩ := S1.mine l0 _ _ h0
              obtain ⟨l1, h1⟩ := T.mine l2 _ h2
              exact .inr ⟨l1, f2, h1⟩
          . intro b' hb'
            rw [r1] at hb'
            rcases S1.rdn b' hb' with h | ⟨l, f, h⟩
            . rw [T.rd] at h; exact .inl h
            . obtain ⟨l1, h1⟩ := T.mine l _ h
              exact .inr (.inr ⟨l1, f, h1⟩)
          . simp
          . intro p _; rw [r2, S1.ob, T.ob]
  . rename_i src sz i off d hfa hfx
    cases hft : Mx.fit (ck P t) d with
    | none => simp [hft] at hd
    | some d' =>
      simp only [hft] at hd
      split at hd
      . rename_i xs sz' l hxs hown
        split at hd
        . rename_i row hrow
          cases hc : (sz == sz' && decide (off + xs.length <= row.length) && (cellsOf d').length == (ck P t).size && !(ck P t).flat.isEmpty) with
          | false => rw [hc] at hd; cases hd
          | true =>
            rw [hc, cond_true] at hd
            simp only [Bool.and_eq_true, decide_eq_true_eq, beq_iff_eq, Bool.not_eq_true'] at hc
            obtain ⟨⟨⟨rfl, hoff⟩, hsize⟩, hne⟩ := hc
            have hra := F.rel.opndF ds hfa
            simp only [RD] at hra
            obtain ⟨b, base, hb, hva, hpl⟩ := hra
            obtain ⟨G1, R1, T, H1⟩ := F.rel.take (ds := ds) 0 (F.clean 0) hfx (Ap hft)
            obtain ⟨H2, hok, hcells⟩ := H1.fit hft
            obtain ⟨G2, R2, S2, hl2, c1, c2⟩ := R1.freeze H2 hxs
            have hfl := Dq hft
            have hvl := RVl.length _ _ hl2
            obtain ⟨it, hi, hsz, _⟩ := fF (P := P) (t := t) (by intro h0; rw [h0] at hne; cases hne)
            have hcl := RDs.length _ _ _ _ hcells
            obtain ⟨v0, hv0⟩ := Hj R2 hown
            rcases hv0 with ⟨_, hl0⟩ | ⟨b', base', cap, c, e, fr, k1, k2, k3, k4, k5, k6, k7⟩
            . rw [hl0] at hrow; cases hrow
            have hsame : G2.ow src = G.ow src := by
              rw [hb]
              have h2 : G1.ow src = some (b', base') := by
                rw [<- c2 src (by rintro j rfl; cases hpl)]; exact k2
              rw [k2]
              have := T.keep src _ hpl h2
              rw [hb] at this; exact this.symm
            have hbb : b' = b /\ base' = base := by
              rw [hsame, hb] at k2; cases k2; exact ⟨rfl, rfl⟩
            obtain ⟨rfl, rfl⟩ := hbb
            have hil : i < l.length := (List.getElem?_eq_some_iff.1 hrow).1
            have hrl := (RVr.get _ _ _ _ _ _ k7 hrow).1
            have hfit : base' + i * sz + off + xs.length <= c.size := by
              have h1 : (i + 1) * sz <= cap * sz := Nat.mul_le_mul_right _ (by omega)
              rw [Nat.succ_mul] at h1
              omega
            have hvs : ((⟨tmps, ds⟩ : Act).eval x).cells.toList.length = xs.length := hvl
            have hrun := gV (P := P) (w := w) (t := t) (v := (⟨tmps, ds⟩ : Act).eval x) (b := b') (off := base' + i * sz + off) hi (by rw [<- Array.length_toList, hcl, hsize, hsz]) k3 k4 (by rw [<- Array.length_toList, hvs]; exact hfit)
              (RDs.oneCell _ _ _ hcells hok hfl.1)
            have R3 := R2.setOwn (sz' := sz) (l2 := l.set i (bX row off xs)) (h' := (w.setCells b' (base' + i * sz + off) ((⟨tmps, ds⟩ : Act).eval x).cells.toList).heap) (by rw [hsame]; exact hb) hown (dD _ _ _ _) (fun q hq => dK _ hq _ _ _) (by
              intro v hv
              rcases hv with ⟨_, hl0⟩ | ⟨b2, base2, cap2, c2', e2, fr2, j1, j2, j3, j4, j5, j6, j7⟩
              . rw [hl0] at hrow; cases hrow
              . rw [hsame, hb] at j2
                cases j2
                rw [k3] at j3
                cases j3
                refine .inr ⟨b', base', cap2, _, e, fr, by rw [j1]; simp, by rw [hsame]; exact hb, eR _ _ _ _ _ k3, ?_, by simpa using j5, by rw [eT]; exact j6, ?_⟩
                . intro p hp; rw [eT] at hp; exact k4 p hp
                . refine RVr.of_get _ _ _ _ (fun p r hr => ?_)
                  rw [List.getElem?_set] at hr
                  by_cases hpi : i = p
                  . subst hpi
                    rw [if_pos rfl, if_pos hil] at hr
                    cases hr
                    obtain ⟨g1, g2⟩ := RVr.get _ _ _ _ _ _ j7 hrow
                    refine ⟨by rw [gY]; exact g1, RVc.of_get _ _ _ (fun p x hx => ?_)⟩
                    by_cases hin : off <= p /\ p < off + xs.length
                    . rw [show p = off + (p - off) by omega, HI _ _ _ _ hoff (by omega)] at hx
                      have hvx : ∃ v, ((⟨tmps, ds⟩ : Act).eval _).cells.toList[p - off]? = some v /\ RV G2.rd x v := RVl.get _ _ _ _ hl2 hx
                      obtain ⟨v, hv1, hv2⟩ := hvx
                      refine ⟨v, ?_, hv2⟩
                      rw [show base' + i * sz + p = base' + i * sz + off + (p - off) by omega, CI _ _ _ _ (by rw [hvs]; exact hfit) (by rw [hvs]; omega)]
                      exact hv1
                    . rw [yR _ _ _ _ (by omega)] at hx
                      obtain ⟨v, hv1, hv2⟩ := RVc.get _ _ _ _ _ g2 hx
                      exact ⟨v, by rw [gq _ _ _ _ (by rw [hvs]; omega)]; exact hv1, hv2⟩
                  . rw [if_neg hpi] at hr
                    obtain ⟨g1, g2⟩ := RVr.get _ _ _ _ _ _ j7 hr
                    refine ⟨g1, RVc.same _ _ _ _ (fun q hq1 hq2 => ?_) g2⟩
                    refine gq _ _ _ _ ?_
                    rw [hvs]
                    rcases Nat.lt_or_ge p i with hlt | hge
                    . left
                      have h1 : (p + 1) * sz <= i * sz := Nat.mul_le_mul_right _ hlt
                      rw [Nat.succ_mul] at h1
                      omega
                    . right
                      have h1 : (i + 1) * sz <= p * sz := Nat.mul_le_mul_right _ (by omega)
                      rw [Nat.succ_mul] at h1
                      omega)
            cases hd
            have S12 := T.same.trans S2
            have hmb : Mx.mine G b' := .inr ⟨src, base', hb⟩
            have hlenS : (Mx.setOwn { σ with env := spend σ.env x } src sz (l.set i (bX row off xs))).S.length = σ.S.length := by
              cases src <;> simp [Mx.setOwn]
            refine fin _ G2 (by rw [hva]; exact hrun) ⟨R3, ?_, ?_⟩ ⟨w7.setCells hmb S12.rd (fun b hb => S12.mineB hb) (fun b hb => S12.rdB hb), by rw [hlenS]; exact Nat.le_refl _, fun q _ => by rw [S12.ob]⟩
            . intro q j
              by_cases hq : q = 0
              . subst hq; exact c1 j
              . rw [c2 _ (by rintro j' hj; cases hj; exact hq rfl), T.hand q j hq]; exact F.clean q j
            . exact Low.setOwn (σ := { σ with env := spend σ.env x }) F.low
        . cases hd
      . cases hd
  . cases hd
end
end Go.Mx
namespace Go.Mx
open Go
section
variable {P:Program} {w:World} {h:Array Obj} {G:Gh} {tmps:Array Value} {σ σ':St} {ds:List Deferred} {C:aj} {ro mv gv:Nat->Bool} {o:Oper}
theorem Gz.goes {k:Nat} {G':Gh} (T:Gz k w.heap G G') {σ':St} (h:σ'.S.length=σ.S.length):dq w G σ w G' σ':=T.same.goes h
theorem GV {t : Nat} {a : Operand} (F : dE w.heap G tmps σ) (ho : o.op = .load t a) (hsz : ∀ t, o.dst = some t -> t < tmps.size) (hd : aJ (ck P) C ro mv gv σ o.dst o.type o.op = some σ') : dp P w G ⟨tmps, ds⟩ σ o σ' := by
  rw [ho] at hd
  simp only [aJ] at hd
  cases hdst : o.dst with
  | none => simp [hdst] at hd
  | some u =>
    simp only [hdst] at hd
    cases hc : (mv u && (ck P t).agg) with
    | false =>
      rw [hc, cond_false] at hd
      cases hmv : mv u with
      | false => rw [hmv] at hd; cases hd
      | true =>
        rw [hmv, cond_true] at hd
        have hag : (ck P t).agg = false := by rw [hmv] at hc; simpa using hc
        split at hd <;> try (cases hd; done)
        rename_i q off k hfa hflat
        cases hcs : σ.S[q]? with
        | none => simp [hcs] at hd
        | some cs =>
          simp only [hcs] at hd
          split at hd <;> try (cases hd; done)
          rename_i sz l hoff
          cases hd
          have hra := F.rel.opndF ds hfa
          simp only [RD] at hra
          obtain ⟨b, hb, hva⟩ := hra
          obtain ⟨b0, c, e, fr, g1, g2, g3, g4⟩ := F.rel.obj q cs hcs
          have hbb : b0 = b := by rw [hb] at g1; cases g1; rfl
          subst hbb
          obtain ⟨i, u', k1, k2, k3⟩ := gr hag hflat
          obtain ⟨v, hv, hrd⟩ := RDs.get _ 0 cs c.toList off (.own sz l) g4 hoff
          rw [Nat.zero_add] at hrd
          have hv' : c[off]? = some v := by simpa using hv
          have hlt : off < cs.length := (List.getElem?_eq_some_iff.1 hoff).1
          obtain ⟨G1, R1, T, j1, j2, j3⟩ := F.rel.takeCells 0 (F.clean 0) (off := off) (n := 1) (cs' := cs.set off .bad) hcs (bU q) (fun j _ _ => by simp [bU]) (by simp) (by
              intro j hj
              rw [List.getElem?_set_ne (by omega)]) (by
              intro j d h1 h2 hd
              have : j = off := by omega
              subst this
              left; simp [hlt])
          have H1 : dG w.heap G1 0 (.own sz l) v := by
            refine ⟨?_, ?_, rfl⟩
            . have hck : aM (D.own sz l) = true := rfl
              have := RD.cellMove (G := G) (G' := G1) (h := w.heap) (l := .cell q off) (l' := .hand 0 0) T.same.more hck (fun _ b f hb => ⟨by rw [j1 0 (by omega)]; exact hb, rfl⟩) hrd
              simpa only [RD] using this
            . intro j p hp
              cases j with
              | zero => rfl
              | succ j => rw [j2 (j + 1) (by omega)] at hp; cases hp
          refine dp.give (σ1 := { env := kill (bU q) σ.env, S := σ.S.set q (cs.set off .bad) }) hdst (hsz u hdst) ?_ R1 H1 (fun q' j hq => by rw [T.hand q' j hq]; exact F.clean q' j) ?_ (T.goes (by simp))
          . unfold execOp
            simp only [ho, hva, Sem.run_bind]
            simp [Instr.loadAt, Instr.sureAddr, asAddr, loadVar, eu w k2 k3, Sem.run_bind, load, Go.Sem.run, dZ rfl g2, hv']
          . refine F.low.set ?_
            rw [List.all_eq_true]
            intro d hd
            rcases List.mem_or_eq_of_mem_set hd with hd | hd
            . exact List.all_eq_true.1 (F.low q cs hcs) d hd
            . subst hd; rfl
    | true =>
      rw [hc, cond_true] at hd
      simp only [Bool.and_eq_true] at hc
      split at hd
      . rename_i q off hfa
        cases hcs : σ.S[q]? with
        | none => simp [hcs] at hd
        | some cs =>
          simp only [hcs] at hd
          cases hl : (((cs.drop off).take (ck P t).size).length == (ck P t).size) with
          | false => rw [hl] at hd; cases hd
          | true =>
            rw [hl, cond_true] at hd
            cases hd
            simp only [beq_iff_eq] at hl
            obtain ⟨i, dd, hi, hu, hrow, hisz, _⟩ := fM hc.2
            have hra := F.rel.opndF ds hfa
            simp only [RD] at hra
            obtain ⟨b, hb, hva⟩ := hra
            obtain ⟨b0, c, e, fr, g1, g2, g3, g4⟩ := F.rel.obj q cs hcs
            have hbb : b0 = b := by rw [hb] at g1; cases g1; rfl
            subst hbb
            have hlen := RDs.length _ _ _ _ g4
            have hoff : off + (ck P t).size <= cs.length ∨ (ck P t).size = 0 := by
              rw [List.length_take, List.length_drop] at hl
              omega
            -- the value
            let vs : List Value := (c.toList.drop off).take (ck P t).size
            have hvsl : vs.length = (ck P t).size := by
              have := hl
              rw [List.length_take, List.length_drop] at this ⊢
              rw [hlen]; exact this
            have hrun := run_loadAt_mid (P := P) w b0 off t vs dd (fun j v hv => by
              rw [dZ rfl g2]
              simp only [vs] at hv
              rw [List.getElem?_take] at hv
              split at hv
              . rw [List.getElem?_drop] at hv; simpa using hv
              . cases hv) hu hrow (by rw [hi]; simp [hisz, hvsl])
            obtain ⟨G1, R1, T, k1, k2, k3⟩ := F.rel.takeCells 0 (F.clean 0) (off := off) (n := (ck P t).size) (cs' := setCells cs off (((cs.drop off).take (ck P t).size).map ce)) hcs (bU q) (fun j _ _ => by simp [bU]) (em _ _ _) (by
                intro j hj
                refine di _ _ _ _ ?_
                rw [List.length_map, hl]; omega) (by
                intro j d h1 h2 hd
                have hjl : j < cs.length := (List.getElem?_eq_some_iff.1 hd).1
                have hin := dF (((cs.drop off).take (ck P t).size).map ce) cs off (j - off) (by rw [List.length_map, hl]; omega) (by rw [List.length_map, hl]; omega)
                rw [show off + (j - off) = j by omega] at hin
                rw [hin, List.getElem?_map, List.getElem?_take, if_pos (by omega), List.getElem?_drop, show off + (j - off) = j by omega, hd]
                simp only [Option.map_some, ce]
                cases ho : bG d with
                | true => left; rfl
                | false => right; exact ⟨rfl, rfl⟩)
            have H1 : dG w.heap G1 0 (.agg ((cs.drop off).take (ck P t).size)) (.agg vs.toArray) := by
              refine ⟨?_, ?_, ?_⟩
              . simp only [RD]
                refine ⟨_, rfl, RDs.of_get _ _ _ _ (by rw [hl]; simpa using hvsl) ?_⟩
                intro i d hd
                rw [List.getElem?_take] at hd
                split at hd
                . rename_i hin
                  rw [List.getElem?_drop] at hd
                  obtain ⟨v', hv1, hv2⟩ := RDs.get _ _ _ _ _ _ g4 hd
                  refine ⟨v', ?_, ?_⟩
                  . simp only [vs]
                    rw [List.getElem?_take, if_pos hin, List.getElem?_drop]; exact hv1
                  . rw [Nat.zero_add] at *
                    have hck : aM d = true := List.all_eq_true.1 (F.rel.obc q cs hcs) d (List.mem_of_getElem? hd)
                    exact RD.cellMove (G := G) (G' := G1) (h := w.heap) (l := .cell q (off + i)) T.same.more hck (fun _ b f hb => ⟨by rw [k1 i hin]; exact hb, rfl⟩) hv2
                . cases hd
              . intro j p hp
                rcases Nat.lt_or_ge j (ck P t).size with hj | hj
                . rw [k1 j hj] at hp
                  have := F.rel.own _ p (fun _ _ h => by cases h) hp
                  simp only [dg, hcs] at this
                  simp only [cW]
                  rw [List.getElem?_take, if_pos hj, List.getElem?_drop]; exact this
                . rw [k2 j hj] at hp; cases hp
              . simp only [bD]
                rw [List.all_eq_true]
                intro d hd
                exact List.all_eq_true.1 (F.rel.obc q cs hcs) d (List.mem_of_mem_drop (List.mem_of_mem_take hd))
            refine dp.give (σ1 := { env := kill (bU q) σ.env, S := σ.S.set q (setCells cs off (((cs.drop off).take (ck P t).size).map ce)) }) hdst (hsz u hdst) ?_ R1 H1 (fun q' j hq => by rw [T.hand q' j hq]; exact F.clean q' j) ?_ (T.goes (by simp))
            . unfold execOp
              simp only [ho, hva, Sem.run_bind, hrun, Result.andThen_ok]; rfl
            . refine F.low.set ?_
              rcases hoff with hoff | h0
              . refine hZ (F.low q cs hcs) ?_ (by rw [List.length_map, hl]; exact hoff)
                rw [List.all_eq_true]
                intro d hd
                obtain ⟨d0, hd0, rfl⟩ := List.mem_map.1 hd
                have := List.all_eq_true.1 (F.low q cs hcs) d0 (List.mem_of_mem_drop (List.mem_of_mem_take hd0))
                unfold ce
                cases bG d0 with
                | true => rfl
                | false => exact this
              . rw [h0]; simpa [setCells] using F.low q cs hcs
      . cases hd
theorem Rel.spendCell (R:Rel h G tmps σ) (k:Nat) (hk: ∀j,G.ow (.hand k j)=none) {so sf sz:Nat} {l:List (List V)} {v:Value} (hr:wa h G.rd (G.ow (.cell so sf)) sz l v):
  ∃G',Rel h G' tmps (Mx.spendLoc σ (.cell so sf))/\dv h G G'/\dG h G' k (.own sz l) v/\(∀q j,q≠k->G'.ow (.hand q j)=G.ow (.hand q j)):=by
 cases hcs:σ.S[so]? with
 |none=>
  refine⟨G,by simpa [Mx.spendLoc,hcs] using R,dv.refl _ _,⟨?_,fun j p hp=>(by rw [hk] at hp;cases hp),rfl⟩,fun _ _ _=>rfl⟩
  rcases hr with hr|⟨b,off,cap,c,e,fr,h1,h2,_⟩
  ·simp only [RD];exact .inl hr
  ·have:=R.own _ _ (fun _ _ h=>by cases h) h2
   simp [dg,hcs] at this
 |some cs=>
  obtain⟨G1,R1,T,k1,k2,k3⟩:=R.takeCells k hk (off:=sf) (n:=1) (cs':=cs.set sf .bad) hcs (fun l=>l== .cell so sf) (fun j h1 h2=>by rw [show j=sf by omega];simp) (by simp) (fun j hj=>by rw [List.getElem?_set,if_neg (by omega)]) (fun j d h1 h2 hd=>by
   have:j=sf:=by omega
   subst this
   left
   have hjl:j<cs.length:=(List.getElem?_eq_some_iff.1 hd).1
   rw [List.getElem?_set,if_pos rfl,if_pos hjl])
  refine⟨G1,by simpa [Mx.spendLoc,hcs] using R1,T.same,⟨?_,?_,rfl⟩,fun q j hq=>T.hand q j hq⟩
  ·simp only [RD]
   have:=k1 0 (by decide)
   rw [Nat.add_zero] at this
   rw [this,T.rd];exact hr
  ·intro j p hp
   rcases Nat.lt_or_ge j 1 with hj|hj
   ·have:j=0:=by omega
    subst this;rfl
   ·rw [k2 j hj] at hp;cases hp
theorem Rel.spendLoc (R:Rel h G tmps σ) (k:Nat) (hk: ∀j,G.ow (.hand k j)=none) {src:Loc} {sz:Nat} {l:List (List V)} {v:Value} (hsp:spendOk σ src=true) (hr:wa h G.rd (G.ow src) sz l v):
  ∃G',Rel h G' tmps (Mx.spendLoc σ src)/\dv h G G'/\dG h G' k (.own sz l) v/\(∀q j,q≠k->G'.ow (.hand q j)=G.ow (.hand q j)):=by
 cases src with
 |cell so sf=>exact R.spendCell k hk hr
 |reg p j=>
  simp only [spendOk,Bool.and_eq_true,beq_iff_eq] at hsp
  obtain⟨rfl,ho⟩:=hsp
  obtain⟨G1,R1,T,h1,h2⟩:=R.takeReg k p hk
  refine⟨G1,R1,T.same,⟨?_,?_,rfl⟩,T.hand⟩
  ·simp only [RD]
   rw [h1,T.rd];exact hr
  ·intro j p0 hp
   rw [h1] at hp
   have:=R.own _ p0 (fun _ _ h=>by cases h) hp
   rw [dc] at this
   cases hl:bI σ.env p<;>rw [hl] at ho this<;>first|(cases ho;done)|(simpa [cW] using this)
 |_=>simp [spendOk] at hsp
theorem gU {src:Loc} :(Mx.spendLoc σ src).S.length=σ.S.length:=by
 cases src with
 |cell o off=>simp only [Mx.spendLoc];cases hcs:σ.S[o]? <;>simp
 |_=>rfl
theorem Low.spendLoc (L:Low σ.S) {src:Loc} :Low (Mx.spendLoc σ src).S:=by
 cases src with
 |cell o off=>
  simp only [Mx.spendLoc]
  cases hcs:σ.S[o]? with
  |none=>exact L
  |some cs=>
   refine L.set ?_
   rw [List.all_eq_true]
   intro d hd
   rcases List.mem_or_eq_of_mem_set hd with hd|rfl
   ·exact List.all_eq_true.1 (L o cs hcs) d hd
   ·rfl
 |_=>exact L
theorem Jg {rd:Rd} {x:V} {v:Value} (hr:RV rd x v):v.oneCell'=true:=by
 cases x with
 |b x=>simp only [RV] at hr;subst hr;rfl
 |i k n=>simp only [RV] at hr;subst hr;rfl
 |s x=>simp only [RV] at hr;subst hr;rfl
 |sl sz l=>simp only [RV] at hr;obtain⟨_,_,rfl,_⟩:=hr;rfl
theorem RVr.cells {rd:Rd} {sz:Nat} : ∀(l:List (List V)) (c:Array Value) (off:Nat),RVr rd sz l c off-> ∀j,j<l.length*sz-> ∃v x,c[off+j]? =some v/\RV rd x v
 | [],_,_,_,j,hj=>by simp at hj
 |r::l,c,off,hr,j,hj=>by
  simp only [RVr] at hr
  obtain⟨h1,h2,h3⟩:=hr
  by_cases hjs:j<sz
  ·obtain⟨x,hx⟩: ∃x,r[j]? =some x:=⟨_,List.getElem?_eq_getElem (by omega)⟩
   obtain⟨v,e1,e2⟩:=RVc.get _ _ _ _ _ h2 hx
   exact⟨v,x,e1,e2⟩
  ·simp only [List.length_cons,Nat.succ_mul] at hj
   obtain⟨v,x,e1,e2⟩:=RVr.cells l c (off+sz) h3 (j-sz) (by omega)
   exact⟨v,x,by rw [<-e1];congr 1;omega,e2⟩
theorem RVr.shift {rd:Rd} {sz:Nat} (l:List (List V)) (c c':Array Value) (off off':Nat) (hr:RVr rd sz l c off) (hs: ∀j,j<l.length*sz->c'[off'+j]? =c[off+j]?):RVr rd sz l c' off':=by
 refine RVr.of_get _ _ _ _ (fun i r hi=>?_)
 obtain⟨h1,h2⟩:=RVr.get _ _ _ _ _ _ hr hi
 refine⟨h1,RVc.of_get _ _ _ (fun q x hx=>?_)⟩
 obtain⟨v,e1,e2⟩:=RVc.get _ _ _ _ _ h2 hx
 refine⟨v,?_,e2⟩
 have hil:i<l.length:=(List.getElem?_eq_some_iff.1 hi).1
 have hql:q<r.length:=(List.getElem?_eq_some_iff.1 hx).1
 have:(i+1)*sz<=l.length*sz:=Nat.mul_le_mul_right _ hil
 rw [Nat.succ_mul] at this
 rw [Nat.add_assoc,hs (i*sz+q) (by omega),<-Nat.add_assoc];exact e1
theorem Sb {loc : Nat -> Loc} {d : D} {v : Value} {zy : Nat} {l : List (List V)} {sz : Nat} {ty e' : TypeId} (hu : P.underlying ty = some (.slice e')) (hr : RD w.heap G loc d v) (rdo : ∀ b c, G.rd b = some c -> ∃ e fr, w.heap[b]? = some (.cells c e fr)) (hs : aO d = some (zy, l)) (hz : zy = sz ∨ l = []) :
    ∃ news, Src P sz ty v l.length news w /\ RVr G.rd sz l news.toArray 0 := by
  -- the slice's rows in memory
  have key : ∃ base cap, v = .slice base l.length cap /\ (l = [] ∨ ∃ b off c e fr, base = some ⟨b, off, none⟩ /\ w.heap[b]? = some (.cells c e fr) /\ RVr G.rd zy l c off) := by
    cases d with
    | v x =>
      cases x with
      | sl s m =>
        simp only [aO, Option.some.injEq, Prod.mk.injEq] at hs
        obtain ⟨rfl, rfl⟩ := hs
        simp only [RD, RV] at hr
        obtain ⟨base, cap, h1, _, h2⟩ := hr
        refine ⟨base, cap, h1, h2.imp id ?_⟩
        rintro ⟨b, off, c, g1, g2, g3⟩
        obtain ⟨e, fr, g4⟩ := rdo b c g2
        exact ⟨b, off, c, e, fr, g1, g4, g3⟩
      | _ => simp [aO] at hs
    | own s m =>
      simp only [aO, Option.some.injEq, Prod.mk.injEq] at hs
      obtain ⟨rfl, rfl⟩ := hs
      simp only [RD, wa] at hr
      rcases hr with ⟨rfl, rfl⟩ | ⟨b, off, cap, c, e, fr, h1, h2, h3, h4, h5, h6, h7⟩
      . exact ⟨none, 0, rfl, .inl rfl⟩
      . exact ⟨_, cap, h1, .inr ⟨b, off, c, e, fr, rfl, h3, h7⟩⟩
    | al f s m src =>
      simp only [aO, Option.some.injEq, Prod.mk.injEq] at hs
      obtain ⟨rfl, rfl⟩ := hs
      simp only [RD, AO] at hr
      obtain ⟨_, ⟨base, cap, h1, _, h2⟩, _⟩ := hr
      refine ⟨base, cap, h1, h2.imp id ?_⟩
      rintro ⟨b, off, _, c, e, fr, g1, _, g3, g4⟩
      exact ⟨b, off, c, e, fr, g1, g3, g4⟩
    | cut s m =>
      simp only [aO, Option.some.injEq, Prod.mk.injEq] at hs
      obtain ⟨rfl, rfl⟩ := hs
      simp only [RD] at hr
      obtain ⟨base, h1, h2⟩ := hr
      refine ⟨base, _, h1, h2.imp id ?_⟩
      rintro ⟨b, off, c, g1, g2, g3⟩
      obtain ⟨e, fr, g4⟩ := rdo b c g2
      exact ⟨b, off, c, e, fr, g1, g4, g3⟩
    | _ => simp [aO] at hs
  obtain ⟨base, cap, rfl, hor⟩ := key
  have emp : l = [] -> ∃ news, Src P sz ty (.slice base l.length cap) l.length news w /\ RVr G.rd sz l news.toArray 0 := by
    rintro rfl
    refine ⟨[], ?_, by simp only [RVr]⟩
    cases base with
    | none => exact Src.ofNil w hu cap
    | some a => exact Src.ofSlice w hu a 0 cap [] (by simp) (fun j u hj => by simp at hj) (fun _ h => by cases h)
  rcases hor with hl | ⟨b, off, c, e, fr, rfl, h3, h7⟩
  . exact emp hl
  . rcases hz with rfl | hl
    . refine ⟨(c.toList.drop off).take (l.length * zy), ?_, ?_⟩
      . have hcell : ∀ (j : Nat) (u : Value), ((c.toList.drop off).take (l.length * zy))[j]? = some u -> j < l.length * zy /\ c[off + j]? = some u := by
          intro j u hj
          rw [List.getElem?_take] at hj
          split at hj
          . rename_i hlt
            rw [List.getElem?_drop] at hj
            exact ⟨hlt, by simpa using hj⟩
          . cases hj
        refine Src.ofSlice w hu ⟨b, off, none⟩ _ cap _ ?_ ?_ ?_
        . rw [List.length_take, List.length_drop, Array.length_toList]
          have h0 : 0 < l.length * zy -> off + (l.length * zy - 1) < c.size := by
            intro h0
            obtain ⟨v, x, e1, _⟩ := RVr.cells _ _ _ h7 (l.length * zy - 1) (by omega)
            exact (Array.getElem?_eq_some_iff.1 e1).1
          generalize l.length * zy = N at h0
          rcases Nat.eq_zero_or_pos N with hN | hN
          . rw [hN]; simp
          . have := h0 hN
            have hcs : c.toList.length = c.size := Array.length_toList
            omega
        . intro j u hj
          rw [Addr.add_mid, dZ rfl h3]
          exact (hcell j u hj).2
        . intro u hu'
          obtain ⟨j, hj⟩ := List.mem_iff_getElem?.1 hu'
          obtain ⟨h1, h2⟩ := hcell j u hj
          obtain ⟨v, x, e1, e2⟩ := RVr.cells _ _ _ h7 j h1
          rw [h2] at e1; cases e1
          exact Jg e2
      . refine RVr.shift l c _ off 0 h7 (fun j hj => ?_)
        rw [Nat.zero_add, List.getElem?_toArray, List.getElem?_take, if_pos hj, List.getElem?_drop]; simp
    . exact emp hl
theorem OX {v:Value} {s:ByteArray} {ty:TypeId} {rd:Rd} (hu:P.underlying ty=some .string) (hv:v= .string s): ∃news,Src P 1 ty v (dJ s).length news w/\RVr rd 1 (dJ s) news.toArray 0:=by
 subst hv
 have hl:(dJ s).length=s.size:=by simp [dJ]
 refine⟨byteCells s,by rw [hl];exact Src.ofString w hu s,?_⟩
 refine RVr.of_get 1 _ _ 0 (fun i r hr=>?_)
 unfold dJ at hr
 rw [List.getElem?_map] at hr
 cases hb:s.data.toList[i]? with
 |none=>rw [hb] at hr;cases hr
 |some b=>
  rw [hb] at hr
  simp at hr
  subst hr
  refine⟨rfl,?_⟩
  simp only [RVc,Nat.zero_add,Nat.mul_one]
  refine⟨⟨.int .u8 b.toNat,?_,show RV rd (.i .u8 b.toNat) (.int .u8 b.toNat) from by unfold RV;rfl⟩,trivial⟩
  rw [List.getElem?_toArray]
  unfold byteCells
  rw [List.getElem?_map,hb];rfl
theorem gz {w:World} {G1:Gh} {σ1:St} {u sz:Nat} {lx ly:List (List V)} {vx vy:Value} {news:List Value} {tx ty rt e:TypeId} (hdst:o.dst=some u) (hu:u<tmps.size)
  (R2:Rel w.heap G1 tmps σ1) (hS2:dv w.heap G G1) (hc:xd G1) (hlen:σ1.S.length=σ.S.length) (low:Low σ1.S)
  (hexec:execOp (⟨tmps,ds⟩:Act).eval o=(do pure (.value (<-Builtin.append_ #[tx,ty] rt #[vx,vy])):Sem Next))
  (htx:P.underlying tx=some (.slice e)) (hzl:(ck P e).zero.length=(ck P e).size) (hsz:(ck P e).size=sz) (hz0:sz≠0) (hb0:(ck P e).bytes≠0) (hbound:(((lx.length+ly.length:Nat):Int)*(ck P e).bytes<=140737488355328))
  (hsrc:Src P sz ty vy ly.length news w) (hrows:RVr G1.rd sz ly news.toArray 0) {base:Option Addr} {cap:Nat} {olds:List Value} (hvx:vx= .slice base lx.length cap) (hgr:cap<lx.length+ly.length) (hol:olds.length=lx.length*sz) (horows:RVr G1.rd sz lx olds.toArray 0)
  (hold0: ∀i,P.info? e=some i->(Builtin.firstCells i.size lx.length (.slice base lx.length cap)).run P w.drew= .ok olds.toArray w.drew):
  dp P w G ⟨tmps,ds⟩ σ o { σ1 with env:=setReg σ1.env u (.own sz (lx++ly)) } :=by
 obtain⟨i,z,hi,hz,hzs,his,hib,_⟩:=eL (G:=G) hzl (by rw [hsz];exact hz0)
 have hold:=hold0 i hi
 have hisz:i.size=sz:=by rw [his,hsz]
 have hneed:(lx.length+ly.length)*i.bytes<=140737488355328:=by
  rw [hib]
  have h1:(((lx.length+ly.length)*(ck P e).bytes:Nat):Int)<=((140737488355328:Nat):Int):=by rw [Int.natCast_mul];exact hbound
  exact Int.ofNat_le.1 h1
 have hb1:1<=i.bytes:=by rw [hib];omega
 have hneed1:lx.length+ly.length<=140737488355328:=Nat.le_trans (Nat.le_mul_of_pos_right _ hb1) hneed
 have hnl:news.length=ly.length*sz:=hsrc.newsLen
 have hrun:=run_append_grow_src (P:=P) w tx ty rt e i z htx hi hz base lx.length cap olds hold vy ly.length news (by rw [hisz];exact hsrc) hgr (by omega) (growslice_fits hgr hneed)
 have hcap:=grownCap_ge w (lx.length+ly.length) cap e
 have hrun':(execOp (⟨tmps,ds⟩:Act).eval o).run P w= .ok (.value (.slice (some ⟨w.heap.size,0,none⟩) (lx.length+ly.length) (grownCap w (lx.length+ly.length) cap e)))
   (w.drew.alloc (.cells ((olds++news).toArray++Builtin.zeroCells z.cells (grownCap w (lx.length+ly.length) cap e-(lx.length+ly.length))) e)):=by
  rw [hexec,hvx,Sem.run_bind,hrun,Result.andThen_ok];rfl
 have hsplit:(lx.length+ly.length)*sz=lx.length*sz+ly.length*sz:=Nat.add_mul _ _ _
 refine dp.newOwn (w1:=w.drew.alloc (.cells ((olds++news).toArray++Builtin.zeroCells z.cells (grownCap w (lx.length+ly.length) cap e-(lx.length+ly.length))) e)) (c:=(olds++news).toArray++Builtin.zeroCells z.cells (grownCap w (lx.length+ly.length) cap e-(lx.length+ly.length))) (e:=e) (fr:=(0,0)) (len:=lx.length+ly.length) (cap:=grownCap w (lx.length+ly.length) cap e) hdst hu hrun' (.inr rfl) R2 hc hlen low hS2 (fun i _=>by omega) (by simp) hz0 hcap ?_ ?_
 ·rw [Array.size_append,size_zeroCells,hzs,hsz]
  simp only [List.size_toArray,List.length_append,hol,hnl]
  rw [<-hsplit,<-Nat.add_mul]
  exact Nat.mul_le_mul_right _ (by omega)
 ·refine RVr.append sz lx ly _ 0 (RVr.shift lx _ _ 0 0 horows (fun j hj=>?_)) (RVr.shift ly _ _ 0 _ hrows (fun j hj=>?_))
  ·rw [Nat.zero_add,Array.getElem?_append_left (by simp;omega),List.getElem?_toArray,List.getElem?_toArray,List.getElem?_append_left (by omega)]
  ·rw [Nat.zero_add,Nat.zero_add,Array.getElem?_append_left (by simp;omega),List.getElem?_toArray,List.getElem?_toArray,List.getElem?_append_right (by omega),hol]
   congr 1;omega
theorem Ax {w : World} {G1 : Gh} {σ1 : St} {u sz : Nat} {lx ly : List (List V)} {vx vy : Value} {news : List Value} {tx ty rt e : TypeId} (hdst : o.dst = some u) (hu : u < tmps.size)
    (R : Rel w.heap G1 tmps σ1) (S1 : dv w.heap G G1) (H : dG w.heap G1 0 (.own sz lx) vx) (hc : ∀ q j, q ≠ 0 -> G1.ow (.hand q j) = none) (hlen : σ1.S.length = σ.S.length) (low : Low σ1.S)
    (hexec : execOp (⟨tmps, ds⟩ : Act).eval o = (do pure (.value (<- Builtin.append_ #[tx, ty] rt #[vx, vy])) : Sem Next))
    (htx : P.underlying tx = some (.slice e)) (hzl : (ck P e).zero.length = (ck P e).size) (hsz : (ck P e).size = sz) (hz0 : sz ≠ 0) (hb0 : (ck P e).bytes ≠ 0) (hbound : (((lx.length + ly.length : Nat) : Int) * (ck P e).bytes <= 140737488355328))
    (hsrc : Src P sz ty vy ly.length news w) (hrows : RVr G1.rd sz ly news.toArray 0) :
    dp P w G ⟨tmps, ds⟩ σ o { σ1 with env := setReg σ1.env u (.own sz (lx ++ ly)) } := by
  obtain ⟨i, z, hi, hz, hzs, his, hib, _⟩ := eL (G := G) hzl (by rw [hsz]; exact hz0)
  have hisz : i.size = sz := by rw [his, hsz]
  have hneed : (lx.length + ly.length) * i.bytes <= 140737488355328 := by
    rw [hib]
    have h1 : (((lx.length + ly.length) * (ck P e).bytes : Nat) : Int) <= ((140737488355328 : Nat) : Int) := by rw [Int.natCast_mul]; exact hbound
    exact Int.ofNat_le.1 h1
  have hb1 : 1 <= i.bytes := by rw [hib]; omega
  have hneed1 : lx.length + ly.length <= 140737488355328 := Nat.le_trans (Nat.le_mul_of_pos_right _ hb1) hneed
  have hnl : news.length = ly.length * sz := hsrc.newsLen
  -- a new row: what was owned ahead is left behind
  have grow : ∀ (base : Option Addr) (cap : Nat) (olds : List Value), vx = .slice base lx.length cap -> cap < lx.length + ly.length -> olds.length = lx.length * sz -> RVr G1.rd sz lx olds.toArray 0 ->
      (Builtin.firstCells i.size lx.length (.slice base lx.length cap)).run P w.drew = .ok olds.toArray w.drew ->
      dp P w G ⟨tmps, ds⟩ σ o { σ1 with env := setReg σ1.env u (.own sz (lx ++ ly)) } := by
    intro base cap olds hvx hgr hol horows hold
    let ow : Loc -> Option (Nat × Nat) := fun l => match l with
      | .hand _ _ => none
      | l => G1.ow l
    have hsub : ∀ l p, ow l = some p -> G1.ow l = some p := by
      intro l p hl
      cases l <;> first | exact hl | cases hl
    have R2 := R.hands (ow := ow) (fun l hl => by cases l <;> first | rfl | cases hl) (fun l p hl => ⟨l, hsub l p hl⟩) (fun l l' b f f' h1 h2 => R.inv.ow_inj l l' b f f' (hsub _ _ h1) (hsub _ _ h2))
    have hS2 : dv w.heap G { G1 with ow := ow } := S1.trans ⟨cS.refl _, rfl, fun l b f hl => ⟨l, f, hsub l _ hl⟩, fun b hb => .inl hb⟩
    exact gz hdst hu R2 hS2 (fun _ _ => rfl) hlen low hexec htx hzl hsz hz0 hb0 hbound hsrc hrows hvx hgr hol horows (fun i' hi' => by rw [hi] at hi'; cases hi'; exact hold)
  have hrd := H.rd
  simp only [RD] at hrd
  rcases hrd with ⟨hv0, hl0⟩ | ⟨b, off, cap, c, e0, fr, k1, k2, k3, k4, k5, k6, k7⟩
  . -- nil
    subst hl0
    simp only [List.nil_append, List.length_nil, Nat.zero_add] at *
    rcases Nat.eq_zero_or_pos ly.length with h0 | h0
    . have hly : ly = [] := List.length_eq_zero_iff.1 h0
      subst hly
      have hrun : (Builtin.append_ #[tx, ty] rt #[vx, vy]).run P w = .ok vx w := by
        have hk := hsrc.kind
        have hlen' := hsrc.len
        have hcs := hsrc.cells
        simp only [List.length_nil] at hlen' hcs
        rw [hv0]
        rcases hk with ⟨e', hk⟩ | hk <;> simp [Builtin.append_, run_underlying htx, run_underlying hk, sizeOf, typeInfo, hi, hlen', hisz, hcs]
      refine dp.give hdst hu (by rw [hexec, Sem.run_bind, hrun, Result.andThen_ok]; rfl) R ⟨by simp only [RD]; exact .inl ⟨hv0, rfl⟩, H.own, rfl⟩ hc low (S1.goes hlen)
    . exact grow none 0 [] hv0 h0 (by simp) (by simp only [RVr]) (run_firstCells_none w.drew i.size 0 0 0)
  . rcases Nat.lt_or_ge cap (lx.length + ly.length) with hgr | hroom
    . refine grow _ cap ((c.toList.drop off).take (lx.length * sz)) k1 hgr ?_ ?_ ?_
      . rw [List.length_take, List.length_drop, Array.length_toList]
        have : lx.length * sz <= cap * sz := Nat.mul_le_mul_right _ k5.1
        refine Nat.min_eq_left (Nat.le_sub_of_add_le ?_)
        have := Nat.add_le_add_left this off
        have := Nat.le_trans this k6
        rw [Nat.add_comm]; simpa using this
      . refine RVr.shift lx c _ off 0 k7 (fun j hj => ?_)
        rw [Nat.zero_add, List.getElem?_toArray, List.getElem?_take, if_pos hj, List.getElem?_drop]; simp
      . rw [hisz]
        refine run_firstCells_some w.drew sz lx.length ⟨b, off, none⟩ lx.length cap _ ?_ ?_
        . rw [List.length_take, List.length_drop, Array.length_toList]
          have : lx.length * sz <= cap * sz := Nat.mul_le_mul_right _ k5.1
          refine Nat.min_eq_left (Nat.le_sub_of_add_le ?_)
          have := Nat.add_le_add_left this off
          have := Nat.le_trans this k6
          rw [Nat.add_comm]; simpa using this
        . intro j v hj
          rw [Addr.add_mid, dZ (w := w.drew) (h := w.heap) rfl k3]
          rw [List.getElem?_take] at hj
          split at hj
          . rw [List.getElem?_drop] at hj; simpa using hj
          . cases hj
    . -- there is room
      have hroomc : off + lx.length * sz + news.length <= c.size := by
        have h1 : (lx.length + ly.length) * sz <= cap * sz := Nat.mul_le_mul_right _ hroom
        rw [Nat.add_mul] at h1
        omega
      have ht := HY (w := w) k3 k4 hroomc
      have hrun := run_append_room_src (P := P) w tx ty rt e i htx hi b off lx.length cap vy ly.length news (by rw [hisz]; exact hsrc) hroom (by rw [hisz]; exact fun j hj => (ht j hj).1) (by rw [hisz]; exact fun j hj => (ht j hj).2)
      rw [hisz] at hrun
      have hw := R.writeHand (h' := (w.setCells b (off + lx.length * sz) news).heap) k2 (dD _ _ _ _) (fun q hq => dK _ hq _ _ _)
      have hk3 := eR b news w c (off + lx.length * sz) k3
      refine dp.give hdst hu (by rw [hexec, k1, Sem.run_bind, hrun, Result.andThen_ok]; rfl) hw ⟨?_, ?_, rfl⟩ hc low ⟨w7.setCells (S1.mineB (.inr ⟨_, _, k2⟩)) S1.rd (fun b hb => S1.mineB hb) (fun b hb => S1.rdB hb), by rw [hlen]; exact Nat.le_refl _, fun q _ => by rw [S1.ob]⟩
      . simp only [RD]
        refine .inr ⟨b, off, cap, _, e0, fr, by simp, k2, hk3, ?_, ⟨by simpa using hroom, hz0⟩, by rw [eT]; exact k6, ?_⟩
        . intro p hp; rw [eT] at hp; exact k4 p hp
        . refine RVr.append sz lx ly _ off (RVr.shift lx _ _ off off k7 (fun j hj => gq _ _ _ _ (.inl (by omega)))) (RVr.shift ly _ _ 0 _ hrows (fun j hj => ?_))
          rw [CI _ _ _ _ hroomc (by omega), Nat.zero_add, List.getElem?_toArray]
      . intro j p hp
        have := H.own j p hp
        simpa only [cW] using this
theorem GC {c : Call} (F : dE w.heap G tmps σ) (ho : o.op = .call c) (hcb : c.callee = .builtin .append) (hsz : ∀ t, o.dst = some t -> t < tmps.size) (hd : aJ (ck P) C ro mv gv σ o.dst o.type o.op = some σ') : dp P w G ⟨tmps, ds⟩ σ o σ' := by
  rw [ho] at hd
  simp only [aJ, hcb] at hd
  split at hd <;> try (cases hd; done)
  rename_i x y tx ty u hargs htys hdst
  split at hd <;> try (cases hd; done)
  rename_i e dx dy htx hfx hfy
  obtain ⟨_, _, hux⟩ := dw htx
  have ea : c.args = #[x, y] := by apply Array.ext'; simpa using hargs
  have et : c.argTypes = #[tx, ty] := by apply Array.ext'; simpa using htys
  have hexec : execOp (⟨tmps, ds⟩ : Act).eval o = (do pure (.value (<- Builtin.append_ #[tx, ty] o.type #[(⟨tmps, ds⟩ : Act).eval x, (⟨tmps, ds⟩ : Act).eval y])) : Sem Next) := by
    simp [execOp, ho, resolve, hcb, ea, et, invoke, builtin]
  have hry := F.rel.opndF ds hfy
  have hrx := F.rel.opndF ds hfx
  split at hd <;> try (cases hd; done)
  rename_i zy ly hsy
  cases hc : ((zy == (ck P e).size || (ly.isEmpty && aF (ck P ty).tk)) && (ck P e).zero.length == (ck P e).size && (ck P e).size != 0 && (ck P e).bytes != 0) with
  | false => rw [hc] at hd; cases hd
  | true =>
    rw [hc, cond_true] at hd
    simp only [Bool.and_eq_true, Bool.or_eq_true, beq_iff_eq, bne_iff_ne, List.isEmpty_iff] at hc
    obtain ⟨⟨⟨hzy, hzl⟩, hz0⟩, hb0⟩ := hc
    -- the source
    have hsrc : ∃ news, Src P (ck P e).size ty ((⟨tmps, ds⟩ : Act).eval y) ly.length news w /\ RVr G.rd (ck P e).size ly news.toArray 0 := by
      split at hsy
      . rename_i e' hty
        obtain ⟨_, _, huy⟩ := dw hty
        exact Sb huy hry (fun b c hb => F.rel.inv.rd_ok b c hb) hsy (hzy.imp id (fun h => h.1))
      . rename_i hty
        obtain ⟨_, _, huy⟩ := eY hty
        have h1 : zy = (ck P e).size := by
          rcases hzy with h | ⟨_, h⟩
          . exact h
          . rw [hty] at h; cases h
        cases dy with
        | v xv =>
          cases xv with
          | s str =>
            simp only [bB, Option.some.injEq, Prod.mk.injEq] at hsy
            obtain ⟨rfl, rfl⟩ := hsy
            rw [<- h1]
            exact OX huy (RD.str hry)
          | _ => simp [bB] at hsy
        | _ => simp [bB] at hsy
      . cases hsy
    obtain ⟨news, hs1, hs2⟩ := hsrc
    split at hd
    . rename_i zx lx
      cases hc2 : ((zx == (ck P e).size || (zx == 0 && lx.isEmpty)) && dh (lx.length + ly.length) (ck P e).bytes) with
      | false => rw [hc2] at hd; cases hd
      | true =>
        rw [hc2, cond_true] at hd
        cases hd
        simp only [Bool.and_eq_true, fJ, decide_eq_true_eq] at hc2
        obtain ⟨G1, R1, T, H1⟩ := F.rel.take (ds := ds) 0 (F.clean 0) hfx rfl
        have H2 : dG w.heap G1 0 (.own (ck P e).size lx) ((⟨tmps, ds⟩ : Act).eval x) := by
          have hfc : co (ck P e).size (.own zx lx) = some (.own (ck P e).size lx) := by
            simp only [co]
            rw [show ((ck P e).size == 0) = false by simpa using hz0, cond_false, hc2.1, cond_true]
          exact ⟨(Aq hfc H1.rd).1, fun j p hp => by have := H1.own j p hp; simpa [cW] using this, rfl⟩
        exact Ax hdst (hsz u hdst) R1 T.same H2 (fun q j hq => by rw [T.hand q j hq]; exact F.clean q j) rfl F.low hexec hux hzl rfl hz0 hb0 hc2.2 hs1 (RVr.mono T.same.rd _ _ _ _ hs2)
    . rename_i zx lx src
      cases hc2 : (spendOk σ src && zx == (ck P e).size && dh (lx.length + ly.length) (ck P e).bytes) with
      | false => rw [hc2] at hd; cases hd
      | true =>
        rw [hc2, cond_true] at hd
        cases hd
        simp only [Bool.and_eq_true, fJ, decide_eq_true_eq, beq_iff_eq] at hc2
        obtain ⟨⟨hsp, rfl⟩, hbd⟩ := hc2
        simp only [RD] at hrx
        obtain ⟨G1, R1, S1, H1, c1⟩ := F.rel.spendLoc 0 (F.clean 0) hsp (hrx.1 trivial)
        exact Ax hdst (hsz u hdst) R1 S1 H1 (fun q j hq => by rw [c1 q j hq]; exact F.clean q j) gU F.low.spendLoc hexec hux hzl rfl hz0 hb0 hbd hs1 (RVr.mono S1.rd _ _ _ _ hs2)
    . rename_i zx lx
      cases hc2 : (zx == (ck P e).size && !ly.isEmpty && dh (lx.length + ly.length) (ck P e).bytes) with
      | false => rw [hc2] at hd; cases hd
      | true =>
        rw [hc2, cond_true] at hd
        cases hd
        simp only [Bool.and_eq_true, fJ, decide_eq_true_eq, beq_iff_eq, Bool.not_eq_true'] at hc2
        obtain ⟨⟨rfl, hly⟩, hbd⟩ := hc2
        simp only [RD] at hrx
        obtain ⟨base, hvx, hor⟩ := hrx
        have hpos : 0 < ly.length := by
          cases ly with
          | nil => simp at hly
          | cons _ _ => simp
        rcases hor with hl0 | ⟨b, off, c0, hbase, hrd, hrw⟩
        . subst hl0
          refine gz hdst (hsz u hdst) F.rel (dv.refl _ _) F.clean rfl F.low hexec hux hzl rfl hz0 hb0 hbd hs1 hs2 (olds := []) hvx (by omega) (by simp) (by simp only [RVr]) (fun i _ => ?_)
          cases base with
          | none => exact run_firstCells_none w.drew _ 0 0 0
          | some a => exact run_firstCells_some w.drew _ 0 a 0 0 [] (by simp) (fun j v hj => by simp at hj)
        . obtain ⟨e0, fr, hcell⟩ := F.rel.inv.rd_ok b c0 hrd
          have hfit : off + lx.length * (ck P e).size <= c0.size ∨ lx.length * (ck P e).size = 0 := by
            rcases Nat.eq_zero_or_pos (lx.length * (ck P e).size) with h0 | h0
            . exact .inr h0
            . left
              obtain ⟨v, x, e1, _⟩ := RVr.cells _ _ _ hrw (lx.length * (ck P e).size - 1) (by omega)
              have := (Array.getElem?_eq_some_iff.1 e1).1
              omega
          have hlen : ((c0.toList.drop off).take (lx.length * (ck P e).size)).length = lx.length * (ck P e).size := by
            rw [List.length_take, List.length_drop, show c0.toList.length = c0.size from Array.length_toList]
            rcases hfit with h | h
            . exact Nat.min_eq_left (by omega)
            . rw [h]; simp
          refine gz hdst (hsz u hdst) F.rel (dv.refl _ _) F.clean rfl F.low hexec hux hzl rfl hz0 hb0 hbd hs1 hs2 (olds := (c0.toList.drop off).take (lx.length * (ck P e).size)) hvx (by omega) hlen ?_ (fun i hi => ?_)
          . refine RVr.shift lx c0 _ off 0 hrw (fun j hj => ?_)
            rw [Nat.zero_add, List.getElem?_toArray, List.getElem?_take, if_pos hj, List.getElem?_drop]; simp
          . obtain ⟨i1, z, hi1, hz, hzs, his, hib, _⟩ := eL (G := G) hzl hz0
            rw [hi] at hi1; cases hi1
            rw [hbase, his]
            refine run_firstCells_some w.drew _ lx.length ⟨b, off, none⟩ lx.length lx.length _ hlen ?_
            intro j v hj
            rw [Addr.add_mid, dZ (w := w.drew) (h := w.heap) rfl hcell]
            rw [List.getElem?_take] at hj
            split at hj
            . rw [List.getElem?_drop] at hj; simpa using hj
            . cases hj
    . cases hd
end
end Go.Mx
