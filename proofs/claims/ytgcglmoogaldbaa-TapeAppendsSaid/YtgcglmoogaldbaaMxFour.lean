/- The machine Mx: Go code run on plain data in place of memory, and that it tells the truth of the model (part MxFour). -/
import Derived.Test.YtgcglmoogaldbaaMxThree
import Derived.Laws.Tables
import Derived.ChangeShapes
import Derived.Below
import Derived.SizedLaws
import Derived.Lib.Bytealg
set_option linter.unusedSimpArgs false
set_option linter.unusedVariables false
set_option linter.constructorNameAsVariable false
set_option linter.unnecessarySimpa false
noncomputable section
namespace Go.Mx
open Go
section
variable {P:Program} {w:World} {G:Gh} {tmps:Array Value} {σ σ':St} {ds:List Deferred} {C:aj} {ν:cL} {o:Oper}
def dN (P:Program) (C:aj) (ν:cL) (n:Nat) (body:Code):Code->Prop
 | .region id ops draw=>gj P C ν n id ops draw
 | .seq a b=>dN P C ν n body a/\dN P C ν n body b
 | .cond _ a b=>dN P C ν n body a/\dN P C ν n body b
 | .block id (.loop c)=>bE id body=some c/\dN P C ν n body c
 | .block _ c=>dN P C ν n body c
 |_=>True
def Kt (P:Program) (n:Nat) (body:Code) (L:dS):Prop:=
 ∀id c,bE id body=some c-> ∀(w:World) (G:Gh) (tmps:Array Value) (ds:List Deferred) (σ:St) (ex:Ex) (σ':St),tmps.size=n->dE w.heap G tmps σ->L id σ=some (ex,σ')->MH P (.block id (.loop c)) w G ⟨tmps,ds⟩ σ ex σ'
theorem DM {n:Nat} {body:Code} {L:dS} (LO:Kt P n body L): ∀(c:Code) (w:World) (G:Gh) (tmps:Array Value) (σ:St) (ex:Ex) (σ':St),dN P C ν n body c->tmps.size=n->dE w.heap G tmps σ->aH (ck P) C L ν c σ=some (ex,σ')->MH P c w G ⟨tmps,ds⟩ σ ex σ':=by
 intro c
 induction c with
 |skip=>
  intro w G tmps σ ex σ' _ _ F he Q hQ
  simp only [aH,Option.some.injEq,Prod.mk.injEq] at he
  obtain⟨rfl,rfl⟩:=he
  exact wp_skip (hQ _ _ w G rfl rfl rfl F (dq.refl _ _ _))
 |region id ops draw=>
  intro w G tmps σ ex σ' ok hn F he Q hQ
  simp only [aH] at he
  cases hr:dY (ck P) C ν id ops.toList draw σ with
  |none=>rw [hr] at he;cases he
  |some σ1=>
   rw [hr] at he
   simp only [Option.some.injEq,Prod.mk.injEq] at he
   obtain⟨rfl,rfl⟩:=he
   refine ok w G tmps ds σ σ1 hn F hr Q ?_
   intro e a' w' G' h1 h2 h3 F' g'
   obtain⟨G2,R2,S2,c2⟩:=F'.rel.prune (ν.keep id)
   exact hQ e a' w' G2 h1 h2 h3 ⟨R2,fun k j=>by rw [c2];exact F'.clean k j,F'.low⟩ (g'.trans (S2.goes rfl))
 |seq a b iha ihb=>
  intro w G tmps σ ex σ' ok hn F he Q hQ
  simp only [dN] at ok
  simp only [aH] at he
  refine wp_seq ?_
  cases ha:aH (ck P) C L ν a σ with
  |none=>rw [ha] at he;cases he
  |some p=>
   obtain⟨e1,σ1⟩:=p
   rw [ha] at he
   refine iha w G tmps σ e1 σ1 ok.1 hn F ha _ ?_
   intro e a' w' G' h1 h2 h3 F' g'
   cases e1 with
   |normal=>
    simp only at he
    cases h1
    obtain⟨tmps',ds'⟩:=a'
    simp only at h2 h3 F'
    simp only [Exit.then]
    rw [h2]
    refine ihb w' G' tmps' σ1 ex σ' ok.2 (h3.trans hn) F' he Q ?_
    intro e2 a2 w2 G2 k1 k2 k3 F2 g2
    exact hQ e2 a2 w2 G2 k1 k2 (k3.trans h3) F2 (g'.trans g2)
   |exit id=>
    simp only [Option.some.injEq,Prod.mk.injEq] at he
    obtain⟨rfl,rfl⟩:=he
    cases h1
    exact hQ _ a' w' G' rfl h2 h3 F' g'
   |ret=>
    simp only [Option.some.injEq,Prod.mk.injEq] at he
    obtain⟨rfl,rfl⟩:=he
    cases h1
    exact hQ _ a' w' G' rfl h2 h3 F' g'
 |cond x a b iha ihb=>
  intro w G tmps σ ex σ' ok hn F he Q hQ
  simp only [dN] at ok
  cases x with
  |tmp t=>
   simp only [aH] at he
   split at he
   ·rename_i x hl
    have hr:=F.rel.env t
    rw [hl] at hr
    have hv:(⟨tmps,ds⟩:Act).eval (.tmp t)= .bool x:=RD.bool hr
    refine wp_cond hv ?_
    have key: ∀x,∃G2,dE w.heap G2 tmps (cK ν t x σ)/\dq w G σ w G2 (cK ν t x σ):=by
     intro x
     unfold cK
     split
     ·rename_i l _
      obtain⟨G2,R2,S2,c2⟩:=F.rel.prune l
      exact⟨G2,⟨R2,fun k j=>by rw [c2];exact F.clean k j,F.low⟩,S2.goes rfl⟩
     ·exact⟨G,F,dq.refl _ _ _⟩
    obtain⟨G2,F2,g2⟩:=key x
    cases x with
    |true=>rw [cond_true] at he;exact iha w G2 tmps _ ex σ' ok.1 hn F2 he Q (fun e a' w' G' h1 h2 h3 F' g'=>hQ e a' w' G' h1 h2 h3 F' (g2.trans g'))
    |false=>rw [cond_false] at he;exact ihb w G2 tmps _ ex σ' ok.2 hn F2 he Q (fun e a' w' G' h1 h2 h3 F' g'=>hQ e a' w' G' h1 h2 h3 F' (g2.trans g'))
   ·cases he
  |_=>simp [aH] at he
 |block id c ih=>
  intro w G tmps σ ex σ' ok hn F he Q hQ
  have other:dN P C ν n body c->dl id (aH (ck P) C L ν c σ)=some (ex,σ')->(Code.block id c).wp P Q ⟨tmps,ds⟩ w:=by
   intro ok he
   refine wp_block ?_
   cases hc:aH (ck P) C L ν c σ with
   |none=>rw [hc] at he;cases he
   |some p=>
    obtain⟨e1,σ1⟩:=p
    rw [hc] at he
    refine ih w G tmps σ e1 σ1 ok hn F hc _ ?_
    intro e a' w' G' h1 h2 h3 F' g'
    cases e1 with
    |normal=>
     simp only [dl,Option.some.injEq,Prod.mk.injEq] at he
     obtain⟨rfl,rfl⟩:=he
     cases h1
     exact hQ _ a' w' G' rfl h2 h3 F' g'
    |ret=>
     simp only [dl,Option.some.injEq,Prod.mk.injEq] at he
     obtain⟨rfl,rfl⟩:=he
     cases h1
     exact hQ _ a' w' G' rfl h2 h3 F' g'
    |exit id'=>
     cases h1
     simp only [dl] at he
     simp only [Exit.inBlock]
     by_cases hid:id'=id
     ·subst hid
      simp only [beq_self_eq_true,cond_true,Option.some.injEq,Prod.mk.injEq] at he
      obtain⟨rfl,rfl⟩:=he
      rw [if_pos rfl]
      exact hQ _ a' w' G' rfl h2 h3 F' g'
     ·have hb:(id'==id)=false:=by simpa using hid
      rw [hb,cond_false] at he
      simp only [Option.some.injEq,Prod.mk.injEq] at he
      obtain⟨rfl,rfl⟩:=he
      rw [if_neg hid]
      exact hQ _ a' w' G' rfl h2 h3 F' g'
  cases c with
  |loop c'=>
   simp only [dN] at ok
   simp only [aH] at he
   exact LO id c' ok.1 w G tmps ds σ ex σ' hn F he Q hQ
  |_=>exact other ok he
 |exit id=>
  intro w G tmps σ ex σ' _ _ F he Q hQ
  simp only [aH,Option.some.injEq,Prod.mk.injEq] at he
  obtain⟨rfl,rfl⟩:=he
  exact wp_exit (hQ _ _ w G rfl rfl rfl F (dq.refl _ _ _))
 |ret=>
  intro w G tmps σ ex σ' _ _ F he Q hQ
  simp only [aH,Option.some.injEq,Prod.mk.injEq] at he
  obtain⟨rfl,rfl⟩:=he
  exact wp_ret (hQ _ _ w G rfl rfl rfl F (dq.refl _ _ _))
 |_=>
  intro w G tmps σ ex σ' _ _ F he Q hQ
  simp [aH] at he
end
end Go.Mx
namespace Go.Mx
open Go
section
variable {P:Program} {h:Array Obj} {G G':Gh} {tmps:Array Value} {σ σ':St}
structure Below0 (n:Nat) (G G':Gh):Prop where
 rd:cS G.rd G'.rd
 ob: ∀o b,o<n->G.ob o=some b->G'.ob o=some b
structure IM (n:Nat) (G G':Gh):Prop extends Below0 n G G' where
 ow: ∀l p,bn n l=true->G.ow l=some p->G'.ow l=some p
theorem RD.lowP {n:Nat} (B:Below0 n G G') {loc loc':Nat->Loc} {d:D} {v:Value} (hl:Mx.lowP n d=true) (hr:RD h G loc d v):RD h G' loc' d v:=by
 cases d with
 |ptr o off=>
  simp only [RD] at*
  obtain⟨b,h1,h2⟩:=hr
  exact⟨b,B.ob o b (by simpa [Mx.lowP] using hl) h1,h2⟩
 |v x=>simp only [RD] at*;exact RV.mono B.rd _ _ hr
 |cut sz l=>
  simp only [RD] at*
  obtain⟨base,h1,h2⟩:=hr
  exact⟨base,h1,h2.imp id (fun ⟨b,off,c,g1,g2,g3⟩=>⟨b,off,c,g1,B.rd _ _ g2,RVr.mono B.rd _ _ _ _ g3⟩)⟩
 |rp c=>
  simp only [RD] at*
  obtain⟨b,off,c',g1,g2,g3⟩:=hr
  exact⟨b,off,c',g1,B.rd _ _ g2,RVc.mono B.rd _ _ _ g3⟩
 |undef=>simpa only [RD] using hr
 |bad=>simp only [RD]
 |nilp=>simpa only [RD] using hr
 |_=>simp [Mx.lowP,bJ] at hl
theorem RDs.lowP {n:Nat} (B:Below0 n G G'): ∀(cs:List D) (vs:List Value) (j j':Nat) (loc loc':Nat->Loc),cs.all (Mx.lowP n)=true->RDs h G loc j cs vs->RDs h G' loc' j' cs vs
 | [],[],_,_,_,_,_,_=>by simp only [RDs]
 |d::cs,v::vs,j,j',loc,loc',hl,hr=>by
  simp only [List.all_cons,Bool.and_eq_true] at hl
  simp only [RDs] at*
  exact⟨RD.lowP B hl.1 hr.1,RDs.lowP B cs vs _ _ _ _ hl.2 hr.2⟩
 | [],_::_,_,_,_,_,_,hr=>by simp only [RDs] at hr
 |_::_,[],_,_,_,_,_,hr=>by simp only [RDs] at hr
theorem RD.lowC {n:Nat} (B:Below0 n G G') {l l':Loc} {d:D} {v:Value} (hl:Mx.lowC n d=true) (ho:bG d=true-> ∀p,G.ow l=some p->G'.ow l'=some p) (hr:RD h G (fun _=>l) d v):RD h G' (fun _=>l') d v:=by
 cases d with
 |own sz m=>
  simp only [RD] at*
  rcases hr with hr|⟨b,off,cap,c,e,fr,h1,h2,h3,h4,h5,h6,h7⟩
  ·exact .inl hr
  ·exact .inr ⟨b,off,cap,c,e,fr,h1,ho rfl _ h2,h3,h4,h5,h6,RVr.mono B.rd _ _ _ _ h7⟩
 |clo f cs=>
  simp only [RD] at*
  obtain⟨vs,h1,h2⟩:=hr
  exact⟨vs,h1,RDs.lowP B cs _ 0 0 _ _ (by simpa [Mx.lowC] using hl) h2⟩
 |ptr o off=>exact RD.lowP B (by simpa [Mx.lowC,Mx.lowP] using hl) hr
 |v x=>exact RD.lowP B rfl hr
 |cut sz l=>exact RD.lowP B rfl hr
 |rp c=>exact RD.lowP B rfl hr
 |undef=>exact RD.lowP B rfl hr
 |bad=>exact RD.lowP B rfl hr
 |nilp=>exact RD.lowP B rfl hr
 |_=>simp [Mx.lowC,aM,bJ] at hl
theorem RDs.lowC {n:Nat} (B:Below0 n G G') {loc loc':Nat->Loc} : ∀(cs:List D) (vs:List Value) (j j':Nat),cs.all (Mx.lowC n)=true->(∀i d,cs[i]? =some d->bG d=true-> ∀p,G.ow (loc (j+i))=some p->G'.ow (loc' (j'+i))=some p)->RDs h G loc j cs vs->RDs h G' loc' j' cs vs
 | [],[],_,_,_,_,_=>by simp only [RDs]
 |d::cs,v::vs,j,j',hl,ho,hr=>by
  simp only [List.all_cons,Bool.and_eq_true] at hl
  simp only [RDs] at*
  refine⟨RD.lowC B hl.1 (fun hd=>by simpa using ho 0 d rfl hd) hr.1,RDs.lowC B cs vs _ _ hl.2 (fun i d' hd hown p hp=>?_) hr.2⟩
  have:=ho (i+1) d' (by simpa using hd) hown p (by rw [show j+(i+1)=j+1+i by omega];exact hp)
  rw [show j'+1+i=j'+(i+1) by omega];exact this
 | [],_::_,_,_,_,_,hr=>by simp only [RDs] at hr
 |_::_,[],_,_,_,_,hr=>by simp only [RDs] at hr
theorem RD.lowA {n:Nat} (B:IM n G G') {loc loc':Nat->Loc} {d:D} {v:Value} (hl:Mx.lowA n d=true) (ho: ∀j p,G.ow (loc j)=some p->G'.ow (loc' j)=some p) (hr:RD h G loc d v):RD h G' loc' d v:=by
 have one: ∀(d:D) (v:Value),Mx.lowC n d=true->RD h G loc d v->RD h G' loc' d v:=by
  intro d v hd hr
  cases d with
  |own sz l=>
   have hr':RD h G (fun _=>loc 0) (.own sz l) v:=by simpa only [RD] using hr
   have:=RD.lowC (l:=loc 0) (l':=loc' 0) B.toBelow0 (d:=.own sz l) rfl (fun _ p hp=>ho 0 p hp) hr'
   simpa only [RD] using this
  |clo f cs=>
   have hr':RD h G (fun _=>loc 0) (.clo f cs) v:=by simpa only [RD] using hr
   have:=RD.lowC (l:=loc 0) (l':=loc' 0) B.toBelow0 (d:=.clo f cs) hd (fun h=>by cases h) hr'
   simpa only [RD] using this
  |ptr o off=>exact RD.lowP B.toBelow0 (by simpa [Mx.lowC,Mx.lowP] using hd) hr
  |v x=>exact RD.lowP B.toBelow0 rfl hr
  |cut sz l=>exact RD.lowP B.toBelow0 rfl hr
  |rp c=>exact RD.lowP B.toBelow0 rfl hr
  |undef=>exact RD.lowP B.toBelow0 rfl hr
  |bad=>exact RD.lowP B.toBelow0 rfl hr
  |nilp=>exact RD.lowP B.toBelow0 rfl hr
  |_=>simp [Mx.lowC,aM,bJ] at hd
 cases d with
 |al f sz l src=>
  simp only [Mx.lowA] at hl
  simp only [RD] at*
  obtain⟨h1,h2,h3⟩:=hr
  refine⟨fun hf=>?_,?_,h3⟩
  ·rcases h1 hf with hr|⟨b,off,cap,c,e,fr,h1,h2,h3,h4,h5,h6,h7⟩
   ·exact .inl hr
   ·exact .inr ⟨b,off,cap,c,e,fr,h1,B.ow _ _ hl h2,h3,h4,h5,h6,RVr.mono B.rd _ _ _ _ h7⟩
  ·obtain⟨base,cap,g1,g2,g3⟩:=h2
   refine⟨base,cap,g1,g2,g3.imp id ?_⟩
   rintro⟨b,off,o,c,e,fr,k1,k2,k3,k4⟩
   exact⟨b,off,o,c,e,fr,k1,B.ow _ _ hl k2,k3,RVr.mono B.rd _ _ _ _ k4⟩
 |ep src sz i off=>
  simp only [Mx.lowA] at hl
  simp only [RD] at*
  obtain⟨b,base,h1,h2,h3⟩:=hr
  exact⟨b,base,B.ow _ _ hl h1,h2,h3⟩
 |agg cs=>
  simp only [Mx.lowA] at hl
  simp only [RD] at*
  obtain⟨vs,h1,h2⟩:=hr
  exact⟨vs,h1,RDs.lowC B.toBelow0 cs _ 0 0 hl (fun i d _ _ p hp=>by simpa using ho i p (by simpa using hp)) h2⟩
 |tup cs=>
  simp only [Mx.lowA] at hl
  simp only [RD] at*
  obtain⟨vs,h1,h2⟩:=hr
  exact⟨vs,h1,RDs.lowC B.toBelow0 cs _ 0 0 hl (fun i d _ _ p hp=>B.ow _ _ rfl hp) h2⟩
 |mb g d=>
  simp only [Mx.lowA] at hl
  simp only [RD] at*
  exact⟨fun hg=>one d v hl (hr.1 hg),hr.2⟩
 |_=>exact one _ v (by simpa only [Mx.lowA] using hl) hr
theorem Hk {m n:Nat} {cs:List D} (hmn:m<=n) (h:cs.all (Mx.lowC m)=true):cs.all (Mx.lowC n)=true:=by
 rw [List.all_eq_true] at*
 intro d hd
 have h1:=h d hd
 cases d with
 |ptr q off=>simp only [Mx.lowC,decide_eq_true_eq] at*;omega
 |clo f xs=>
  simp only [Mx.lowC] at*
  rw [List.all_eq_true] at*
  intro x hx
  have h2:=h1 x hx
  cases x with
  |ptr q off=>simp only [Mx.lowP,decide_eq_true_eq] at*;omega
  |_=>exact h2
 |_=>exact h1
theorem Rel.trunc (R:Rel h G tmps σ) (low:Low σ.S) {n:Nat} (hn:n<=σ.S.length) (he: ∀t,Mx.lowA n (bI σ.env t)=true): ∃G',Rel h G' tmps { σ with S:=σ.S.take n } /\G'.rd=G.rd/\(∀o,o<n->G'.ob o=G.ob o)/\(∀k j,G'.ow (.hand k j)=G.ow (.hand k j))/\
  (∀l p,G'.ow l=some p->G.ow l=some p)/\(∀o b,G'.ob o=some b->G.ob o=some b)/\IM n G G':=by
 let ob:Nat->Option Nat:=fun o=>if o<n then G.ob o else none
 let ow:Loc->Option (Nat×Nat):=fun l=>bif bn n l then G.ow l else none
 have hsub: ∀l q,ow l=some q->G.ow l=some q/\bn n l=true:=by
  intro l q hl
  simp only [ow] at hl
  cases hpl:bn n l with
  |true=>rw [hpl] at hl;exact⟨hl,rfl⟩
  |false=>rw [hpl] at hl;cases hl
 have hk: ∀l,bn n l=true->ow l=G.ow l:=fun l hl=>by simp [ow,hl]
 have hobs: ∀o b,ob o=some b->G.ob o=some b/\o<n:=by
  intro o b hb
  simp only [ob] at hb
  split at hb
  ·rename_i h;exact⟨hb,h⟩
  ·cases hb
 have hobk: ∀o,o<n->ob o=G.ob o:=fun o ho=>by simp [ob,ho]
 have B:IM n G { rd:=G.rd,ob:=ob,ow:=ow } :=⟨⟨cS.refl _,fun o b ho hb=>(by show ob o=some b;rw [hobk o ho];exact hb)⟩,fun l p hl hp=>(by show ow l=some p;rw [hk l hl];exact hp)⟩
 refine⟨{ rd:=G.rd,ob:=ob,ow:=ow },⟨⟨R.inv.rd_ok,fun o b hb=>R.inv.ob_lt o b (hobs o b hb).1,fun o b hb=>R.inv.ob_rd o b (hobs o b hb).1,fun o o' b h1 h2=>R.inv.ob_inj o o' b (hobs o b h1).1 (hobs o' b h2).1,fun l b f hl=>R.inv.ow_lt l b f (hsub l _ hl).1,fun l b f hl=>R.inv.ow_rd l b f (hsub l _ hl).1,fun l b f o hl ho=>R.inv.ow_ob l b f o (hsub l _ hl).1 (hobs o b ho).1,fun l l' b f f' h1 h2=>R.inv.ow_inj l l' b f f' (hsub l _ h1).1 (hsub l' _ h2).1⟩,?_,?_,?_,?_,?_⟩,rfl,hobk,fun k j=>hk (.hand k j) rfl,fun l p hl=>(hsub l p hl).1,fun o b hb=>(hobs o b hb).1,B⟩
 ·intro t
  exact RD.lowA B (he t) (fun j p hp=>B.ow _ p rfl hp) (R.env t)
 ·intro o cs hcs
  have ho:o<n/\σ.S[o]? =some cs:=by
   rw [List.getElem?_take] at hcs
   split at hcs
   ·rename_i h;exact⟨h,hcs⟩
   ·cases hcs
  obtain⟨b,c,e,fr,h1,h2,h3,h4⟩:=R.obj o cs ho.2
  refine⟨b,c,e,fr,by show ob o=some b;rw [hobk o ho.1];exact h1,h2,h3,?_⟩
  have hlow:cs.all (Mx.lowC n)=true:=by
   rw [List.all_eq_true]
   intro d hd
   have h1:=List.all_eq_true.1 (low o cs ho.2) d hd
   cases d with
   |ptr q off=>simp only [Mx.lowC,decide_eq_true_eq] at*;omega
   |clo f xs=>
    simp only [Mx.lowC] at*
    rw [List.all_eq_true] at*
    intro x hx
    have h2:=h1 x hx
    cases x with
    |ptr q off=>simp only [Mx.lowP,decide_eq_true_eq] at*;omega
    |_=>exact h2
   |_=>exact h1
  exact RDs.lowC B.toBelow0 cs _ 0 0 hlow (fun i d _ _ p hp=>B.ow _ p (by simpa [bn] using ho.1) hp) h4
 ·intro o cs hcs
  rw [List.getElem?_take] at hcs
  split at hcs
  ·exact R.obc o cs hcs
  ·cases hcs
 ·intro o ho
  show ob o=none
  simp only [List.length_take] at ho
  simp only [ob]
  rw [if_neg (by omega)]
 ·intro l p hh hl
  obtain⟨h1,h2⟩:=hsub l p hl
  have:=R.own l p hh h1
  cases l with
  |cell o j=>
   have ho:o<n:=by simpa [bn] using h2
   unfold dg at*
   simp only at*
   rw [List.getElem?_take,if_pos ho];exact this
  |_=>exact this
theorem Low.take {S:bH} (L:Low S) (n:Nat):Low (S.take n):=by
 intro o cs hcs
 rw [List.getElem?_take] at hcs
 split at hcs
 ·exact L o cs hcs
 ·cases hcs
end
end Go.Mx
namespace Go.Mx
open Go
section
variable {P:Program} {w:World} {G:Gh} {tmps:Array Value} {σ σ':St} {ds:List Deferred} {C:aj} {ν:cL}
theorem Hl {n:Nat} : ∀(env:Env),env.all (fun e=>lowA n e.2)=true-> ∀t,lowA n (bI env t)=true
 | [],_,t=>rfl
 |(u,d)::r,h,t=>by
  simp only [List.all_cons,Bool.and_eq_true] at h
  simp only [bI]
  cases u==t with
  |true=>exact h.1
  |false=>exact Hl r h.2 t
theorem MM {n:Nat} {w':World} {G':Gh} {σ0 σ2:St} (F:dE w'.heap G' tmps σ') (g:dq w G σ0 w' G' σ') (hn:σ0.S.length=n) (ht:Mx.trunc n σ'=some σ2): ∃G2,dE w'.heap G2 tmps σ2/\dq w G σ0 w' G2 σ2:=by
 unfold Mx.trunc at ht
 cases hl:(σ'.S.length==n) with
 |true=>
  rw [hl,cond_true,Option.some.injEq] at ht
  subst ht
  exact⟨G',F,g⟩
 |false=>
  rw [hl,cond_false] at ht
  cases ha:σ'.env.all (fun e=>lowA n e.2) with
  |false=>rw [ha] at ht;cases ht
  |true=>
   rw [ha,cond_true,Option.some.injEq] at ht
   subst ht
   have hle:n<=σ'.S.length:=by rw [<-hn];exact g.len
   obtain⟨G2,R2,h1,h2,h3,h4,h5,_⟩:=F.rel.trunc F.low hle (Hl _ ha)
   refine⟨G2,⟨R2,fun k j=>by rw [h3];exact F.clean k j,F.low.take n⟩,⟨⟨g.step.os,g.step.tape,g.step.output,g.step.size,g.step.keep,?_,by rw [h1];exact g.step.rd,by rw [h1];exact g.step.rdn⟩,?_,?_⟩⟩
   ·rintro b (⟨o,ho⟩|⟨l,f,hl⟩)
    ·exact g.step.mine b (.inl ⟨o,h5 o b ho⟩)
    ·exact g.step.mine b (.inr ⟨l,f,h4 l _ hl⟩)
   ·simp only [List.length_take];omega
   ·intro o ho
    rw [h2 o (by omega),g.ob o ho]
theorem RT {n : Nat} {body : Code} (okf : ∀ id c, bE id body = some c -> dN P C ν n body c) : ∀ k, Kt P n body (evL (ck P) C ν body k) := by
  intro k
  induction k using Nat.strongRecOn with
  | _ k ih =>
    intro id c hf w G tmps ds σ ex σ' hn F he Q hQ
    -- the rounds that are left
    let I : Nat -> Act -> World -> Prop := fun m a w1 => m <= k /\ ∃ G1 σ1, a.defers = ds /\ a.tmps.size = n /\ dE w1.heap G1 a.tmps σ1 /\ dq w G σ w1 G1 σ1 /\ evL (ck P) C ν body m id σ1 = some (ex, σ')
    refine wp_block (wp_loop_ghost I k ⟨Nat.le_refl _, G, σ, rfl, hn, F, dq.refl _ _ _, he⟩ ?_)
    rintro m ⟨tmps1, ds1⟩ w1 ⟨hmk, G1, σ1, hd1, hn1, F1, g1, he1⟩
    simp only at hd1 hn1 F1
    cases m with
    | zero => simp [evL] at he1
    | succ m =>
      simp only [evL, hf, FA] at he1
      have LO := ih m (by omega)
      cases hc : aH (ck P) C (evL (ck P) C ν body m) ν c σ1 with
      | none => rw [hc] at he1; simp [dl] at he1
      | some p =>
        obtain ⟨e1, σ2⟩ := p
        rw [hc] at he1
        refine DM LO c w1 G1 tmps1 σ1 e1 σ2 (okf id c hf) hn1 F1 hc _ ?_
        intro e a' w' G' h1 h2 h3 F' g'
        have fin : ∀ (e2 : Exit), dq w G σ w' G' σ2 -> (ex, σ') = (.normal, σ2) -> Exit.inBlock id Q .normal a' w' := by
          intro _ gg hx
          cases hx
          exact hQ _ a' w' G' rfl (h2.trans hd1) (by rw [h3, hn1, hn]) F' gg
        cases e1 with
        | normal =>
          cases h1
          simp only at he1
          cases htr : trunc σ1.S.length σ2 with
          | none => rw [htr] at he1; cases he1
          | some σ3 =>
            rw [htr] at he1
            obtain ⟨G2, F2, g2⟩ := MM F' g' rfl htr
            exact ⟨m, by omega, by omega, G2, σ3, h2.trans hd1, h3.trans hn1, F2, g1.trans g2, he1⟩
        | ret =>
          cases h1
          simp only [dl, Option.some.injEq, Prod.mk.injEq] at he1
          obtain ⟨rfl, rfl⟩ := he1
          exact hQ _ a' w' G' rfl (h2.trans hd1) (by rw [h3, hn1, hn]) F' (g1.trans g')
        | exit id' =>
          cases h1
          simp only [dl] at he1
          simp only [Exit.then, Exit.inBlock]
          by_cases hid : id' = id
          . subst hid
            simp only [beq_self_eq_true, cond_true, Option.some.injEq, Prod.mk.injEq] at he1
            obtain ⟨rfl, rfl⟩ := he1
            rw [if_pos rfl]
            exact hQ _ a' w' G' rfl (h2.trans hd1) (by rw [h3, hn1, hn]) F' (g1.trans g')
          . have hb : (id' == id) = false := by simpa using hid
            rw [hb, cond_false] at he1
            simp only [Option.some.injEq, Prod.mk.injEq] at he1
            obtain ⟨rfl, rfl⟩ := he1
            rw [if_neg hid]
            exact hQ _ a' w' G' rfl (h2.trans hd1) (by rw [h3, hn1, hn]) F' (g1.trans g')
end
end Go.Mx
namespace Go.Mx
open Go
section
variable {P:Program} {w:World} {G:Gh} {tmps:Array Value} {σ σ':St} {ds:List Deferred} {C:aj} {ν:cL}
theorem gO: ∀(args:List D) (j t:Nat),bI (enter j args) t=if j<=t then (match args[t-j]? with|some d=>d|none=>.bad) else .bad
 | [],j,t=>by simp [enter,bI]
 |d::r,j,t=>by
  simp only [enter,bI]
  cases hj:(j==t) with
  |true=>
   have:j=t:=by simpa using hj
   subst this
   simp
  |false=>
   have hne: ¬j=t:=by simpa using hj
   simp only [cond_false]
   rw [gO r (j+1) t]
   by_cases hle:j<=t
   ·rw [if_pos hle,if_pos (by omega)]
    rw [show t-j=(t-(j+1))+1 by omega,List.getElem?_cons_succ]
   ·rw [if_neg hle,if_neg (by omega)]
theorem MY {h:Array Obj} {S:bH} {args:List D} {vals:List Value} {n:Nat} (R:Rel h G #[] ⟨[],S⟩) (A:z7 h G args vals) (hn:args.length<=n):
  ∃G',Rel h G' (vals.toArray++Array.replicate (n-vals.toArray.size) undef) ⟨enter 0 args,S⟩/\xd G'/\G'.rd=G.rd/\G'.ob=G.ob/\(∀l p,G'.ow l=some p-> ∃l0,G.ow l0=some p):=by
 let ow:Loc->Option (Nat×Nat):=fun l=>match l with
  | .reg t j=>G.ow (.hand t j)
  | .hand _ _=>none
  |l=>G.ow l
 let r:Loc->Loc:=fun l=>match l with
  | .reg t j=>.hand t j
  |l=>l
 have hr: ∀l p,ow l=some p->G.ow (r l)=some p/\ ∀k j,l≠ .hand k j:=by
  intro l p hl
  cases l with
  |hand k j=>cases hl
  |_=>exact⟨hl,fun _ _ h=>(by cases h)⟩
 have hinj: ∀l l' b f f',ow l=some (b,f)->ow l'=some (b,f')->l=l':=by
  intro l l' b f f' h1 h2
  have e:=R.inv.ow_inj _ _ b f f' (hr _ _ h1).1 (hr _ _ h2).1
  have g1:=(hr _ _ h1).2
  have g2:=(hr _ _ h2).2
  cases l with
  |hand k j=>exact absurd rfl (g1 k j)
  |reg t j=>
   cases l' with
   |hand k j=>exact absurd rfl (g2 k j)
   |reg t' j'=>simp only [r] at e;cases e;rfl
   |_=>simp only [r] at e;cases e
  |_=>
   cases l' with
   |hand k j=>exact absurd rfl (g2 k j)
   |reg t' j'=>simp only [r] at e;cases e
   |_=>exact e
 refine⟨{ G with ow:=ow },⟨R.inv.sub (fun l p hl=>⟨_,(hr l p hl).1⟩) hinj,?_,?_,R.obc,R.obn,?_⟩,fun _ _=>rfl,rfl,rfl,fun l p hl=>⟨_,(hr l p hl).1⟩⟩
 ·intro t
  rw [gO,if_pos (Nat.zero_le _),Nat.sub_zero]
  cases ht:args[t]? with
  |none=>simp only [RD]
  |some d=>
   obtain⟨v,h1,h2,h3⟩:=A.rd t d ht
   have htl:t<vals.length:=(List.getElem?_eq_some_iff.1 h1).1
   have hv:(vals.toArray++Array.replicate (n-vals.toArray.size) undef).getD t undef=v:=by
    rw [Array.getD_eq_getD_getElem?,Array.getElem?_append_left (by simpa using htl),List.getElem?_toArray,h1];rfl
   rw [hv]
   exact RD.valMove (G:=G) (G':={ G with ow:=ow }) (h:=h) ⟨cS.refl _,fun _ _ h=>h⟩ h3 (fun j _ b f hb=>⟨hb,rfl⟩) h2
 ·intro o cs hcs
  obtain⟨b,c,e,fr,h1,h2,h3,h4⟩:=R.obj o cs hcs
  exact⟨b,c,e,fr,h1,h2,h3,RDs.cellMove (G:=G) (G':={ G with ow:=ow }) (h:=h) ⟨cS.refl _,fun _ _ h=>h⟩ 0 0 cs _ (R.obc o cs hcs) (fun i d' _ _ b f hb=>⟨hb,rfl⟩) h4⟩
 ·intro l p hh hl
  have h1:=(hr l p hl).1
  cases l with
  |hand k j=>exact absurd rfl (hh k j)
  |reg t j=>
   obtain⟨d,hd,ho⟩:=A.own t j p h1
   rw [dc]
   simp only
   rw [gO,if_pos (Nat.zero_le _),Nat.sub_zero,hd];exact ho
  |cell o j=>exact R.own _ p (fun _ _ h=>by cases h) h1
  |nowhere=>exact R.own _ p (fun _ _ h=>by cases h) h1
def fB (σ:St):ResultVar->Nat->Loc
 | .tmp t=>match bI σ.env t with
  | .al true _ _ (.reg p 0)=>Loc.reg p
  |_=>Loc.reg t
 | .cell a _=>match bI σ.env a with
  | .ptr o _=>Loc.cell o
  |_=>fun _=>.nowhere
theorem LD {n:Nat} {r:ResultVar} {d:D} (F:dE w.heap G tmps σ) (hr:bx (ck P) n σ r=some d):
  ∃v,(match r with| .tmp t=>(pure (tmps.getD t undef):Go.Sem Value)| .cell a t=>do loadVar t (<-asAddr (tmps.getD a undef))).run P w= .ok v w/\RD w.heap G (fB σ r) d v/\(∀j p,G.ow (fB σ r j)=some p->cW d j=true)/\
   ((∃t,fB σ r=Loc.reg t)∨ ∃o,n<=o/\fB σ r=Loc.cell o):=by
 cases r with
 |tmp t=>
  simp only [bx] at hr
  split at hr
  ·rename_i sz l p hl
   cases hi:bG (bI σ.env p) with
   |false=>rw [hi] at hr;cases hr
   |true=>
    rw [hi,cond_true,Option.some.injEq] at hr
    subst hr
    have hra:=F.rel.env t
    rw [hl] at hra
    simp only [RD] at hra
    have hloc:fB σ (.tmp t)=Loc.reg p:=by simp only [fB,hl]
    rw [hloc]
    refine⟨_,rfl,by simp only [RD];exact hra.1 trivial,?_,.inl ⟨p,rfl⟩⟩
    intro j q hq
    have:=F.rel.own _ q (fun _ _ h=>by cases h) hq
    rw [dc] at this
    revert this hi
    cases bI σ.env p<;>intro hi this<;>simp_all [bG,cW]
  ·rename_i hne
   have hloc:fB σ (.tmp t)=Loc.reg t:=by
    simp only [fB]
   rw [hloc]
   refine⟨_,rfl,(fR hr (F.rel.env t)).1,?_,.inl ⟨t,rfl⟩⟩
   intro j p hp
   have:=F.rel.own _ p (fun _ _ h=>by cases h) hp
   rw [dc] at this
   rcases yX hr with⟨he,_⟩|⟨_,g,hg⟩
   ·rw [<-he];exact this
   ·rw [hg] at this;cases this
 |cell a t=>
  simp only [bx] at hr
  split at hr<;>try (cases hr;done)
  rename_i o hl
  split at hr<;>try (cases hr;done)
  rename_i cs hcs
  cases hc:(decide (n<=o)&&cs.length==(ck P t).size&& !(ck P t).flat.isEmpty) with
  |false=>rw [hc] at hr;cases hr
  |true=>
   rw [hc,cond_true] at hr
   simp only [Bool.and_eq_true,decide_eq_true_eq,beq_iff_eq,Bool.not_eq_true'] at hc
   obtain⟨⟨hno,hlen⟩,hfl⟩:=hc
   have hra:=F.rel.env a
   rw [hl] at hra
   simp only [RD] at hra
   obtain⟨b,hb,hva⟩:=hra
   obtain⟨b0,c,e,fr,g1,g2,g3,g4⟩:=F.rel.obj o cs hcs
   have hbb:b0=b:=by rw [hb] at g1;cases g1;rfl
   subst hbb
   have hcl:=RDs.length _ _ _ _ g4
   have hloc:fB σ (.cell a t)=Loc.cell o:=by simp only [fB,hl]
   rw [hloc]
   have haddr: ∀ {α:Type} (k:Addr->Go.Sem α),(do k (<-asAddr (tmps.getD a undef)):Go.Sem α).run P w=(k ⟨b0,0,none⟩).run P w:=by
    intro α k
    rw [hva]
    simp [asAddr]
   cases hag:(ck P t).agg with
   |true=>
    rw [hag,cond_true,Option.some.injEq] at hr
    subst hr
    obtain⟨i,dd,hi,hu,hrow,hisz,_⟩:=fM hag
    have hrun:=run_loadVar_mid (P:=P) w b0 0 t c.toList dd (fun j v hv=>by
     rw [dZ rfl g2,Nat.zero_add];simpa using hv) hu hrow (by rw [hi];simp only [Option.map_some,hisz,hcl,hlen])
    refine⟨.agg c,?_,by simp only [RD];exact⟨c,rfl,g4⟩,?_,.inr ⟨o,hno,rfl⟩⟩
    ·simp only
     rw [haddr (loadVar t),hrun]
    ·intro j p hp
     have:=F.rel.own _ p (fun _ _ h=>by cases h) hp
     simp only [dg,hcs] at this
     simp only [cW]
     cases hj:cs[j]? with
     |none=>rw [hj] at this;cases this
     |some d'=>rw [hj] at this;exact this
   |false=>
    rw [hag,cond_false] at hr
    split at hr<;>try (cases hr;done)
    rename_i d0 k hflat
    cases hr
    obtain⟨i,u,k1,k2,k3⟩:=gr hag hflat
    obtain⟨v,hv,hrd⟩:=RDs.get _ 0 [d] c.toList 0 d g4 rfl
    rw [Nat.zero_add] at hrd
    have hv':c[0]? =some v:=by simpa using hv
    refine⟨v,?_,?_,?_,.inr ⟨o,hno,rfl⟩⟩
    ·simp only
     rw [haddr (loadVar t)]
     simp [loadVar,eu w k2 k3,Sem.run_bind,load,Go.Sem.run,dZ rfl g2,hv']
    ·have hck:aM d=true:=by simpa using F.rel.obc o [d] hcs
     cases d with
     |own sz l=>simpa only [RD] using hrd
     |clo f xs=>simpa only [RD] using hrd
     |_=>first|(exact RD.stay ⟨cS.refl _,fun _ _ h=>h⟩ rfl hrd)|(simp [aM,bJ] at hck)
    ·intro j p hp
     have:=F.rel.own _ p (fun _ _ h=>by cases h) hp
     simp only [dg,hcs] at this
     cases j with
     |zero=>
      have h0:bG d=true:=by simpa using this
      cases d<;>first|rfl|(cases h0)
     |succ j=>simp at this
end
end Go.Mx
namespace Go.Mx
open Go
section
variable {P:Program} {w:World} {h:Array Obj} {G:Gh} {tmps:Array Value} {σ σ':St} {ds:List Deferred} {C:aj} {ν:cL}
theorem ME {n:Nat} {d:D} (ho:bS n d=true):bD d=true∨aA d=true:=by
 cases d with
 |al _ _ _ _=>exact .inr rfl
 |ep _ _ _ _=>exact .inr rfl
 |agg cs=>
  left
  simp only [bS,bD] at*
  rw [List.all_eq_true] at*
  intro d hd
  have:=ho d hd
  simp only [Bool.and_eq_true] at this
  exact this.1
 |_=>left;simp only [bS,Bool.and_eq_true] at ho;exact ho.1
theorem Lu {n:Nat} (R:Rel h G tmps σ) (low:Low σ.S) (hn:n<=σ.S.length) {src:Nat->Loc} {d:D} {v:Value} (hr:RD h G src d v) (hown: ∀j p,G.ow (src j)=some p->cW d j=true) (hsrc:(∃t,src=Loc.reg t)∨ ∃o,n<=o/\src=Loc.cell o) (ho:bS n d=true):
  ∃G',Rel h G' #[] ⟨[],σ.S.take n⟩/\Res h G' n d v/\G'.rd=G.rd/\(∀o,o<n->G'.ob o=G.ob o)/\(∀b,mine G' b->mine G b):=by
 have hinjs: ∀j j',src j=src j'->j=j':=by
  intro j j' e
  rcases hsrc with⟨t,rfl⟩|⟨o,_,rfl⟩<;>cases e<;>rfl
 have hnot: ∀j o i,src j= .cell o i->n<=o:=by
  intro j o i e
  rcases hsrc with⟨t,rfl⟩|⟨o',h1,rfl⟩
  ·cases e
  ·cases e;exact h1
 have hnoth: ∀j k i,src j≠ .hand k i:=by
  intro j k i e
  rcases hsrc with⟨t,rfl⟩|⟨o',h1,rfl⟩<;>cases e
 let ob:Nat->Option Nat:=fun o=>if o<n then G.ob o else none
 let ow:Loc->Option (Nat×Nat):=fun l=>match l with
  | .hand k j=>if k=0 then G.ow (src j) else none
  | .cell o j=>if o<n then G.ow (.cell o j) else none
  |_=>none
 have q1: ∀j,ow (.hand 0 j)=G.ow (src j):=fun j=>by simp [ow]
 have q2: ∀k j,k≠0->ow (.hand k j)=none:=fun k j hk=>by simp [ow,hk]
 have q3: ∀o j,o<n->ow (.cell o j)=G.ow (.cell o j):=fun o j hl=>by simp [ow,hl]
 have hs: ∀l p,ow l=some p->(∃j,l= .hand 0 j/\G.ow (src j)=some p)∨(∃o j,l= .cell o j/\o<n/\G.ow l=some p):=by
  intro l p hl
  cases l with
  |hand k j=>
   by_cases hk:k=0
   ·subst hk;rw [q1] at hl;exact .inl ⟨j,rfl,hl⟩
   ·rw [q2 k j hk] at hl;cases hl
  |cell o j=>
   by_cases hl':o<n
   ·rw [q3 o j hl'] at hl;exact .inr ⟨o,j,rfl,hl',hl⟩
   ·simp only [ow] at hl;rw [if_neg hl'] at hl;cases hl
  |_=>cases hl
 have hobs: ∀o b,ob o=some b->G.ob o=some b/\o<n:=by
  intro o b hb
  simp only [ob] at hb
  split at hb
  ·rename_i h;exact⟨hb,h⟩
  ·cases hb
 have hobk: ∀o,o<n->ob o=G.ob o:=fun o ho=>by simp [ob,ho]
 have src_of: ∀l p,ow l=some p-> ∃l0,G.ow l0=some p:=by
  intro l p hl
  rcases hs l p hl with⟨j,_,h1⟩|⟨o,j,_,_,h1⟩
  ·exact⟨_,h1⟩
  ·exact⟨_,h1⟩
 have I:Inv h { rd:=G.rd,ob:=ob,ow:=ow } :={
  rd_ok:=R.inv.rd_ok
  ob_lt:=fun o b hb=>R.inv.ob_lt o b (hobs o b hb).1
  ob_rd:=fun o b hb=>R.inv.ob_rd o b (hobs o b hb).1
  ob_inj:=fun o o' b h1 h2=>R.inv.ob_inj o o' b (hobs o b h1).1 (hobs o' b h2).1
  ow_lt:=fun l b f hl=>let ⟨l0,h0⟩:=src_of l _ hl;R.inv.ow_lt l0 b f h0
  ow_rd:=fun l b f hl=>let ⟨l0,h0⟩:=src_of l _ hl;R.inv.ow_rd l0 b f h0
  ow_ob:=fun l b f o hl ho=>let ⟨l0,h0⟩:=src_of l _ hl;R.inv.ow_ob l0 b f o h0 (hobs o b ho).1
  ow_inj:=fun l l' b f f' h1 h2=>by
   rcases hs l _ h1 with⟨j,rfl,g1⟩|⟨o,j,rfl,g0,g1⟩<;>rcases hs l' _ h2 with⟨j',rfl,k1⟩|⟨o',j',rfl,k0,k1⟩
   ·rw [hinjs j j' (R.inv.ow_inj _ _ b f f' g1 k1)]
   ·have:=hnot j o' j' (R.inv.ow_inj _ _ b f f' g1 k1);omega
   ·have:=hnot j' o j (R.inv.ow_inj _ _ b f f' g1 k1).symm;omega
   ·exact R.inv.ow_inj _ _ b f f' g1 k1 }
 have B:Below0 n G { rd:=G.rd,ob:=ob,ow:=ow } :=⟨cS.refl _,fun o b ho hb=>(by show ob o=some b;rw [hobk o ho];exact hb)⟩
 refine⟨{ rd:=G.rd,ob:=ob,ow:=ow },?_,⟨?_,ME ho,?_⟩,rfl,hobk,?_⟩
 ·refine Rel.bare I ?_ ?_ ?_ ?_
  ·intro o cs hcs
   have hoo:o<n/\σ.S[o]? =some cs:=by
    rw [List.getElem?_take] at hcs
    split at hcs
    ·rename_i h;exact⟨h,hcs⟩
    ·cases hcs
   obtain⟨b,c,e,fr,h1,h2,h3,h4⟩:=R.obj o cs hoo.2
   refine⟨b,c,e,fr,by show ob o=some b;rw [hobk o hoo.1];exact h1,h2,h3,?_⟩
   exact RDs.lowC B cs _ 0 0 (Hk (Nat.le_of_lt hoo.1) (low o cs hoo.2)) (fun i d _ _ p hp=>(q3 o _ hoo.1).trans hp) h4
  ·intro o cs hcs
   rw [List.getElem?_take] at hcs
   split at hcs
   ·exact R.obc o cs hcs
   ·cases hcs
  ·intro o hoo
   show ob o=none
   simp only [List.length_take] at hoo
   simp only [ob]
   rw [if_neg (by omega)]
  ·intro l p hh hl
   rcases hs l p hl with⟨j,rfl,_⟩|⟨o,j,rfl,h0,h1⟩
   ·exact absurd rfl (hh _ _)
   ·have:=R.own _ p hh h1
    unfold dg at*
    simp only at*
    rw [List.getElem?_take,if_pos h0];exact this
 ·have one: ∀d:D,Mx.lowC n d=true->RD h G src d v->RD h { rd:=G.rd,ob:=ob,ow:=ow } (Loc.hand 0) d v:=by
   intro d hd hr
   cases d with
   |own sz l=>
    have hr':RD h G (fun _=>src 0) (.own sz l) v:=by simpa only [RD] using hr
    have:=RD.lowC (l:=src 0) (l':=.hand 0 0) B (d:=.own sz l) rfl (fun _ p hp=>(q1 0).trans hp) hr'
    simpa only [RD] using this
   |clo f cs=>
    have hr':RD h G (fun _=>src 0) (.clo f cs) v:=by simpa only [RD] using hr
    have:=RD.lowC (l:=src 0) (l':=.hand 0 0) B (d:=.clo f cs) hd (fun h=>by cases h) hr'
    simpa only [RD] using this
   |ptr o off=>exact RD.lowP B (by simpa [Mx.lowC,Mx.lowP] using hd) hr
   |v x=>exact RD.lowP B rfl hr
   |cut sz l=>exact RD.lowP B rfl hr
   |rp c=>exact RD.lowP B rfl hr
   |undef=>exact RD.lowP B rfl hr
   |bad=>exact RD.lowP B rfl hr
   |nilp=>exact RD.lowP B rfl hr
   |_=>simp [Mx.lowC,aM,bJ] at hd
  cases d with
  |al f sz l s=>
   cases s with
   |cell so sf=>
    simp only [bS,decide_eq_true_eq] at ho
    simp only [RD] at*
    rw [show ow (.cell so sf)=G.ow (.cell so sf) from q3 so sf ho];exact hr
   |_=>simp [bS] at ho
  |ep s sz i off=>
   cases s with
   |cell so sf=>
    simp only [bS,decide_eq_true_eq] at ho
    simp only [RD] at*
    rw [show ow (.cell so sf)=G.ow (.cell so sf) from q3 so sf ho];exact hr
   |_=>simp [bS] at ho
  |agg cs=>
   simp only [bS] at ho
   have hl:cs.all (Mx.lowC n)=true:=by
    rw [List.all_eq_true] at*
    intro d hd
    have:=ho d hd
    simp only [Bool.and_eq_true] at this
    exact this.2
   simp only [RD] at*
   obtain⟨vs,h1,h2⟩:=hr
   exact⟨vs,h1,RDs.lowC B cs _ 0 0 hl (fun i d _ _ p hp=>(q1 (0+i)).trans hp) h2⟩
  |_=>simp only [bS,Bool.and_eq_true] at ho;exact one _ ho.2 hr
 ·intro k j p hp
  rcases hs (.hand k j) p hp with⟨j',e,h1⟩|⟨o,j',e,_⟩
  ·cases e;exact⟨rfl,hown j p h1⟩
  ·cases e
 ·rintro b (⟨o,hb⟩|⟨l,f,hl⟩)
  ·exact .inl ⟨o,(hobs o b hb).1⟩
  ·obtain⟨l0,h0⟩:=src_of l _ hl;exact .inr ⟨l0,f,h0⟩
end
end Go.Mx
namespace Go.Mx
open Go
section
variable {P:Program} {w:World} {h:Array Obj} {G:Gh} {tmps:Array Value} {σ σ':St} {ds:List Deferred} {C:aj} {ν:cL}
def dO (n:Nat):Loc->Bool
 | .cell o _=>decide (o<n)
 |_=>false
open Classical in
def fL (h:Array Obj) (G:Gh) (n:Nat):Rd:=fun b=>if (∃l f,dO n l=false/\G.ow l=some (b,f)) then (match h[b]? with|some (.cells c _ _)=>some c|_=>none) else G.rd b
theorem IE {n:Nat} (R:Rel h G tmps σ) (low:Low σ.S) (hn:n<=σ.S.length):
  ∃G',Rel h G' #[] ⟨[],σ.S.take n⟩/\xd G'/\Below0 n G G'/\(∀l b f c e fr,dO n l=false->G.ow l=some (b,f)->h[b]? =some (.cells c e fr)->G'.rd b=some c)/\(∀o,o<n->G'.ob o=G.ob o)/\(∀b,mine G' b->mine G b)/\(∀b,G'.rd b≠none->G.rd b≠none∨mine G b):=by
 let ob:Nat->Option Nat:=fun o=>if o<n then G.ob o else none
 let ow:Loc->Option (Nat×Nat):=fun l=>bif dO n l then G.ow l else none
 have hs: ∀l p,ow l=some p->G.ow l=some p/\dO n l=true:=by
  intro l p hl
  simp only [ow] at hl
  cases ho:dO n l with
  |true=>rw [ho] at hl;exact⟨hl,rfl⟩
  |false=>rw [ho] at hl;cases hl
 have hk: ∀l,dO n l=true->ow l=G.ow l:=fun l hl=>by simp [ow,hl]
 have hobs: ∀o b,ob o=some b->G.ob o=some b/\o<n:=by
  intro o b hb
  simp only [ob] at hb
  split at hb
  ·rename_i h;exact⟨hb,h⟩
  ·cases hb
 have hobk: ∀o,o<n->ob o=G.ob o:=fun o ho=>by simp [ob,ho]
 have r1: ∀b,(¬∃l f,dO n l=false/\G.ow l=some (b,f))->fL h G n b=G.rd b:=fun b hb=>by unfold fL;rw [if_neg hb]
 have r2: ∀l b f c e fr,dO n l=false->G.ow l=some (b,f)->h[b]? =some (.cells c e fr)->fL h G n b=some c:=fun l b f c e fr h0 h1 h2=>by unfold fL;rw [if_pos ⟨l,f,h0,h1⟩,h2]
 have hle:cS G.rd (fL h G n):=by
  intro b c hc
  rw [r1]
  ·exact hc
  ·rintro⟨l,f,_,hl⟩
   rw [R.inv.ow_rd l b f hl] at hc;cases hc
 have I:Inv h { rd:=fL h G n,ob:=ob,ow:=ow } :={
  rd_ok:=fun b c hc=>by
   by_cases hb: ∃l f,dO n l=false/\G.ow l=some (b,f)
   ·have hc':fL h G n b=some c:=hc
    unfold fL at hc'
    rw [if_pos hb] at hc'
    split at hc'
    ·rename_i c' e fr hcell;cases hc';exact⟨e,fr,hcell⟩
    ·cases hc'
   ·exact R.inv.rd_ok b c (by rw [<-r1 b hb];exact hc)
  ob_lt:=fun o b hb=>R.inv.ob_lt o b (hobs o b hb).1
  ob_rd:=fun o b hb=>by
   show fL h G n b=none
   rw [r1]
   ·exact R.inv.ob_rd o b (hobs o b hb).1
   ·rintro⟨l,f,_,hl⟩
    exact R.inv.ow_ob l b f o hl (hobs o b hb).1
  ob_inj:=fun o o' b h1 h2=>R.inv.ob_inj o o' b (hobs o b h1).1 (hobs o' b h2).1
  ow_lt:=fun l b f hl=>R.inv.ow_lt l b f (hs l _ hl).1
  ow_rd:=fun l b f hl=>by
   show fL h G n b=none
   obtain⟨h1,h2⟩:=hs l _ hl
   rw [r1]
   ·exact R.inv.ow_rd l b f h1
   ·rintro⟨l',f',h0,hl'⟩
    have:=R.inv.ow_inj l l' b f f' h1 hl'
    rw [this,h0] at h2;cases h2
  ow_ob:=fun l b f o hl ho=>R.inv.ow_ob l b f o (hs l _ hl).1 (hobs o b ho).1
  ow_inj:=fun l l' b f f' h1 h2=>R.inv.ow_inj l l' b f f' (hs l _ h1).1 (hs l' _ h2).1 }
 have B:Below0 n G { rd:=fL h G n,ob:=ob,ow:=ow } :=⟨hle,fun o b ho hb=>(by show ob o=some b;rw [hobk o ho];exact hb)⟩
 refine⟨{ rd:=fL h G n,ob:=ob,ow:=ow },?_,fun k j=>rfl,B,r2,hobk,?_,?_⟩
 ·refine Rel.bare I ?_ ?_ ?_ ?_
  ·intro o cs hcs
   have hoo:o<n/\σ.S[o]? =some cs:=by
    rw [List.getElem?_take] at hcs
    split at hcs
    ·rename_i h;exact⟨h,hcs⟩
    ·cases hcs
   obtain⟨b,c,e,fr,h1,h2,h3,h4⟩:=R.obj o cs hoo.2
   refine⟨b,c,e,fr,by show ob o=some b;rw [hobk o hoo.1];exact h1,h2,h3,?_⟩
   exact RDs.lowC B cs _ 0 0 (Hk (Nat.le_of_lt hoo.1) (low o cs hoo.2)) (fun i d _ _ p hp=>(hk (.cell o (0+i)) (by simpa [dO] using hoo.1)).trans hp) h4
  ·intro o cs hcs
   rw [List.getElem?_take] at hcs
   split at hcs
   ·exact R.obc o cs hcs
   ·cases hcs
  ·intro o hoo
   show ob o=none
   simp only [List.length_take] at hoo
   simp only [ob]
   rw [if_neg (by omega)]
  ·intro l p hh hl
   obtain⟨h1,h2⟩:=hs l p hl
   have:=R.own l p hh h1
   cases l with
   |cell o j=>
    have h0:o<n:=by simpa [dO] using h2
    unfold dg at*
    simp only at*
    rw [List.getElem?_take,if_pos h0];exact this
   |_=>cases h2
 ·rintro b (⟨o,hb⟩|⟨l,f,hl⟩)
  ·exact .inl ⟨o,(hobs o b hb).1⟩
  ·exact .inr ⟨l,f,(hs l _ hl).1⟩
 ·intro b hb
  have hb':fL h G n b≠none:=hb
  by_cases hx: ∃l f,dO n l=false/\G.ow l=some (b,f)
  ·obtain⟨l,f,_,hl⟩:=hx;exact .inr (.inr ⟨l,f,hl⟩)
  ·rw [r1 b hx] at hb';exact .inl hb'
theorem RD.out {n:Nat} {G':Gh} {src:Nat->Loc} {d:D} {v:Value} (B:Below0 n G G') (hfz: ∀l b f c e fr,dO n l=false->G.ow l=some (b,f)->h[b]? =some (.cells c e fr)->G'.rd b=some c) (hsrc:(∃t,src=Loc.reg t)∨ ∃o,n<=o/\src=Loc.cell o)
  (ho:bq n (frz d)=true) (hr:RD h G src d v): ∀loc,RD h G' loc (frz d) v:=by
 have hold: ∀j,dO n (src j)=false:=by
  intro j
  rcases hsrc with⟨t,rfl⟩|⟨o,h1,rfl⟩
  ·rfl
  ·simp [dO];omega
 have cell: ∀(j:Nat) (d:D) (v:Value) (loc:Loc),Mx.lowC n (cq d)=true->RD h G (fun _=>src j) d v->RD h G' (fun _=>loc) (cq d) v:=by
  intro j d v loc hl hd
  cases d with
  |own sz l=>
   have:=RD.toV (G:=G) (loc:=fun _=>src j) (d:=.own sz l) (x:=.sl sz l) B.rd (fun b f _ hb c e fr hcell=>hfz _ b f c e fr (hold j) hb hcell) hd rfl
   simpa only [cq,RD] using this
  |_=>exact RD.lowC (l:=src j) (l':=loc) B hl (fun h=>by cases h) hd
 have cells: ∀(ds:List D) (vs:List Value) (j j':Nat) (loc:Nat->Loc),(ds.map cq).all (Mx.lowC n)=true->RDs h G src j ds vs->RDs h G' loc j' (ds.map cq) vs:=by
  intro ds
  induction ds with
  |nil=>intro vs j j' loc _ hd;cases vs with
   |nil=>simp only [List.map_nil,RDs]
   |cons _ _=>simp only [RDs] at hd
  |cons d r ih=>intro vs j j' loc hok hd;cases vs with
   |nil=>simp only [RDs] at hd
   |cons v vs=>
    simp only [List.map_cons,List.all_cons,Bool.and_eq_true] at hok
    simp only [List.map_cons,RDs] at*
    exact⟨cell j d v _ hok.1 hd.1,ih vs _ _ loc hok.2 hd.2⟩
 intro loc
 cases d with
 |agg cs=>
  simp only [frz,bq] at ho
  simp only [RD,frz] at*
  obtain⟨vs,g1,g2⟩:=hr
  refine⟨vs,g1,cells cs _ 0 0 loc ?_ g2⟩
  rw [List.all_eq_true] at*
  intro d hd
  have:=ho d hd
  simp only [Bool.and_eq_true] at this
  exact this.2
 |own sz l=>
  have:=cell 0 (.own sz l) v (loc 0) rfl (by simpa only [RD] using hr)
  simpa only [frz,cq,RD] using this
 |clo f cs=>
  simp only [frz,cq,bq,Bool.and_eq_true] at ho
  have:=cell 0 (.clo f cs) v (loc 0) ho.2 (by simpa only [RD] using hr)
  simpa only [frz,cq,RD] using this
 |v x=>exact RD.lowP B rfl hr
 |ptr q off=>
  simp only [frz,cq,bq,Bool.and_eq_true] at ho
  have:RD h G' loc (.ptr q off) v:=RD.lowP (d:=.ptr q off) B (by simpa [Mx.lowC,Mx.lowP] using ho.2) hr
  exact this
 |cut sz l=>exact RD.lowP B rfl hr
 |rp c=>exact RD.lowP B rfl hr
 |undef=>exact RD.lowP B rfl hr
 |bad=>exact RD.lowP B rfl hr
 |nilp=>exact RD.lowP B rfl hr
 |_=>simp [frz,cq,bq,aM,bJ] at ho
end
end Go.Mx
namespace Go.Mx
open Go
section
variable {P:Program} {w:World} {G:Gh} {tmps:Array Value} {σ σ':St} {C:aj} {ν:cL}
def y6 (tmps:Array Value):ResultVar->Go.Sem Value
 | .tmp t=>pure (tmps.getD t undef)
 | .cell a t=>do loadVar t (<-asAddr (tmps.getD a undef))
def An:List Value->Value
 | [v]=>v
 |vl=>.tuple vl.toArray
theorem DQ {n:Nat} (F:dE w.heap G tmps σ): ∀(rs:List ResultVar) (dsl:List D),bu (ck P) n σ rs=some dsl->
  ∃vl:List Value,(rs.mapM (y6 tmps)).run P w= .ok vl w/\vl.length=dsl.length/\ ∀(i:Nat) (d:D),dsl[i]? =some d-> ∃v src,vl[i]? =some v/\RD w.heap G src d v/\(∀j p,G.ow (src j)=some p->cW d j=true)/\((∃t,src=Loc.reg t)∨ ∃o,n<=o/\src=Loc.cell o)
 | [],dsl,hr=>by
  simp only [bu,Option.some.injEq] at hr
  subst hr
  exact⟨[],by simp,rfl,fun i d hd=>by simp at hd⟩
 |r::rs,dsl,hr=>by
  simp only [bu] at hr
  cases h1:bx (ck P) n σ r with
  |none=>rw [h1] at hr;cases hr
  |some d=>
   rw [h1] at hr
   simp only at hr
   cases h2:bu (ck P) n σ rs with
   |none=>rw [h2] at hr;cases hr
   |some dr=>
    rw [h2] at hr
    simp only [Option.some.injEq] at hr
    subst hr
    obtain⟨v,e1,e2,e3,e4⟩:=LD F h1
    obtain⟨vl,f1,f2,f3⟩:=DQ F rs dr h2
    have e1':(y6 tmps r).run P w= .ok v w:=by
     cases r<;>exact e1
    refine⟨v::vl,?_,by simp [f2],fun i d' hd=>?_⟩
    ·rw [List.mapM_cons]
     simp [e1',f1]
    ·cases i with
     |zero=>simp at hd;subst hd;exact⟨v,_,rfl,e2,e3,e4⟩
     |succ i=>simpa using f3 i d' (by simpa using hd)
theorem HK {fn:Func} {vl:List Value} (h:(fn.results.toList.mapM (y6 tmps)).run P w= .ok vl w):(results fn tmps).run P w= .ok (An vl) w:=by
 have hg:(fun (x:ResultVar)=>match x with| .tmp t=>(pure (tmps.getD t undef):Go.Sem Value)| .cell a t=>do loadVar t (<-asAddr (tmps.getD a undef)))=y6 tmps:=by
  funext x;cases x<;>rfl
 have h2:(fn.results.mapM (y6 tmps)).run P w= .ok vl.toArray w:=by
  rw [Array.mapM_eq_mapM_toList]
  simp [h]
 have e:results fn tmps=(do
   let vs <-fn.results.mapM (y6 tmps)
   pure (if h:vs.size=1 then vs[0] else .tuple vs)):=by
  unfold results
  refine congrArg (fun m:Go.Sem (Array Value)=>m>>=fun vs=>(pure (if h:vs.size=1 then vs[0] else .tuple vs):Go.Sem Value)) (congrArg (fun g=>fn.results.mapM g) (funext fun x=>?_))
  cases x<;>rfl
 rw [e,Sem.run_bind,h2,Result.andThen_ok]
 match vl with
 | []=>rfl
 | [v]=>rfl
 |_::_::_=>rfl
theorem Kv {f : FuncId} {fn : Func} {body : Code} {args : List D} {S S' : bH} {d : D} (hf : P.funcs[f]? = some fn) (hb : fn.body = some body) (hname : (fn.name == "runtime.NumGoroutine") = false)
    (hargs : args.length <= fn.ntmps)
    (run : ∀ (w : World) (G0 : Gh) (tmps : Array Value), tmps.size = fn.ntmps -> dE w.heap G0 tmps ⟨enter 0 args, S⟩ -> ∀ Q : Exit -> Act -> World -> Prop, (∀ ex e σ a' w' G', R7 ex e -> (ex = .normal ∨ ex = .ret) -> aC (ck P) S.length fn.results.toList σ = some (d, S') -> a'.defers = [] -> a'.tmps.size = tmps.size -> dE w'.heap G' a'.tmps σ -> dq w G0 ⟨enter 0 args, S⟩ w' G' σ -> Q e a' w') -> body.wp P Q ⟨tmps, []⟩ w) : Mx.Sem P f args S d S' := by
  intro w G vals R L A
  unfold eD
  have hcf : (callFunc f vals.toArray).run P w = .ok (.enter f vals.toArray) w := by
    have h1 : fn.name ≠ "runtime.NumGoroutine" := by simpa using hname
    simp [callFunc, hf, h1, hb]
  rw [hcf]
  simp only
  obtain ⟨G0, R0, cl0, rd0, ob0, sub0⟩ := MY R A hargs
  have F0 : dE w.heap G0 (vals.toArray ++ Array.replicate (fn.ntmps - vals.toArray.size) undef) ⟨enter 0 args, S⟩ := ⟨R0, cl0, L⟩
  have hm0 : ∀ b, mine G0 b -> mine G b := by
    rintro b (⟨o, ho⟩ | ⟨l, f, hl⟩)
    . exact .inl ⟨o, by rw [<- ob0]; exact ho⟩
    . obtain ⟨l0, h0⟩ := sub0 l _ hl; exact .inr ⟨l0, f, h0⟩
  refine calls_of_wp hf hb ?_
  have hsz : (vals.toArray ++ Array.replicate (fn.ntmps - vals.toArray.size) undef).size = fn.ntmps := by
    have := A.len
    simp; omega
  refine run w G0 _ hsz F0 _ ?_
  intro ex e σ a' w' G' h1 hex he h2 h3 F' g'
  have key : aC (ck P) S.length fn.results.toList σ = some (d, S') ->
      a'.defers = [] /\ ∃ v, (results fn a'.tmps).run P w' = .ok v w' /\ ∃ v', Ending.returned v = Ending.returned v' /\ ∃ G', Rel w'.heap G' #[] ⟨[], S'⟩ /\ Low S' /\ dq w G ⟨[], S⟩ w' G' ⟨[], S'⟩ /\ S'.length = S.length /\ Res w'.heap G' S.length d v' := by
    intro he
    unfold aC at he
    refine ⟨h2, ?_⟩
    cases hr : bu (ck P) S.length σ fn.results.toList with
    | none => rw [hr] at he; cases he
    | some dsl =>
      rw [hr] at he
      simp only at he
      cases hod : cA S.length dsl with
      | none => rw [hod] at he; cases he
      | some d0 =>
        rw [hod] at he
        simp only [Option.some.injEq, Prod.mk.injEq] at he
        obtain ⟨rfl, rfl⟩ := he
        obtain ⟨vl, f1, f2, f3⟩ := DQ F' fn.results.toList dsl hr
        refine ⟨_, HK f1, _, rfl, ?_⟩
        have hlen : S.length <= σ.S.length := g'.len
        have hl' : (σ.S.take S.length).length = S.length := by simp; omega
        -- the way from the caller's world to the state behind
        have way : ∀ Gf : Gh, Below0 S.length G' Gf -> (∀ o, o < S.length -> Gf.ob o = G'.ob o) -> (∀ b, mine Gf b -> mine G' b) -> (∀ b, Gf.rd b ≠ none -> G'.rd b ≠ none ∨ mine G' b) -> dq w G ⟨[], S⟩ w' Gf ⟨[], σ.S.take S.length⟩ := by
          intro Gf B hob hmi hrdn
          have st := g'.step
          refine ⟨⟨st.os, st.tape, st.output, st.size, fun b hb hm => st.keep b hb (fun hx => hm (hm0 b hx)), fun b hm => (st.mine b (hmi b hm)).imp (hm0 b) id, ?_, ?_⟩, by rw [hl']; exact Nat.le_refl _, ?_⟩
          . intro b c hc
            exact B.rd b c (st.rd b c (by rw [rd0]; exact hc))
          . intro b hb
            rcases hrdn b hb with h1 | h1
            . rcases st.rdn b h1 with h2 | h2 | h2
              . left; rw [<- rd0]; exact h2
              . exact .inr (.inl (hm0 b h2))
              . exact .inr (.inr h2)
            . rcases st.mine b h1 with h2 | h2
              . exact .inr (.inl (hm0 b h2))
              . exact .inr (.inr h2)
          . intro o ho
            have ho' : o < S.length := ho
            rw [hob o ho', g'.ob o ho', ob0]
        have one : ∀ d1 : D, dsl = [d1] -> bS S.length d1 = true -> d0 = d1 -> ∃ Gf, Rel w'.heap Gf #[] ⟨[], σ.S.take S.length⟩ /\ Low (σ.S.take S.length) /\ dq w G ⟨[], S⟩ w' Gf ⟨[], σ.S.take S.length⟩ /\ (σ.S.take S.length).length = S.length /\ Res w'.heap Gf S.length d0 (An vl) := by
          intro d1 hds hok hd
          subst hds
          subst hd
          obtain ⟨v, src, e1, e2, e3, e4⟩ := f3 0 d0 rfl
          have hvl : vl = [v] := by
            match vl, f2, e1 with
            | [x], _, e1 => simp at e1; rw [e1]
          obtain ⟨Gf, Rf, res, k1, k2, k3⟩ := Lu F'.rel F'.low hlen e2 e3 e4 hok
          refine ⟨Gf, Rf, F'.low.take _, way Gf ⟨by rw [k1]; exact cS.refl _, fun o b ho hb => by rw [k2 o ho]; exact hb⟩ k2 k3 (fun b hb => .inl (by rw [<- k1]; exact hb)), hl', ?_⟩
          rw [hvl]; exact res
        have many : dsl.all (fun d => bq S.length (frz d)) = true -> d0 = .tup (dsl.map frz) -> (∀ d1, dsl ≠ [d1]) -> ∃ Gf, Rel w'.heap Gf #[] ⟨[], σ.S.take S.length⟩ /\ Low (σ.S.take S.length) /\ dq w G ⟨[], S⟩ w' Gf ⟨[], σ.S.take S.length⟩ /\ (σ.S.take S.length).length = S.length /\ Res w'.heap Gf S.length d0 (An vl) := by
          intro hall hd hne
          obtain ⟨Gf, Rf, clf, B, hfz, k2, k3, k4⟩ := IE F'.rel F'.low hlen
          refine ⟨Gf, Rf, F'.low.take _, way Gf B k2 k3 k4, hl', ?_⟩
          have hvl : An vl = .tuple vl.toArray := by
            match vl, f2 with
            | [], _ => rfl
            | [x], f2 =>
              exfalso
              match dsl, f2, hne with
              | [d1], _, hne => exact hne d1 rfl
            | _ :: _ :: _, _ => rfl
          rw [hvl, hd]
          refine ⟨?_, .inr rfl, fun k j p hp => by rw [clf k j] at hp; cases hp⟩
          simp only [RD]
          refine ⟨vl.toArray, rfl, RDs.of_get _ _ _ _ (by simp [f2]) ?_⟩
          intro i d hdd
          rw [List.getElem?_map] at hdd
          cases hj : dsl[i]? with
          | none => rw [hj] at hdd; cases hdd
          | some d1 =>
            rw [hj] at hdd
            cases hdd
            obtain ⟨v, src, e1, e2, e3, e4⟩ := f3 i d1 hj
            exact ⟨v, by simpa using e1, RD.out B hfz e4 (List.all_eq_true.1 hall d1 (List.mem_of_getElem? hj)) e2 _⟩
        unfold cA at hod
        split at hod
        . rename_i d1
          cases hok : bS S.length d1 with
          | false => rw [hok] at hod; cases hod
          | true =>
            rw [hok, cond_true, Option.some.injEq] at hod
            exact one d1 rfl hok hod.symm
        . rename_i hne
          cases hok : dsl.all (fun d => bq S.length (frz d)) with
          | false => rw [hok] at hod; cases hod
          | true =>
            rw [hok, cond_true, Option.some.injEq] at hod
            exact many hok hod.symm (fun d1 h => hne d1 h)
  rcases hex with rfl | rfl
  . cases h1
    exact key he
  . cases h1
    exact key he
theorem qaL {f:FuncId} {fn:Func} {body:Code} {args:List D} {S S':bH} {d:D} {k:Nat} (hf:P.funcs[f]? =some fn) (hb:fn.body=some body) (hname:(fn.name== "runtime.NumGoroutine")=false)
  (okb:dN P C ν fn.ntmps body body) (okf: ∀id c,bE id body=some c->dN P C ν fn.ntmps body c) (hargs:args.length<=fn.ntmps)
  (he:cR (ck P) C (evL (ck P) C ν body k) ν fn.results.toList body args S=some (d,S')):Mx.Sem P f args S d S':=by
 refine Kv hf hb hname hargs ?_
 intro w G0 tmps hsz F0 Q hQ
 unfold cR at he
 cases hc:aH (ck P) C (evL (ck P) C ν body k) ν body ⟨enter 0 args,S⟩ with
 |none=>rw [hc] at he;cases he
 |some p=>
  obtain⟨e,σ⟩:=p
  rw [hc] at he
  refine DM (RT okf k) body w G0 tmps ⟨enter 0 args,S⟩ e σ okb hsz F0 hc Q ?_
  intro ex a' w' G' h1 h2 h3 F' g'
  cases e with
  |exit id=>cases he
  |normal=>exact hQ _ _ σ a' w' G' h1 (.inl rfl) he h2 h3 F' g'
  |ret=>exact hQ _ _ σ a' w' G' h1 (.inr rfl) he h2 h3 F' g'
end
end Go.Mx
namespace Go.Mx
open Go
section
variable (T:Nat->Ty) (C:aj) (L:dS) (ν:cL)
def eS (r:Option (Ex×St)) (k:St->Option (Ex×St)):Option (Ex×St):=match r with
 |some (.normal,σ)=>k σ
 |some (.exit i,σ)=>some (.exit i,σ)
 |some (.ret,σ)=>some (.ret,σ)
 |none=>none
def after (keep:List Nat) (r:Option St):Option (Ex×St):=match r with
 |some σ=>some (.normal,⟨prune keep σ.env,σ.S⟩)
 |none=>none
theorem gc (keep:List Nat) (e:Env) (S:bH):after keep (some ⟨e,S⟩)=some (.normal,⟨prune keep e,S⟩):=rfl
def FC (d:D) (a b:Option (Ex×St)):Option (Ex×St):=match d with
 | .v (.b x)=>bif x then a else b
 |_=>none
theorem fq (σ:St):aH T C L ν .skip σ=some (.normal,σ):=rfl
theorem eQ (id:Nat) (ops:Array Oper) (draw:Bool) (σ:St):aH T C L ν (.region id ops draw) σ=after (ν.keep id) (dY T C ν id ops.toList draw σ):=by
 simp only [aH,after]
 cases dY T C ν id ops.toList draw σ<;>rfl
theorem fi (a b:Code) (σ:St):aH T C L ν (.seq a b) σ=eS (aH T C L ν a σ) (aH T C L ν b):=by
 simp only [aH,eS]
 rcases aH T C L ν a σ with _|⟨_|_|_,_⟩<;>rfl
theorem zE (t:Nat) (a b:Code) (σ:St):aH T C L ν (.cond (.tmp t) a b) σ=FC (bI σ.env t) (aH T C L ν a (cK ν t true σ)) (aH T C L ν b (cK ν t false σ)):=by
 simp only [aH,FC]
 rcases bI σ.env t with⟨_|_|_|_⟩|_|_|_|_|_|_|_|_|_|_|_|_|_<;>rfl
theorem fk (id:Nat) (c:Code) (σ:St):aH T C L ν (.block id (.loop c)) σ=L id σ:=rfl
def Kl (d:D) (t:Nat) (a b:Code) (σ:St):Option (Ex×St):=match d with
 | .v (.b true)=>aH T C L ν a (cK ν t true σ)
 | .v (.b false)=>aH T C L ν b (cK ν t false σ)
 |_=>none
theorem eE (t:Nat) (a b:Code) (σ:St):aH T C L ν (.cond (.tmp t) a b) σ=Kl T C L ν (bI σ.env t) t a b σ:=by
 simp only [aH]
 rcases bI σ.env t with⟨(_|_)|_|_|_⟩|_|_|_|_|_|_|_|_|_|_|_|_|_<;>rfl
theorem MQ (ops:List Oper) (o:Oper) (σ:St):cP T C ν ops o σ=match aQ ops σ.env o.guard with
 |none=>none
 |some g=>match be T ν o with
  |true=>bif g then (match bf T σ.env o with
    |true=>aJ T C ν.ro ν.mv ν.give σ o.dst o.type o.op
    |false=>none) else some { σ with env:=putDst σ.env o.dst .undef }
  |false=>match aw C σ g o with
   |true=>none
   |false=>match gx g o.guard.isNone (aK T C σ g o.op) with
    |some d=>some { σ with env:=putDst σ.env o.dst (offReg σ.env o.dst d) }
    |none=>bif g&&ar o then aJ T C ν.ro ν.mv ν.give σ o.dst o.type o.op else none:=by
 unfold cP
 cases aQ ops σ.env o.guard with
 |none=>rfl
 |some g=>
  simp only
  cases be T ν o with
  |true=>cases g<;>cases bf T σ.env o<;>rfl
  |false=>cases aw C σ g o<;>rfl
theorem gQ (id:Nat) (ops:List Oper) (σ:St):dY T C ν id ops true σ=match (ν.free id).isEmpty with
 |true=>fd T C ν ops ops σ
 |false=>match dV T C ν ops ops σ with
  |some (σ',ks)=>match ks.all bm with
   |true=>some σ'
   |false=>match bp ks (ν.free id) with
    |true=>some σ'
    |false=>none
  |none=>none:=by
 unfold dY
 cases (ν.free id).isEmpty with
 |true=>rfl
 |false=>
  simp only [Bool.not_false,Bool.true_and,cond_true]
  cases dV T C ν ops ops σ with
  |none=>rfl
  |some p=>
   obtain⟨σ',ks⟩:=p
   simp only
   cases ks.all bm with
   |true=>rfl
   |false=>cases bp ks (ν.free id)<;>rfl
theorem MB (ops:List Oper) (o:Oper) (σ:St):cI T C ν ops o σ=match aQ ops σ.env o.guard with
 |none=>.wild
 |some g=>match be T ν o with
  |true=>bif g then bM T σ o.op else .work none σ.S.length
  |false=>match gx g o.guard.isNone (aK T C σ g o.op) with
   |some d=>match aI σ.env o.dst with
    |true=>.wild
    |false=>.still (o.op.operands.toList.all (aY σ.env)) (aN d||tW (aL T σ g o.op) d) (aL T σ g o.op) (br d) (lP d)
   |none=>bif g&&bN σ.env o.op then .eff else .wild:=by
 unfold cI
 cases aQ ops σ.env o.guard with
 |none=>rfl
 |some g=>
  simp only
  cases be T ν o with
  |true=>rfl
  |false=>
   simp only [cond_false]
   cases gx g o.guard.isNone (aK T C σ g o.op) with
   |none=>rfl
   |some d=>simp only;cases aI σ.env o.dst<;>rfl
theorem fp (id:Nat) (σ:St):aH T C L ν (.exit id) σ=some (.exit id,σ):=rfl
theorem fW (σ:St):aH T C L ν .ret σ=some (.ret,σ):=rfl
theorem ai (id:Nat) (a b:Code) (σ:St):aH T C L ν (.block id (.seq a b)) σ=dl id (aH T C L ν (.seq a b) σ):=rfl
theorem ab (id i:Nat) (ops draw) (σ:St):aH T C L ν (.block id (.region i ops draw)) σ=dl id (aH T C L ν (.region i ops draw) σ):=rfl
theorem eF (id:Nat) (σ:St):dl id (some (.normal,σ))=some (.normal,σ):=rfl
theorem fw (id:Nat) (σ:St):dl id (some (.ret,σ))=some (.ret,σ):=rfl
theorem ff (id i:Nat) (σ:St):dl id (some (.exit i,σ))=bif i==id then some (.normal,σ) else some (.exit i,σ):=rfl
def cC (n:Nat) (res:List ResultVar) (r:Option (Ex×St)):Option (D×bH):=match r with
 |some (.normal,σ)=>aC T n res σ
 |some (.ret,σ)=>aC T n res σ
 |_=>none
theorem bk (res:List ResultVar) (body:Code) (args:List D) (S:bH):cR T C L ν res body args S=cC T S.length res (aH T C L ν body ⟨enter 0 args,S⟩):=by
 simp only [cR,cC]
 rcases aH T C L ν body ⟨enter 0 args,S⟩ with _|⟨_|_|_,_⟩<;>rfl
theorem fV (n:Nat) (res) (σ:St):cC T n res (some (.ret,σ))=aC T n res σ:=rfl
theorem eP (n:Nat) (res) (σ:St):cC T n res (some (.normal,σ))=aC T n res σ:=rfl
def cN (n id:Nat) (L:dS) (r:Option (Ex×St)):Option (Ex×St):=match r with
 |some (.normal,σ)=>match trunc n σ with
  |some σ'=>L id σ'
  |none=>none
 |r=>dl id r
theorem hO (id:Nat) (c:Code) (σ:St):FA T C L ν id c σ=cN σ.S.length id L (aH T C L ν c σ):=by
 unfold FA cN
 rcases aH T C L ν c σ with _|⟨_|_|_,_⟩<;>rfl
def IV (id:Nat) (L:dS) (r:Option St):Option (Ex×St):=match r with
 |some σ=>L id σ
 |none=>none
theorem ge (n id:Nat) (σ:St):cN n id L (some (.normal,σ))=IV id L (trunc n σ):=by
 simp only [cN,IV]
theorem fv (id:Nat) (σ:St):IV id L (some σ)=L id σ:=rfl
theorem JB (n:Nat) (σ:St):trunc n σ=match (σ.S.length==n) with
 |true=>some σ
 |false=>match σ.env.all (fun e=>lowA n e.2) with
  |true=>some { σ with S:=σ.S.take n }
  |false=>none:=by
 unfold trunc
 cases (σ.S.length==n) with
 |true=>rfl
 |false=>cases σ.env.all (fun e=>lowA n e.2)<;>rfl
theorem gH (n id:Nat) (σ:St):cN n id L (some (.ret,σ))=some (.ret,σ):=rfl
theorem gb (n id i:Nat) (σ:St):cN n id L (some (.exit i,σ))=bif i==id then some (.normal,σ) else some (.exit i,σ):=rfl
theorem GK {C:aj} {body c:Code} {id:Nat} (h:bE id body=some c) (n:Nat) (σ:St):evL T C ν body (n+1) id σ=cN σ.S.length id (evL T C ν body n) (aH T C (evL T C ν body n) ν c σ):=by
 rw [evL,h]
 exact hO T C _ ν id c σ
end
theorem fu {α:Type} (c:Bool) (a b d:α):(bif c then (bif c then a else b) else d)=bif c then a else d:=by cases c<;>rfl
theorem fz {α:Type} (c:Bool) (a b d:α):(bif c then a else (bif c then b else d))=bif c then a else d:=by cases c<;>rfl
theorem gG {α:Type} (c:Bool) (a:α):(bif c then a else a)=a:=by cases c<;>rfl
theorem gS (env:Env) (t:Nat) (d:D):setReg env t d=put (match aN (bI env t) with|true=>kill (bO t) env|false=>env) t d:=by
 unfold setReg;cases aN (bI env t)<;>rfl
theorem Al (env:Env) (x:Operand):spend env x=match x with
 | .tmp u=>(match aN (bI env u) with|true=>put (kill (bO u) env) u .bad|false=>env)
 |_=>env:=by
 unfold spend
 cases x with
 |tmp u=>simp only;cases aN (bI env u)<;>rfl
 |_=>rfl
theorem ij (env:Env) (x:Operand):frzReg env x=match x with
 | .tmp u=>(match aN (bI env u) with|true=>put (kill (bO u) env) u (frz (bI env u))|false=>env)
 |_=>env:=by
 unfold frzReg
 cases x with
 |tmp u=>simp only;cases aN (bI env u)<;>rfl
 |_=>rfl
theorem hJ (env:Env) (dst:Option Nat) (d:D):offReg env dst d=match dst with
 |some t=>(match aN (bI env t) with|true=>iy (bO t) d|false=>d)
 |none=>d:=by
 unfold offReg
 cases dst with
 |some t=>simp only;cases aN (bI env t)<;>rfl
 |none=>rfl
theorem Zt (p:Bool) (r:Option D):gx true p r=r:=by cases p<;>rfl
theorem qcc (r:Option D):gx false false r=some .undef:=rfl
theorem HJ (C:aj) (σ:St) (o:Oper):aw C σ false o=false:=by
 unfold aw
 split
 ·split
  ·rfl
  ·rfl
 ·rfl
theorem ie (T:Nat->Ty) (C:aj) (ν:cL) (ops:List Oper) (o:Oper) (σ:St):cP T C ν ops o σ=match aQ ops σ.env o.guard with
 |none=>none
 |some false=>some { σ with env:=putDst σ.env o.dst .undef }
 |some true=>match be T ν o with
  |true=>match bf T σ.env o with
   |true=>aJ T C ν.ro ν.mv ν.give σ o.dst o.type o.op
   |false=>none
  |false=>match aw C σ true o with
   |true=>none
   |false=>match aK T C σ true o.op with
    |some d=>some { σ with env:=putDst σ.env o.dst (offReg σ.env o.dst d) }
    |none=>match ar o with
     |true=>aJ T C ν.ro ν.mv ν.give σ o.dst o.type o.op
     |false=>none:=by
 rw [MQ]
 cases hg:aQ ops σ.env o.guard with
 |none=>rfl
 |some g=>
  cases g with
  |true=>
   simp only [Zt,Bool.true_and,cond_true]
   cases be T ν o with
   |true=>cases bf T σ.env o<;>rfl
   |false=>
    simp only
    cases aw C σ true o with
    |true=>rfl
    |false=>
     simp only
     cases aK T C σ true o.op with
     |some d=>rfl
     |none=>cases ar o<;>rfl
  |false=>
   have hn:o.guard.isNone=false:=by
    cases h:o.guard with
    |none=>rw [h] at hg;simp [aQ] at hg
    |some _=>rfl
   simp only [HJ,hn,qcc,cond_false]
   cases be T ν o with
   |true=>rfl
   |false=>
    have he:offReg σ.env o.dst .undef= .undef:=by
     unfold offReg
     cases o.dst with
     |none=>rfl
     |some t=>simp only;cases aN (bI σ.env t)<;>rfl
    simp only [he]
theorem M3 (T:Nat->Ty) (C:aj) (ν:cL) (ops:List Oper) (o:Oper) (σ:St):cI T C ν ops o σ=match aQ ops σ.env o.guard with
 |none=>.wild
 |some false=>match be T ν o with
  |true=>.work none σ.S.length
  |false=>match aI σ.env o.dst with
   |true=>.wild
   |false=>.still (o.op.operands.toList.all (aY σ.env)) false (aL T σ false o.op) true true
 |some true=>match be T ν o with
  |true=>bM T σ o.op
  |false=>match aK T C σ true o.op with
   |some d=>match aI σ.env o.dst with
    |true=>.wild
    |false=>.still (o.op.operands.toList.all (aY σ.env)) (aN d||tW (aL T σ true o.op) d) (aL T σ true o.op) (br d) (lP d)
   |none=>bif bN σ.env o.op then .eff else .wild:=by
 rw [MB]
 cases hg:aQ ops σ.env o.guard with
 |none=>rfl
 |some g=>
  cases g with
  |true=>
   simp only [Zt,cond_true,Bool.true_and]
  |false=>
   have hn:o.guard.isNone=false:=by
    cases h:o.guard with
    |none=>rw [h] at hg;simp [aQ] at hg
    |some _=>rfl
   have ho:tW (aL T σ false o.op) .undef=false:=by cases aL T σ false o.op<;>rfl
   simp only [hn,qcc,cond_false,ho,Bool.or_false]
   rfl
def aU (f:Func):Code:=f.body.getD .skip
end Go.Mx
namespace Go.Mx
open Go
def dI:Code->List Nat
 | .block i (.loop c)=>i::dI c
 | .block _ c=>dI c
 | .loop c=>dI c
 | .seq a b=>dI a++dI b
 | .cond _ a b=>dI a++dI b
 |_=>[]
def db (id:Nat) (c:Code):Code->Prop
 | .block i (.loop c')=>(id=i/\c=c')∨db id c c'
 | .block _ c'=>db id c c'
 | .loop c'=>db id c c'
 | .seq a b=>db id c a∨db id c b
 | .cond _ a b=>db id c a∨db id c b
 |_=>False
theorem db.mem {id:Nat} {c:Code} : ∀ {c0:Code},db id c c0->id∈dI c0:=by
 intro c0
 fun_induction dI c0<;>intro h<;>simp only [db] at h<;>first|contradiction|skip
 ·rename_i i c' ih
  rcases h with⟨rfl,_⟩|h
  ·exact List.mem_cons_self
  ·exact List.mem_cons_of_mem _ (ih h)
 ·rename_i i c' hne ih
  exact ih h
 ·rename_i ih;exact ih h
 ·rename_i iha ihb
  rcases h with h|h
  ·exact List.mem_append_left _ (iha h)
  ·exact List.mem_append_right _ (ihb h)
 ·rename_i iha ihb
  rcases h with h|h
  ·exact List.mem_append_left _ (iha h)
  ·exact List.mem_append_right _ (ihb h)
theorem gI {id:Nat} : ∀ {c0:Code},id∉dI c0->bE id c0=none:=by
 intro c0
 fun_induction dI c0<;>intro h<;>simp only [bE]
 ·rename_i i c' ih
  simp only [List.mem_cons,not_or] at h
  have:(i==id)=false:=by simpa using fun e=>h.1 e.symm
  rw [this,cond_false];exact ih h.2
 ·rename_i ih;exact ih h
 ·rename_i ih;exact ih h
 ·rename_i iha ihb
  simp only [List.mem_append,not_or] at h
  rw [iha h.1];exact ihb h.2
 ·rename_i iha ihb
  simp only [List.mem_append,not_or] at h
  rw [iha h.1];exact ihb h.2
theorem db.find {id:Nat} {c:Code} : ∀ {c0:Code},db id c c0->(dI c0).Nodup->bE id c0=some c:=by
 intro c0
 fun_induction dI c0<;>intro h hn<;>simp only [db] at h<;>first|contradiction|skip
 ·rename_i i c' ih
  simp only [List.nodup_cons] at hn
  simp only [bE]
  rcases h with⟨rfl,rfl⟩|h
  ·simp
  ·have:(i==id)=false:=by rw [beq_eq_false_iff_ne];intro e;subst e;exact hn.1 h.mem
   rw [this,cond_false];exact ih h hn.2
 ·rename_i i c' hne ih
  simp only [bE];exact ih h hn
 ·rename_i ih;simp only [bE];exact ih h hn
 ·rename_i iha ihb
  rw [List.nodup_append] at hn
  simp only [bE]
  rcases h with h|h
  ·rw [iha h hn.1]
  ·rw [gI (fun hm=>hn.2.2 _ hm _ h.mem rfl)];exact ihb h hn.2.1
 ·rename_i iha ihb
  rw [List.nodup_append] at hn
  simp only [bE]
  rcases h with h|h
  ·rw [iha h hn.1]
  ·rw [gI (fun hm=>hn.2.2 _ hm _ h.mem rfl)];exact ihb h hn.2.1
def dM:Code->List (Nat×Array Oper)
 | .region id ops true=>[(id,ops)]
 | .block _ c=>dM c
 | .loop c=>dM c
 | .seq a b=>dM a++dM b
 | .cond _ a b=>dM a++dM b
 |_=>[]
def de (n:Nat):Code->Bool
 | .region _ ops _=>ops.toList.all fun o=>match o.dst with|some t=>decide (t<n)|none=>true
 | .block _ c=>de n c
 | .loop c=>de n c
 | .seq a b=>de n a&&de n b
 | .cond _ a b=>de n a&&de n b
 |_=>true
def Fa:List Nat->Bool
 | []=>true
 |a::r=>!(r.contains a)&&Fa r
theorem KP: ∀ {l:List Nat},Fa l=true->l.Nodup:=by
 intro l
 induction l with
 |nil=>intro _;exact List.nodup_nil
 |cons a r ih=>
  intro h
  simp only [Fa,Bool.and_eq_true,Bool.not_eq_true',List.contains_eq_mem,decide_eq_false_iff_not] at h
  exact List.nodup_cons.2 ⟨h.1,ih h.2⟩
section
variable {P:Program} {C:aj} {ν:cL} {n:Nat} {body:Code}
theorem D2 (SC:cj P C) (hb:(dI body).Nodup): ∀(c:Code),(∀id c',db id c' c->db id c' body)->de n c=true->(∀p∈dM c,gj P C ν n p.1 p.2 true)->dN P C ν n body c:=by
 intro c
 fun_induction dI c<;>intro ho hs hd
 ·rename_i i c' ih
  simp only [dN]
  refine⟨(ho _ _ ?_).find hb,ih (fun id c'' h=>ho _ _ ?_) (by simpa only [de] using hs) (by simpa only [dM] using hd)⟩
  ·simp [db]
  ·simp only [db];exact .inr h
 ·rename_i i c' hne ih
  have:dN P C ν n body (.block i c')=dN P C ν n body c':=by
   cases c' with
   |loop c''=>exact absurd rfl (hne c'')
   |_=>rfl
  rw [this]
  refine ih (fun id c'' h=>ho _ _ ?_) (by simpa only [de] using hs) (by simpa only [dM] using hd)
  have:db id c'' (.block i c')=db id c'' c':=by
   cases c' with
   |loop c3=>exact absurd rfl (hne c3)
   |_=>rfl
  rw [this];exact h
 ·trivial
 ·rename_i a b iha ihb
  simp only [de,Bool.and_eq_true] at hs
  simp only [dM,List.mem_append] at hd
  exact⟨iha (fun id c' h=>ho _ _ (by simp only [db];exact .inl h)) hs.1 (fun p h=>hd p (.inl h)),ihb (fun id c' h=>ho _ _ (by simp only [db];exact .inr h)) hs.2 (fun p h=>hd p (.inr h))⟩
 ·rename_i x a b iha ihb
  simp only [de,Bool.and_eq_true] at hs
  simp only [dM,List.mem_append] at hd
  exact⟨iha (fun id c' h=>ho _ _ (by simp only [db];exact .inl h)) hs.1 (fun p h=>hd p (.inl h)),ihb (fun id c' h=>ho _ _ (by simp only [db];exact .inr h)) hs.2 (fun p h=>hd p (.inr h))⟩
 ·rename_i c h1 h2 h3 h4 h5
  cases c with
  |region id ops draw=>
   cases draw with
   |false=>
    refine CB SC ?_
    intro o ho t ht
    simp only [de,List.all_eq_true] at hs
    have:=hs o ho
    rw [ht] at this
    simpa using this
   |true=>exact hd (id,ops) (by simp only [dM,List.mem_singleton])
  |block i c=>exact absurd rfl (h2 i c)
  |loop c=>exact absurd rfl (h3 c)
  |seq a b=>exact absurd rfl (h4 a b)
  |cond x a b=>exact absurd rfl (h5 x a b)
  |_=>trivial
theorem Oe {n:Nat} {id:Nat} {c:Code} : ∀ {c0:Code},bE id c0=some c->(∀i c',db i c' c->db i c' c0)/\(de n c0=true->de n c=true)/\(∀p∈dM c,p∈dM c0):=by
 intro c0
 fun_induction bE id c0<;>intro hf
 ·rename_i i c' hi
  simp only [Option.some.injEq] at hf
  subst hf
  refine⟨fun j c'' h=>by simp only [db];exact .inr h,fun h=>by simpa only [de] using h,fun p h=>by simpa only [dM] using h⟩
 ·rename_i i c' hi ih
  obtain⟨h1,h2,h3⟩:=ih hf
  exact⟨fun j c'' h=>by simp only [db];exact .inr (h1 _ _ h),fun h=>h2 (by simpa only [de] using h),fun p h=>by simpa only [dM] using h3 p h⟩
 ·rename_i i c' hne ih
  obtain⟨h1,h2,h3⟩:=ih hf
  refine⟨fun j c'' h=>?_,fun h=>h2 (by simpa only [de] using h),fun p h=>by simpa only [dM] using h3 p h⟩
  have:db j c'' (.block i c')=db j c'' c':=by
   cases c' with
   |loop c3=>exact absurd rfl (hne c3)
   |_=>rfl
  rw [this];exact h1 _ _ h
 ·rename_i c' ih
  obtain⟨h1,h2,h3⟩:=ih hf
  exact⟨fun j c'' h=>by simp only [db];exact h1 _ _ h,fun h=>h2 (by simpa only [de] using h),fun p h=>by simpa only [dM] using h3 p h⟩
 ·rename_i a b c1 heq ih
  rw [<-hf] at ih
  obtain⟨h1,h2,h3⟩:=ih heq
  exact⟨fun j c'' h=>by simp only [db];exact .inl (h1 _ _ h),fun h=>h2 (by simp only [de,Bool.and_eq_true] at h;exact h.1),fun p h=>by simp only [dM,List.mem_append];exact .inl (h3 p h)⟩
 ·rename_i a b heq ih1 ih2
  obtain⟨h1,h2,h3⟩:=ih2 hf
  exact⟨fun j c'' h=>by simp only [db];exact .inr (h1 _ _ h),fun h=>h2 (by simp only [de,Bool.and_eq_true] at h;exact h.2),fun p h=>by simp only [dM,List.mem_append];exact .inr (h3 p h)⟩
 ·rename_i x a b c1 heq ih
  rw [<-hf] at ih
  obtain⟨h1,h2,h3⟩:=ih heq
  exact⟨fun j c'' h=>by simp only [db];exact .inl (h1 _ _ h),fun h=>h2 (by simp only [de,Bool.and_eq_true] at h;exact h.1),fun p h=>by simp only [dM,List.mem_append];exact .inl (h3 p h)⟩
 ·rename_i x a b heq ih1 ih2
  obtain⟨h1,h2,h3⟩:=ih2 hf
  exact⟨fun j c'' h=>by simp only [db];exact .inr (h1 _ _ h),fun h=>h2 (by simp only [de,Bool.and_eq_true] at h;exact h.2),fun p h=>by simp only [dM,List.mem_append];exact .inr (h3 p h)⟩
 ·cases hf
end
theorem IU {n:Nat} : ∀(c:Code),de n c=true-> ∀p∈dM c,∀o∈p.2.toList,∀t,o.dst=some t->t<n:=by
 intro c
 fun_induction dM c<;>intro h p hp
 ·rename_i id ops
  simp only [List.mem_singleton] at hp
  subst hp
  intro o ho t ht
  simp only [de,List.all_eq_true] at h
  have:=h o ho
  rw [ht] at this
  simpa using this
 ·rename_i ih;exact ih (by simpa only [de] using h) p hp
 ·rename_i ih;exact ih (by simpa only [de] using h) p hp
 ·rename_i iha ihb
  simp only [de,Bool.and_eq_true] at h
  rcases List.mem_append.1 hp with hp|hp
  ·exact iha h.1 p hp
  ·exact ihb h.2 p hp
 ·rename_i iha ihb
  simp only [de,Bool.and_eq_true] at h
  rcases List.mem_append.1 hp with hp|hp
  ·exact iha h.1 p hp
  ·exact ihb h.2 p hp
 ·cases hp
def Hc (fn:Func):Bool:=fn.body.isSome&& !(fn.name== "runtime.NumGoroutine")&&Fa (dI (fn.body.getD .skip))&&de fn.ntmps (fn.body.getD .skip)
theorem RM {P:Program} {C:aj} {ν:cL} {f:FuncId} {fn:Func} {args:List D} {S S':bH} {d:D} {k:Nat} (SC:cj P C) (hf:P.funcs[f]? =some fn) (ok:Hc fn=true) (hm:P.follows .mixedOrders=true) (hd':(dM (aU fn)).all (fun p=>Bw p.2 (ν.free p.1))=true) (hargs:args.length<=fn.ntmps)
  (he:cR (ck P) C (evL (ck P) C ν (aU fn) k) ν fn.results.toList (aU fn) args S=some (d,S')):Mx.Sem P f args S d S':=by
 simp only [Hc,Bool.and_eq_true,Bool.not_eq_true'] at ok
 obtain⟨⟨⟨h1,h2⟩,h3⟩,h4⟩:=ok
 cases hb:fn.body with
 |none=>rw [hb] at h1;cases h1
 |some body=>
  have e:aU fn=body:=by simp [aU,hb]
  rw [e] at he hd'
  rw [hb] at h3 h4
  simp only [Option.getD_some] at h3 h4
  have hnd:=KP h3
  have hd: ∀p∈dM body,gj P C ν fn.ntmps p.1 p.2 true:=fun p hp=>Cc SC hm (IU _ h4 p hp) (List.all_eq_true.1 hd' p hp)
  have okb:dN P C ν fn.ntmps body body:=D2 SC hnd body (fun _ _ h=>h) h4 hd
  refine qaL hf hb h2 okb (fun id c hc=>?_) hargs he
  obtain⟨s1,s2,s3⟩:=Oe (n:=fn.ntmps) hc
  exact D2 SC hnd c s1 (s2 h4) (fun p hp=>hd p (s3 p hp))
open Classical in
def aj.add (C:aj) (f:Nat) {X:Type} (A:X->Prop) (arg:X->List D×bH) (res:X->D×bH):aj:=fun f' a S=>
 if f'=f then (if h: ∃x,A x/\arg x=(a,S) then some (res h.choose) else none) else C f' a S
def noC:aj:=fun _ _ _=>none
theorem gF (P:Program):iB P noC:=fun _ _ _ _ _ h=>by cases h
end Go.Mx
namespace Go.Mx
open Go
section
variable (P:Program)
def dR (rec:TypeId->List V->Prop):List Field->List V->Prop
 | [],r=>r= []
 |f::fs,r=>∃a b,r=a++b/\rec f.type a/\dR rec fs b
def Has:Nat->TypeId->List V->Prop
 |0,_,_=>False
 |k+1,t,r=>match P.underlying t with
  |some .bool=>∃x,r= [.b x]
  |some (.int q)=>∃n,r= [.i q n]/\q.min<=n/\n<=q.max
  |some .string=>∃s:ByteArray,r= [.s s]/\s.size<=reachBytes
  |some (.slice e)=>∃l,r= [.sl (P.cellsOf e) l]/\l.length*P.bytesOf e<=reachBytes/\ ∀x∈l,Has k e x
  |some (.struct fs)=>dR (Has k) fs.toList r
  |_=>False
def H5 (rec:TypeId->Bool):List Field->Nat->Nat->Bool
 | [],off,n=>off==n
 |f::fs,off,n=>f.offset==off&&rec f.type&&H5 rec fs (off+P.cellsOf f.type) n
def ga:Nat->TypeId->Bool
 |0,_=>false
 |k+1,t=>match P.underlying t with
  |some .bool|some (.int _)|some .string=>P.cellsOf t==1
  |some (.slice e)=>ga k e&&P.cellsOf e != 0&&P.cellsOf t==1
  |some (.struct fs)=>H5 P (ga k) fs.toList 0 (P.cellsOf t)
  |_=>false
def BX (w:World):Rd:=fun b=>match w.heap[b]? with
 |some (.cells c _ _)=>some c
 |_=>none
theorem RVc.move {rd:Rd} : ∀(r:List V) (c c':Array Value) (i off:Nat),(∀j v,c[j]? =some v->c'[off+j]? =some v)->RVc rd r c i->RVc rd r c' (off+i)
 | [],_,_,_,_,_,_=>by simp only [RVc]
 |x::r,c,c',i,off,h,hr=>by
  simp only [RVc] at*
  obtain⟨⟨v,h1,h2⟩,h3⟩:=hr
  exact⟨⟨v,h _ _ h1,h2⟩,RVc.move r c c' (i+1) off h h3⟩
theorem RVc.append {rd:Rd} : ∀(a b:List V) (c:Array Value) (off:Nat),RVc rd a c off->RVc rd b c (off+a.length)->RVc rd (a++b) c off
 | [],b,c,off,_,h=>by simpa using h
 |x::a,b,c,off,h,k=>by
  simp only [RVc,List.cons_append,List.length_cons] at*
  exact⟨h.1,RVc.append a b c (off+1) h.2 (by rwa [Nat.add_assoc,Nat.add_comm 1])⟩
theorem IN {α:Type} {f:Nat->Option α} {n:Nat} {l:List α} (h:(List.range n).mapM f=some l):l.length=n/\ ∀i,i<n-> ∃x,f i=some x/\l[i]? =some x:=by
 have gen: ∀(ks:List Nat) (l:List α),ks.mapM f=some l->l.length=ks.length/\ ∀(i k:Nat),ks[i]? =some k-> ∃x,f k=some x/\l[i]? =some x:=by
  intro ks
  induction ks with
  |nil=>intro l h;simp at h;subst h;exact⟨rfl,fun i k hk=>by simp at hk⟩
  |cons k ks ih=>
   intro l h
   simp only [List.mapM_cons] at h
   cases hk:f k with
   |none=>simp [hk] at h
   |some x=>
    cases hm:ks.mapM f with
    |none=>simp [hk,hm] at h
    |some r=>
     simp only [hk,hm,bind,Option.bind,pure,Option.some.injEq] at h
     subst h
     obtain⟨h1,h2⟩:=ih r hm
     refine⟨by simp [h1],fun i k' hi=>?_⟩
     cases i with
     |zero=>simp only [List.getElem?_cons_zero,Option.some.injEq] at hi;subst hi;exact⟨x,hk,rfl⟩
     |succ i=>simp only [List.getElem?_cons_succ] at hi⊢;exact h2 i k' hi
 obtain⟨h1,h2⟩:=gen _ _ h
 refine⟨by simpa using h1,fun i hi=>h2 i i (by simp [hi])⟩
theorem EO {w:World} {a:Addr} {n:Nat} {cs:List Value} (h:w.cells? 0 a n=some cs):cs.length=n/\ ∀i,i<n->w.cell? (a.add i)=cs[i]? :=by
 simp only [World.cells?,Nat.zero_le,if_true] at h
 obtain⟨h1,h2⟩:=IN h
 refine⟨h1,fun i hi=>?_⟩
 obtain⟨x,hx,hl⟩:=h2 i hi
 rw [hx,hl]
theorem Hd {w:World} {a:Addr} {v:Value} (h:w.cell? a=some v):a.spot=none/\ ∃c e fr,w.heap[a.block]? =some (.cells c e fr)/\c[a.off]? =some v:=by
 unfold World.cell? at h
 split at h
 ·rename_i c e fr hb
  split at h
  ·cases h
  ·rename_i hs
   refine⟨by cases h2:a.spot with|none=>rfl|some _=>simp [h2] at hs,c,e,fr,hb,h⟩
 ·cases h
end
section
variable {P:Program} {H:Type} {enc:TypeId×Value->H} {w:World}
theorem OF {rec:TypeId->Bool} {n:Nat} : ∀(fs:List Field) (o:Nat),H5 P rec fs o n=true->o<=n:=by
 intro fs
 induction fs with
 |nil=>intro o h;simp only [H5,beq_iff_eq] at h;omega
 |cons g gs ih=>intro o h;simp only [H5,Bool.and_eq_true,beq_iff_eq] at h;have:=ih _ h.2;omega
theorem JU {rec:TypeId->Bool} {R:TypeId->List V->Prop} {rd:Rd} {c:Array Value} {n:Nat} :
  ∀(fs:List Field) (off:Nat),H5 P rec fs off n=true->(∀(j:Nat) (f:Field),fs[j]? =some f->rec f.type=true->f.offset+P.cellsOf f.type<=n-> ∃r,RVc rd r c f.offset/\R f.type r/\r.length=P.cellsOf f.type)->
   ∃r,RVc rd r c off/\dR R fs r/\r.length=n-off
 | [],off,ht,h=>by
  simp only [H5,beq_iff_eq] at ht
  exact⟨[],by simp only [RVc],rfl,by simp [ht]⟩
 |f::fs,off,ht,h=>by
  simp only [H5,Bool.and_eq_true,beq_iff_eq] at ht
  obtain⟨⟨h1,h2⟩,h3⟩:=ht
  have hlen:=OF _ _ h3
  obtain⟨a,ha1,ha2,ha3⟩:=h 0 f rfl h2 (by omega)
  obtain⟨b,hb1,hb2,hb3⟩:=JU fs (off+P.cellsOf f.type) h3 (fun j g hg=>h (j+1) g (by simpa using hg))
  rw [h1] at ha1
  exact⟨a++b,RVc.append a b _ _ ha1 (by rw [ha3];exact hb1),⟨a,b,rfl,ha2,hb2⟩,by rw [List.length_append,ha3,hb3];omega⟩
theorem gy {e:TypeId} : ∀ {l:List (DataW H)} {i:Nat} {d:DataW H},l[i]? =some d-> ∀n∈d.weights P e,n∈DataW.weightsAll P e l
 | [],i,d,h=>by simp at h
 |x::l,i,d,h=>by
  intro n hn
  rw [DataW.weightsAll,List.mem_append]
  cases i with
  |zero=>simp only [List.getElem?_cons_zero,Option.some.injEq] at h;subst h;exact .inl hn
  |succ i=>simp only [List.getElem?_cons_succ] at h;exact .inr (gy h n hn)
theorem z8: ∀ {ts:List TypeId} {ds:List (DataW H)} {j:Nat} {t:TypeId} {d:DataW H},ts[j]? =some t->ds[j]? =some d-> ∀n∈d.weights P t,n∈DataW.weightsEach P ts ds:=DataW.weights_mem_each
theorem OY {sz:Nat} {c:Array Value} {off:Nat} {R:List V->Prop} : ∀(len:Nat),(∀i,i<len-> ∃r,RVc (BX w) r c (off+i*sz)/\R r/\r.length=sz)-> ∃l:List (List V),l.length=len/\RVr (BX w) sz l c off/\ ∀x∈l,R x:=by
 intro len h
 have gen: ∀k,k<=len-> ∃l:List (List V),l.length=k/\RVr (BX w) sz l c (off+(len-k)*sz)/\ ∀x∈l,R x:=by
  intro k
  induction k with
  |zero=>intro _;exact⟨[],rfl,by simp only [RVr],fun x hx=>by cases hx⟩
  |succ k ih=>
   intro hk
   obtain⟨l,h1,h2,h3⟩:=ih (by omega)
   obtain⟨r,r1,r2,r3⟩:=h (len-(k+1)) (by omega)
   refine⟨r::l,by simp [h1],?_,fun x hx=>?_⟩
   ·simp only [RVr]
    refine⟨r3,r1,?_⟩
    have:off+(len-(k+1))*sz+sz=off+(len-k)*sz:=by
     have e:len-k=(len-(k+1))+1:=by omega
     rw [e,Nat.add_mul,Nat.one_mul];omega
    rw [this];exact h2
   ·rcases List.mem_cons.1 hx with rfl|hx
    ·exact r2
    ·exact h3 x hx
 obtain⟨l,h1,h2,h3⟩:=gen len (Nat.le_refl _)
 exact⟨l,h1,by simpa using h2,h3⟩
theorem Sl : ∀ (k fuel : Nat) (t : TypeId) (cs : List Value) (d : DataW H) (ps : List MemPlace), ga P k t = true -> DataW.trod enc P w 0 (fun _ => true) true fuel t cs = some (d, ps) -> (∀ n ∈ d.weights P t, n <= reachBytes) ->
    ∃ r, RVc (BX w) r cs.toArray 0 /\ Has P k t r /\ r.length = P.cellsOf t := by
  intro k
  induction k with
  | zero => intro fuel t cs d ps hp; cases hp
  | succ k ih =>
    intro fuel t cs d ps hp ht hw
    unfold ga at hp
    simp only [Has]
    cases hu : P.underlying t with
    | none => rw [hu] at hp; cases hp
    | some desc =>
      rw [hu] at hp
      cases desc with
      | bool =>
        simp only [beq_iff_eq] at hp ⊢
        obtain ⟨b, rfl, _⟩ := DataW.trod_bool hu ht
        exact ⟨[.b b], by simp [RVc, RV], ⟨b, rfl⟩, by simp [hp]⟩
      | int q =>
        simp only [beq_iff_eq] at hp ⊢
        obtain ⟨n, rfl, _, hn⟩ := DataW.trod_int hu ht
        simp only [Lit.wf, Bool.and_eq_true, decide_eq_true_eq] at hn
        exact ⟨[.i q n], by simp [RVc, RV], ⟨n, rfl, hn⟩, by simp [hp]⟩
      | string =>
        simp only [beq_iff_eq] at hp ⊢
        obtain ⟨s, rfl, hd, hs⟩ := DataW.trod_string hu ht
        refine ⟨[.s s], by simp [RVc, RV], ⟨s, rfl, ?_⟩, by simp [hp]⟩
        simp only [Prod.mk.injEq] at hd
        have := hw s.data.toList.length (by rw [hd.1]; simp [DataW.weights])
        simpa using this
      | slice e =>
        simp only [Bool.and_eq_true, bne_iff_ne, ne_eq, beq_iff_eq] at hp ⊢
        obtain ⟨hp, hsz⟩ := hp
        rcases DataW.trod_slice hu ht with ⟨rfl, _⟩ | ⟨a, len, cap, elems, rest, m, _, rfl, hd, _, hlc, _, hel, hge, _⟩
        . refine ⟨[.sl (P.cellsOf e) []], ?_, ⟨[], rfl, by simp, fun x hx => by cases hx⟩, by simp [hsz]⟩
          simp [RVc, RV]
        . simp only [Prod.mk.injEq] at hd
          have hwt : ∀ n ∈ DataW.weights P t (.slice (elems.map (·.1)) (rest.map (·.1))), n <= reachBytes := by rw [<- hd.1]; exact hw
          rw [DataW.weights, hu] at hwt
          simp only [List.mem_cons, List.mem_append, List.length_map] at hwt
          have hlen : len * P.bytesOf e <= reachBytes := by
            have := hwt _ (.inl rfl)
            rw [hel] at this
            exact Nat.le_trans (Nat.mul_le_mul_right _ (Nat.le_add_right _ _)) this
          cases len with
          | zero =>
            refine ⟨[.sl (P.cellsOf e) []], ?_, ⟨[], rfl, by simp, fun x hx => by cases hx⟩, by simp [hsz]⟩
            simp [RVc, RV]
          | succ len =>
            have hpos : 0 < P.cellsOf e := Nat.pos_of_ne_zero hp.2
            -- the block
            have h0 := hge 0 (by omega)
            obtain ⟨x0, hx0⟩ : ∃ x, elems[0]? = some x := ⟨elems[0]'(by omega), by simp [List.getElem?_eq_getElem]⟩
            rw [hx0] at h0
            simp only [Option.bind_eq_some_iff] at h0
            obtain ⟨cs0, hc0, ht0⟩ := h0
            obtain ⟨hl0, hg0⟩ := EO hc0
            have hg00 := hg0 0 hpos
            rw [List.getElem?_eq_getElem (by omega)] at hg00
            obtain ⟨hsp, c, ety, fr, hb, hc⟩ := Hd hg00
            simp only [Nat.zero_mul, Addr.add, if_true] at hsp hb hc
            obtain ⟨b, off, sp⟩ := a
            simp only at hsp hb hc
            subst hsp
            have hcell : ∀ i j, i < len + 1 -> j < P.cellsOf e -> ((⟨b, off, none⟩ : Addr).add (i * P.cellsOf e)).add j = ⟨b, off + i * P.cellsOf e + j, none⟩ := by
              intro i j _ _
              simp only [Addr.add]
              by_cases h1 : i * P.cellsOf e = 0 <;> by_cases h2 : j = 0 <;> simp [h1, h2]
            obtain ⟨l, l1, l2, l3⟩ := OY (w := w) (sz := P.cellsOf e) (c := c) (off := off) (R := Has P k e) (len + 1) (by
              intro i hi
              have h1 := hge i hi
              obtain ⟨xi, hxi⟩ : ∃ x, elems[i]? = some x := ⟨elems[i]'(by omega), by simp [List.getElem?_eq_getElem]⟩
              rw [hxi] at h1
              simp only [Option.bind_eq_some_iff] at h1
              obtain ⟨csi, hci, hti⟩ := h1
              obtain ⟨hli, hgi⟩ := EO hci
              obtain ⟨r, r1, r2, r3⟩ := ih m e csi xi.1 xi.2 hp.1 hti (fun n hn => hwt n (.inr (.inl (gy (i := i) (by simp [hxi]) n hn))))
              refine ⟨r, ?_, r2, r3⟩
              have := RVc.move (rd := BX w) r csi.toArray c 0 (off + i * P.cellsOf e) (by
                intro j v hv
                simp only [List.getElem?_toArray] at hv
                have hj : j < P.cellsOf e := by
                  rw [<- hli]; exact (List.getElem?_eq_some_iff.1 hv).1
                have h2 := hgi j hj
                rw [hcell i j hi hj, hv] at h2
                obtain ⟨_, c', e', fr', hb', hc'⟩ := Hd h2
                simp only at hb' hc'
                rw [hb] at hb'
                simp only [Option.some.injEq, Obj.cells.injEq] at hb'
                rw [hb'.1]; exact hc') r1
              simpa using this)
            refine ⟨[.sl (P.cellsOf e) l], ?_, ⟨l, rfl, by rw [l1]; exact hlen, l3⟩, by simp [hsz]⟩
            simp only [RVc, RV, and_true]
            refine ⟨_, by simp; rfl, some ⟨b, off, none⟩, cap, by rw [l1], by omega, .inr ⟨b, off, c, rfl, by simp [BX, hb], l2⟩⟩
      | struct fs =>
        simp only at hp ⊢
        obtain ⟨xs, m, _, hd, hcl, hxl, hge⟩ := DataW.trod_struct hu ht
        simp only [Prod.mk.injEq] at hd
        have hwt : ∀ n ∈ DataW.weights P t (.agg (xs.map (·.1))), n <= reachBytes := by rw [<- hd.1]; exact hw
        rw [DataW.weights, hu] at hwt
        simp only at hwt
        obtain ⟨r, r1, r2, r3⟩ := JU (P := P) (R := Has P k) (rd := BX w) (c := cs.toArray) fs.toList 0 hp (by
          intro j f hf hr hle
          have hf' : fs[j]? = some f := by simpa using hf
          have h1 := hge j f hf'
          obtain ⟨x, hx⟩ : ∃ x, xs[j]? = some x := by
            have : j < fs.size := by simpa using (List.getElem?_eq_some_iff.1 hf).1
            exact ⟨xs[j]'(by omega), by simp [List.getElem?_eq_getElem]⟩
          rw [hx] at h1
          obtain ⟨r, r1, r2, r3⟩ := ih m f.type _ x.1 x.2 hr h1 (fun n hn => hwt n (z8 (j := j) (t := f.type) (d := x.1) (by simp [hf]) (by simp [hx]) n hn))
          refine ⟨r, ?_, r2, r3⟩
          have := RVc.move (rd := BX w) r _ cs.toArray 0 f.offset (by
            intro j v hv
            simp only [List.getElem?_toArray, List.getElem?_take, List.getElem?_drop] at hv ⊢
            split at hv
            . exact hv
            . cases hv) r1
          simpa using this)
        exact ⟨r, r1, r2, by simpa using r3⟩
      | _ => simp at hp
end
end Go.Mx
namespace Go.Mx
open Go Go.RowKit
section
variable (P:Program)
def BQ (t:TypeId) (r:List V):D:=match P.underlying t with
 |some (.struct _)=>.agg (r.map .v)
 |_=>match r with
  | [x]=>.v x
  |_=>.bad
def fD:List TypeId->List (List V)->List D
 |t::ts,r::rs=>BQ P t r::fD ts rs
 |_,_=>[]
structure xb (k:Nat) (t:TypeId) (r:List V):Prop where
 out:Has P k t r
def eC:List TypeId->List (List V)->Prop
 | [],[]=>True
 |t::ts,r::rs=>xb P 12 t r/\eC ts rs
 |_,_=>False
end
section
variable {P:Program} {H:Type} {enc:TypeId×Value->H} {w:World}
def eK (w:World):Gh:=⟨BX w,fun _=>none,fun _=>none⟩
theorem JC {h:Array Obj} {G:Gh} {loc:Nat->Loc} : ∀(r:List V) (j:Nat) (c:Array Value) (off:Nat),RVc G.rd r c off->off+r.length=c.size->RDs h G loc j (r.map .v) (c.toList.drop off)
 | [],j,c,off,_,hs=>by
  have:c.toList.drop off= []:=by simp at hs⊢;omega
  rw [this];simp only [List.map_nil,RDs]
 |x::r,j,c,off,hr,hs=>by
  simp only [RVc] at hr
  obtain⟨⟨v,h1,h2⟩,h3⟩:=hr
  have hlt:off<c.toList.length:=by simp at hs⊢;omega
  have:c.toList.drop off=v::c.toList.drop (off+1):=by
   rw [List.drop_eq_getElem_cons hlt]
   congr 1
   have:=Array.getElem?_eq_some_iff.1 h1
   obtain⟨_,e⟩:=this
   simpa using e
  rw [this]
  simp only [List.map_cons,RDs,RD]
  exact⟨h2,JC r (j+1) c (off+1) h3 (by simp at hs⊢;omega)⟩
theorem PR {base:Nat} {t:TypeId} {v:Value} {d:DataW H} {ps:List MemPlace} (hp:ga P 12 t=true) (hok:Value.okWide P w .any base t v) (ht:DataW.Trod enc P w 0 (fun _=>true) true t v d ps) (hw: ∀n∈d.weights P t,n<=reachBytes) (loc:Nat->Loc):
  ∃r,Has P 12 t r/\RD w.heap (eK w) loc (BQ P t r) v/\bD (BQ P t r)=true:=by
 obtain⟨fuel,ht⟩:=ht
 obtain⟨r,r1,r2,r3⟩:=Sl 12 fuel t _ d ps hp ht hw
 refine⟨r,r2,?_⟩
 have hone:P.cellsOf t=1->(∀cs,v≠ .agg cs)-> ∀x,r= [x]->RD w.heap (eK w) loc (.v x) v/\bD (.v x)=true:=by
  intro _ hna x hx
  subst hx
  simp only [RVc,and_true] at r1
  obtain⟨v',h1,h2⟩:=r1
  have:v.cells= #[v]:=by cases v<;>first|rfl|exact absurd rfl (hna _)
  rw [this] at h1
  simp only [List.getElem?_toArray,List.getElem?_cons_zero,Option.some.injEq] at h1
  subst h1
  exact⟨by simp only [RD];exact h2,rfl⟩
 have hnon:(∀fs,P.underlying t≠some (.struct fs))->(∀cs,v≠ .agg cs)/\P.cellsOf t=1:=by
  intro hns
  unfold ga at hp
  unfold Value.okWide Cell.okWide Cell.ok at hok
  cases hu:P.underlying t with
  |none=>rw [hu] at hp;cases hp
  |some desc=>
   rw [hu] at hp hok
   cases desc<;>simp only [Bool.and_eq_true,beq_iff_eq,reduceCtorEq,Bool.false_eq_true] at hp
   case struct fs=>exact absurd hu (hns fs)
   all_goals (refine⟨fun cs hc=>?_,by first|exact hp|exact hp.2⟩;subst hc;simp at hok)
 unfold BQ
 cases hu:P.underlying t with
 |none=>unfold ga at hp;rw [hu] at hp;cases hp
 |some desc=>
  cases desc with
  |struct fs=>
   simp only
   unfold Value.okWide at hok
   rw [hu] at hok
   simp only at hok
   obtain⟨cs,rfl,hs,_⟩:=hok
   refine⟨?_,?_⟩
   ·simp only [RD]
    refine⟨cs,rfl,?_⟩
    have:=JC (h:=w.heap) (G:=eK w) (loc:=loc) r 0 cs 0 (by simpa [Value.cells,eK] using r1) (by rw [r3,hs];simp)
    simpa using this
   ·simp only [bD,List.all_map,List.all_eq_true]
    intro x _
    rfl
  |_=>
   obtain⟨hna,hc⟩:=hnon (fun fs=>by rw [hu];simp)
   have hr: ∃x,r= [x]:=by
    rw [hc] at r3
    match r,r3 with
    | [x],_=>exact⟨x,rfl⟩
   obtain⟨x,rfl⟩:=hr
   exact hone hc hna x rfl
theorem HW {base:Nat} : ∀ {ts:List TypeId} {vs:List Value} {ds:List (DataW H)} {ps:List MemPlace} (k:Nat),ts.all (ga P 12)=true->(∀(j:Nat) t v,ts[j]? =some t->vs[j]? =some v->Value.okWide P w .any base t v)->DataW.TrodAll enc P w 0 (fun _=>true) true ts vs ds ps->
  (∀n∈DataW.weightsEach P ts ds,n<=reachBytes)-> ∃rs,eC P ts rs/\vs.length=(fD P ts rs).length/\ ∀(j:Nat) (d:D),(fD P ts rs)[j]? =some d-> ∃v,vs[j]? =some v/\RD w.heap (eK w) (Loc.hand (k+j)) d v/\bD d=true
 | [],vs,ds,ps,k,hp,hok,ht,hw=>by
  obtain⟨rfl,rfl,rfl⟩:=ChangeShapes.trodAll_nil ht
  exact⟨[],trivial,rfl,fun j d hd=>by simp [fD] at hd⟩
 |t::ts,vs,ds,ps,k,hp,hok,ht,hw=>by
  obtain⟨v,vs',d,ds',p,q,rfl,rfl,rfl,hd,hrest⟩:=ChangeShapes.trodAll_cons ht
  simp only [List.all_cons,Bool.and_eq_true] at hp
  rw [DataW.weightsEach] at hw
  obtain⟨r,r1,r2,r3⟩:=PR hp.1 (hok 0 t v rfl rfl) hd (fun n hn=>hw n (List.mem_append_left _ hn)) (Loc.hand k)
  obtain⟨rs,s1,s2,s3⟩:=HW (k+1) hp.2 (fun j t v h1 h2=>hok (j+1) t v (by simpa using h1) (by simpa using h2)) hrest (fun n hn=>hw n (List.mem_append_right _ hn))
  refine⟨r::rs,⟨⟨r1⟩,s1⟩,by simp [fD,s2],fun j d hd=>?_⟩
  cases j with
  |zero=>
   simp only [fD,List.getElem?_cons_zero,Option.some.injEq] at hd
   subst hd
   exact⟨v,rfl,by simpa using r2,r3⟩
  |succ j=>
   simp only [fD,List.getElem?_cons_succ] at hd
   obtain⟨v',h1,h2,h3⟩:=s3 j d hd
   exact⟨v',by simpa using h1,by simpa [Nat.add_assoc,Nat.add_comm 1] using h2,h3⟩
theorem Ly {base:Nat} {f:FuncId} {fn:Func} {ts:List TypeId} {args:Array Value} {ds:List (DataW H)} {ps:List MemPlace} (hf:P.funcs[f]? =some fn) (hok:Hc fn=true) (hp:ts.all (ga P 12)=true)
  (hsem: ∀rs,eC P ts rs->Mx.Sem P f (fD P ts rs) [] (.v (.b true)) [])
  (hval: ∀(j:Nat) t v,ts[j]? =some t->args.toList[j]? =some v->Value.okWide P w .any base t v) (ht:DataW.TrodAll enc P w 0 (fun _=>true) true ts args.toList ds ps) (hw: ∀n∈DataW.weightsEach P ts ds,n<=reachBytes):
  Calls P f args w fun e w'=>e= .returned (.bool true)/\Below w.heap.size w w':=by
 obtain⟨rs,h1,h2,h3⟩:=HW 0 hp hval ht hw
 have hrel:Rel w.heap (eK w) #[] ⟨[],[]⟩:=by
  refine⟨⟨?_,?_,?_,?_,?_,?_,?_,?_⟩,fun t=>by simp only [bI,RD],?_,?_,fun o _=>rfl,fun l p _ h=>by simp [eK] at h⟩
  ·intro b c hb
   simp only [eK,BX] at hb
   split at hb
   ·rename_i c' e fr heq
    simp only [Option.some.injEq] at hb
    subst hb
    exact⟨e,fr,heq⟩
   ·cases hb
  all_goals (intros;simp_all [eK])
 have hs:=hsem rs h1 w (eK w) args.toList hrel (fun o cs h=>by simp at h) ⟨h2,fun j d hd=>by simpa using h3 j d hd,fun k j p h=>by simp [eK] at h⟩
 unfold eD at hs
 simp only [Hc,Bool.and_eq_true,Bool.not_eq_true'] at hok
 obtain⟨⟨⟨hb,hn⟩,_⟩,_⟩:=hok
 have hcf:(callFunc f args.toList.toArray).run P w= .ok (.enter f args.toList.toArray) w:=by
  have h1:fn.name≠ "runtime.NumGoroutine" :=by simpa using hn
  cases hb':fn.body with
  |none=>rw [hb'] at hb;cases hb
  |some body=>simp [callFunc,hf,h1,hb']
 rw [hcf] at hs
 simp only [Array.toArray_toList] at hs
 refine hs.mono fun e w' ⟨v,he,G',hR,_,hg,_,hres⟩=>?_
 subst he
 refine⟨?_,hg.step.os,hg.step.tape,hg.step.output,hg.step.size,fun k hk=>hg.step.keep k hk ?_⟩
 ·have:=hres.rd
  simp only [RD,RV] at this
  rw [this]
 ·rintro (⟨o,ho⟩|⟨l,f,hl⟩)
  ·simp [eK] at ho
  ·simp [eK] at hl
end
end Go.Mx
namespace Go.Mx
open Go
section
variable {P:Program} {t e:TypeId} {k:Nat} {r:List V}
theorem AE: ∀(fs:List Field) (r:List V),dR (Has P k) fs r->dR (xb P k) fs r
 | [],r,h=>h
 |f::fs,r,h=>by
  simp only [dR] at*
  obtain⟨a,b,h1,h2,h3⟩:=h
  exact⟨a,b,h1,⟨h2⟩,AE fs b h3⟩
theorem df {q:IntKind} (hu:P.underlying t=some (.int q)) (h:xb P k t r): ∃n,r= [.i q n]/\q.min<=n/\n<=q.max:=by
 replace h:=h.out
 cases k with
 |zero=>exact h.elim
 |succ k=>simp only [Has,hu] at h;exact h
theorem Ox (hu:P.underlying t=some .bool) (h:xb P k t r): ∃x,r= [.b x]:=by
 replace h:=h.out
 cases k with
 |zero=>exact h.elim
 |succ k=>simp only [Has,hu] at h;exact h
theorem eb (hu:P.underlying t=some .string) (h:xb P k t r): ∃s:ByteArray,r= [.s s]/\s.size<=reachBytes:=by
 replace h:=h.out
 cases k with
 |zero=>exact h.elim
 |succ k=>simp only [Has,hu] at h;exact h
theorem dB {n m:Nat} (hu:P.underlying t=some (.slice e)) (hc:P.cellsOf e=n) (hb:P.bytesOf e=m) (h:xb P k t r): ∃l j,r= [.sl n l]/\l.length*m<=reachBytes/\ ∀x∈l,xb P j e x:=by
 replace h:=h.out
 cases k with
 |zero=>exact h.elim
 |succ k=>
  simp only [Has,hu,hc,hb] at h
  obtain⟨l,h1,h2,h3⟩:=h
  exact⟨l,k,h1,h2,fun x hx=>⟨h3 x hx⟩⟩
theorem cZ {fs:Array Field} (hu:P.underlying t=some (.struct fs)) (h:xb P k t r): ∃j,dR (xb P j) fs.toList r:=by
 replace h:=h.out
 cases k with
 |zero=>exact h.elim
 |succ k=>simp only [Has,hu] at h;exact⟨k,AE _ _ h⟩
theorem dU {X:Type} {f:X->List V} {ok:X->Prop} : ∀ {l:List (List V)},(∀r∈l,∃x,r=f x/\ok x)-> ∃xs:List X,l=xs.map f/\ ∀x∈xs,ok x
 | [],_=>⟨[],rfl,fun x hx=>by cases hx⟩
 |r::l,h=>by
  obtain⟨x,h1,h2⟩:=h r List.mem_cons_self
  obtain⟨xs,h3,h4⟩:=dU (l:=l) (fun r hr=>h r (List.mem_cons_of_mem _ hr))
  refine⟨x::xs,by rw [h1,h3];rfl,fun y hy=>?_⟩
  rcases List.mem_cons.1 hy with rfl|hy
  ·exact h2
  ·exact h4 y hy
theorem map_inj {X Y:Type} {f:X->Y} (hf: ∀a b,f a=f b->a=b): ∀ {a b:List X},a.map f=b.map f↔a=b:=by
 intro a b
 constructor
 ·intro h
  induction a generalizing b with
  |nil=>cases b with
   |nil=>rfl
   |cons _ _=>cases h
  |cons x a ih=>cases b with
   |nil=>cases h
   |cons y b=>
    simp only [List.map_cons,List.cons.injEq] at h
    rw [hf _ _ h.1,ih h.2]
 ·intro h;rw [h]
theorem eC.nil {rs:List (List V)} (h:eC P [] rs):rs= []:=by
 cases rs with
 |nil=>rfl
 |cons _ _=>exact h.elim
theorem eC.cons {ts:List TypeId} {rs:List (List V)} (h:eC P (t::ts) rs): ∃r rs',rs=r::rs'/\xb P 12 t r/\eC P ts rs':=by
 cases rs with
 |nil=>exact h.elim
 |cons r rs=>exact⟨r,rs,rfl,h.1,h.2⟩
theorem zG {fs:Array Field} (hu:P.underlying t=some (.struct fs)):BQ P t r= .agg (r.map .v):=by simp only [BQ,hu]
def bY (s:ByteArray):List V:=[.s s]
def u1 (n:Int):List V:=[.i .i64 n]
def cE (n:Int):List V:=[.i .u8 n]
theorem Mv {a b:List ByteArray} :a.map bY=b.map bY↔a=b:=map_inj (fun a b h=>by simpa [bY] using h)
theorem NS {a b:List Int} :a.map u1=b.map u1↔a=b:=map_inj (fun a b h=>by simpa [u1] using h)
theorem NK {a b:List Int} :a.map cE=b.map cE↔a=b:=map_inj (fun a b h=>by simpa [cE] using h)
def okI (n:Int):Prop:=-9223372036854775808<=n/\n<=9223372036854775807
theorem dt {n:Int} (h:IntKind.i64.min<=n/\n<=IntKind.i64.max):okI n:=by
 simp only [IntKind.min,IntKind.max,IntKind.bits,IntKind.signed] at h
 exact⟨by have:=h.1;simp at this;omega,by have:=h.2;simp at this;omega⟩
def okS (s:ByteArray):Prop:=s.size<=140737488351232
def okN (m n:Nat):Prop:=n*m<=140737488351232
theorem nr {n:Int} (h1: -9223372036854775808<=n) (h2:n<=9223372036854775807):IntKind.i64.wrap n=n:=by
 simp [IntKind.wrap,IntKind.min,IntKind.max,IntKind.bits,IntKind.signed];omega
end
end Go.Mx
namespace Go.Mx
open Go
section
variable (T:Nat->Ty) (C:aj) (ν:cL)
def yp (env:Env) (o:Oper):Option (Nat×List Bool):=match o.op,o.dst,o.guard with
 | .binOp .eql t x (.const (.slice none 0 0)) _,some u,none=>match opnd env x,(T t).tk with
  | .v (.sl _ l),.slice _=>some (u,match l with| []=>[true,false]|_::_=>[false])
  |_,_=>none
 |_,_,_=>none
def xn (ops:List Oper):List Oper->St->(St->Prop)->Prop
 | [],σ,K=>K σ
 |o::r,σ,K=>match yp T σ.env o with
  |some (u,bs)=>∀b∈bs,xn ops r { σ with env:=putDst σ.env (some u) (.v (.b b)) } K
  |none=>∃σ',cP T C ν ops o σ=some σ'/\xn ops r σ' K
def dH:Code->St->(Ex->St->Prop)->Prop
 | .skip,σ,K=>K .normal σ
 | .ret,σ,K=>K .ret σ
 | .region id ops false,σ,K=>xn T C ν ops.toList ops.toList σ (fun σ'=>K .normal { σ' with env:=prune (ν.keep id) σ'.env })
 | .seq a b,σ,K=>dH a σ (fun e σ'=>match e with
  | .normal=>dH b σ' K
  |e=>K e σ')
 | .cond (.tmp t) a b,σ,K=>match bI σ.env t with
  | .v (.b x)=>match x with
   |true=>dH a σ K
   |false=>dH b σ K
  |_=>False
 |_,_,_=>False
end
section
variable {P:Program} {w:World} {G:Gh} {tmps:Array Value} {σ σ':St} {ds:List Deferred} {C:aj} {ν:cL} {o:Oper}
theorem Cg (w:World) (d:Nat) (t:TypeId) {e:TypeId} (base:Option Addr) (len cap:Nat) (hu:P.underlying t=some (.slice e)) (b:Bool) (hb:base.isNone=b):(Op.equalIn (d+1) t (.slice base len cap) (.slice none 0 0)).run P w= .ok b w:=by
 cases base with
 |none=>subst hb;simp [Op.equalIn,run_underlying hu]
 |some a=>subst hb;simp [Op.equalIn,run_underlying hu]
theorem I7 {u:Nat} {bs:List Bool} (R:Rel w.heap G tmps σ) (h:yp (ck P) σ.env o=some (u,bs)):o.dst=some u/\o.guard=none/\ ∃b∈bs,dC P G w ⟨tmps,ds⟩ o (.v (.b b)):=by
 unfold yp at h
 split at h<;>first|(cases h;done)|skip
 rename_i t x ut u' hop hdst hg
 split at h<;>first|(cases h;done)|skip
 rename_i sz l e hx htk
 simp only [Option.some.injEq,Prod.mk.injEq] at h
 obtain⟨rfl,rfl⟩:=h
 refine⟨hdst,hg,?_⟩
 have hr:=R.opnd ds x
 rw [hx] at hr
 simp only [RD,RV] at hr
 obtain⟨base,cap,hv,hcap,hl⟩:=hr
 obtain⟨i,hi,hu⟩:=dw htk
 have hrun: ∀b:Bool,base.isNone=b->(execOp (⟨tmps,ds⟩:Act).eval o).run P w= .ok (.value (.bool b)) w:=by
  intro b hb
  have he:(Op.equal t (.slice base l.length cap) (.slice none 0 0)).run P w= .ok b w:=by
   rw [show Op.equal t (.slice base l.length cap) (.slice none 0 0)=Op.equalIn (9999+1) t (.slice base l.length cap) (.slice none 0 0) from rfl]
   exact Cg w 9999 t base l.length cap hu b hb
  simp only [execOp,hop,hv]
  rw [show (⟨tmps,ds⟩:Act).eval (.const (.slice none 0 0))= .slice none 0 0 from rfl]
  have hgd:eqGuard .eql t x (.const (.slice none 0 0)) (.slice base l.length cap) (.slice none 0 0)=pure ():=by
   unfold eqGuard
   first|rfl|(cases x<;>rfl)|(split<;>first|rfl|simp_all)
  rw [hgd]
  simp only [Sem.run_bind,Sem.run_pure,Result.andThen_ok]
  rw [show binOp .eql t (.slice base l.length cap) (.slice none 0 0)=(do pure (.bool (<-Op.equal t (.slice base l.length cap) (.slice none 0 0)))) from rfl,Sem.run_bind,he]
  rfl
 refine⟨base.isNone,?_,.bool base.isNone,hrun _ rfl,rfl,fun loc=>by simp only [RD,RV]⟩
 cases l with
 |nil=>cases base<;>simp
 |cons r l=>
  rcases hl with hl|⟨b,off,c,hb,_⟩
  ·cases hl
  ·subst hb;simp
theorem zo (SC:cj P C) {ops:Array Oper} : ∀(idx:List Nat) (rest:List Oper) (w:World) (G:Gh) (tmps:Array Value) (σ:St) (K:St->Prop),idx.map (ops[·]?)=rest.map some->(∀o∈rest,∀t,o.dst=some t->t<tmps.size)->
  xn (ck P) C ν ops.toList rest σ K->dE w.heap G tmps σ-> ∀(Q:Exit->Act->World->Prop),(∀σ' a' w' G',K σ'->a'.defers=ds->a'.tmps.size=tmps.size->dE w'.heap G' a'.tmps σ'->dq w G σ w' G' σ'->Q .normal a' w')->
  wpOps P ops Q idx ⟨tmps,ds⟩ w
 | [],[],w,G,tmps,σ,K,_,_,he,F,Q,hQ=>hQ σ _ w G he rfl rfl F (dq.refl _ _ _)
 |i::idx,o::rest,w,G,tmps,σ,K,hi,hsz,he,F,Q,hQ=>by
  simp only [List.map_cons,List.cons.injEq] at hi
  rw [wpOps_cons]
  simp only [xn] at he
  have hso:=hsz o (List.mem_cons_self ..)
  split at he
  ·rename_i u bs hn
   obtain⟨hdst,hg,b,hb,hy⟩:=I7 (ds:=ds) F.rel hn
   have hd:=dp.yields F hso hy (.inl rfl)
   unfold wpOp
   rw [hi.1]
   simp only [Region.wanted,hg,if_true]
   refine .inl (hd _ _ ?_)
   rintro⟨tmps1,ds1⟩ w1 G1 hd1 hs1 F1 g1
   simp only at hd1 hs1 F1
   rw [hd1]
   have e:putDst σ.env o.dst (offReg σ.env o.dst (.v (.b b)))=putDst σ.env (some u) (.v (.b b)):=by
    rw [hdst]
    simp only [offReg]
    cases aN (bI σ.env u)<;>simp [iy]
   rw [e] at F1 g1
   refine zo SC idx rest w1 G1 tmps1 _ K hi.2 (fun o' ho' t ht=>by rw [hs1];exact hsz o' (List.mem_cons_of_mem _ ho') t ht) (he b hb) F1 Q ?_
   intro σ2 a2 w2 G2 k2 hd2 hs2 F2 g2
   exact hQ σ2 a2 w2 G2 k2 hd2 (hs2.trans hs1) F2 (g1.trans g2)
  ·obtain⟨σ1,hs,he⟩:=he
   refine FS (ν:=ν) SC hi.1 F hso hs ?_
   rintro⟨tmps1,ds1⟩ w1 G1 hd1 hs1 F1 g1
   simp only at hd1 hs1 F1
   rw [hd1]
   refine zo SC idx rest w1 G1 tmps1 σ1 K hi.2 (fun o' ho' t ht=>by rw [hs1];exact hsz o' (List.mem_cons_of_mem _ ho') t ht) he F1 Q ?_
   intro σ2 a2 w2 G2 k2 hd2 hs2 F2 g2
   exact hQ σ2 a2 w2 G2 k2 hd2 (hs2.trans hs1) F2 (g1.trans g2)
 | [],_::_,_,_,_,_,_,hi,_,_,_,_,_=>by simp at hi
 |_::_,[],_,_,_,_,_,hi,_,_,_,_,_=>by simp at hi
theorem Im (SC:cj P C) {n:Nat} : ∀(c:Code) (w:World) (G:Gh) (tmps:Array Value) (σ:St) (K:Ex->St->Prop),de n c=true->tmps.size=n->dE w.heap G tmps σ->dH (ck P) C ν c σ K->
  ∀Q:Exit->Act->World->Prop,(∀ex e σ' a' w' G',R7 ex e->K ex σ'->a'.defers=ds->a'.tmps.size=tmps.size->dE w'.heap G' a'.tmps σ'->dq w G σ w' G' σ'->Q e a' w')->c.wp P Q ⟨tmps,ds⟩ w:=by
 intro c
 induction c with
 |skip=>
  intro w G tmps σ K _ _ F he Q hQ
  exact wp_skip (hQ .normal _ σ _ w G rfl he rfl rfl F (dq.refl _ _ _))
 |ret=>
  intro w G tmps σ K _ _ F he Q hQ
  exact wp_ret (hQ .ret _ σ _ w G rfl he rfl rfl F (dq.refl _ _ _))
 |region id ops draw=>
  intro w G tmps σ K ok hn F he Q hQ
  cases draw with
  |true=>simp only [dH] at he
  |false=>
   simp only [dH] at he
   refine wp_region (zo SC (List.range ops.size) ops.toList w G tmps σ _ ?_ ?_ he F Q ?_)
   ·apply List.ext_getElem?
    intro i
    simp only [List.getElem?_map,List.getElem?_range]
    by_cases hi:i<ops.size
    ·simp [hi]
    ·simp [hi]
   ·intro o ho t ht
    simp only [de,List.all_eq_true] at ok
    have:=ok o ho
    rw [ht] at this
    rw [hn];simpa using this
   ·intro σ' a' w' G' k h2 h3 F' g'
    obtain⟨G2,R2,S2,c2⟩:=F'.rel.prune (ν.keep id)
    exact hQ .normal _ _ a' w' G2 rfl k h2 h3 ⟨R2,fun k j=>by rw [c2];exact F'.clean k j,F'.low⟩ (g'.trans (S2.goes rfl))
 |seq a b iha ihb=>
  intro w G tmps σ K ok hn F he Q hQ
  simp only [de,Bool.and_eq_true] at ok
  simp only [dH] at he
  refine wp_seq (iha w G tmps σ _ ok.1 hn F he _ ?_)
  intro ex e σ' a' w' G' h1 k h2 h3 F' g'
  cases ex with
  |normal=>
   cases h1
   obtain⟨tmps',ds'⟩:=a'
   simp only at h2 h3 F' k
   simp only [Exit.then]
   rw [h2]
   refine ihb w' G' tmps' σ' K ok.2 (h3.trans hn) F' k Q ?_
   intro ex2 e2 σ2 a2 w2 G2 k1 kk k2 k3 F2 g2
   exact hQ ex2 e2 σ2 a2 w2 G2 k1 kk k2 (k3.trans h3) F2 (g'.trans g2)
  |exit id=>
   cases h1
   exact hQ (.exit id) _ σ' a' w' G' rfl k h2 h3 F' g'
  |ret=>
   cases h1
   exact hQ .ret _ σ' a' w' G' rfl k h2 h3 F' g'
 |cond x a b iha ihb=>
  intro w G tmps σ K ok hn F he Q hQ
  simp only [de,Bool.and_eq_true] at ok
  cases x with
  |tmp t=>
   simp only [dH] at he
   split at he
   ·rename_i x hl
    have hr:=F.rel.env t
    rw [hl] at hr
    have hv:(⟨tmps,ds⟩:Act).eval (.tmp t)= .bool x:=RD.bool hr
    refine wp_cond hv ?_
    cases x with
    |true=>exact iha w G tmps σ K ok.1 hn F he Q hQ
    |false=>exact ihb w G tmps σ K ok.2 hn F he Q hQ
   ·exact he.elim
  |_=>simp [dH] at he
 |_=>intro w G tmps σ K _ _ F he;simp [dH] at he
def Nb (T:Nat->Ty) (n:Nat) (res:List ResultVar) (d:D) (S':bH) (ex:Ex) (σ:St):Prop:=(ex= .normal∨ex= .ret)/\aC T n res σ=some (d,S')
theorem P8 {f:FuncId} {fn:Func} {args:List D} {S S':bH} {d:D} (SC:cj P C) (hf:P.funcs[f]? =some fn) (ok:Hc fn=true) (hargs:args.length<=fn.ntmps)
  (he:dH (ck P) C ν (aU fn) ⟨enter 0 args,S⟩ (Nb (ck P) S.length fn.results.toList d S')):Mx.Sem P f args S d S':=by
 simp only [Hc,Bool.and_eq_true,Bool.not_eq_true'] at ok
 obtain⟨⟨⟨h1,h2⟩,h3⟩,h4⟩:=ok
 cases hb:fn.body with
 |none=>rw [hb] at h1;cases h1
 |some body=>
  have e:aU fn=body:=by simp [aU,hb]
  rw [e] at he
  rw [hb] at h4
  simp only [Option.getD_some] at h4
  refine Kv hf hb h2 hargs ?_
  intro w G0 tmps hsz F0 Q hQ
  refine Im SC body w G0 tmps _ _ h4 hsz F0 he Q ?_
  intro ex e σ a' w' G' k1 k k2 k3 F g
  exact hQ ex e σ a' w' G' k1 k.1 k.2 k2 k3 F g
end
end Go.Mx
namespace Go.Mx
open Go
theorem Sem.frozen {P:Program} {f:FuncId} {args:List D} {S S':bH} {d:D} (h:Mx.Sem P f args S d S') (hv:bD d=true):Mx.Sem P f args S (frz d) S':=by
 intro w G vals R L A
 refine (h w G vals R L A).mono fun v w' ⟨G',R',L',g,len,res⟩=>?_
 obtain⟨G2,R2,S2,rd2,h1,h2⟩:=R'.freezeF (k:=0) (d:=d) (v:=v) ⟨res.rd,fun j p hp=>(res.own 0 j p hp).2,hv⟩
 refine⟨G2,R2,L',g.trans (S2.goes rfl),len,rd2 _,.inl (yM hv).1,?_⟩
 intro k j p hp
 by_cases hk:k=0
 ·subst hk;rw [h1 j] at hp;cases hp
 ·rw [h2 _ (fun q hq=>by simp only [Loc.hand.injEq] at hq;exact hk hq.1)] at hp
  exact absurd (res.own k j p hp).1 hk
end Go.Mx
namespace Go.Mx
open Go
end Go.Mx
namespace Go.Mx
open Go
def eM {α β:Type} (step:α->Option (α⊕β)):Nat->α->Option β
 |0,_=>none
 |n+1,a=>match step a with
  |none=>none
  |some (.inl a')=>eM step n a'
  |some (.inr b)=>some b
theorem gw {α β:Type} {step:α->Option (α⊕β)} : ∀(n m:Nat) (a:α) (b:β),n<=m->eM step n a=some b->eM step m a=some b
 |0,_,_,_,_,h=>by cases h
 |n+1,0,_,_,hm,_=>by omega
 |n+1,m+1,a,b,hm,h=>by
  simp only [eM] at*
  cases hs:step a with
  |none=>rw [hs] at h;cases h
  |some o=>
   rw [hs] at h
   cases o with
   |inl a'=>exact gw n m a' b (by omega) h
   |inr b'=>exact h
open Classical in
def cM {α β:Type} (step:α->Option (α⊕β)) (a:α):Option β:=if h: ∃b n,eM step n a=some b then some h.choose else none
theorem Bb {α β:Type} {step:α->Option (α⊕β)} {n:Nat} {a:α} {b:β} (h:eM step n a=some b):cM step a=some b:=by
 have hx: ∃b n,eM step n a=some b:=⟨b,n,h⟩
 unfold cM
 rw [dif_pos hx]
 obtain⟨m,hm⟩:=hx.choose_spec
 rcases Nat.le_total n m with hl|hl
 ·rw [gw n m a b hl h] at hm;exact hm.symm
 ·rw [gw m n a _ hl hm] at h;exact h
theorem fY {α β:Type} {step:α->Option (α⊕β)} {a:α} {b:β} (h:cM step a=some b): ∃n,eM step n a=some b:=by
 unfold cM at h
 split at h
 ·rename_i hx
  obtain⟨n,hn⟩:=hx.choose_spec
  rw [Option.some.inj h] at hn
  exact⟨n,hn⟩
 ·cases h
theorem Gs {α β:Type} (step:α->Option (α⊕β)) (a:α):cM step a=match step a with
  |none=>none
  |some (.inl a')=>cM step a'
  |some (.inr b)=>some b:=by
 cases hs:step a with
 |none=>
  simp only
  cases h:cM step a with
  |none=>rfl
  |some b=>
   obtain⟨n,hn⟩:=fY h
   cases n with
   |zero=>cases hn
   |succ n=>simp only [eM,hs] at hn;cases hn
 |some o=>cases o with
  |inr b=>exact Bb (n:=1) (by simp only [eM,hs])
  |inl a'=>
   simp only
   cases h:cM step a' with
   |some b=>
    obtain⟨n,hn⟩:=fY h
    exact Bb (n:=n+1) (by simp only [eM,hs];exact hn)
   |none=>
    cases h2:cM step a with
    |none=>rfl
    |some b=>
     obtain⟨n,hn⟩:=fY h2
     cases n with
     |zero=>cases hn
     |succ n=>
      simp only [eM,hs] at hn
      rw [Bb hn] at h;cases h
theorem uc {α β:Type} {step:α->Option (α⊕β)} {a a':α} (h:step a=some (.inl a')):cM step a=cM step a':=by rw [Gs,h]
theorem pZ {α β:Type} {step:α->Option (α⊕β)} {a:α} {b:β} (h:step a=some (.inr b)):cM step a=some b:=by rw [Gs,h]
theorem KJ {α β:Type} {step:α->Option (α⊕β)} {R:α->β->Prop} (h1: ∀a a' b,step a=some (.inl a')->R a' b->R a b) (h2: ∀a b,step a=some (.inr b)->R a b) {a:α} {b:β} (h:cM step a=some b):R a b:=by
 obtain⟨n,hn⟩:=fY h
 clear h
 induction n generalizing a with
 |zero=>cases hn
 |succ n ih=>
  simp only [eM] at hn
  cases hs:step a with
  |none=>rw [hs] at hn;cases hn
  |some o=>
   rw [hs] at hn
   cases o with
   |inl a'=>exact h1 a a' b hs (ih hn)
   |inr b'=>cases hn;exact h2 a b hs
def idx {α:Type} (l:List α) (i:Int):Option α:=if 0<=i then l[i.toNat]? else none
theorem cp {α:Type} {l:List α} {i:Int} {x:α} (h:idx l i=some x):decide (0<=i)=true/\l[i.toNat]? =some x:=by
 unfold idx at h
 by_cases hi:0<=i
 ·rw [if_pos hi] at h;exact⟨decide_eq_true hi,h⟩
 ·rw [if_neg hi] at h;cases h
theorem OQ {α:Type} {l:List α} {i:Int} {x:α} {f:α->List V} (h:idx l i=some x):(l.map f)[i.toNat]? =some (f x):=by
 rw [List.getElem?_map,(cp h).2];rfl
section
variable (T:Nat->Ty) (C:aj) (ν:cL) (body:Code)
def dS.le (L L':dS):Prop:=∀id σ r,L id σ=some r->L' id σ=some r
theorem eU {id:Nat} {c:Code} {σ:St} (L:dS) (h: ¬∃c',c= .loop c'):aH T C L ν (.block id c) σ=dl id (aH T C L ν c σ):=by
 cases c<;>first|rfl|exact absurd ⟨_,rfl⟩ h
theorem fG {L L':dS} (hl:dS.le L L'): ∀(c:Code) (σ:St) (r:Ex×St),aH T C L ν c σ=some r->aH T C L' ν c σ=some r:=by
 intro c
 induction c with
 |skip=>intro σ r h;exact h
 |region id ops draw=>intro σ r h;exact h
 |seq a b iha ihb=>
  intro σ r h
  rw [fi] at*
  cases ha:aH T C L ν a σ with
  |none=>rw [ha] at h;cases h
  |some p=>
   rw [ha] at h
   rw [iha σ p ha]
   obtain⟨e,σ'⟩:=p
   cases e with
   |normal=>exact ihb _ _ h
   |exit i=>exact h
   |ret=>exact h
 |cond x a b iha ihb=>
  intro σ r h
  cases x with
  |tmp t=>
   rw [zE] at*
   unfold FC at*
   split at h
   ·rename_i x heq
    cases x with
    |true=>exact iha _ _ h
    |false=>exact ihb _ _ h
   ·cases h
  |_=>simp [aH] at h
 |loop c ih=>intro σ r h;simp [aH] at h
 |block id c ih=>
  intro σ r h
  by_cases hq: ∃c',c= .loop c'
  ·obtain⟨c',rfl⟩:=hq;exact hl id σ r h
  ·rw [eU T C ν L hq] at h
   rw [eU T C ν L' hq]
   cases hc:aH T C L ν c σ with
   |none=>rw [hc] at h;cases h
   |some p=>rw [hc] at h;rw [ih σ p hc];exact h
 |exit id=>intro σ r h;exact h
 |ret=>intro σ r h;exact h
 |_=>intro σ r h;simp [aH] at h
theorem A9 {L L':dS} (hl:dS.le L L') (n id:Nat) (x:Option (Ex×St)) (r:Ex×St) (h:cN n id L x=some r):cN n id L' x=some r:=by
 unfold cN at*
 split at h
 ·split at h
  ·exact hl _ _ _ h
  ·cases h
 ·exact h
theorem fh: ∀n m,n<=m->dS.le (evL T C ν body n) (evL T C ν body m)
 |0,_,_=>fun id σ r h=>by cases h
 |n+1,0,hm=>by omega
 |n+1,m+1,hm=>fun id σ r h=>by
  have ih:=fh n m (by omega)
  rw [evL] at*
  split at h
  ·rename_i c hc
   skip
   rw [hO] at h⊢
   cases hx:aH T C (evL T C ν body n) ν c σ with
   |none=>rw [hx] at h;cases h
   |some p=>rw [hx] at h;rw [fG T C ν ih c σ p hx];exact A9 ih _ _ _ _ h
  ·cases h
open Classical in
def evW:dS:=fun id σ=>if h: ∃r n,evL T C ν body n id σ=some r then some h.choose else none
theorem Nn {n id:Nat} {σ:St} {r:Ex×St} (h:evL T C ν body n id σ=some r):evW T C ν body id σ=some r:=by
 have hx: ∃r n,evL T C ν body n id σ=some r:=⟨r,n,h⟩
 unfold evW
 rw [dif_pos hx]
 obtain⟨m,hm⟩:=hx.choose_spec
 rcases Nat.le_total n m with hl|hl
 ·rw [fh T C ν body n m hl _ _ _ h] at hm;exact hm.symm
 ·rw [fh T C ν body m n hl _ _ _ hm] at h;exact h
theorem Bh {id:Nat} {σ:St} {r:Ex×St} (h:evW T C ν body id σ=some r): ∃n,evL T C ν body n id σ=some r:=by
 unfold evW at h
 split at h
 ·rename_i hx
  obtain⟨n,hn⟩:=hx.choose_spec
  rw [Option.some.inj h] at hn
  exact⟨n,hn⟩
 ·cases h
theorem Kq (n:Nat):dS.le (evL T C ν body n) (evW T C ν body):=fun _ _ _ h=>Nn T C ν body h
theorem BN: ∀(c:Code) (σ:St) (r:Ex×St),aH T C (evW T C ν body) ν c σ=some r-> ∃n,aH T C (evL T C ν body n) ν c σ=some r:=by
 intro c
 induction c with
 |skip=>intro σ r h;exact⟨0,h⟩
 |region id ops draw=>intro σ r h;exact⟨0,h⟩
 |seq a b iha ihb=>
  intro σ r h
  simp only [fi] at*
  cases ha:aH T C (evW T C ν body) ν a σ with
  |none=>rw [ha] at h;cases h
  |some p=>
   rw [ha] at h
   obtain⟨n,hn⟩:=iha σ p ha
   obtain⟨e,σ'⟩:=p
   cases e with
   |normal=>
    obtain⟨m,hm⟩:=ihb _ _ h
    refine⟨n+m,?_⟩
    rw [fG T C ν (fh T C ν body n (n+m) (by omega)) a σ _ hn]
    exact fG T C ν (fh T C ν body m (n+m) (by omega)) b σ' _ hm
   |exit i=>exact⟨n,by rw [hn];exact h⟩
   |ret=>exact⟨n,by rw [hn];exact h⟩
 |cond x a b iha ihb=>
  intro σ r h
  cases x with
  |tmp t=>
   simp only [zE,FC] at*
   split at h
   ·rename_i x heq
    cases x with
    |true=>exact iha _ _ h
    |false=>exact ihb _ _ h
   ·cases h
  |_=>simp [aH] at h
 |loop c ih=>intro σ r h;simp [aH] at h
 |block id c ih=>
  intro σ r h
  by_cases hq: ∃c',c= .loop c'
  ·obtain⟨c',rfl⟩:=hq;exact Bh T C ν body h
  ·rw [eU T C ν _ hq] at h
   cases hc:aH T C (evW T C ν body) ν c σ with
   |none=>rw [hc] at h;cases h
   |some p=>
    rw [hc] at h
    obtain⟨n,hn⟩:=ih σ p hc
    exact⟨n,by rw [eU T C ν _ hq,hn];exact h⟩
 |exit id=>intro σ r h;exact⟨0,h⟩
 |ret=>intro σ r h;exact⟨0,h⟩
 |_=>intro σ r h;simp [aH] at h
theorem cG {C:aj} {body c:Code} {id:Nat} (h:bE id body=some c) (σ:St):evW T C ν body id σ=cN σ.S.length id (evW T C ν body) (aH T C (evW T C ν body) ν c σ):=by
 have key: ∀r,evW T C ν body id σ=some r↔cN σ.S.length id (evW T C ν body) (aH T C (evW T C ν body) ν c σ)=some r:=by
  intro r
  constructor
  ·intro he
   obtain⟨n,hn⟩:=Bh T C ν body he
   cases n with
   |zero=>cases hn
   |succ n=>
    rw [GK T ν h] at hn
    cases hx:aH T C (evL T C ν body n) ν c σ with
    |none=>rw [hx] at hn;cases hn
    |some p=>rw [hx] at hn;rw [fG T C ν (Kq T C ν body n) c σ p hx];exact A9 (Kq T C ν body n) _ _ _ _ hn
  ·intro he
   cases hx:aH T C (evW T C ν body) ν c σ with
   |none=>rw [hx] at he;cases he
   |some p=>
    rw [hx] at he
    obtain⟨n,hn⟩:=BN T C ν body c σ p hx
    obtain⟨e,σ'⟩:=p
    have fin: ∃m,cN σ.S.length id (evL T C ν body m) (some (e,σ'))=some r:=by
     unfold cN at he
     split at he
     ·rename_i σ1 heq
      cases heq
      split at he
      ·rename_i σ2 hσ2
       obtain⟨m,hm⟩:=Bh T C ν body he
       exact⟨m,by simp only [cN,hσ2];exact hm⟩
      ·cases he
     ·rename_i hne
      exact⟨0,by rw [<-he];unfold cN;split<;>first|rfl|(rename_i heq;exact absurd heq (hne _))⟩
    obtain⟨m,hm⟩:=fin
    refine Nn T C ν body (n:=(n+m)+1) ?_
    rw [GK T ν h]
    rw [fG T C ν (fh T C ν body n (n+m) (by omega)) c σ _ hn]
    exact A9 (fh T C ν body m (n+m) (by omega)) _ _ _ _ hm
 cases ha:evW T C ν body id σ with
 |some r=>exact ((key r).1 ha).symm
 |none=>
  cases hb:cN σ.S.length id (evW T C ν body) (aH T C (evW T C ν body) ν c σ) with
  |none=>rfl
  |some r=>rw [(key r).2 hb] at ha;cases ha
theorem cH {α β:Type} {step:α->Option (α⊕β)} {L:dS} {id:Nat} (enc:α->St) (out:β->Option (Ex×St)) (h: ∀a o,step a=some o->L id (enc a)=Sum.elim (fun a'=>L id (enc a')) (fun b=>out b) o) {a:α} {b:β} (hl:cM step a=some b):L id (enc a)=out b:=by
 refine KJ (R:=fun a b=>L id (enc a)=out b) ?_ ?_ hl
 ·intro a a' b hs hr;rw [h a _ hs];exact hr
 ·intro a b hs;exact h a _ hs
end
theorem cb {P:Program} {C:aj} {ν:cL} {f:FuncId} {fn:Func} {args:List D} {S S':bH} {d:D} (SC:cj P C) (hf:P.funcs[f]? =some fn) (ok:Hc fn=true) (hm:P.follows .mixedOrders=true) (hd':(dM (aU fn)).all (fun p=>Bw p.2 (ν.free p.1))=true) (hargs:args.length<=fn.ntmps)
  (he:cR (ck P) C (evW (ck P) C ν (aU fn)) ν fn.results.toList (aU fn) args S=some (d,S')):Mx.Sem P f args S d S':=by
 have: ∃k,cR (ck P) C (evL (ck P) C ν (aU fn) k) ν fn.results.toList (aU fn) args S=some (d,S'):=by
  unfold cR at he⊢
  cases hx:aH (ck P) C (evW (ck P) C ν (aU fn)) ν (aU fn) ⟨enter 0 args,S⟩ with
  |none=>rw [hx] at he;cases he
  |some p=>
   obtain⟨n,hn⟩:=BN _ _ _ _ _ _ _ hx
   exact⟨n,by rw [hn];rw [hx] at he;exact he⟩
 obtain⟨k,hk⟩:=this
 exact RM SC hf ok hm hd' hargs hk
open Classical in
def aj.addF (C:aj) (f:Nat) {X R:Type} (arg:X->List D×bH) (G:X->Option R) (res:X->R->D×bH):aj:=fun f' a S=>
 if h:f'=f/\ ∃p:X×R,G p.1=some p.2/\arg p.1=(a,S) then some (res h.2.choose.1 h.2.choose.2) else C f' a S
theorem bZ {C:aj} {f:Nat} {X R:Type} {arg:X->List D×bH} {G:X->Option R} {res:X->R->D×bH} (inj: ∀x y,arg x=arg y->x=y) {x:X} {r:R} (h:G x=some r):(aj.addF C f arg G res) f (arg x).1 (arg x).2=some (res x r):=by
 have hx:f=f/\ ∃p:X×R,G p.1=some p.2/\arg p.1=((arg x).1,(arg x).2):=⟨rfl,(x,r),h,rfl⟩
 simp only [aj.addF]
 rw [dif_pos hx]
 obtain⟨h1,h2⟩:=hx.2.choose_spec
 have e:=inj _ _ h2
 rw [e,h] at h1
 rw [e,<-Option.some.inj h1]
theorem ac {C:aj} {f f':Nat} {X R:Type} {arg:X->List D×bH} {G:X->Option R} {res:X->R->D×bH} (h:f'≠f) (a:List D) (S:bH):(aj.addF C f arg G res) f' a S=C f' a S:=by
 simp only [aj.addF]
 rw [dif_neg]
 rintro⟨h1,_⟩
 exact h h1
theorem I5 {C:aj} {f:Nat} {X R:Type} {arg:X->List D×bH} {G:X->Option R} {res:X->R->D×bH} {a:List D} {S:bH} (h: ∀x,arg x≠(a,S)):(aj.addF C f arg G res) f a S=C f a S:=by
 simp only [aj.addF]
 rw [dif_neg]
 rintro⟨_,p,_,hp⟩
 exact h _ hp
theorem aV {P:Program} {C:aj} {f:Nat} {X R:Type} {arg:X->List D×bH} {G:X->Option R} {res:X->R->D×bH} (SC:iB P C) (h: ∀x r,G x=some r->Mx.Sem P f (arg x).1 (arg x).2 (res x r).1 (res x r).2):iB P (aj.addF C f arg G res):=by
 intro f' a S d S' he
 unfold aj.addF at he
 split at he
 ·rename_i hx
  obtain⟨h1,h2⟩:=hx.2.choose_spec
  have h3:=h _ _ h1
  rw [h2] at h3
  simp only [Option.some.injEq] at he
  rw [he] at h3
  rw [hx.1]
  exact h3
 ·exact SC f' a S d S' he
end Go.Mx
namespace Go.Mx
open Go
def fa:D->Bool
 | .v _| .undef| .cut .. | .rp _| .own .. | .nilp=>true
 |_=>false
def calmV:D->Bool
 | .v _| .undef| .cut .. | .rp _| .nilp=>true
 |_=>false
def calmT:D->Bool
 | .agg cs=>cs.all calmV
 |d=>calmV d
def uy:D->Bool
 | .agg cs=>cs.all fa
 | .tup cs=>cs.all calmT
 |d=>fa d
def toP (os:List Nat):D->D
 | .ptr o f=>.ptr (os.idxOf o) f
 |d=>d
def toD (os:List Nat):D->D
 | .clo f cs=>.clo f (cs.map (toP os))
 |d=>toP os d
def Lc (n:Nat):D->Bool
 | .ptr o _=>decide (o<n)
 |d=>fa d&& !bG d
def sN (n:Nat):D->Bool
 | .clo _ cs=>cs.all (Lc n)
 | .ptr o _=>decide (o<n)
 |d=>uy d
def rJ (S:bH):List Nat->Option bH
 | []=>some []
 |o::os=>match S[o]? with
  |some cs=>match rJ S os with
   |some r=>some (cs::r)
   |none=>none
  |none=>none
def tP:bH->List Nat->bH->bH
 |S,o::os,cs::r=>tP (S.set o cs) os r
 |S,_,_=>S
def gm (S:bH):Bool:=S.all (fun cs=>cs.all fa)
def rF (f:D->D) (S:bH):bH:=S.map (·.map f)
def rH (os:List Nat):D->D
 | .ptr i f=>.ptr (os.getD i 0) f
 |d=>d
def inP (os:List Nat):D->Bool
 | .ptr o _=>os.contains o
 |d=>fa d
def inS (os:List Nat) (S:bH):Bool:=S.all (fun cs=>cs.all (inP os))
def zv (n:Nat):D->Bool
 | .ptr o _=>decide (o<n)
 |d=>fa d
def w8:Nat->bH->Bool
 |n,cs::S=>cs.all (zv n)&&w8 (n+1) S
 |_,[]=>true
def Cs:List Nat->bH->Bool
 |o::os,cs::S=>cs.all (zv o)&&Cs os S
 |_,_=>true
def EU (os:List Nat):D->Bool
 | .ptr o _=>os.contains o
 |_=>true
def A4 (os:List Nat):D->Bool
 | .clo _ cs=>cs.all (EU os)
 |d=>EU os d
def aj.wideP (C:aj):aj:=fun f args S=>
 let os:=nH S (go args)
 match rJ S os with
 |some S0=>bif inS os S0&&w8 0 (rF (toP os) S0)&&args.all (sN S.length)&&args.all (A4 os)&&os.Nodup then (match C f (args.map (toD os)) (rF (toP os) S0) with
  |some (d,S1)=>bif uy d&&w8 0 S1&&Cs os (rF (rH os) S1)&&S1.length==S0.length then some (d,tP S os (rF (rH os) S1)) else none
  |none=>none) else none
 |none=>none
def aj.wide (C:aj):aj:=fun f args S=>match S with
 | []=>match C f args [] with
  |some (d,[])=>some (d,[])
  |_=>none
 |S=>match rJ S (go args) with
  |some S0=>bif gm S0&&args.all (sN S.length)&&(go args).Nodup then (match C f (args.map (toD (go args))) S0 with
   |some (d,S1)=>bif uy d&&gm S1&&S1.length==S0.length then some (d,tP S (go args) S1) else none
   |none=>none) else C.wideP f args S
  |none=>none
theorem Dh {S:bH} : ∀ {os:List Nat} {S0:bH},rJ S os=some S0->S0.length=os.length
 | [],_,h=>by cases h;rfl
 |o::os,S0,h=>by
  simp only [rJ] at h
  split at h<;>try (cases h;done)
  split at h<;>try (cases h;done)
  rename_i r hr
  cases h
  simp [Dh hr]
theorem DT {S:bH} : ∀ {os:List Nat} {S0:bH},rJ S os=some S0-> ∀(i o:Nat),os[i]? =some o-> ∃cs,S0[i]? =some cs/\S[o]? =some cs
 | [],_,_,i,o,ho=>by simp at ho
 |q::os,S0,h,i,o,ho=>by
  simp only [rJ] at h
  split at h<;>try (cases h;done)
  rename_i cs hcs
  split at h<;>try (cases h;done)
  rename_i r hr
  cases h
  cases i with
  |zero=>simp at ho;subst ho;exact⟨cs,rfl,hcs⟩
  |succ i=>simpa using DT hr i o (by simpa using ho)
theorem ic: ∀(S:bH) (os:List Nat) (S1:bH),(tP S os S1).length=S.length
 |S,[],_=>by simp [tP]
 |S,_::_,[]=>by simp [tP]
 |S,o::os,cs::r=>by simp only [tP];rw [ic];simp
theorem hL: ∀(S:bH) (os:List Nat) (S1:bH) (o:Nat),o∉os->(tP S os S1)[o]? =S[o]?
 |S,[],_,_,_=>by simp [tP]
 |S,_::_,[],_,_=>by simp [tP]
 |S,q::os,cs::r,o,h=>by
  simp only [List.mem_cons,not_or] at h
  simp only [tP]
  rw [hL _ os r o h.2,List.getElem?_set_ne (Ne.symm h.1)]
theorem FV: ∀(S:bH) (os:List Nat) (S1:bH),os.Nodup->S1.length=os.length->(∀o∈os,o<S.length)-> ∀(i o:Nat),os[i]? =some o->(tP S os S1)[o]? =S1[i]?
 |S,[],_,_,_,_,i,o,h=>by simp at h
 |S,_::_,[],_,hl,_,_,_,_=>by simp at hl
 |S,q::os,cs::r,nd,hl,lt,i,o,h=>by
  simp only [List.nodup_cons] at nd
  simp only [tP]
  cases i with
  |zero=>
   simp at h;subst h
   rw [hL _ os r q nd.1]
   simp [lt q (by simp)]
  |succ i=>
   have:=FV (S.set q cs) os r nd.2 (by simpa using hl) (fun o ho=>by simpa using lt o (by simp [ho])) i o (by simpa using h)
   simpa using this
theorem RD.plainC {h:Array Obj} {G G':Gh} {l l':Loc} {d:D} {v:Value} (hd:fa d=true) (hrd:cS G.rd G'.rd) (how: ∀p,G.ow l=some p->G'.ow l'=some p) (hr:RD h G (fun _=>l) d v):RD h G' (fun _=>l') d v:=by
 cases d with
 |v x=>simp only [RD] at*;exact RV.mono hrd _ _ hr
 |undef=>simpa only [RD] using hr
 |own sz m=>
  simp only [RD,wa] at*
  rcases hr with hr|⟨b,off,cap,c,e,fr,h1,h2,h3,h4,h5,h6,h7⟩
  ·exact .inl hr
  ·exact .inr ⟨b,off,cap,c,e,fr,h1,how _ h2,h3,h4,h5,h6,RVr.mono hrd _ _ _ _ h7⟩
 |cut sz m=>
  simp only [RD] at*
  obtain⟨base,h1,h2⟩:=hr
  exact⟨base,h1,h2.imp id (fun ⟨b,off,c,g1,g2,g3⟩=>⟨b,off,c,g1,hrd _ _ g2,RVr.mono hrd _ _ _ _ g3⟩)⟩
 |rp c=>
  simp only [RD] at*
  obtain⟨b,off,c',g1,g2,g3⟩:=hr
  exact⟨b,off,c',g1,hrd _ _ g2,RVc.mono hrd _ _ _ g3⟩
 |nilp=>simpa only [RD] using hr
 |_=>simp [fa] at hd
theorem RDs.plainC {h:Array Obj} {G G':Gh} {loc loc':Nat->Loc} (hrd:cS G.rd G'.rd): ∀(cs:List D) (vs:List Value) (j j':Nat),cs.all fa=true->(∀i p,G.ow (loc (j+i))=some p->G'.ow (loc' (j'+i))=some p)->RDs h G loc j cs vs->RDs h G' loc' j' cs vs
 | [],[],_,_,_,_,_=>by simp only [RDs]
 |d::cs,v::vs,j,j',hd,how,hr=>by
  simp only [List.all_cons,Bool.and_eq_true] at hd
  simp only [RDs] at*
  refine⟨RD.plainC hd.1 hrd (fun p hp=>by simpa using how 0 p (by simpa using hp)) hr.1,RDs.plainC hrd cs vs (j+1) (j'+1) hd.2 (fun i p hp=>?_) hr.2⟩
  have:=how (i+1) p (by rw [show j+(i+1)=j+1+i by omega];exact hp)
  rw [show j'+1+i=j'+(i+1) by omega];exact this
 | [],_::_,_,_,_,_,hr=>by simp only [RDs] at hr
 |_::_,[],_,_,_,_,hr=>by simp only [RDs] at hr
theorem RD.calmV {h:Array Obj} {G G':Gh} {loc loc':Nat->Loc} {d:D} {v:Value} (hd:Mx.calmV d=true) (hrd:cS G.rd G'.rd) (hr:RD h G loc d v):RD h G' loc' d v:=by
 cases d with
 |v x=>simp only [RD] at*;exact RV.mono hrd _ _ hr
 |undef=>simpa only [RD] using hr
 |cut sz m=>
  simp only [RD] at*
  obtain⟨base,h1,h2⟩:=hr
  exact⟨base,h1,h2.imp id (fun ⟨b,off,c,g1,g2,g3⟩=>⟨b,off,c,g1,hrd _ _ g2,RVr.mono hrd _ _ _ _ g3⟩)⟩
 |rp c=>
  simp only [RD] at*
  obtain⟨b,off,c',g1,g2,g3⟩:=hr
  exact⟨b,off,c',g1,hrd _ _ g2,RVc.mono hrd _ _ _ g3⟩
 |nilp=>simpa only [RD] using hr
 |_=>simp [Mx.calmV] at hd
theorem RDs.calmV {h:Array Obj} {G G':Gh} {loc loc':Nat->Loc} (hrd:cS G.rd G'.rd): ∀(cs:List D) (vs:List Value) (j j':Nat),cs.all Mx.calmV=true->RDs h G loc j cs vs->RDs h G' loc' j' cs vs
 | [],[],_,_,_,_=>by simp only [RDs]
 |d::cs,v::vs,j,j',hd,hr=>by
  simp only [List.all_cons,Bool.and_eq_true] at hd
  simp only [RDs] at*
  exact⟨RD.calmV hd.1 hrd hr.1,RDs.calmV hrd cs vs (j+1) (j'+1) hd.2 hr.2⟩
 | [],_::_,_,_,_,hr=>by simp only [RDs] at hr
 |_::_,[],_,_,_,hr=>by simp only [RDs] at hr
theorem RD.calmT {h:Array Obj} {G G':Gh} {loc loc':Nat->Loc} {d:D} {v:Value} (hd:Mx.calmT d=true) (hrd:cS G.rd G'.rd) (hr:RD h G loc d v):RD h G' loc' d v:=by
 cases d with
 |agg cs=>
  simp only [RD] at*
  obtain⟨vs,h1,h2⟩:=hr
  exact⟨vs,h1,RDs.calmV hrd cs _ 0 0 (by simpa [Mx.calmT] using hd) h2⟩
 |_=>exact RD.calmV (by simpa [Mx.calmT] using hd) hrd hr
theorem RD.plain {h:Array Obj} {G G':Gh} {k:Nat} {d:D} {v:Value} (hd:uy d=true) (hrd:cS G.rd G'.rd) (how: ∀j p,G.ow (.hand k j)=some p->G'.ow (.hand k j)=some p) (hr:RD h G (Loc.hand k) d v):RD h G' (Loc.hand k) d v:=by
 have one: ∀d v,fa d=true->RD h G (Loc.hand k) d v->RD h G' (Loc.hand k) d v:=by
  intro d v hd hr
  cases d with
  |own sz m=>
   have hr':RD h G (fun _=>Loc.hand k 0) (.own sz m) v:=by simpa only [RD] using hr
   have:=RD.plainC (l':=Loc.hand k 0) hd hrd (how 0) hr'
   simpa only [RD] using this
  |v x=>simp only [RD] at*;exact RV.mono hrd _ _ hr
  |undef=>simpa only [RD] using hr
  |cut sz m=>
   have hr':RD h G (fun _=>Loc.hand k 0) (.cut sz m) v:=by simpa only [RD] using hr
   have:=RD.plainC (l':=Loc.hand k 0) hd hrd (how 0) hr'
   simpa only [RD] using this
  |rp c=>
   have hr':RD h G (fun _=>Loc.hand k 0) (.rp c) v:=by simpa only [RD] using hr
   have:=RD.plainC (l':=Loc.hand k 0) hd hrd (how 0) hr'
   simpa only [RD] using this
  |nilp=>simpa only [RD] using hr
  |_=>simp [fa] at hd
 cases d with
 |agg cs=>
  simp only [RD] at*
  obtain⟨vs,h1,h2⟩:=hr
  exact⟨vs,h1,RDs.plainC hrd cs _ 0 0 (by simpa [uy] using hd) (fun i p hp=>how _ p hp) h2⟩
 |tup cs=>
  simp only [RD] at*
  obtain⟨vs,h1,h2⟩:=hr
  have hh: ∀(cs:List D) (vs:List Value) (j:Nat),cs.all Mx.calmT=true->RDs h G (fun _=>Loc.nowhere) j cs vs->RDs h G' (fun _=>Loc.nowhere) j cs vs:=by
   intro cs
   induction cs with
   |nil=>intro vs j _ hr;cases vs with
    |nil=>simp only [RDs]
    |cons _ _=>simp only [RDs] at hr
   |cons d r ih=>intro vs j hc hr;cases vs with
    |nil=>simp only [RDs] at hr
    |cons v vs=>
     simp only [List.all_cons,Bool.and_eq_true] at hc
     simp only [RDs] at*
     exact⟨RD.calmT hc.1 hrd hr.1,ih vs _ hc.2 hr.2⟩
  exact⟨vs,h1,hh cs _ 0 (by simpa [uy] using hd) h2⟩
 |_=>exact one _ v (by simpa [uy] using hd) hr
def eG (G:Gh) (os:List Nat):Gh where
 rd:=G.rd
 ob:=fun i=>match os[i]? with|some o=>G.ob o|none=>none
 ow:=fun l=>match l with
  | .hand k j=>G.ow (.hand k j)
  | .cell i off=>match os[i]? with|some o=>G.ow (.cell o off)|none=>none
  |_=>none
theorem LS {G:Gh} {os:List Nat} {i o:Nat} (h:os[i]? =some o) (off:Nat):(eG G os).ow (.cell i off)=G.ow (.cell o off):=by simp only [eG,h]
theorem yb {G:Gh} {os:List Nat} {i o:Nat} (h:os[i]? =some o):(eG G os).ob i=G.ob o:=by simp only [eG,h]
theorem eW {G:Gh} {os:List Nat} {i b:Nat} (h:(eG G os).ob i=some b): ∃o,os[i]? =some o/\G.ob o=some b:=by
 simp only [eG] at h
 split at h
 ·rename_i o ho;exact⟨o,ho,h⟩
 ·cases h
theorem gA {G:Gh} {os:List Nat} {l:Loc} {p:Nat×Nat} (h:(eG G os).ow l=some p):(∃k j,l= .hand k j/\G.ow (.hand k j)=some p)∨(∃i off o,l= .cell i off/\os[i]? =some o/\G.ow (.cell o off)=some p):=by
 cases l with
 |hand k j=>exact .inl ⟨k,j,rfl,h⟩
 |cell i off=>
  simp only [eG] at h
  split at h
  ·rename_i o ho;exact .inr ⟨i,off,o,rfl,ho,h⟩
  ·cases h
 |_=>cases h
def upL (os:List Nat):Loc->Loc
 | .cell i off=>match os[i]? with|some o=>.cell o off|none=>.nowhere
 |l=>l
theorem fy {G:Gh} {os:List Nat} {l:Loc} {p:Nat×Nat} (h:(eG G os).ow l=some p):G.ow (upL os l)=some p:=by
 rcases gA h with⟨k,j,rfl,h1⟩|⟨i,off,o,rfl,h1,h2⟩
 ·exact h1
 ·simp only [upL,h1];exact h2
theorem EH {os:List Nat} (nd:os.Nodup) {i i' o:Nat} (h:os[i]? =some o) (h':os[i']? =some o):i=i':=by
 have hi:i<os.length:=by
  rcases Nat.lt_or_ge i os.length with hl|hl
  ·exact hl
  ·rw [List.getElem?_eq_none hl] at h;cases h
 exact (List.getElem?_inj hi nd).1 (h.trans h'.symm)
theorem NP {h:Array Obj} {G:Gh} {os:List Nat} (nd:os.Nodup) (I:Inv h G):Inv h (eG G os) where
 rd_ok:=I.rd_ok
 ob_lt:=fun i b hb=>by obtain⟨o,_,h2⟩:=eW hb;exact I.ob_lt o b h2
 ob_rd:=fun i b hb=>by obtain⟨o,_,h2⟩:=eW hb;exact I.ob_rd o b h2
 ob_inj:=fun i i' b hb hb'=>by
  obtain⟨o,h1,h2⟩:=eW hb
  obtain⟨o',h1',h2'⟩:=eW hb'
  have:=I.ob_inj o o' b h2 h2'
  subst this
  exact EH nd h1 h1'
 ow_lt:=fun l b f hl=>I.ow_lt _ b f (fy hl)
 ow_rd:=fun l b f hl=>I.ow_rd _ b f (fy hl)
 ow_ob:=fun l b f i hl hb=>by obtain⟨o,_,h2⟩:=eW hb;exact I.ow_ob _ b f o (fy hl) h2
 ow_inj:=fun l l' b f f' hl hl'=>by
  have e:=I.ow_inj _ _ b f f' (fy hl) (fy hl')
  rcases gA hl with⟨k,j,rfl,h1⟩|⟨i,off,o,rfl,h1,h2⟩<;>rcases gA hl' with⟨k',j',rfl,h1'⟩|⟨i',off',o',rfl,h1',h2'⟩
  ·exact e
  ·simp only [upL,h1'] at e;cases e
  ·simp only [upL,h1] at e;cases e
  ·simp only [upL,h1,h1',Loc.cell.injEq] at e
   obtain⟨rfl,rfl⟩:=e
   rw [EH nd h1 h1']
theorem LG {G:Gh} {os:List Nat} {b:Nat} (h:mine (eG G os) b):mine G b:=by
 rcases h with⟨i,hi⟩|⟨l,f,hl⟩
 ·obtain⟨o,_,h2⟩:=eW hi;exact .inl ⟨o,h2⟩
 ·exact .inr ⟨_,f,fy hl⟩
theorem RD.toP {h:Array Obj} {G:Gh} {os:List Nat} {l:Loc} {n:Nat} {d:D} {v:Value} (ha:Lc n d=true) (hin: ∀o f,d= .ptr o f->os[os.idxOf o]? =some o) (hr:RD h G (fun _=>l) d v):RD h (eG G os) (fun _=>l) (Mx.toP os d) v:=by
 cases d with
 |ptr o f=>
  simp only [Mx.toP,RD] at*
  obtain⟨b,h1,h2⟩:=hr
  exact⟨b,by rw [yb (hin o f rfl)];exact h1,h2⟩
 |own sz m=>simp [Lc,bG] at ha
 |v x=>exact RD.calmV (G:=G) rfl (cS.refl _) hr
 |undef=>exact RD.calmV (G:=G) rfl (cS.refl _) hr
 |cut _ _=>exact RD.calmV (G:=G) rfl (cS.refl _) hr
 |rp _=>exact RD.calmV (G:=G) rfl (cS.refl _) hr
 |nilp=>exact RD.calmV (G:=G) rfl (cS.refl _) hr
 |_=>simp [Lc,fa] at ha
theorem It {os:List Nat} {cs:List D} (h:cs.all aM=true):(cs.map (Mx.toP os)).all aM=true:=by
 rw [List.all_eq_true] at*
 intro d hd
 obtain⟨e,he,rfl⟩:=List.mem_map.1 hd
 have:=h e he
 cases e<;>first|rfl|exact this
theorem Fk {os:List Nat} {cs:List D} (h:cs.all aM=true):(cs.map (rH os)).all aM=true:=by
 rw [List.all_eq_true] at*
 intro d hd
 obtain⟨e,he,rfl⟩:=List.mem_map.1 hd
 have:=h e he
 cases e<;>first|rfl|exact this
theorem BB {f:D->D} {S:bH} {i:Nat} {cs:List D} (h:(rF f S)[i]? =some cs): ∃c0,S[i]? =some c0/\cs=c0.map f:=by
 unfold rF at h
 rw [List.getElem?_map] at h
 cases hc:S[i]? with
 |none=>rw [hc] at h;cases h
 |some c0=>rw [hc] at h;cases h;exact⟨c0,rfl,rfl⟩
theorem BL {f:D->D} {S:bH} {i:Nat} {cs:List D} (h:S[i]? =some cs):(rF f S)[i]? =some (cs.map f):=by
 unfold rF;rw [List.getElem?_map,h];rfl
theorem Nu {n:Nat} {d:D} (h:zv n d=true):lowC n d=true:=by
 cases d<;>first|rfl|exact h|simp [zv,fa] at h
theorem AH: ∀ {S:bH} {n i:Nat} {cs:List D},w8 n S=true->S[i]? =some cs->cs.all (zv (n+i))=true
 | [],_,_,_,_,h=>by simp at h
 |c::S,n,0,cs,h,hi=>by simp at hi;subst hi;simp only [w8,Bool.and_eq_true] at h;exact h.1
 |c::S,n,i+1,cs,h,hi=>by
  simp only [w8,Bool.and_eq_true] at h
  have:=AH h.2 (by simpa using hi)
  rw [show n+(i+1)=n+1+i by omega];exact this
theorem Hu: ∀ {os:List Nat} {S:bH} {i o:Nat} {cs:List D},Cs os S=true->os[i]? =some o->S[i]? =some cs->cs.all (zv o)=true
 | [],_,_,_,_,_,h,_=>by simp at h
 |_::_,[],_,_,_,_,_,h=>by simp at h
 |q::os,c::S,0,o,cs,h,ho,hi=>by
  simp at ho hi;subst ho;subst hi;simp only [Cs,Bool.and_eq_true] at h;exact h.1
 |q::os,c::S,i+1,o,cs,h,ho,hi=>by
  simp only [Cs,Bool.and_eq_true] at h
  exact Hu h.2 (by simpa using ho) (by simpa using hi)
theorem TC {S:bH} (h: ∀(o:Nat) (cs:List D),S[o]? =some cs->cs.all (zv o)=true):Low S:=by
 intro o cs hcs
 have:=h o cs hcs
 rw [List.all_eq_true] at*
 exact fun d hd=>Nu (this d hd)
theorem RDs.toP {h:Array Obj} {G:Gh} {os:List Nat} {n:Nat} : ∀(cs:List D) (vs:List Value) (j:Nat),cs.all (Lc n)=true->(∀o f,D.ptr o f∈cs->os[os.idxOf o]? =some o)->RDs h G (fun _=>Loc.nowhere) j cs vs->RDs h (eG G os) (fun _=>Loc.nowhere) j (cs.map (Mx.toP os)) vs
 | [],[],_,_,_,_=>by simp only [List.map_nil,RDs]
 |d::cs,v::vs,j,ha,hin,hr=>by
  simp only [List.all_cons,Bool.and_eq_true] at ha
  simp only [List.map_cons,RDs] at*
  exact⟨RD.toP ha.1 (fun o f hd=>hin o f (by rw [hd];simp)) hr.1,RDs.toP cs vs (j+1) ha.2 (fun o f hd=>hin o f (by simp [hd])) hr.2⟩
 | [],_::_,_,_,_,hr=>by simp only [RDs] at hr
 |_::_,[],_,_,_,hr=>by simp only [RDs] at hr
def HP (o:Nat):D->Prop
 | .ptr q _=>q=o
 | .clo _ cs=>∃f,D.ptr o f∈cs
 |_=>False
theorem RD.toD {h:Array Obj} {G:Gh} {os:List Nat} {k n:Nat} {d:D} {v:Value} (ha:sN n d=true) (hin: ∀o,HP o d->os[os.idxOf o]? =some o) (hr:RD h G (Loc.hand k) d v):RD h (eG G os) (Loc.hand k) (Mx.toD os d) v:=by
 cases d with
 |clo f cs=>
  simp only [Mx.toD,RD] at*
  obtain⟨vs,h1,h2⟩:=hr
  exact⟨vs,h1,RDs.toP cs _ 0 (by simpa [sN] using ha) (fun o g hg=>hin o ⟨g,hg⟩) h2⟩
 |ptr o f=>
  simp only [Mx.toD,Mx.toP,RD] at*
  obtain⟨b,h1,h2⟩:=hr
  exact⟨b,by rw [yb (hin o rfl)];exact h1,h2⟩
 |_=>exact RD.plain (G:=G) (G':=eG G os) ha (cS.refl _) (fun _ _ hp=>hp) hr
theorem NU {os:List Nat} {n:Nat} {d:D} (ha:sN n d=true) (hv:bD d=true):bD (toD os d)=true/\ ∀j,cW (toD os d) j=cW d j:=by
 cases d with
 |clo f cs=>
  refine⟨?_,fun _=>rfl⟩
  simp only [toD,bD,aM] at*
  rw [List.all_eq_true] at*
  intro d' hd'
  obtain⟨d,hd,rfl⟩:=List.mem_map.1 hd'
  have:=hv d hd
  cases d<;>first|rfl|simp [bJ] at this
 |ptr o f=>exact⟨rfl,fun _=>rfl⟩
 |_=>exact⟨hv,fun _=>rfl⟩
def u9 (G G1:Gh) (os:List Nat):Gh where
 rd:=G1.rd
 ob:=G.ob
 ow:=fun l=>match l with
  | .hand k j=>G1.ow (.hand k j)
  | .cell o off=>bif os.contains o then G1.ow (.cell (os.idxOf o) off) else G.ow (.cell o off)
  |_=>none
theorem fT {os:List Nat} {o:Nat} (h:o∈os):os[os.idxOf o]? =some o:=by
 have hl:os.idxOf o<os.length:=List.idxOf_lt_length_of_mem h
 rw [List.getElem?_eq_getElem hl,List.getElem_idxOf hl]
theorem Ib {G G1:Gh} {os:List Nat} {o:Nat} (h:o∈os) (off:Nat):(u9 G G1 os).ow (.cell o off)=G1.ow (.cell (os.idxOf o) off):=by
 simp [u9,h]
theorem yO {G G1:Gh} {os:List Nat} {o:Nat} (h:o∉os) (off:Nat):(u9 G G1 os).ow (.cell o off)=G.ow (.cell o off):=by
 simp [u9,h]
theorem eH {G G1:Gh} {os:List Nat} {l:Loc} {p:Nat×Nat} (h:(u9 G G1 os).ow l=some p):
  (∃k j,l= .hand k j/\G1.ow (.hand k j)=some p)∨(∃o off,l= .cell o off/\o∈os/\G1.ow (.cell (os.idxOf o) off)=some p)∨(∃o off,l= .cell o off/\o∉os/\G.ow (.cell o off)=some p):=by
 cases l with
 |hand k j=>exact .inl ⟨k,j,rfl,h⟩
 |cell o off=>
  by_cases ho:o∈os
  ·rw [Ib ho] at h;exact .inr (.inl ⟨o,off,rfl,ho,h⟩)
  ·rw [yO ho] at h;exact .inr (.inr ⟨o,off,rfl,ho,h⟩)
 |_=>cases h
theorem RD.notP {h:Array Obj} {G G':Gh} {l l':Loc} {g:D->D} {d:D} {v:Value} (hg: ∀d,fa d=true->g d=d) (hd:fa d=true) (hrd:cS G.rd G'.rd) (how: ∀p,G.ow l=some p->G'.ow l'=some p) (hr:RD h G (fun _=>l) d v):RD h G' (fun _=>l') (g d) v:=by
 rw [hg d hd];exact RD.plainC hd hrd how hr
theorem Oh {os:List Nat} (d:D) (h:fa d=true):Mx.toP os d=d:=by cases d<;>first|rfl|simp [fa] at h
theorem Hn {os:List Nat} (d:D) (h:fa d=true):rH os d=d:=by cases d<;>first|rfl|simp [fa] at h
theorem RDs.cellT {h:Array Obj} {G:Gh} {os:List Nat} {i o:Nat} (hi:os[i]? =some o): ∀(cs:List D) (vs:List Value) (j:Nat),cs.all (inP os)=true->RDs h G (Loc.cell o) j cs vs->RDs h (eG G os) (Loc.cell i) j (cs.map (Mx.toP os)) vs
 | [],[],_,_,_=>by simp only [List.map_nil,RDs]
 |d::cs,v::vs,j,ha,hr=>by
  simp only [List.all_cons,Bool.and_eq_true] at ha
  simp only [List.map_cons,RDs] at*
  refine⟨?_,RDs.cellT hi cs vs (j+1) ha.2 hr.2⟩
  have h1:=ha.1;have h2:=hr.1
  have no: ∀d,fa d=true->RD h G (fun _=>Loc.cell o j) d v->RD h (eG G os) (fun _=>Loc.cell i j) (Mx.toP os d) v:=fun d hd hr=>RD.notP (G:=G) (G':=eG G os) (l:=Loc.cell o j) (l':=Loc.cell i j) (g:=Mx.toP os) Oh hd (cS.refl G.rd) (fun p hp=>by rw [LS hi];exact hp) hr
  cases d with
  |ptr q f=>
   simp only [Mx.toP,RD] at*
   obtain⟨b,g1,g2⟩:=h2
   exact⟨b,by rw [yb (fT (by simpa [inP] using h1))];exact g1,g2⟩
  |_=>exact no _ h1 h2
 | [],_::_,_,_,hr=>by simp only [RDs] at hr
 |_::_,[],_,_,hr=>by simp only [RDs] at hr
theorem RDs.cellF {h:Array Obj} {G G1:Gh} {os:List Nat} {o:Nat} (ho:o∈os) (hob: ∀i o,os[i]? =some o->G1.ob i=G.ob o): ∀(cs:List D) (vs:List Value) (j:Nat),cs.all (zv os.length)=true->RDs h G1 (Loc.cell (os.idxOf o)) j cs vs->RDs h (u9 G G1 os) (Loc.cell o) j (cs.map (rH os)) vs
 | [],[],_,_,_=>by simp only [List.map_nil,RDs]
 |d::cs,v::vs,j,ha,hr=>by
  simp only [List.all_cons,Bool.and_eq_true] at ha
  simp only [List.map_cons,RDs] at*
  refine⟨?_,RDs.cellF ho hob cs vs (j+1) ha.2 hr.2⟩
  have h1:=ha.1;have h2:=hr.1
  have no: ∀d,fa d=true->RD h G1 (fun _=>Loc.cell (os.idxOf o) j) d v->RD h (u9 G G1 os) (fun _=>Loc.cell o j) (rH os d) v:=fun d hd hr=>RD.notP (G:=G1) (G':=u9 G G1 os) (l:=Loc.cell (os.idxOf o) j) (l':=Loc.cell o j) (g:=rH os) Hn hd (cS.refl G1.rd) (fun p hp=>by rw [Ib ho];exact hp) hr
  cases d with
  |ptr q f=>
   simp only [rH,RD] at*
   obtain⟨b,g1,g2⟩:=h2
   have hq:os[q]? =some (os.getD q 0):=by
    have:q<os.length:=by simpa [zv] using h1
    simp [List.getD,List.getElem?_eq_getElem this]
   exact⟨b,(hob q _ hq).symm.trans g1,g2⟩
  |_=>exact no _ h1 h2
 | [],_::_,_,_,hr=>by simp only [RDs] at hr
 |_::_,[],_,_,hr=>by simp only [RDs] at hr
theorem LN {n m:Nat} {cs:List D} (hnm:n<=m) (h:cs.all (zv n)=true):cs.all (zv m)=true:=by
 rw [List.all_eq_true] at*
 intro d hd
 have:=h d hd
 cases d<;>first|exact this|(simp only [zv,decide_eq_true_eq] at*;omega)
theorem Sem.frame {P : Program} {f : FuncId} {args : List D} {S S0 S1 : bH} {d : D} {os : List Nat} (nd : os.Nodup) (hft : ∀ q, jF S args (.cell q 0) = false -> q ∉ os) (hin : ∀ a ∈ args, ∀ o, HP o a -> o ∈ os) (hp : rJ S os = some S0) (pl : inS os S0 = true) (lw : w8 0 (rF (Mx.toP os) S0) = true) (ha : args.all (sN S.length) = true) (hd : uy d = true) (pl1 : w8 0 S1 = true) (lw1 : Cs os (rF (rH os) S1) = true) (hl : S1.length = S0.length)
    (hs : Mx.Sem P f (args.map (toD os)) (rF (Mx.toP os) S0) d S1) : Mx.SemL P f args S d (tP S os (rF (rH os) S1)) := by
  intro w G vals R low A
  have I := R.inv
  have get := fun i o h => DT hp i o h
  have len := Dh hp
  have ltS : ∀ o ∈ os, o < S.length := by
    intro o ho
    obtain ⟨cs, _, h2⟩ := get _ o (fT ho)
    rcases Nat.lt_or_ge o S.length with hlt | hge
    . exact hlt
    . rw [List.getElem?_eq_none hge] at h2; cases h2
  have osget : ∀ i, i < S0.length -> ∃ o, os[i]? = some o := fun i hi => ⟨os[i]'(by omega), List.getElem?_eq_getElem _⟩
  have mlen : (rF (Mx.toP os) S0).length = S0.length := by simp [rF]
  have flen : (rF (rH os) S1).length = S1.length := by simp [rF]
  have R0 : Rel w.heap (eG G os) #[] ⟨[], rF (Mx.toP os) S0⟩ := by
    refine Rel.bare (NP nd I) ?_ ?_ ?_ ?_
    . intro i cs hcs0
      obtain ⟨cs, hcs, rfl⟩ := BB hcs0
      have hi : i < S0.length := by
        rcases Nat.lt_or_ge i S0.length with hlt | hge
        . exact hlt
        . rw [List.getElem?_eq_none hge] at hcs; cases hcs
      obtain ⟨o, ho⟩ := osget i hi
      obtain ⟨cs', h1, h2⟩ := get i o ho
      rw [hcs] at h1; cases h1
      obtain ⟨b, c, e, fr, g1, g2, g3, g4⟩ := R.obj o cs h2
      exact ⟨b, c, e, fr, by rw [yb ho]; exact g1, g2, g3, RDs.cellT ho cs _ 0 (List.all_eq_true.1 pl cs (List.mem_of_getElem? hcs)) g4⟩
    . intro i cs hcs0
      obtain ⟨cs, hcs, rfl⟩ := BB hcs0
      have hi : i < S0.length := by
        rcases Nat.lt_or_ge i S0.length with hlt | hge
        . exact hlt
        . rw [List.getElem?_eq_none hge] at hcs; cases hcs
      obtain ⟨o, ho⟩ := osget i hi
      obtain ⟨cs', h1, h2⟩ := get i o ho
      rw [hcs] at h1; cases h1
      exact It (R.obc o cs h2)
    . intro i hi
      have : os[i]? = none := List.getElem?_eq_none (by simp only [mlen] at hi; omega)
      simp only [eG, this]
    . intro l p hh hl'
      rcases gA hl' with ⟨k, j, rfl, _⟩ | ⟨i, off, o, rfl, h1, h2⟩
      . exact absurd rfl (hh k j)
      . have := R.own (.cell o off) p (fun _ _ h => by cases h) h2
        obtain ⟨cs', g1, g2⟩ := get i o h1
        simp only [dg, g2] at this
        simp only [dg, BL g1, List.getElem?_map]
        cases hcc : cs'[off]? with
        | none => rw [hcc] at this; cases this
        | some d => rw [hcc] at this; cases d <;> first | exact this | rfl
  have low0 : Low (rF (Mx.toP os) S0) := TC fun i cs hcs => by
    have := AH lw hcs
    rwa [Nat.zero_add] at this
  have A0 : z7 w.heap (eG G os) (args.map (toD os)) vals := by
    refine ⟨by simp [A.len], ?_, ?_⟩
    . intro j d' hd'
      rw [List.getElem?_map] at hd'
      cases hj : args[j]? with
      | none => rw [hj] at hd'; cases hd'
      | some a =>
        rw [hj] at hd'; cases hd'
        obtain ⟨v, h1, h2, h3⟩ := A.rd j a hj
        have hm := List.mem_of_getElem? hj
        have hao := List.all_eq_true.1 ha a hm
        exact ⟨v, h1, RD.toD hao (fun o ho => fT (hin a hm o ho)) h2, (NU hao h3).1⟩
    . intro k j p hp'
      obtain ⟨a, h1, h2⟩ := A.own k j p hp'
      obtain ⟨v, _, _, h3⟩ := A.rd k a h1
      have hm := List.mem_of_getElem? h1
      exact ⟨toD os a, by rw [List.getElem?_map, h1]; rfl, by rw [(NU (List.all_eq_true.1 ha a hm) h3).2]; exact h2⟩
  refine (hs w (eG G os) vals R0 low0 A0).mono ?_
  rintro v w' ⟨G1, R1, low1, hg, hlen1, hres⟩
  have I1 := R1.inv
  have hob1 : ∀ i o, os[i]? = some o -> G1.ob i = G.ob o := by
    intro i o ho
    have hi : i < (rF (Mx.toP os) S0).length := by
      rw [mlen, len]
      rcases Nat.lt_or_ge i os.length with hlt | hge
      . exact hlt
      . rw [List.getElem?_eq_none hge] at ho; cases ho
    rw [hg.ob i hi, yb ho]
  have sub_mine : ∀ b, mine (eG G os) b -> mine G b := fun b h => LG h
  -- a block of what was not handed on
  have notin_ob : ∀ o b, o ∉ os -> G.ob o = some b -> ¬ mine (eG G os) b := by
    intro o b ho hb hm
    rcases hm with ⟨i, hi⟩ | ⟨l, f, hl'⟩
    . obtain ⟨o', h1, h2⟩ := eW hi
      have := I.ob_inj o o' b hb h2
      subst this
      exact ho (List.mem_of_getElem? h1)
    . exact I.ow_ob _ b f o (fy hl') hb
  have notin_ow : ∀ o off b f, o ∉ os -> G.ow (.cell o off) = some (b, f) -> ¬ mine (eG G os) b := by
    intro o off b f ho hb hm
    rcases hm with ⟨i, hi⟩ | ⟨l, f', hl'⟩
    . obtain ⟨o', h1, h2⟩ := eW hi
      exact I.ow_ob _ b f o' hb h2
    . have e := I.ow_inj _ _ b f f' hb (fy hl')
      rcases gA hl' with ⟨k, j, rfl, h1⟩ | ⟨i, off', o', rfl, h1, h2⟩
      . cases e
      . simp only [upL, h1, Loc.cell.injEq] at e
        exact ho (e.1 ▸ List.mem_of_getElem? h1)
  have keep : ∀ b, b < w.heap.size -> ¬ mine (eG G os) b -> w'.heap[b]? = w.heap[b]? := hg.step.keep
  have rd_none : ∀ b, b < w.heap.size -> G.rd b = none -> ¬ mine (eG G os) b -> G1.rd b = none := by
    intro b hb hr hm
    cases h : G1.rd b with
    | none => rfl
    | some c =>
      rcases hg.step.rdn b (by rw [h]; exact fun h => by cases h) with h1 | h1 | h1
      . exact absurd hr h1
      . exact absurd h1 hm
      . omega
  have mine1 : ∀ b, mine G1 b -> mine (eG G os) b ∨ w.heap.size <= b := hg.step.mine
  have I2 : Inv w'.heap (u9 G G1 os) := {
    rd_ok := I1.rd_ok
    ob_lt := fun o b hb => Nat.lt_of_lt_of_le (I.ob_lt o b hb) hg.step.size
    ob_rd := fun o b hb => by
      by_cases ho : o ∈ os
      . exact I1.ob_rd (os.idxOf o) b (by rw [hob1 _ o (fT ho)]; exact hb)
      . exact rd_none b (I.ob_lt o b hb) (I.ob_rd o b hb) (notin_ob o b ho hb)
    ob_inj := I.ob_inj
    ow_lt := fun l b f hl' => by
      rcases eH hl' with ⟨k, j, rfl, h1⟩ | ⟨o, off, rfl, ho, h1⟩ | ⟨o, off, rfl, ho, h1⟩
      . exact I1.ow_lt _ b f h1
      . exact I1.ow_lt _ b f h1
      . exact Nat.lt_of_lt_of_le (I.ow_lt _ b f h1) hg.step.size
    ow_rd := fun l b f hl' => by
      rcases eH hl' with ⟨k, j, rfl, h1⟩ | ⟨o, off, rfl, ho, h1⟩ | ⟨o, off, rfl, ho, h1⟩
      . exact I1.ow_rd _ b f h1
      . exact I1.ow_rd _ b f h1
      . exact rd_none b (I.ow_lt _ b f h1) (I.ow_rd _ b f h1) (notin_ow o off b f ho h1)
    ow_ob := fun l b f o hl' hb => by
      have hb' : G.ob o = some b := hb
      have hself : ∀ l1, G1.ow l1 = some (b, f) -> False := by
        intro l1 h1
        by_cases ho : o ∈ os
        . exact I1.ow_ob _ b f (os.idxOf o) h1 (by rw [hob1 _ o (fT ho)]; exact hb')
        . rcases mine1 b (.inr ⟨_, f, h1⟩) with h2 | h2
          . exact notin_ob o b ho hb' h2
          . have := I.ob_lt o b hb'; omega
      rcases eH hl' with ⟨k, j, rfl, h1⟩ | ⟨o', off, rfl, ho, h1⟩ | ⟨o', off, rfl, ho, h1⟩
      . exact hself _ h1
      . exact hself _ h1
      . exact I.ow_ob _ b f o h1 hb'
    ow_inj := fun l l' b f f' h1 h2 => by
      have cross : ∀ l1 o off f f', o ∉ os -> G1.ow l1 = some (b, f) -> G.ow (.cell o off) = some (b, f') -> False := by
        intro l1 o off f f' ho g1 g2
        rcases mine1 b (.inr ⟨_, f, g1⟩) with h | h
        . exact notin_ow o off b f' ho g2 h
        . have := I.ow_lt _ b f' g2; omega
      rcases eH h1 with ⟨k, j, rfl, g1⟩ | ⟨o, off, rfl, ho, g1⟩ | ⟨o, off, rfl, ho, g1⟩ <;> rcases eH h2 with ⟨k', j', rfl, k1⟩ | ⟨o', off', rfl, ho', k1⟩ | ⟨o', off', rfl, ho', k1⟩
      . exact I1.ow_inj _ _ b f f' g1 k1
      . have := I1.ow_inj _ _ b f f' g1 k1; cases this
      . exact (cross _ _ _ _ _ ho' g1 k1).elim
      . have := I1.ow_inj _ _ b f f' g1 k1; cases this
      . have := I1.ow_inj _ _ b f f' g1 k1
        simp only [Loc.cell.injEq] at this
        obtain ⟨e1, rfl⟩ := this
        have e2 := fT ho
        rw [e1, fT ho'] at e2
        cases e2; rfl
      . exact (cross _ _ _ _ _ ho' g1 k1).elim
      . exact (cross _ _ _ _ _ ho k1 g1).elim
      . exact (cross _ _ _ _ _ ho k1 g1).elim
      . exact I.ow_inj _ _ b f f' g1 k1 }
  have hrd : cS G.rd G1.rd := hg.step.rd
  have F2 : Mx.Fr (fun l => ¬ ∃ o off, l = .cell o off /\ o ∉ os) w.heap G w'.heap (u9 G G1 os) := by
    refine ⟨hrd, fun _ _ h => h, ?_, ?_⟩
    . intro l p _ ht hl'
      obtain ⟨o, off, rfl, ho⟩ := Classical.not_not.1 ht
      rw [yO ho]; exact hl'
    . intro l b f _ ht hl'
      obtain ⟨o, off, rfl, ho⟩ := Classical.not_not.1 ht
      exact keep b (I.ow_lt _ b f hl') (notin_ow o off b f ho hl')
  have Sget : ∀ o cs, (tP S os (rF (rH os) S1))[o]? = some cs -> (o ∈ os /\ ∃ c0, S1[os.idxOf o]? = some c0 /\ cs = c0.map (rH os)) ∨ (o ∉ os /\ S[o]? = some cs) := by
    intro o cs hcs
    by_cases ho : o ∈ os
    . rw [FV S os _ nd (by rw [flen, hl, len]) ltS _ o (fT ho)] at hcs; exact .inl ⟨ho, BB hcs⟩
    . rw [hL S os _ o ho] at hcs; exact .inr ⟨ho, hcs⟩
  have R2 : Rel w'.heap (u9 G G1 os) #[] ⟨[], tP S os (rF (rH os) S1)⟩ := by
    refine Rel.bare I2 ?_ ?_ ?_ ?_
    . intro o cs hcs
      rcases Sget o cs hcs with ⟨ho, c0, h1, rfl⟩ | ⟨ho, h1⟩
      . obtain ⟨b, c, e, fr, g1, g2, g3, g4⟩ := R1.obj _ c0 h1
        have := AH pl1 h1
        exact ⟨b, c, e, fr, by rw [hob1 _ o (fT ho)] at g1; exact g1, g2, g3, RDs.cellF ho hob1 c0 _ 0 (LN (by have := List.idxOf_lt_length_of_mem ho; omega) this) g4⟩
      . obtain ⟨b, c, e, fr, g1, g2, g3, g4⟩ := R.obj o cs h1
        refine ⟨b, c, e, fr, g1, by rw [keep b (I.ob_lt o b g1) (notin_ob o b ho g1)]; exact g2, g3, RDs.fr F2 _ (fun _ => rfl) _ _ _ (kn.cell 0 cs (R.obc o cs h1) (fun i d' _ _ => ?_)) g4⟩
        exact fun h => h ⟨o, _, rfl, ho⟩
    . intro o cs hcs
      rcases Sget o cs hcs with ⟨ho, c0, h1, rfl⟩ | ⟨ho, h1⟩
      . exact Fk (R1.obc _ c0 h1)
      . exact R.obc _ cs h1
    . intro o ho
      exact R.obn o (by rw [ic] at ho; exact ho)
    . intro l p hh hl'
      rcases eH hl' with ⟨k, j, rfl, h1⟩ | ⟨o, off, rfl, ho, h1⟩ | ⟨o, off, rfl, ho, h1⟩
      . exact absurd rfl (hh k j)
      . have := R1.own (.cell (os.idxOf o) off) p (fun _ _ h => by cases h) h1
        simp only [dg] at this ⊢
        rw [FV S os _ nd (by rw [flen, hl, len]) ltS _ o (fT ho)]
        cases hc : S1[os.idxOf o]? with
        | none => rw [hc] at this; cases this
        | some c0 =>
          rw [hc] at this
          rw [BL hc]
          simp only [List.getElem?_map]
          cases hcc : c0[off]? with
          | none => simp only [hcc] at this; cases this
          | some d => simp only [hcc] at this; cases d <;> first | exact this | rfl
      . have := R.own (.cell o off) p (fun _ _ h => by cases h) h1
        simp only [dg] at this ⊢
        rw [hL S os _ o ho]
        exact this
  have low2 : Low (tP S os (rF (rH os) S1)) := by
    intro o cs hcs
    rcases Sget o cs hcs with ⟨ho, c0, h1, rfl⟩ | ⟨ho, h1⟩
    . have := Hu lw1 (fT ho) (BL h1)
      rw [List.all_eq_true] at *
      exact fun d hd => Nu (this d hd)
    . exact low o cs h1
  refine ⟨u9 G G1 os, R2, low2, ⟨⟨hg.step.os, hg.step.tape, hg.step.output, hg.step.size, ?_, ?_, hrd, ?_⟩, by simp [ic], fun _ _ => rfl⟩, ic _ _ _, ?_⟩
  . intro b hb hm
    exact keep b hb (fun h => hm (sub_mine b h))
  . rintro b (⟨o, ho⟩ | ⟨l, f, hl'⟩)
    . exact .inl (.inl ⟨o, ho⟩)
    . rcases eH hl' with ⟨k, j, rfl, h1⟩ | ⟨o, off, rfl, ho, h1⟩ | ⟨o, off, rfl, ho, h1⟩
      . exact (mine1 b (.inr ⟨_, f, h1⟩)).imp (sub_mine b) id
      . exact (mine1 b (.inr ⟨_, f, h1⟩)).imp (sub_mine b) id
      . exact .inl (.inr ⟨_, f, h1⟩)
  . intro b hb
    exact (hg.step.rdn b hb).imp id (fun h => h.imp (sub_mine b) id)
  . refine ⟨⟨RD.plain (G := G1) (G' := u9 G G1 os) hd (cS.refl _) (fun _ _ hp => hp) hres.rd, hres.ok, ?_⟩, ?_⟩
    . intro k j p hp'
      exact hres.own k j p hp'
    . intro q j b f hq hl'
      have hn := hft q hq
      exact ⟨by rw [yO hn]; exact hl', keep b (I.ow_lt _ b f hl') (notin_ow q j b f hn hl')⟩
theorem AS (a:D): ∀(acc:List Nat) (o:Nat),(o∈acc->o∈wB acc a)/\(HP o a->o∈wB acc a)/\(acc.Nodup->(wB acc a).Nodup):=by
 have one: ∀(d:D) (acc:List Nat) (o:Nat),(o∈acc->o∈vS acc d)/\(∀f,d= .ptr o f->o∈vS acc d)/\(acc.Nodup->(vS acc d).Nodup):=by
  intro d acc o
  cases d with
  |ptr q f=>
   simp only [vS]
   cases hc:acc.contains q with
   |true=>
    have hq:q∈acc:=by simpa using hc
    refine⟨fun h=>h,fun f h=>?_,fun h=>h⟩
    cases h;exact hq
   |false=>
    have hq:q∉acc:=by simpa using hc
    refine⟨fun h=>by simp [h],fun f h=>(by cases h;simp),fun h=>?_⟩
    simp only [cond_false]
    rw [List.nodup_append]
    refine⟨h,by simp,?_⟩
    intro a ha b hb
    simp at hb;subst hb
    exact fun e=>hq (e▸ha)
  |_=>exact⟨fun h=>h,fun f h=>(by cases h),fun h=>h⟩
 intro acc o
 cases a with
 |clo f cs=>
  simp only [wB,HP]
  induction cs generalizing acc with
  |nil=>exact⟨fun h=>h,fun ⟨_,h⟩=>by simp at h,fun h=>h⟩
  |cons d cs ih=>
   simp only [List.foldl_cons]
   obtain⟨i1,i2,i3⟩:=ih (vS acc d)
   obtain⟨o1,o2,o3⟩:=one d acc o
   refine⟨fun h=>i1 (o1 h),fun ⟨g,hg⟩=>?_,fun h=>i3 (o3 h)⟩
   rcases List.mem_cons.1 hg with hg|hg
   ·exact i1 (o2 g hg.symm)
   ·exact i2 ⟨g,hg⟩
 |ptr q f=>
  obtain⟨o1,o2,o3⟩:=one (.ptr q f) acc o
  exact⟨o1,fun h=>o2 f (by rw [show q=o from h]),o3⟩
 |_=>exact⟨fun h=>h,fun h=>h.elim,fun h=>h⟩
theorem CD (args:List D):(go args).Nodup/\ ∀a∈args,∀o,HP o a->o∈go args:=by
 have key: ∀(args:List D) (acc:List Nat),(acc.Nodup->(args.foldl wB acc).Nodup)/\(∀o∈acc,o∈args.foldl wB acc)/\ ∀a∈args,∀o,HP o a->o∈args.foldl wB acc:=by
  intro args
  induction args with
  |nil=>intro acc;exact⟨fun h=>h,fun o h=>h,fun a h=>by simp at h⟩
  |cons a args ih=>
   intro acc
   simp only [List.foldl_cons]
   obtain⟨i1,i2,i3⟩:=ih (wB acc a)
   refine⟨fun h=>i1 ((AS a acc 0).2.2 h),fun o h=>i2 o ((AS a acc o).1 h),fun a' ha' o ho=>?_⟩
   rcases List.mem_cons.1 ha' with rfl|ha'
   ·exact i2 o ((AS a' acc o).2.1 ho)
   ·exact i3 a' ha' o ho
 obtain⟨h1,_,h3⟩:=key args []
 exact⟨h1 (by simp),h3⟩
theorem JJ {f:D->D} {S:bH} (hf: ∀d,fa d=true->f d=d) (h:gm S=true):rF f S=S:=by
 unfold rF
 have:S.map (·.map f)=S.map id:=List.map_congr_left fun cs hcs=>by
  have:=List.all_eq_true.1 h cs hcs
  exact (List.map_congr_left fun d hd=>hf d (List.all_eq_true.1 this d hd)).trans (List.map_id _)
 rw [this,List.map_id]
theorem Gb {cs:List D} {p q:D->Bool} (h: ∀d,p d=true->q d=true) (hc:cs.all p=true):cs.all q=true:=by
 rw [List.all_eq_true] at*
 exact fun d hd=>h d (hc d hd)
theorem CO (n:Nat) (d:D) (h:fa d=true):zv n d=true:=by cases d<;>first|rfl|simp [fa] at h
theorem yH: ∀(S:bH) (n:Nat),gm S=true->w8 n S=true
 | [],_,_=>rfl
 |cs::S,n,h=>by
  simp only [gm,List.all_cons,Bool.and_eq_true] at h
  simp only [w8,Bool.and_eq_true]
  exact⟨Gb (CO n) h.1,yH S (n+1) h.2⟩
theorem Bs: ∀(S:bH) (os:List Nat),gm S=true->Cs os S=true
 | [],[],_=>rfl
 | [],_::_,_=>rfl
 |_::_,[],_=>rfl
 |cs::S,o::os,h=>by
  simp only [gm,List.all_cons,Bool.and_eq_true] at h
  simp only [Cs,Bool.and_eq_true]
  exact⟨Gb (CO o) h.1,Bs S os h.2⟩
theorem Na {S:bH} (os:List Nat) (h:gm S=true):inS os S=true:=by
 unfold inS gm at*
 rw [List.all_eq_true] at*
 exact fun cs hcs=>Gb (fun d hd=>by cases d<;>first|rfl|simp [fa] at hd) (h cs hcs)
theorem Og {os:List Nat} {args:List D} (h:args.all (A4 os)=true): ∀a∈args,∀o,HP o a->o∈os:=by
 intro a ha o ho
 have:=List.all_eq_true.1 h a ha
 cases a with
 |clo f cs=>
  obtain⟨g,hg⟩:=ho
  have:=List.all_eq_true.1 this _ hg
  simpa [EU] using this
 |ptr q f=>simp only [HP] at ho;subst ho;simpa [A4,EU] using this
 |_=>exact ho.elim
theorem Lb {S:bH} {os:List Nat} {o:Nat} (h:o∈os):o∈nH S os:=by
 unfold nH
 simp only [List.mem_append,List.mem_filter]
 generalize os.foldl _ []=ins
 by_cases hi:o∈ins
 ·exact .inl hi
 ·exact .inr ⟨h,by simpa using hi⟩
theorem GD {S:bH} {args:List D} {q:Nat} (h:jF S args (.cell q 0)=false):q∉qp S args:=by
 have h':(qp S args).contains q=false:=h
 simpa using h'
theorem FR {S:bH} : ∀ {os:List Nat} {S0:bH},rJ S os=some S0-> ∀o∈os,o<S.length
 | [],_,_,o,ho=>by cases ho
 |q::os,S0,h,o,ho=>by
  simp only [rJ] at h
  split at h<;>try (cases h;done)
  rename_i cs hcs
  split at h<;>try (cases h;done)
  rename_i r hr
  rcases List.mem_cons.1 ho with rfl|ho
  ·exact (List.getElem?_eq_some_iff.1 hcs).1
  ·exact FR hr o ho
theorem AB {S T:bH} : ∀ {os:List Nat} {S0:bH},rJ S os=some S0->rJ (S++T) os=some S0
 | [],_,h=>h
 |q::os,S0,h=>by
  simp only [rJ] at h⊢
  split at h<;>try (cases h;done)
  rename_i cs hcs
  split at h<;>try (cases h;done)
  rename_i r hr
  have hq:=(List.getElem?_eq_some_iff.1 hcs).1
  rw [List.getElem?_append_left hq,hcs]
  simp only [AB hr]
  exact h
theorem FI {T:bH} : ∀(os:List Nat) (S S1:bH),(∀o∈os,o<S.length)->tP (S++T) os S1=tP S os S1++T
 | [],S,_,_=>by simp [tP]
 |_::_,S,[],_=>by simp [tP]
 |q::os,S,cs::r,h=>by
  simp only [tP]
  rw [List.set_append_left _ _ (h q (by simp)),FI os (S.set q cs) r (fun o ho=>by simpa using h o (by simp [ho]))]
theorem KD {S T:bH} {os:List Nat} (h: ∀o∈os,o<S.length):nH (S++T) os=nH S os:=by
 have key: ∀(os:List Nat) (acc:List Nat),(∀o∈os,o<S.length)->os.foldl (fun acc o=>((S++T).getD o []).foldl vS acc) acc=os.foldl (fun acc o=>(S.getD o []).foldl vS acc) acc:=by
  intro os
  induction os with
  |nil=>intro acc _;rfl
  |cons q os ih=>
   intro acc h
   simp only [List.foldl_cons]
   have hq:(S++T).getD q []=S.getD q []:=by
    simp only [List.getD_eq_getElem?_getD]
    rw [List.getElem?_append_left (h q (by simp))]
   rw [hq]
   exact ih _ (fun o ho=>h o (by simp [ho]))
 unfold nH
 rw [key os [] h]
theorem AC {n m:Nat} (h:n<=m) {args:List D} (ha:args.all (sN n)=true):args.all (sN m)=true:=by
 rw [List.all_eq_true] at*
 intro d hd
 have:=ha d hd
 cases d<;>first|exact this|(simp only [sN,decide_eq_true_eq] at*;omega)|skip
 simp only [sN,List.all_eq_true] at*
 intro c hc
 have:=this c hc
 cases c<;>first|exact this|(simp only [Lc,decide_eq_true_eq] at*;omega)
theorem M5 {P:Program} {C:aj} (SB:iB P C) (f:Nat) (args:List D) (S:bH) (d:D) (S':bH) (he:C.wideP f args S=some (d,S')):SemL P f args S d S'/\ ∀o,jF S args (.cell o 0)=false->S'[o]? =S[o]? :=by
 unfold aj.wideP at he
 dsimp only at he
 have hft: ∀q,jF S args (.cell q 0)=false->q∉nH S (go args):=fun q h=>GD h
 generalize nH S (go args)=os at he hft
 split at he
 ·rename_i S0 hp
  cases hc:(inS os S0&&w8 0 (rF (Mx.toP os) S0)&&args.all (sN S.length)&&args.all (A4 os)&&decide os.Nodup) with
  |false=>rw [hc] at he;cases he
  |true=>
   rw [hc,cond_true] at he
   split at he
   ·rename_i d1 S1 hC
    cases hq:(uy d1&&w8 0 S1&&Cs os (rF (rH os) S1)&&S1.length==S0.length) with
    |false=>rw [hq] at he;cases he
    |true=>
     rw [hq,cond_true] at he
     simp only [Option.some.injEq,Prod.mk.injEq] at he
     obtain⟨rfl,rfl⟩:=he
     simp only [Bool.and_eq_true,beq_iff_eq,decide_eq_true_eq] at hc hq
     exact⟨Sem.frame hc.2 hft (Og hc.1.2) hp hc.1.1.1.1 hc.1.1.1.2 hc.1.1.2 hq.1.1.1 hq.1.1.2 hq.1.2 hq.2 (SB _ _ _ _ _ hC),fun o ho=>hL _ _ _ o (hft o ho)⟩
   ·cases he
 ·cases he
theorem J9 {P:Program} {C:aj} (SB:iB P C) (f:Nat) (args:List D) (S:bH) (d:D) (S':bH) (he:C.wide f args S=some (d,S')):SemL P f args S d S'/\ ∀o,jF S args (.cell o 0)=false->S'[o]? =S[o]? :=by
 unfold aj.wide at he
 split at he
 ·split at he
  ·rename_i d1 hC
   cases he
   refine⟨fun w G vals R L A=>(SB f args [] d [] hC w G vals R L A).mono ?_,fun _ _=>rfl⟩
   rintro v w' ⟨G',h1,h2,h3,h4,h5⟩
   refine⟨G',h1,h2,h3,h4,h5,fun q j b f _ hl=>?_⟩
   have:=R.own (.cell q j) (b,f) (fun _ _ h=>by cases h) hl
   simp [dg] at this
  ·cases he
 ·rename_i hne
  have hft: ∀q,jF S args (.cell q 0)=false->q∉go args:=fun q h hm=>GD h (Lb hm)
  split at he
  ·rename_i S0 hp
   cases hc:(gm S0&&args.all (sN S.length)&&decide (go args).Nodup) with
   |false=>rw [hc] at he;exact M5 SB f args _ d S' he
   |true=>
    rw [hc,cond_true] at he
    split at he
    ·rename_i d1 S1 hC
     cases hq:(uy d1&&gm S1&&S1.length==S0.length) with
     |false=>rw [hq] at he;cases he
     |true=>
      rw [hq,cond_true] at he
      simp only [Option.some.injEq,Prod.mk.injEq] at he
      obtain⟨rfl,rfl⟩:=he
      simp only [Bool.and_eq_true,beq_iff_eq,decide_eq_true_eq] at hc hq
      obtain⟨nd,hin⟩:=CD args
      have m1:=JJ (f:=Mx.toP (go args)) Oh hc.1.1
      have m2:=JJ (f:=rH (go args)) Hn hq.1.2
      have:=Sem.frame (S1:=S1) nd hft hin hp (Na _ hc.1.1) (by rw [m1];exact yH _ _ hc.1.1) hc.1.2 hq.1.1 (yH _ _ hq.1.2) (by rw [m2];exact Bs _ _ hq.1.2) hq.2 (by rw [m1];exact SB _ _ _ _ _ hC)
      rw [m2] at this
      exact⟨this,fun o ho=>hL _ _ _ o (hft o ho)⟩
    ·cases he
  ·cases he
theorem Lz {C:aj} (f:Nat) (args:List D) (S:bH) (d:D) (S':bH) (he:C.wide f args S=some (d,S')) (hne:S≠ []) (cs:List D):C.wide f args (S++ [cs])=some (d,S'++ [cs])/\qp (S++ [cs]) args=qp S args:=by
 cases S with
 |nil=>exact absurd rfl hne
 |cons x S=>
 simp only [aj.wide] at he
 cases hp:rJ (x::S) (go args) with
 |none=>rw [hp] at he;cases he
 |some S0=>
  rw [hp] at he
  simp only at he
  have hlt:=FR hp
  have hfoot:qp (x::S++ [cs]) args=qp (x::S) args:=KD hlt
  have hp2:rJ (x::S++ [cs]) (go args)=some S0:=AB hp
  have hlen:(x::S).length<=(x::S++ [cs]).length:=by simp
  refine⟨?_,hfoot⟩
  rw [List.cons_append] at hp2 hlen⊢
  simp only [aj.wide,hp2]
  cases hc:(gm S0&&args.all (sN (x::S).length)&&decide (go args).Nodup) with
  |true=>
   rw [hc,cond_true] at he
   simp only [Bool.and_eq_true] at hc
   rw [hc.1.1,AC hlen hc.1.2,hc.2]
   simp only [Bool.and_self,cond_true]
   split at he
   ·rename_i d1 S1 hC
    cases hq:(uy d1&&gm S1&&S1.length==S0.length) with
    |false=>rw [hq] at he;cases he
    |true=>
     rw [hq,cond_true] at he
     simp only [Option.some.injEq,Prod.mk.injEq] at he
     obtain⟨rfl,rfl⟩:=he
     rw [<-List.cons_append,FI _ _ _ hlt,cond_true]
   ·cases he
  |false=>
   rw [hc,cond_false] at he
   have hbad:(gm S0&&args.all (sN (x::(S++ [cs])).length)&&decide (go args).Nodup)=false:=by
    cases h1:gm S0 with
    |false=>rfl
    |true=>
     cases h3:decide (go args).Nodup with
     |false=>simp
     |true=>
      exfalso
      rw [h1,h3] at hc
      simp only [Bool.true_and,Bool.and_true] at hc
      unfold aj.wideP at he
      dsimp only at he
      split at he
      ·rw [hc] at he
       simp at he
      ·cases he
   rw [hbad,cond_false]
   unfold aj.wideP at he⊢
   dsimp only at he⊢
   have hr:nH (x::(S++ [cs])) (go args)=nH (x::S) (go args):=hfoot
   rw [hr]
   cases hp3:rJ (x::S) (nH (x::S) (go args)) with
   |none=>rw [hp3] at he;cases he
   |some S3=>
    rw [hp3] at he
    have hp4:rJ (x::(S++ [cs])) (nH (x::S) (go args))=some S3:=AB hp3
    rw [hp4]
    simp only at he⊢
    have hlt3:=FR hp3
    generalize nH (x::S) (go args)=os at*
    cases hq:(inS os S3&&w8 0 (rF (Mx.toP os) S3)&&args.all (sN (x::S).length)&&args.all (A4 os)&&decide os.Nodup) with
    |false=>rw [hq] at he;cases he
    |true=>
     rw [hq,cond_true] at he
     simp only [Bool.and_eq_true] at hq
     rw [hq.1.1.1.1,hq.1.1.1.2,AC hlen hq.1.1.2,hq.1.2,hq.2]
     simp only [Bool.and_self,cond_true]
     split at he
     ·rename_i d1 S1 hC
      cases hz:(uy d1&&w8 0 S1&&Cs os (rF (rH os) S1)&&S1.length==S3.length) with
      |false=>rw [hz] at he;cases he
      |true=>
       rw [hz,cond_true] at he
       simp only [Option.some.injEq,Prod.mk.injEq] at he
       obtain⟨rfl,rfl⟩:=he
       rw [<-List.cons_append,FI _ _ _ hlt3,cond_true]
     ·cases he
theorem Nz {C:aj} (f:Nat) (args:List D) (S:bH) (d:D) (S':bH) (he:C.wide f args S=some (d,S')):S'.length=S.length:=by
 cases S with
 |nil=>
  simp only [aj.wide] at he
  split at he
  ·cases he;rfl
  ·cases he
 |cons x S=>
  simp only [aj.wide] at he
  split at he
  ·cases hc:(gm _&&args.all (sN (x::S).length)&&decide (go args).Nodup) with
   |true=>
    rw [hc,cond_true] at he
    split at he
    ·cases hq:(uy _&&gm _&&List.length _==List.length _) with
     |false=>rw [hq] at he;cases he
     |true=>
      rw [hq,cond_true] at he
      simp only [Option.some.injEq,Prod.mk.injEq] at he
      rw [<-he.2,ic]
    ·cases he
   |false=>
    rw [hc,cond_false] at he
    unfold aj.wideP at he
    dsimp only at he
    split at he
    ·generalize (_&&_:Bool)=q at he
     cases q with
     |false=>cases he
     |true=>
      rw [cond_true] at he
      split at he
      ·generalize (_&&_:Bool)=q at he
       cases q with
       |false=>cases he
       |true=>
        rw [cond_true] at he
        simp only [Option.some.injEq,Prod.mk.injEq] at he
        rw [<-he.2,ic]
      ·cases he
    ·cases he
  ·cases he
theorem aW {P:Program} {C:aj} (SB:iB P C):cj P C.wide:=⟨fun f args S d S' he=>(J9 SB f args S d S' he).1,⟨fun f args S d S' he=>(J9 SB f args S d S' he).2,Nz,Lz⟩⟩
theorem cX {C:aj} {f:Nat} {args args0:List D} {cs:List D} {S S0 S1 S':bH} {d:D} (os:List Nat) (h1:go args=os) (h2:rJ (cs::S) os=some S0) (h3:(gm S0&&args.all (sN (cs::S).length))=true) (h4:args.map (toD os)=args0) (h:C f args0 S0=some (d,S1)) (h5:(uy d&&gm S1&&S1.length==S0.length)=true) (h6:tP (cs::S) os S1=S'):C.wide f args (cs::S)=some (d,S'):=by
 subst h1 h4 h6
 have nd:=(CD args).1
 simp only [aj.wide,h2,h3,decide_eq_true nd,Bool.and_true,cond_true,h,h5]
end Go.Mx
namespace Go.Mx
open Go
def ah {α:Type} (f:α->List V) (l:List α):List (List V):=l.map f
section
variable {α:Type} (f:α->List V) (l m:List α)
theorem Bl:(ah f l).length=l.length:=by simp [ah]
theorem Hw:ah f l++ah f m=ah f (l++m):=by simp [ah]
theorem ak:ah f []= []:=rfl
theorem HC:(ah f l).isEmpty=l.isEmpty:=by cases l<;>rfl
def dm (l:List α) (lo hi:Int):List α:=(l.take hi.toNat).drop lo.toNat
theorem HN (lo hi:Int):eV (ah f l) lo.toNat hi.toNat=ah f (dm l lo hi):=by simp [ah,eV,dm]
theorem cn {l:List α} {i:Int} {x:α} (h:idx l i=some x):(ah f l)[i.toNat]? =some (f x):=OQ h
theorem dj (n:Nat) (x:α):(ah f l).set n (f x)=ah f (l.set n x):=by simp [ah]
theorem dn (n:Nat) (x:α):List.replicate n (f x)=ah f (List.replicate n x):=by simp [ah]
theorem dA {f:α->List V} (hf: ∀a b,f a=f b->a=b) {l m:List α} :ah f l=ah f m↔l=m:=map_inj hf
theorem ev {f:α->List V} (hf: ∀x,gh (f x)=true):(ah f l).all gh=true:=by
 simp only [ah,List.all_eq_true,List.mem_map]
 rintro _ ⟨x,_,rfl⟩;exact hf x
end
def ud {α:Type} (l:List α) (i:Int) (x:α):List α:=l.set i.toNat x
def cY (a b:ByteArray):Bool:=a.toList==b.toList
def pT (a b:ByteArray):Bool:=Op.bytesLess a.toList b.toList
theorem QO (a b:ByteArray):(a.toList==b.toList)=cY a b:=rfl
theorem Rp (a b:ByteArray):Op.bytesLess a.toList b.toList=pT a b:=rfl
theorem ZI:({ data:=#[] } :ByteArray)=ByteArray.empty:=rfl
def byL (s:ByteArray):List Int:=s.data.toList.map fun b=>(b.toNat:Int)
theorem Rs (s:ByteArray):dJ s=ah cE (byL s):=by simp [dJ,ah,byL,cE]
def Pq (l:List Int):ByteArray:=⟨(l.map fun n=>UInt8.ofNat n.toNat).toArray⟩
theorem MP (l:List Int):dL (ah cE l)=Pq l:=by simp [dL,ah,Pq,cE]
def oi (l:List Int):Bool:=l.all fun n=>decide (0<=n/\n<256)
theorem IT: ∀l:List Int,dX (ah cE l)=oi l
 | []=>rfl
 |n::l=>by
  have:=IT l
  simp only [ah,List.map_cons,cE,dX,oi,List.all_cons] at*
  rw [this]
theorem QH:dL []=ByteArray.empty:=rfl
theorem GF (n:Int): [[V.i .u8 n]]=ah cE [n]:=rfl
theorem DP (n:Int) (l:List Int): [V.i .u8 n]::ah cE l=ah cE (n::l):=rfl
theorem GX (n:Int): [[V.i .i64 n]]=ah u1 [n]:=rfl
theorem Dm (n:Int) (l:List Int): [V.i .i64 n]::ah u1 l=ah u1 (n::l):=rfl
theorem HR (n:ByteArray): [[V.s n]]=ah bY [n]:=rfl
theorem Em (n:ByteArray) (l:List ByteArray): [V.s n]::ah bY l=ah bY (n::l):=rfl
def sR (l:List Int):List V:=[.sl 1 (ah cE l)]
theorem CS (n:List Int): [[V.sl 1 (ah cE n)]]=ah sR [n]:=rfl
theorem Bn (n:List Int) (l:List (List Int)): [V.sl 1 (ah cE n)]::ah sR l=ah sR (n::l):=rfl
theorem Rk (l:List Int):(ah cE l).all gh=true:=ev l (fun _=>rfl)
theorem Rn (l:List Int):(ah u1 l).all gh=true:=ev l (fun _=>rfl)
theorem Rr (l:List ByteArray):(ah bY l).all gh=true:=ev l (fun _=>rfl)
theorem Q6 (k:Nat) (n:Int):List.replicate k [V.i .u8 n]=ah cE (List.replicate k n):=dn cE k n
theorem QX (k:Nat) (n:Int):List.replicate k [V.i .i64 n]=ah u1 (List.replicate k n):=dn u1 k n
theorem QL (l:List Int) (i n:Int):(ah cE l).set i.toNat [V.i .u8 n]=ah cE (ud l i n):=dj cE l _ n
theorem QP (l:List Int) (i n:Int):(ah u1 l).set i.toNat [V.i .i64 n]=ah u1 (ud l i n):=dj u1 l _ n
theorem Ra (l:List ByteArray) (i:Int) (n:ByteArray):(ah bY l).set i.toNat [V.s n]=ah bY (ud l i n):=dj bY l _ n
theorem bc {l m:List Int} :ah cE l=ah cE m↔l=m:=NK
theorem ba {l m:List Int} :ah u1 l=ah u1 m↔l=m:=NS
theorem aZ {l m:List ByteArray} :ah bY l=ah bY m↔l=m:=Mv
theorem MW (f:List D->List D) (c:List D) (S:bH):List.modify (c::S) 0 f=f c::S:=rfl
theorem M2 (f:List D->List D) (c:List D) (S:bH) (n:Nat):List.modify (c::S) (n+1) f=c::List.modify S n f:=rfl
end Go.Mx
namespace Go.Mx
open Go
section
variable (T:Nat->Ty) (C:aj) (L:dS) (ν:cL)
class fx (α:Type) where
 val:α
def JP (r:Option (Ex×St)) [b:fx Code]:Option (Ex×St):=eS r (aH T C L ν b.val)
theorem ao (a b:Code) (σ:St):aH T C L ν (.seq a b) σ= @JP T C L ν (aH T C L ν a σ) ⟨b⟩:=fi T C L ν a b σ
theorem gZ (σ:St) (b:Code): @JP T C L ν (some (.normal,σ)) ⟨b⟩=aH T C L ν b σ:=rfl
theorem Ey (σ:St) (b:Code): @JP T C L ν (some (.ret,σ)) ⟨b⟩=some (.ret,σ):=rfl
theorem Bk (i:Nat) (σ:St) (b:Code): @JP T C L ν (some (.exit i,σ)) ⟨b⟩=some (.exit i,σ):=rfl
def Ff (d:D) (t:Nat) (σ:St) [a:fx Code] [b:fx (Unit×Code)]:Option (Ex×St):=Kl T C L ν d t a.val b.val.2 σ
theorem am (t:Nat) (a b:Code) (σ:St):aH T C L ν (.cond (.tmp t) a b) σ= @Ff T C L ν (bI σ.env t) t σ ⟨a⟩ ⟨((),b)⟩:=eE T C L ν t a b σ
theorem CJ (t:Nat) (a b:Code) (σ:St): @Ff T C L ν (.v (.b true)) t σ ⟨a⟩ ⟨((),b)⟩=aH T C L ν a (cK ν t true σ):=rfl
theorem DO (t:Nat) (a b:Code) (σ:St): @Ff T C L ν (.v (.b false)) t σ ⟨a⟩ ⟨((),b)⟩=aH T C L ν b (cK ν t false σ):=rfl
def Ur (r:Option St) [ops:fx (List Oper)] [rest:fx (Unit×List Oper)]:Option St:=match r with
 |some σ=>fd T C ν ops.val rest.val.2 σ
 |none=>none
def Li (σ:St) [ops:fx (List Oper)] [rest:fx (Unit×List Oper)]:Option St:=fd T C ν ops.val rest.val.2 σ
def xr (env:Env) (g:Option (Nat×Bool)) [ops:fx (List Oper)]:Option Bool:=aQ ops.val env g
theorem zN (env:Env) (ops:List Oper): @xr env none ⟨ops⟩=some true:=rfl
theorem zB (env:Env) (j:Nat) (w:Bool) (ops:List Oper): @xr env (some (j,w)) ⟨ops⟩=aQ ops env (some (j,w)):=rfl
def EP (o:Oper) (σ:St) (g:Option Bool):Option St:=match g with
 |none=>none
 |some false=>some { σ with env:=putDst σ.env o.dst .undef }
 |some true=>match be T ν o with
  |true=>match bf T σ.env o with
   |true=>aJ T C ν.ro ν.mv ν.give σ o.dst o.type o.op
   |false=>none
  |false=>match aw C σ true o with
   |true=>none
   |false=>match aK T C σ true o.op with
    |some d=>some { σ with env:=putDst σ.env o.dst (offReg σ.env o.dst d) }
    |none=>match ar o with
     |true=>aJ T C ν.ro ν.mv ν.give σ o.dst o.type o.op
     |false=>none
theorem JI (o:Oper) (σ:St):EP T C ν o σ (some false)=some { σ with env:=putDst σ.env o.dst .undef } :=rfl
theorem J0 (o:Oper) (σ:St):EP T C ν o σ (some true)=match be T ν o with
  |true=>match bf T σ.env o with
   |true=>aJ T C ν.ro ν.mv ν.give σ o.dst o.type o.op
   |false=>none
  |false=>match aw C σ true o with
   |true=>none
   |false=>match aK T C σ true o.op with
    |some d=>some { σ with env:=putDst σ.env o.dst (offReg σ.env o.dst d) }
    |none=>match ar o with
     |true=>aJ T C ν.ro ν.mv ν.give σ o.dst o.type o.op
     |false=>none:=rfl
theorem GA (ops:List Oper) (σ:St): @Li T C ν σ ⟨ops⟩ ⟨((),[])⟩=some σ:=rfl
theorem Do (ops rest:List Oper) (o:Oper) (σ:St): @Li T C ν σ ⟨ops⟩ ⟨((),o::rest)⟩= @Ur T C ν (EP T C ν o σ (@xr σ.env o.guard ⟨ops⟩)) ⟨ops⟩ ⟨((),rest)⟩:=by
 simp only [Li,Ur,fd,xr]
 rw [ie]
 rfl
theorem Ew (ops rest:List Oper) (σ:St): @Ur T C ν (some σ) ⟨ops⟩ ⟨((),rest)⟩= @Li T C ν σ ⟨ops⟩ ⟨((),rest)⟩:=rfl
theorem aa (id:Nat) (l:List Oper) (σ:St):aH T C L ν (.region id (List.toArray l) false) σ=after (ν.keep id) (@Li T C ν σ ⟨l⟩ ⟨((),l)⟩):=by
 rw [eQ]
 simp only [List.toList_toArray]
 rfl
def Kg (o:Oper) (σ:St) (g:Option Bool):Kd:=match g with
 |none=>.wild
 |some false=>match be T ν o with
  |true=>.work none σ.S.length
  |false=>match aI σ.env o.dst with
   |true=>.wild
   |false=>.still (o.op.operands.toList.all (aY σ.env)) false (aL T σ false o.op) true true
 |some true=>match be T ν o with
  |true=>bM T σ o.op
  |false=>match aK T C σ true o.op with
   |some d=>match aI σ.env o.dst with
    |true=>.wild
    |false=>.still (o.op.operands.toList.all (aY σ.env)) (aN d||tW (aL T σ true o.op) d) (aL T σ true o.op) (br d) (lP d)
   |none=>bif bN σ.env o.op then .eff else .wild
def AP (o:Oper) (σ:St) (g:Option Bool):Kd:=match g with
 |some true=>qB T C ν o σ (cd (aI σ.env o.dst) o.op (Kg T C ν o σ (some true)))
 |some false=>Kg T C ν o σ (some false)
 |none=>Kg T C ν o σ none
theorem JO (o:Oper) (σ:St):AP T C ν o σ (some false)=match be T ν o with
  |true=>.work none σ.S.length
  |false=>match aI σ.env o.dst with
   |true=>.wild
   |false=>.still (o.op.operands.toList.all (aY σ.env)) false (aL T σ false o.op) true true:=rfl
theorem JM (o:Oper) (σ:St):AP T C ν o σ (some true)=qB T C ν o σ (cd (aI σ.env o.dst) o.op (match be T ν o with
  |true=>bM T σ o.op
  |false=>match aK T C σ true o.op with
   |some d=>match aI σ.env o.dst with
    |true=>.wild
    |false=>.still (o.op.operands.toList.all (aY σ.env)) (aN d||tW (aL T σ true o.op) d) (aL T σ true o.op) (br d) (lP d)
   |none=>bif bN σ.env o.op then .eff else .wild)):=rfl
def Jb (σ:St) (ks:List Kd) [ops:fx (List Oper)] [rest:fx (Unit×List Oper)]:Option (St×List Kd):=match dV T C ν ops.val rest.val.2 σ with
 |some (σ',k2)=>some (σ',ks++k2)
 |none=>none
def RJ (r:Option St) (k:Kd) (ks:List Kd) [ops:fx (List Oper)] [rest:fx (Unit×List Oper)]:Option (St×List Kd):=match r with
 |some σ=>@Jb T C ν σ (ks++ [k]) ops rest
 |none=>none
theorem Hs (ops:List Oper) (σ:St) (ks:List Kd): @Jb T C ν σ ks ⟨ops⟩ ⟨((),[])⟩=some (σ,ks):=by simp [Jb,dV]
theorem EQ (ops rest:List Oper) (o:Oper) (σ:St) (ks:List Kd): @Jb T C ν σ ks ⟨ops⟩ ⟨((),o::rest)⟩= @RJ T C ν (EP T C ν o σ (@xr σ.env o.guard ⟨ops⟩)) (AP T C ν o σ (@xr σ.env o.guard ⟨ops⟩)) ks ⟨ops⟩ ⟨((),rest)⟩:=by
 simp only [Jb,RJ,dV,xr]
 have e1:cP T C ν ops o σ=EP T C ν o σ (aQ ops σ.env o.guard):=ie T C ν ops o σ
 have e3:cI T C ν ops o σ=Kg T C ν o σ (aQ ops σ.env o.guard):=M3 T C ν ops o σ
 have e2:cT T C ν ops o σ=AP T C ν o σ (aQ ops σ.env o.guard):=by
  unfold cT AP
  rw [e3]
  split<;>rename_i h
  ·rw [h]
  ·cases hg:aQ ops σ.env o.guard with
   |none=>rfl
   |some q=>cases q with
    |true=>exact absurd hg (by intro e;exact h e)
    |false=>rfl
 rw [e1,e2]
 cases EP T C ν o σ (aQ ops σ.env o.guard) with
 |none=>rfl
 |some s=>
  simp only
  cases dV T C ν ops rest s with
  |none=>rfl
  |some p=>simp
theorem CH (ops rest:List Oper) (σ:St) (k:Kd) (ks:List Kd): @RJ T C ν (some σ) k ks ⟨ops⟩ ⟨((),rest)⟩= @Jb T C ν σ (ks++ [k]) ⟨ops⟩ ⟨((),rest)⟩:=rfl
def Qj (fr:List (Nat×Nat)) (r:Option (St×List Kd)):Option St:=match r with
 |some (σ,ks)=>match ks.all bm with
  |true=>some σ
  |false=>match bp ks fr with
   |true=>some σ
   |false=>none
 |none=>none
theorem CQ (fr:List (Nat×Nat)) (σ:St) (ks:List Kd):Qj fr (some (σ,ks))=match ks.all bm with
  |true=>some σ
  |false=>match bp ks fr with
   |true=>some σ
   |false=>none:=rfl
def JZ (σ:St) (fr:List (Nat×Nat)) [ops:fx (List Oper)]:Option St:=match fr with
 | []=>fd T C ν ops.val ops.val σ
 |fr=>Qj fr (match dV T C ν ops.val ops.val σ with|some (σ',k2)=>some (σ',[]++k2)|none=>none)
theorem aq (id:Nat) (l:List Oper) (σ:St):aH T C L ν (.region id (List.toArray l) true) σ=after (ν.keep id) (@JZ T C ν σ (ν.free id) ⟨l⟩):=by
 rw [eQ]
 simp only [List.toList_toArray,gQ,JZ]
 congr 1
 cases hf:ν.free id with
 |nil=>rfl
 |cons p r=>
  simp only [List.isEmpty_cons,Qj]
  cases dV T C ν l l σ with
  |none=>rfl
  |some q=>rfl
theorem C5 (ops:List Oper) (σ:St): @JZ T C ν σ [] ⟨ops⟩= @Li T C ν σ ⟨ops⟩ ⟨((),ops)⟩:=rfl
theorem Bq (p:Nat×Nat) (r:List (Nat×Nat)) (ops:List Oper) (σ:St): @JZ T C ν σ (p::r) ⟨ops⟩=Qj (p::r) (@Jb T C ν σ [] ⟨ops⟩ ⟨((),ops)⟩):=rfl
end
end Go.Mx
namespace Go.Mx
open Go
def V2 (a b:ByteArray):Int:=Lib.compareBytes a.data.toList b.data.toList
theorem LH {P:Program} {f:FuncId} {x:V} {args:List D} (hx:bR x=true) (ha: ∀d∈args,∀j,cW d j=false)
  (h: ∀(w:World) (G:Gh) (vals:List Value),z7 w.heap G args vals->(callFunc f vals.toArray).run P w= .ok (.value (scal x)) w):Mx.Sem P f args [] (.v x) []:=by
 intro w G vals R L A
 unfold eD
 rw [h w G vals A]
 refine⟨G,R,L,dq.refl _ _ _,rfl,?_,.inl rfl,?_⟩
 ·simp only [RD];exact RV.ofScal hx
 ·intro k j p hp
  obtain⟨d,h1,h2⟩:=A.own k j p hp
  rw [ha d (List.mem_of_getElem? h1) j] at h2;cases h2
theorem N4 {h:Array Obj} {G:Gh} {a b:ByteArray} {vals:List Value} (A:z7 h G [.v (.s a),.v (.s b)] vals):vals= [.string a,.string b]:=by
 have hl:=A.len
 obtain⟨v0,h0,r0,_⟩:=A.rd 0 (.v (.s a)) rfl
 obtain⟨v1,h1,r1,_⟩:=A.rd 1 (.v (.s b)) rfl
 simp only [RD,RV] at r0 r1
 subst r0 r1
 match vals,hl,h0,h1 with
 | [x,y],_,h0,h1=>simp at h0 h1;rw [h0,h1]
theorem Pi {P:Program} {f:FuncId} {fn:Func} (hf:P.funcs[f]? =some fn) (hname:(fn.name== "runtime.NumGoroutine")=false) (hb:fn.body.isNone=true) (hn:Extern.findNext fn=none) (he:Extern.find fn=some Extern.BytealgCompare.compare) (a b:ByteArray):Mx.Sem P f [.v (.s a),.v (.s b)] [] (.v (.i .i64 (V2 a b))) []:=by
 refine LH rfl (by intro d hd j;simp at hd;rcases hd with rfl|rfl<;>rfl) ?_
 intro w G vals A
 rw [N4 A]
 rw [run_callFunc_extern hf hname hb hn he,Lib.run_compareString]
 rfl
def cD (k id:Nat):Code->Option Code
 | .region i ops d=>bif k==0&&i==id then some (.region i ops d) else none
 | .seq a b=>match cD k id a with
  |some r=>some r
  |none=>cD k id b
 | .cond (.tmp t) a b=>bif k==1&&t==id then some (.cond (.tmp t) a b) else match cD k id a with
  |some r=>some r
  |none=>cD k id b
 | .block i c=>bif k==2&&i==id then some (.block i c) else cD k id c
 | .loop c=>cD k id c
 |_=>none
section
variable (T:Nat->Ty) (C:aj) (L:dS) (ν:cL)
def cV (k id:Nat) (σ:St) [b:fx Code]:Option (Ex×St):=aH T C L ν b.val σ
theorem bg (id:Nat) (ops:Array Oper) (d:Bool) (σ:St):aH T C L ν (.region id ops d) σ= @cV T C L ν 0 id σ ⟨.region id ops d⟩:=rfl
theorem da (t:Nat) (a b:Code) (σ:St):aH T C L ν (.cond (.tmp t) a b) σ= @cV T C L ν 1 t σ ⟨.cond (.tmp t) a b⟩:=rfl
theorem Ct (id:Nat) (c:Code) (σ:St):aH T C L ν (.block id c) σ= @cV T C L ν 2 id σ ⟨.block id c⟩:=rfl
end
end Go.Mx
namespace Go.Mx
open Go
theorem RB:type_of% (And.intro @List.toList_toArray.{0} (And.intro @Bool.false_and (And.intro @cond_false.{1} (And.intro @cond_true.{1} (And.intro @List.isEmpty_cons.{0} (And.intro @List.isEmpty_nil.{0} (And.intro @Bool.false_or (And.intro @Bool.or_false (And.intro @Bool.true_or (And.intro @Bool.or_true (And.intro @Bool.and_true (And.intro @Bool.true_and (And.intro @Bool.and_false (And.intro @Bool.not_true (And.intro @Bool.not_false (And.intro @Bool.not_not (And.intro @Bool.or_not_self (And.intro @Bool.not_or_self (And.intro @Bool.and_self (And.intro @Bool.or_self (And.intro @gS (And.intro @Al (And.intro @List.all_cons.{0} (And.intro @List.all_nil.{0} (And.intro @gc (And.intro @List.map_cons.{0,0} (And.intro @List.map_nil.{0,0} (And.intro @eF (And.intro @fw (And.intro @ff (And.intro @hJ (And.intro @Option.isNone_none.{0} (And.intro @Option.isNone_some.{0} (And.intro @Option.isSome_none.{0} (And.intro @Option.isSome_some.{0} (And.intro @List.length_cons.{0} (And.intro @List.length_nil.{0} (And.intro @List.drop_succ_cons.{0} (And.intro @List.drop_zero.{0} (And.intro @List.take_succ_cons.{0} (And.intro @List.take_zero.{0} (And.intro @List.take_nil.{0} (And.intro @List.drop_nil.{0} (And.intro @List.getElem?_cons_zero.{0} (And.intro @List.getElem?_cons_succ.{0} (And.intro @List.getElem?_nil.{0} (And.intro @Nat.zero_add (And.intro @Nat.add_zero (And.intro @ite_true.{1} (And.intro @if_true.{1} (And.intro @eq_self.{1} (And.intro @fV (And.intro @eP (And.intro @List.contains_cons.{0} (And.intro @List.contains_nil.{0} (And.intro @List.elem_cons.{0} (And.intro @List.elem_nil.{0} (And.intro @List.any_cons.{0} (And.intro @List.any_nil.{0} (And.intro @ij (And.intro @List.set_cons_zero.{0} (And.intro @List.set_cons_succ.{0} (And.intro @List.nil_append.{0} (And.intro @List.cons_append.{0} (And.intro @List.append_nil.{0} (And.intro @decide_true (And.intro @decide_false (And.intro @Int.cast_ofNat_Int (And.intro @ge (And.intro @fv (And.intro @JB (And.intro @gH (And.intro @gb (And.intro @beq_self_eq_true.{0} (And.intro @Bool.cond_true_left (And.intro @Bool.cond_false_right (And.intro @Bool.cond_false_left (And.intro @Bool.cond_true_right (And.intro @ge_iff_le.{0} (And.intro @gt_iff_lt.{0} (And.intro @List.getD_cons_zero.{0} (And.intro @List.getD_cons_succ.{0} (And.intro @Bool.not_eq_true (And.intro @Option.map_some.{0,0} (And.intro @Option.map_none.{0,0} (And.intro @Bool.decide_eq_true (And.intro @gW (And.intro @hP (And.intro @ii (And.intro @fu (And.intro @fz (And.intro @gG (And.intro @Rk (And.intro @Rn (And.intro @Rr (And.intro @Bl (And.intro @Hw (And.intro @HC (And.intro @HN (And.intro @ak (And.intro @Rs (And.intro @MP (And.intro @IT (And.intro @QH (And.intro @GF (And.intro @DP (And.intro @GX (And.intro @Dm (And.intro @HR (And.intro @Em (And.intro @QL (And.intro @QP (And.intro @Ra (And.intro @Q6 (And.intro @QX (And.intro @QO (And.intro @Rp (And.intro @ZI (And.intro @MW (And.intro @M2 (And.intro @gZ (And.intro @Ey (And.intro @Bk (And.intro @CJ (And.intro @DO (And.intro @GA (And.intro @Do (And.intro @Ew (And.intro @J0 (And.intro @JI (And.intro @zN (And.intro @zB (And.intro @Hs (And.intro @EQ (And.intro @CH (And.intro @JM (And.intro @JO (And.intro @CQ (And.intro @C5 (And.intro @Bq (And.intro @Sum.elim_inl.{0,1,0} (And.intro @Sum.elim_inr.{0,1,0} (And.intro @beq_true (And.intro @beq_false (And.intro @Bool.true_beq (And.intro @Bool.false_beq (And.intro @List.isEmpty_toArray.{0} (And.intro @Array.toList_append.{0} (And.intro @Option.toArray_some.{0} (@Option.toArray_none.{0})))))))))))))))))))))))))))))))))))))))))))))))))))))))))))))))))))))))))))))))))))))))))))))))))))))))))))))))))))))))))))))))))))))))))))))))))))))):=⟨@List.toList_toArray,@Bool.false_and,@cond_false,@cond_true,@List.isEmpty_cons,@List.isEmpty_nil,@Bool.false_or,@Bool.or_false,@Bool.true_or,@Bool.or_true,@Bool.and_true,@Bool.true_and,@Bool.and_false,@Bool.not_true,@Bool.not_false,@Bool.not_not,@Bool.or_not_self,@Bool.not_or_self,@Bool.and_self,@Bool.or_self,@gS,@Al,@List.all_cons,@List.all_nil,@gc,@List.map_cons,@List.map_nil,@eF,@fw,@ff,@hJ,@Option.isNone_none,@Option.isNone_some,@Option.isSome_none,@Option.isSome_some,@List.length_cons,@List.length_nil,@List.drop_succ_cons,@List.drop_zero,@List.take_succ_cons,@List.take_zero,@List.take_nil,@List.drop_nil,@List.getElem?_cons_zero,@List.getElem?_cons_succ,@List.getElem?_nil,@Nat.zero_add,@Nat.add_zero,@ite_true,@if_true,@eq_self,@fV,@eP,@List.contains_cons,@List.contains_nil,@List.elem_cons,@List.elem_nil,@List.any_cons,@List.any_nil,@ij,@List.set_cons_zero,@List.set_cons_succ,@List.nil_append,@List.cons_append,@List.append_nil,@decide_true,@decide_false,@Int.cast_ofNat_Int,@ge,@fv,@JB,@gH,@gb,@beq_self_eq_true,@Bool.cond_true_left,@Bool.cond_false_right,@Bool.cond_false_left,@Bool.cond_true_right,@ge_iff_le,@gt_iff_lt,@List.getD_cons_zero,@List.getD_cons_succ,@Bool.not_eq_true,@Option.map_some,@Option.map_none,@Bool.decide_eq_true,@gW,@hP,@ii,@fu,@fz,@gG,@Rk,@Rn,@Rr,@Bl,@Hw,@HC,@HN,@ak,@Rs,@MP,@IT,@QH,@GF,@DP,@GX,@Dm,@HR,@Em,@QL,@QP,@Ra,@Q6,@QX,@QO,@Rp,@ZI,@MW,@M2,@gZ,@Ey,@Bk,@CJ,@DO,@GA,@Do,@Ew,@J0,@JI,@zN,@zB,@Hs,@EQ,@CH,@JM,@JO,@CQ,@C5,@Bq,@Sum.elim_inl,@Sum.elim_inr,@beq_true,@beq_false,@Bool.true_beq,@Bool.false_beq,@List.isEmpty_toArray,@Array.toList_append,@Option.toArray_some,@Option.toArray_none⟩
theorem RP:type_of% (And.intro @fq (And.intro @fW (And.intro @fp (And.intro @fk (And.intro @cond_true.{1} (@cond_false.{1})))))):=⟨@fq,@fW,@fp,@fk,@cond_true,@cond_false⟩
def ax:List (Nat×List Nat)->Nat->List Nat
 | [],_=>[]
 |(u,l)::r,i=>bif u==i then l else ax r i
def av:List (Nat×List Nat×List Nat)->Nat->Bool->Option (List Nat)
 | [],_,_=>none
 |(u,a,b)::r,t,x=>bif u==t then some (bif x then a else b) else av r t x
def atO:Option (List Nat)->Env->bH->St
 |some l,e,S=>⟨Mx.prune l e,S⟩
 |none,e,S=>⟨e,S⟩
theorem cF {ν:cL} {A:List (Nat×List Nat×List Nat)} (h:ν.alive=av A) (t:Nat) (x:Bool) (e:Env) (S:bH):cK ν t x ⟨e,S⟩=atO (av A t x) e S:=by
 unfold cK
 rw [h]
 cases av A t x<;>rfl
def oB {α β:Type} (e:Option α) (f:α->Option β):Option β:=match e with
 |none=>none
 |some x=>f x
theorem f9 {α β:Type} (x:α) (f:α->Option β):oB (some x) f=f x:=rfl
@[reducible] def D.I (x:Int):D:=.v (.i .i64 x)
@[reducible] def V.I (x:Int):V:=.i .i64 x
theorem az {α β:Type} {e:Option α} {f:α->Option β} {r:β} {P:Prop} (h: ∀x,e=some x->f x=some r->P):oB e f=some r->P:=by
 cases e with
 |none=>exact nofun
 |some x=>exact h x rfl
theorem aX {α:Type} {c:Bool} {a b r:α} {P:Prop} (t:c=true->a=r->P) (f:c=false->b=r->P):(bif c then a else b)=r->P:=by
 cases c
 ·exact f rfl
 ·exact t rfl
theorem bF {α:Type} {c:Bool} {a b r:α} {P:Prop} (f:c=false->b=r->P) (t:c=true->a=r->P):(bif c then a else b)=r->P:=aX t f
theorem iq {α:Type} {c:Bool} {a b r:α} {P:Prop} (f:c=false->b=r->P) (t:a=r->c=true->P):(bif c then a else b)=r->P:=aX (fun h e=>t e h) f
theorem ip {α:Type} {c:Bool} {a b r:α} {P:Prop} (t:c=true->a=r->P) (f:b=r->c=false->P):(bif c then a else b)=r->P:=aX t (fun h e=>f e h)
theorem mt {α:Type} {c:Bool} {a:Option α} {r:α} {P:Prop} (t:c=true->a=some r->P):(bif c then a else none)=some r->P:=aX t (fun _=>nofun)
theorem YM {α:Type} {c:Bool} {a:Option α} {r:α} {P:Prop} (f:c=false->a=some r->P):(bif c then none else a)=some r->P:=aX (fun _=>nofun) f
theorem vL {α:Type} {a r:α} {P:Prop} (h:a=r->P):some a=some r->P:=fun e=>h (Option.some.inj e)
theorem bK {C:aj} {f:Nat} {a:List D} {d:D} (h:C f a []=some (d,[])):C.wide f a []=some (d,[]):=by simp only [aj.wide,h]
theorem iQ {P:Program} {C:aj} {ν:cL} {f:FuncId} {fn:Func} {args:List D} {S S':bH} {d:D} (SB:iB P C) (hf:P.funcs[f]? =some fn) (h:(Hc fn&&((dM (aU fn)).all (fun p=>Bw p.2 (ν.free p.1))&&Nat.ble args.length fn.ntmps))=true) (hm:P.follows .mixedOrders=true)
  (he:cR (ck P) C.wide (evW (ck P) C.wide ν (aU fn)) ν fn.results.toList (aU fn) args S=some (d,S')):Mx.Sem P f args S d S':=by
 simp only [Bool.and_eq_true] at h
 exact cb (aW SB) hf h.1 hm h.2.1 (Nat.le_of_ble_eq_true h.2.2) he
theorem RC:type_of% (And.intro (And.intro (And.intro (And.intro (And.intro (And.intro (And.intro @be.eq_1 @Mx.bl.eq_def) (And.intro @opnd.eq_1 @opnd.eq_2)) (And.intro (And.intro @opnd.eq_3 @opnd.eq_4) (And.intro @Mx.bI.eq_1 (And.intro @Mx.bI.eq_2 @bQ.eq_def)))) (And.intro (And.intro (And.intro @aN.eq_def @aA.eq_def) (And.intro @Mx.put.eq_1 (And.intro @Mx.prune.eq_1 @iy.eq_1))) (And.intro (And.intro @iy.eq_2 @iy.eq_3) (And.intro @iy.eq_4 (And.intro @iy.eq_5 @iy.eq_6))))) (And.intro (And.intro (And.intro (And.intro @iy.eq_7 @iy.eq_8) (And.intro @iy.eq_9 (And.intro @iy.eq_10 @iy.eq_11))) (And.intro (And.intro @iy.eq_12 @iy.eq_13) (And.intro @iy.eq_14 (And.intro @ax.eq_1 @ax.eq_2)))) (And.intro (And.intro (And.intro @aK.eq_def @putDst.eq_1) (And.intro @putDst.eq_2 (And.intro @aw.eq_1 @ofConst.eq_def))) (And.intro (And.intro @ofCell.eq_def @bf.eq_1) (And.intro @aJ.eq_def (And.intro @co.eq_def @Mx.fit.eq_def)))))) (And.intro (And.intro (And.intro (And.intro (And.intro @bJ.eq_def @aM.eq_def) (And.intro @ay.eq_def (And.intro @cz.eq_def @loadAt.eq_def))) (And.intro (And.intro @cB.eq_def @cy.eq_def) (And.intro @cx.eq_def (And.intro @lowC.eq_def @bT.eq_1)))) (And.intro (And.intro (And.intro @aE.eq_1 @enter.eq_1) (And.intro @enter.eq_2 (And.intro @aC.eq_1 @bu.eq_1))) (And.intro (And.intro @bu.eq_2 @cA.eq_def) (And.intro @forceAll.eq_1 (And.intro @forceAll.eq_2 @lend.eq_def))))) (And.intro (And.intro (And.intro (And.intro @lendA.eq_def @aS.eq_def) (And.intro @aB.eq_def (And.intro @bare.eq_def @bW.eq_def))) (And.intro (And.intro @newB.eq_def @cw.eq_def) (And.intro @bR.eq_def (And.intro @bx.eq_1 @bx.eq_2)))) (And.intro (And.intro (And.intro @av.eq_1 @av.eq_2) (And.intro @atO.eq_1 (And.intro @atO.eq_2 @bS.eq_def))) (And.intro (And.intro @cellsOf.eq_def @kill.eq_1) (And.intro @aQ.eq_1 (And.intro @aQ.eq_2 @frz.eq_def))))))) (And.intro (And.intro (And.intro (And.intro (And.intro (And.intro @cq.eq_def @bG.eq_def) (And.intro @aD.eq_1 (And.intro @bh.eq_1 @bw.eq_def))) (And.intro (And.intro @cu.eq_def @kt.eq_1) (And.intro @kt.eq_2 (And.intro @toVs.eq_1 @toVs.eq_2)))) (And.intro (And.intro (And.intro @toV.eq_def @bD.eq_def) (And.intro @setCells.eq_1 (And.intro @setCells.eq_2 @fitS.eq_1))) (And.intro (And.intro @argsE.eq_1 @argsE.eq_2) (And.intro @bj.eq_1 (And.intro @argE.eq_1 @takeParts.eq_1))))) (And.intro (And.intro (And.intro (And.intro @takeParts.eq_2 @ar.eq_1) (And.intro @qB.eq_def (And.intro @ub.eq_def @tW.eq_def))) (And.intro (And.intro @cd.eq_def @aI.eq_1) (And.intro @aI.eq_2 (And.intro @aY.eq_def @lP.eq_def)))) (And.intro (And.intro (And.intro @bL.eq_def @cv.eq_def) (And.intro @ch.eq_def (And.intro @bo.eq_def @aL.eq_def))) (And.intro (And.intro @bm.eq_def @br.eq_1) (And.intro @fill.eq_1 (And.intro @fill.eq_2 @bq.eq_def)))))) (And.intro (And.intro (And.intro (And.intro (And.intro @bM.eq_def @bp.eq_1) (And.intro @bp.eq_2 (And.intro @bd.eq_def @aO.eq_def))) (And.intro (And.intro @au.eq_def @bN.eq_def) (And.intro @bv.eq_1 (And.intro @bv.eq_2 @aR.eq_1)))) (And.intro (And.intro (And.intro @aR.eq_2 @spendLoc.eq_def) (And.intro @spendOk.eq_def (And.intro @layOf.eq_1 @zL.eq_def))) (And.intro (And.intro @kx.eq_def @aF.eq_def) (And.intro @lowA.eq_def (And.intro @bn.eq_def @bO.eq_def))))) (And.intro (And.intro (And.intro (And.intro @eqC.eq_def @qp.eq_1) (And.intro @nH.eq_1 (And.intro @go.eq_1 @wB.eq_def))) (And.intro (And.intro @vS.eq_def @bound.eq_1) (And.intro @bound.eq_2 (And.intro @ci.eq_def @bA.eq_def)))) (And.intro (And.intro (And.intro @ce.eq_1 @xk.eq_1) (And.intro @xk.eq_2 (And.intro @jF.eq_1 @inL.eq_def))) (And.intro (And.intro @ct.eq_def @bU.eq_def) (And.intro @Op.operands.eq_def (And.intro @Call.operands.eq_1 @cg.eq_def)))))))):=And.intro (And.intro (And.intro (And.intro (And.intro (And.intro (And.intro @be.eq_1 @Mx.bl.eq_def) (And.intro @opnd.eq_1 @opnd.eq_2)) (And.intro (And.intro @opnd.eq_3 @opnd.eq_4) (And.intro @Mx.bI.eq_1 (And.intro @Mx.bI.eq_2 @bQ.eq_def)))) (And.intro (And.intro (And.intro @aN.eq_def @aA.eq_def) (And.intro @Mx.put.eq_1 (And.intro @Mx.prune.eq_1 @iy.eq_1))) (And.intro (And.intro @iy.eq_2 @iy.eq_3) (And.intro @iy.eq_4 (And.intro @iy.eq_5 @iy.eq_6))))) (And.intro (And.intro (And.intro (And.intro @iy.eq_7 @iy.eq_8) (And.intro @iy.eq_9 (And.intro @iy.eq_10 @iy.eq_11))) (And.intro (And.intro @iy.eq_12 @iy.eq_13) (And.intro @iy.eq_14 (And.intro @ax.eq_1 @ax.eq_2)))) (And.intro (And.intro (And.intro @aK.eq_def @putDst.eq_1) (And.intro @putDst.eq_2 (And.intro @aw.eq_1 @ofConst.eq_def))) (And.intro (And.intro @ofCell.eq_def @bf.eq_1) (And.intro @aJ.eq_def (And.intro @co.eq_def @Mx.fit.eq_def)))))) (And.intro (And.intro (And.intro (And.intro (And.intro @bJ.eq_def @aM.eq_def) (And.intro @ay.eq_def (And.intro @cz.eq_def @loadAt.eq_def))) (And.intro (And.intro @cB.eq_def @cy.eq_def) (And.intro @cx.eq_def (And.intro @lowC.eq_def @bT.eq_1)))) (And.intro (And.intro (And.intro @aE.eq_1 @enter.eq_1) (And.intro @enter.eq_2 (And.intro @aC.eq_1 @bu.eq_1))) (And.intro (And.intro @bu.eq_2 @cA.eq_def) (And.intro @forceAll.eq_1 (And.intro @forceAll.eq_2 @lend.eq_def))))) (And.intro (And.intro (And.intro (And.intro @lendA.eq_def @aS.eq_def) (And.intro @aB.eq_def (And.intro @bare.eq_def @bW.eq_def))) (And.intro (And.intro @newB.eq_def @cw.eq_def) (And.intro @bR.eq_def (And.intro @bx.eq_1 @bx.eq_2)))) (And.intro (And.intro (And.intro @av.eq_1 @av.eq_2) (And.intro @atO.eq_1 (And.intro @atO.eq_2 @bS.eq_def))) (And.intro (And.intro @cellsOf.eq_def @kill.eq_1) (And.intro @aQ.eq_1 (And.intro @aQ.eq_2 @frz.eq_def))))))) (And.intro (And.intro (And.intro (And.intro (And.intro (And.intro @cq.eq_def @bG.eq_def) (And.intro @aD.eq_1 (And.intro @bh.eq_1 @bw.eq_def))) (And.intro (And.intro @cu.eq_def @kt.eq_1) (And.intro @kt.eq_2 (And.intro @toVs.eq_1 @toVs.eq_2)))) (And.intro (And.intro (And.intro @toV.eq_def @bD.eq_def) (And.intro @setCells.eq_1 (And.intro @setCells.eq_2 @fitS.eq_1))) (And.intro (And.intro @argsE.eq_1 @argsE.eq_2) (And.intro @bj.eq_1 (And.intro @argE.eq_1 @takeParts.eq_1))))) (And.intro (And.intro (And.intro (And.intro @takeParts.eq_2 @ar.eq_1) (And.intro @qB.eq_def (And.intro @ub.eq_def @tW.eq_def))) (And.intro (And.intro @cd.eq_def @aI.eq_1) (And.intro @aI.eq_2 (And.intro @aY.eq_def @lP.eq_def)))) (And.intro (And.intro (And.intro @bL.eq_def @cv.eq_def) (And.intro @ch.eq_def (And.intro @bo.eq_def @aL.eq_def))) (And.intro (And.intro @bm.eq_def @br.eq_1) (And.intro @fill.eq_1 (And.intro @fill.eq_2 @bq.eq_def)))))) (And.intro (And.intro (And.intro (And.intro (And.intro @bM.eq_def @bp.eq_1) (And.intro @bp.eq_2 (And.intro @bd.eq_def @aO.eq_def))) (And.intro (And.intro @au.eq_def @bN.eq_def) (And.intro @bv.eq_1 (And.intro @bv.eq_2 @aR.eq_1)))) (And.intro (And.intro (And.intro @aR.eq_2 @spendLoc.eq_def) (And.intro @spendOk.eq_def (And.intro @layOf.eq_1 @zL.eq_def))) (And.intro (And.intro @kx.eq_def @aF.eq_def) (And.intro @lowA.eq_def (And.intro @bn.eq_def @bO.eq_def))))) (And.intro (And.intro (And.intro (And.intro @eqC.eq_def @qp.eq_1) (And.intro @nH.eq_1 (And.intro @go.eq_1 @wB.eq_def))) (And.intro (And.intro @vS.eq_def @bound.eq_1) (And.intro @bound.eq_2 (And.intro @ci.eq_def @bA.eq_def)))) (And.intro (And.intro (And.intro @ce.eq_1 @xk.eq_1) (And.intro @xk.eq_2 (And.intro @jF.eq_1 @inL.eq_def))) (And.intro (And.intro @ct.eq_def @bU.eq_def) (And.intro @Op.operands.eq_def (And.intro @Call.operands.eq_1 @cg.eq_def)))))))
theorem RI:type_of% (And.intro (And.intro (And.intro @Prod.mk.injEq.{0,0} (And.intro @List.cons.injEq.{0} @D.v.injEq)) (And.intro (And.intro @D.own.injEq @D.agg.injEq) (And.intro @D.rp.injEq @D.clo.injEq))) (And.intro (And.intro @D.ptr.injEq (And.intro @V.i.injEq @V.s.injEq)) (And.intro (And.intro @V.b.injEq @V.sl.injEq) (And.intro @true_and @and_true)))):=And.intro (And.intro (And.intro @Prod.mk.injEq.{0,0} (And.intro @List.cons.injEq.{0} @D.v.injEq)) (And.intro (And.intro @D.own.injEq @D.agg.injEq) (And.intro @D.rp.injEq @D.clo.injEq))) (And.intro (And.intro @D.ptr.injEq (And.intro @V.i.injEq @V.s.injEq)) (And.intro (And.intro @V.b.injEq @V.sl.injEq) (And.intro @true_and @and_true)))
end Go.Mx
