/- The machine Mx: Go code run on plain data in place of memory, and that it tells the truth of the model (part MxThree). -/
import Derived.Test.YtgcglmoogaldbaaMxTwo
import Derived.Conc.MuLone
import Derived.Orders
import Derived.Deep.LoopGhost
import Derived.Test.YtgcglmoogaldbaaMxOne
set_option linter.unusedSimpArgs false
set_option linter.unusedVariables false
set_option linter.constructorNameAsVariable false
set_option linter.unnecessarySimpa false
noncomputable section
namespace Go.Mx
open Go
def eD (P:Program) (f:FuncId) (args:Array Value) (w:World) (R:Value->World->Prop):Prop:=
 match (callFunc f args).run P w with
 | .ok (.enter g xs) w1=>Calls P g xs w1 fun e w2=>∃v,e= .returned v/\R v w2
 | .ok (.value v) w1=>R v w1
 | .ok (.row r xs) w1=>Rows P r xs w1 R
 |_=>False
theorem eD.mono {P:Program} {f:FuncId} {args:Array Value} {w:World} {R R':Value->World->Prop} (h:eD P f args w R) (hr: ∀v w',R v w'->R' v w'):eD P f args w R':=by
 unfold eD at*
 split at h
 ·exact h.mono (fun e w2 ⟨v,h1,h2⟩=>⟨v,h1,hr _ _ h2⟩)
 ·exact hr _ _ h
 ·exact h.mono hr
 ·exact h.elim
structure z7 (h:Array Obj) (G:Gh) (args:List D) (vals:List Value):Prop where
 len:vals.length=args.length
 rd: ∀(j:Nat) (d:D),args[j]? =some d-> ∃v,vals[j]? =some v/\RD h G (Loc.hand j) d v/\bD d=true
 own: ∀k j p,G.ow (.hand k j)=some p-> ∃d,args[k]? =some d/\cW d j=true
structure Res (h:Array Obj) (G:Gh) (n:Nat) (d:D) (v:Value):Prop where
 rd:RD h G (Loc.hand 0) d v
 ok:bD d=true∨aA d=true
 own: ∀k j p,G.ow (.hand k j)=some p->k=0/\cW d j=true
def Sem (P:Program) (f:FuncId) (args:List D) (S:bH) (d:D) (S':bH):Prop:=
 ∀(w:World) (G:Gh) (vals:List Value),Rel w.heap G #[] ⟨[],S⟩->Low S->z7 w.heap G args vals->
  eD P f vals.toArray w fun v w'=>∃G',Rel w'.heap G' #[] ⟨[],S'⟩/\Low S'/\dq w G ⟨[],S⟩ w' G' ⟨[],S'⟩/\S'.length=S.length/\Res w'.heap G' S.length d v
def ZL (S:bH) (args:List D) (h:Array Obj) (G:Gh) (h':Array Obj) (G':Gh):Prop:=
 ∀q j b f,jF S args (.cell q j)=false->G.ow (.cell q j)=some (b,f)->G'.ow (.cell q j)=some (b,f)/\h'[b]? =h[b]?
def SemL (P:Program) (f:FuncId) (args:List D) (S:bH) (d:D) (S':bH):Prop:=
 ∀(w:World) (G:Gh) (vals:List Value),Rel w.heap G #[] ⟨[],S⟩->Low S->z7 w.heap G args vals->
  eD P f vals.toArray w fun v w'=>∃G',Rel w'.heap G' #[] ⟨[],S'⟩/\Low S'/\dq w G ⟨[],S⟩ w' G' ⟨[],S'⟩/\S'.length=S.length/\Res w'.heap G' S.length d v/\ZL S args w.heap G w'.heap G'
theorem SemL.sem {P:Program} {f:FuncId} {args:List D} {S S':bH} {d:D} (h:SemL P f args S d S'):Sem P f args S d S':=fun w G vals R L A=>(h w G vals R L A).mono fun v w' ⟨G',h1,h2,h3,h4,h5,_⟩=>⟨G',h1,h2,h3,h4,h5⟩
structure zi (C:aj):Prop where
 out: ∀f args S d S',C f args S=some (d,S')-> ∀o,jF S args (.cell o 0)=false->S'[o]? =S[o]?
 len: ∀f args S d S',C f args S=some (d,S')->S'.length=S.length
 grow: ∀f args S d S',C f args S=some (d,S')->S≠ []-> ∀cs,C f args (S++ [cs])=some (d,S'++ [cs])/\qp (S++ [cs]) args=qp S args
def iB (P:Program) (C:aj):Prop:=∀f args S d S',C f args S=some (d,S')->Sem P f args S d S'
structure cj (P:Program) (C:aj):Prop where
 sem: ∀f args S d S',C f args S=some (d,S')->SemL P f args S d S'
 loc:zi C
section
variable {P:Program} {w:World} {h:Array Obj} {G:Gh} {tmps:Array Value} {σ σ':St} {ds:List Deferred} {C:aj} {ro mv gv:Nat->Bool} {o:Oper}
theorem Rel.bare {h:Array Obj} {G:Gh} {S:bH} (I:Inv h G) (obj: ∀o cs,S[o]? =some cs->ROb h G o cs) (obc: ∀(o:Nat) (cs:List D),S[o]? =some cs->cs.all aM=true) (obn: ∀o,S.length<=o->G.ob o=none)
  (own: ∀l p,(∀k j,l≠ .hand k j)->G.ow l=some p->dg ⟨[],S⟩ l=true):Rel h G #[] ⟨[],S⟩:=
 ⟨I,fun t=>by simp only [bI,RD],obj,obc,obn,own⟩
theorem gp {c:Call} {f:FuncId} (ho:o.op= .call c) (hc:c.callee= .value (.func f)):(execOp (⟨tmps,ds⟩:Act).eval o).run P w=(callFunc f (c.args.map (⟨tmps,ds⟩:Act).eval)).run P w:=by
 simp [execOp,ho,resolve,hc,Deferred.ofValue,invoke,Act.eval]
theorem IB {c:Call} {x:Tmp} {f:FuncId} {caps:Array Value} (ho:o.op= .call c) (hc:c.callee= .value (.tmp x)) (hx:(⟨tmps,ds⟩:Act).eval (.tmp x)= .func (.func f) #[] caps):
  (execOp (⟨tmps,ds⟩:Act).eval o).run P w=(callFunc f (c.args.map (⟨tmps,ds⟩:Act).eval++caps)).run P w:=by
 simp [execOp,ho,resolve,hc,hx,Deferred.ofValue,invoke]
theorem EN {f:FuncId} {args:Array Value} {a:Act} {next:Act->World->Prop} {Q:Exit->Act->World->Prop} {R:Value->World->Prop} (hrun:(execOp a.eval o).run P w=(callFunc f args).run P w) (h:eD P f args w R) (hR: ∀v w',R v w'->next (a.put o.dst v) w'):o.wp P a w next Q:=by
 unfold Oper.wp
 rw [hrun]
 unfold eD at h
 split at h<;>rename_i heq<;>try rw [heq]
 ·rw [Oper.upon_enter]
  refine h.mono (fun e w2 ⟨v,h1,h2⟩=>?_)
  subst h1
  exact hR v w2 h2
 ·rw [Oper.upon_value];exact hR _ _ h
 ·rw [Oper.upon_row]
  exact h.mono hR
 ·exact h.elim
open Classical in
def fC (h:Array Obj) (G:Gh):Rd:=fun b=>if (∃l f,G.ow l=some (b,f)) then (match h[b]? with|some (.cells c _ _)=>some c|_=>none) else G.rd b
theorem CY {l:Loc} {b f:Nat} {c:Array Value} {e:TypeId} {fr:Nat×Nat} (hl:G.ow l=some (b,f)) (hb:h[b]? =some (.cells c e fr)):fC h G b=some c:=by
 unfold fC
 rw [if_pos ⟨l,f,hl⟩,hb]
theorem gE {b:Nat} (hb: ¬∃l f,G.ow l=some (b,f)):fC h G b=G.rd b:=by
 unfold fC
 rw [if_neg hb]
theorem LV (I:Inv h G):cS G.rd (fC h G):=by
 intro b c hc
 rw [gE]
 ·exact hc
 ·rintro⟨l,f,hl⟩
  rw [I.ow_rd l b f hl] at hc;cases hc
theorem RD.noSl {h h':Array Obj} {G G':Gh} {loc loc':Nat->Loc} {d:D} {v:Value} (hn:noSl d=true) (hr:RD h G loc d v):RD h' G' loc' d v:=by
 have one: ∀(d:D) (v:Value) (loc loc':Nat->Loc),fe d=true->RD h G loc d v->RD h' G' loc' d v:=by
  intro d v loc loc' hd hr
  cases d with
  |v x=>
   simp only [RD] at*
   have:=RV.scal (by simpa [fe] using hd) hr
   rw [this]
   exact RV.ofScal (by simpa [fe] using hd)
  |_=>simp [fe] at hd
 have many: ∀(cs:List D) (vs:List Value) (j j':Nat) (loc loc':Nat->Loc),cs.all fe=true->RDs h G loc j cs vs->RDs h' G' loc' j' cs vs:=by
  intro cs
  induction cs with
  |nil=>intro vs j j' loc loc' _ hr;cases vs with
   |nil=>simp only [RDs]
   |cons _ _=>simp only [RDs] at hr
  |cons d r ih=>intro vs j j' loc loc' hc hr;cases vs with
   |nil=>simp only [RDs] at hr
   |cons v vs=>
    simp only [List.all_cons,Bool.and_eq_true] at hc
    simp only [RDs] at*
    exact⟨one d v _ _ hc.1 hr.1,ih vs _ _ _ _ hc.2 hr.2⟩
 have oneT: ∀(d:D) (v:Value) (loc loc':Nat->Loc),cg d=true->RD h G loc d v->RD h' G' loc' d v:=by
  intro d v loc loc' hd hr
  cases d with
  |agg cs=>
   simp only [RD] at*
   obtain⟨vs,h1,h2⟩:=hr
   exact⟨vs,h1,many cs _ 0 0 _ _ (by simpa [cg] using hd) h2⟩
  |_=>exact one _ v loc loc' (by simpa only [cg] using hd) hr
 have manyT: ∀(cs:List D) (vs:List Value) (j j':Nat) (loc loc':Nat->Loc),cs.all cg=true->RDs h G loc j cs vs->RDs h' G' loc' j' cs vs:=by
  intro cs
  induction cs with
  |nil=>intro vs j j' loc loc' _ hr;cases vs with
   |nil=>simp only [RDs]
   |cons _ _=>simp only [RDs] at hr
  |cons d r ih=>intro vs j j' loc loc' hc hr;cases vs with
   |nil=>simp only [RDs] at hr
   |cons v vs=>
    simp only [List.all_cons,Bool.and_eq_true] at hc
    simp only [RDs] at*
    exact⟨oneT d v _ _ hc.1 hr.1,ih vs _ _ _ _ hc.2 hr.2⟩
 cases d with
 |agg cs=>
  simp only [RD] at*
  obtain⟨vs,h1,h2⟩:=hr
  exact⟨vs,h1,many cs _ 0 0 _ _ (by simpa [Mx.noSl] using hn) h2⟩
 |tup cs=>
  simp only [RD] at*
  obtain⟨vs,h1,h2⟩:=hr
  exact⟨vs,h1,manyT cs _ 0 0 _ _ (by simpa [Mx.noSl] using hn) h2⟩
 |v x=>exact one (.v x) v loc loc' (by simpa [Mx.noSl] using hn) hr
 |_=>simp [Mx.noSl,fe] at hn
theorem RVc.flat {rd rd':Rd} : ∀(l:List V) (c:Array Value) (off:Nat),l.all bR=true->RVc rd l c off->RVc rd' l c off
 | [],_,_,_,_=>by simp only [RVc]
 |x::r,c,off,hf,h=>by
  simp only [List.all_cons,Bool.and_eq_true] at hf
  simp only [RVc] at*
  obtain⟨⟨v,h1,h2⟩,h3⟩:=h
  exact⟨⟨v,h1,by rw [RV.scal hf.1 h2];exact RV.ofScal hf.1⟩,RVc.flat r c _ hf.2 h3⟩
theorem RVr.flat {rd rd':Rd} (sz:Nat): ∀(l:List (List V)) (c:Array Value) (off:Nat),l.all gh=true->RVr rd sz l c off->RVr rd' sz l c off
 | [],_,_,_,_=>by simp only [RVr]
 |r::l,c,off,hf,h=>by
  simp only [List.all_cons,Bool.and_eq_true] at hf
  simp only [RVr] at*
  exact⟨h.1,RVc.flat r c off hf.1 h.2.1,RVr.flat sz l c _ hf.2 h.2.2⟩
theorem RD.newB {h:Array Obj} {G G':Gh} {k:Nat} {d:D} {v:Value} (hn:newB d=true) (how: ∀j p,G.ow (.hand k j)=some p->G'.ow (.hand k j)=some p) (hr:RD h G (Loc.hand k) d v):RD h G' (Loc.hand k) d v:=by
 have one: ∀(d:D) (v:Value) (j:Nat),cw d=true->RD h G (fun _=>Loc.hand k j) d v->RD h G' (fun _=>Loc.hand k j) d v:=by
  intro d v j hd hr
  cases d with
  |v x=>
   simp only [RD] at*
   have:=RV.scal (by simpa [cw] using hd) hr
   rw [this]
   exact RV.ofScal (by simpa [cw] using hd)
  |own sz l=>
   simp only [RD,wa] at*
   rcases hr with hr|⟨b,off,cap,c,e,fr,h1,h2,h3,h4,h5,h6,h7⟩
   ·exact .inl hr
   ·exact .inr ⟨b,off,cap,c,e,fr,h1,how _ _ h2,h3,h4,h5,h6,RVr.flat sz l c off (by simpa [cw] using hd) h7⟩
  |_=>simp [cw] at hd
 have many: ∀(cs:List D) (vs:List Value) (j:Nat),cs.all cw=true->RDs h G (Loc.hand k) j cs vs->RDs h G' (Loc.hand k) j cs vs:=by
  intro cs
  induction cs with
  |nil=>intro vs j _ hr;cases vs with
   |nil=>simp only [RDs]
   |cons _ _=>simp only [RDs] at hr
  |cons d r ih=>intro vs j hc hr;cases vs with
   |nil=>simp only [RDs] at hr
   |cons v vs=>
    simp only [List.all_cons,Bool.and_eq_true] at hc
    simp only [RDs] at*
    exact⟨one d v _ hc.1 hr.1,ih vs _ hc.2 hr.2⟩
 cases d with
 |agg cs=>
  simp only [RD] at*
  obtain⟨vs,h1,h2⟩:=hr
  exact⟨vs,h1,many cs _ 0 (by simpa [Mx.newB] using hn) h2⟩
 |tup cs=>exact RD.noSl (by simpa [Mx.newB,Mx.noSl] using hn) hr
 |v x=>
  have hr':RD h G (fun _=>Loc.hand k 0) (.v x) v:=by simpa only [RD] using hr
  have:=one (.v x) v 0 (by simpa [Mx.newB] using hn) hr'
  simpa only [RD] using this
 |own sz l=>
  have hr':RD h G (fun _=>Loc.hand k 0) (.own sz l) v:=by simpa only [RD] using hr
  have:=one (.own sz l) v 0 (by simpa [Mx.newB] using hn) hr'
  simpa only [RD] using this
 |_=>simp [Mx.newB,cw] at hn
theorem RD.lend {h:Array Obj} {G G1:Gh} {loc loc':Nat->Loc} {d:D} {v:Value} (hb:bW (Mx.lend d)=true) (hle:cS G.rd G1.rd) (htr:aS d=true->G1.rd=fC h G) (hr:RD h G loc d v):RD h G1 loc' (Mx.lend d) v:=by
 cases d with
 |v x=>simp only [Mx.lend,RD] at*;exact RV.mono hle _ _ hr
 |own sz l=>
  simp only [Mx.lend,RD,RV,wa] at*
  rcases hr with⟨rfl,rfl⟩|⟨b,off,cap,c,e,fr,h1,h2,h3,h4,h5,h6,h7⟩
  ·exact⟨none,0,rfl,Nat.le_refl _,.inl rfl⟩
  ·by_cases hl:l= []
   ·exact⟨_,cap,h1,h5.1,.inl hl⟩
   ·exact⟨_,cap,h1,h5.1,.inr ⟨b,off,c,rfl,by rw [htr (by simp [aS,hl])];exact CY h2 h3,RVr.mono hle _ _ _ _ h7⟩⟩
 |al f sz l src=>
  simp only [Mx.lend,RD,RV,AO] at*
  obtain⟨_,⟨base,cap,h1,h2,h3⟩,_⟩:=hr
  refine⟨base,cap,h1,h2,h3.imp id ?_⟩
  rintro⟨b,off,_,c,e,fr,g1,g2,g3,g4⟩
  exact⟨b,off,c,g1,by rw [htr rfl];exact CY g2 g3,RVr.mono hle _ _ _ _ g4⟩
 |cut sz l=>
  simp only [Mx.lend,RD,RV] at*
  obtain⟨base,h1,h2⟩:=hr
  refine⟨base,_,h1,Nat.le_refl _,h2.imp id ?_⟩
  rintro⟨b,off,c,g1,g2,g3⟩
  exact⟨b,off,c,g1,hle _ _ g2,RVr.mono hle _ _ _ _ g3⟩
 |_=>simp [Mx.lend,bW] at hb
theorem RD.lendA {h:Array Obj} {G G1:Gh} {loc loc':Nat->Loc} {d:D} {v:Value} (hb:Mx.bare (Mx.lendA d)=true) (hle:cS G.rd G1.rd) (htr:aB d=true->G1.rd=fC h G) (hr:RD h G loc d v):RD h G1 loc' (Mx.lendA d) v/\bD (Mx.lendA d)=true/\ ∀j,cW (Mx.lendA d) j=false:=by
 have many: ∀(cs:List D) (vs:List Value) (j j':Nat) (loc loc':Nat->Loc),(cs.map Mx.lend).all bW=true->(cs.any aS=true->G1.rd=fC h G)->RDs h G loc j cs vs->RDs h G1 loc' j' (cs.map Mx.lend) vs:=by
  intro cs
  induction cs with
  |nil=>intro vs j j' loc loc' _ _ hr;cases vs with
   |nil=>simp only [List.map_nil,RDs]
   |cons _ _=>simp only [RDs] at hr
  |cons d r ih=>intro vs j j' loc loc' hc ht hr;cases vs with
   |nil=>simp only [RDs] at hr
   |cons v vs=>
    simp only [List.map_cons,List.all_cons,Bool.and_eq_true] at hc
    simp only [List.map_cons,RDs] at*
    exact⟨RD.lend hc.1 hle (fun h=>ht (by simp [h])) hr.1,ih vs _ _ _ _ hc.2 (fun h=>ht (by simp at h;simp [h])) hr.2⟩
 have single: ∀d':D,bW d'=true->bD d'=true/\ ∀j,cW d' j=false:=by
  intro d' hd
  cases d'<;>first|exact⟨rfl,fun _=>rfl⟩|simp [bW] at hd
 cases d with
 |agg cs=>
  simp only [Mx.lendA,Mx.bare] at hb
  refine⟨?_,?_,?_⟩
  ·simp only [Mx.lendA,RD] at*
   obtain⟨vs,h1,h2⟩:=hr
   exact⟨vs,h1,many cs _ 0 0 _ _ hb (by simpa [aB] using htr) h2⟩
  ·simp only [Mx.lendA,bD]
   rw [List.all_eq_true] at*
   intro d hd
   have:=hb d hd
   cases d<;>first|rfl|simp [bW] at this
  ·intro j
   simp only [Mx.lendA,cW]
   cases hj:(cs.map Mx.lend)[j]? with
   |none=>rfl
   |some d=>
    have:=List.all_eq_true.1 hb d (List.mem_of_getElem? hj)
    cases d<;>first|rfl|simp [bW] at this
 |clo f cs=>
  cases cs with
  |nil=>refine⟨?_,rfl,fun _=>rfl⟩;simp only [Mx.lendA,Mx.lend,RD] at*;obtain⟨vs,h1,h2⟩:=hr;refine⟨vs,h1,?_⟩;cases hv:vs.toList with
   |nil=>simp only [RDs]
   |cons _ _=>rw [hv] at h2;simp only [RDs] at h2
  |cons _ _=>simp [Mx.lendA,Mx.lend,Mx.bare,bW] at hb
 |v x=>exact⟨RD.lend (d:=.v x) rfl hle (by simpa [aB] using htr) hr,single _ rfl⟩
 |own sz l=>exact⟨RD.lend (d:=.own sz l) rfl hle (by simpa [aB] using htr) hr,single _ rfl⟩
 |al f sz l src=>exact⟨RD.lend (d:=.al f sz l src) rfl hle (by simpa [aB] using htr) hr,single _ rfl⟩
 |cut sz l=>exact⟨RD.lend (d:=.cut sz l) rfl hle (by simpa [aB] using htr) hr,single _ rfl⟩
 |_=>simp [Mx.lendA,Mx.lend,Mx.bare,bW] at hb
end
end Go.Mx
namespace Go.Mx
open Go
section
variable {P:Program} {w:World} {h:Array Obj} {G:Gh} {tmps:Array Value} {σ σ':St} {ds:List Deferred} {C:aj} {ro mv gv:Nat->Bool} {o:Oper}
theorem gX {env:Env} : ∀(xs:List Operand) (args:List D),forceAll true env xs=some args->xs.length=args.length/\ ∀(j:Nat) (d:D),args[j]? =some d-> ∃x,xs[j]? =some x/\bl true (Mx.opnd env x)=some d
 | [],args,hf=>by simp [forceAll] at hf;subst hf;exact⟨rfl,fun j d hd=>by simp at hd⟩
 |x::xs,args,hf=>by
  simp only [forceAll] at hf
  cases h1:bl true (Mx.opnd env x) with
  |none=>simp [h1] at hf
  |some d=>
   simp only [h1] at hf
   cases h2:forceAll true env xs with
   |none=>simp [h2] at hf
   |some r=>
    simp only [h2] at hf
    cases hf
    obtain⟨g1,g2⟩:=gX xs r h2
    refine⟨by simp [g1],fun j d' hd=>?_⟩
    cases j with
    |zero=>simp at hd;subst hd;exact⟨x,rfl,h1⟩
    |succ j=>simpa using g2 j d' (by simpa using hd)
structure Got (h:Array Obj) (G:Gh) (d:D) (v:Value):Prop where
 rd:RD h G (Loc.hand 0) d v
 ok:bD d=true∨aA d=true
 own: ∀k j p,G.ow (.hand k j)=some p->k=0/\cW d j=true
theorem KN (SC : cj P C) (F : dE w.heap G tmps σ) {f : FuncId} {xs : List Operand} {args : List D} {d : D} (hall : forceAll true σ.env xs = some args) (hb : (args.map lendA).all bare = true) (hC : C f (args.map lendA) [] = some (d, [])) (ht : (args.any aB && !newB d) = false) :
    eD P f (xs.map (⟨tmps, ds⟩ : Act).eval).toArray w fun v w' => ∃ G', Rel w'.heap G' tmps σ /\ dq w G σ w' G' σ /\ Got w'.heap G' d v := by
  obtain ⟨hlen, hget⟩ := gX xs args hall
  have I := F.rel.inv
  let tr := args.any aB
  let rd1 : Rd := if tr then fC w.heap G else G.rd
  have hle : cS G.rd rd1 := by
    simp only [rd1]
    split
    . exact LV I
    . exact cS.refl _
  have hrd1 : ∀ b c, rd1 b = some c -> ∃ e fr, w.heap[b]? = some (.cells c e fr) := by
    intro b c hc
    simp only [rd1] at hc
    split at hc
    . by_cases hl : ∃ l f, G.ow l = some (b, f)
      . unfold fC at hc
        rw [if_pos hl] at hc
        split at hc
        . rename_i c' e fr hcell; cases hc; exact ⟨e, fr, hcell⟩
        . cases hc
      . rw [gE hl] at hc; exact I.rd_ok b c hc
    . exact I.rd_ok b c hc
  have I1 : Inv w.heap { rd := rd1, ob := fun _ => none, ow := fun _ => none } := ⟨hrd1, fun _ _ h => (by cases h), fun _ _ h => (by cases h), fun _ _ _ h => (by cases h), fun _ _ _ h => (by cases h), fun _ _ _ h => (by cases h), fun _ _ _ _ h => (by cases h), fun _ _ _ _ _ h => (by cases h)⟩
  have R1 : Rel w.heap { rd := rd1, ob := fun _ => none, ow := fun _ => none } #[] ⟨[], []⟩ := Rel.bare I1 (fun o cs h => by simp at h) (fun o cs h => by simp at h) (fun _ _ => rfl) (fun _ _ _ h => by cases h)
  have A1 : z7 w.heap { rd := rd1, ob := fun _ => none, ow := fun _ => none } (args.map lendA) (xs.map (⟨tmps, ds⟩ : Act).eval) := by
    refine ⟨by simp [hlen], fun j d' hd => ?_, fun _ _ _ h => by cases h⟩
    rw [List.getElem?_map] at hd
    cases hj : args[j]? with
    | none => rw [hj] at hd; cases hd
    | some d0 =>
      rw [hj] at hd
      cases hd
      obtain ⟨x, hx, hf⟩ := hget j d0 hj
      refine ⟨(⟨tmps, ds⟩ : Act).eval x, by rw [List.getElem?_map, hx]; rfl, ?_⟩
      have hbd : Mx.bare (lendA d0) = true := List.all_eq_true.1 hb _ (List.mem_map.2 ⟨d0, List.mem_of_getElem? hj, rfl⟩)
      have := RD.lendA (G := G) (G1 := { rd := rd1, ob := fun _ => none, ow := fun _ => none }) (loc' := Loc.hand j) hbd hle (fun hx => by
        simp only [rd1]
        rw [if_pos]
        simp only [tr]
        rw [List.any_eq_true]
        exact ⟨d0, List.mem_of_getElem? hj, hx⟩) (F.rel.opndF ds hf)
      exact ⟨this.1, this.2.1⟩
  refine ((SC.sem f _ _ d [] hC).sem w _ _ R1 (fun o cs h => by simp at h) A1).mono ?_
  rintro v w' ⟨G1, RG, _, hg, _, hres⟩
  -- old blocks stand
  have nomine : ∀ b, ¬ mine { rd := rd1, ob := fun _ => none, ow := fun _ => none } b := by
    rintro b (⟨o, ho⟩ | ⟨l, f, hl⟩)
    . cases ho
    . cases hl
  have hold : ∀ b, b < w.heap.size -> w'.heap[b]? = w.heap[b]? := fun b hbl => hg.step.keep b hbl (nomine b)
  have hnew : ∀ b, mine G1 b -> w.heap.size <= b := fun b hm => (hg.step.mine b hm).resolve_left (nomine b)
  have hobn : ∀ q, G1.ob q = none := fun q => RG.obn q (Nat.zero_le _)
  have hplace : ∀ l, l.place = true -> G1.ow l = none := by
    intro l hl
    cases ho : G1.ow l with
    | none => rfl
    | some p =>
      have := RG.own l p (by rintro k j rfl; cases hl) ho
      cases l <;> simp [dg, bI] at this
  have howrd : ∀ l b f, G.ow l = some (b, f) -> tr = false -> G1.rd b = none := by
    intro l b f hl htr
    cases hb1 : G1.rd b with
    | none => rfl
    | some c =>
      have := hg.step.rdn b (by rw [hb1]; exact fun h => by cases h)
      rcases this with h1 | h1 | h1
      . simp only [rd1, htr] at h1
        exact absurd (I.ow_rd l b f hl) h1
      . exact absurd h1 (nomine b)
      . have := I.ow_lt l b f hl; omega
  have hobrd : ∀ q b, G.ob q = some b -> G1.rd b = none := by
    intro q b hq
    cases hb1 : G1.rd b with
    | none => rfl
    | some c =>
      have := hg.step.rdn b (by rw [hb1]; exact fun h => by cases h)
      rcases this with h1 | h1 | h1
      . simp only [rd1] at h1
        split at h1
        . rw [gE (by rintro ⟨l, f, hl⟩; exact I.ow_ob l b f q hl hq)] at h1
          exact absurd (I.ob_rd q b hq) h1
        . exact absurd (I.ob_rd q b hq) h1
      . exact absurd h1 (nomine b)
      . have := I.ob_lt q b hq; omega
  -- the caller's knowledge behind
  let rd2 : Rd := fun b => open Classical in if (∃ l f, G.ow l = some (b, f)) then none else G1.rd b
  let ow2 : Loc -> Option (Nat × Nat) := fun l => match l with
    | .hand k j => if k = 0 then G1.ow (.hand 0 j) else none
    | l => G.ow l
  have q1 : ∀ j, ow2 (.hand 0 j) = G1.ow (.hand 0 j) := fun j => by simp [ow2]
  have q2 : ∀ k j, k ≠ 0 -> ow2 (.hand k j) = none := fun k j hk => by simp [ow2, hk]
  have hsplit : ∀ l b f, ow2 l = some (b, f) -> (∃ j, l = .hand 0 j /\ G1.ow (.hand 0 j) = some (b, f) /\ w.heap.size <= b) ∨ (l.place = true /\ G.ow l = some (b, f)) := by
    intro l b f hl
    cases l with
    | hand k j =>
      by_cases hk : k = 0
      . subst hk
        rw [q1] at hl
        exact .inl ⟨j, rfl, hl, hnew b (.inr ⟨_, f, hl⟩)⟩
      . rw [q2 k j hk] at hl; cases hl
    | _ => exact .inr ⟨rfl, hl⟩
  have rd2_le : ∀ b c, rd2 b = some c -> G1.rd b = some c := by
    intro b c hc
    simp only [rd2] at hc
    split at hc
    . cases hc
    . exact hc
  have rd2_no : ∀ b, (¬ ∃ l f, G.ow l = some (b, f)) -> rd2 b = G1.rd b := fun b hb => by simp only [rd2]; rw [if_neg hb]
  have hGle : cS G.rd rd2 := by
    intro b c hc
    rw [rd2_no b (by rintro ⟨l, f, hl⟩; rw [I.ow_rd l b f hl] at hc; cases hc)]
    exact hg.step.rd b c (hle b c hc)
  have I2 : Inv w'.heap { rd := rd2, ob := G.ob, ow := ow2 } := {
    rd_ok := fun b c hc => RG.inv.rd_ok b c (rd2_le b c hc)
    ob_lt := fun q b hq => Nat.lt_of_lt_of_le (I.ob_lt q b hq) hg.step.size
    ob_rd := fun q b hq => by
      show rd2 b = none
      rw [rd2_no b (by rintro ⟨l, f, hl⟩; exact I.ow_ob l b f q hl hq)]
      exact hobrd q b hq
    ob_inj := I.ob_inj
    ow_lt := fun l b f hl => by
      rcases hsplit l b f hl with ⟨j, _, h1, _⟩ | ⟨_, h1⟩
      . exact RG.inv.ow_lt _ b f h1
      . exact Nat.lt_of_lt_of_le (I.ow_lt l b f h1) hg.step.size
    ow_rd := fun l b f hl => by
      show rd2 b = none
      rcases hsplit l b f hl with ⟨j, _, h1, h2⟩ | ⟨_, h1⟩
      . rw [rd2_no b (by rintro ⟨l', f', hl'⟩; have := I.ow_lt l' b f' hl'; omega)]
        exact RG.inv.ow_rd _ b f h1
      . simp only [rd2]; rw [if_pos ⟨l, f, h1⟩]
    ow_ob := fun l b f q hl hq => by
      have hq' : G.ob q = some b := hq
      rcases hsplit l b f hl with ⟨j, _, h1, h2⟩ | ⟨_, h1⟩
      . have := I.ob_lt q b hq'; omega
      . exact I.ow_ob l b f q h1 hq'
    ow_inj := fun l l' b f f' h1 h2 => by
      rcases hsplit l b f h1 with ⟨j, rfl, g1, g2⟩ | ⟨p1, g1⟩ <;> rcases hsplit l' b f' h2 with ⟨j', rfl, k1, k2⟩ | ⟨p2, k1⟩
      . exact RG.inv.ow_inj _ _ b f f' g1 k1
      . have := I.ow_lt l' b f' k1; omega
      . have := I.ow_lt l b f g1; omega
      . exact I.ow_inj l l' b f f' g1 k1 }
  have F2 : Fr (fun _ => False) w.heap G w'.heap { rd := rd2, ob := G.ob, ow := ow2 } := ⟨hGle, fun _ _ h => h, fun l p hpl _ hl => (by
    show ow2 l = some p
    cases l <;> first | exact hl | cases hpl), fun l b f _ _ hl => hold b (I.ow_lt l b f hl)⟩
  have R2 : Rel w'.heap { rd := rd2, ob := G.ob, ow := ow2 } tmps σ := by
    refine ⟨I2, fun t => RD.fr F2 _ (fun _ => rfl) _ _ (free.none _ _) (F.rel.env t), ?_, F.rel.obc, F.rel.obn, ?_⟩
    . intro q cs hcs
      obtain ⟨b, c, e, fr, h1, h2, h3, h4⟩ := F.rel.obj q cs hcs
      exact ⟨b, c, e, fr, h1, by rw [hold b (I.ob_lt q b h1)]; exact h2, h3, RDs.fr F2 _ (fun _ => rfl) _ _ _ (kn.none _ _ _) h4⟩
    . intro l p hh hl
      have hl' : ow2 l = some p := hl
      cases l with
      | hand k j => exact absurd rfl (hh k j)
      | _ => exact F.rel.own _ p hh hl'
  refine ⟨_, R2, ⟨⟨hg.step.os, hg.step.tape, hg.step.output, hg.step.size, fun b hbl _ => hold b hbl, ?_, hGle, ?_⟩, Nat.le_refl _, fun _ _ => rfl⟩, ?_⟩
  . rintro b (⟨q, hq⟩ | ⟨l, f, hl⟩)
    . exact .inl (.inl ⟨q, hq⟩)
    . rcases hsplit l b f hl with ⟨j, _, _, g2⟩ | ⟨_, g1⟩
      . exact .inr g2
      . exact .inl (.inr ⟨l, f, g1⟩)
  . intro b hb2
    have hb2' : rd2 b ≠ none := hb2
    cases hc : rd2 b with
    | none => exact absurd hc hb2'
    | some c =>
      by_cases hl : ∃ l f, G.ow l = some (b, f)
      . simp only [rd2] at hc; rw [if_pos hl] at hc; cases hc
      . have h1 := rd2_le b c hc
        rcases hg.step.rdn b (by rw [h1]; exact fun h => by cases h) with h2 | h2 | h2
        . left
          simp only [rd1] at h2
          split at h2
          . rw [gE hl] at h2; exact h2
          . exact h2
        . exact absurd h2 (nomine b)
        . exact .inr (.inr h2)
  . -- the result
    have hown : ∀ k j p, ow2 (.hand k j) = some p -> k = 0 /\ cW d j = true := by
      intro k j p hp
      by_cases hk : k = 0
      . subst hk
        rw [q1] at hp
        exact ⟨rfl, (hres.own 0 j p hp).2⟩
      . rw [q2 k j hk] at hp; cases hp
    cases htr : tr with
    | true =>
      have hns : newB d = true := by
        have : args.any aB = true := htr
        rw [this] at ht
        simpa using ht
      exact ⟨RD.newB hns (fun j p hp => (q1 j).trans hp) hres.rd, hres.ok, hown⟩
    | false =>
      have hrdl : cS G1.rd rd2 := by
        intro b c hc
        rw [rd2_no b]
        . exact hc
        . rintro ⟨l, f, hl⟩
          rw [howrd l b f hl htr] at hc; cases hc
      refine ⟨?_, hres.ok, hown⟩
      rcases hres.ok with hv | hf
      . exact RD.valMove (G := G1) (h := w'.heap) ⟨hrdl, fun q b hq => (by rw [hobn] at hq; cases hq)⟩ hv (fun j _ b f hb => ⟨by show ow2 (.hand 0 j) = some (b, f); rw [q1]; exact hb, rfl⟩) hres.rd
      . have F3 : Fr (fun _ => False) w'.heap G1 w'.heap { rd := rd2, ob := G.ob, ow := ow2 } := ⟨hrdl, fun q b hq => (by rw [hobn] at hq; cases hq), fun l p hpl _ hl => (by rw [hplace l hpl] at hl; cases hl), fun _ _ _ _ _ _ => rfl⟩
        exact RD.reloc hf (RD.fr F3 (fun _ => .nowhere) (fun _ => rfl) _ _ (free.none _ _) (RD.reloc hf hres.rd))
theorem Gq {p:Loc->Bool} {d:D} (hv:bD d=true):iy p d=d:=by
 have stay: ∀d:D,bJ d=true->iy p d=d:=by
  intro d hd
  cases d<;>first|rfl|simp [bJ] at hd
 have stays: ∀cs:List D,cs.all bJ=true->kt p cs=cs:=by
  intro cs
  induction cs with
  |nil=>intro _;rfl
  |cons d r ih=>
   intro hc
   simp only [List.all_cons,Bool.and_eq_true] at hc
   simp only [kt,stay d hc.1,ih hc.2]
 have cell: ∀d:D,aM d=true->iy p d=d:=by
  intro d hd
  cases d with
  |clo f cs=>simp only [iy,stays cs (by simpa [aM] using hd)]
  |_=>first|rfl|simp [aM,bJ] at hd
 have cells: ∀cs:List D,cs.all aM=true->kt p cs=cs:=by
  intro cs
  induction cs with
  |nil=>intro _;rfl
  |cons d r ih=>
   intro hc
   simp only [List.all_cons,Bool.and_eq_true] at hc
   simp only [kt,cell d hc.1,ih hc.2]
 cases d with
 |agg cs=>simp only [iy,cells cs (by simpa [bD] using hv)]
 |_=>exact cell _ hv
theorem E2 {env:Env} {dst:Option Nat} {d:D} (hv:bD d=true):offReg env dst d=d:=by
 unfold offReg
 cases dst with
 |none=>rfl
 |some t=>simp only;cases aN (bI env t)<;>simp [Gq hv]
theorem Got.put {h : Array Obj} {G : Gh} {tmps : Array Value} {σ : St} {d : D} {v : Value} {dst : Option Nat} (R : Rel h G tmps σ) (H : Got h G d v) (hsz : ∀ t, dst = some t -> t < tmps.size) :
    ∃ G', Rel h G' ((⟨tmps, ds⟩ : Act).put dst v).tmps { σ with env := putDst σ.env dst (offReg σ.env dst d) } /\ dv h G G' /\ xd G' := by
  cases dst with
  | none =>
    -- what is owned is left
    let ow : Loc -> Option (Nat × Nat) := fun l => match l with
      | .hand _ _ => none
      | l => G.ow l
    have hsub : ∀ l p, ow l = some p -> G.ow l = some p := by
      intro l p hl
      cases l <;> first | exact hl | cases hl
    have R2 := R.hands (ow := ow) (fun l hl => by cases l <;> first | rfl | cases hl) (fun l p hl => ⟨l, hsub l p hl⟩) (fun l l' b f f' h1 h2 => R.inv.ow_inj l l' b f f' (hsub _ _ h1) (hsub _ _ h2))
    exact ⟨_, R2, ⟨cS.refl _, rfl, fun l b f hl => ⟨l, f, hsub l _ hl⟩, fun b hb => .inl hb⟩, fun _ _ => rfl⟩
  | some t =>
    rcases H.ok with hv | hf
    . obtain ⟨G', R', S', h1, h2, _⟩ := R.give (k := 0) ⟨H.rd, fun j p hp => (H.own 0 j p hp).2, hv⟩ (hsz t rfl)
      refine ⟨G', by simpa only [Act.put, putDst, E2 hv] using R', S', fun k j => ?_⟩
      by_cases hk : k = 0
      . subst hk; exact h1 j
      . rw [h2 k j hk]
        cases ho : G.ow (.hand k j) with
        | none => rfl
        | some p => exact absurd (H.own k j p ho).1 hk
    . obtain ⟨G', R', S', h1⟩ := R.setFree (hsz t rfl) hf (fun loc => RD.reloc hf H.rd)
      refine ⟨G', R', S', fun k j => ?_⟩
      rw [h1]
      cases ho : G.ow (.hand k j) with
      | none => rfl
      | some p =>
        exfalso
        have := (H.own k j p ho).2
        cases d with
        | agg cs =>
          simp only [cW] at this
          cases hj : cs[j]? with
          | none => rw [hj] at this; cases this
          | some d' =>
            rw [hj] at this
            have hff := List.all_eq_true.1 (by simpa [aA] using hf) d' (List.mem_of_getElem? hj)
            cases d' <;> first | (cases this; done) | simp [ay] at hff
        | _ => first | (cases this; done) | simp [aA] at hf
end
end Go.Mx
namespace Go.Mx
open Go
section
variable {P:Program} {w:World} {h:Array Obj} {G:Gh} {tmps:Array Value} {σ σ':St} {ds:List Deferred} {C:aj} {ro mv gv:Nat->Bool} {o:Oper}
theorem dG.same {h:Array Obj} {G G':Gh} {k:Nat} {d:D} {v:Value} (H:dG h G k d v) (S:dv h G G') (hh: ∀j,G'.ow (.hand k j)=G.ow (.hand k j)):dG h G' k d v:=
 ⟨RD.valMove S.more H.ok (fun j _ b f hb=>⟨by rw [hh];exact hb,rfl⟩) H.rd,fun j p hp=>H.own j p (by rw [<-hh];exact hp),H.ok⟩
theorem Low.argE {give:Nat->Bool} {x:Operand} {d:D} (L:Low σ.S) (ha:Mx.argE give σ x=some (d,σ')):Low σ'.S/\σ'.S.length=σ.S.length:=by
 unfold Mx.argE at ha
 split at ha
 ·cases ha
 ·rename_i d0 hf
  generalize bw give x=g at ha
  cases g with
  |true=>
   simp only [cond_true] at ha
   split at ha
   ·rename_i sz l src
    cases hs:spendOk σ src with
    |false=>rw [hs] at ha;cases ha
    |true=>rw [hs] at ha;simp only [cond_true,Option.some.injEq,Prod.mk.injEq] at ha;obtain⟨_,rfl⟩:=ha;exact⟨L.spendLoc,gU⟩
   ·cases hv:bD d0 with
    |false=>rw [hv] at ha;cases ha
    |true=>rw [hv] at ha;simp only [cond_true,Option.some.injEq,Prod.mk.injEq] at ha;obtain⟨_,rfl⟩:=ha;exact⟨L,rfl⟩
  |false=>
   simp only [cond_false] at ha
   cases hv:bD d0 with
   |false=>rw [hv] at ha;cases ha
   |true=>rw [hv] at ha;simp only [cond_true,Option.some.injEq,Prod.mk.injEq] at ha;obtain⟨_,rfl⟩:=ha;exact⟨L,rfl⟩
theorem Xh {give:Nat->Bool} {x:Operand} {d:D} (R:Rel h G tmps σ) (k:Nat) (hk: ∀q,k<=q-> ∀j,G.ow (.hand q j)=none) (ha:argE give σ x=some (d,σ')):
  ∃G',Rel h G' tmps σ'/\dv h G G'/\dG h G' k d ((⟨tmps,ds⟩:Act).eval x)/\(∀q j,q≠k->G'.ow (.hand q j)=G.ow (.hand q j)):=by
 unfold argE at ha
 split at ha
 ·cases ha
 ·rename_i d0 hf
  generalize bw give x=g at ha
  cases g with
  |true=>
   simp only [cond_true] at ha
   split at ha
   ·rename_i sz l src
    cases hs:spendOk σ src with
    |false=>rw [hs] at ha;cases ha
    |true=>
     rw [hs] at ha
     simp only [cond_true,Option.some.injEq,Prod.mk.injEq] at ha
     obtain⟨rfl,rfl⟩:=ha
     have hr:=R.opndF ds hf
     simp only [RD] at hr
     obtain⟨G1,R1,S1,H1,c1⟩:=R.spendLoc k (hk k (Nat.le_refl _)) hs (hr.1 trivial)
     exact⟨G1,R1,S1,H1,c1⟩
   ·cases hv:bD d0 with
    |false=>rw [hv] at ha;cases ha
    |true=>
     rw [hv] at ha
     simp only [cond_true,Option.some.injEq,Prod.mk.injEq] at ha
     obtain⟨rfl,rfl⟩:=ha
     obtain⟨G1,R1,T,H1⟩:=R.take (ds:=ds) k (hk k (Nat.le_refl _)) hf hv
     exact⟨G1,R1,T.same,H1,T.hand⟩
  |false=>
   simp only [cond_false] at ha
   cases hv:bD d0 with
   |false=>rw [hv] at ha;cases ha
   |true=>
    rw [hv] at ha
    simp only [cond_true,Option.some.injEq,Prod.mk.injEq] at ha
    obtain⟨rfl,rfl⟩:=ha
    obtain⟨G1,R1,S1,hr,c1,c2⟩:=R.frzReg (ds:=ds) k (hk k (Nat.le_refl _)) hf hv
    obtain⟨f1,f2⟩:=yM hv
    exact⟨G1,R1,S1,⟨hr _,fun j p hp=>(by rw [c1,hk k (Nat.le_refl _)] at hp;cases hp),f1⟩,fun q j _=>c1 q j⟩
theorem FD {give:Nat->Bool} : ∀(xs:List Operand) (k:Nat) (σ σ':St) (args:List D) (G:Gh),Rel h G tmps σ->(∀q,k<=q-> ∀j,G.ow (.hand q j)=none)->argsE give σ xs=some (args,σ')->
  ∃G',Rel h G' tmps σ'/\dv h G G'/\args.length=xs.length/\(∀(i:Nat) (d:D),args[i]? =some d-> ∃x,xs[i]? =some x/\dG h G' (k+i) d ((⟨tmps,ds⟩:Act).eval x))/\(∀q j,q<k->G'.ow (.hand q j)=G.ow (.hand q j))/\(∀q,k+xs.length<=q-> ∀j,G'.ow (.hand q j)=none)
 | [],k,σ,σ',args,G,R,hk,ha=>by
  simp only [argsE] at ha
  cases ha
  exact⟨G,R,dv.refl _ _,rfl,fun i d hd=>by simp at hd,fun _ _ _=>rfl,fun q hq=>hk q (by simpa using hq)⟩
 |x::xs,k,σ,σ',args,G,R,hk,ha=>by
  simp only [argsE] at ha
  cases h1:argE give σ x with
  |none=>simp [h1] at ha
  |some p=>
   obtain⟨d,σ1⟩:=p
   simp only [h1] at ha
   cases h2:argsE give σ1 xs with
   |none=>simp [h2] at ha
   |some p=>
    obtain⟨r,σ2⟩:=p
    simp only [h2] at ha
    cases ha
    obtain⟨G1,R1,S1,H1,c1⟩:=Xh (ds:=ds) R k hk h1
    obtain⟨G2,R2,S2,hl,hg,c2,c3⟩:=FD xs (k+1) σ1 σ' r G1 R1 (fun q hq j=>by rw [c1 q j (by omega)];exact hk q (by omega) j) h2
    refine⟨G2,R2,S1.trans S2,by simp [hl],fun i d' hd=>?_,fun q j hq=>?_,fun q hq=>c3 q (by simp at hq;omega)⟩
    ·cases i with
     |zero=>
      simp at hd
      subst hd
      exact⟨x,rfl,H1.same S2 (fun j=>c2 k j (by omega))⟩
     |succ i=>
      obtain⟨x',hx,hH⟩:=hg i d' (by simpa using hd)
      exact⟨x',by simpa using hx,by rw [show k+(i+1)=k+1+i by omega];exact hH⟩
    ·rw [c2 q j (by omega),c1 q j (by omega)]
theorem Low.argsE {give:Nat->Bool} : ∀(xs:List Operand) (σ σ':St) (args:List D),Low σ.S->Mx.argsE give σ xs=some (args,σ')->Low σ'.S/\σ'.S.length=σ.S.length
 | [],σ,σ',args,L,ha=>by
  simp only [Mx.argsE] at ha
  cases ha
  exact⟨L,rfl⟩
 |x::xs,σ,σ',args,L,ha=>by
  simp only [Mx.argsE] at ha
  cases h1:Mx.argE give σ x with
  |none=>simp [h1] at ha
  |some p=>
   obtain⟨d,σ1⟩:=p
   simp only [h1] at ha
   cases h2:Mx.argsE give σ1 xs with
   |none=>simp [h2] at ha
   |some p=>
    obtain⟨r,σ2⟩:=p
    simp only [h2] at ha
    cases ha
    obtain⟨L1,e1⟩:=Low.argE L h1
    obtain⟨L2,e2⟩:=Low.argsE xs σ1 σ' r L1 h2
    exact⟨L2,by rw [e2,e1]⟩
theorem G6 (SC : cj P C) (R : Rel w.heap G tmps σ) (low : Low σ.S) {f : FuncId} {args : List D} {vals : List Value} {d : D} {S' : bH} (A : z7 w.heap G args vals) (hC : C f args σ.S = some (d, S')) :
    eD P f vals.toArray w fun v w' => ∃ G', Rel w'.heap G' tmps { env := kill (jF σ.S args) σ.env, S := S' } /\ Low S' /\ dq w G σ w' G' { env := kill (jF σ.S args) σ.env, S := S' } /\ Got w'.heap G' d v := by
  have I := R.inv
  let ow1 : Loc -> Option (Nat × Nat) := fun l => match l with
    | .reg _ _ => none
    | l => G.ow l
  have hsub1 : ∀ l p, ow1 l = some p -> G.ow l = some p /\ ∀ t j, l ≠ .reg t j := by
    intro l p hl
    cases l with
    | reg t j => cases hl
    | _ => exact ⟨hl, fun _ _ h => (by cases h)⟩
  have I1 : Inv w.heap { G with ow := ow1 } := I.sub (fun l p hl => ⟨l, (hsub1 l p hl).1⟩) (fun l l' b f f' h1 h2 => I.ow_inj l l' b f f' (hsub1 _ _ h1).1 (hsub1 _ _ h2).1)
  have R1 : Rel w.heap { G with ow := ow1 } #[] ⟨[], σ.S⟩ := by
    refine Rel.bare I1 ?_ R.obc R.obn ?_
    . intro q cs hcs
      obtain ⟨b, c, e, fr, h1, h2, h3, h4⟩ := R.obj q cs hcs
      exact ⟨b, c, e, fr, h1, h2, h3, RDs.cellMove (G := G) (G' := { G with ow := ow1 }) (h := w.heap) ⟨cS.refl _, fun _ _ h => h⟩ 0 0 cs _ (R.obc q cs hcs) (fun i d' _ _ b f hb => ⟨hb, rfl⟩) h4⟩
    . intro l p hh hl
      have hl' := hsub1 l p hl
      have := R.own l p hh hl'.1
      cases l with
      | reg t j => exact absurd rfl (hl'.2 t j)
      | hand k j => exact absurd rfl (hh k j)
      | nowhere => simp [dg] at this
      | cell q j => exact this
  have A1 : z7 w.heap { G with ow := ow1 } args vals := ⟨A.len, fun j d hd => by
    obtain ⟨v, h1, h2, h3⟩ := A.rd j d hd
    exact ⟨v, h1, RD.valMove (G := G) (G' := { G with ow := ow1 }) (h := w.heap) ⟨cS.refl _, fun _ _ h => h⟩ h3 (fun i _ b f hb => ⟨hb, rfl⟩) h2, h3⟩, fun k j p hp => A.own k j p hp⟩
  refine (SC.sem f _ _ d S' hC w _ vals R1 low A1).mono ?_
  rintro v w' ⟨G1, RG, w8, hg, hlen, hres, hkeep⟩
  -- a register's blocks
  have hregn : ∀ t j b f, G.ow (.reg t j) = some (b, f) -> ¬ mine { G with ow := ow1 } b := by
    rintro t j b f hl (⟨q, hq⟩ | ⟨l, f', hl'⟩)
    . exact I.ow_ob _ b f q hl hq
    . have h1 := hsub1 l _ hl'
      exact h1.2 t j (I.ow_inj _ _ b f' f h1.1 hl)
  have hreg : ∀ t j b f, G.ow (.reg t j) = some (b, f) -> w'.heap[b]? = w.heap[b]? := fun t j b f hl => hg.step.keep b (I.ow_lt _ b f hl) (hregn t j b f hl)
  have hregm : ∀ t j b f, G.ow (.reg t j) = some (b, f) -> ¬ mine G1 b := by
    intro t j b f hl hm
    rcases hg.step.mine b hm with h1 | h1
    . exact hregn t j b f hl h1
    . have := I.ow_lt _ b f hl; omega
  have hregrd : ∀ t j b f, G.ow (.reg t j) = some (b, f) -> G1.rd b = none := by
    intro t j b f hl
    cases hc : G1.rd b with
    | none => rfl
    | some c =>
      rcases hg.step.rdn b (by rw [hc]; exact fun h => by cases h) with h1 | h1 | h1
      . exact absurd (I.ow_rd _ b f hl) h1
      . exact absurd h1 (hregn t j b f hl)
      . have := I.ow_lt _ b f hl; omega
  let ow2 : Loc -> Option (Nat × Nat) := fun l => match l with
    | .reg t j => G.ow (.reg t j)
    | l => G1.ow l
  have hs2 : ∀ l b f, ow2 l = some (b, f) -> (∃ t j, l = .reg t j /\ G.ow (.reg t j) = some (b, f)) ∨ ((∀ t j, l ≠ .reg t j) /\ G1.ow l = some (b, f)) := by
    intro l b f hl
    cases l with
    | reg t j => exact .inl ⟨t, j, rfl, hl⟩
    | _ => exact .inr ⟨fun _ _ h => (by cases h), hl⟩
  have I2 : Inv w'.heap { G1 with ow := ow2 } := {
    rd_ok := RG.inv.rd_ok
    ob_lt := RG.inv.ob_lt
    ob_rd := RG.inv.ob_rd
    ob_inj := RG.inv.ob_inj
    ow_lt := fun l b f hl => by
      rcases hs2 l b f hl with ⟨t, j, rfl, h1⟩ | ⟨_, h1⟩
      . exact Nat.lt_of_lt_of_le (I.ow_lt _ b f h1) hg.step.size
      . exact RG.inv.ow_lt l b f h1
    ow_rd := fun l b f hl => by
      rcases hs2 l b f hl with ⟨t, j, rfl, h1⟩ | ⟨_, h1⟩
      . exact hregrd t j b f h1
      . exact RG.inv.ow_rd l b f h1
    ow_ob := fun l b f q hl hq => by
      rcases hs2 l b f hl with ⟨t, j, rfl, h1⟩ | ⟨_, h1⟩
      . exact hregm t j b f h1 (.inl ⟨q, hq⟩)
      . exact RG.inv.ow_ob l b f q h1 hq
    ow_inj := fun l l' b f f' h1 h2 => by
      rcases hs2 l b f h1 with ⟨t, j, rfl, g1⟩ | ⟨_, g1⟩ <;> rcases hs2 l' b f' h2 with ⟨t', j', rfl, k1⟩ | ⟨_, k1⟩
      . exact I.ow_inj _ _ b f f' g1 k1
      . exact absurd (.inr ⟨l', f', k1⟩) (hregm t j b f g1)
      . exact absurd (.inr ⟨l, f, g1⟩) (hregm t' j' b f' k1)
      . exact RG.inv.ow_inj l l' b f f' g1 k1 }
  have F2 : Fr (fun l => ∃ q j, l = .cell q j /\ jF σ.S args (.cell q j) = true) w.heap G w'.heap { G1 with ow := ow2 } := ⟨hg.step.rd, fun q b hq => by
      have hql : q < σ.S.length := by
        rcases Nat.lt_or_ge q σ.S.length with hl | hl
        . exact hl
        . rw [R.obn q hl] at hq; cases hq
      show G1.ob q = some b
      rw [hg.ob q hql]; exact hq, fun l p hpl hl hp => (by
      cases l with
      | hand k j => cases hpl
      | reg t j => exact hp
      | cell q j =>
        have hq : jF σ.S args (.cell q j) = false := by
          cases he : jF σ.S args (.cell q j) with
          | false => rfl
          | true => exact absurd ⟨q, j, rfl, he⟩ hl
        exact (hkeep q j p.1 p.2 hq hp).1
      | nowhere =>
        have := R.own _ p (fun _ _ h => by cases h) hp
        simp [dg] at this), fun l b f hpl hl hp => (by
      cases l with
      | hand k j => cases hpl
      | reg t j => exact hreg t j b f hp
      | cell q j =>
        have hq : jF σ.S args (.cell q j) = false := by
          cases he : jF σ.S args (.cell q j) with
          | false => rfl
          | true => exact absurd ⟨q, j, rfl, he⟩ hl
        exact (hkeep q j b f hq hp).2
      | nowhere =>
        have := R.own _ _ (fun _ _ h => by cases h) hp
        simp [dg] at this)⟩
  have R2 : Rel w'.heap { G1 with ow := ow2 } tmps { env := kill (jF σ.S args) σ.env, S := S' } := by
    refine ⟨I2, ?_, ?_, RG.obc, RG.obn, ?_⟩
    . intro t
      rw [cU]
      refine RD.fr F2 _ (fun _ => rfl) _ _ (free.kill ?_ ?_ ?_ _) (RD.kill _ _ _ (R.env t))
      . rintro l ⟨q, j, rfl, he⟩; exact he
      . rintro ⟨q, j, hj, _⟩; cases hj
      . rintro j ⟨q, j', hq, _⟩; cases hq
    . intro q cs hcs
      obtain ⟨b, c, e, fr, h1, h2, h3, h4⟩ := RG.obj q cs hcs
      exact ⟨b, c, e, fr, h1, h2, h3, RDs.cellMove (G := G1) (G' := { G1 with ow := ow2 }) (h := w'.heap) ⟨cS.refl _, fun _ _ h => h⟩ 0 0 cs _ (RG.obc q cs hcs) (fun i d' _ _ b f hb => ⟨hb, rfl⟩) h4⟩
    . intro l p hh hl
      have hl' : ow2 l = some p := hl
      cases l with
      | hand k j => exact absurd rfl (hh k j)
      | reg t j =>
        have := R.own _ p hh hl'
        rw [dc] at *
        simp only [cU, eJ]; exact this
      | cell q j => exact RG.own _ p hh hl'
      | nowhere => exact RG.own _ p hh hl'
  have hmi : ∀ b, mine { G with ow := ow1 } b -> mine G b := by
    rintro b (⟨q, hq⟩ | ⟨l, f, hl⟩)
    . exact .inl ⟨q, hq⟩
    . exact .inr ⟨l, f, (hsub1 l _ hl).1⟩
  refine ⟨_, R2, w8, ⟨⟨hg.step.os, hg.step.tape, hg.step.output, hg.step.size, fun b hb hm => hg.step.keep b hb (fun hx => hm (hmi b hx)), ?_, hg.step.rd, fun b hb => (hg.step.rdn b hb).imp id (Or.imp (hmi b) id)⟩, by rw [hlen]; exact Nat.le_refl _, fun q hq => hg.ob q hq⟩, ?_⟩
  . rintro b (⟨q, hq⟩ | ⟨l, f, hl⟩)
    . exact (hg.step.mine b (.inl ⟨q, hq⟩)).imp (hmi b) id
    . rcases hs2 l b f hl with ⟨t, j, rfl, h1⟩ | ⟨_, h1⟩
      . exact .inl (.inr ⟨_, f, h1⟩)
      . exact (hg.step.mine b (.inr ⟨l, f, h1⟩)).imp (hmi b) id
  . refine ⟨?_, hres.ok, hres.own⟩
    rcases hres.ok with hv | hf
    . exact RD.valMove (G := G1) (h := w'.heap) ⟨cS.refl _, fun _ _ h => h⟩ hv (fun j _ b f hb => ⟨hb, rfl⟩) hres.rd
    . have F3 : Fr (fun _ => False) w'.heap G1 w'.heap { G1 with ow := ow2 } := ⟨cS.refl _, fun _ _ h => h, fun l p hpl _ hl => (by
        cases l with
        | hand k j => cases hpl
        | reg t j =>
          have := RG.own _ p (fun _ _ h => by cases h) hl
          simp [dg, bI] at this
        | _ => exact hl), fun _ _ _ _ _ _ => rfl⟩
      exact RD.reloc hf (RD.fr F3 (fun _ => .nowhere) (fun _ => rfl) _ _ (free.none _ _) (RD.reloc hf hres.rd))
end
end Go.Mx
namespace Go.Mx
open Go
section
variable {P:Program} {w:World} {G:Gh} {tmps:Array Value} {σ σ':St} {ds:List Deferred} {C:aj} {ν:cL} {o:Oper}
theorem Dx {t:Nat} {x:Bool} (h:tmps.getD t undef= .bool x):tmps[t]? =some (.bool x):=by
 rw [Array.getD_eq_getD_getElem?] at h
 cases hc:tmps[t]? with
 |none=>rw [hc] at h;simp [undef] at h
 |some v=>rw [hc] at h;simp at h;rw [h]
theorem Bd {t:Nat} (h:tmps.getD t undef=undef):tmps[t]? =none∨tmps[t]? =some undef:=by
 rw [Array.getD_eq_getD_getElem?] at h
 cases hc:tmps[t]? with
 |none=>exact .inl rfl
 |some v=>rw [hc] at h;simp at h;rw [h];exact .inr rfl
theorem N1 {h:Array Obj} {ops:Array Oper} {g:Bool} (R:Rel h G tmps σ) (hg:aQ ops.toList σ.env o.guard=some g):Region.wanted o (yielded ops tmps)=g:=by
 unfold Region.wanted
 unfold aQ at hg
 cases hgu:o.guard with
 |none=>rw [hgu] at hg;simpa using hg
 |some p=>
  obtain⟨j,want⟩:=p
  rw [hgu] at hg
  simp only at hg⊢
  unfold aD at hg
  unfold yielded
  rw [Array.getElem?_toList] at hg
  cases hj:ops[j]? with
  |none=>rw [hj] at hg;cases hg
  |some o'=>
   rw [hj] at hg
   simp only at hg
   cases hd:o'.dst with
   |none=>rw [hd] at hg;cases hg
   |some t=>
    rw [hd] at hg
    simp only [Option.bind_some,hd] at hg⊢
    have hr:=R.env t
    cases hl:bI σ.env t with
    |v x=>
     rw [hl] at hr hg
     cases x with
     |b x=>
      simp only [Option.some.injEq] at hg
      rw [Dx (RD.bool hr)]
      subst hg
      cases want<;>cases x<;>rfl
     |_=>cases hg
    |mb q d=>
     rw [hl] at hr hg
     cases d with
     |v x=>
      cases x with
      |b x=>
       simp only [Option.some.injEq] at hg
       simp only [RD] at hr
       cases q with
       |true=>
        have h1:=hr.1 rfl
        simp only [RV] at h1
        rw [Dx h1]
        subst hg
        cases want<;>cases x<;>rfl
       |false=>
        have h1:=hr.2 rfl
        subst hg
        rcases Bd h1 with h2|h2<;>rw [h2]<;>rfl
      |_=>cases hg
     |_=>cases hg
    |undef=>
     rw [hl] at hr hg
     simp only [RD] at hr
     simp only [Option.some.injEq] at hg
     subst hg
     rcases Bd hr with h2|h2<;>rw [h2]<;>rfl
    |_=>rw [hl] at hg;cases hg
theorem LX {env:Env} {dst:Option Nat} {g:Bool} {d:D} :offReg env dst (.mb g d)= .mb g (offReg env dst d):=by
 unfold offReg
 cases dst with
 |none=>rfl
 |some t=>simp only;cases aN (bI env t)<;>simp [iy]
theorem Rel.setMb {h : Array Obj} (R : Rel h G tmps σ) {t : Nat} {g : Bool} {d : D} {v : Value} (ht : t < tmps.size) (ho : aA d = true) (hr : g = true -> ∀ loc, RD h G loc d v) (hu : g = false -> v = undef) :
    ∃ G', Rel h G' (tmps.setIfInBounds t v) { σ with env := setReg σ.env t (offReg σ.env (some t) (.mb g d)) } /\ dv h G G' /\ (∀ k j, G'.ow (.hand k j) = G.ow (.hand k j)) := by
  -- the register's new data owns nothing
  have none_of : ∀ (G' : Gh) (d0 : D), aA d0 = true -> Rel h G' (tmps.setIfInBounds t v) { σ with env := setReg σ.env t d0 } -> ∀ j, G'.ow (.reg t j) = none := by
    intro G' d0 hf R' j
    cases hw : G'.ow (.reg t j) with
    | none => rfl
    | some p =>
      exfalso
      have := R'.own _ p (fun _ _ h => by cases h) hw
      rw [dc] at this
      simp only [setReg, cJ, if_true] at this
      cases d0 with
      | agg cs =>
        simp only [cW] at this
        cases hj : cs[j]? with
        | none => rw [hj] at this; cases this
        | some d' =>
          rw [hj] at this
          have hff := List.all_eq_true.1 (by simpa [aA] using hf) d' (List.mem_of_getElem? hj)
          cases d' <;> first | (cases this; done) | simp [ay] at hff
      | _ => first | (cases this; done) | simp [aA] at hf
  have fin : ∀ (G' : Gh) (d0 d1 : D), (∀ j, G'.ow (.reg t j) = none) -> Rel h G' (tmps.setIfInBounds t v) { σ with env := setReg σ.env t d0 } -> RD h G' (Loc.reg t) d1 v -> Rel h G' (tmps.setIfInBounds t v) { σ with env := setReg σ.env t d1 } := by
    intro G' d0 d1 hn R' hd
    have := R'.putStay (u := t) hn (d := d1) (by rw [AT _ _ _ _ ht]; simpa using hd)
    refine this.congr (fun u => ?_) rfl
    simp only [setReg, cJ]
    by_cases hu : t = u <;> simp [hu]
  rw [LX]
  cases g with
  | true =>
    obtain ⟨G', R', S', h1⟩ := R.setFree ht ho (hr rfl)
    have hfree : aA (offReg σ.env (some t) d) = true := gn ho
    refine ⟨G', fin G' _ _ (none_of G' _ hfree R') R' ?_, S', h1⟩
    have := R'.env t
    rw [AT _ _ _ _ ht] at this
    simp only [setReg, cJ, if_true] at this
    simp only [RD]
    exact ⟨fun _ => this, fun h => by cases h⟩
  | false =>
    have hv := hu rfl
    obtain ⟨G', R', S', h1⟩ := R.setFree (d := .undef) (v := v) ht rfl (fun _ => by simp only [RD]; exact hv)
    have hfree : aA (offReg σ.env (some t) .undef) = true := gn rfl
    refine ⟨G', fin G' _ _ (none_of G' _ hfree R') R' ?_, S', h1⟩
    simp only [RD]
    exact ⟨fun h => (by cases h), fun _ => hv⟩
end
end Go.Mx
namespace Go.Mx
open Go
section
variable {P:Program} {w:World} {G:Gh} {tmps:Array Value} {σ σ':St} {ds:List Deferred} {C:aj} {ν:cL} {o:Oper}
theorem GZ {d:D} (R:Rel w.heap G tmps σ) (hd:aK (ck P) C σ true o.op=some d) (hnc:ar o=false):dC P G w ⟨tmps,ds⟩ o d:=by
 cases ho:o.op with
 |move x=>exact Qb R ho hd
 |nilCheck x=>exact If R ho hd
 |pick c x y=>exact Qr R ho hd
 |binOp op t x y u=>exact NN R ho hd
 |unOp op t x=>cases op<;>first|exact Tl R ho hd|(rw [ho] at hd;simp [aK] at hd)
 |extract x ix=>exact Iv R ho hd
 |fieldAddr t x f=>exact E1 R ho hd
 |field t x f=>exact Oj R ho hd
 |load t x=>exact Qq R ho hd
 |indexAddr t x ix=>exact Fc R ho hd
 |index t x ix=>exact Mq R ho hd
 |makeFunc f first caps=>cases f<;>first|exact Ht R ho hd|(rw [ho] at hd;simp [aK] at hd)
 |slice t x lo hi mx=>exact Mt R ho hd
 |convert s t x=>exact IH R ho hd
 |call c=>
  cases hc:c.callee with
  |builtin b=>cases b<;>first|exact W9 R ho hc hd|exact SJ R ho hc hd|exact SH R ho hc hd|(rw [ho] at hd;simp [aK,hc] at hd)
  |value x=>cases x<;>first|(rw [ho] at hd;simp [aK,hc] at hd;done)|(simp [ar,ho,hc] at hnc)
  |invoke r n=>rw [ho] at hd;simp [aK,hc] at hd
 |_=>rw [ho] at hd;simp [aK] at hd
theorem dp.yields {d d':D} (F:dE w.heap G tmps σ) (hsz: ∀t,o.dst=some t->t<tmps.size) (hy:dC P G w ⟨tmps,ds⟩ o d) (hd:d'=d∨d'= .mb true d):dp P w G ⟨tmps,ds⟩ σ o { σ with env:=putDst σ.env o.dst (offReg σ.env o.dst d') } :=by
 obtain⟨v,hrun,ho,hr⟩:=hy
 cases hdst:o.dst with
 |none=>
  intro next Q hn
  unfold Oper.wp
  rw [hrun,Oper.upon_value]
  exact hn _ w G (by simp [Act.put,hdst]) (by simp [Act.put,hdst]) (by simpa [Act.put,hdst,putDst] using F) (dq.refl _ _ _)
 |some t=>
  rcases hd with rfl|rfl
  ·exact dp.free hdst (hsz t hdst) hrun F ho hr
  ·intro next Q hn
   unfold Oper.wp
   rw [hrun,Oper.upon_value]
   obtain⟨G2,R2,S2,h1⟩:=F.rel.setMb (g:=true) (v:=v) (hsz t hdst) ho (fun _=>hr) (fun h=>by cases h)
   exact hn _ w G2 (by simp [Act.put,hdst]) (by simp [Act.put,hdst]) ⟨by simpa [Act.put,hdst,putDst] using R2,fun q j=>by rw [h1];exact F.clean q j,F.low⟩ (S2.goes rfl)
theorem JN {d:D} (F:dE w.heap G tmps σ) (hsz: ∀t,o.dst=some t->t<tmps.size) (hd:d= .undef∨ ∃d0,aA d0=true/\d= .mb false d0): ∃G',dE w.heap G' ((⟨tmps,ds⟩:Act).put o.dst undef).tmps { σ with env:=putDst σ.env o.dst (offReg σ.env o.dst d) } /\dq w G σ w G' { σ with env:=putDst σ.env o.dst (offReg σ.env o.dst d) } :=by
 cases hdst:o.dst with
 |none=>exact⟨G,by simpa [Act.put,putDst] using F,dq.refl _ _ _⟩
 |some t=>
  rcases hd with rfl|⟨d0,h0,rfl⟩
  ·obtain⟨G2,R2,S2,h1⟩:=F.rel.setFree (v:=undef) (d:=.undef) (hsz t hdst) rfl (fun _=>by simp only [RD])
   exact⟨G2,⟨by simpa [Act.put,putDst] using R2,fun q j=>by rw [h1];exact F.clean q j,F.low⟩,S2.goes rfl⟩
  ·obtain⟨G2,R2,S2,h1⟩:=F.rel.setMb (g:=false) (v:=undef) (hsz t hdst) h0 (fun h=>by cases h) (fun _=>rfl)
   exact⟨G2,⟨by simpa [Act.put,putDst] using R2,fun q j=>by rw [h1];exact F.clean q j,F.low⟩,S2.goes rfl⟩
theorem dp.got {f:FuncId} {args:Array Value} {σ1:St} {d:D} (hsz: ∀t,o.dst=some t->t<tmps.size) (hrun:(execOp (⟨tmps,ds⟩:Act).eval o).run P w=(callFunc f args).run P w)
  (he:eD P f args w fun v w'=>∃G',Rel w'.heap G' tmps σ1/\Low σ1.S/\dq w G σ w' G' σ1/\Got w'.heap G' d v):dp P w G ⟨tmps,ds⟩ σ o { σ1 with env:=putDst σ1.env o.dst (offReg σ1.env o.dst d) } :=by
 intro next Q hn
 refine EN hrun he ?_
 rintro v w' ⟨G1,R1,L1,g1,H1⟩
 obtain⟨G2,R2,S2,c2⟩:=H1.put (ds:=ds) (dst:=o.dst) R1 hsz
 refine hn _ w' G2 ?_ ?_ ⟨R2,c2,L1⟩ (g1.trans (S2.goes rfl))
 ·cases o.dst<;>simp [Act.put]
 ·cases o.dst<;>simp [Act.put]
theorem dp.gotMb {f:FuncId} {args:Array Value} {σ1:St} {d:D} (hsz: ∀t,o.dst=some t->t<tmps.size) (ho:aA d=true) (hrun:(execOp (⟨tmps,ds⟩:Act).eval o).run P w=(callFunc f args).run P w)
  (he:eD P f args w fun v w'=>∃G',Rel w'.heap G' tmps σ1/\Low σ1.S/\dq w G σ w' G' σ1/\Got w'.heap G' d v):dp P w G ⟨tmps,ds⟩ σ o { σ1 with env:=putDst σ1.env o.dst (offReg σ1.env o.dst (.mb true d)) } :=by
 intro next Q hn
 refine EN hrun he ?_
 rintro v w' ⟨G1,R1,L1,g1,H1⟩
 cases hdst:o.dst with
 |none=>
  obtain⟨G2,R2,S2,c2⟩:=H1.put (ds:=ds) (dst:=none) R1 (fun t h=>by cases h)
  exact hn _ w' G2 (by simp [Act.put,hdst]) (by simp [Act.put,hdst]) ⟨by simpa [Act.put,hdst,putDst] using R2,c2,L1⟩ (g1.trans (S2.goes rfl))
 |some t=>
  obtain⟨G2,R2,S2,h1⟩:=R1.setMb (g:=true) (v:=v) (hsz t hdst) ho (fun _ loc=>RD.reloc ho H1.rd) (fun h=>by cases h)
  refine hn _ w' G2 (by simp [Act.put,hdst]) (by simp [Act.put,hdst]) ⟨by simpa [Act.put,hdst,putDst] using R2,fun q j=>?_,L1⟩ (g1.trans (S2.goes rfl))
  rw [h1]
  cases hw:G1.ow (.hand q j) with
  |none=>rfl
  |some p=>
   exfalso
   have:=(H1.own q j p hw).2
   cases d with
   |agg cs=>
    simp only [cW] at this
    cases hj:cs[j]? with
    |none=>rw [hj] at this;cases this
    |some d'=>
     rw [hj] at this
     have hff:=List.all_eq_true.1 (by simpa [aA] using ho) d' (List.mem_of_getElem? hj)
     cases d'<;>first|(cases this;done)|simp [ay] at hff
   |_=>first|(cases this;done)|simp [aA] at ho
theorem Ks {G1:Gh} {h:Array Obj} {xs:List Operand} {args:List D} (hl:args.length=xs.length) (hg: ∀(i:Nat) (d:D),args[i]? =some d-> ∃x,xs[i]? =some x/\dG h G1 (0+i) d ((⟨tmps,ds⟩:Act).eval x)) (hc: ∀q,0+xs.length<=q-> ∀j,G1.ow (.hand q j)=none):z7 h G1 args (xs.map (⟨tmps,ds⟩:Act).eval):=by
 refine⟨by simp [hl],fun j d hd=>?_,fun k j p hp=>?_⟩
 ·obtain⟨x,hx,H⟩:=hg j d hd
  rw [Nat.zero_add] at H
  exact⟨_,by rw [List.getElem?_map,hx];rfl,H.rd,H.ok⟩
 ·rcases Nat.lt_or_ge k xs.length with hk|hk
  ·obtain⟨d,hd⟩: ∃d,args[k]? =some d:=⟨_,List.getElem?_eq_getElem (by omega)⟩
   obtain⟨x,hx,H⟩:=hg k d hd
   rw [Nat.zero_add] at H
   exact⟨d,hd,H.own j p hp⟩
  ·rw [hc k (by omega) j] at hp;cases hp
theorem xF {c:Call} {f:FuncId} {ro mv gv:Nat->Bool} (SC:cj P C) (F:dE w.heap G tmps σ) (ho:o.op= .call c) (hc:c.callee= .value (.func f)) (hsz: ∀t,o.dst=some t->t<tmps.size) (hd:aJ (ck P) C ro mv gv σ o.dst o.type o.op=some σ'):dp P w G ⟨tmps,ds⟩ σ o σ':=by
 rw [ho] at hd
 simp only [aJ,hc] at hd
 cases ha:argsE gv σ c.args.toList with
 |none=>simp [ha] at hd
 |some p=>
  obtain⟨args,σ1⟩:=p
  simp only [ha] at hd
  cases hb:(args.all bare&& !jA mv o.dst) with
  |true=>rw [hb] at hd;cases hd
  |false=>
   rw [hb,cond_false] at hd
   cases hC:C f args σ1.S with
   |none=>simp [hC] at hd
   |some q=>
    obtain⟨d,S'⟩:=q
    simp only [hC] at hd
    cases hd
    obtain⟨G1,R1,S1,hl,hg,_,hcl⟩:=FD (ds:=ds) c.args.toList 0 σ σ1 args G F.rel (fun q _ j=>F.clean q j) ha
    obtain⟨L1,e1⟩:=Low.argsE _ _ _ _ F.low ha
    have hcall:=G6 (SC:=SC) R1 L1 (Ks (ds:=ds) hl hg hcl) hC
    refine dp.got (σ1:={ env:=kill (jF σ1.S args) σ1.env,S:=S' }) hsz (gp ho hc) ?_
    have:(c.args.map (⟨tmps,ds⟩:Act).eval)=(c.args.toList.map (⟨tmps,ds⟩:Act).eval).toArray:=by apply Array.ext';simp
    rw [this]
    exact hcall.mono (fun v w' ⟨G2,R2,L2,g2,H2⟩=>⟨G2,R2,L2,(S1.goes (w:=w) (σ:=σ) (σ':=σ1) e1).trans g2,H2⟩)
theorem Fp {c:Call} {x:Tmp} {ro mv gv:Nat->Bool} (SC:cj P C) (F:dE w.heap G tmps σ) (ho:o.op= .call c) (hc:c.callee= .value (.tmp x)) (hsz: ∀t,o.dst=some t->t<tmps.size) (hd:aJ (ck P) C ro mv gv σ o.dst o.type o.op=some σ'):dp P w G ⟨tmps,ds⟩ σ o σ':=by
 rw [ho] at hd
 simp only [aJ,hc] at hd
 split at hd<;>try (cases hd;done)
 rename_i f caps args σ1 hx ha
 cases hst:caps.all bJ with
 |false=>rw [hst] at hd;cases hd
 |true=>
 rw [hst,cond_true] at hd
 cases hC:C f (args++caps) σ1.S with
 |none=>simp [hC] at hd
 |some q=>
  obtain⟨d,S'⟩:=q
  simp only [hC] at hd
  cases hd
  obtain⟨G1,R1,S1,hl,hg,_,hcl⟩:=FD (ds:=ds) c.args.toList 0 σ σ1 args G F.rel (fun q _ j=>F.clean q j) ha
  obtain⟨L1,e1⟩:=Low.argsE _ _ _ _ F.low ha
  have hrx:=F.rel.opndF ds (x:=.tmp x) hx
  simp only [RD] at hrx
  obtain⟨vcaps,hv,hcaps⟩:=hrx
  have A:=Ks (ds:=ds) hl hg hcl
  have hvl:=RDs.length _ _ _ _ hcaps
  have A':z7 w.heap G1 (args++caps) (c.args.toList.map (⟨tmps,ds⟩:Act).eval++vcaps.toList):=by
   refine⟨by simp only [List.length_append,A.len,hvl],fun j d hd=>?_,fun k j p hp=>?_⟩
   ·rcases Nat.lt_or_ge j args.length with hj|hj
    ·rw [List.getElem?_append_left hj] at hd
     obtain⟨v,h1,h2⟩:=A.rd j d hd
     exact⟨v,by rw [List.getElem?_append_left (by rw [A.len];exact hj)];exact h1,h2⟩
    ·rw [List.getElem?_append_right hj] at hd
     obtain⟨v,h1,h2⟩:=RDs.get _ _ _ _ _ _ hcaps hd
     have hsd:=List.all_eq_true.1 hst d (List.mem_of_getElem? hd)
     refine⟨v,by rw [List.getElem?_append_right (by rw [A.len];exact hj),A.len];exact h1,RD.stay S1.more hsd h2,?_⟩
     cases d<;>first|rfl|simp [bJ] at hsd
   ·obtain⟨d,h1,h2⟩:=A.own k j p hp
    have hk:k<args.length:=(List.getElem?_eq_some_iff.1 h1).1
    exact⟨d,by rw [List.getElem?_append_left hk];exact h1,h2⟩
  have hcall:=G6 (SC:=SC) R1 L1 A' hC
  refine dp.got (σ1:={ env:=kill (jF σ1.S (args++caps)) σ1.env,S:=S' }) hsz (IB ho hc hv) ?_
  have:(c.args.map (⟨tmps,ds⟩:Act).eval++vcaps)=(c.args.toList.map (⟨tmps,ds⟩:Act).eval++vcaps.toList).toArray:=by apply Array.ext';simp
  rw [this]
  exact hcall.mono (fun v w' ⟨G2,R2,L2,g2,H2⟩=>⟨G2,R2,L2,(S1.goes (w:=w) (σ:=σ) (σ':=σ1) e1).trans g2,H2⟩)
theorem KS {k:TK} (h:bC k=true):k= .str:=by cases k<;>first|rfl|cases h
theorem KQ (SC : cj P C) (F : dE w.heap G tmps σ) {ops : List Oper} (hsz : ∀ t, o.dst = some t -> t < tmps.size) (hg : aQ ops σ.env o.guard = some true) (hs : cP (ck P) C ν ops o σ = some σ') : dp P w G ⟨tmps, ds⟩ σ o σ' := by
  unfold cP at hs
  rw [hg] at hs
  simp only at hs
  cases hw : be (ck P) ν o with
  | true =>
    rw [hw, cond_true, cond_true] at hs
    cases hok : bf (ck P) σ.env o with
    | false => rw [hok] at hs; cases hs
    | true =>
      rw [hok, cond_true] at hs
      cases ho : o.op with
      | assign x => exact Gy F ho hsz hs
      | box t x => exact N2 F ho hsz hs
      | alloc t => exact IX F ho hsz hs
      | build t parts => exact Iy F ho hsz hs
      | buildSlice t n parts => exact Ab F ho hsz hs
      | makeSlice t n m =>
        refine LA F ho ?_ hsz hs
        unfold bf at hok
        rw [ho] at hok
        simp only at hok
        unfold aT at hok
        split at hok
        . rename_i k a k' b h1 h2
          simp only [Bool.and_eq_true, decide_eq_true_eq, beq_iff_eq] at hok
          obtain ⟨rfl, rfl⟩ := hok
          rw [RD.int (F.rel.opndF ds h1), RD.int (F.rel.opndF ds h2)]
        . cases hok
      | store t a x =>
        refine Ir F ho ?_ hs
        unfold bf at hok
        rw [ho] at hok
        simpa using hok
      | convert s t x =>
        refine EV F ho hsz ?_ hs
        unfold bf at hok
        rw [ho] at hok
        obtain ⟨_, _, hu⟩ := eY (KS hok)
        exact hu
      | load t a => exact GV F ho hsz hs
      | call c =>
        cases hc : c.callee with
        | builtin b =>
          unfold be at hw
          rw [ho] at hw
          simp only [hc] at hw
          cases b <;> first | exact GC F ho hc hsz hs | (cases hw)
        | value x =>
          unfold be at hw
          rw [ho] at hw
          simp only [hc] at hw
          cases x <;> first | exact Fp SC F ho hc hsz hs | exact xF SC F ho hc hsz hs | (cases hw)
        | invoke r n =>
          unfold be at hw
          rw [ho] at hw
          simp only [hc] at hw
          cases hw
      | _ => unfold be at hw; rw [ho] at hw; cases hw
  | false =>
    rw [hw, cond_false] at hs
    cases hcf : aw C σ true o with
    | true => rw [hcf] at hs; cases hs
    | false =>
    rw [hcf, cond_false] at hs
    cases hp : gx true o.guard.isNone (aK (ck P) C σ true o.op) with
    | none =>
      rw [hp] at hs
      simp only [Bool.true_and] at hs
      cases hf : ar o with
      | false => rw [hf] at hs; cases hs
      | true =>
        rw [hf, cond_true] at hs
        unfold ar at hf
        split at hf <;> try (cases hf; done)
        rename_i c ho
        split at hf <;> try (cases hf; done)
        rename_i f hc
        exact xF SC F ho hc hsz hs
    | some d' =>
      rw [hp] at hs
      simp only [Option.some.injEq] at hs
      subst hs
      -- what it yields
      have key : ∃ d, aK (ck P) C σ true o.op = some d /\ (d' = d ∨ (d' = .mb true d /\ aA d = true)) := by
        unfold gx at hp
        cases hgn : o.guard.isNone with
        | true => rw [hgn] at hp; exact ⟨d', hp, .inl rfl⟩
        | false => rw [hgn] at hp; exact ⟨d', hp, .inl rfl⟩
      obtain ⟨d, hd, hor⟩ := key
      cases hf : ar o with
      | false => exact dp.yields F hsz (GZ F.rel hd hf) (hor.imp id (fun h => h.1))
      | true =>
        unfold ar at hf
        split at hf <;> try (cases hf; done)
        rename_i c ho
        split at hf <;> try (cases hf; done)
        rename_i f hc
        rw [ho] at hd
        simp only [aK, hc, cond_true] at hd
        split at hd <;> try (cases hd; done)
        rename_i args hall
        cases hb : (args.map lendA).all bare with
        | false => rw [hb] at hd; cases hd
        | true =>
          rw [hb, cond_true] at hd
          split at hd
          . rename_i d0 hC
            cases ht : (args.any aB && !newB d0) with
            | true => rw [ht] at hd; cases hd
            | false =>
              simp only [ht, cond_false, Option.some.injEq] at hd
              subst hd
              have hcall := KN (ds := ds) SC F hall hb hC ht
              have he : (c.args.map (⟨tmps, ds⟩ : Act).eval) = (c.args.toList.map (⟨tmps, ds⟩ : Act).eval).toArray := by apply Array.ext'; simp
              have hcall' := hcall.mono (R' := fun v w' => ∃ G', Rel w'.heap G' tmps σ /\ Low σ.S /\ dq w G σ w' G' σ /\ Got w'.heap G' d0 v) (fun v w' ⟨G2, R2, g2, H2⟩ => ⟨G2, R2, F.low, g2, H2⟩)
              rw [<- he] at hcall'
              rcases hor with rfl | ⟨rfl, hof⟩
              . exact dp.got hsz (gp ho hc) hcall'
              . exact dp.gotMb hsz hof (gp ho hc) hcall'
          . cases hd
theorem KY (F:dE w.heap G tmps σ) {ops:List Oper} (hsz: ∀t,o.dst=some t->t<tmps.size) (hg:aQ ops σ.env o.guard=some false) (hs:cP (ck P) C ν ops o σ=some σ'): ∃G',dE w.heap G' ((⟨tmps,ds⟩:Act).put o.dst undef).tmps σ'/\dq w G σ w G' σ':=by
 have hgn:o.guard.isNone=false:=by
  cases h:o.guard with
  |none=>rw [h] at hg;simp [aQ] at hg
  |some _=>rfl
 unfold cP at hs
 rw [hg] at hs
 simp only at hs
 cases hw:be (ck P) ν o with
 |true=>
  rw [hw,cond_true,cond_false,Option.some.injEq] at hs
  subst hs
  have:=JN (ds:=ds) F hsz (d:=.undef) (.inl rfl)
  have he:offReg σ.env o.dst .undef= .undef:=by
   unfold offReg
   cases o.dst with
   |none=>rfl
   |some t=>simp only;cases aN (bI σ.env t)<;>rfl
  rw [he] at this
  exact this
 |false=>
  rw [hw,cond_false,hgn] at hs
  cases hcf:aw C σ false o with
  |true=>rw [hcf] at hs;cases hs
  |false=>
  rw [hcf,cond_false] at hs
  cases hp:gx false false (aK (ck P) C σ false o.op) with
  |none=>rw [hp] at hs;simp at hs
  |some d'=>
   rw [hp] at hs
   simp only [Option.some.injEq] at hs
   subst hs
   refine JN F hsz ?_
   unfold gx at hp
   simp only [cond_false,Option.some.injEq] at hp
   exact .inl hp.symm
end
end Go.Mx
namespace Go.Mx
open Go
def R7:Ex->Exit->Prop
 | .normal,e=>e= .normal
 | .exit id,e=>e= .exit id
 | .ret,e=>e= .ret
def MH (P:Program) (c:Code) (w:World) (G:Gh) (a:Act) (σ:St) (ex:Ex) (σ':St):Prop:=
 ∀Q:Exit->Act->World->Prop,(∀e a' w' G',R7 ex e->a'.defers=a.defers->a'.tmps.size=a.tmps.size->dE w'.heap G' a'.tmps σ'->dq w G σ w' G' σ'->Q e a' w')->c.wp P Q a w
section
variable {P:Program} {w:World} {G:Gh} {tmps:Array Value} {σ σ':St} {ds:List Deferred} {C:aj} {ν:cL} {o:Oper}
theorem FS (SC:cj P C) {ops:Array Oper} {i:Nat} (hi:ops[i]? =some o) (F:dE w.heap G tmps σ) (hsz: ∀t,o.dst=some t->t<tmps.size) (hs:cP (ck P) C ν ops.toList o σ=some σ')
  {K:Act->World->Prop} {Q:Exit->Act->World->Prop} (hK: ∀a' w' G',a'.defers=ds->a'.tmps.size=tmps.size->dE w'.heap G' a'.tmps σ'->dq w G σ w' G' σ'->K a' w'):wpOp P ops Q i K ⟨tmps,ds⟩ w:=by
 unfold wpOp
 rw [hi]
 simp only
 have hg: ∃g,aQ ops.toList σ.env o.guard=some g:=by
  unfold cP at hs
  cases h:aQ ops.toList σ.env o.guard with
  |none=>rw [h] at hs;cases hs
  |some g=>exact⟨g,rfl⟩
 obtain⟨g,hg⟩:=hg
 have hw:=N1 F.rel hg
 rw [hw]
 cases g with
 |true=>
  rw [if_pos rfl]
  exact .inl (KQ SC F hsz hg hs K Q hK)
 |false=>
  rw [if_neg (by decide)]
  obtain⟨G',F',g'⟩:=KY (ds:=ds) F hsz hg hs
  refine hK _ w G' ?_ ?_ F' g'
  ·cases o.dst<;>rfl
  ·cases o.dst<;>simp [Act.put]
theorem GU (SC:cj P C) {ops:Array Oper} : ∀(idx:List Nat) (rest:List Oper) (w:World) (G:Gh) (tmps:Array Value) (σ:St),idx.map (ops[·]?)=rest.map some->(∀o∈rest,∀t,o.dst=some t->t<tmps.size)->
  fd (ck P) C ν ops.toList rest σ=some σ'->dE w.heap G tmps σ-> ∀(Q:Exit->Act->World->Prop),(∀a' w' G',a'.defers=ds->a'.tmps.size=tmps.size->dE w'.heap G' a'.tmps σ'->dq w G σ w' G' σ'->Q .normal a' w')->
  wpOps P ops Q idx ⟨tmps,ds⟩ w
 | [],[],w,G,tmps,σ,_,_,he,F,Q,hQ=>by
  simp only [fd,Option.some.injEq] at he
  subst he
  exact hQ _ w G rfl rfl F (dq.refl _ _ _)
 |i::idx,o::rest,w,G,tmps,σ,hi,hsz,he,F,Q,hQ=>by
  simp only [List.map_cons,List.cons.injEq] at hi
  rw [wpOps_cons]
  simp only [fd] at he
  cases hs:cP (ck P) C ν ops.toList o σ with
  |none=>rw [hs] at he;cases he
  |some σ1=>
   rw [hs] at he
   simp only at he
   refine FS (ν:=ν) SC hi.1 F (hsz o (List.mem_cons_self ..)) hs ?_
   rintro⟨tmps1,ds1⟩ w1 G1 hd1 hs1 F1 g1
   simp only at hd1 hs1 F1
   rw [hd1]
   refine GU SC idx rest w1 G1 tmps1 σ1 hi.2 (fun o' ho' t ht=>by rw [hs1];exact hsz o' (List.mem_cons_of_mem _ ho') t ht) he F1 Q ?_
   intro a2 w2 G2 hd2 hs2 F2 g2
   exact hQ a2 w2 G2 hd2 (hs2.trans hs1) F2 (g1.trans g2)
 | [],_::_,_,_,_,_,hi,_,_,_,_,_=>by simp at hi
 |_::_,[],_,_,_,_,hi,_,_,_,_,_=>by simp at hi
def gj (P:Program) (C:aj) (ν:cL) (n id:Nat) (ops:Array Oper) (draw:Bool):Prop:=
 ∀(w:World) (G:Gh) (tmps:Array Value) (ds:List Deferred) (σ σ':St),tmps.size=n->dE w.heap G tmps σ->dY (ck P) C ν id ops.toList draw σ=some σ'->MH P (.region id ops draw) w G ⟨tmps,ds⟩ σ .normal σ'
theorem CB (SC:cj P C) {n id:Nat} {ops:Array Oper} (hsz: ∀o∈ops.toList,∀t,o.dst=some t->t<n):gj P C ν n id ops false:=by
 intro w G tmps ds σ σ' hn F he Q hQ
 unfold dY at he
 simp only [Bool.false_and,cond_false] at he
 refine wp_region ?_
 refine GU (ν:=ν) SC (List.range ops.size) ops.toList w G tmps σ ?_ (by rw [hn];exact hsz) he F Q (fun a' w' G' h1 h2 h3 h4=>hQ _ a' w' G' rfl h1 h2 h3 h4)
 apply List.ext_getElem?
 intro i
 simp only [List.getElem?_map,List.getElem?_range]
 by_cases hi:i<ops.size
 ·simp [hi]
 ·simp [hi]
theorem D7 (f:Nat->D): ∀(keep:List Nat) (t:Nat),bI (keep.map fun t=>(t,f t)) t=if t∈keep then f t else .bad
 | [],t=>by simp [bI]
 |u::r,t=>by
  simp only [List.map_cons,bI]
  cases hu:(u==t) with
  |true=>
   have:u=t:=by simpa using hu
   subst this
   simp
  |false=>
   have: ¬u=t:=by simpa using hu
   simp only [cond_false]
   rw [D7 f r t]
   have h2:t∈u::r↔t∈r:=by
    constructor
    ·intro h
     rcases List.mem_cons.1 h with h|h
     ·exact absurd h.symm this
     ·exact h
    ·intro h;exact List.mem_cons_of_mem _ h
   by_cases ht:t∈r
   ·rw [if_pos ht,if_pos (h2.2 ht)]
   ·rw [if_neg ht,if_neg (fun h=>ht (h2.1 h))]
theorem AJ (keep:List Nat) (env:Env) (t:Nat):bI (Mx.prune keep env) t=if t∈keep then iy (ct keep) (bI env t) else .bad:=by
 unfold Mx.prune
 rw [D7]
theorem Rel.prune {h:Array Obj} (R:Rel h G tmps σ) (keep:List Nat): ∃G',Rel h G' tmps { σ with env:=Mx.prune keep σ.env } /\dv h G G'/\(∀k j,G'.ow (.hand k j)=G.ow (.hand k j)):=by
 let ow:Loc->Option (Nat×Nat):=fun l=>bif ct keep l then none else G.ow l
 have hp: ∀l,ct keep l=true->ow l=none:=fun l h=>by simp [ow,h]
 have hn: ∀l,ct keep l=false->ow l=G.ow l:=fun l h=>by simp [ow,h]
 have hsub: ∀l q,ow l=some q->G.ow l=some q/\ct keep l=false:=by
  intro l q hl
  cases hpl:ct keep l with
  |true=>rw [hp l hpl] at hl;cases hl
  |false=>rw [hn l hpl] at hl;exact⟨hl,rfl⟩
 have I:Inv h { G with ow:=ow } :=R.inv.sub (fun l q hl=>⟨l,(hsub l q hl).1⟩) (fun l l' b f f' h1 h2=>R.inv.ow_inj l l' b f f' (hsub _ _ h1).1 (hsub _ _ h2).1)
 have F:Fr (fun l=>ct keep l=true) h G h { G with ow:=ow } :=⟨cS.refl _,fun _ _ h=>h,fun l q _ hl hq=>(by
  show ow l=some q
  rw [hn l (by simpa using hl)];exact hq),fun _ _ _ _ _ _=>rfl⟩
 refine⟨{ G with ow:=ow },⟨I,?_,?_,R.obc,R.obn,?_⟩,⟨cS.refl _,rfl,fun l b f hl=>⟨l,f,(hsub l _ hl).1⟩,fun b hb=>.inl hb⟩,fun k j=>hn (.hand k j) rfl⟩
 ·intro t
  simp only
  rw [AJ]
  by_cases ht:t∈keep
  ·rw [if_pos ht]
   refine RD.fr F _ (fun _=>rfl) _ _ (free.kill (fun _ h=>h) (by simp [ct]) ?_ _) (RD.kill _ _ _ (R.env t))
   intro j
   simp [ct,ht]
  ·rw [if_neg ht];simp only [RD]
 ·intro o cs hcs
  obtain⟨b,c,e,fr,h1,h2,h3,h4⟩:=R.obj o cs hcs
  exact⟨b,c,e,fr,h1,h2,h3,RDs.fr F _ (fun _=>rfl) _ _ _ (kn.cell 0 cs (R.obc o cs hcs) (by intro i d _ _;simp [ct])) h4⟩
 ·intro l q hh hl
  obtain⟨h1,h2⟩:=hsub l q hl
  have:=R.own l q hh h1
  cases l with
  |reg t j=>
   have ht:t∈keep:=by simpa [ct] using h2
   rw [dc] at*
   simp only
   rw [AJ,if_pos ht,eJ];exact this
  |cell o j=>exact this
  |hand k j=>exact absurd rfl (hh k j)
  |nowhere=>exact this
end
end Go.Mx
namespace Go.Mx
open Go
def EA (X:Nat->Prop) (e e':Env):Prop:=∀u,¬X u->bI e' u=bI e u
structure Ag (X:Nat->Prop) (σ σ':St):Prop where
 S:σ'.S=σ.S
 env:EA X σ.env σ'.env
def u4 (X:Nat->Prop):Operand->Prop
 | .tmp u=>¬X u
 |_=>True
def Az (X:Nat->Prop):Option Nat->Prop
 |some t=>¬X t
 |none=>True
section
variable {X:Nat->Prop} {e e':Env} {σ σ':St}
theorem EA.put (h:EA X e e') (t:Nat) (d:D):EA X (Mx.put e t d) (Mx.put e' t d):=by
 intro u hu
 rw [cJ,cJ]
 split
 ·rfl
 ·exact h u hu
theorem EA.kill (h:EA X e e') (p:Loc->Bool):EA X (Mx.kill p e) (Mx.kill p e'):=by
 intro u hu
 rw [cU,cU,h u hu]
theorem EA.map (h:EA X e e') (f:D->D) (hf:f .bad= .bad):EA X (e.map fun x=>(x.1,f x.2)) (e'.map fun x=>(x.1,f x.2)):=by
 intro u hu
 rw [fH f hf,fH f hf,h u hu]
theorem EA.setReg (h:EA X e e') {t:Nat} (ht: ¬X t) (d:D):EA X (Mx.setReg e t d) (Mx.setReg e' t d):=by
 unfold Mx.setReg
 rw [h t ht]
 cases aN (bI e t)
 ·exact h.put t d
 ·exact (h.kill _).put t d
theorem EA.spend (h:EA X e e') {x:Operand} (hx:u4 X x):EA X (Mx.spend e x) (Mx.spend e' x):=by
 unfold Mx.spend
 cases x with
 |tmp u=>
  simp only
  rw [h u hx]
  cases aN (bI e u)
  ·exact h
  ·exact (h.kill _).put u .bad
 |_=>exact h
theorem EA.frzReg (h:EA X e e') {x:Operand} (hx:u4 X x):EA X (Mx.frzReg e x) (Mx.frzReg e' x):=by
 unfold Mx.frzReg
 cases x with
 |tmp u=>
  simp only
  rw [h u hx]
  cases aN (bI e u)
  ·exact h
  ·exact (h.kill _).put u _
 |_=>exact h
theorem EA.putDst (h:EA X e e') {dst:Option Nat} (hd:Az X dst) (d:D):EA X (Mx.putDst e dst d) (Mx.putDst e' dst d):=by
 unfold Mx.putDst
 cases dst with
 |none=>exact h
 |some t=>exact h.setReg hd d
theorem EA.opnd (h:EA X e e') {x:Operand} (hx:u4 X x):Mx.opnd e' x=Mx.opnd e x:=by
 cases x with
 |tmp u=>exact h u hx
 |_=>rfl
theorem EA.offReg (h:EA X e e') {dst:Option Nat} (hd:Az X dst) (d:D):Mx.offReg e' dst d=Mx.offReg e dst d:=by
 unfold Mx.offReg
 cases dst with
 |none=>rfl
 |some t=>simp only;rw [h t hd]
theorem EA.forceAll (h:EA X e e') (g:Bool): ∀ {xs:List Operand},(∀x∈xs,u4 X x)->Mx.forceAll g e' xs=Mx.forceAll g e xs
 | [],_=>rfl
 |x::xs,hx=>by
  simp only [Mx.forceAll,h.opnd (hx x List.mem_cons_self),EA.forceAll h g (fun y hy=>hx y (List.mem_cons_of_mem _ hy))]
theorem EA.bound (h:EA X e e') (g:Bool) {x:Option Operand} (hx: ∀y,x=some y->u4 X y) (d:Int):Mx.bound g e' x d=Mx.bound g e x d:=by
 unfold Mx.bound
 cases x with
 |none=>rfl
 |some y=>simp only [h.opnd (hx y rfl)]
def RO {α:Type} (X:Nat->Prop):Option (α×Env)->Option (α×Env)->Prop
 |some (a,e),some (b,e')=>b=a/\EA X e e'
 |none,none=>True
 |_,_=>False
theorem EA.takeParts: ∀ {ps:List (Nat×Operand)} {e e':Env},EA X e e'->(∀x∈ps,u4 X x.2)->RO X (Mx.takeParts e ps) (Mx.takeParts e' ps)
 | [],e,e',h,_=>⟨rfl,h⟩
 |(i,x)::r,e,e',h,hx=>by
  have hx0:=hx (i,x) List.mem_cons_self
  have ih:=EA.takeParts (ps:=r) (h.spend hx0) (fun y hy=>hx y (List.mem_cons_of_mem _ hy))
  simp only [Mx.takeParts,h.opnd hx0]
  cases bl true (Mx.opnd e x) with
  |none=>trivial
  |some d=>
   simp only
   cases bD d with
   |false=>trivial
   |true=>
    simp only [cond_true]
    revert ih
    rcases Mx.takeParts (Mx.spend e x) r with _|⟨ds,e1⟩<;>rcases Mx.takeParts (Mx.spend e' x) r with _|⟨ds',e1'⟩<;>intro ih<;>simp only [RO] at*
    exact⟨by rw [ih.1],ih.2⟩
def ROs (X:Nat->Prop):Option St->Option St->Prop
 |some σ,some σ'=>Ag X σ σ'
 |none,none=>True
 |_,_=>False
def ROd {α:Type} (X:Nat->Prop):Option (α×St)->Option (α×St)->Prop
 |some (a,σ),some (b,σ')=>b=a/\Ag X σ σ'
 |none,none=>True
 |_,_=>False
theorem Ag.all (h:Ag X σ σ') (hX: ∀u,¬X u) (t:Nat):bI σ'.env t=bI σ.env t:=h.env t (hX t)
theorem Ag.ownAt (h:Ag X σ σ') (hX: ∀u,¬X u) (l:Loc):Mx.ownAt σ' l=Mx.ownAt σ l:=by
 unfold Mx.ownAt
 cases l with
 |reg t j=>simp only [h.all hX t]
 |cell o off=>simp only [h.S]
 |_=>rfl
theorem Ag.spendOk (h:Ag X σ σ') (hX: ∀u,¬X u) (l:Loc):Mx.spendOk σ' l=Mx.spendOk σ l:=by
 unfold Mx.spendOk
 cases l with
 |reg t j=>simp only [h.all hX t]
 |_=>rfl
theorem Ag.spendLoc (h:Ag X σ σ') (l:Loc):Ag X (Mx.spendLoc σ l) (Mx.spendLoc σ' l):=by
 unfold Mx.spendLoc
 cases l with
 |reg t j=>exact⟨h.S,(h.env.kill _).put t .bad⟩
 |cell o off=>
  simp only [h.S]
  cases σ.S[o]? with
  |none=>exact h
  |some cs=>exact⟨rfl,h.env.kill _⟩
 |_=>exact h
theorem AR (src:Loc):dropAl src .bad= .bad:=by simp only [dropAl]
theorem Ag.setOwn (h:Ag X σ σ') (src:Loc) (sz:Nat) (l:List (List V)):Ag X (Mx.setOwn σ src sz l) (Mx.setOwn σ' src sz l):=by
 unfold Mx.setOwn
 cases src with
 |reg t j=>exact⟨h.S,(h.env.map _ (AR _)).put t _⟩
 |cell o off=>exact⟨by simp only [h.S],h.env.map _ (AR _)⟩
 |_=>exact h
theorem Ag.withEnv {e e':Env} (h:Ag X σ σ') (he:EA X e e'):Ag X { σ with env:=e } { σ' with env:=e' } :=⟨h.S,he⟩
theorem Ag.argE (h:Ag X σ σ') (hX: ∀u,¬X u) (give:Nat->Bool) (x:Operand):ROd X (Mx.argE give σ x) (Mx.argE give σ' x):=by
 have hx:u4 X x:=by cases x<;>simp [u4,hX]
 unfold Mx.argE
 simp only [h.env.opnd hx,h.spendOk hX]
 cases bl true (opnd σ.env x) with
 |none=>trivial
 |some d=>
  simp only
  cases bw give x with
  |true=>
   simp only [cond_true]
   split
   ·cases Mx.spendOk σ _ with
    |false=>trivial
    |true=>exact⟨rfl,h.spendLoc _⟩
   ·cases bD d with
    |false=>trivial
    |true=>exact⟨rfl,h.withEnv (h.env.spend hx)⟩
  |false=>
   simp only [cond_false]
   cases bD d with
   |false=>trivial
   |true=>exact⟨rfl,h.withEnv (h.env.frzReg hx)⟩
theorem Ag.argsE (hX: ∀u,¬X u) (give:Nat->Bool): ∀ {xs:List Operand} {σ σ':St},Ag X σ σ'->ROd X (Mx.argsE give σ xs) (Mx.argsE give σ' xs)
 | [],σ,σ',h=>⟨rfl,h⟩
 |x::xs,σ,σ',h=>by
  have h1:=h.argE hX give x
  simp only [Mx.argsE]
  revert h1
  rcases Mx.argE give σ x with _|⟨d,s⟩<;>rcases Mx.argE give σ' x with _|⟨d',s'⟩<;>intro h1<;>simp only [ROd] at h1
  ·trivial
  ·obtain⟨rfl,h1⟩:=h1
   have ih:=Ag.argsE hX give (xs:=xs) h1
   simp only
   revert ih
   rcases Mx.argsE give s xs with _|⟨ds,s2⟩<;>rcases Mx.argsE give s' xs with _|⟨ds',s2'⟩<;>intro ih<;>simp only [ROd] at*
   exact⟨by rw [ih.1],ih.2⟩
end
end Go.Mx
namespace Go.Mx
open Go
section
variable {X:Nat->Prop} {T:Nat->Ty} {C:aj} {σ σ':St}
def fO (X:Nat->Prop) (op:Op):Prop:=∀x∈op.operands.toList,u4 X x
theorem u7 {ty:Ty} (hS:σ'.S=σ.S) (hp: ∀l,ownAt σ' l=ownAt σ l) (d:D):loadAt ty σ' d=loadAt ty σ d:=by
 unfold loadAt
 cases d<;>simp only [hS,hp]
theorem wQ (he:EA X σ.env σ'.env) {op:Op} (ho:fO X op) (g:Bool) (hl: ∀t a d,op= .load t a->bl g (opnd σ.env a)=some d->loadAt (T t) σ' d=loadAt (T t) σ d):aK T C σ' g op=aK T C σ g op:=by
 unfold fO at ho
 cases op<;>try rfl
 case move x=>
  have e1:=he.opnd (ho x (by simp [Op.operands]))
  simp only [aK,e1]
 case nilCheck x=>
  have e1:=he.opnd (ho x (by simp [Op.operands]))
  simp only [aK,e1]
 case pick c a b=>
  have e1:=he.opnd (ho c (by simp [Op.operands]))
  have e2:=he.opnd (ho a (by simp [Op.operands]))
  have e3:=he.opnd (ho b (by simp [Op.operands]))
  simp only [aK,e1,e2,e3]
 case binOp op t a b u=>
  have e1:=he.opnd (ho a (by simp [Op.operands]))
  have e2:=he.opnd (ho b (by simp [Op.operands]))
  simp only [aK,e1,e2]
 case unOp op t x=>
  have e1:=he.opnd (ho x (by simp [Op.operands]))
  cases op<;>simp only [aK,e1]
 case convert s d x=>
  have e1:=he.opnd (ho x (by simp [Op.operands]))
  simp only [aK,e1]
 case fieldAddr t x f=>
  have e1:=he.opnd (ho x (by simp [Op.operands]))
  simp only [aK,e1]
 case field t x f=>
  have e1:=he.opnd (ho x (by simp [Op.operands]))
  simp only [aK,e1]
 case load t x=>
  have e1:=he.opnd (ho x (by simp [Op.operands]))
  simp only [aK,e1]
  cases hf:bl g (opnd σ.env x) with
  |none=>rfl
  |some d=>simp only [hl t x d rfl hf]
 case indexAddr t a b=>
  have e1:=he.opnd (ho a (by simp [Op.operands]))
  have e2:=he.opnd (ho b (by simp [Op.operands]))
  simp only [aK,e1,e2]
 case index t a b=>
  have e1:=he.opnd (ho a (by simp [Op.operands]))
  have e2:=he.opnd (ho b (by simp [Op.operands]))
  simp only [aK,e1,e2]
 case extract t i=>
  have e1:=he.opnd (ho t (by simp [Op.operands]))
  simp only [aK,e1]
 case makeFunc f first caps=>
  have e1:=he.forceAll g (xs:=caps.toList) (fun x hx=>ho x (by simp [Op.operands,Array.mem_toList_iff.1 hx]))
  cases f<;>simp only [aK,e1]
 case slice t x lo hi mx=>
  have e1:=he.opnd (ho x (by simp [Op.operands]))
  have e2:=he.bound g (x:=lo) (fun y hy=>ho y (by simp [Op.operands,hy])) 0
  have e3: ∀n,bound g σ'.env hi n=bound g σ.env hi n:=fun n=>he.bound g (x:=hi) (fun y hy=>ho y (by simp [Op.operands,hy])) n
  have e4: ∀m,mx=some m->bound g σ'.env (some m) 0=bound g σ.env (some m) 0:=fun m hm=>he.bound g (x:=some m) (fun y hy=>ho y (by simp only [Option.some.injEq] at hy;subst hy;simp [Op.operands,hm])) 0
  cases mx with
  |none=>simp only [aK,e1,e2,e3]
  |some m=>simp only [aK,e1,e2,e3,e4 m rfl]
 case call c=>
  have e1:=he.forceAll g (xs:=c.args.toList) (fun x hx=>ho x (by simp only [Op.operands,Call.operands,Array.toList_append,List.mem_append];exact .inr hx))
  have e2: ∀x∈c.args.toList,opnd σ'.env x=opnd σ.env x:=fun x hx=>he.opnd (ho x (by simp only [Op.operands,Call.operands,Array.toList_append,List.mem_append];exact .inr hx))
  simp only [aK,e1]
  split
  ·split
   ·rename_i x t hx ht
    rw [e2 x (by rw [hx];simp)]
   ·rfl
  ·split
   ·rename_i x y hx
    rw [e2 x (by rw [hx];simp),e2 y (by rw [hx];simp)]
   ·rfl
  ·split
   ·rename_i x y hx
    rw [e2 x (by rw [hx];simp),e2 y (by rw [hx];simp)]
   ·rfl
  ·rfl
  ·rfl
theorem Dy (h:Ag X σ σ') {op:Op} (ho:fO X op) (hp: ∀l,ownAt σ' l=ownAt σ l) (g:Bool):aK T C σ' g op=aK T C σ g op:=
 wQ h.env ho g (fun t a d _ _=>u7 h.S hp d)
theorem fX (h:EA X σ.env σ'.env) {o:Oper} (ho:fO X o.op) (g:Bool):aw C σ' g o=aw C σ g o:=by
 unfold aw
 split
 ·rename_i c hc
  rw [hc] at ho
  have e1:=h.forceAll g (xs:=c.args.toList) (fun x hx=>ho x (by simp only [Op.operands,Call.operands,Array.toList_append,List.mem_append];exact .inr hx))
  simp only [e1]
 ·rfl
theorem HM {e e':Env} (h:EA X e e') {ops:List Oper} {j:Nat} (hj: ∀o t,ops[j]? =some o->o.dst=some t-> ¬X t):aD ops e' j=aD ops e j:=by
 unfold aD
 cases ho:ops[j]? with
 |none=>rfl
 |some o=>
  simp only
  cases ht:o.dst with
  |none=>rfl
  |some t=>simp only [h t (hj o t ho ht)]
theorem dQ {e e':Env} (h:EA X e e') {ops:List Oper} {gd:Option (Nat×Bool)} (hj: ∀j b o t,gd=some (j,b)->ops[j]? =some o->o.dst=some t-> ¬X t):aQ ops e' gd=aQ ops e gd:=by
 unfold aQ
 cases gd with
 |none=>rfl
 |some p=>
  obtain⟨j,b⟩:=p
  simp only [HM h (fun o t ho ht=>hj j b o t rfl ho ht)]
theorem wJ {e e':Env} (h:EA X e e') {o:Oper} (ho:fO X o.op):bf T e' o=bf T e o:=by
 unfold bf
 split
 ·rfl
 ·rename_i t n m hop
  rw [hop] at ho
  have e1:=h.opnd (ho n (by simp [Op.operands]))
  have e2:=h.opnd (ho m (by simp [Op.operands]))
  simp only [e1,e2]
 ·rfl
 ·rfl
theorem ROs.cond {a a' b b':Option St} (c:Bool) (h1:ROs X a a') (h2:ROs X b b'):ROs X (bif c then a else b) (bif c then a' else b'):=by
 cases c
 ·exact h2
 ·exact h1
theorem ROs.none:ROs X none none:=trivial
theorem zf {ro mv give:Nat->Bool} (h:Ag X σ σ') {dst:Option Nat} {ot:Nat} {op:Op} (ho:fO X op) (hd:Az X dst) (hX:(∀u,¬X u)∨au op=true∨ ∃t a x,op= .store t a x/\ ∀src sz i off,bl true (opnd σ.env a)≠some (.ep src sz i off)):
  ROs X (aJ T C ro mv give σ dst ot op) (aJ T C ro mv give σ' dst ot op):=by
 unfold fO at ho
 cases op<;>try (simp only [aJ,ROs];done)
 case assign x=>
  have hx:u4 X x:=ho x (by simp [Op.operands])
  have e1:=h.env.opnd hx
  have e2:=fun d=>h.env.offReg hd d
  simp only [aJ,e1,h.S]
  repeat' first|exact ROs.none|apply ROs.cond|split
  all_goals first
   |(subst_vars;exact⟨rfl,(h.env.spend hx).setReg hd _⟩)
   |(subst_vars;refine⟨rfl,?_⟩;simp only [e2];exact h.env.setReg hd _)
 case box t x=>
  have hx:u4 X x:=ho x (by simp [Op.operands])
  have e1:=h.env.opnd hx
  simp only [aJ,e1,h.S]
  repeat' first|exact ROs.none|apply ROs.cond|split
  all_goals (subst_vars;exact⟨rfl,(h.env.spend hx).setReg hd _⟩)
 case alloc t=>
  simp only [aJ,h.S]
  repeat' first|exact ROs.none|apply ROs.cond|split
  all_goals (subst_vars;exact⟨rfl,h.env.setReg hd _⟩)
 case build t parts=>
  have hp:=h.env.takeParts (ps:=parts.toList) (fun x hx=>ho x.2 (by simp only [Op.operands,List.mem_map];exact⟨x,hx,rfl⟩))
  simp only [aJ,h.S]
  revert hp
  rcases takeParts σ.env parts.toList with _|⟨ds,e1⟩<;>rcases takeParts σ'.env parts.toList with _|⟨ds',e1'⟩<;>intro hp<;>simp only [RO] at hp
  ·exact ROs.none
  ·obtain⟨rfl,hp⟩:=hp
   cases dst with
   |none=>exact ROs.none
   |some u=>
    simp only
    repeat' first|exact ROs.none|apply ROs.cond|split
    all_goals exact⟨rfl,hp.setReg hd _⟩
 case buildSlice t n parts=>
  have hp:=h.env.takeParts (ps:=parts.toList) (fun x hx=>ho x.2 (by simp only [Op.operands,List.mem_map];exact⟨x,hx,rfl⟩))
  simp only [aJ,h.S]
  revert hp
  rcases takeParts σ.env parts.toList with _|⟨ds,e1⟩<;>rcases takeParts σ'.env parts.toList with _|⟨ds',e1'⟩<;>intro hp<;>simp only [RO] at hp
  ·exact ROs.none
  ·obtain⟨rfl,hp⟩:=hp
   cases dst with
   |none=>exact ROs.none
   |some u=>
    simp only
    repeat' first|exact ROs.none|apply ROs.cond|split
    all_goals exact⟨rfl,hp.setReg hd _⟩
 case makeSlice t n m=>
  have e1:=h.env.opnd (ho n (by simp [Op.operands]))
  simp only [aJ,e1,h.S]
  repeat' first|exact ROs.none|apply ROs.cond|split
  all_goals (subst_vars;exact⟨rfl,h.env.setReg hd _⟩)
 case convert s t x=>
  have e1:=h.env.opnd (ho x (by simp [Op.operands]))
  simp only [aJ,e1,h.S]
  repeat' first|exact ROs.none|apply ROs.cond|split
  all_goals (subst_vars;exact⟨rfl,h.env.setReg hd _⟩)
 case store t a x=>
  have hx:u4 X x:=ho x (by simp [Op.operands])
  have e1:=h.env.opnd (ho a (by simp [Op.operands]))
  have e2:=h.env.opnd hx
  have hag:Ag X { env:=spend σ.env x,S:=σ.S } { env:=spend σ'.env x,S:=σ.S } :=⟨rfl,h.env.spend hx⟩
  have e3:(∀u,¬X u)-> ∀l,ownAt { env:=spend σ'.env x,S:=σ.S } l=ownAt { env:=spend σ.env x,S:=σ.S } l:=fun hX l=>hag.ownAt hX l
  simp only [aJ,e1,e2,h.S]
  split
  ·repeat' first|exact ROs.none|apply ROs.cond|split
   refine⟨rfl,?_⟩
   simp only
   cases ((List.drop _ _).take _).any bG with
   |true=>exact (h.env.spend hx).kill _
   |false=>exact h.env.spend hx
  ·rename_i src sz i off d ha hd'
   rcases hX with hX|hX|⟨t',a',x',hop,hno⟩
   ·simp only [e3 hX]
    repeat' first|exact ROs.none|apply ROs.cond|split
    exact hag.setOwn _ _ _
   ·simp [au] at hX
   ·simp only [Op.store.injEq] at hop
    obtain⟨rfl,rfl,rfl⟩:=hop
    exact absurd ha (hno _ _ _ _)
  ·exact ROs.none
 case load t a=>
  rcases hX with hX|hX|⟨t',a',x',hop,_⟩
  ·have e1:=h.env.opnd (ho a (by simp [Op.operands]))
   simp only [aJ,e1,h.S]
   repeat' first|exact ROs.none|apply ROs.cond|split
   all_goals (subst_vars;exact⟨rfl,(h.env.kill _).setReg hd _⟩)
  ·simp [au] at hX
  ·simp at hop
 case call c=>
  rcases hX with hX|hX|⟨t',a',x',hop,_⟩
  ·have hX': ∀x,u4 X x:=fun x=>by cases x<;>simp [u4,hX]
   have e0: ∀x,opnd σ'.env x=opnd σ.env x:=fun x=>h.env.opnd (hX' x)
   have e2:=h.argsE hX give (xs:=c.args.toList)
   have e3: ∀l,Mx.spendOk σ' l=Mx.spendOk σ l:=h.spendOk hX
   have e4: ∀t,bI σ'.env t=bI σ.env t:=h.all hX
   simp only [aJ,e0,e3,e4]
   split
   ·repeat' first|exact ROs.none|apply ROs.cond|split
    all_goals first
     |(subst_vars;exact⟨h.S,(h.env.spend (hX' _)).setReg hd _⟩)
     |(subst_vars;exact⟨(h.spendLoc _).S,(h.spendLoc _).env.setReg hd _⟩)
     |(subst_vars;exact⟨h.S,h.env.setReg hd _⟩)
   ·revert e2
    rcases argsE give σ c.args.toList with _|⟨ds,s⟩<;>rcases argsE give σ' c.args.toList with _|⟨ds',s'⟩<;>intro e2<;>simp only [ROd] at e2
    ·exact ROs.none
    ·obtain⟨rfl,e2⟩:=e2
     simp only [e2.S]
     repeat' first|exact ROs.none|apply ROs.cond|split
     rw [(e2.env.kill _).offReg hd]
     exact⟨rfl,(e2.env.kill _).putDst hd _⟩
   ·revert e2
    rcases argsE give σ c.args.toList with _|⟨ds,s⟩<;>rcases argsE give σ' c.args.toList with _|⟨ds',s'⟩<;>intro e2<;>simp only [ROd] at e2
    ·repeat' first|exact ROs.none|apply ROs.cond|split
     all_goals (exfalso;simp_all;done)
    ·obtain⟨rfl,e2⟩:=e2
     rename_i x _
     rcases bl true (bI σ.env x) with _|d
     ·exact ROs.none
     ·cases d<;>try exact ROs.none
      simp only [e2.S]
      repeat' first|exact ROs.none|apply ROs.cond|split
      rw [(e2.env.kill _).offReg hd]
      exact⟨rfl,(e2.env.kill _).putDst hd _⟩
   ·exact ROs.none
  ·simp [au] at hX
  ·simp at hop
end
end Go.Mx
namespace Go.Mx
open Go
theorem Jj {p:Loc->Bool} {d:D} (h:ca d=true):iy p d=d:=by
 cases d<;>simp_all [ca,iy]
theorem dW {p:Loc->Bool} {f:D->Bool} (hf: ∀d,f d=true->iy p d=d): ∀ {cs:List D},cs.all f=true->kt p cs=cs
 | [],_=>by simp only [kt]
 |c::cs,h=>by
  simp only [List.all_cons,Bool.and_eq_true] at h
  simp only [kt,hf c h.1,dW hf h.2]
theorem eq {p:Loc->Bool} {d:D} (h:bL d=true):iy p d=d:=by
 cases d<;>simp_all [bL,iy]
 exact dW (f:=ca) (fun d hd=>Jj hd) (by simpa [List.all_eq_true] using h)
theorem AW {p:Loc->Bool} {d:D} (h:bV d=true):iy p d=d:=by
 cases d with
 |agg cs=>simp only [bV] at h;simp only [iy,dW (fun d hd=>eq hd) h]
 |_=>exact eq (by simpa only [bV] using h)
theorem yW {p:Loc->Bool} {d:D} (h:lP d=true):iy p d=d:=by
 cases d with
 |agg cs=>simp only [lP] at h;simp only [iy,dW (fun d hd=>eq hd) h]
 |tup cs=>simp only [lP] at h;simp only [iy,dW (fun d hd=>AW hd) h]
 |mb g d=>
  simp only [iy]
  congr 1
  cases d with
  |agg cs=>simp only [lP] at h;simp only [iy,dW (fun d hd=>eq hd) h]
  |tup cs=>simp only [lP] at h;simp only [iy,dW (fun d hd=>AW hd) h]
  |_=>exact eq (by simpa only [lP] using h)
 |_=>exact eq (by simpa only [lP] using h)
theorem zR {p:Loc->Bool} {d:D} (h:bo d=true):iy p d=d:=by
 cases d<;>first|rfl|exact eq (by simpa only [bo] using h)|simp only [iy]
theorem AV {p:Loc->Bool} {d:D} (h:ch d=true):iy p d=d:=by
  cases d with
  |agg cs=>simp only [ch] at h;simp only [iy,dW (fun d hd=>zR hd) h]
  |_=>
    simp only [ch] at h
    first
      |(cases hn:bo _ with
         |true=>exact zR hn
         |false=>rw [hn] at h;exact yW h)
theorem Hh {u:Nat} {d:D} (h:cv d=true):iy (bO u) d=d:=by
 unfold cv at h
 split at h
 ·simp [iy,bO]
 ·simp [iy,bO]
 ·exact AV h
theorem gt {p:Loc->Bool} (d:D):aN (iy p d)=aN d:=by
 have cell: ∀c:D,ay (iy p c)=ay c:=by
  intro c
  cases c<;>simp only [iy,ay]
  ·cases p _<;>rfl
  ·cases p _<;>rfl
 cases d with
 |agg cs=>
  simp only [iy,aN,aA]
  congr 1
  induction cs with
  |nil=>simp only [kt]
  |cons c cs ih=>simp only [kt,List.all_cons,cell,ih]
 |al f sz l src=>simp only [iy];cases p src<;>rfl
 |ep src sz i off=>simp only [iy];cases p src<;>rfl
 |_=>simp only [iy]<;>rfl
theorem BY {p:Loc->Bool} {d:D} (h:ca (iy p d)=true):iy p d=d:=by
 cases d with
 |al f sz l src=>simp only [iy] at h;cases hp:p src<;>rw [hp] at h<;>simp [ca] at h
 |ep src sz i off=>simp only [iy] at h;cases hp:p src<;>rw [hp] at h<;>simp [ca] at h
 |_=>first|rfl|(simp only [iy];done)|(simp only [iy,ca] at h;cases h)
theorem eO {p:Loc->Bool} {f:D->Bool} (hf: ∀d,f (iy p d)=true->iy p d=d): ∀ {cs:List D},(kt p cs).all f=true->kt p cs=cs
 | [],_=>by simp only [kt]
 |c::cs,h=>by
  simp only [kt,List.all_cons,Bool.and_eq_true] at h⊢
  rw [hf c h.1,eO hf h.2]
theorem dP {p:Loc->Bool} {d:D} (h:bL (iy p d)=true):iy p d=d:=by
 cases d with
 |clo f cs=>
  simp only [iy,bL] at h⊢
  rw [eO (f:=ca) (fun d hd=>BY hd) h]
 |al f sz l src=>simp only [iy] at h;cases hp:p src<;>rw [hp] at h<;>simp [bL] at h
 |ep src sz i off=>simp only [iy] at h;cases hp:p src<;>rw [hp] at h<;>simp [bL] at h
 |_=>first|rfl|(simp only [iy];done)|(simp only [iy,bL] at h;cases h)
theorem gJ {p:Loc->Bool} {d:D} (h:bV (iy p d)=true):iy p d=d:=by
 cases d with
 |agg cs=>simp only [iy,bV] at h⊢;rw [eO (f:=bL) (fun d hd=>dP hd) h]
 |al f sz l src=>simp only [iy] at h;cases hp:p src<;>rw [hp] at h<;>simp [bV,bL] at h
 |ep src sz i off=>simp only [iy] at h;cases hp:p src<;>rw [hp] at h<;>simp [bV,bL] at h
 |_=>first|rfl|exact dP (by simpa only [iy,bV] using h)
theorem fU {p:Loc->Bool} {d:D} (h:lP (iy p d)=true):iy p d=d:=by
 have base: ∀d:D,(∀cs,d≠ .agg cs)->(∀cs,d≠ .tup cs)->(∀g c,d≠ .mb g c)->lP (iy p d)=bL (iy p d):=by
  intro d h1 h2 h3
  cases d<;>first|rfl|(simp only [iy];rfl)|(exfalso;first|exact h1 _ rfl|exact h2 _ rfl|exact h3 _ _ rfl)|(simp only [iy];cases p _<;>rfl)
 cases d with
 |agg cs=>simp only [iy,lP] at h⊢;rw [eO (f:=bL) (fun d hd=>dP hd) h]
 |tup cs=>simp only [iy,lP] at h⊢;rw [eO (f:=bV) (fun d hd=>gJ hd) h]
 |mb g d=>
  simp only [iy] at h⊢
  congr 1
  cases d with
  |agg cs=>simp only [iy,lP] at h⊢;rw [eO (f:=bL) (fun d hd=>dP hd) h]
  |tup cs=>simp only [iy,lP] at h⊢;rw [eO (f:=bV) (fun d hd=>gJ hd) h]
  |al f sz l src=>simp only [iy] at h;cases hp:p src<;>rw [hp] at h<;>simp [lP,bL] at h
  |ep src sz i off=>simp only [iy] at h;cases hp:p src<;>rw [hp] at h<;>simp [lP,bL] at h
  |_=>first|rfl|exact dP (by simpa only [iy,lP] using h)
 |_=>exact dP (by rw [<-base _ (by simp) (by simp) (by simp)];exact h)
structure cQ (Y:Nat->Prop) (dst:Option Nat) (e e':Env):Prop where
 p1: ∀v,dst≠some v->cv (bI e v)=true->aN (bI e v)=false->bI e' v=bI e v
 p2: ∀v,dst≠some v->lP (bI e' v)=true->bI e' v=bI e v
 p3: ∀v,dst≠some v-> ¬Y v->aN (bI e' v)=aN (bI e v)
 p5: ∀v,dst≠some v-> ¬Y v->bG (bI e v)=true->bI e' v=bI e v
section
variable {Y:Nat->Prop} {dst:Option Nat} {e e' e'':Env}
theorem AF {p:Loc->Bool} {d:D} (h:bG d=true):iy p d=d:=by
 cases d<;>first|rfl|simp [bG] at h
theorem cQ.refl:cQ Y dst e e:=⟨fun _ _ _ _=>rfl,fun _ _ _=>rfl,fun _ _ _=>rfl,fun _ _ _ _=>rfl⟩
theorem cQ.trans (a:cQ Y dst e e') (b:cQ Y dst e' e''):cQ Y dst e e'' where
 p1 v hv hi ho:=by
  have h1:=a.p1 v hv hi ho
  rw [b.p1 v hv (by rw [h1];exact hi) (by rw [h1];exact ho),h1]
 p2 v hv hc:=by
  have h1:=b.p2 v hv hc
  rw [h1,a.p2 v hv (by rw [<-h1];exact hc)]
 p3 v hv hy:=by rw [b.p3 v hv hy,a.p3 v hv hy]
 p5 v hv hy ho:=by
  have h1:=a.p5 v hv hy ho
  rw [b.p5 v hv hy (by rw [h1];exact ho),h1]
theorem cQ.kill (u:Nat):cQ Y dst e (Mx.kill (bO u) e) where
 p1 v hv hi ho:=by rw [cU,Hh hi]
 p2 v hv hc:=by rw [cU] at hc⊢;exact fU hc
 p3 v hv hy:=by rw [cU,gt]
 p5 v hv hy ho:=by rw [cU,AF ho]
theorem cQ.spend {x:Operand} (hx: ∀u,x= .tmp u->Y u):cQ Y dst e (Mx.spend e x):=by
 unfold Mx.spend
 cases x with
 |tmp u=>
  simp only
  cases ho:aN (bI e u) with
  |false=>exact cQ.refl
  |true=>
   simp only [cond_true]
   refine⟨fun v hv hi hv2=>?_,fun v hv hc=>?_,fun v hv hy=>?_,fun v hv hy ho2=>?_⟩
   ·rw [cJ]
    split
    ·rename_i h;subst h;rw [ho] at hv2;cases hv2
    ·rw [cU,Hh hi]
   ·rw [cJ] at hc⊢
    split
    ·rename_i h;rw [if_pos h] at hc;cases hc
    ·rename_i h;rw [if_neg h,cU] at hc;rw [cU];exact fU hc
   ·rw [cJ]
    split
    ·rename_i h;exact absurd (hx u rfl) (h▸hy)
    ·rw [cU,gt]
   ·rw [cJ]
    split
    ·rename_i h;exact absurd (hx u rfl) (h▸hy)
    ·rw [cU,AF ho2]
 |_=>exact cQ.refl
theorem cQ.setReg {u:Nat} {d:D} :cQ Y (some u) e (Mx.setReg e u d):=by
 unfold Mx.setReg
 have h1:cQ Y (some u) e (bif aN (bI e u) then Mx.kill (bO u) e else e):=by
  cases aN (bI e u) with
  |true=>exact cQ.kill u
  |false=>exact cQ.refl
 refine h1.trans ⟨fun v hv _ _=>?_,fun v hv _=>?_,fun v hv _=>?_,fun v hv _ _=>?_⟩
 all_goals (rw [cJ,if_neg (fun h=>hv (by rw [h]))])
theorem cQ.putDst {d:D} :cQ Y dst e (Mx.putDst e dst d):=by
 unfold Mx.putDst
 cases dst with
 |none=>exact cQ.refl
 |some t=>exact cQ.setReg
theorem cQ.takeParts: ∀ {ps:List (Nat×Operand)} {e e':Env} {ds},(∀x∈ps,∀u,x.2= .tmp u->Y u)->Mx.takeParts e ps=some (ds,e')->cQ Y dst e e'
 | [],e,e',ds,_,h=>by
  simp only [Mx.takeParts,Option.some.injEq,Prod.mk.injEq] at h
  rw [h.2];exact cQ.refl
 |(i,x)::r,e,e',ds,hx,h=>by
  simp only [Mx.takeParts] at h
  split at h
  ·rename_i d _
   cases hv:bD d with
   |false=>rw [hv] at h;cases h
   |true=>
    rw [hv,cond_true] at h
    split at h
    ·rename_i s e1 heq
     simp only [Option.some.injEq,Prod.mk.injEq] at h
     rw [<-h.2]
     exact (cQ.spend (hx (i,x) List.mem_cons_self)).trans (cQ.takeParts (fun y hy=>hx y (List.mem_cons_of_mem _ hy)) heq)
    ·cases h
  ·cases h
end
end Go.Mx
namespace Go.Mx
open Go
section
variable {T:Nat->Ty} {C:aj} {ν:cL} {ops:List Oper} {o o1 o2:Oper} {σ σ' σ1 σ2:St} {g:Bool} {d:D} {t:Nat}
def eB (ops:List Oper) (o:Oper) (u:Nat):Prop:=(.tmp u)∈o.op.operands.toList∨ ∃j b p,o.guard=some (j,b)/\ops[j]? =some p/\p.dst=some u
structure dT (T:Nat->Ty) (C:aj) (ν:cL) (ops:List Oper) (o:Oper) (σ:St) (g:Bool) (d:D) (t:Nat):Prop where
 gd:aQ ops σ.env o.guard=some g
 nw:be T ν o=false
 cf:aw C σ g o=false
 gx:Mx.gx g o.guard.isNone (aK T C σ g o.op)=some d
 dst:o.dst=some t
 fresh:aN (bI σ.env t)=false
theorem dT.step (h:dT T C ν ops o σ g d t):cP T C ν ops o σ=some { σ with env:=put σ.env t d } :=by
 unfold cP
 simp only [h.gd,h.nw,cond_false,h.cf,h.gx,h.dst,putDst,offReg,h.fresh,setReg]
theorem dT.kind (h:dT T C ν ops o σ g d t):cI T C ν ops o σ= .still (o.op.operands.toList.all (aY σ.env)) (aN d||tW (aL T σ g o.op) d) (aL T σ g o.op) (br d) (lP d):=by
 unfold cI
 simp only [h.gd,h.nw,cond_false,h.gx,h.dst,aI,h.fresh]
theorem eX {c w r m k} (hs:cP T C ν ops o σ=some σ1) (hk:cI T C ν ops o σ= .still c w r m k): ∃g d t,dT T C ν ops o σ g d t/\σ1= { σ with env:=put σ.env t d } :=by
 unfold cI at hk
 split at hk
 ·cases hk
 ·rename_i g hg
  cases hw:be T ν o with
  |true=>
   rw [hw,cond_true] at hk
   cases g with
   |true=>
    simp only [cond_true] at hk
    exfalso
    revert hk
    unfold bM
    repeat' split
    all_goals first
     |(intro hk;cases hk;done)
     |(intro hk;revert hk;cases _:au _<;>simp only [cond_true,cond_false]<;>first|(intro hk;cases hk;done)|(generalize bN _ _=q;cases q<;>intro hk<;>cases hk);done)
     |(intro hk;revert hk;generalize List.any _ _=q;cases q<;>intro hk<;>cases hk;done)
   |false=>simp only [cond_false,reduceCtorEq] at hk
  |false=>
   rw [hw,cond_false] at hk
   split at hk
   ·rename_i d hd
    cases hdst:o.dst with
    |none=>rw [hdst] at hk;simp only [aI,cond_true,reduceCtorEq] at hk
    |some t=>
     rw [hdst] at hk
     simp only [aI] at hk
     cases hf:aN (bI σ.env t) with
     |true=>rw [hf] at hk;simp only [cond_true,reduceCtorEq] at hk
     |false=>
      cases hcf:aw C σ g o with
      |true=>unfold cP at hs;simp only [hg,hw,cond_false,hcf,cond_true,reduceCtorEq] at hs
      |false=>
       have S:dT T C ν ops o σ g d t:=⟨hg,hw,hcf,hd,hdst,hf⟩
       refine⟨g,d,t,S,?_⟩
       rw [S.step] at hs
       exact (Option.some.inj hs).symm
   ·revert hk
    generalize (g&&bN σ.env o.op)=q
    cases q<;>intro hk<;>cases hk
theorem eh {g:Bool} (hg:aQ ops σ.env o.guard=some g) {u:Nat} (hu: ∃j b p,o.guard=some (j,b)/\ops[j]? =some p/\p.dst=some u):lP (bI σ.env u)=true/\aN (bI σ.env u)=false:=by
 obtain⟨j,b,p,h1,h2,h3⟩:=hu
 rw [h1] at hg
 simp only [aQ,aD,h2,h3] at hg
 revert hg
 cases hl:bI σ.env u with
 |v x=>intro _;exact⟨rfl,rfl⟩
 |undef=>intro _;exact⟨rfl,rfl⟩
 |mb q d=>
  intro hg
  cases d with
  |v x=>exact⟨rfl,rfl⟩
  |_=>simp at hg
 |_=>intro hg;simp at hg
theorem dT.move {g:Bool} {d:D} {t:Nat} (h:dT T C ν ops o σ g d t) (hl: ∀u,eB ops o u->bI σ'.env u=bI σ.env u) (hf:aN (bI σ'.env t)=false)
  (hld: ∀t a d,o.op= .load t a->bl g (opnd σ.env a)=some d->loadAt (T t) σ' d=loadAt (T t) σ d):dT T C ν ops o σ' g d t/\cI T C ν ops o σ'=cI T C ν ops o σ:=by
 have he:EA (fun u=>¬eB ops o u) σ.env σ'.env:=fun u hu=>hl u (Classical.not_not.1 hu)
 have ho:fO (fun u=>¬eB ops o u) o.op:=by
  intro x hx
  cases x with
  |tmp u=>exact fun hn=>hn (.inl hx)
  |_=>trivial
 have S:dT T C ν ops o σ' g d t:=by
  refine⟨?_,h.nw,?_,?_,h.dst,hf⟩
  ·rw [dQ he (fun j b p t h1 h2 h3 hn=>hn (.inr ⟨j,b,p,h1,h2,h3⟩))];exact h.gd
  ·rw [fX he ho];exact h.cf
  ·rw [wQ he ho g hld];exact h.gx
 refine⟨S,?_⟩
 rw [S.kind,h.kind]
 have e1:o.op.operands.toList.all (aY σ'.env)=o.op.operands.toList.all (aY σ.env):=by
  have: ∀x∈o.op.operands.toList,aY σ'.env x=aY σ.env x:=by
   intro x hx
   cases x with
   |tmp u=>simp only [aY];rw [hl u (.inl hx)]
   |_=>rfl
  rw [Bool.eq_iff_iff,List.all_eq_true,List.all_eq_true]
  exact⟨fun q x hx=>by rw [<-this x hx];exact q x hx,fun q x hx=>by rw [this x hx];exact q x hx⟩
 have e2:aL T σ' g o.op=aL T σ g o.op:=by
  unfold aL
  split
  ·rename_i t a hop
   have:opnd σ'.env a=opnd σ.env a:=he.opnd (by
    have:=ho a (by rw [hop];simp [Op.operands]);exact this)
   rw [this]
  ·rfl
 rw [e1,e2]
structure ru (ops:List Oper) (o1 o2:Oper):Prop where
 a: ∀t,o1.dst=some t-> ¬eB ops o2 t
 b: ∀t,o2.dst=some t-> ¬eB ops o1 t
 c: ∀t,o1.dst=some t->o2.dst≠some t
theorem fm {ty:Ty} {d:D} (hS:σ'.S=σ.S) (hd: ∀src sz i off,d≠ .ep src sz i off):loadAt ty σ' d=loadAt ty σ d:=by
 unfold loadAt
 cases d<;>simp only [hS]
 exact absurd rfl (hd _ _ _ _)
theorem er {e:Env} {x:Operand} {d':D} (hc:aY e x=true) (hf:bl g (opnd e x)=some d'): ∀src sz i off,d'≠ .ep src sz i off:=by
 have key: ∀d:D,(∀src sz i off,d≠ .ep src sz i off)->(∀q src sz i off,d≠ .mb q (.ep src sz i off))->bl g d=some d'-> ∀src sz i off,d'≠ .ep src sz i off:=by
  intro d h1 h2 hf src sz i off he
  subst he
  unfold bl at hf
  split at hf
  ·rename_i q c
   cases hb:(!g||q) with
   |false=>rw [hb] at hf;cases hf
   |true=>
    rw [hb,cond_true] at hf
    cases ho:aA c with
    |false=>rw [ho] at hf;cases hf
    |true=>
     rw [ho,cond_true] at hf
     unfold bQ at hf
     split at hf<;>first|cases hf;done|skip
     simp only [Option.some.injEq] at hf
     exact h2 _ _ _ _ _ (by rw [hf])
  ·unfold bQ at hf
   split at hf<;>first|cases hf;done|skip
   simp only [Option.some.injEq] at hf
   exact h1 _ _ _ _ hf
 refine key _ ?_ ?_ hf
 ·intro src sz i off he
  cases x with
  |tmp u=>simp only [opnd] at he;simp only [aY,he,lP,bL] at hc;cases hc
  |const v=>
   simp only [opnd] at he
   unfold ofConst at he
   split at he
   ·cases he
   ·unfold ofCell at he;split at he<;>cases he
  |_=>simp only [opnd] at he;cases he
 ·intro q src sz i off he
  cases x with
  |tmp u=>simp only [opnd] at he;simp only [aY,he,lP,bL] at hc;cases hc
  |const v=>
   simp only [opnd] at he
   unfold ofConst at he
   split at he
   ·cases he
   ·unfold ofCell at he;split at he<;>cases he
  |_=>simp only [opnd] at he;cases he
def E0 (σ σ':St):Prop:=Ag (fun _=>False) σ σ'
theorem wU {t:Nat} {d:D} (h1:aN (bI σ.env t)=false) (h2:aN d=false) (l:Loc):ownAt { σ with env:=put σ.env t d } l=ownAt σ l:=by
 unfold ownAt
 cases l with
 |reg u j=>
  simp only [cJ]
  by_cases h:t=u
  ·subst h
   rw [if_pos rfl]
   revert h1 h2
   cases d<;>cases bI σ.env t<;>intro h1 h2<;>first|rfl|(simp [aN,aA] at h1;done)|(simp [aN,aA] at h2;done)
  ·rw [if_neg h]
 |_=>rfl
theorem xX {t1 t2:Nat} {d1 d2:D} (hne:t1≠t2) (e:Env) (u:Nat):bI (put (put e t2 d2) t1 d1) u=bI (put (put e t1 d1) t2 d2) u:=by
 simp only [cJ]
 by_cases h1:t1=u
 ·by_cases h2:t2=u
  ·exact absurd (h1.trans h2.symm) hne
  ·rw [if_pos h1,if_neg h2,if_pos h1]
 ·rw [if_neg h1,if_neg h1]
theorem P3 {g1 g2:Bool} {d1 d2:D} {t1 t2:Nat} (h1:dT T C ν ops o1 σ g1 d1 t1) (h2:dT T C ν ops o2 { σ with env:=put σ.env t1 d1 } g2 d2 t2) (ap:ru ops o1 o2)
  (c2:aN d1=false∨o2.op.operands.toList.all (aY (put σ.env t1 d1))=true) (c1:aN d2=false∨o1.op.operands.toList.all (aY σ.env)=true):
  dT T C ν ops o2 σ g2 d2 t2/\dT T C ν ops o1 { σ with env:=put σ.env t2 d2 } g1 d1 t1/\cI T C ν ops o2 σ=cI T C ν ops o2 { σ with env:=put σ.env t1 d1 } /\cI T C ν ops o1 { σ with env:=put σ.env t2 d2 } =cI T C ν ops o1 σ:=by
 have hne:t1≠t2:=fun h=>ap.c t1 h1.dst (by rw [h,h2.dst])
 have fr2:aN (bI σ.env t2)=false:=by
  have:=h2.fresh
  simp only [cJ,if_neg hne] at this
  exact this
 have m2:=h2.move (σ':=σ) (fun u hu=>by
   simp only [cJ]
   have:t1≠u:=fun h=>ap.a t1 h1.dst (by rw [h];exact hu)
   rw [if_neg this]) fr2 (fun t a d hop hf=>by
   rcases c2 with hn|hc
   ·exact (u7 (σ:=σ) (σ':={ σ with env:=put σ.env t1 d1 }) rfl (fun l=>wU h1.fresh hn l) d).symm
   ·exact fm rfl (er (List.all_eq_true.1 hc a (by rw [hop];simp [Op.operands])) hf))
 have m1:=h1.move (σ':={ σ with env:=put σ.env t2 d2 }) (fun u hu=>by
   simp only [cJ]
   have:t2≠u:=fun h=>ap.b t2 h2.dst (by rw [h];exact hu)
   rw [if_neg this]) (by simp only [cJ];rw [if_neg (Ne.symm hne)];exact h1.fresh) (fun t a d hop hf=>by
   rcases c1 with hn|hc
   ·exact u7 (σ:=σ) (σ':={ σ with env:=put σ.env t2 d2 }) rfl (fun l=>wU fr2 hn l) d
   ·exact fm rfl (er (List.all_eq_true.1 hc a (by rw [hop];simp [Op.operands])) hf))
 exact⟨m2.1,m1.1,m2.2,m1.2⟩
def gk (S S':bH):Option (Nat×Nat×Nat)->Prop
 |none=>S'=S∨ ∃c,S'=S++ [c]
 |some (a,off,l)=>∃cs ds,S[a]? =some cs/\ds.length=l/\S'=S.set a (setCells cs off ds)
structure qc3 (T:Nat->Ty) (C:aj) (ν:cL) (ops:List Oper) (o:Oper) (σ:St) (wr:Option (Nat×Nat×Nat)) (σ':St):Prop where
 step:cP T C ν ops o σ=some σ'
 quiet:cQ (eB ops o) o.dst σ.env σ'.env
 mem:gk σ.S σ'.S wr
theorem eA {wr:Option (Nat×Nat×Nat)} {n:Nat} (hs:cP T C ν ops o σ=some σ') (hk:cI T C ν ops o σ= .work wr n):qc3 T C ν ops o σ wr σ'/\n=σ.S.length/\be T ν o=true/\
  (aQ ops σ.env o.guard=some true->au o.op=true∨ ∃t a x,o.op= .store t a x/\ ∀src sz i off,bl true (opnd σ.env a)≠some (.ep src sz i off)):=by
 unfold cI at hk
 split at hk
 ·cases hk
 ·rename_i g hg
  cases hw:be T ν o with
  |false=>
   rw [hw,cond_false] at hk
   split at hk
   ·cases hod:aI σ.env o.dst<;>rw [hod] at hk<;>simp at hk
   ·revert hk
    generalize (g&&bN σ.env o.op)=q
    cases q<;>intro hk<;>cases hk
  |true=>
   rw [hw,cond_true] at hk
   have hs':=hs
   unfold cP at hs'
   simp only [hg,hw,cond_true] at hs'
   cases g with
   |false=>
    simp only [cond_false,Kd.work.injEq] at hk
    obtain⟨rfl,rfl⟩:=hk
    simp only [cond_false,Option.some.injEq] at hs'
    subst hs'
    exact⟨⟨hs,cQ.putDst,.inl rfl⟩,rfl,rfl,fun h=>by rw [hg] at h;cases h⟩
   |true=>
    simp only [cond_true] at hk hs'
    cases hwk:bf T σ.env o with
    |false=>rw [hwk] at hs';cases hs'
    |true=>
     rw [hwk,cond_true] at hs'
     have hY: ∀x,x∈o.op.operands.toList-> ∀u,x= .tmp u->eB ops o u:=fun x hx u hu=>.inl (hu▸hx)
     cases hop:o.op<;>rw [hop] at hk hs' hY<;>try (first|(simp only [bM,au,bN,cond_false,reduceCtorEq] at hk;done)|(exfalso;revert hk;simp only [bM,au,cond_false];generalize bN _ _=q;cases q<;>intro hk<;>cases hk;done))
     case store t a x=>
      have hdst:o.dst=none:=by
       unfold bf at hwk
       rw [hop] at hwk
       simpa using hwk
      unfold bM at hk
      split at hk<;>first|(rename_i h1;cases h1;done)|skip
      ·rename_i t' a' x' heq
       simp only [Op.store.injEq] at heq
       obtain⟨rfl,rfl,rfl⟩:=heq
       split at hk
       ·rename_i b off ha
        split at hk
        ·rename_i cs hcs
         cases hany:((cs.drop off).take (T t).size).any bG with
         |true=>rw [hany] at hk;cases hk
         |false=>
          rw [hany] at hk
          simp only [cond_false,Kd.work.injEq] at hk
          obtain⟨rfl,rfl⟩:=hk
          simp only [aJ,ha,Bool.cond_eq_ite] at hs'
          split at hs'<;>first|(cases hs';done)|skip
          ·rename_i b' off' d hb' hx
           simp only [Option.some.injEq,D.ptr.injEq] at hb'
           obtain⟨rfl,rfl⟩:=hb'
           split at hs'<;>first|(cases hs';done)|skip
           rename_i d' hfit
           rw [hcs] at hs'
           simp only at hs'
           split at hs'<;>first|(cases hs';done)|skip
           rename_i hc
           simp only [Bool.and_eq_true,decide_eq_true_eq,beq_iff_eq] at hc
           obtain⟨⟨⟨c1,c2⟩,c3⟩,c4⟩:=hc
           simp only [c3,hany,Bool.false_eq_true,if_false,Option.some.injEq] at hs'
           subst hs'
           refine⟨⟨hs,cQ.spend (hY x (by simp [Op.operands])),⟨cs,cellsOf d',hcs,c3,rfl⟩⟩,rfl,rfl,fun _=>.inr ⟨t,a,x,rfl,fun src sz i off h=>by rw [ha] at h;cases h⟩⟩
          ·rename_i h1 h2
           cases h1
        ·cases hk
       ·cases hk
      ·rename_i op hne
       exact absurd rfl (hne _ _ _)
     case assign x=>
      simp only [bM,au,cond_true,Kd.work.injEq] at hk
      obtain⟨rfl,rfl⟩:=hk
      cases hdst:o.dst with
      |none=>
       exfalso
       rw [hdst] at hs'
       simp only [aJ,Bool.cond_eq_ite] at hs'
       repeat' (first|(cases hs';done)|split at hs')
       all_goals (simp_all;done)
      |some u=>
       rw [hdst] at hs'
       simp only [aJ,Bool.cond_eq_ite] at hs'
       repeat' (first|(cases hs';done)|split at hs')
       all_goals first
        |(simp only [Option.some.injEq] at*;subst_vars;exact⟨⟨hs,by rw [hdst];exact (cQ.spend (hY x (by simp [Op.operands]))).trans cQ.setReg,.inl rfl⟩,by first|rfl|trivial,by first|rfl|trivial,fun _=>.inl (by first|rfl|trivial)⟩)
        |(simp only [Option.some.injEq] at*;subst_vars;exact⟨⟨hs,by rw [hdst];exact cQ.setReg,.inl rfl⟩,by first|rfl|trivial,by first|rfl|trivial,fun _=>.inl (by first|rfl|trivial)⟩)
        |(simp only [Option.some.injEq] at*;subst_vars;exact⟨⟨hs,by rw [hdst];exact (cQ.spend (hY x (by simp [Op.operands]))).trans cQ.setReg,.inr ⟨_,rfl⟩⟩,by first|rfl|trivial,by first|rfl|trivial,fun _=>.inl (by first|rfl|trivial)⟩)
     case box t x=>
      simp only [bM,au,cond_true,Kd.work.injEq] at hk
      obtain⟨rfl,rfl⟩:=hk
      cases hdst:o.dst with
      |none=>
       exfalso
       rw [hdst] at hs'
       simp only [aJ,Bool.cond_eq_ite] at hs'
       repeat' (first|(cases hs';done)|split at hs')
       all_goals (simp_all;done)
      |some u=>
       rw [hdst] at hs'
       simp only [aJ,Bool.cond_eq_ite] at hs'
       repeat' (first|(cases hs';done)|split at hs')
       all_goals first
        |(simp only [Option.some.injEq] at*;subst_vars;exact⟨⟨hs,by rw [hdst];exact (cQ.spend (hY x (by simp [Op.operands]))).trans cQ.setReg,.inl rfl⟩,by first|rfl|trivial,by first|rfl|trivial,fun _=>.inl (by first|rfl|trivial)⟩)
        |(simp only [Option.some.injEq] at*;subst_vars;exact⟨⟨hs,by rw [hdst];exact cQ.setReg,.inl rfl⟩,by first|rfl|trivial,by first|rfl|trivial,fun _=>.inl (by first|rfl|trivial)⟩)
        |(simp only [Option.some.injEq] at*;subst_vars;exact⟨⟨hs,by rw [hdst];exact (cQ.spend (hY x (by simp [Op.operands]))).trans cQ.setReg,.inr ⟨_,rfl⟩⟩,by first|rfl|trivial,by first|rfl|trivial,fun _=>.inl (by first|rfl|trivial)⟩)
     case alloc t=>
      simp only [bM,au,cond_true,Kd.work.injEq] at hk
      obtain⟨rfl,rfl⟩:=hk
      cases hdst:o.dst with
      |none=>
       exfalso
       rw [hdst] at hs'
       simp only [aJ,Bool.cond_eq_ite] at hs'
       repeat' (first|(cases hs';done)|split at hs')
       all_goals (simp_all;done)
      |some u=>
       rw [hdst] at hs'
       simp only [aJ,Bool.cond_eq_ite] at hs'
       repeat' (first|(cases hs';done)|split at hs')
       all_goals first
        |(simp only [Option.some.injEq] at*;subst_vars;exact⟨⟨hs,by rw [hdst];exact cQ.setReg,.inl rfl⟩,by first|rfl|trivial,by first|rfl|trivial,fun _=>.inl (by first|rfl|trivial)⟩)
        |(simp only [Option.some.injEq] at*;subst_vars;exact⟨⟨hs,by rw [hdst];exact cQ.setReg,.inl rfl⟩,by first|rfl|trivial,by first|rfl|trivial,fun _=>.inl (by first|rfl|trivial)⟩)
        |(simp only [Option.some.injEq] at*;subst_vars;exact⟨⟨hs,by rw [hdst];exact cQ.setReg,.inr ⟨_,rfl⟩⟩,by first|rfl|trivial,by first|rfl|trivial,fun _=>.inl (by first|rfl|trivial)⟩)
     case makeSlice t n m=>
      simp only [bM,au,cond_true,Kd.work.injEq] at hk
      obtain⟨rfl,rfl⟩:=hk
      cases hdst:o.dst with
      |none=>
       exfalso
       rw [hdst] at hs'
       simp only [aJ,Bool.cond_eq_ite] at hs'
       repeat' (first|(cases hs';done)|split at hs')
       all_goals (simp_all;done)
      |some u=>
       rw [hdst] at hs'
       simp only [aJ,Bool.cond_eq_ite] at hs'
       repeat' (first|(cases hs';done)|split at hs')
       all_goals first
        |(simp only [Option.some.injEq] at*;subst_vars;exact⟨⟨hs,by rw [hdst];exact cQ.setReg,.inl rfl⟩,by first|rfl|trivial,by first|rfl|trivial,fun _=>.inl (by first|rfl|trivial)⟩)
        |(simp only [Option.some.injEq] at*;subst_vars;exact⟨⟨hs,by rw [hdst];exact cQ.setReg,.inl rfl⟩,by first|rfl|trivial,by first|rfl|trivial,fun _=>.inl (by first|rfl|trivial)⟩)
        |(simp only [Option.some.injEq] at*;subst_vars;exact⟨⟨hs,by rw [hdst];exact cQ.setReg,.inr ⟨_,rfl⟩⟩,by first|rfl|trivial,by first|rfl|trivial,fun _=>.inl (by first|rfl|trivial)⟩)
     case convert q t x=>
      simp only [bM,au,cond_true,Kd.work.injEq] at hk
      obtain⟨rfl,rfl⟩:=hk
      cases hdst:o.dst with
      |none=>
       exfalso
       rw [hdst] at hs'
       simp only [aJ,Bool.cond_eq_ite] at hs'
       repeat' (first|(cases hs';done)|split at hs')
       all_goals (simp_all;done)
      |some u=>
       rw [hdst] at hs'
       simp only [aJ,Bool.cond_eq_ite] at hs'
       repeat' (first|(cases hs';done)|split at hs')
       all_goals first
        |(simp only [Option.some.injEq] at*;subst_vars;exact⟨⟨hs,by rw [hdst];exact cQ.setReg,.inl rfl⟩,by first|rfl|trivial,by first|rfl|trivial,fun _=>.inl (by first|rfl|trivial)⟩)
        |(simp only [Option.some.injEq] at*;subst_vars;exact⟨⟨hs,by rw [hdst];exact cQ.setReg,.inl rfl⟩,by first|rfl|trivial,by first|rfl|trivial,fun _=>.inl (by first|rfl|trivial)⟩)
        |(simp only [Option.some.injEq] at*;subst_vars;exact⟨⟨hs,by rw [hdst];exact cQ.setReg,.inr ⟨_,rfl⟩⟩,by first|rfl|trivial,by first|rfl|trivial,fun _=>.inl (by first|rfl|trivial)⟩)
     case build t parts=>
      simp only [bM,au,cond_true,Kd.work.injEq] at hk
      obtain⟨rfl,rfl⟩:=hk
      cases hdst:o.dst with
      |none=>
       exfalso
       rw [hdst] at hs'
       simp only [aJ,Bool.cond_eq_ite] at hs'
       repeat' (first|(cases hs';done)|split at hs')
       all_goals (simp_all;done)
      |some u=>
       rw [hdst] at hs'
       simp only [aJ,Bool.cond_eq_ite] at hs'
       repeat' (first|(cases hs';done)|split at hs')
       all_goals first
        |(simp only [Option.some.injEq] at*;subst_vars;exact⟨⟨hs,by rw [hdst];exact (cQ.takeParts (fun x hx=>hY x.2 (by simp only [Op.operands,List.mem_map];exact⟨x,hx,rfl⟩)) (by assumption)).trans cQ.setReg,.inl rfl⟩,by first|rfl|trivial,by first|rfl|trivial,fun _=>.inl (by first|rfl|trivial)⟩)
        |(simp only [Option.some.injEq] at*;subst_vars;exact⟨⟨hs,by rw [hdst];exact cQ.setReg,.inl rfl⟩,by first|rfl|trivial,by first|rfl|trivial,fun _=>.inl (by first|rfl|trivial)⟩)
        |(simp only [Option.some.injEq] at*;subst_vars;exact⟨⟨hs,by rw [hdst];exact (cQ.takeParts (fun x hx=>hY x.2 (by simp only [Op.operands,List.mem_map];exact⟨x,hx,rfl⟩)) (by assumption)).trans cQ.setReg,.inr ⟨_,rfl⟩⟩,by first|rfl|trivial,by first|rfl|trivial,fun _=>.inl (by first|rfl|trivial)⟩)
     case buildSlice t n parts=>
      simp only [bM,au,cond_true,Kd.work.injEq] at hk
      obtain⟨rfl,rfl⟩:=hk
      cases hdst:o.dst with
      |none=>
       exfalso
       rw [hdst] at hs'
       simp only [aJ,Bool.cond_eq_ite] at hs'
       repeat' (first|(cases hs';done)|split at hs')
       all_goals (simp_all;done)
      |some u=>
       rw [hdst] at hs'
       simp only [aJ,Bool.cond_eq_ite] at hs'
       repeat' (first|(cases hs';done)|split at hs')
       all_goals first
        |(simp only [Option.some.injEq] at*;subst_vars;exact⟨⟨hs,by rw [hdst];exact (cQ.takeParts (fun x hx=>hY x.2 (by simp only [Op.operands,List.mem_map];exact⟨x,hx,rfl⟩)) (by assumption)).trans cQ.setReg,.inl rfl⟩,by first|rfl|trivial,by first|rfl|trivial,fun _=>.inl (by first|rfl|trivial)⟩)
        |(simp only [Option.some.injEq] at*;subst_vars;exact⟨⟨hs,by rw [hdst];exact cQ.setReg,.inl rfl⟩,by first|rfl|trivial,by first|rfl|trivial,fun _=>.inl (by first|rfl|trivial)⟩)
        |(simp only [Option.some.injEq] at*;subst_vars;exact⟨⟨hs,by rw [hdst];exact (cQ.takeParts (fun x hx=>hY x.2 (by simp only [Op.operands,List.mem_map];exact⟨x,hx,rfl⟩)) (by assumption)).trans cQ.setReg,.inr ⟨_,rfl⟩⟩,by first|rfl|trivial,by first|rfl|trivial,fun _=>.inl (by first|rfl|trivial)⟩)
end
end Go.Mx
namespace Go.Mx
open Go
section
variable {T:Nat->Ty} {C:aj} {ν:cL} {ops:List Oper} {o o1 o2:Oper} {σ σ' σ1 σ2:St} {g:Bool} {d:D} {t:Nat} {X:Nat->Prop} {wr:Option (Nat×Nat×Nat)} {n:Nat}
theorem yB {e e':Env} (he:EA X e e') {op:Op} (ho:fO X op):bN e' op=bN e op:=by
 unfold bN
 split
 ·rename_i c
  have hin: ∀x∈c.args.toList,u4 X x:=fun x hx=>ho x (by simp only [Op.operands,Call.operands,Array.toList_append,List.mem_append];exact .inr hx)
  have hcalm:c.args.toList.all (aY e')=c.args.toList.all (aY e):=by
   have: ∀x∈c.args.toList,aY e' x=aY e x:=by
    intro x hx
    cases x with
    |tmp u=>simp only [aY];rw [he u (hin _ hx)]
    |_=>rfl
   rw [Bool.eq_iff_iff,List.all_eq_true,List.all_eq_true]
   exact⟨fun q x hx=>by rw [<-this x hx];exact q x hx,fun q x hx=>by rw [this x hx];exact q x hx⟩
  split
  ·split
   ·rename_i x xs hargs
    rw [he.opnd (hin x (by rw [hargs];simp))]
   ·rfl
  ·exact hcalm
  ·rename_i x hcal
   have:bI e' x=bI e x:=he x (ho (.tmp x) (by simp [Op.operands,Call.operands,hcal]))
   rw [hcalm,this]
  ·rfl
 ·rename_i t a x
  rw [he.opnd (ho a (by simp [Op.operands]))]
 ·rfl
theorem Br (ag:Ag X σ σ') {op:Op} (ho:fO X op):bM T σ' op=bM T σ op:=by
 unfold bM
 split
 ·rename_i t a x
  have e1:=ag.env.opnd (ho a (by simp [Op.operands]))
  simp only [e1,ag.S]
 ·simp only [ag.S,yB ag.env ho]
theorem wP (ag:Ag X σ σ') (ho: ∀u,eB ops o u-> ¬X u) (hd:Az X o.dst) {s:St} (hs:cP T C ν ops o σ=some s) (hk:cI T C ν ops o σ= .work wr n):
  ∃s',cP T C ν ops o σ'=some s'/\Ag X s s'/\cI T C ν ops o σ'= .work wr n:=by
 obtain⟨W,hn,hw,hpl⟩:=eA hs hk
 have hoo:fO X o.op:=by
  intro x hx
  cases x with
  |tmp u=>exact ho u (.inl hx)
  |_=>trivial
 have eg:aQ ops σ'.env o.guard=aQ ops σ.env o.guard:=dQ ag.env (fun j b p t h1 h2 h3=>ho t (.inr ⟨j,b,p,h1,h2,h3⟩))
 have ek:cI T C ν ops o σ'= .work wr n:=by
  rw [<-hk]
  unfold cI
  simp only [eg,hw,cond_true,Br ag hoo,ag.S]
 have hs':=hs
 unfold cP at hs'
 cases hg:aQ ops σ.env o.guard with
 |none=>rw [hg] at hs';cases hs'
 |some q=>
  simp only [hg,hw,cond_true] at hs'
  cases q with
  |false=>
   simp only [cond_false,Option.some.injEq] at hs'
   subst hs'
   refine⟨{ σ' with env:=putDst σ'.env o.dst .undef },?_,⟨ag.S,ag.env.putDst hd _⟩,ek⟩
   unfold cP
   simp only [eg,hg,hw,cond_true,cond_false]
  |true=>
   simp only [cond_true] at hs'
   cases hwk:bf T σ.env o with
   |false=>rw [hwk] at hs';cases hs'
   |true=>
    rw [hwk,cond_true] at hs'
    have hr:=zf (T:=T) (C:=C) (ro:=ν.ro) (mv:=ν.mv) (give:=ν.give) ag (ot:=o.type) hoo hd (.inr (hpl hg))
    rw [hs'] at hr
    revert hr
    cases hs2:aJ T C ν.ro ν.mv ν.give σ' o.dst o.type o.op with
    |none=>intro hr;exact hr.elim
    |some s'=>
     intro hr
     refine⟨s',?_,hr,ek⟩
     unfold cP
     simp only [eg,hg,hw,cond_true,wJ ag.env hoo,hwk,hs2]
theorem I8 {ty:Ty} {cs cs':List D} {off:Nat} (h0:cs'[off]? =cs[off]?) (h: ∀i,i<ty.size->cs'[off+i]? =cs[off+i]?):bT ty cs' off=bT ty cs off:=by
 have e:(cs'.drop off).take ty.size=(cs.drop off).take ty.size:=by
  apply List.ext_getElem?
  intro i
  simp only [List.getElem?_take,List.getElem?_drop]
  split
  ·rename_i hi;exact h i hi
  ·rfl
 unfold bT
 simp only [e,h0]
theorem Bf {g:Bool} {op:Op} (hrw:cr (aL T σ g op) wr n=true) (hn:n=σ1.S.length)
  (hm:gk σ1.S σ2.S wr) {t:Nat} {a:Operand} {d:D} (hop:op= .load t a) (hf:bl g (opnd σ.env a)=some d) (hne: ∀src sz i off,d≠ .ep src sz i off):
  loadAt (T t) σ2 d=loadAt (T t) σ1 d:=by
 subst hop
 cases d with
 |ep src sz i off=>exact absurd rfl (hne _ _ _ _)
 |ptr o off=>
  simp only [aL,hf] at hrw
  unfold loadAt
  simp only
  cases wr with
  |none=>
   simp only [cr,decide_eq_true_eq] at hrw
   simp only [gk] at hm
   have:σ2.S[o]? =σ1.S[o]? :=by
    rcases hm with h|⟨c,h⟩
    ·rw [h]
    ·rw [h,List.getElem?_append_left (by omega)]
   rw [this]
  |some p=>
   obtain⟨a',off',l'⟩:=p
   simp only [cr,Bool.or_eq_true,Bool.not_eq_true',beq_eq_false_iff_ne,decide_eq_true_eq] at hrw
   simp only [gk] at hm
   obtain⟨cs,ds,h1,h2,h3⟩:=hm
   by_cases ha:o=a'
   ·subst ha
    have hlt:o<σ1.S.length:=(List.getElem?_eq_some_iff.1 h1).1
    have h4:σ2.S[o]? =some (setCells cs off' ds):=by rw [h3];simp [hlt]
    rw [h4,h1]
    simp only
    have hr:off+((T t).size-1+1)<=off'∨off'+l'<=off:=by
     rcases hrw with (h|h)|h
     ·exact absurd rfl h
     ·exact .inl h
     ·exact .inr h
    have hc: ∀i,i<(T t).size-1+1->(setCells cs off' ds)[off+i]? =cs[off+i]? :=by
     intro i hi
     refine di ds cs off' (off+i) ?_
     rcases hr with h|h
     ·exact .inl (by omega)
     ·exact .inr (by omega)
    have h0:(setCells cs off' ds)[off]? =cs[off]? :=hc 0 (by omega)
    have he:((setCells cs off' ds).drop off).take (T t).size=(cs.drop off).take (T t).size:=by
     apply List.ext_getElem?
     intro i
     simp only [List.getElem?_take,List.getElem?_drop]
     split
     ·rename_i hi;exact hc i (by omega)
     ·rfl
    rw [h0,he,I8 h0 (fun i hi=>hc i (by omega))]
   ·have:σ2.S[o]? =σ1.S[o]? :=by rw [h3,List.getElem?_set_ne (Ne.symm ha)]
    rw [this]
 |_=>rfl
theorem cQ.stand {Y:Nat->Prop} {dst:Option Nat} {e e':Env} (q:cQ Y dst e e') {v:Nat} (hv:dst≠some v) (hy: ¬Y v) (h:br (bI e v)=true):bI e' v=bI e v:=by
 unfold br at h
 simp only [Bool.or_eq_true,Bool.and_eq_true,Bool.not_eq_true'] at h
 rcases h with⟨h1,h2⟩|h
 ·exact q.p1 v hv h1 h2
 ·exact q.p5 v hv hy h
theorem PV {g1:Bool} {d1:D} {t1:Nat} (h1:dT T C ν ops o1 σ g1 d1 t1) (hs:cP T C ν ops o2 { σ with env:=put σ.env t1 d1 } =some σ2) (hk:cI T C ν ops o2 { σ with env:=put σ.env t1 d1 } = .work wr n) (ap:ru ops o1 o2)
  (hc:o1.op.operands.toList.all (aY σ.env)=true) (hi:br d1=true) (hrw:cr (aL T σ g1 o1.op) wr n=true∨σ2.S=σ.S):
  ∃s,cP T C ν ops o2 σ=some s/\cI T C ν ops o2 σ= .work wr n/\dT T C ν ops o1 s g1 d1 t1/\cI T C ν ops o1 s=cI T C ν ops o1 σ/\E0 σ2 { s with env:=put s.env t1 d1 } :=by
 have hdst:o2.dst≠some t1:=ap.c t1 h1.dst
 have ag:Ag (fun u=>u=t1) { σ with env:=put σ.env t1 d1 } σ:=⟨rfl,fun u hu=>by simp only [cJ];rw [if_neg (fun h=>hu h.symm)]⟩
 obtain⟨s,s1,s2,s3⟩:=wP ag (fun u hu h=>ap.a t1 h1.dst (by subst h;exact hu)) (by
  cases hd:o2.dst with
  |none=>trivial
  |some u=>exact fun h=>hdst (by rw [hd,h])) hs hk
 obtain⟨W,hn,_,_⟩:=eA s1 s3
 obtain⟨W2,_,_,_⟩:=eA hs hk
 have hq: ∀u,eB ops o1 u->bI s.env u=bI σ.env u:=by
  intro u hu
  have hdu:o2.dst≠some u:=fun h=>ap.b u h hu
  rcases hu with hu|hu
  ·have hcu:=List.all_eq_true.1 hc _ hu
   simp only [aY] at hcu
   refine W.quiet.p1 u hdu ?_ ?_
   ·unfold cv
    split
    ·rfl
    ·rfl
    ·unfold ch
     split
     ·rename_i cs heq
      rw [heq] at hcu
      simp only [lP] at hcu
      rw [List.all_eq_true] at*
      intro c hcc
      have:=hcu c hcc
      unfold bo
      split
      ·rfl
      ·exact this
     ·cases bo _ with
      |true=>rfl
      |false=>exact hcu
   ·revert hcu
    cases bI σ.env u with
    |agg cs=>
     intro hcu
     simp only [lP,List.all_eq_true] at hcu
     simp only [aN,aA,Bool.not_eq_false',List.all_eq_true]
     intro c hcc
     have:=hcu c hcc
     cases c<;>first|rfl|simp [bL] at this
    |own sz l=>intro hcu;simp [lP,bL] at hcu
    |_=>intro _;rfl
  ·obtain⟨hcu,hou⟩:=eh h1.gd hu
   refine W.quiet.p1 u hdu ?_ hou
   obtain⟨j,b,p,e1,e2,e3⟩:=hu
   have hg:=h1.gd
   rw [e1] at hg
   simp only [aQ,aD,e2,e3] at hg
   revert hg
   cases hl:bI σ.env u with
   |v x=>intro _;rfl
   |undef=>intro _;rfl
   |mb q d=>
    intro hg
    cases d with
    |v x=>rfl
    |_=>simp at hg
   |_=>intro hg;simp at hg
 have hf:aN (bI s.env t1)=false:=by
  rw [W.quiet.p3 t1 hdst (ap.a t1 h1.dst)];exact h1.fresh
 have hm:=h1.move (σ':=s) hq hf (fun t a d hop hff=>by
  have hne:=er (List.all_eq_true.1 hc a (by rw [hop];simp [Op.operands])) hff
  rcases hrw with hrw|hS
  ·exact Bf (σ:=σ) hrw hn W.mem hop hff hne
  ·exact fm (s2.S.trans hS) hne)
 refine⟨s,s1,s3,hm.1,hm.2,s2.S,fun u _=>?_⟩
 simp only [cJ]
 split
 ·rename_i h
  subst h
  have:=W2.quiet.stand hdst (ap.a t1 h1.dst) (by simp only [cJ,if_true];exact hi)
  simp only [cJ,if_true] at this
  exact this.symm
 ·rename_i h
  exact s2.env u (fun e=>h e.symm)
theorem OW {g2:Bool} {d2:D} {t2:Nat} (hs:cP T C ν ops o1 σ=some σ1) (hk:cI T C ν ops o1 σ= .work wr n) (h2:dT T C ν ops o2 σ1 g2 d2 t2) (ap:ru ops o1 o2)
  (hc:o2.op.operands.toList.all (aY σ1.env)=true) (hi:br d2=true) (hrw:cr (aL T σ1 g2 o2.op) wr n=true∨σ1.S=σ.S):
  ∃s,dT T C ν ops o2 σ g2 d2 t2/\cI T C ν ops o2 σ=cI T C ν ops o2 σ1/\cP T C ν ops o1 { σ with env:=put σ.env t2 d2 } =some s/\cI T C ν ops o1 { σ with env:=put σ.env t2 d2 } = .work wr n/\E0 { σ1 with env:=put σ1.env t2 d2 } s:=by
 obtain⟨W,hn,_,_⟩:=eA hs hk
 have hdst:o1.dst≠some t2:=fun h=>ap.c t2 h h2.dst
 have hq: ∀u,eB ops o2 u->bI σ.env u=bI σ1.env u:=by
  intro u hu
  have hdu:o1.dst≠some u:=fun h=>ap.a u h hu
  have hcu:lP (bI σ1.env u)=true:=by
   rcases hu with hu|hu
   ·have hcu:=List.all_eq_true.1 hc _ hu
    simpa only [aY] using hcu
   ·exact (eh h2.gd hu).1
  exact (W.quiet.p2 u hdu hcu).symm
 have hf:aN (bI σ.env t2)=false:=by
  rw [<-W.quiet.p3 t2 hdst (ap.b t2 h2.dst)];exact h2.fresh
 have hm:=h2.move (σ':=σ) hq hf (fun t a d hop hff=>by
  have hne:=er (List.all_eq_true.1 hc a (by rw [hop];simp [Op.operands])) hff
  rcases hrw with hrw|hS
  ·exact (Bf (σ:=σ1) hrw hn W.mem hop hff hne).symm
  ·exact fm hS.symm hne)
 have ag:Ag (fun u=>u=t2) σ { σ with env:=put σ.env t2 d2 } :=⟨rfl,fun u hu=>by simp only [cJ];rw [if_neg (fun h=>hu h.symm)]⟩
 obtain⟨s,s1,s2,s3⟩:=wP ag (fun u hu h=>ap.b t2 h2.dst (by subst h;exact hu)) (by
  cases hd:o1.dst with
  |none=>trivial
  |some u=>exact fun h=>hdst (by rw [hd,h])) hs hk
 obtain⟨W2,_,_,_⟩:=eA s1 s3
 refine⟨s,hm.1,hm.2,s1,s3,s2.S,fun u _=>?_⟩
 simp only [cJ]
 split
 ·rename_i h
  subst h
  have:=W2.quiet.stand hdst (ap.b t2 h2.dst) (by simp only [cJ,if_true];exact hi)
  simp only [cJ,if_true] at this
  exact this
 ·rename_i h
  exact s2.env u (fun e=>h e.symm)
end
end Go.Mx
namespace Go.Mx
open Go
structure um (Y:Nat->Prop) (dst:Option Nat) (e e':Env):Prop where
 p1: ∀v,dst≠some v->lP (bI e v)=true->bI e' v=bI e v
 p2: ∀v,dst≠some v->lP (bI e' v)=true->bI e' v=bI e v
 p3: ∀v,dst≠some v-> ¬Y v->aN (bI e' v)=aN (bI e v)
 p5: ∀v,dst≠some v-> ¬Y v->bG (bI e v)=true->bI e' v=bI e v
theorem yz {d:D} (h:lP d=true):aN d=false:=by
 cases d with
 |agg cs=>
  simp only [lP,List.all_eq_true] at h
  simp only [aN,aA,Bool.not_eq_false',List.all_eq_true]
  intro c hcc
  have:=h c hcc
  cases c<;>first|rfl|simp [bL] at this
 |own sz l=>simp [lP,bL] at h
 |_=>rfl
theorem yv {d:D} (h:lP d=true):cv d=true:=by
 unfold cv
 split
 ·rfl
 ·rfl
 ·unfold ch
  split
  ·rename_i cs
   simp only [lP] at h
   rw [List.all_eq_true] at*
   intro c hcc
   have:=h c hcc
   unfold bo
   split
   ·rfl
   ·exact this
  ·cases bo _ with
   |true=>rfl
   |false=>exact h
section
variable {Y:Nat->Prop} {dst:Option Nat} {e e' e'':Env}
theorem um.of (q:cQ Y dst e e'):um Y dst e e':=⟨fun v hv hc=>q.p1 v hv (yv hc) (yz hc),q.p2,q.p3,q.p5⟩
theorem um.trans (a:um Y dst e e') (b:um Y dst e' e''):um Y dst e e'' where
 p1 v hv hc:=by
  have h1:=a.p1 v hv hc
  rw [b.p1 v hv (by rw [h1];exact hc),h1]
 p2 v hv hc:=by
  have h1:=b.p2 v hv hc
  rw [h1,a.p2 v hv (by rw [<-h1];exact hc)]
 p3 v hv hy:=by rw [b.p3 v hv hy,a.p3 v hv hy]
 p5 v hv hy h:=by
  have h1:=a.p5 v hv hy h
  rw [b.p5 v hv hy (by rw [h1];exact h),h1]
theorem um.kill (p:Loc->Bool):um Y dst e (Mx.kill p e) where
 p1 v hv hc:=by rw [cU,yW hc]
 p2 v hv hc:=by rw [cU] at hc⊢;exact fU hc
 p3 v hv hy:=by rw [cU,gt]
 p5 v hv hy h:=by rw [cU,AF h]
end
section
variable {T:Nat->Ty} {C:aj} {ν:cL} {ops:List Oper} {o o1 o2:Oper} {σ σ' σ1 σ2:St} {g:Bool} {d:D} {t:Nat} {X:Nat->Prop}
theorem gR {give:Nat->Bool} : ∀ {xs:List Operand} {σ:St} {r:List D×St},xs.all (aY σ.env)=true->argsE give σ xs=some r->r.2=σ/\ ∀ {X:Nat->Prop} {σ':St},EA X σ.env σ'.env->(∀x∈xs,u4 X x)->argsE give σ' xs=some (r.1,σ')
 | [],σ,r,_,h=>by
  simp only [argsE,Option.some.injEq] at h
  subst h
  exact⟨rfl,fun _ _=>rfl⟩
 |x::xs,σ,r,hc,h=>by
  simp only [List.all_cons,Bool.and_eq_true] at hc
  simp only [argsE] at h
  have one: ∀p,argE give σ x=some p->p.2=σ/\ ∀ {X:Nat->Prop} {σ':St},EA X σ.env σ'.env->u4 X x->argE give σ' x=some (p.1,σ'):=by
   intro p hp
   unfold argE at hp
   cases hf:bl true (opnd σ.env x) with
   |none=>rw [hf] at hp;cases hp
   |some d=>
    rw [hf] at hp
    simp only at hp
    have hown: ∀u,x= .tmp u->aN (bI σ.env u)=false:=by
     intro u hu
     subst hu
     exact yz (by simpa only [aY] using hc.1)
    have hsp:spend σ.env x=σ.env:=by
     unfold spend
     cases x with
     |tmp u=>simp only [hown u rfl,cond_false]
     |_=>rfl
    have hfz:frzReg σ.env x=σ.env:=by
     unfold frzReg
     cases x with
     |tmp u=>simp only [hown u rfl,cond_false]
     |_=>rfl
    have hal: ∀f sz l src,d≠ .al f sz l src:=by
     intro f sz l src hd
     subst hd
     cases x with
     |tmp u=>
      simp only [aY] at hc
      have h1:=hc.1
      simp only [opnd] at hf
      unfold bl at hf
      split at hf
      ·rename_i hq c hm
       cases hb:(!true||hq) with
       |false=>rw [hb] at hf;cases hf
       |true=>
        rw [hb,cond_true] at hf
        cases hof:aA c with
        |false=>rw [hof] at hf;cases hf
        |true=>
         rw [hof,cond_true] at hf
         unfold bQ at hf
         split at hf<;>first|(cases hf;done)|skip
         simp only [Option.some.injEq] at hf
         subst hf
         rw [hm] at h1
         simp [lP,bL] at h1
      ·unfold bQ at hf
       split at hf<;>first|(cases hf;done)|skip
       simp only [Option.some.injEq] at hf
       rw [hf] at h1
       simp [lP,bL] at h1
     |const v=>
      simp only [opnd] at hf
      have: ∀w,ofConst v≠ .mb true w:=by
       intro w
       unfold ofConst
       split
       ·simp
       ·unfold ofCell;split<;>simp
      unfold bl at hf
      unfold ofConst at hf
      split at hf
      ·rename_i hm;split at hm<;>first|(cases hm;done)|(unfold ofCell at hm;split at hm<;>cases hm)
      ·unfold bQ at hf
       split at hf<;>first|(cases hf;done)|skip
       simp only [Option.some.injEq] at hf
       split at hf
       ·cases hf
       ·unfold ofCell at hf;split at hf<;>cases hf
     |_=>simp only [opnd,bl,bQ] at hf<;>cases hf
    cases hv:bD d with
    |false=>
     exfalso
     cases hg:bw give x with
     |true=>
      rw [hg,cond_true] at hp
      split at hp
      ·exact hal _ _ _ _ rfl
      ·rw [hv] at hp;cases hp
     |false=>rw [hg,hv] at hp;cases hp
    |true=>
     cases hg:bw give x with
     |true=>
      rw [hg,cond_true] at hp
      have hp':p=(d,σ):=by
       split at hp
       ·exact absurd rfl (hal _ _ _ _)
       ·rw [hv,cond_true,hsp] at hp;exact (Option.some.inj hp).symm
      subst hp'
      refine⟨rfl,fun {X σ'} ag hx=>?_⟩
      unfold argE
      rw [ag.opnd hx,hf]
      simp only [hg,cond_true]
      have hsp':spend σ'.env x=σ'.env:=by
       unfold spend
       cases x with
       |tmp u=>simp only [ag u hx,hown u rfl,cond_false]
       |_=>rfl
      split
      ·exact absurd rfl (hal _ _ _ _)
      ·rw [hv,cond_true,hsp']
     |false=>
      rw [hg,cond_false,hv,cond_true,Option.some.injEq,hfz] at hp
      subst hp
      refine⟨rfl,fun {X σ'} ag hx=>?_⟩
      unfold argE
      rw [ag.opnd hx,hf]
      simp only [hg,cond_false,hv,cond_true]
      have hfz':frzReg σ'.env x=σ'.env:=by
       unfold frzReg
       cases x with
       |tmp u=>simp only [ag u hx,hown u rfl,cond_false]
       |_=>rfl
      rw [hfz']
  cases h1:argE give σ x with
  |none=>rw [h1] at h;cases h
  |some p=>
   rw [h1] at h
   obtain⟨o1,o2⟩:=one p h1
   obtain⟨d,s⟩:=p
   simp only at o1
   subst o1
   simp only at h
   cases h2:argsE give s xs with
   |none=>rw [h2] at h;cases h
   |some q=>
    rw [h2] at h
    simp only [Option.some.injEq] at h
    subst h
    obtain⟨r1,r2⟩:=gR hc.2 h2
    refine⟨r1,fun {X σ'} ag hx=>?_⟩
    simp only [argsE,o2 ag (hx x List.mem_cons_self),r2 ag (fun y hy=>hx y (List.mem_cons_of_mem _ hy))]
theorem gB {ro mv : Nat -> Bool} {give : Nat -> Bool} {dst : Option Nat} {ot : Nat} {op : Op} (hk : bN σ.env op = true) (hs : aJ T C ro mv give σ dst ot op = some σ') :
    um (fun u => Operand.tmp u ∈ op.operands.toList) dst σ.env σ'.env /\ ∀ {X : Nat -> Prop} {σ1 : St}, Ag X σ σ1 -> fO X op -> Az X dst -> ∃ s, aJ T C ro mv give σ1 dst ot op = some s /\ Ag X σ' s := by
  cases op <;> try (simp only [bN, Bool.false_eq_true] at hk; done)
  case store t a x =>
    simp only [bN] at hk
    split at hk
    . rename_i o off hp
      simp only [aJ, hp] at hs
      cases hd : bl true (opnd σ.env x) with
      | none => rw [hd] at hs; cases hs
      | some d =>
        rw [hd] at hs
        simp only at hs
        cases hf : fitS (bw give a) (T t) d with
        | none => rw [hf] at hs; cases hs
        | some d' =>
          rw [hf] at hs
          simp only at hs
          cases hS : σ.S[o]? with
          | none => rw [hS] at hs; cases hs
          | some cs =>
            rw [hS] at hs
            simp only at hs
            cases hb : (decide (off + (cellsOf d').length <= cs.length) && (cellsOf d').all (lowC o) && (cellsOf d').length == (T t).size && !(T t).flat.isEmpty) with
            | false => rw [hb] at hs; cases hs
            | true =>
              rw [hb, cond_true, Option.some.injEq] at hs
              subst hs
              have ms : um (fun u => Operand.tmp u ∈ (Op.store t a x).operands.toList) dst σ.env (spend σ.env x) := um.of (cQ.spend (fun u hu => by subst hu; simp [Op.operands]))
              refine ⟨?_, fun {X σ1} ag ho hdst => ?_⟩
              . simp only
                cases ((cs.drop off).take (cellsOf d').length).any bG with
                | true => exact ms.trans (um.kill _)
                | false => exact ms
              . have es := ag.env.spend (ho x (by simp [Op.operands]))
                refine ⟨{ env := bif ((cs.drop off).take (cellsOf d').length).any bG then kill (bU o) (spend σ1.env x) else spend σ1.env x, S := σ1.S.set o (setCells cs off (cellsOf d')) }, ?_, ?_, ?_⟩
                . simp only [aJ, ag.env.opnd (ho a (by simp [Op.operands])), ag.env.opnd (ho x (by simp [Op.operands])), hp, hd, hf, ag.S, hS, hb, cond_true]
                . simp only [ag.S]
                . simp only
                  cases ((cs.drop off).take (cellsOf d').length).any bG with
                  | true => exact es.kill _
                  | false => exact es
    . cases hk
  rename_i c
  have hin : ∀ x ∈ c.args.toList, x ∈ (Op.call c).operands.toList := fun x hx => by simp only [Op.operands, Call.operands, Array.toList_append, List.mem_append]; exact .inr hx
  unfold bN at hk
  simp only at hk
  split at hk
  . -- append
    rename_i hcal
    simp only [aJ, hcal] at hs
    split at hs <;> first | (cases hs; done) | skip
    rename_i x y tx ty u hargs htys
    rw [hargs] at hk
    simp only at hk
    have hx : x ∈ (Op.call c).operands.toList := hin x (by rw [hargs]; simp)
    have hy : y ∈ (Op.call c).operands.toList := hin y (by rw [hargs]; simp)
    split at hs <;> first | (cases hs; done) | skip
    rename_i e dx dy htk hdx hdy
    rw [hdx] at hk
    split at hs <;> first | (cases hs; done) | skip
    rename_i zy ly hly
    cases hc1 : ((zy == (T e).size || (ly.isEmpty && aF (T ty).tk)) && (T e).zero.length == (T e).size && (T e).size != 0 && (T e).bytes != 0) with
    | false => rw [hc1] at hs; cases hs
    | true =>
      rw [hc1, cond_true] at hs
      split at hs <;> first | (cases hs; done) | skip
      . rename_i zx lx
        cases hc2 : ((zx == (T e).size || (zx == 0 && lx.isEmpty)) && dh (lx.length + ly.length) (T e).bytes) with
        | false => rw [hc2] at hs; cases hs
        | true =>
          rw [hc2, cond_true, Option.some.injEq] at hs
          subst hs
          refine ⟨um.of ((cQ.spend (fun u hu => by subst hu; exact hx)).trans cQ.setReg), fun {X σ1} ag ho hd => ?_⟩
          refine ⟨{ σ1 with env := setReg (spend σ1.env x) u (.own (T e).size (lx ++ ly)) }, ?_, ⟨ag.S, (ag.env.spend (ho x hx)).setReg hd _⟩⟩
          simp only [aJ, hcal, hargs, htys, htk, ag.env.opnd (ho x hx), ag.env.opnd (ho y hy), hdx, hdy, hly, hc1, hc2, cond_true]
      . rename_i zx lx src
        cases src <;> first | (simp at hk; done) | skip
        rename_i oo off
        cases hc2 : (spendOk σ (.cell oo off) && zx == (T e).size && dh (lx.length + ly.length) (T e).bytes) with
        | false => rw [hc2] at hs; cases hs
        | true =>
          rw [hc2, cond_true, Option.some.injEq] at hs
          subst hs
          refine ⟨?_, fun {X σ1} ag ho hd => ?_⟩
          . have h1 : um (fun u => Operand.tmp u ∈ (Op.call c).operands.toList) (some u) σ.env (spendLoc σ (.cell oo off)).env := by
              unfold spendLoc
              simp only
              cases σ.S[oo]? with
              | none => exact um.of cQ.refl
              | some cs => exact um.kill _
            exact h1.trans (um.of cQ.setReg)
          . have hag := ag.spendLoc (.cell oo off)
            refine ⟨{ spendLoc σ1 (.cell oo off) with env := setReg (spendLoc σ1 (.cell oo off)).env u (.own (T e).size (lx ++ ly)) }, ?_, ⟨hag.S, hag.env.setReg hd _⟩⟩
            have e3 : spendOk σ1 (.cell oo off) = spendOk σ (.cell oo off) := rfl
            simp only [aJ, hcal, hargs, htys, htk, ag.env.opnd (ho x hx), ag.env.opnd (ho y hy), hdx, hdy, hly, hc1, e3, hc2, cond_true]
      . rename_i zx lx
        cases hc2 : (zx == (T e).size && !ly.isEmpty && dh (lx.length + ly.length) (T e).bytes) with
        | false => rw [hc2] at hs; cases hs
        | true =>
          rw [hc2, cond_true, Option.some.injEq] at hs
          subst hs
          refine ⟨um.of cQ.setReg, fun {X σ1} ag ho hd => ?_⟩
          refine ⟨{ σ1 with env := setReg σ1.env u (.own (T e).size (lx ++ ly)) }, ?_, ⟨ag.S, ag.env.setReg hd _⟩⟩
          simp only [aJ, hcal, hargs, htys, htk, ag.env.opnd (ho x hx), ag.env.opnd (ho y hy), hdx, hdy, hly, hc1, hc2, cond_true]
  . -- a function
    rename_i f hcal
    simp only [aJ, hcal] at hs
    split at hs <;> first | (cases hs; done) | skip
    rename_i args s1 hargs
    obtain ⟨a1, a2⟩ := gR hk hargs
    simp only at a1
    subst a1
    cases hb : (args.all bare && !jA mv dst) with
    | true => rw [hb] at hs; cases hs
    | false =>
      rw [hb, cond_false] at hs
      split at hs <;> first | (cases hs; done) | skip
      rename_i d S' hC
      simp only [Option.some.injEq] at hs
      subst hs
      refine ⟨(um.kill _).trans (um.of cQ.putDst), fun {X σ1} ag ho hd => ?_⟩
      have h1 := a2 ag.env (fun x hx => ho x (hin x hx))
      refine ⟨{ env := putDst (kill (jF s1.S args) σ1.env) dst (offReg (kill (jF s1.S args) σ1.env) dst d), S := S' }, ?_, ⟨rfl, ?_⟩⟩
      . simp only [aJ, hcal, h1, hb, cond_false, ag.S, hC]
      . simp only
        rw [(ag.env.kill _).offReg hd]
        exact (ag.env.kill _).putDst hd _
  . -- a closure
    rename_i x hcal
    simp only [Bool.and_eq_true] at hk
    simp only [aJ, hcal] at hs
    split at hs <;> first | (cases hs; done) | skip
    rename_i f caps args s1 hx hargs
    obtain ⟨a1, a2⟩ := gR hk.2 hargs
    simp only at a1
    subst a1
    cases hb : caps.all bJ with
    | false => rw [hb] at hs; cases hs
    | true =>
      rw [hb, cond_true] at hs
      split at hs <;> first | (cases hs; done) | skip
      rename_i d S' hC
      simp only [Option.some.injEq] at hs
      subst hs
      refine ⟨(um.kill _).trans (um.of cQ.putDst), fun {X σ1} ag ho hd => ?_⟩
      have h1 := a2 ag.env (fun x hx => ho x (hin x hx))
      have h2 : bI σ1.env x = bI s1.env x := ag.env x (ho (.tmp x) (by simp [Op.operands, Call.operands, hcal]))
      refine ⟨{ env := putDst (kill (jF s1.S (args ++ caps)) σ1.env) dst (offReg (kill (jF s1.S (args ++ caps)) σ1.env) dst d), S := S' }, ?_, ⟨rfl, ?_⟩⟩
      . simp only [aJ, hcal, h1, h2, hx, hb, cond_true, ag.S, hC]
      . simp only
        rw [(ag.env.kill _).offReg hd]
        exact (ag.env.kill _).putDst hd _
  . cases hk
theorem qT (hs:cP T C ν ops o σ=some σ') (hk:cI T C ν ops o σ= .eff):aQ ops σ.env o.guard=some true/\bN σ.env o.op=true/\aJ T C ν.ro ν.mv ν.give σ o.dst o.type o.op=some σ'/\
  ((be T ν o=true/\bf T σ.env o=true)∨(be T ν o=false/\aw C σ true o=false/\gx true o.guard.isNone (aK T C σ true o.op)=none/\ar o=true)):=by
 unfold cI at hk
 split at hk
 ·cases hk
 ·rename_i g hg
  unfold cP at hs
  simp only [hg] at hs
  cases hw:be T ν o with
  |true=>
   rw [hw,cond_true] at hk hs
   cases g with
   |false=>cases hk
   |true=>
    simp only [cond_true] at hk hs
    cases hwk:bf T σ.env o with
    |false=>rw [hwk] at hs;cases hs
    |true=>
     rw [hwk,cond_true] at hs
     refine⟨hg,?_,hs,.inl ⟨rfl,rfl⟩⟩
     unfold bM at hk
     split at hk
     ·rename_i t a x hop
      split at hk
      ·rename_i oo off hp
       rw [hop]
       simp only [bN,hp]
      ·cases hk
     ·cases hp:au o.op with
      |true=>rw [hp] at hk;cases hk
      |false=>
       rw [hp,cond_false] at hk
       cases he:bN σ.env o.op with
       |true=>rfl
       |false=>rw [he] at hk;cases hk
  |false=>
   rw [hw,cond_false] at hk hs
   split at hk
   ·cases hod:aI σ.env o.dst<;>rw [hod] at hk<;>simp at hk
   ·rename_i hgx
    cases g with
    |false=>cases hk
    |true=>
     cases he:bN σ.env o.op with
     |false=>rw [he] at hk;cases hk
     |true=>
      cases hcf:aw C σ true o with
      |true=>rw [hcf] at hs;cases hs
      |false=>
       rw [hcf,cond_false,hgx] at hs
       simp only [Bool.true_and] at hs
       cases hf:ar o with
       |false=>rw [hf] at hs;cases hs
       |true=>
        rw [hf,cond_true] at hs
        exact⟨hg,rfl,hs,.inr ⟨rfl,rfl,hgx,rfl⟩⟩
theorem I6 (h:bN σ.env o.op=true):(∃c,o.op= .call c)∨(∃t a x,o.op= .store t a x):=by
 cases hop:o.op<;>rw [hop] at h<;>first|exact .inl ⟨_,rfl⟩|exact .inr ⟨_,_,_,rfl⟩|(simp only [bN,Bool.false_eq_true] at h)
theorem vg (ag:Ag X σ σ1) (ho: ∀u,eB ops o u-> ¬X u) (hd:Az X o.dst) (hs:cP T C ν ops o σ=some σ') (hk:cI T C ν ops o σ= .eff):
  ∃s,cP T C ν ops o σ1=some s/\Ag X σ' s/\cI T C ν ops o σ1= .eff:=by
 obtain⟨hg,he,hw,hor⟩:=qT hs hk
 have hoo:fO X o.op:=by
  intro x hx
  cases x with
  |tmp u=>exact ho u (.inl hx)
  |_=>trivial
 have eg:aQ ops σ1.env o.guard=some true:=by
  rw [dQ ag.env (fun j b p t h1 h2 h3=>ho t (.inr ⟨j,b,p,h1,h2,h3⟩))];exact hg
 obtain⟨s,e1,e2⟩:=(gB he hw).2 ag hoo hd
 have hcs:=I6 he
 have ep:aK T C σ1 true o.op=aK T C σ true o.op:=wQ ag.env hoo true (fun t a d hop _=>by rcases hcs with⟨c,hc⟩|⟨_,_,_,hc⟩<;>(rw [hc] at hop;cases hop))
 have ee:bN σ1.env o.op=true:=by rw [yB ag.env hoo];exact he
 refine⟨s,?_,e2,?_⟩
 ·unfold cP
  simp only [eg]
  rcases hor with⟨h1,h2⟩|⟨h1,h2,h3,h4⟩
  ·simp only [h1,cond_true,wJ ag.env hoo,h2,e1]
  ·simp only [h1,cond_false,fX ag.env hoo,h2,ep,h3,h4,Bool.and_self,cond_true,e1]
 ·unfold cI
  simp only [eg]
  rcases hor with⟨h1,h2⟩|⟨h1,h2,h3,h4⟩
  ·simp only [h1,cond_true,Br ag hoo]
   unfold cI at hk
   simp only [hg,h1,cond_true] at hk
   exact hk
  ·simp only [h1,cond_false,ep,h3,ee,Bool.and_self,cond_true]
theorem vD {g:Bool} {op:Op} (hr:(aL T σ g op).isNone=true) {t:Nat} {a:Operand} {d:D} (hop:op= .load t a) (hf:bl g (opnd σ.env a)=some d) (hne: ∀src sz i off,d≠ .ep src sz i off) (σ3 σ4:St):loadAt (T t) σ3 d=loadAt (T t) σ4 d:=by
 subst hop
 cases d with
 |ep src sz i off=>exact absurd rfl (hne _ _ _ _)
 |ptr o off=>simp only [aL,hf] at hr;cases hr
 |_=>rfl
theorem Kj {g1:Bool} {d1:D} {t1:Nat} (h1:dT T C ν ops o1 σ g1 d1 t1) (hs:cP T C ν ops o2 { σ with env:=put σ.env t1 d1 } =some σ2) (hk:cI T C ν ops o2 { σ with env:=put σ.env t1 d1 } = .eff) (ap:ru ops o1 o2)
  (hc:o1.op.operands.toList.all (aY σ.env)=true) (hi:bI σ2.env t1=d1) (hld: ∀s,cP T C ν ops o2 σ=some s->cI T C ν ops o2 σ= .eff-> ∀t a d,o1.op= .load t a->bl g1 (opnd σ.env a)=some d->loadAt (T t) s d=loadAt (T t) σ d):
  ∃s,cP T C ν ops o2 σ=some s/\cI T C ν ops o2 σ= .eff/\dT T C ν ops o1 s g1 d1 t1/\cI T C ν ops o1 s=cI T C ν ops o1 σ/\E0 σ2 { s with env:=put s.env t1 d1 } :=by
 have hdst:o2.dst≠some t1:=ap.c t1 h1.dst
 have ag:Ag (fun u=>u=t1) { σ with env:=put σ.env t1 d1 } σ:=⟨rfl,fun u hu=>by simp only [cJ];rw [if_neg (fun h=>hu h.symm)]⟩
 obtain⟨s,s1,s2,s3⟩:=vg ag (fun u hu h=>ap.a t1 h1.dst (by subst h;exact hu)) (by
  cases hd:o2.dst with
  |none=>trivial
  |some u=>exact fun h=>hdst (by rw [hd,h])) hs hk
 obtain⟨_,q1,q2,_⟩:=qT s1 s3
 have W:=(gB q1 q2).1
 have hq: ∀u,eB ops o1 u->bI s.env u=bI σ.env u:=by
  intro u hu
  have hdu:o2.dst≠some u:=fun h=>ap.b u h hu
  rcases hu with hu|hu
  ·have hcu:=List.all_eq_true.1 hc _ hu
   exact W.p1 u hdu (by simpa only [aY] using hcu)
  ·exact W.p1 u hdu (eh h1.gd hu).1
 have hf:aN (bI s.env t1)=false:=by
  rw [W.p3 t1 hdst (fun h=>ap.a t1 h1.dst (.inl h))];exact h1.fresh
 have hm:=h1.move (σ':=s) hq hf (hld s s1 s3)
 refine⟨s,s1,s3,hm.1,hm.2,s2.S,fun u _=>?_⟩
 simp only [cJ]
 split
 ·rename_i h
  subst h
  exact hi.symm
 ·rename_i h
  exact s2.env u (fun e=>h e.symm)
theorem JT {g2:Bool} {d2:D} {t2:Nat} (hs:cP T C ν ops o1 σ=some σ1) (hk:cI T C ν ops o1 σ= .eff) (h2:dT T C ν ops o2 σ1 g2 d2 t2) (ap:ru ops o1 o2)
  (hc:o2.op.operands.toList.all (aY σ1.env)=true) (hi:lP d2=true) (hld: ∀t a d,o2.op= .load t a->bl g2 (opnd σ1.env a)=some d->loadAt (T t) σ d=loadAt (T t) σ1 d):
  ∃s,dT T C ν ops o2 σ g2 d2 t2/\cI T C ν ops o2 σ=cI T C ν ops o2 σ1/\cP T C ν ops o1 { σ with env:=put σ.env t2 d2 } =some s/\cI T C ν ops o1 { σ with env:=put σ.env t2 d2 } = .eff/\E0 { σ1 with env:=put σ1.env t2 d2 } s:=by
 obtain⟨_,q1,q2,_⟩:=qT hs hk
 have W:=(gB q1 q2).1
 have hdst:o1.dst≠some t2:=fun h=>ap.c t2 h h2.dst
 have hq: ∀u,eB ops o2 u->bI σ.env u=bI σ1.env u:=by
  intro u hu
  have hdu:o1.dst≠some u:=fun h=>ap.a u h hu
  have hcu:lP (bI σ1.env u)=true:=by
   rcases hu with hu|hu
   ·have hcu:=List.all_eq_true.1 hc _ hu
    simpa only [aY] using hcu
   ·exact (eh h2.gd hu).1
  exact (W.p2 u hdu hcu).symm
 have hf:aN (bI σ.env t2)=false:=by
  rw [<-W.p3 t2 hdst (fun h=>ap.b t2 h2.dst (.inl h))];exact h2.fresh
 have hm:=h2.move (σ':=σ) hq hf hld
 have ag:Ag (fun u=>u=t2) σ { σ with env:=put σ.env t2 d2 } :=⟨rfl,fun u hu=>by simp only [cJ];rw [if_neg (fun h=>hu h.symm)]⟩
 obtain⟨s,s1,s2,s3⟩:=vg ag (fun u hu h=>ap.b t2 h2.dst (by subst h;exact hu)) (by
  cases hd:o1.dst with
  |none=>trivial
  |some u=>exact fun h=>hdst (by rw [hd,h])) hs hk
 obtain⟨_,r1,r2,_⟩:=qT s1 s3
 have W2:=(gB r1 r2).1
 refine⟨s,hm.1,hm.2,s1,s3,s2.S,fun u _=>?_⟩
 simp only [cJ]
 split
 ·rename_i h
  subst h
  have:=W2.p1 t2 hdst (by simp only [cJ,if_true];exact hi)
  simp only [cJ,if_true] at this
  exact this
 ·rename_i h
  exact s2.env u (fun e=>h e.symm)
theorem wK {ro mv give:Nat->Bool} {dst:Option Nat} {ot:Nat} {op:Op} {args:List D} (hk:bN σ.env op=true) (ha:kx give σ op=some args) (hs:aJ T C ro mv give σ dst ot op=some σ'):
  ∃f d,C f args σ.S=some (d,σ'.S)/\σ'.env=putDst (kill (jF σ.S args) σ.env) dst (offReg (kill (jF σ.S args) σ.env) dst d)/\
   ∀ {X:Nat->Prop} {e2:Env} {S2 S2':bH},EA X σ.env e2->fO X op->C f args S2=some (d,S2')->aJ T C ro mv give ⟨e2,S2⟩ dst ot op=some ⟨putDst (kill (jF S2 args) e2) dst (offReg (kill (jF S2 args) e2) dst d),S2'⟩:=by
 cases op<;>try (simp only [kx] at ha;cases ha;done)
 rename_i c
 have hin: ∀x∈c.args.toList,x∈(Op.call c).operands.toList:=fun x hx=>by simp only [Op.operands,Call.operands,Array.toList_append,List.mem_append];exact .inr hx
 unfold bN at hk
 unfold kx at ha
 simp only at hk ha
 split at ha
 ·rename_i f hcal
  rw [hcal] at hk
  simp only at hk
  simp only [aJ,hcal] at hs
  split at ha<;>first|(cases ha;done)|skip
  rename_i args' s1 hargs
  obtain⟨a1,a2⟩:=gR hk hargs
  simp only at a1
  subst a1
  cases ha
  simp only [hargs] at hs
  cases hb:(args.all bare&& !jA mv dst) with
  |true=>rw [hb] at hs;cases hs
  |false=>
   rw [hb,cond_false] at hs
   split at hs<;>first|(cases hs;done)|skip
   rename_i d S' hC
   simp only [Option.some.injEq] at hs
   subst hs
   refine⟨f,d,hC,rfl,fun {X e2 S2 S2'} ag ho hC2=>?_⟩
   have h1:=a2 (σ':=⟨e2,S2⟩) ag (fun x hx=>ho x (hin x hx))
   simp only [aJ,hcal,h1,hb,cond_false,hC2]
 ·rename_i x hcal
  rw [hcal] at hk
  simp only [Bool.and_eq_true] at hk
  simp only [aJ,hcal] at hs
  split at ha<;>first|(cases ha;done)|skip
  rename_i f caps args' s1 hx hargs
  obtain⟨a1,a2⟩:=gR hk.2 hargs
  simp only at a1
  subst a1
  cases ha
  simp only [hx,hargs] at hs
  cases hb:caps.all bJ with
  |false=>rw [hb] at hs;cases hs
  |true=>
   rw [hb,cond_true] at hs
   split at hs<;>first|(cases hs;done)|skip
   rename_i d S' hC
   simp only [Option.some.injEq] at hs
   subst hs
   refine⟨f,d,hC,rfl,fun {X e2 S2 S2'} ag ho hC2=>?_⟩
   have h1:=a2 (σ':=⟨e2,S2⟩) ag (fun x hx=>ho x (hin x hx))
   have h2:bI e2 x=bI s1.env x:=ag x (ho (.tmp x) (by simp [Op.operands,Call.operands,hcal]))
   simp only [aJ,hcal,h1,h2,hx,hb,cond_true,hC2]
 ·cases ha
theorem ur {give:Nat->Bool} {op:Op} {args:List D} (ag:EA X σ.env σ1.env) (ho:fO X op) (hk:bN σ.env op=true) (ha:kx give σ op=some args):kx give σ1 op=some args:=by
 cases op<;>try (simp only [kx] at ha;cases ha;done)
 rename_i c
 have hin: ∀x∈c.args.toList,x∈(Op.call c).operands.toList:=fun x hx=>by simp only [Op.operands,Call.operands,Array.toList_append,List.mem_append];exact .inr hx
 unfold bN at hk
 unfold kx at ha⊢
 simp only at hk ha⊢
 split at ha
 ·rename_i f hcal
  rw [hcal] at hk
  simp only at hk
  split at ha<;>first|(cases ha;done)|skip
  rename_i args' s1 hargs
  obtain⟨a1,a2⟩:=gR hk hargs
  cases ha
  rw [a2 ag (fun x hx=>ho x (hin x hx))]
 ·rename_i x hcal
  rw [hcal] at hk
  simp only [Bool.and_eq_true] at hk
  split at ha<;>first|(cases ha;done)|skip
  rename_i f caps args' s1 hx hargs
  obtain⟨a1,a2⟩:=gR hk.2 hargs
  cases ha
  have h2:bI σ1.env x=bI σ.env x:=ag x (ho (.tmp x) (by simp [Op.operands,Call.operands,hcal]))
  rw [a2 ag (fun x hx=>ho x (hin x hx)),h2,hx]
 ·cases ha
theorem BO {S S':bH} {args:List D} {r:Option (Nat×Nat×Nat)} (hl: ∀o,jF S args (.cell o 0)=false->S'[o]? =S[o]?) (hr:xk (qp S args) r=true): ∃o off n,r=some (o,off,n)/\S'[o]? =S[o]? /\ ∀j,jF S args (.cell o j)=false:=by
 cases r with
 |none=>cases hr
 |some p=>
  obtain⟨o,off,n⟩:=p
  simp only [xk,Bool.not_eq_true'] at hr
  exact⟨o,off,n,rfl,hl o hr,fun j=>hr⟩
theorem J6 {g:Bool} {op:Op} {q off n:Nat} (hr:aL T σ g op=some (q,off,n)) {t:Nat} {a:Operand} {d:D} (hop:op= .load t a) (hf:bl g (opnd σ.env a)=some d) {σ3 σ4:St} (hS:σ3.S[q]? =σ4.S[q]?):loadAt (T t) σ3 d=loadAt (T t) σ4 d:=by
 subst hop
 simp only [aL,hf] at hr
 cases d with
 |ptr o off'=>
  simp only [Option.some.injEq,Prod.mk.injEq] at hr
  obtain⟨rfl,_,_⟩:=hr
  simp only [loadAt,hS]
 |_=>simp at hr
theorem LF {S:bH} {args:List D} {q off n:Nat} {d:D} (hi:cv d=true) (ho:tW (some (q,off,n)) d=false) (hq: ∀j,jF S args (.cell q j)=false):iy (jF S args) d=d:=by
 unfold cv at hi
 split at hi
 ·rename_i f sz l p j
  simp only [tW,Bool.not_eq_false',beq_iff_eq] at ho
  subst ho
  simp only [iy,hq,cond_false]
 ·rename_i g f sz l p j
  simp only [tW,Bool.not_eq_false',beq_iff_eq] at ho
  subst ho
  simp only [iy,hq,cond_false]
 ·exact AV hi
end
end Go.Mx
namespace Go.Mx
open Go
section
variable {T:Nat->Ty} {C:aj} {ν:cL} {ops:List Oper} {o o1 o2:Oper} {σ σ' σ1 σ2:St}
theorem E0.refl (σ:St):E0 σ σ:=⟨rfl,fun _ _=>rfl⟩
theorem E0.trans (a:E0 σ σ1) (b:E0 σ1 σ2):E0 σ σ2:=⟨b.S.trans a.S,fun u hu=>(b.env u hu).trans (a.env u hu)⟩
theorem E0.symm (a:E0 σ σ1):E0 σ1 σ:=⟨a.S.symm,fun u hu=>(a.env u hu).symm⟩
theorem gC (x:Operand):u4 (fun _=>False) x:=by cases x<;>simp [u4]
theorem xL (x:Option Nat):Az (fun _=>False) x:=by cases x<;>simp [Az]
theorem Ja (h:E0 σ σ'):ROs (fun _=>False) (cP T C ν ops o σ) (cP T C ν ops o σ'):=by
 have eg:aQ ops σ'.env o.guard=aQ ops σ.env o.guard:=dQ h.env (fun _ _ _ _ _ _ _ hf=>hf)
 have ew:=zf (T:=T) (C:=C) (ro:=ν.ro) (mv:=ν.mv) (give:=ν.give) h (dst:=o.dst) (ot:=o.type) (op:=o.op) (fun x _=>gC x) (xL _) (.inl (fun _ hf=>hf))
 unfold cP
 simp only [eg]
 cases aQ ops σ.env o.guard with
 |none=>trivial
 |some g=>
  simp only
  refine ROs.cond _ (ROs.cond _ ?_ ⟨h.S,h.env.putDst (xL _) _⟩) ?_
  ·rw [wJ h.env (fun x _=>gC x)]
   exact ROs.cond _ ew trivial
  ·rw [fX h.env (fun x _=>gC x),Dy h (fun x _=>gC x) (fun l=>h.ownAt (fun _ hf=>hf) l)]
   refine ROs.cond _ trivial ?_
   cases gx g o.guard.isNone (aK T C σ g o.op) with
   |none=>exact ROs.cond _ ew trivial
   |some d=>
    simp only
    rw [h.env.offReg (xL _)]
    exact⟨h.S,h.env.putDst (xL _) _⟩
theorem A2 (h:E0 σ σ'):cI T C ν ops o σ'=cI T C ν ops o σ:=by
 have eg:aQ ops σ'.env o.guard=aQ ops σ.env o.guard:=dQ h.env (fun _ _ _ _ _ _ _ hf=>hf)
 have el: ∀t,bI σ'.env t=bI σ.env t:=fun t=>h.env t (fun hf=>hf)
 have eo: ∀x,opnd σ'.env x=opnd σ.env x:=fun x=>h.env.opnd (gC x)
 have ec: ∀x,aY σ'.env x=aY σ.env x:=fun x=>by cases x<;>simp only [aY,el]
 unfold cI
 simp only [eg]
 cases aQ ops σ.env o.guard with
 |none=>rfl
 |some g=>
  simp only
  rw [Br h (fun x _=>gC x),Dy h (fun x _=>gC x) (fun l=>h.ownAt (fun _ hf=>hf) l),h.S]
  have e1:aI σ'.env o.dst=aI σ.env o.dst:=by
   unfold aI
   cases o.dst with
   |none=>rfl
   |some t=>simp only [el]
  have e2:aL T σ' g o.op=aL T σ g o.op:=by
   unfold aL
   split<;>simp only [eo]
  have e3:o.op.operands.toList.all (aY σ'.env)=o.op.operands.toList.all (aY σ.env):=by
   congr 1;funext x;exact ec x
  rw [e1,e2,e3,yB h.env (fun x _=>gC x)]
def wx:Op->Bool
 | .build .. | .buildSlice .. | .assign _| .makeSlice .. | .convert .. =>true
 |_=>false
theorem zH (own:Bool) (op:Op) (k:Kd):cd own op k=k∨ ∃n,k= .work none n/\(((∃t,op= .alloc t)/\own=false/\cd own op k= .new n)∨(wx op=true/\cd own op k= .reg)):=by
 cases k with
 |work wr n=>
  cases wr with
  |some _=>exact .inl rfl
  |none=>
   cases op with
   |alloc t=>cases own with
    |true=>exact .inl rfl
    |false=>exact .inr ⟨n,rfl,.inl ⟨⟨t,rfl⟩,rfl,rfl⟩⟩
   |build _ _=>exact .inr ⟨n,rfl,.inr ⟨rfl,rfl⟩⟩
   |buildSlice _ _ _=>exact .inr ⟨n,rfl,.inr ⟨rfl,rfl⟩⟩
   |assign _=>exact .inr ⟨n,rfl,.inr ⟨rfl,rfl⟩⟩
   |makeSlice _ _ _=>exact .inr ⟨n,rfl,.inr ⟨rfl,rfl⟩⟩
   |convert _ _ _=>exact .inr ⟨n,rfl,.inr ⟨rfl,rfl⟩⟩
   |_=>exact .inl rfl
 |_=>exact .inl rfl
theorem gu:cI T C ν ops o σ≠ .reg/\ ∀n,cI T C ν ops o σ≠ .new n:=by
 have hW:bM T σ o.op≠ .reg/\ ∀n,bM T σ o.op≠ .new n:=by
  unfold bM
  split
  ·split
   ·split
    ·generalize List.any _ _=q
     cases q<;>exact⟨fun h=>(by cases h),fun n h=>(by cases h)⟩
    ·exact⟨fun h=>(by cases h),fun n h=>(by cases h)⟩
   ·exact⟨fun h=>(by cases h),fun n h=>(by cases h)⟩
  ·generalize au _=p
   generalize bN _ _=q
   cases p<;>cases q<;>exact⟨fun h=>(by cases h),fun n h=>(by cases h)⟩
 unfold cI
 split
 ·exact⟨fun h=>(by cases h),fun n h=>(by cases h)⟩
 ·rename_i g hg
  cases be T ν o with
  |true=>
   cases g with
   |true=>exact hW
   |false=>exact⟨fun h=>(by cases h),fun n h=>(by cases h)⟩
  |false=>
   simp only [cond_false]
   split
   ·cases aI σ.env o.dst<;>exact⟨fun h=>(by cases h),fun n h=>(by cases h)⟩
   ·generalize (g&&bN σ.env o.op)=q
    cases q<;>exact⟨fun h=>(by cases h),fun n h=>(by cases h)⟩
theorem ez:cT T C ν ops o σ=cI T C ν ops o σ∨(aQ ops σ.env o.guard=some true/\ ∃n,cI T C ν ops o σ= .work none n/\(((∃t,o.op= .alloc t)/\aI σ.env o.dst=false/\cT T C ν ops o σ= .new n)∨(wx o.op=true/\(cT T C ν ops o σ= .reg∨ ∃w,layOf T C ν o σ=some w/\cT T C ν ops o σ= .lay w))))∨(aQ ops σ.env o.guard=some true/\cI T C ν ops o σ= .eff/\((∃args,kx ν.give σ o.op=some args/\cT T C ν ops o σ= .call (qp σ.S args))∨(ub σ.env o.op=true/\cT T C ν ops o σ= .ap))):=by
 unfold cT
 split
 ·rename_i hg
  rcases zH (aI σ.env o.dst) o.op (cI T C ν ops o σ) with h|⟨n,h1,h2⟩
  ·rw [h]
   cases hk:cI T C ν ops o σ with
   |eff=>
    cases ha:kx ν.give σ o.op with
    |none=>cases hb:ub σ.env o.op with
     |false=>exact .inl (by simp only [qB,ha,hb,cond_false])
     |true=>exact .inr (.inr ⟨hg,rfl,.inr ⟨rfl,by simp only [qB,ha,hb,cond_true]⟩⟩)
    |some args=>exact .inr (.inr ⟨hg,rfl,.inl ⟨args,rfl,by simp only [qB,ha]⟩⟩)
   |reg=>exact absurd hk gu.1
   |_=>exact .inl rfl
  ·refine .inr (.inl ⟨hg,n,h1,?_⟩)
   rcases h2 with⟨a,b,c⟩|⟨a,b⟩
   ·exact .inl ⟨a,b,by rw [c];rfl⟩
   ·refine .inr ⟨a,?_⟩
    rw [b]
    cases hl:layOf T C ν o σ with
    |none=>exact .inl (by simp only [qB,hl])
    |some w=>exact .inr ⟨w,rfl,by simp only [qB,hl]⟩
 ·exact .inl rfl
theorem NV {X:Nat->Prop} (ag:Ag X σ σ') (hoo:fO X o.op) (hd:Az X o.dst) (hr:wx o.op=true):layOf T C ν o σ'=layOf T C ν o σ:=by
 have e1:o.op.operands.toList.all (aY σ'.env)=o.op.operands.toList.all (aY σ.env):=by
  have: ∀x∈o.op.operands.toList,aY σ'.env x=aY σ.env x:=by
   intro x hx
   have hx':=hoo x hx
   cases x with
   |tmp u=>simp only [aY];rw [ag.env u hx']
   |_=>rfl
  rw [Bool.eq_iff_iff,List.all_eq_true,List.all_eq_true]
  exact⟨fun q x hx=>by rw [<-this x hx];exact q x hx,fun q x hx=>by rw [this x hx];exact q x hx⟩
 have hw:=zf (T:=T) (C:=C) (ro:=ν.ro) (mv:=ν.mv) (give:=ν.give) ag (dst:=o.dst) (ot:=o.type) (op:=o.op) hoo hd (.inr (.inl (by revert hr;cases o.op<;>intro hr<;>first|rfl|(cases hr;done))))
 unfold layOf
 rw [e1]
 cases zL o.op&&o.op.operands.toList.all (aY σ.env) with
 |false=>cases o.dst<;>rfl
 |true=>
  cases hq:o.dst with
  |none=>rfl
  |some t=>
   rw [hq] at hd hw
   have e2:bI σ'.env t=bI σ.env t:=ag.env t hd
   dsimp only
   rw [e2]
   revert hw
   cases aJ T C ν.ro ν.mv ν.give σ (some t) o.type o.op with
   |none=>
    cases aJ T C ν.ro ν.mv ν.give σ' (some t) o.type o.op with
    |none=>intro _;rfl
    |some s'=>intro hw;exact hw.elim
   |some s=>
    cases aJ T C ν.ro ν.mv ν.give σ' (some t) o.type o.op with
    |none=>intro hw;exact hw.elim
    |some s'=>
     intro hw
     have e3:bI s'.env t=bI s.env t:=hw.env t hd
     cases aN (bI σ.env t) with
     |true=>rfl
     |false=>dsimp only;rw [e3]
theorem Hr {X:Nat->Prop} {e e':Env} (he:EA X e e') {op:Op} (ho:fO X op):ub e' op=ub e op:=by
 unfold ub
 split
 ·rename_i c
  split
  ·split
   ·rename_i x _ hx
    rw [he.opnd (ho x (by simp only [Op.operands,Call.operands,Array.toList_append,List.mem_append,hx];exact .inr List.mem_cons_self))]
   ·rfl
  ·rfl
 ·rfl
theorem Be {X:Nat->Prop} (ag:Ag X σ σ') (ho: ∀u,eB ops o u-> ¬X u) (hd:Az X o.dst) (he:cI T C ν ops o σ= .eff->bN σ.env o.op=true/\bN σ'.env o.op=true) (hk:cI T C ν ops o σ'=cI T C ν ops o σ):cT T C ν ops o σ'=cT T C ν ops o σ:=by
 have eg:aQ ops σ'.env o.guard=aQ ops σ.env o.guard:=dQ ag.env (fun j b p t h1 h2 h3=>ho t (.inr ⟨j,b,p,h1,h2,h3⟩))
 have e1:aI σ'.env o.dst=aI σ.env o.dst:=by
  unfold aI
  cases hq:o.dst with
  |none=>rfl
  |some t=>rw [hq] at hd;simp only [ag.env t hd]
 have hoo:fO X o.op:=by
  intro x hx
  cases x with
  |tmp u=>exact ho u (.inl hx)
  |_=>trivial
 unfold cT
 rw [eg,e1,hk]
 split
 ·rcases zH (aI σ.env o.dst) o.op (cI T C ν ops o σ) with h|⟨n,h1,h2⟩
  ·rw [h]
   cases hq:cI T C ν ops o σ with
   |eff=>
    obtain⟨q1,q2⟩:=he hq
    have e2:kx ν.give σ' o.op=kx ν.give σ o.op:=by
     cases ha:kx ν.give σ o.op with
     |some args=>exact ur ag.env hoo q1 ha
     |none=>
      cases hb:kx ν.give σ' o.op with
      |none=>rfl
      |some args=>
       have:=ur (σ:=σ') (σ1:=σ) (fun u hu=>(ag.env u hu).symm) hoo q2 hb
       rw [ha] at this;cases this
    simp only [qB,e2,ag.S,Hr ag.env hoo]
   |reg=>exact absurd hq gu.1
   |_=>rfl
  ·rcases h2 with⟨_,_,c⟩|⟨hr,b⟩
   ·rw [c];rfl
   ·rw [b]
    simp only [qB,NV (T:=T) (C:=C) (ν:=ν) ag hoo hd hr]
 ·rfl
theorem vt (hk:cI T C ν ops o σ= .eff):bN σ.env o.op=true:=by
 unfold cI at hk
 split at hk
 ·cases hk
 ·rename_i g hg
  cases hw:be T ν o with
  |true=>
   rw [hw,cond_true] at hk
   cases g with
   |false=>cases hk
   |true=>
    simp only [cond_true] at hk
    unfold bM at hk
    split at hk
    ·rename_i t a x hop
     split at hk
     ·rename_i oo off hp
      rw [hop]
      simp only [bN,hp]
     ·cases hk
    ·cases hp:au o.op with
     |true=>rw [hp] at hk;cases hk
     |false=>
      rw [hp,cond_false] at hk
      cases he:bN σ.env o.op with
      |true=>rfl
      |false=>rw [he] at hk;cases hk
  |false=>
   rw [hw,cond_false] at hk
   split at hk
   ·cases hod:aI σ.env o.dst<;>rw [hod] at hk<;>simp at hk
   ·cases g with
    |false=>cases hk
    |true=>
     cases he:bN σ.env o.op with
     |true=>rfl
     |false=>rw [he] at hk;cases hk
theorem LT (h:E0 σ σ'):cT T C ν ops o σ'=cT T C ν ops o σ:=
 Be h (fun _ _ hf=>hf) (xL _) (fun he=>⟨vt he,by rw [<-A2 h] at he;exact vt he⟩) (A2 h)
theorem du (h: ∀n,cI T C ν ops o σ≠ .work none n) (h':cI T C ν ops o σ≠ .eff):cT T C ν ops o σ=cI T C ν ops o σ:=by
 rcases ez (T:=T) (C:=C) (ν:=ν) (ops:=ops) (o:=o) (σ:=σ) with e|⟨_,n,e,_⟩|⟨_,e,_⟩
 ·exact e
 ·exact absurd e (h n)
 ·exact absurd e h'
theorem eI {c w r m k} (h:cT T C ν ops o σ= .still c w r m k):cI T C ν ops o σ= .still c w r m k:=by
 rcases ez (T:=T) (C:=C) (ν:=ν) (ops:=ops) (o:=o) (σ:=σ) with e|⟨_,n,_,⟨_,_,e⟩|⟨_,e|⟨_,_,e⟩⟩⟩|⟨_,_,⟨_,_,e⟩|⟨_,e⟩⟩
 ·rw [<-e];exact h
 all_goals (rw [e] at h;cases h)
theorem Ia (h:cT T C ν ops o σ= .eff):cI T C ν ops o σ= .eff:=by
 rcases ez (T:=T) (C:=C) (ν:=ν) (ops:=ops) (o:=o) (σ:=σ) with e|⟨_,n,_,⟨_,_,e⟩|⟨_,e|⟨_,_,e⟩⟩⟩|⟨_,_,⟨_,_,e⟩|⟨_,e⟩⟩
 ·rw [<-e];exact h
 all_goals (rw [e] at h;cases h)
theorem xh (w:Bool):cI T C ν ops o σ≠ .lay w:=by
 unfold cI bM
 intro h
 split at h
 ·cases h
 ·rename_i g _
  cases hw:be T ν o with
  |true=>
   rw [hw,cond_true] at h
   cases g with
   |false=>cases h
   |true=>
    rw [cond_true] at h
    split at h
    ·split at h
     ·split at h
      ·revert h;generalize List.any _ _=q;cases q<;>intro h<;>cases h
      ·cases h
     ·cases h
    ·revert h;generalize au _=p;generalize bN _ _=q;cases p<;>cases q<;>intro h<;>cases h
  |false=>
   rw [hw,cond_false] at h
   split at h
   ·revert h;generalize aI _ _=q;cases q<;>intro h<;>cases h
   ·revert h;generalize (_&&_:Bool)=q;cases q<;>intro h<;>cases h
theorem Ar {ft:List Nat} :cI T C ν ops o σ≠ .call ft:=by
 unfold cI bM
 intro h
 split at h
 ·cases h
 ·rename_i g _
  cases hw:be T ν o with
  |true=>
   rw [hw,cond_true] at h
   cases g with
   |false=>cases h
   |true=>
    rw [cond_true] at h
    split at h
    ·split at h
     ·split at h
      ·revert h;generalize List.any _ _=q;cases q<;>intro h<;>cases h
      ·cases h
     ·cases h
    ·revert h;generalize au _=p;generalize bN _ _=q;cases p<;>cases q<;>intro h<;>cases h
  |false=>
   rw [hw,cond_false] at h
   split at h
   ·revert h;generalize aI _ _=q;cases q<;>intro h<;>cases h
   ·revert h;generalize (_&&_:Bool)=q;cases q<;>intro h<;>cases h
theorem u0 {ft:List Nat} (h:cT T C ν ops o σ= .call ft):cI T C ν ops o σ= .eff/\ ∃args,kx ν.give σ o.op=some args/\ft=qp σ.S args:=by
 rcases ez (T:=T) (C:=C) (ν:=ν) (ops:=ops) (o:=o) (σ:=σ) with e|⟨_,n,_,⟨_,_,e⟩|⟨_,e|⟨_,_,e⟩⟩⟩|⟨_,k,⟨args,ha,e⟩|⟨_,e⟩⟩
 ·rw [e] at h;exact absurd h Ar
 ·rw [e] at h;cases h
 ·rw [e] at h;cases h
 ·rw [e] at h;cases h
 ·rw [e] at h;cases h;exact⟨k,args,ha,rfl⟩
 ·rw [e] at h;cases h
theorem xV (h:cT T C ν ops o σ= .ap):cI T C ν ops o σ= .eff/\ub σ.env o.op=true:=by
 rcases ez (T:=T) (C:=C) (ν:=ν) (ops:=ops) (o:=o) (σ:=σ) with e|⟨_,n,_,⟨_,_,e⟩|⟨_,e|⟨_,_,e⟩⟩⟩|⟨_,k,⟨_,_,e⟩|⟨b,_⟩⟩
 ·rw [e] at h
  unfold cI bM at h
  split at h
  ·cases h
  ·rename_i g _
   cases hw:be T ν o with
   |true=>
    rw [hw,cond_true] at h
    cases g with
    |false=>cases h
    |true=>
     rw [cond_true] at h
     split at h
     ·split at h
      ·split at h
       ·revert h;generalize List.any _ _=q;cases q<;>intro h<;>cases h
       ·cases h
      ·cases h
     ·revert h;generalize au _=p;generalize bN _ _=q;cases p<;>cases q<;>intro h<;>cases h
   |false=>
    rw [hw,cond_false] at h
    split at h
    ·revert h;generalize aI _ _=q;cases q<;>intro h<;>cases h
    ·revert h;generalize (_&&_:Bool)=q;cases q<;>intro h<;>cases h
 ·rw [e] at h;cases h
 ·rw [e] at h;cases h
 ·rw [e] at h;cases h
 ·rw [e] at h;cases h
 ·exact⟨k,b⟩
theorem NE {e:Env} {op:Op} (h:ub e op=true): ∃c x r sz l,op= .call c/\c.callee= .builtin .append/\c.args.toList=x::r/\bl true (opnd e x)=some (.own sz l):=by
 cases op<;>try (cases h;done)
 rename_i c
 unfold ub at h
 simp only at h
 split at h
 ·rename_i hc
  split at h
  ·rename_i x r hx
   split at h
   ·rename_i sz l hf
    exact⟨c,x,r,sz,l,rfl,hc,hx,hf⟩
   ·cases h
  ·cases h
 ·cases h
theorem Pb {ro mv give:Nat->Bool} {dst:Option Nat} {ot:Nat} {op:Op} {e:Env} {S:bH} {τ:St} (ha:ub e op=true) (h:aJ T C ro mv give ⟨e,S⟩ dst ot op=some τ) (S':bH):τ.S=S/\aJ T C ro mv give ⟨e,S'⟩ dst ot op=some ⟨τ.env,S'⟩:=by
 obtain⟨c,x,r,sz,l,rfl,hc,hx,hf⟩:=NE ha
 simp only [aJ,hc,hx] at h⊢
 cases r with
 |nil=>cases h
 |cons y r=>cases r with
  |cons _ _=>cases h
  |nil=>cases ht:c.argTypes.toList with
   |nil=>rw [ht] at h;cases h
   |cons tx q=>cases q with
    |nil=>rw [ht] at h;cases h
    |cons ty q=>cases q with
     |cons _ _=>rw [ht] at h;cases h
     |nil=>cases dst with
      |none=>rw [ht] at h;cases h
      |some u=>
       rw [ht] at h
       simp only [hf] at h⊢
       split at h<;>try (cases h;done)
       rename_i e dx dy hte hdx hdy
       simp only [Option.some.injEq] at hdx
       subst hdx
       simp only [hte,hdy] at h⊢
       split at h<;>try (cases h;done)
       rename_i zy ly hm
       simp only [Bool.cond_eq_ite] at h⊢
       split at h<;>try (cases h;done)
       split at h<;>try (cases h;done)
       simp only [Option.some.injEq] at h
       subst h
       refine⟨rfl,?_⟩
       simp only [*,if_true]
theorem Jy {e:Env} {S:bH} {τ:St} (ha:ub e o.op=true) (hg:aQ ops e o.guard=some true) (h:cP T C ν ops o ⟨e,S⟩=some τ) (S':bH):τ.S=S/\cP T C ν ops o ⟨e,S'⟩=some ⟨τ.env,S'⟩:=by
 have hw:be T ν o=true:=by
  obtain⟨c,x,r,sz,l,hop,hc,hx,hf⟩:=NE ha
  simp only [be,hop,hc]
 unfold cP at h⊢
 simp only [hg,hw,cond_true] at h⊢
 cases hk:bf T e o with
 |false=>rw [hk] at h;cases h
 |true=>
  rw [hk,cond_true] at h
  rw [cond_true]
  exact Pb ha h S'
theorem Pf (hg:aQ ops σ.env o.guard=some true) (ha:ub σ.env o.op=true):cI T C ν ops o σ= .eff/\cT T C ν ops o σ= .ap:=by
 obtain⟨c,x,r,sz,l,hop,hc,hx,hf⟩:=NE ha
 have hk:cI T C ν ops o σ= .eff:=by
  unfold cI
  simp only [hg,be,hop,hc,cond_true,bM,au,cond_false,bN,hx,hf]
 refine⟨hk,?_⟩
 unfold cT
 simp only [hg,hk,cd,qB]
 have:kx ν.give σ o.op=none:=by simp only [hop,kx,hc]
 simp only [this,ha,cond_true]
theorem Ez {wr n} (h:cT T C ν ops o σ= .work wr n):cI T C ν ops o σ= .work wr n:=by
 rcases ez (T:=T) (C:=C) (ν:=ν) (ops:=ops) (o:=o) (σ:=σ) with e|⟨_,n,_,⟨_,_,e⟩|⟨_,e|⟨_,_,e⟩⟩⟩|⟨_,_,⟨_,_,e⟩|⟨_,e⟩⟩
 ·rw [<-e];exact h
 all_goals (rw [e] at h;cases h)
theorem Bx (h:cT T C ν ops o σ= .reg):aQ ops σ.env o.guard=some true/\wx o.op=true/\ ∃n,cI T C ν ops o σ= .work none n:=by
 rcases ez (T:=T) (C:=C) (ν:=ν) (ops:=ops) (o:=o) (σ:=σ) with e|⟨hg,n,e1,⟨_,_,e⟩|⟨hr,e|⟨_,_,e⟩⟩⟩|⟨_,_,⟨_,_,e⟩|⟨_,e⟩⟩
 ·rw [e] at h;exact absurd h gu.1
 ·rw [e] at h;cases h
 ·exact⟨hg,hr,n,e1⟩
 all_goals (rw [e] at h;cases h)
theorem wC {n:Nat} (h:cT T C ν ops o σ= .new n):aQ ops σ.env o.guard=some true/\(∃t,o.op= .alloc t)/\aI σ.env o.dst=false/\cI T C ν ops o σ= .work none n:=by
 rcases ez (T:=T) (C:=C) (ν:=ν) (ops:=ops) (o:=o) (σ:=σ) with e|⟨hg,m,e1,⟨ht,ho,e⟩|⟨hr,e|⟨_,_,e⟩⟩⟩|⟨_,_,⟨_,_,e⟩|⟨_,e⟩⟩
 ·rw [e] at h;exact absurd h (gu.2 n)
 ·rw [e] at h;simp only [Kd.new.injEq] at h;subst h;exact⟨hg,ht,ho,e1⟩
 all_goals (rw [e] at h;cases h)
theorem A7 {ro mv give:Nat->Bool} {dst:Option Nat} {ot:Nat} {op:Op} {e:Env} {S:bH} {τ:St} (hr:wx op=true) (h:aJ T C ro mv give ⟨e,S⟩ dst ot op=some τ) (S':bH):τ.S=S/\aJ T C ro mv give ⟨e,S'⟩ dst ot op=some ⟨τ.env,S'⟩:=by
 cases op<;>try (cases hr;done)
 all_goals
  simp only [aJ,Bool.cond_eq_ite] at h⊢
  repeat' (first|(cases h;done)|split at h)
  all_goals (simp only [Option.some.injEq] at h;subst h;refine⟨rfl,?_⟩;first|(simp only [*,if_true,eq_self];done)|(simp only [*,if_true];done)|(simp_all;done))
theorem ik {e:Env} {S:bH} {τ:St} (hg:aQ ops e o.guard=some true) (hw:be T ν o=true) (hr:wx o.op=true) (h:cP T C ν ops o ⟨e,S⟩=some τ) (S':bH):τ.S=S/\cP T C ν ops o ⟨e,S'⟩=some ⟨τ.env,S'⟩:=by
 unfold cP at h⊢
 simp only [hg,hw,cond_true] at h⊢
 cases hk:bf T e o with
 |false=>rw [hk] at h;cases h
 |true=>
  rw [hk,cond_true] at h
  rw [cond_true]
  exact A7 hr h S'
theorem Aw (hg:aQ ops σ.env o.guard=some true) (hw:be T ν o=true) (hr:wx o.op=true):cT T C ν ops o σ=qB T C ν o σ .reg:=by
 have hk:cI T C ν ops o σ= .work none σ.S.length:=by
  unfold cI
  simp only [hg,hw,cond_true]
  revert hr
  cases o.op<;>intro hr<;>first|(cases hr;done)|rfl
 unfold cT
 rw [hg,hk]
 revert hr
 cases o.op<;>intro hr<;>first|(cases hr;done)|rfl
theorem qbL (hr:wx o.op=true) (e:Env) (S S':bH):layOf T C ν o ⟨e,S'⟩=layOf T C ν o ⟨e,S⟩:=by
 unfold layOf
 cases zL o.op&&o.op.operands.toList.all (aY e) with
 |false=>cases o.dst<;>rfl
 |true=>
  cases hq:o.dst with
  |none=>rfl
  |some t=>
   simp only
   cases h:aJ T C ν.ro ν.mv ν.give ⟨e,S⟩ (some t) o.type o.op with
   |some τ=>rw [(A7 hr h S').2];cases aN (bI e t)<;>rfl
   |none=>
    cases h':aJ T C ν.ro ν.mv ν.give ⟨e,S'⟩ (some t) o.type o.op with
    |none=>rfl
    |some τ=>rw [(A7 hr h' S).2] at h;cases h
theorem tC {o:Oper} {t:Nat} (h:o.dst≠some t):Az (fun u=>u=t) o.dst:=by
 cases hd:o.dst with
 |none=>trivial
 |some u=>exact fun e=>h (by rw [hd,e])
theorem Kk {n n1:Nat} (s1:cP T C ν ops o1 σ=some σ1) (g1:aQ ops σ.env o1.guard=some true) (r1:wx o1.op=true) (w1:cI T C ν ops o1 σ= .work none n1) (s2:cP T C ν ops o2 σ1=some σ2) (k2:cT T C ν ops o2 σ1= .new n) (ap:ru ops o1 o2):
  ∃s s',cP T C ν ops o2 σ=some s/\cT T C ν ops o2 σ= .new n/\cP T C ν ops o1 s=some s'/\cT T C ν ops o1 s=cT T C ν ops o1 σ/\E0 σ2 s':=by
 obtain⟨g2,⟨t,hop⟩,ow2,w2⟩:=wC k2
 obtain⟨W,hn1,hw1,_⟩:=eA s1 w1
 obtain⟨W2,hn2,hw2,_⟩:=eA s2 w2
 have hS:σ1.S=σ.S:=(ik (e:=σ.env) (S:=σ.S) g1 hw1 r1 s1 []).1
 cases hd2:o2.dst with
 |none=>rw [hd2] at ow2;cases ow2
 |some t2=>
  rw [hd2] at ow2
  simp only [aI] at ow2
  have hdst:o1.dst≠some t2:=fun h=>ap.c t2 h hd2
  have hf:aN (bI σ.env t2)=false:=by
   rw [<-W.quiet.p3 t2 hdst (ap.b t2 hd2)];exact ow2
  have gσ:aQ ops σ.env o2.guard=some true:=by
   rw [<-g2]
   refine dQ (X:=fun u=>bI σ.env u≠bI σ1.env u) (e:=σ1.env) (e':=σ.env) (fun u hu=>Classical.not_not.1 hu) (fun j b p u e1 e2 e3 hx=>hx ?_)
   have hu: ∃j b p,o2.guard=some (j,b)/\ops[j]? =some p/\p.dst=some u:=⟨j,b,p,e1,e2,e3⟩
   exact (W.quiet.p2 u (fun h=>ap.a u h (.inr hu)) (eh g2 hu).1).symm
  have z2:=s2
  unfold cP at z2
  simp only [g2,hw2,cond_true,bf,hop,aJ,hd2] at z2
  cases hc:((T t).zero.length==(T t).size&&(T t).size != 0) with
  |false=>rw [hc] at z2;cases z2
  |true=>
   rw [hc,cond_true] at z2
   simp only [setReg,ow2,cond_false,Option.some.injEq] at z2
   have h2:cP T C ν ops o2 σ=some ⟨put σ.env t2 (.ptr σ.S.length 0),σ.S++ [(T t).zero]⟩:=by
    unfold cP
    simp only [gσ,hw2,cond_true,bf,hop,aJ,hd2,hc,setReg,hf,cond_false]
   have hk2:cI T C ν ops o2 σ= .work none σ.S.length:=by
    unfold cI
    simp only [gσ,hw2,cond_true,hop,bM,au]
   have h3:cT T C ν ops o2 σ= .new n:=by
    unfold cT
    rw [gσ,hk2,hop,hd2,hn2,hS]
    simp only [aI,hf,cd,qB,cond_false]
   have ag:Ag (fun u=>u=t2) σ { σ with env:=put σ.env t2 (.ptr σ.S.length 0) } :=⟨rfl,fun u hu=>by simp only [cJ];rw [if_neg (fun h=>hu h.symm)]⟩
   have ho: ∀u,eB ops o1 u-> ¬(u=t2):=fun u hu h=>ap.b t2 hd2 (by subst h;exact hu)
   obtain⟨s0,p1,p2,p3⟩:=wP ag ho (by
    cases hd:o1.dst with
    |none=>trivial
    |some u=>exact fun h=>hdst (by rw [hd,h])) s1 w1
   have g1':aQ ops (put σ.env t2 (.ptr σ.S.length 0)) o1.guard=some true:=by
    rw [<-g1]
    exact dQ ag.env (fun j b p u e1 e2 e3=>ho u (.inr ⟨j,b,p,e1,e2,e3⟩))
   obtain⟨hS0,p4⟩:=ik (e:=put σ.env t2 (.ptr σ.S.length 0)) (S:=σ.S) g1' hw1 r1 p1 (σ.S++ [(T t).zero])
   obtain⟨W3,_,_,_⟩:=eA p1 p3
   have hoo:fO (fun u=>u=t2) o1.op:=by
    intro x hx
    cases x with
    |tmp u=>exact ho u (.inl hx)
    |_=>trivial
   have hkk:cT T C ν ops o1 ⟨put σ.env t2 (.ptr σ.S.length 0),σ.S++ [(T t).zero]⟩=cT T C ν ops o1 σ:=by
    rw [Aw (σ:=⟨put σ.env t2 (.ptr σ.S.length 0),σ.S++ [(T t).zero]⟩) g1' hw1 r1,Aw g1 hw1 r1]
    simp only [qB]
    rw [qbL r1 (put σ.env t2 (.ptr σ.S.length 0)) σ.S,NV (σ:=σ) ag hoo (tC hdst) r1]
   refine⟨_,_,h2,h3,p4,hkk,?_,fun u _=>?_⟩
   ·rw [<-z2,hS]
   ·rw [<-z2,hS]
    simp only [cJ]
    split
    ·rename_i h
     subst h
     have:=W3.quiet.stand hdst (ap.b t2 hd2) (by simp only [cJ,if_true];rfl)
     simpa only [cJ,if_true] using this
    ·rename_i h
     exact p2.env u (fun e=>h e.symm)
theorem PK {n:Nat} {g1:Bool} {d1:D} {t1:Nat} (h1:dT T C ν ops o1 σ g1 d1 t1) (s2:cP T C ν ops o2 { σ with env:=put σ.env t1 d1 } =some σ2) (k2:cT T C ν ops o2 { σ with env:=put σ.env t1 d1 } = .new n) (ap:ru ops o1 o2)
  (hc:o1.op.operands.toList.all (aY σ.env)=true) (hrw:cr (aL T σ g1 o1.op) none n=true):
  ∃s,cP T C ν ops o2 σ=some s/\cT T C ν ops o2 σ= .new n/\dT T C ν ops o1 s g1 d1 t1/\cI T C ν ops o1 s=cI T C ν ops o1 σ/\E0 σ2 { s with env:=put s.env t1 d1 } :=by
 obtain⟨g2,⟨t,hop⟩,ow2,w2⟩:=wC k2
 obtain⟨W2,hn2,hw2,_⟩:=eA s2 w2
 have ag:Ag (fun u=>u=t1) { σ with env:=put σ.env t1 d1 } σ:=⟨rfl,fun u hu=>by simp only [cJ];rw [if_neg (fun h=>hu h.symm)]⟩
 have ho: ∀u,eB ops o2 u-> ¬(u=t1):=fun u hu h=>ap.a t1 h1.dst (by subst h;exact hu)
 cases hd2:o2.dst with
 |none=>rw [hd2] at ow2;cases ow2
 |some t2=>
  rw [hd2] at ow2
  simp only [aI] at ow2
  have hne:t1≠t2:=fun h=>ap.c t1 h1.dst (by rw [h];exact hd2)
  have hf:aN (bI σ.env t2)=false:=by
   rw [cJ,if_neg hne] at ow2;exact ow2
  have gσ:aQ ops σ.env o2.guard=some true:=by
   rw [<-g2]
   exact dQ ag.env (fun j b p u e1 e2 e3=>ho u (.inr ⟨j,b,p,e1,e2,e3⟩))
  have z2:=s2
  unfold cP at z2
  simp only [g2,hw2,cond_true,bf,hop,aJ,hd2] at z2
  cases hcc:((T t).zero.length==(T t).size&&(T t).size != 0) with
  |false=>rw [hcc] at z2;cases z2
  |true=>
   rw [hcc,cond_true] at z2
   simp only [setReg,ow2,cond_false,Option.some.injEq] at z2
   have h2:cP T C ν ops o2 σ=some ⟨put σ.env t2 (.ptr σ.S.length 0),σ.S++ [(T t).zero]⟩:=by
    unfold cP
    simp only [gσ,hw2,cond_true,bf,hop,aJ,hd2,hcc,setReg,hf,cond_false]
   have hk2:cI T C ν ops o2 σ= .work none σ.S.length:=by
    unfold cI
    simp only [gσ,hw2,cond_true,hop,bM,au]
   have h3:cT T C ν ops o2 σ= .new n:=by
    unfold cT
    rw [gσ,hk2,hop,hd2,hn2]
    simp only [aI,hf,cd,qB,cond_false]
   have hq: ∀u,eB ops o1 u->bI (put σ.env t2 (.ptr σ.S.length 0)) u=bI σ.env u:=by
    intro u hu
    rw [cJ,if_neg (fun h=>ap.b t2 hd2 (by subst h;exact hu))]
   have hff:aN (bI (put σ.env t2 (.ptr σ.S.length 0)) t1)=false:=by
    rw [cJ,if_neg (fun h=>hne h.symm)];exact h1.fresh
   have hm:=h1.move (σ':=⟨put σ.env t2 (.ptr σ.S.length 0),σ.S++ [(T t).zero]⟩) hq hff (fun t' a d hop' hfr=>Bf (σ:=σ) (wr:=none) (n:=n) hrw (show n=σ.S.length from hn2) (show gk σ.S (σ.S++ [(T t).zero]) none from .inr ⟨_,rfl⟩) hop' hfr (er (List.all_eq_true.1 hc a (by rw [hop'];simp [Op.operands])) hfr))
   refine⟨_,h2,h3,hm.1,hm.2,?_,fun u _=>?_⟩
   ·rw [<-z2]
   ·rw [<-z2]
    exact xX hne σ.env u
def Run (T:Nat->Ty) (C:aj) (ν:cL) (ops:List Oper):List (Nat×Kd)->St->St->Prop
 | [],σ,σ'=>E0 σ σ'
 |(i,k)::Z,σ,σ'=>∃o σ1,ops[i]? =some o/\cP T C ν ops o σ=some σ1/\cT T C ν ops o σ=k/\Run T C ν ops Z σ1 σ'
theorem Run.eqv: ∀ {Z:List (Nat×Kd)} {σ σ2 σ':St},E0 σ σ2->Run T C ν ops Z σ σ'->Run T C ν ops Z σ2 σ'
 | [],σ,σ2,σ',h,r=>h.symm.trans r
 |(i,k)::Z,σ,σ2,σ',h,r=>by
  obtain⟨o,σ1,h1,h2,h3,h4⟩:=r
  have hr:=Ja (T:=T) (C:=C) (ν:=ν) (ops:=ops) (o:=o) h
  rw [h2] at hr
  revert hr
  cases hs:cP T C ν ops o σ2 with
  |none=>intro hr;exact hr.elim
  |some s=>intro hr;exact⟨o,s,h1,hs,by rw [LT h];exact h3,Run.eqv hr h4⟩
def PL (ops:List Oper) (p q:Nat×Kd):Prop:=∃o1 o2,ops[p.1]? =some o1/\ops[q.1]? =some o2/\ru ops o1 o2/\bd p.2 q.2=true
theorem IQ {a b:Bool} (h:(a||b)=false):a=false:=by cases a<;>simp_all
theorem rA {t1:Nat} {d1:D} (ap: ∀u,eB ops o2 u-> ¬(u=t1)) (hd:o2.dst≠some t1) (hk:cI T C ν ops o2 σ=cI T C ν ops o2 { σ with env:=put σ.env t1 d1 }):cT T C ν ops o2 σ=cT T C ν ops o2 { σ with env:=put σ.env t1 d1 } :=by
 have ag:Ag (fun u=>u=t1) { σ with env:=put σ.env t1 d1 } σ:=⟨rfl,fun u hu=>by simp only [cJ];rw [if_neg (fun h=>hu h.symm)]⟩
 exact Be ag ap (tC hd) (fun he=>⟨vt he,by rw [<-hk] at he;exact vt he⟩) hk
theorem IG {e:Env} {x:Operand} (h:aY e x=true):spend e x=e:=by
 unfold spend
 cases x with
 |tmp u=>simp only [yz (show lP (bI e u)=true from h),cond_false]
 |_=>rfl
theorem ug: ∀ {ps:List (Nat×Operand)} {e e':Env} {ds},(∀p∈ps,aY e p.2=true)->takeParts e ps=some (ds,e')->e'=e
 | [],e,e',ds,_,h=>by
  simp only [takeParts,Option.some.injEq,Prod.mk.injEq] at h
  exact h.2.symm
 |(i,x)::r,e,e',ds,hc,h=>by
  simp only [takeParts] at h
  split at h
  ·rename_i d _
   cases hv:bD d with
   |false=>rw [hv] at h;cases h
   |true=>
    rw [hv,cond_true,IG (hc _ List.mem_cons_self)] at h
    split at h
    ·rename_i s env1 heq
     simp only [Option.some.injEq,Prod.mk.injEq] at h
     rw [<-h.2]
     exact ug (fun p hp=>hc p (List.mem_cons_of_mem _ hp)) heq
    ·cases h
  ·cases h
theorem Ot {ro mv give:Nat->Bool} {t ot:Nat} {op:Op} {τ:St} (hl:zL op=true) (hc:op.operands.toList.all (aY σ.env)=true) (h:aJ T C ro mv give σ (some t) ot op=some τ):
  ∃d,τ=⟨setReg σ.env t d,σ.S⟩/\ ∀(e2:Env) (S2:bH),(∀u,(Operand.tmp u)∈op.operands.toList->bI e2 u=bI σ.env u)->aJ T C ro mv give ⟨e2,S2⟩ (some t) ot op=some ⟨setReg e2 t d,S2⟩:=by
 have parts: ∀(ps:List (Nat×Operand)) ds e',(∀p∈ps,p.2∈op.operands.toList)->takeParts σ.env ps=some (ds,e')->e'=σ.env/\ ∀e2,(∀u,(Operand.tmp u)∈op.operands.toList->bI e2 u=bI σ.env u)->takeParts e2 ps=some (ds,e2):=by
  intro ps ds e' hps hp
  have hcp: ∀p∈ps,aY σ.env p.2=true:=fun p hpm=>List.all_eq_true.1 hc _ (hps p hpm)
  have he':=ug hcp hp
  refine⟨he',fun e2 h2=>?_⟩
  have ea:EA (fun u=>bI e2 u≠bI σ.env u) σ.env e2:=fun u hu=>Classical.not_not.1 hu
  have hx: ∀p∈ps,u4 (fun u=>bI e2 u≠bI σ.env u) p.2:=by
   intro p hpm
   have:=hps p hpm
   cases hq:p.2 with
   |tmp u=>rw [hq] at this;exact fun hn=>hn (h2 u this)
   |_=>trivial
  have hr:=ea.takeParts (ps:=ps) hx
  rw [hp] at hr
  cases hq:takeParts e2 ps with
  |none=>rw [hq] at hr;exact hr.elim
  |some p=>
   obtain⟨ds2,e3⟩:=p
   rw [hq] at hr
   obtain⟨rfl,_⟩:=hr
   have hc2: ∀p∈ps,aY e2 p.2=true:=by
    intro p hpm
    have h1:=hcp p hpm
    have h3:=hps p hpm
    cases hq2:p.2 with
    |tmp u=>rw [hq2] at h1 h3;simp only [aY] at*;rw [h2 u h3];exact h1
    |_=>rfl
   rw [ug hc2 hq]
 cases op<;>try (cases hl;done)
 ·rename_i ty ps
  simp only [aJ] at h
  split at h<;>try (cases h;done)
  rename_i ds e' u hp hu
  cases hu
  obtain⟨rfl,h2⟩:=parts ps.toList ds e' (fun p hpm=>by simp only [Op.operands,Array.toList_map,List.mem_map];exact⟨p,hpm,rfl⟩) hp
  split at h<;>try (cases h;done)
  rename_i fs htk
  cases hb:((T ty).zero.length==(T ty).size&&(T ty).size != 0&&fs.all (fun f=>!(T f.2).flat.isEmpty)) with
  |false=>rw [hb] at h;cases h
  |true=>
   rw [hb,cond_true] at h
   split at h<;>try (cases h;done)
   rename_i cs hf
   split at h<;>try (cases h;done)
   rename_i cs' hft
   cases h
   refine⟨.agg cs',rfl,fun e2 S2 ha=>?_⟩
   simp only [aJ,h2 e2 ha,htk,hb,cond_true,hf,hft]
 ·rename_i ty n ps
  simp only [aJ] at h
  split at h<;>try (cases h;done)
  rename_i ds e' u hp hu
  cases hu
  obtain⟨rfl,h2⟩:=parts ps.toList ds e' (fun p hpm=>by simp only [Op.operands,Array.toList_map,List.mem_map];exact⟨p,hpm,rfl⟩) hp
  split at h<;>try (cases h;done)
  rename_i e htk
  cases hb:((T e).zero.length==(T e).size&&(T e).size != 0&&decide (n*(T e).size<=16777216)&&aR 0 ds&&ds.length==n) with
  |false=>rw [hb] at h;cases h
  |true=>
   rw [hb,cond_true] at h
   split at h<;>try (cases h;done)
   rename_i rows hf
   cases h
   refine⟨.own (T e).size rows,rfl,fun e2 S2 ha=>?_⟩
   simp only [aJ,h2 e2 ha,htk,hb,cond_true,hf]
structure Lay (T:Nat->Ty) (C:aj) (ν:cL) (ops:List Oper) (o:Oper) (σ:St) (d:D) (t:Nat):Prop where
 gd:aQ ops σ.env o.guard=some true
 hw:be T ν o=true
 hl:zL o.op=true
 cm:o.op.operands.toList.all (aY σ.env)=true
 dst:o.dst=some t
 fresh:aN (bI σ.env t)=false
 stand:br d=true
 form: ∀(e2:Env) (S2:bH),(∀u,(Operand.tmp u)∈o.op.operands.toList->bI e2 u=bI σ.env u)->aJ T C ν.ro ν.mv ν.give ⟨e2,S2⟩ o.dst o.type o.op=some ⟨setReg e2 t d,S2⟩
theorem Kn {op:Op} (h:zL op=true):wx op=true:=by cases op<;>first|rfl|cases h
section
variable {d:D} {t:Nat}
theorem Lay.step (h:Lay T C ν ops o σ d t):cP T C ν ops o σ=some { σ with env:=put σ.env t d } :=by
 have hk:bf T σ.env o=true:=by
  have:=h.hl
  revert this
  unfold bf
  cases o.op<;>intro hl<;>first|rfl|cases hl
 have:=h.form σ.env σ.S (fun _ _=>rfl)
 unfold cP
 simp only [h.gd,h.hw,cond_true,hk]
 rw [this]
 simp only [setReg,h.fresh,cond_false]
theorem Lay.layOf (h:Lay T C ν ops o σ d t):Mx.layOf T C ν o σ=some (aN d):=by
 have:=h.form σ.env σ.S (fun _ _=>rfl)
 unfold Mx.layOf
 simp only [h.hl,h.cm,Bool.and_self]
 rw [h.dst] at this⊢
 simp only [h.fresh]
 rw [this]
 simp only [setReg,h.fresh,cond_false,cJ,if_true,h.stand]
theorem Lay.kind (h:Lay T C ν ops o σ d t):cT T C ν ops o σ= .lay (aN d):=by
 rw [Aw h.gd h.hw (Kn h.hl)]
 simp only [qB,h.layOf]
theorem Lay.move (h:Lay T C ν ops o σ d t) (hl: ∀u,eB ops o u->bI σ'.env u=bI σ.env u) (hf:aN (bI σ'.env t)=false):Lay T C ν ops o σ' d t:=by
 refine⟨?_,h.hw,h.hl,?_,h.dst,hf,h.stand,fun e2 S2 ha=>h.form e2 S2 (fun u hu=>by rw [ha u hu,hl u (.inl hu)])⟩
 ·rw [dQ (X:=fun u=>¬eB ops o u) (e:=σ.env) (fun u hu=>hl u (Classical.not_not.1 hu)) (fun j b p t h1 h2 h3 hn=>hn (.inr ⟨j,b,p,h1,h2,h3⟩))];exact h.gd
 ·rw [List.all_eq_true]
  intro x hx
  have:=List.all_eq_true.1 h.cm x hx
  cases x with
  |tmp u=>simp only [aY] at*;rw [hl u (.inl hx)];exact this
  |_=>rfl
theorem AA {w:Bool} (hs:cP T C ν ops o σ=some σ1) (hk:cT T C ν ops o σ= .lay w): ∃d t,Lay T C ν ops o σ d t/\w=aN d/\σ1= { σ with env:=put σ.env t d } :=by
 have hx:aQ ops σ.env o.guard=some true/\(∃n,cI T C ν ops o σ= .work none n)/\Mx.layOf T C ν o σ=some w:=by
  rcases ez (T:=T) (C:=C) (ν:=ν) (ops:=ops) (o:=o) (σ:=σ) with e|⟨hg,n,e1,⟨_,_,e⟩|⟨hr,e|⟨w',h1,e⟩⟩⟩|⟨_,_,⟨_,_,e⟩|⟨_,e⟩⟩
  ·rw [e] at hk;exact absurd hk (xh w)
  ·rw [e] at hk;cases hk
  ·rw [e] at hk;cases hk
  ·rw [e] at hk;cases hk;exact⟨hg,⟨n,e1⟩,h1⟩
  all_goals (rw [e] at hk;cases hk)
 obtain⟨hg,⟨n,hkw⟩,hlay⟩:=hx
 obtain⟨_,_,hw,_⟩:=eA hs hkw
 unfold Mx.layOf at hlay
 split at hlay<;>try (cases hlay;done)
 rename_i t hb hd
 simp only [Bool.and_eq_true] at hb
 split at hlay<;>try (cases hlay;done)
 rename_i τ hfr hwk
 split at hlay<;>try (cases hlay;done)
 rename_i hst
 rw [hd] at hwk
 obtain⟨d,rfl,hform⟩:=Ot hb.1 hb.2 hwk
 have hl:bI (setReg σ.env t d) t=d:=by simp only [setReg,cJ,if_true]
 dsimp only at hst hlay
 rw [hl] at hst hlay
 have L:Lay T C ν ops o σ d t:=⟨hg,hw,hb.1,hb.2,hd,hfr,hst,fun e2 S2 ha=>by rw [hd];exact hform e2 S2 ha⟩
 refine⟨d,t,L,(Option.some.inj hlay).symm,?_⟩
 have:=L.step
 rw [hs] at this
 exact Option.some.inj this
end
theorem dT.noEp {g:Bool} {d:D} {t:Nat} (h:dT T C ν ops o σ g d t) (ho:aN d=true) {ty:Nat} {a:Operand} {e:D} (hop:o.op= .load ty a) (hf:bl g (opnd σ.env a)=some e): ∀src sz i off,e≠ .ep src sz i off:=by
 rintro src sz i off rfl
 have hg:=h.gx
 rw [hop] at hg
 simp only [aK,hf] at hg
 have key: ∀x,loadAt (T ty) σ (.ep src sz i off)=some x->aN x=false:=by
  intro x hx
  unfold loadAt at hx
  simp only at hx
  split at hx<;>try (cases hx;done)
  rename_i sz' l hl
  cases hz:(sz==sz') with
  |false=>rw [hz] at hx;cases hx
  |true=>
   rw [hz,cond_true] at hx
   split at hx<;>try (cases hx;done)
   unfold bT at hx
   cases ha:(T ty).agg with
   |true=>
    rw [ha,cond_true] at hx
    rename_i row hr
    cases hb:((((row.drop off).map D.v).drop 0).take (T ty).size).length==(T ty).size&&((((row.drop off).map D.v).drop 0).take (T ty).size).all ay with
    |false=>rw [hb] at hx;cases hx
    |true=>
     rw [hb,cond_true,Option.some.injEq] at hx
     subst hx
     simp only [Bool.and_eq_true] at hb
     simp only [aN,aA,hb.2,Bool.not_true]
   |false=>
    rw [ha,cond_false] at hx
    split at hx<;>try (cases hx;done)
    split at hx<;>try (cases hx;done)
    rename_i y hy
    cases hb:ay y with
    |false=>rw [hb] at hx;cases hx
    |true=>
     rw [hb,cond_true,Option.some.injEq] at hx
     subst hx
     obtain⟨v,_,rfl⟩:=List.mem_map.1 (List.mem_of_getElem? hy)
     rfl
 unfold Mx.gx at hg
 cases hp:o.guard.isNone with
 |true=>rw [hp,cond_true] at hg;rw [key _ hg] at ho;cases ho
 |false=>
  rw [hp,cond_false] at hg
  cases g with
  |true=>rw [cond_true] at hg;rw [key _ hg] at ho;cases ho
  |false=>rw [cond_false,Option.some.injEq] at hg;subst hg;cases ho
theorem HF {w c:Bool} {d:D} {r:Option (Nat×Nat×Nat)} (h:(!w||c||((aN d||tW r d)&&r.isNone))=true):w=false∨c=true∨aN d=true:=by
 cases w with
 |false=>exact .inl rfl
 |true=>cases c with
  |true=>exact .inr (.inl rfl)
  |false=>
   cases r with
   |some p=>simp at h
   |none=>simp [tW] at h;exact .inr (.inr h)
theorem Qo {g1:Bool} {d1 d2:D} {t1 t2:Nat} (h1:dT T C ν ops o1 σ g1 d1 t1) (h2:Lay T C ν ops o2 { σ with env:=put σ.env t1 d1 } d2 t2) (ap:ru ops o1 o2)
  (c1:aN d2=false∨o1.op.operands.toList.all (aY σ.env)=true∨aN d1=true):
  Lay T C ν ops o2 σ d2 t2/\dT T C ν ops o1 { σ with env:=put σ.env t2 d2 } g1 d1 t1/\cI T C ν ops o1 { σ with env:=put σ.env t2 d2 } =cI T C ν ops o1 σ:=by
 have hne:t1≠t2:=fun h=>ap.c t1 h1.dst (by rw [h,h2.dst])
 have fr2:aN (bI σ.env t2)=false:=by
  have:=h2.fresh
  simp only [cJ,if_neg hne] at this
  exact this
 have m2:=h2.move (σ':=σ) (fun u hu=>by
   simp only [cJ]
   have:t1≠u:=fun h=>ap.a t1 h1.dst (by rw [h];exact hu)
   rw [if_neg this]) fr2
 have m1:=h1.move (σ':={ σ with env:=put σ.env t2 d2 }) (fun u hu=>by
   simp only [cJ]
   have:t2≠u:=fun h=>ap.b t2 h2.dst (by rw [h];exact hu)
   rw [if_neg this]) (by simp only [cJ];rw [if_neg (Ne.symm hne)];exact h1.fresh) (fun t a d hop hf=>by
   rcases c1 with hn|hc|hw
   ·exact u7 (σ:=σ) (σ':={ σ with env:=put σ.env t2 d2 }) rfl (fun l=>wU fr2 hn l) d
   ·exact fm rfl (er (List.all_eq_true.1 hc a (by rw [hop];simp [Op.operands])) hf)
   ·exact fm rfl (h1.noEp hw hop hf))
 exact⟨m2,m1.1,m1.2⟩
theorem PB {g2:Bool} {d1 d2:D} {t1 t2:Nat} (h1:Lay T C ν ops o1 σ d1 t1) (h2:dT T C ν ops o2 { σ with env:=put σ.env t1 d1 } g2 d2 t2) (ap:ru ops o1 o2)
  (c2:aN d1=false∨o2.op.operands.toList.all (aY (put σ.env t1 d1))=true∨aN d2=true):
  dT T C ν ops o2 σ g2 d2 t2/\Lay T C ν ops o1 { σ with env:=put σ.env t2 d2 } d1 t1/\cI T C ν ops o2 σ=cI T C ν ops o2 { σ with env:=put σ.env t1 d1 } :=by
 have hne:t1≠t2:=fun h=>ap.c t1 h1.dst (by rw [h,h2.dst])
 have fr2:aN (bI σ.env t2)=false:=by
  have:=h2.fresh
  simp only [cJ,if_neg hne] at this
  exact this
 have m2:=h2.move (σ':=σ) (fun u hu=>by
   simp only [cJ]
   have:t1≠u:=fun h=>ap.a t1 h1.dst (by rw [h];exact hu)
   rw [if_neg this]) fr2 (fun t a d hop hf=>by
   rcases c2 with hn|hc|hw
   ·exact (u7 (σ:=σ) (σ':={ σ with env:=put σ.env t1 d1 }) rfl (fun l=>wU h1.fresh hn l) d).symm
   ·exact fm rfl (er (List.all_eq_true.1 hc a (by rw [hop];simp [Op.operands])) hf)
   ·exact fm rfl (h2.noEp hw hop hf))
 have m1:=h1.move (σ':={ σ with env:=put σ.env t2 d2 }) (fun u hu=>by
   simp only [cJ]
   have:t2≠u:=fun h=>ap.b t2 h2.dst (by rw [h];exact hu)
   rw [if_neg this]) (by simp only [cJ];rw [if_neg (Ne.symm hne)];exact h1.fresh)
 exact⟨m2.1,m1,m2.2⟩
theorem xM {d:D} (h:br d=true) (h2:aN d=true):bG d=true:=by
 unfold br at h
 rw [h2] at h
 simpa using h
theorem JS {d1:D} {t1:Nat} (h1:Lay T C ν ops o1 σ d1 t1) (hd1:aN d1=true) (s2:cP T C ν ops o2 { σ with env:=put σ.env t1 d1 } =some σ2) (k2:cI T C ν ops o2 { σ with env:=put σ.env t1 d1 } = .eff) (ap:ru ops o1 o2):
  ∃s,cP T C ν ops o2 σ=some s/\cT T C ν ops o2 σ=cT T C ν ops o2 { σ with env:=put σ.env t1 d1 } /\Lay T C ν ops o1 s d1 t1/\E0 σ2 { s with env:=put s.env t1 d1 } :=by
 have hdst:o2.dst≠some t1:=ap.c t1 h1.dst
 have ag:Ag (fun u=>u=t1) { σ with env:=put σ.env t1 d1 } σ:=⟨rfl,fun u hu=>by simp only [cJ];rw [if_neg (fun h=>hu h.symm)]⟩
 have ho: ∀u,eB ops o2 u-> ¬(u=t1):=fun u hu h=>ap.a t1 h1.dst (by subst h;exact hu)
 obtain⟨s,p1,p2,p3⟩:=vg ag ho (tC hdst) s2 k2
 obtain⟨_,q1,q2,_⟩:=qT p1 p3
 have W:=(gB q1 q2).1
 obtain⟨_,r1,r2,_⟩:=qT s2 k2
 have W2:=(gB r1 r2).1
 have hk:=rA (T:=T) (C:=C) (ν:=ν) (σ:=σ) (d1:=d1) ho hdst (p3.trans k2.symm)
 have hq: ∀u,eB ops o1 u->bI s.env u=bI σ.env u:=by
  intro u hu
  have hdu:o2.dst≠some u:=fun h=>ap.b u h hu
  rcases hu with hu|hu
  ·exact W.p1 u hdu (by have:=List.all_eq_true.1 h1.cm _ hu;simpa only [aY] using this)
  ·exact W.p1 u hdu (eh h1.gd hu).1
 have hf:aN (bI s.env t1)=false:=by
  rw [W.p3 t1 hdst (fun h=>ap.a t1 h1.dst (.inl h))];exact h1.fresh
 refine⟨s,p1,hk,h1.move hq hf,p2.S,fun u _=>?_⟩
 simp only [cJ]
 split
 ·rename_i h
  subst h
  have:=W2.p5 t1 hdst (fun h=>ap.a t1 h1.dst (.inl h)) (by simp only [cJ,if_true];exact xM h1.stand hd1)
  simp only [cJ,if_true] at this
  exact this.symm
 ·rename_i h
  exact p2.env u (fun e=>h e.symm)
theorem JQ {d2:D} {t2:Nat} (s1:cP T C ν ops o1 σ=some σ1) (k1:cI T C ν ops o1 σ= .eff) (h2:Lay T C ν ops o2 σ1 d2 t2) (hd2:aN d2=true) (ap:ru ops o1 o2):
  ∃s,Lay T C ν ops o2 σ d2 t2/\cP T C ν ops o1 { σ with env:=put σ.env t2 d2 } =some s/\cT T C ν ops o1 { σ with env:=put σ.env t2 d2 } =cT T C ν ops o1 σ/\E0 { σ1 with env:=put σ1.env t2 d2 } s:=by
 obtain⟨_,q1,q2,_⟩:=qT s1 k1
 have W:=(gB q1 q2).1
 have hdst:o1.dst≠some t2:=fun h=>ap.c t2 h h2.dst
 have ho: ∀u,eB ops o1 u-> ¬(u=t2):=fun u hu h=>ap.b t2 h2.dst (by subst h;exact hu)
 have hq: ∀u,eB ops o2 u->bI σ.env u=bI σ1.env u:=by
  intro u hu
  have hdu:o1.dst≠some u:=fun h=>ap.a u h hu
  have hcu:lP (bI σ1.env u)=true:=by
   rcases hu with hu|hu
   ·have:=List.all_eq_true.1 h2.cm _ hu
    simpa only [aY] using this
   ·exact (eh h2.gd hu).1
  exact (W.p2 u hdu hcu).symm
 have hf:aN (bI σ.env t2)=false:=by
  rw [<-W.p3 t2 hdst (fun h=>ap.b t2 h2.dst (.inl h))];exact h2.fresh
 have ag:Ag (fun u=>u=t2) σ { σ with env:=put σ.env t2 d2 } :=⟨rfl,fun u hu=>by simp only [cJ];rw [if_neg (fun h=>hu h.symm)]⟩
 obtain⟨s,p1,p2,p3⟩:=vg ag ho (tC hdst) s1 k1
 obtain⟨_,r1,r2,_⟩:=qT p1 p3
 have W2:=(gB r1 r2).1
 have hk:=rA (T:=T) (C:=C) (ν:=ν) (σ:=σ) (d1:=d2) ho hdst (k1.trans p3.symm)
 refine⟨s,h2.move hq hf,p1,hk.symm,p2.S,fun u _=>?_⟩
 simp only [cJ]
 split
 ·rename_i h
  subst h
  have:=W2.p5 t2 hdst (fun h=>ap.b t2 h2.dst (.inl h)) (by simp only [cJ,if_true];exact xM h2.stand hd2)
  simp only [cJ,if_true] at this
  exact this
 ·rename_i h
  exact p2.env u (fun e=>h e.symm)
theorem PN {d1 d2:D} {t1 t2:Nat} (h1:Lay T C ν ops o1 σ d1 t1) (h2:Lay T C ν ops o2 { σ with env:=put σ.env t1 d1 } d2 t2) (ap:ru ops o1 o2):
  Lay T C ν ops o2 σ d2 t2/\Lay T C ν ops o1 { σ with env:=put σ.env t2 d2 } d1 t1:=by
 have hne:t1≠t2:=fun h=>ap.c t1 h1.dst (by rw [h,h2.dst])
 have fr2:aN (bI σ.env t2)=false:=by
  have:=h2.fresh
  simp only [cJ,if_neg hne] at this
  exact this
 exact⟨h2.move (σ':=σ) (fun u hu=>by
   simp only [cJ]
   have:t1≠u:=fun h=>ap.a t1 h1.dst (by rw [h];exact hu)
   rw [if_neg this]) fr2,h1.move (σ':={ σ with env:=put σ.env t2 d2 }) (fun u hu=>by
   simp only [cJ]
   have:t2≠u:=fun h=>ap.b t2 h2.dst (by rw [h];exact hu)
   rw [if_neg this]) (by simp only [cJ];rw [if_neg (Ne.symm hne)];exact h1.fresh)⟩
theorem Qu {d1:D} {t1 n:Nat} (h1:Lay T C ν ops o1 σ d1 t1) (s2:cP T C ν ops o2 { σ with env:=put σ.env t1 d1 } =some σ2) (g2:aQ ops (put σ.env t1 d1) o2.guard=some true) (r2:wx o2.op=true) (w2:cI T C ν ops o2 { σ with env:=put σ.env t1 d1 } = .work none n) (ap:ru ops o1 o2):
  ∃s,cP T C ν ops o2 σ=some s/\cT T C ν ops o2 σ=cT T C ν ops o2 { σ with env:=put σ.env t1 d1 } /\Lay T C ν ops o1 s d1 t1/\E0 σ2 { s with env:=put s.env t1 d1 } :=by
 have hdst:o2.dst≠some t1:=ap.c t1 h1.dst
 have ag:Ag (fun u=>u=t1) { σ with env:=put σ.env t1 d1 } σ:=⟨rfl,fun u hu=>by simp only [cJ];rw [if_neg (fun h=>hu h.symm)]⟩
 have ho: ∀u,eB ops o2 u-> ¬(u=t1):=fun u hu h=>ap.a t1 h1.dst (by subst h;exact hu)
 obtain⟨s,p1,p2,p3⟩:=wP ag ho (tC hdst) s2 w2
 obtain⟨W,_,_,_⟩:=eA p1 p3
 obtain⟨W2,_,_,_⟩:=eA s2 w2
 have hk:=rA (T:=T) (C:=C) (ν:=ν) (σ:=σ) (d1:=d1) ho hdst (p3.trans w2.symm)
 have hq: ∀u,eB ops o1 u->bI s.env u=bI σ.env u:=by
  intro u hu
  have hdu:o2.dst≠some u:=fun h=>ap.b u h hu
  rcases hu with hu|hu
  ·have hcu:=List.all_eq_true.1 h1.cm _ hu
   have hcu':lP (bI σ.env u)=true:=hcu
   exact W.quiet.p1 u hdu (yv hcu') (yz hcu')
  ·have:=eh h1.gd hu
   exact W.quiet.p1 u hdu (yv this.1) this.2
 have hf:aN (bI s.env t1)=false:=by
  rw [W.quiet.p3 t1 hdst (ap.a t1 h1.dst)];exact h1.fresh
 refine⟨s,p1,hk,h1.move hq hf,p2.S,fun u _=>?_⟩
 simp only [cJ]
 split
 ·rename_i h
  subst h
  have:=W2.quiet.stand hdst (ap.a t1 h1.dst) (by simp only [cJ,if_true];exact h1.stand)
  simp only [cJ,if_true] at this
  exact this.symm
 ·rename_i h
  exact p2.env u (fun e=>h e.symm)
theorem P7 (LC:zi C) {ft:List Nat} {g1:Bool} {d1:D} {t1:Nat} (h1:dT T C ν ops o1 σ g1 d1 t1) (hs:cP T C ν ops o2 { σ with env:=put σ.env t1 d1 } =some σ2) (hk:cT T C ν ops o2 { σ with env:=put σ.env t1 d1 } = .call ft) (ap:ru ops o1 o2)
  (hc:o1.op.operands.toList.all (aY σ.env)=true) (ho:(aN d1||tW (aL T σ g1 o1.op) d1)=false) (hor:(lP d1=true/\(aL T σ g1 o1.op).isNone=true)∨(br d1=true/\xk ft (aL T σ g1 o1.op)=true)):
  ∃s,cP T C ν ops o2 σ=some s/\cT T C ν ops o2 σ= .call ft/\dT T C ν ops o1 s g1 d1 t1/\cI T C ν ops o1 s=cI T C ν ops o1 σ/\E0 σ2 { s with env:=put s.env t1 d1 } :=by
 obtain⟨k2,args,ha,rfl⟩:=u0 hk
 obtain⟨_,q1,q2,_⟩:=qT hs k2
 have hdst:o2.dst≠some t1:=ap.c t1 h1.dst
 have ag:Ag (fun u=>u=t1) { σ with env:=put σ.env t1 d1 } σ:=⟨rfl,fun u hu=>by simp only [cJ];rw [if_neg (fun h=>hu h.symm)]⟩
 obtain⟨s0,_,_,k3⟩:=vg ag (fun u hu h=>ap.a t1 h1.dst (by subst h;exact hu)) (tC hdst) hs k2
 have hk2:cT T C ν ops o2 σ=cT T C ν ops o2 { σ with env:=put σ.env t1 d1 } :=rA (fun u hu h=>ap.a t1 h1.dst (by subst h;exact hu)) hdst (k3.trans k2.symm)
 obtain⟨f,d,hC,he,_⟩:=wK q1 ha q2
 have ho1:=IQ ho
 have hkeep:bI σ2.env t1=d1:=by
  have hfix:iy (jF σ.S args) d1=d1:=by
   rcases hor with⟨hcd,_⟩|⟨hst,haw⟩
   ·exact yW hcd
   ·obtain⟨q,off,n,hr,_,hq⟩:=BO (S':=σ.S) (fun _ _=>rfl) haw
    rw [hr] at ho
    have himm:cv d1=true:=by
     unfold br at hst
     rw [ho1] at hst
     simp only [Bool.not_false,Bool.and_true,Bool.or_eq_true] at hst
     rcases hst with h|h
     ·exact h
     ·cases d1<;>first|(cases h;done)|(simp [aN,aA] at ho1)
    exact LF himm (Bool.or_eq_false_iff.1 ho).2 hq
  have himm:cv d1=true:=by
   rcases hor with⟨hcd,_⟩|⟨hst,_⟩
   ·exact yv hcd
   ·unfold br at hst
    rw [ho1] at hst
    simp only [Bool.not_false,Bool.and_true,Bool.or_eq_true] at hst
    rcases hst with h|h
    ·exact h
    ·cases d1<;>first|(cases h;done)|(simp [aN,aA] at ho1)
  have hl:bI (kill (jF σ.S args) (put σ.env t1 d1)) t1=d1:=by rw [cU,cJ,if_pos rfl];exact hfix
  rw [he]
  have Q:cQ (fun _=>False) o2.dst (kill (jF σ.S args) (put σ.env t1 d1)) (putDst (kill (jF σ.S args) (put σ.env t1 d1)) o2.dst (offReg (kill (jF σ.S args) (put σ.env t1 d1)) o2.dst d)):=cQ.putDst
  have:=Q.p1 t1 hdst (by rw [hl];exact himm) (by rw [hl];exact ho1)
  rw [hl] at this
  exact this
 obtain⟨s,s1,s2,s3,s4,s5⟩:=Kj h1 hs k2 ap hc hkeep (by
  intro s hs' hks t a dd hop hf
  obtain⟨_,r1,r2,_⟩:=qT hs' hks
  have ha':kx ν.give σ o2.op=some args:=by
   have hoo:fO (fun u=>u=t1) o2.op:=by
    intro x hx
    cases x with
    |tmp u=>exact fun h=>ap.a t1 h1.dst (by subst h;exact .inl hx)
    |_=>trivial
   exact ur ag.env hoo q1 ha
  obtain⟨f',d',hC',_,_⟩:=wK r1 ha' r2
  rcases hor with⟨_,hr⟩|⟨_,haw⟩
  ·exact vD (σ:=σ) hr hop hf (er (List.all_eq_true.1 hc a (by rw [hop];simp [Op.operands])) hf) _ _
  ·obtain⟨q,off,n,hr,hS,_⟩:=BO (S':=s.S) (fun o h=>LC.out _ _ _ _ _ hC' o h) haw
   exact J6 hr hop hf hS)
 exact⟨s,s1,hk2.trans hk,s3,s4,s5⟩
theorem P9 (LC:zi C) {ft:List Nat} {g2:Bool} {d2:D} {t2:Nat} (hs:cP T C ν ops o1 σ=some σ1) (hk:cT T C ν ops o1 σ= .call ft) (h2:dT T C ν ops o2 σ1 g2 d2 t2) (ap:ru ops o1 o2)
  (hc:o2.op.operands.toList.all (aY σ1.env)=true) (hi:lP d2=true) (hor:(aL T σ1 g2 o2.op).isNone=true∨xk ft (aL T σ1 g2 o2.op)=true):
  ∃s,dT T C ν ops o2 σ g2 d2 t2/\cI T C ν ops o2 σ=cI T C ν ops o2 σ1/\cP T C ν ops o1 { σ with env:=put σ.env t2 d2 } =some s/\cT T C ν ops o1 { σ with env:=put σ.env t2 d2 } = .call ft/\E0 { σ1 with env:=put σ1.env t2 d2 } s:=by
 obtain⟨k2,args,ha,rfl⟩:=u0 hk
 obtain⟨_,q1,q2,_⟩:=qT hs k2
 obtain⟨f,d,hC,he,_⟩:=wK q1 ha q2
 have hdst:o1.dst≠some t2:=fun h=>ap.c t2 h h2.dst
 obtain⟨s,a1,a2,a3,a4,a5⟩:=JT hs k2 h2 ap hc hi (by
  intro t a dd hop hf
  rcases hor with hr|haw
  ·exact vD (σ:=σ1) hr hop hf (er (List.all_eq_true.1 hc a (by rw [hop];simp [Op.operands])) hf) _ _
  ·obtain⟨q,off,n,hr,hS,_⟩:=BO (S':=σ1.S) (fun o h=>LC.out _ _ _ _ _ hC o h) haw
   exact J6 hr hop hf hS.symm)
 have:=rA (T:=T) (C:=C) (ν:=ν) (σ:=σ) (d1:=d2) (fun u hu h=>ap.b t2 h2.dst (by subst h;exact hu)) hdst (k2.trans a4.symm)
 exact⟨s,a1,a2,a3,this▸hk,a5⟩
theorem OP (LC:zi C) {ft:List Nat} {n:Nat} (s1:cP T C ν ops o1 σ=some σ1) (k1:cT T C ν ops o1 σ= .call ft) (s2:cP T C ν ops o2 σ1=some σ2) (k2:cT T C ν ops o2 σ1= .new n) (ap:ru ops o1 o2) (hn0:n≠0):
  ∃s s',cP T C ν ops o2 σ=some s/\cT T C ν ops o2 σ= .new n/\cP T C ν ops o1 s=some s'/\cT T C ν ops o1 s= .call ft/\E0 σ2 s':=by
 obtain⟨w1,args,ha,rfl⟩:=u0 k1
 obtain⟨g1,q1,q2,hor⟩:=qT s1 w1
 have W:=(gB q1 q2).1
 obtain⟨f,d,hC,he,hany⟩:=wK q1 ha q2
 have hlen:=LC.len _ _ _ _ _ hC
 obtain⟨g2,⟨t,hop⟩,ow2,w2⟩:=wC k2
 obtain⟨W2,hn2,hw2,_⟩:=eA s2 w2
 have hne:σ.S≠ []:=by
  intro h
  apply hn0
  rw [hn2,hlen,h];rfl
 cases hd2:o2.dst with
 |none=>rw [hd2] at ow2;cases ow2
 |some t2=>
  rw [hd2] at ow2
  simp only [aI] at ow2
  have hdst:o1.dst≠some t2:=fun h=>ap.c t2 h hd2
  have hf:aN (bI σ.env t2)=false:=by
   rw [<-W.p3 t2 hdst (fun h=>ap.b t2 hd2 (.inl h))];exact ow2
  have gσ:aQ ops σ.env o2.guard=some true:=by
   rw [<-g2]
   refine dQ (X:=fun u=>bI σ.env u≠bI σ1.env u) (e:=σ1.env) (e':=σ.env) (fun u hu=>Classical.not_not.1 hu) (fun j b p u e1 e2 e3 hx=>hx ?_)
   have hu: ∃j b p,o2.guard=some (j,b)/\ops[j]? =some p/\p.dst=some u:=⟨j,b,p,e1,e2,e3⟩
   exact (W.p2 u (fun h=>ap.a u h (.inr hu)) (eh g2 hu).1).symm
  have z2:=s2
  unfold cP at z2
  simp only [g2,hw2,cond_true,bf,hop,aJ,hd2] at z2
  cases hc:((T t).zero.length==(T t).size&&(T t).size != 0) with
  |false=>rw [hc] at z2;cases z2
  |true=>
   rw [hc,cond_true] at z2
   simp only [setReg,ow2,cond_false,Option.some.injEq] at z2
   have h2:cP T C ν ops o2 σ=some ⟨put σ.env t2 (.ptr σ.S.length 0),σ.S++ [(T t).zero]⟩:=by
    unfold cP
    simp only [gσ,hw2,cond_true,bf,hop,aJ,hd2,hc,setReg,hf,cond_false]
   have hk2:cI T C ν ops o2 σ= .work none σ.S.length:=by
    unfold cI
    simp only [gσ,hw2,cond_true,hop,bM,au]
   have h3:cT T C ν ops o2 σ= .new n:=by
    unfold cT
    rw [gσ,hk2,hop,hd2,hn2,hlen]
    simp only [aI,hf,cd,qB,cond_false]
   have ag:EA (fun u=>u=t2) σ.env (put σ.env t2 (.ptr σ.S.length 0)):=fun u hu=>by simp only [cJ];rw [if_neg (fun h=>hu h.symm)]
   have ho: ∀u,eB ops o1 u-> ¬(u=t2):=fun u hu h=>ap.b t2 hd2 (by subst h;exact hu)
   have hoo:fO (fun u=>u=t2) o1.op:=by
    intro x hx
    cases x with
    |tmp u=>exact ho u (.inl hx)
    |_=>trivial
   obtain⟨hC2,hfoot⟩:=LC.grow _ _ _ _ _ hC hne (T t).zero
   have hw:=hany ag hoo hC2
   have hp:jF (σ.S++ [(T t).zero]) args=jF σ.S args:=funext fun l=>by unfold jF;rw [hfoot]
   rw [hp] at hw
   have eg:aQ ops (put σ.env t2 (.ptr σ.S.length 0)) o1.guard=some true:=by
    rw [dQ ag (fun j b p u e1 e2 e3=>ho u (.inr ⟨j,b,p,e1,e2,e3⟩))];exact g1
   have ee:bN (put σ.env t2 (.ptr σ.S.length 0)) o1.op=true:=by rw [yB ag hoo];exact q1
   have hcall: ∃c,o1.op= .call c:=by
    revert ha
    cases o1.op<;>intro ha<;>first|exact⟨_,rfl⟩|(simp only [kx] at ha;cases ha)
   obtain⟨c,hcop⟩:=hcall
   have ep:aK T C ⟨put σ.env t2 (.ptr σ.S.length 0),σ.S++ [(T t).zero]⟩ true o1.op=aK T C σ true o1.op:=wQ (σ:=σ) (σ':=⟨put σ.env t2 (.ptr σ.S.length 0),σ.S++ [(T t).zero]⟩) ag hoo true (fun t a d hl _=>by rw [hcop] at hl;cases hl)
   have ec:aw C ⟨put σ.env t2 (.ptr σ.S.length 0),σ.S++ [(T t).zero]⟩ true o1=aw C σ true o1:=fX (σ:=σ) (σ':=⟨put σ.env t2 (.ptr σ.S.length 0),σ.S++ [(T t).zero]⟩) ag hoo true
   have h4:cP T C ν ops o1 ⟨put σ.env t2 (.ptr σ.S.length 0),σ.S++ [(T t).zero]⟩=some ⟨putDst (kill (jF σ.S args) (put σ.env t2 (.ptr σ.S.length 0))) o1.dst (offReg (kill (jF σ.S args) (put σ.env t2 (.ptr σ.S.length 0))) o1.dst d),σ1.S++ [(T t).zero]⟩:=by
    unfold cP
    simp only [eg]
    rcases hor with⟨e1,e2⟩|⟨e1,e2,e3,e4⟩
    ·simp only [e1,cond_true,wJ ag hoo,e2,hw]
    ·simp only [e1,cond_false,ec,e2,ep,e3,e4,Bool.and_self,cond_true,hw]
   have h5:cI T C ν ops o1 ⟨put σ.env t2 (.ptr σ.S.length 0),σ.S++ [(T t).zero]⟩= .eff:=by
    unfold cI
    simp only [eg]
    rcases hor with⟨e1,e2⟩|⟨e1,e2,e3,e4⟩
    ·simp only [e1,cond_true,hcop,bM,au,cond_false]
     rw [hcop] at ee
     rw [ee,cond_true]
    ·simp only [e1,cond_false,ep,e3,ee,Bool.and_self,cond_true]
   have h6:cT T C ν ops o1 ⟨put σ.env t2 (.ptr σ.S.length 0),σ.S++ [(T t).zero]⟩= .call (qp σ.S args):=by
    unfold cT
    simp only [eg,h5]
    have:=ur (σ:=σ) (σ1:=⟨put σ.env t2 (.ptr σ.S.length 0),σ.S++ [(T t).zero]⟩) ag hoo q1 ha
    simp only [cd,qB,this,hfoot]
   have ea:EA (fun u=>u=t2) σ1.env (putDst (kill (jF σ.S args) (put σ.env t2 (.ptr σ.S.length 0))) o1.dst (offReg (kill (jF σ.S args) (put σ.env t2 (.ptr σ.S.length 0))) o1.dst d)):=by
    rw [he,(ag.kill _).offReg (tC hdst)]
    exact (ag.kill _).putDst (tC hdst) _
   refine⟨_,_,h2,h3,h4,h6,?_,fun u _=>?_⟩
   ·rw [<-z2]
   ·rw [<-z2]
    simp only [cJ]
    split
    ·rename_i h
     subst h
     have W3:=(gB (σ:=⟨put σ.env t2 (.ptr σ.S.length 0),σ.S++ [(T t).zero]⟩) ee hw).1
     have:=W3.p1 t2 hdst (by simp only [cJ,if_true];rfl)
     simp only [cJ,if_true] at this
     rw [this,hlen]
    ·rename_i h
     exact ea u (fun e=>h e.symm)
theorem Qy {n:Nat} (s1:cP T C ν ops o1 σ=some σ1) (k1:cT T C ν ops o1 σ= .ap) (s2:cP T C ν ops o2 σ1=some σ2) (k2:cT T C ν ops o2 σ1= .new n) (ap:ru ops o1 o2):
  ∃s s',cP T C ν ops o2 σ=some s/\cT T C ν ops o2 σ= .new n/\cP T C ν ops o1 s=some s'/\cT T C ν ops o1 s= .ap/\E0 σ2 s':=by
 obtain⟨w1,ha⟩:=xV k1
 obtain⟨g1,q1,q2,_⟩:=qT s1 w1
 have W:=(gB q1 q2).1
 obtain⟨g2,⟨t,hop⟩,ow2,w2⟩:=wC k2
 obtain⟨W2,hn2,hw2,_⟩:=eA s2 w2
 have hS:σ1.S=σ.S:=(Jy (e:=σ.env) (S:=σ.S) ha g1 s1 []).1
 cases hd2:o2.dst with
 |none=>rw [hd2] at ow2;cases ow2
 |some t2=>
  rw [hd2] at ow2
  simp only [aI] at ow2
  have hdst:o1.dst≠some t2:=fun h=>ap.c t2 h hd2
  have hf:aN (bI σ.env t2)=false:=by
   rw [<-W.p3 t2 hdst (fun h=>ap.b t2 hd2 (.inl h))];exact ow2
  have gσ:aQ ops σ.env o2.guard=some true:=by
   rw [<-g2]
   refine dQ (X:=fun u=>bI σ.env u≠bI σ1.env u) (e:=σ1.env) (e':=σ.env) (fun u hu=>Classical.not_not.1 hu) (fun j b p u e1 e2 e3 hx=>hx ?_)
   have hu: ∃j b p,o2.guard=some (j,b)/\ops[j]? =some p/\p.dst=some u:=⟨j,b,p,e1,e2,e3⟩
   exact (W.p2 u (fun h=>ap.a u h (.inr hu)) (eh g2 hu).1).symm
  have z2:=s2
  unfold cP at z2
  simp only [g2,hw2,cond_true,bf,hop,aJ,hd2] at z2
  cases hc:((T t).zero.length==(T t).size&&(T t).size != 0) with
  |false=>rw [hc] at z2;cases z2
  |true=>
   rw [hc,cond_true] at z2
   simp only [setReg,ow2,cond_false,Option.some.injEq] at z2
   have h2:cP T C ν ops o2 σ=some ⟨put σ.env t2 (.ptr σ.S.length 0),σ.S++ [(T t).zero]⟩:=by
    unfold cP
    simp only [gσ,hw2,cond_true,bf,hop,aJ,hd2,hc,setReg,hf,cond_false]
   have hk2:cI T C ν ops o2 σ= .work none σ.S.length:=by
    unfold cI
    simp only [gσ,hw2,cond_true,hop,bM,au]
   have h3:cT T C ν ops o2 σ= .new n:=by
    unfold cT
    rw [gσ,hk2,hop,hd2,hn2,hS]
    simp only [aI,hf,cd,qB,cond_false]
   have ag:Ag (fun u=>u=t2) σ { σ with env:=put σ.env t2 (.ptr σ.S.length 0) } :=⟨rfl,fun u hu=>by simp only [cJ];rw [if_neg (fun h=>hu h.symm)]⟩
   have ho: ∀u,eB ops o1 u-> ¬(u=t2):=fun u hu h=>ap.b t2 hd2 (by subst h;exact hu)
   have hoo:fO (fun u=>u=t2) o1.op:=by
    intro x hx
    cases x with
    |tmp u=>exact ho u (.inl hx)
    |_=>trivial
   obtain⟨s0,p1,p2,p3⟩:=vg ag ho (tC hdst) s1 w1
   have g1':aQ ops (put σ.env t2 (.ptr σ.S.length 0)) o1.guard=some true:=by
    rw [<-g1]
    exact dQ ag.env (fun j b p u e1 e2 e3=>ho u (.inr ⟨j,b,p,e1,e2,e3⟩))
   have ha':ub (put σ.env t2 (.ptr σ.S.length 0)) o1.op=true:=by rw [Hr ag.env hoo];exact ha
   obtain⟨hS0,p4⟩:=Jy (e:=put σ.env t2 (.ptr σ.S.length 0)) (S:=σ.S) ha' g1' p1 (σ.S++ [(T t).zero])
   obtain⟨_,r1,r2,_⟩:=qT p1 p3
   refine⟨_,_,h2,h3,p4,(Pf (σ:=⟨put σ.env t2 (.ptr σ.S.length 0),σ.S++ [(T t).zero]⟩) g1' ha').2,?_,fun u _=>?_⟩
   ·rw [<-z2,hS]
   ·rw [<-z2,hS]
    simp only [cJ]
    split
    ·rename_i h
     subst h
     have:=(gB r1 r2).1.p1 t2 hdst (by simp only [cJ,if_true];rfl)
     simpa only [cJ,if_true] using this
    ·rename_i h
     exact p2.env u (fun e=>h e.symm)
theorem Run.swap (LC : zi C) {p q : Nat × Kd} {Z : List (Nat × Kd)} (hf : PL ops p q) (r : Run T C ν ops (p :: q :: Z) σ σ') : Run T C ν ops (q :: p :: Z) σ σ' := by
  obtain ⟨i, k1⟩ := p
  obtain ⟨j, k2⟩ := q
  obtain ⟨o1, o2, e1, e2, ap, hp⟩ := hf
  obtain ⟨a1, σ1, f1, s1, kk1, a2, σ2, f2, s2, kk2, rest⟩ := r
  simp only at e1 e2 hp
  rw [e1] at f1; obtain rfl := Option.some.inj f1
  rw [e2] at f2; obtain rfl := Option.some.inj f2
  -- a still one ahead of a work that it does not mind
  have sw : ∀ {c1 w1 r1 m1 q1 n wr}, cI T C ν ops o1 σ = .still c1 w1 r1 m1 q1 -> cI T C ν ops o2 σ1 = .work wr n -> c1 = true -> m1 = true -> (cr r1 wr n = true ∨ σ2.S = σ.S) -> Run T C ν ops ((j, k2) :: (i, k1) :: Z) σ σ' := by
    intro c1 w1 r1 m1 q1 n wr K1 K2 hc hm hr
    obtain ⟨g1, d1, t1, S1, rfl⟩ := eX s1 K1
    have K1' := S1.kind
    rw [K1] at K1'
    simp only [Kd.still.injEq] at K1'
    obtain ⟨rfl, rfl, rfl, rfl, rfl⟩ := K1'
    obtain ⟨s, h1, h2, h3, h4, h5⟩ := PV S1 s2 K2 ap hc hm hr
    have hd : o2.dst ≠ some t1 := ap.c t1 S1.dst
    refine ⟨o2, s, e2, h1, ?_, o1, _, e1, h3.step, ?_, rest.eqv h5⟩
    . rw [rA (fun u hu h => ap.a t1 S1.dst (by subst h; exact hu)) hd (h2.trans K2.symm)]; exact kk2
    . rw [du (by rw [h4, K1]; intro n h; cases h) (by rw [h4, K1]; intro h; cases h), h4]
      rw [du (by rw [K1]; intro n h; cases h) (by rw [K1]; intro h; cases h)] at kk1
      exact kk1
  have ws : ∀ {c2 w2 r2 m2 q2 n wr}, cI T C ν ops o1 σ = .work wr n -> cI T C ν ops o2 σ1 = .still c2 w2 r2 m2 q2 -> c2 = true -> m2 = true -> (cr r2 wr n = true ∨ σ1.S = σ.S) -> Run T C ν ops ((j, k2) :: (i, k1) :: Z) σ σ' := by
    intro c2 w2 r2 m2 q2 n wr K1 K2 hc hm hr
    obtain ⟨g2, d2, t2, S2, rfl⟩ := eX s2 K2
    have K2' := S2.kind
    rw [K2] at K2'
    simp only [Kd.still.injEq] at K2'
    obtain ⟨rfl, rfl, rfl, rfl, rfl⟩ := K2'
    obtain ⟨s, h1, h2, h3, h4, h5⟩ := OW s1 K1 S2 ap hc hm hr
    have hd : o1.dst ≠ some t2 := fun h => ap.c t2 h S2.dst
    refine ⟨o2, _, e2, h1.step, ?_, o1, s, e1, h3, ?_, rest.eqv h5⟩
    . rw [du (by rw [h2, K2]; intro n h; cases h) (by rw [h2, K2]; intro h; cases h), h2]
      rw [du (by rw [K2]; intro n h; cases h) (by rw [K2]; intro h; cases h)] at kk2
      exact kk2
    . rw [<- rA (fun u hu h => ap.b t2 S2.dst (by subst h; exact hu)) hd (K1.trans h4.symm)]; exact kk1
  have se : ∀ {c w r m k}, cI T C ν ops o1 σ = .still c w r m k -> cI T C ν ops o2 σ1 = .eff -> ((c = true /\ w = false) /\ k = true) /\ r.isNone = true -> Run T C ν ops ((j, k2) :: (i, k1) :: Z) σ σ' := by
    intro c1 w1 r1 m1 q1 K1 heff hp
    obtain ⟨g1, d1, t1, S1, rfl⟩ := eX s1 K1
    have K1' := S1.kind
    rw [K1] at K1'
    simp only [Kd.still.injEq] at K1'
    obtain ⟨rfl, rfl, rfl, rfl, rfl⟩ := K1'
    have hdc := hp.1.2
    obtain ⟨_, r1, r2, _⟩ := qT s2 heff
    have hkeep : bI σ2.env t1 = d1 := by
      have := (gB r1 r2).1.p1 t1 (ap.c t1 S1.dst) (by simp only [cJ, if_true]; exact hdc)
      simpa only [cJ, if_true] using this
    obtain ⟨s, h1, h2, h3, h4, h5⟩ := Kj S1 s2 heff ap hp.1.1.1 hkeep (fun s _ _ t a d hop hff => vD (σ := σ) hp.2 hop hff (er (List.all_eq_true.1 hp.1.1.1 a (by rw [hop]; simp [Op.operands])) hff) _ _)
    refine ⟨o2, s, e2, h1, ?_, o1, _, e1, h3.step, ?_, rest.eqv h5⟩
    . rw [rA (fun u hu h => ap.a t1 S1.dst (by subst h; exact hu)) (ap.c t1 S1.dst) (h2.trans heff.symm)]; exact kk2
    . rw [du (by rw [h4, K1]; intro n h; cases h) (by rw [h4, K1]; intro h; cases h), h4]; rw [du (by rw [K1]; intro n h; cases h) (by rw [K1]; intro h; cases h)] at kk1; exact kk1
  have es : ∀ {c w r m k}, cI T C ν ops o1 σ = .eff -> cI T C ν ops o2 σ1 = .still c w r m k -> ((c = true /\ w = false) /\ k = true) /\ r.isNone = true -> Run T C ν ops ((j, k2) :: (i, k1) :: Z) σ σ' := by
    intro c2 w2 r2 m2 q2 K1 K2 hp
    obtain ⟨g2, d2, t2, S2, rfl⟩ := eX s2 K2
    have K2' := S2.kind
    rw [K2] at K2'
    simp only [Kd.still.injEq] at K2'
    obtain ⟨rfl, rfl, rfl, rfl, rfl⟩ := K2'
    obtain ⟨s, h1, h2, h3, h4, h5⟩ := JT s1 K1 S2 ap hp.1.1.1 hp.1.2 (fun t a d hop hff => vD (σ := σ1) hp.2 hop hff (er (List.all_eq_true.1 hp.1.1.1 a (by rw [hop]; simp [Op.operands])) hff) _ _)
    refine ⟨o2, _, e2, h1.step, ?_, o1, s, e1, h3, ?_, rest.eqv h5⟩
    . rw [du (by rw [h2, K2]; intro n h; cases h) (by rw [h2, K2]; intro h; cases h), h2]; rw [du (by rw [K2]; intro n h; cases h) (by rw [K2]; intro h; cases h)] at kk2; exact kk2
    . rw [<- rA (fun u hu h => ap.b t2 S2.dst (by subst h; exact hu)) (fun h => ap.c t2 h S2.dst) (K1.trans h4.symm)]; exact kk1
  cases k1 with
  | wild => simp [bd] at hp
  | still c1 w1 r1 m1 q1 =>
    have K1 := eI kk1
    cases k2 with
    | wild => simp [bd] at hp
    | lay w =>
      obtain ⟨g1, d1, t1, S1, rfl⟩ := eX s1 K1
      have K1' := S1.kind
      rw [K1] at K1'
      simp only [Kd.still.injEq] at K1'
      obtain ⟨rfl, rfl, rfl, rfl, rfl⟩ := K1'
      obtain ⟨d2, t2, L2, rfl, rfl⟩ := AA s2 kk2
      obtain ⟨A, B, KB⟩ := Qo S1 L2 ap (HF hp)
      have hne : t1 ≠ t2 := fun h => ap.c t1 S1.dst (by rw [h, L2.dst])
      have he : E0 (St.mk (put (put σ.env t1 d1) t2 d2) σ.S) (St.mk (put (put σ.env t2 d2) t1 d1) σ.S) := ⟨rfl, fun u _ => xX hne σ.env u⟩
      refine ⟨o2, _, e2, A.step, A.kind, o1, _, e1, B.step, ?_, rest.eqv he⟩
      rw [du (by rw [KB, K1]; intro n h; cases h) (by rw [KB, K1]; intro h; cases h), KB]; exact K1
    | call ft =>
      obtain ⟨g1, d1, t1, S1, rfl⟩ := eX s1 K1
      have K1' := S1.kind
      rw [K1] at K1'
      simp only [Kd.still.injEq] at K1'
      obtain ⟨rfl, rfl, rfl, rfl, rfl⟩ := K1'
      simp only [bd, Bool.and_eq_true, Bool.or_eq_true, Bool.not_eq_true'] at hp
      obtain ⟨s, h1, h2, h3, h4, h5⟩ := P7 LC S1 s2 kk2 ap hp.1.1 hp.1.2 hp.2
      refine ⟨o2, s, e2, h1, h2, o1, _, e1, h3.step, ?_, rest.eqv h5⟩
      rw [du (by rw [h4, K1]; intro n h; cases h) (by rw [h4, K1]; intro h; cases h), h4]; exact K1
    | still c2 w2 r2 m2 q2 =>
      obtain ⟨g1, d1, t1, S1, rfl⟩ := eX s1 K1
      have K1' := S1.kind
      rw [K1] at K1'
      simp only [Kd.still.injEq] at K1'
      obtain ⟨rfl, rfl, rfl, rfl, rfl⟩ := K1'
      have K2 := eI kk2
      obtain ⟨g2, d2, t2, S2, rfl⟩ := eX s2 K2
      have K2' := S2.kind
      rw [K2] at K2'
      simp only [Kd.still.injEq] at K2'
      obtain ⟨rfl, rfl, rfl, rfl, rfl⟩ := K2'
      simp only [bd, Bool.and_eq_true, Bool.or_eq_true, Bool.not_eq_true'] at hp
      obtain ⟨A, B, KA, KB⟩ := P3 S1 S2 ap (hp.1.imp IQ id) (hp.2.imp IQ id)
      have hne : t1 ≠ t2 := fun h => ap.c t1 S1.dst (by rw [h, S2.dst])
      have he : E0 (St.mk (put (put σ.env t1 d1) t2 d2) σ.S) (St.mk (put (put σ.env t2 d2) t1 d1) σ.S) := ⟨rfl, fun u _ => xX hne σ.env u⟩
      refine ⟨o2, _, e2, A.step, ?_, o1, _, e1, B.step, ?_, rest.eqv he⟩
      . rw [du (by rw [KA, K2]; intro n h; cases h) (by rw [KA, K2]; intro h; cases h), KA]; exact K2
      . rw [du (by rw [KB, K1]; intro n h; cases h) (by rw [KB, K1]; intro h; cases h), KB]; exact K1
    | eff =>
      simp only [bd, Bool.and_eq_true, Bool.not_eq_true'] at hp
      exact se K1 (Ia kk2) hp
    | ap =>
      simp only [bd, Bool.and_eq_true, Bool.not_eq_true'] at hp
      exact se K1 (xV kk2).1 hp
    | work wr n =>
      simp only [bd, Bool.and_eq_true, Bool.not_eq_true'] at hp
      exact sw K1 (Ez kk2) hp.1.1 hp.1.2 (.inl hp.2)
    | reg =>
      simp only [bd, Bool.and_eq_true] at hp
      obtain ⟨gg, rr, n, K2⟩ := Bx kk2
      have hS1 : σ1.S = σ.S := by
        obtain ⟨_, _, _, _, rfl⟩ := eX s1 K1; rfl
      have hS2 : σ2.S = σ1.S := (ik (e := σ1.env) (S := σ1.S) gg (eA s2 K2).2.2.1 rr s2 []).1
      exact sw K1 K2 hp.1 hp.2 (.inr (hS2.trans hS1))
    | new n =>
      obtain ⟨g1, d1, t1, S1, rfl⟩ := eX s1 K1
      have K1' := S1.kind
      rw [K1] at K1'
      simp only [Kd.still.injEq] at K1'
      obtain ⟨rfl, rfl, rfl, rfl, rfl⟩ := K1'
      simp only [bd, Bool.and_eq_true] at hp
      obtain ⟨s, h1, h2, h3, h4, h5⟩ := PK S1 s2 kk2 ap hp.1 hp.2
      refine ⟨o2, s, e2, h1, h2, o1, _, e1, h3.step, ?_, rest.eqv h5⟩
      rw [du (by rw [h4, K1]; intro n h; cases h) (by rw [h4, K1]; intro h; cases h), h4]; exact K1
  | lay w =>
    obtain ⟨d1, t1, L1, rfl, rfl⟩ := AA s1 kk1
    cases k2 with
    | lay w =>
      obtain ⟨d2, t2, L2, rfl, rfl⟩ := AA s2 kk2
      obtain ⟨A, B⟩ := PN L1 L2 ap
      have hne : t1 ≠ t2 := fun h => ap.c t1 L1.dst (by rw [h, L2.dst])
      have he : E0 (St.mk (put (put σ.env t1 d1) t2 d2) σ.S) (St.mk (put (put σ.env t2 d2) t1 d1) σ.S) := ⟨rfl, fun u _ => xX hne σ.env u⟩
      exact ⟨o2, _, e2, A.step, A.kind, o1, _, e1, B.step, B.kind, rest.eqv he⟩
    | call ft =>
      simp only [bd] at hp
      obtain ⟨s, h1, h2, h3, h4⟩ := JS L1 hp s2 (u0 kk2).1 ap
      exact ⟨o2, s, e2, h1, h2.trans kk2, o1, _, e1, h3.step, h3.kind, rest.eqv h4⟩
    | ap =>
      simp only [bd] at hp
      obtain ⟨s, h1, h2, h3, h4⟩ := JS L1 hp s2 (xV kk2).1 ap
      exact ⟨o2, s, e2, h1, h2.trans kk2, o1, _, e1, h3.step, h3.kind, rest.eqv h4⟩
    | still c2 w2 r2 m2 q2 =>
      have K2 := eI kk2
      obtain ⟨g2, d2, t2, S2, rfl⟩ := eX s2 K2
      have K2' := S2.kind
      rw [K2] at K2'
      simp only [Kd.still.injEq] at K2'
      obtain ⟨rfl, rfl, rfl, rfl, rfl⟩ := K2'
      obtain ⟨A, B, KA⟩ := PB L1 S2 ap (HF (by simpa only [bd] using hp))
      have hne : t1 ≠ t2 := fun h => ap.c t1 L1.dst (by rw [h, S2.dst])
      have he : E0 (St.mk (put (put σ.env t1 d1) t2 d2) σ.S) (St.mk (put (put σ.env t2 d2) t1 d1) σ.S) := ⟨rfl, fun u _ => xX hne σ.env u⟩
      refine ⟨o2, _, e2, A.step, ?_, o1, _, e1, B.step, B.kind, rest.eqv he⟩
      rw [du (by rw [KA, K2]; intro n h; cases h) (by rw [KA, K2]; intro h; cases h), KA]; exact K2
    | reg =>
      obtain ⟨gg, rr, n, K2⟩ := Bx kk2
      obtain ⟨s, h1, h2, h3, h4⟩ := Qu L1 s2 gg rr K2 ap
      exact ⟨o2, s, e2, h1, h2.trans kk2, o1, _, e1, h3.step, h3.kind, rest.eqv h4⟩
    | new m =>
      have hkw : ∃ n, cI T C ν ops o1 σ = .work none n := by
        rcases ez (T := T) (C := C) (ν := ν) (ops := ops) (o := o1) (σ := σ) with e | ⟨_, n, e1, _⟩ | ⟨_, e, ⟨_, _, e3⟩ | ⟨_, e3⟩⟩
        . rw [e] at kk1; exact absurd kk1 (xh _)
        . exact ⟨n, e1⟩
        all_goals (rw [e3] at kk1; cases kk1)
      obtain ⟨n, K1⟩ := hkw
      obtain ⟨s, s', h1, h2, h3, h4, h5⟩ := Kk s1 L1.gd (Kn L1.hl) K1 s2 kk2 ap
      exact ⟨o2, s, e2, h1, h2, o1, s', e1, h3, h4.trans kk1, rest.eqv h5⟩
    | _ => simp [bd] at hp
  | call ft =>
    cases k2 with
    | lay w =>
      obtain ⟨d2, t2, L2, rfl, rfl⟩ := AA s2 kk2
      simp only [bd] at hp
      obtain ⟨s, h1, h2, h3, h4⟩ := JQ s1 (u0 kk1).1 L2 hp ap
      exact ⟨o2, _, e2, h1.step, h1.kind, o1, s, e1, h2, h3.trans kk1, rest.eqv h4⟩
    | still c2 w2 r2 m2 q2 =>
      have K2 := eI kk2
      obtain ⟨g2, d2, t2, S2, rfl⟩ := eX s2 K2
      have K2' := S2.kind
      rw [K2] at K2'
      simp only [Kd.still.injEq] at K2'
      obtain ⟨rfl, rfl, rfl, rfl, rfl⟩ := K2'
      simp only [bd, Bool.and_eq_true, Bool.or_eq_true, Bool.not_eq_true'] at hp
      obtain ⟨s, h1, h2, h3, h4, h5⟩ := P9 LC s1 kk1 S2 ap hp.1.1.1 hp.1.2 hp.2
      refine ⟨o2, _, e2, h1.step, ?_, o1, s, e1, h3, h4, rest.eqv h5⟩
      rw [du (by rw [h2, K2]; intro n h; cases h) (by rw [h2, K2]; intro h; cases h), h2]; exact K2
    | new n =>
      simp only [bd, Bool.not_eq_true', beq_eq_false_iff_ne] at hp
      obtain ⟨s, s', h1, h2, h3, h4, h5⟩ := OP LC s1 kk1 s2 kk2 ap hp
      exact ⟨o2, s, e2, h1, h2, o1, s', e1, h3, h4, rest.eqv h5⟩
    | _ => simp [bd] at hp
  | eff =>
    cases k2 with
    | still c2 w2 r2 m2 q2 =>
      simp only [bd, Bool.and_eq_true, Bool.not_eq_true'] at hp
      exact es (Ia kk1) (eI kk2) hp
    | _ => simp [bd] at hp
  | ap =>
    cases k2 with
    | lay w =>
      obtain ⟨d2, t2, L2, rfl, rfl⟩ := AA s2 kk2
      simp only [bd] at hp
      obtain ⟨s, h1, h2, h3, h4⟩ := JQ s1 (xV kk1).1 L2 hp ap
      exact ⟨o2, _, e2, h1.step, h1.kind, o1, s, e1, h2, h3.trans kk1, rest.eqv h4⟩
    | still c2 w2 r2 m2 q2 =>
      simp only [bd, Bool.and_eq_true, Bool.not_eq_true'] at hp
      exact es (xV kk1).1 (eI kk2) hp
    | new n =>
      obtain ⟨s, s', h1, h2, h3, h4, h5⟩ := Qy s1 kk1 s2 kk2 ap
      exact ⟨o2, s, e2, h1, h2, o1, s', e1, h3, h4, rest.eqv h5⟩
    | _ => simp [bd] at hp
  | work wr n =>
    cases k2 with
    | still c2 w2 r2 m2 q2 =>
      simp only [bd, Bool.and_eq_true, Bool.not_eq_true'] at hp
      exact ws (Ez kk1) (eI kk2) hp.1.1 hp.1.2 (.inl hp.2)
    | _ => simp [bd] at hp
  | reg =>
    obtain ⟨gg, rr, n, K1⟩ := Bx kk1
    cases k2 with
    | new m =>
      obtain ⟨s, s', h1, h2, h3, h4, h5⟩ := Kk s1 gg rr K1 s2 kk2 ap
      exact ⟨o2, s, e2, h1, h2, o1, s', e1, h3, h4.trans kk1, rest.eqv h5⟩
    | still c2 w2 r2 m2 q2 =>
      simp only [bd, Bool.and_eq_true] at hp
      have hS1 : σ1.S = σ.S := (ik (e := σ.env) (S := σ.S) gg (eA s1 K1).2.2.1 rr s1 []).1
      exact ws K1 (eI kk2) hp.1 hp.2 (.inr hS1)
    | _ => simp [bd] at hp
  | new n =>
    cases k2 with
    | still c2 w2 r2 m2 q2 =>
      simp only [bd, Bool.and_eq_true] at hp
      exact ws (wC kk1).2.2.2 (eI kk2) hp.1.1 hp.1.2 (.inl hp.2)
    | _ => simp [bd] at hp
theorem Run.front (LC:zi C) {q:Nat×Kd} {L2:List (Nat×Kd)} : ∀ {L1:List (Nat×Kd)} {σ:St},(∀p∈L1,PL ops p q)->Run T C ν ops (L1++q::L2) σ σ'->Run T C ν ops (q::(L1++L2)) σ σ'
 | [],σ,_,r=>r
 |p::L1,σ,hf,r=>by
  obtain⟨i,k⟩:=p
  obtain⟨o,σ1,h1,h2,h3,h4⟩:=r
  have ih:=Run.front LC (L1:=L1) (fun p hp=>hf p (List.mem_cons_of_mem _ hp)) h4
  exact Run.swap LC (hf (i,k) List.mem_cons_self) ⟨o,σ1,h1,h2,h3,ih⟩
theorem yC: ∀(rest:List Oper) (i:Nat) (σ σ':St) (ks:List Kd),(∀j,rest[j]? =ops[i+j]?)->dV T C ν ops rest σ=some (σ',ks)->ks.length=rest.length/\Run T C ν ops ((List.range' i rest.length).zip ks) σ σ'
 | [],i,σ,σ',ks,_,h=>by
  simp only [dV,Option.some.injEq,Prod.mk.injEq] at h
  obtain⟨rfl,rfl⟩:=h
  exact⟨rfl,E0.refl _⟩
 |o::rest,i,σ,σ',ks,hr,h=>by
  simp only [dV] at h
  split at h
  ·rename_i σ1 hs
   split at h
   ·rename_i σ2 ks2 hs2
    simp only [Option.some.injEq,Prod.mk.injEq] at h
    obtain⟨rfl,rfl⟩:=h
    obtain⟨l,r⟩:=yC rest (i+1) σ1 σ2 ks2 (fun j=>by have:=hr (j+1);simpa [Nat.add_assoc,Nat.add_comm 1] using this) hs2
    refine⟨by simp [l],?_⟩
    simp only [List.length_cons,List.range'_succ,List.zip_cons_cons]
    have:=hr 0
    exact⟨o,σ1,by simpa using this.symm,hs,rfl,r⟩
   ·cases h
  ·cases h
def zQ (ops:List Oper) (i j:Nat):Prop:=∃o e,ops[j]? =some o/\e∈o.after/\Region.binds .any e=true/\e.on=i
inductive Anc (ops:List Oper):Nat->Nat->Prop
 |one {i j:Nat} :zQ ops i j->Anc ops i j
 |more {i j k:Nat} :Anc ops i j->zQ ops j k->Anc ops i k
def I3 (ops:List Oper) (listed:Array Bool):Prop:=∀i j,listed.getD j false=true->zQ ops i j->listed.getD i false=true
theorem I3.anc {listed:Array Bool} (hc:I3 ops listed) {i j:Nat} (ha:Anc ops i j):(∀k,zQ ops k j->listed.getD k false=true)->listed.getD i false=true:=by
 induction ha with
 |one h=>intro hk;exact hk _ h
 |more h1 h2 ih=>intro hk;exact ih (fun k hb=>hc _ _ (hk _ h2) hb)
theorem qcS {P:Program} (SC:cj P C) {oa:Array Oper} {ds:List Deferred} {Q:Exit->Act->World->Prop} {nt:Nat} (hsz: ∀o∈oa.toList,∀t,o.dst=some t->t<nt):
  ∀(Z:List (Nat×Kd)) (listed:Array Bool) (w:World) (G:Gh) (tmps:Array Value) (σ:St),tmps.size=nt->listed.size=oa.size->dE w.heap G tmps σ->Run (ck P) C ν oa.toList Z σ σ'->
  (∀i,listed.getD i true=false↔ ∃k,(i,k)∈Z)->I3 oa.toList listed->Z.Pairwise (fun p q=>p.1<q.1)->Z.Pairwise (fun p q=>Anc oa.toList p.1 q.1∨PL oa.toList p q)->(∀i j,zQ oa.toList i j->i<j)->
  (∀a' w' G',a'.defers=ds->a'.tmps.size=tmps.size->dE w'.heap G' a'.tmps σ'->dq w G σ w' G' σ'->Q .normal a' w')->wpAny P .any oa Q Z.length listed ⟨tmps,ds⟩ w:=by
 intro Z
 generalize hn:Z.length=m
 induction m generalizing Z with
 |zero=>
  intro listed w G tmps σ ht hl F r hun hc hs hp hb hQ
  have:Z= []:=List.eq_nil_of_length_eq_zero hn
  subst this
  have h0:E0 σ σ':=r
  refine⟨?_,hQ _ w G rfl rfl ⟨F.rel.congr (fun t=>h0.env t (fun h=>h)) h0.S,F.clean,by rw [h0.S];exact F.low⟩ ⟨w7.refl _ _,by rw [h0.S];exact Nat.le_refl _,fun _ _=>rfl⟩⟩
  rw [List.eq_nil_iff_forall_not_mem]
  intro j hj
  obtain⟨h1,_⟩:=mem_ready.1 hj
  obtain⟨k,hk⟩:=(hun j).1 h1
  cases hk
 |succ m ih=>
  intro listed w G tmps σ ht hl F r hun hc hs hp hb hQ
  constructor
  ·intro hr
   exfalso
   cases Z with
   |nil=>simp at hn
   |cons p Z'=>
    obtain⟨i,k⟩:=p
    obtain⟨o,σ1,h1,_⟩:=r
    have hi:i∈Region.ready .any oa listed:=by
     refine mem_ready.2 ⟨(hun i).2 ⟨k,List.mem_cons_self⟩,o,by simpa using h1,fun e he hbe=>?_⟩
     have hlt:=hb e.on i ⟨o,e,h1,he,hbe,rfl⟩
     cases hge:listed.getD e.on false with
     |true=>rfl
     |false=>
      exfalso
      have hilt:i<oa.size:=by
       have:=(List.getElem?_eq_some_iff.1 h1).1
       simpa using this
      have:listed.getD e.on true=false:=by
       have hlt2:e.on<listed.size:=by omega
       simp [hlt2] at hge⊢;exact hge
      obtain⟨k',hk'⟩:=(hun e.on).1 this
      rcases List.mem_cons.1 hk' with h|h
      ·simp only [Prod.mk.injEq] at h;omega
      ·have:=(List.pairwise_cons.1 hs).1 _ h
       simp only at this
       omega
    rw [hr] at hi;cases hi
  ·intro i hi
   obtain⟨h1,o,ho,hall⟩:=mem_ready.1 hi
   obtain⟨k,hk⟩:=(hun i).1 h1
   obtain⟨L1,L2,rfl⟩:=List.append_of_mem hk
   have hready: ∀k',zQ oa.toList k' i->listed.getD k' false=true:=by
    rintro k' ⟨o',e,e1,e2,e3,rfl⟩
    have:o'=o:=by
     rw [Array.getElem?_toList,ho] at e1;exact (Option.some.inj e1).symm
    subst this
    exact hall e e2 e3
   have hfree: ∀p∈L1,PL oa.toList p (i,k):=by
    intro p hpm
    rcases (List.pairwise_append.1 hp).2.2 p hpm (i,k) List.mem_cons_self with ha|hf
    ·exfalso
     have h2:=hc.anc ha hready
     have h3:=(hun p.1).2 ⟨p.2,List.mem_append_left _ hpm⟩
     rcases Nat.lt_or_ge p.1 listed.size with h|h
     ·simp [h] at h2 h3;rw [h2] at h3;cases h3
     ·simp [Array.getElem?_eq_none h] at h2
    ·exact hf
   obtain⟨o',σ1,e1,e2,e3,e4⟩:=Run.front SC.loc hfree r
   have:o'=o:=by
    rw [Array.getElem?_toList,ho] at e1;exact (Option.some.inj e1).symm
   subst this
   refine FS SC ho F (fun t hd=>by rw [ht];exact hsz o' (Array.mem_toList_iff.2 (Array.mem_of_getElem? ho)) t hd) e2 ?_
   intro a' w' G' q1 q2 q3 q4
   obtain⟨tmps',ds'⟩:=a'
   simp only at q1 q2 q3
   subst q1
   have hilt:i<listed.size:=by
    rcases Nat.lt_or_ge i listed.size with h|h
    ·exact h
    ·simp [Array.getElem?_eq_none h] at h1
   refine ih (L1++L2) (by simp at hn⊢;omega) (listed.setIfInBounds i true) w' G' tmps' σ1 (by omega) (by simpa using hl) q3 e4 ?_ ?_ ?_ ?_ hb ?_
   ·intro j
    by_cases hji:i=j
    ·subst hji
     constructor
     ·intro h;simp [hilt] at h
     ·rintro⟨k',hk'⟩
      exfalso
      rw [List.pairwise_append] at hs
      rcases List.mem_append.1 hk' with h|h
      ·have:=hs.2.2 _ h (i,k) List.mem_cons_self;simp only at this;omega
      ·have:=(List.pairwise_cons.1 hs.2.1).1 _ h;simp only at this;omega
    ·rw [getD_set_ne true hji,hun j]
     constructor
     ·rintro⟨k',hk'⟩
      refine⟨k',?_⟩
      rcases List.mem_append.1 hk' with h|h
      ·exact List.mem_append_left _ h
      ·rcases List.mem_cons.1 h with h|h
       ·simp only [Prod.mk.injEq] at h;exact absurd h.1.symm hji
       ·exact List.mem_append_right _ h
     ·rintro⟨k',hk'⟩
      refine⟨k',?_⟩
      rcases List.mem_append.1 hk' with h|h
      ·exact List.mem_append_left _ h
      ·exact List.mem_append_right _ (List.mem_cons_of_mem _ h)
   ·intro a b hlb hab
    by_cases hbi:i=b
    ·subst hbi
     exact getD_set_true (hready a hab)
    ·rw [getD_set_ne false hbi] at hlb
     exact getD_set_true (hc a b hlb hab)
   ·rw [List.pairwise_append] at hs⊢
    exact⟨hs.1,(List.pairwise_cons.1 hs.2.1).2,fun a ha b hb'=>hs.2.2 a ha b (List.mem_cons_of_mem _ hb')⟩
   ·rw [List.pairwise_append] at hp⊢
    exact⟨hp.1,(List.pairwise_cons.1 hp.2.1).2,fun a ha b hb'=>hp.2.2 a ha b (List.mem_cons_of_mem _ hb')⟩
   ·intro a'' w'' G'' y1 y2 y3 y4
    exact hQ a'' w'' G'' y1 (by omega) y3 (q4.trans y4)
end
end Go.Mx
namespace Go.Mx
open Go
def gf (o:Oper):List Nat:=(o.after.toList.filter (Region.binds .any)).map (·.on)
def xz (acc:List Nat):List Nat->Nat
 | []=>0
 |e::r=>2 ^ e|||(acc.getD e 0|||xz acc r)
def Ki:List Oper->List Nat->List Nat
 | [],acc=>acc
 |o::r,acc=>Ki r (acc++ [xz acc (gf o)])
def Ft:List Oper->Nat->Bool
 | [],_=>true
 |o::r,j=>(gf o).all (fun e=>Nat.blt e j)&&Ft r (j+1)
def yE (free:List (Nat×Nat)) (i j:Nat):Bool:=free.any fun p=>Nat.beq p.1 i&&Nat.beq p.2 j
def Mn (oa:Array Oper) (ms:List Nat) (free:List (Nat×Nat)) (i j:Nat):Bool:=
 (ms.getD j 0).testBit i||(yE free i j&&match oa[i]?,oa[j]? with|some x,some y=>Oper.apart oa x y|_,_=>false)
def Jz (oa:Array Oper) (ms:List Nat) (free:List (Nat×Nat)):Nat->Bool
 |0=>true
 |j+1=>(List.range j).all (fun i=>Mn oa ms free i j)&&Jz oa ms free j
def Bw (oa:Array Oper) (free:List (Nat×Nat)):Bool:=Ft oa.toList 0&&Jz oa (Ki oa.toList []) free oa.size
section
variable {P:Program} {C:aj} {ν:cL} {ops:List Oper} {σ σ':St}
theorem HG {o:Oper} {i:Nat} :i∈gf o↔ ∃e∈o.after,Region.binds .any e=true/\e.on=i:=by
 simp only [gf,List.mem_map,List.mem_filter,Array.mem_toList_iff]
 constructor
 ·rintro⟨e,⟨h1,h2⟩,h3⟩;exact⟨e,h1,h2,h3⟩
 ·rintro⟨e,h1,h2,h3⟩;exact⟨e,⟨h1,h2⟩,h3⟩
theorem BG {acc:List Nat} {j:Nat} (hacc: ∀m i,(acc.getD m 0).testBit i=true->Anc ops i m): ∀ {es:List Nat},(∀e∈es,zQ ops e j)-> ∀i,(xz acc es).testBit i=true->Anc ops i j
 | [],_,i,h=>by simp [xz] at h
 |e::es,he,i,h=>by
  simp only [xz,Nat.testBit_or,Bool.or_eq_true] at h
  rcases h with h|h|h
  ·rw [Nat.testBit_two_pow] at h
   simp only [decide_eq_true_eq] at h
   subst h
   exact .one (he _ List.mem_cons_self)
  ·exact .more (hacc _ _ h) (he _ List.mem_cons_self)
  ·exact BG hacc (fun e h=>he e (List.mem_cons_of_mem _ h)) i h
theorem DW: ∀(rest:List Oper) (acc:List Nat),(∀j,rest[j]? =ops[acc.length+j]?)->(∀m i,(acc.getD m 0).testBit i=true->Anc ops i m)-> ∀m i,((Ki rest acc).getD m 0).testBit i=true->Anc ops i m
 | [],acc,_,h,m,i,hi=>h m i hi
 |o::rest,acc,hr,h,m,i,hi=>by
  simp only [Ki] at hi
  have h0:=hr 0
  simp only [List.getElem?_cons_zero,Nat.add_zero] at h0
  refine DW rest _ (fun j=>?_) ?_ m i hi
  ·have:=hr (j+1)
   simp only [List.getElem?_cons_succ] at this
   rw [this]
   simp [Nat.add_assoc,Nat.add_comm 1]
  ·intro m i hmi
   rcases Nat.lt_trichotomy m acc.length with hlt|heq|hgt
   ·refine h m i ?_
    simpa [List.getD_eq_getElem?_getD,List.getElem?_append_left hlt] using hmi
   ·subst heq
    have:(xz acc (gf o)).testBit i=true:=by simpa [List.getD_eq_getElem?_getD] using hmi
    refine BG h (fun e he=>?_) i this
    obtain⟨x,hx1,hx2,hx3⟩:=HG.1 he
    exact⟨o,x,h0.symm,hx1,hx2,hx3⟩
   ·exfalso
    have:(acc++ [xz acc (gf o)])[m]? =none:=by simp;omega
    simp [List.getD_eq_getElem?_getD,this] at hmi
theorem Eo: ∀(rest:List Oper) (k:Nat),Ft rest k=true-> ∀j o,rest[j]? =some o-> ∀e∈gf o,e<k+j
 | [],k,_,j,o,h=>by simp at h
 |x::rest,k,hb,j,o,h=>by
  simp only [Ft,Bool.and_eq_true,List.all_eq_true] at hb
  cases j with
  |zero=>
   simp only [List.getElem?_cons_zero,Option.some.injEq] at h
   subst h
   intro e he
   have:=hb.1 e he
   simp [Nat.blt] at this
   omega
  |succ j=>
   simp only [List.getElem?_cons_succ] at h
   intro e he
   have:=Eo rest (k+1) hb.2 j o h e he
   omega
theorem Hq {oa:Array Oper} {ms:List Nat} {free:List (Nat×Nat)} : ∀ {n:Nat},Jz oa ms free n=true-> ∀i j,i<j->j<n->Mn oa ms free i j=true
 |0,_,i,j,_,h=>by omega
 |n+1,hr,i,j,hij,hj=>by
  simp only [Jz,Bool.and_eq_true,List.all_eq_true] at hr
  by_cases h:j=n
  ·subst h;exact hr.1 i (List.mem_range.2 hij)
  ·exact Hq hr.2 i j hij (by omega)
theorem Gu {oa:Array Oper} {o:Oper} {u:Nat} (h:eB oa.toList o u):u∈o.looksAt oa:=by
 unfold Oper.looksAt
 rw [List.mem_append]
 rcases h with h|⟨j,b,p,h1,h2,h3⟩
 ·left
  rw [List.mem_filterMap]
  exact⟨_,h,rfl⟩
 ·right
  rw [h1]
  simp only
  have:oa[j]? =some p:=by simpa using h2
  rw [this]
  simp [h3]
theorem L9 {oa:Array Oper} {x y:Oper} (h:Oper.apart oa x y=true):ru oa.toList x y:=by
 obtain⟨h1,h2,h3⟩:=Oper.apart_spec h
 exact⟨fun t ht hl=>h1 t ht (Gu hl),fun t ht hl=>h3 t ht (Gu hl),h2⟩
theorem Es {T:Nat->Ty} : ∀ {rest:List Oper} {σ:St},fd T C ν ops rest σ=some σ'-> ∃ks,dV T C ν ops rest σ=some (σ',ks)
 | [],σ,h=>by simp only [fd,Option.some.injEq] at h;exact⟨[],by simp only [dV,h]⟩
 |o::rest,σ,h=>by
  simp only [fd] at h
  split at h
  ·rename_i σ1 hs
   obtain⟨ks,hk⟩:=Es h
   exact⟨_,by simp only [dV,hs,hk];rfl⟩
  ·cases h
theorem DD {ks:List Kd} : ∀ {free:List (Nat×Nat)},bp ks free=true-> ∀i j,yE free i j=true->bd (ks.getD i .wild) (ks.getD j .wild)=true
 | [],_,i,j,h=>by simp [yE] at h
 |(a,b)::r,hf,i,j,h=>by
  simp only [bp,Bool.and_eq_true] at hf
  simp only [yE,List.any_cons,Bool.or_eq_true,Bool.and_eq_true] at h
  rcases h with⟨h1,h2⟩|h
  ·have e1:=Nat.eq_of_beq_eq_true h1
   have e2:=Nat.eq_of_beq_eq_true h2
   subst e1;subst e2
   exact hf.1
  ·exact DD hf.2 i j h
theorem Cc (SC : cj P C) (hm : P.follows .mixedOrders = true) {n id : Nat} {oa : Array Oper} (hsz : ∀ o ∈ oa.toList, ∀ t, o.dst = some t -> t < n) (hd : Bw oa (ν.free id) = true) : gj P C ν n id oa true := by
  intro w G tmps ds σ σ' hn F he Q hQ
  refine wp_region_any hm ?_
  simp only [Bw, Bool.and_eq_true] at hd
  obtain ⟨hback, hrows⟩ := hd
  have hb : ∀ i j, zQ oa.toList i j -> i < j := by
    rintro i j ⟨o, e, h1, h2, h3, rfl⟩
    have := Eo oa.toList 0 hback j o h1 e.on (HG.2 ⟨e, h2, h3, rfl⟩)
    omega
  have hms := DW (ops := oa.toList) oa.toList [] (fun j => by simp) (fun m i h => by simp at h)
  -- the run in the text's order
  have hev : ∃ ks, dV (ck P) C ν oa.toList oa.toList σ = some (σ', ks) /\ ∀ i j, yE (ν.free id) i j = true -> bd (ks.getD i .wild) (ks.getD j .wild) = true ∨ ¬ (i < j /\ j < oa.size) := by
    unfold dY at he
    cases hemp : (ν.free id).isEmpty with
    | true =>
      simp only [hemp, Bool.not_true, Bool.and_false, cond_false] at he
      obtain ⟨ks, hk⟩ := Es he
      refine ⟨ks, hk, fun i j hf => ?_⟩
      have : ν.free id = [] := List.isEmpty_iff.1 hemp
      rw [this] at hf
      simp [yE] at hf
    | false =>
      simp only [hemp, Bool.not_false, Bool.and_true, cond_true] at he
      split at he
      . rename_i s ks hk
        cases hok : (ks.all bm || bp ks (ν.free id)) with
        | false => rw [hok] at he; cases he
        | true =>
          rw [hok, cond_true, Option.some.injEq] at he
          subst he
          refine ⟨ks, hk, fun i j hf => ?_⟩
          simp only [Bool.or_eq_true] at hok
          rcases hok with hp | hfo
          . by_cases hlt : i < j /\ j < oa.size
            . left
              have hlen := (yC oa.toList 0 σ s ks (fun j => by simp) hk).1
              rw [List.all_eq_true] at hp
              have hget : ∀ m, m < oa.size -> ∃ c r q z, ks.getD m .wild = .still c false r q z := by
                intro m hm'
                have hml : m < ks.length := by rw [hlen]; simpa using hm'
                have hpm := hp _ (List.getElem_mem hml)
                rw [List.getD_eq_getElem?_getD, List.getElem?_eq_getElem hml, Option.getD_some]
                revert hpm
                cases ks[m] with
                | still c w r q z => intro hpm; simp only [bm, Bool.not_eq_true'] at hpm; subst hpm; exact ⟨c, r, q, z, rfl⟩
                | _ => intro hpm; simp [bm] at hpm
              obtain ⟨_, _, _, _, e1⟩ := hget i (by omega)
              obtain ⟨_, _, _, _, e2⟩ := hget j hlt.2
              rw [e1, e2]
              simp [bd]
            . exact .inr hlt
          . exact .inl (DD hfo i j hf)
      . cases he
  obtain ⟨ks, hk, hfree⟩ := hev
  obtain ⟨hlen, hrun⟩ := yC oa.toList 0 σ σ' ks (fun j => by simp) hk
  have hzl : ((List.range' 0 oa.toList.length).zip ks).length = oa.size := by
    rw [List.length_zip, List.length_range', hlen]; simp
  have hmem : ∀ i k, (i, k) ∈ (List.range' 0 oa.toList.length).zip ks ↔ i < oa.size /\ ks[i]? = some k := by
    intro i k
    rw [List.mem_iff_getElem?]
    constructor
    . rintro ⟨m, hm'⟩
      rw [List.getElem?_zip_eq_some] at hm'
      obtain ⟨h1, h2⟩ := hm'
      obtain ⟨h3, h4⟩ := List.getElem?_eq_some_iff.1 h1
      rw [List.getElem_range'] at h4
      simp only [Nat.zero_add, Nat.one_mul] at h4
      subst h4
      rw [List.length_range'] at h3
      exact ⟨by simpa using h3, h2⟩
    . rintro ⟨h1, h2⟩
      refine ⟨i, ?_⟩
      rw [List.getElem?_zip_eq_some]
      refine ⟨?_, h2⟩
      simp [List.getElem?_range', h1]
  have hsorted : ((List.range' 0 oa.toList.length).zip ks).Pairwise (fun p q => p.1 < q.1) := by
    have : (((List.range' 0 oa.toList.length).zip ks).map Prod.fst).Pairwise (· < ·) := by
      rw [List.map_fst_zip (by rw [List.length_range', hlen]; exact Nat.le_refl _)]
      exact List.pairwise_lt_range'
    rwa [List.pairwise_map] at this
  rw [<- hzl]
  refine qcS SC hsz _ _ _ G tmps σ hn (by rw [hzl]; simp) F hrun ?_ ?_ hsorted ?_ hb ?_
  . intro i
    rcases Nat.lt_or_ge i oa.size with h | h
    . constructor
      . intro _
        have : i < ks.length := by rw [hlen]; simpa using h
        exact ⟨ks[i], (hmem i _).2 ⟨h, List.getElem?_eq_getElem this⟩⟩
      . intro _; rw [hzl]; simp [h]
    . constructor
      . intro hf; rw [hzl] at hf; simp [Nat.not_lt.2 h] at hf
      . rintro ⟨k, hk'⟩; have := ((hmem i k).1 hk').1; omega
  . intro i j hj _
    exfalso
    rw [hzl] at hj
    rcases Nat.lt_or_ge j oa.size with h | h
    . simp [h] at hj
    . simp [Nat.not_lt.2 h] at hj
  . refine List.Pairwise.imp_of_mem ?_ hsorted
    rintro ⟨i, ki⟩ ⟨j, kj⟩ hi hj hij
    simp only at hij
    obtain ⟨hi1, hi2⟩ := (hmem i ki).1 hi
    obtain ⟨hj1, hj2⟩ := (hmem j kj).1 hj
    have hp := Hq hrows i j hij hj1
    simp only [Mn, Bool.or_eq_true, Bool.and_eq_true] at hp
    rcases hp with hp | ⟨hp1, hp2⟩
    . exact .inl (hms j i hp)
    . right
      have ei : oa[i]? = some oa[i] := by simp [hi1]
      have ej : oa[j]? = some oa[j] := by simp [hj1]
      rw [ei, ej] at hp2
      refine ⟨oa[i], oa[j], by simpa using ei, by simpa using ej, L9 hp2, ?_⟩
      rcases hfree i j hp1 with h | h
      . simpa [List.getD_eq_getElem?_getD, hi2, hj2] using h
      . exact absurd ⟨hij, hj1⟩ h
  . intro a' w' G' q1 q2 q3 q4
    exact hQ _ a' w' G' rfl q1 q2 q3 ⟨⟨q4.step.os, q4.step.tape, q4.step.output, q4.step.size, q4.step.keep, q4.step.mine, q4.step.rd, q4.step.rdn⟩, q4.len, q4.ob⟩
end
end Go.Mx
