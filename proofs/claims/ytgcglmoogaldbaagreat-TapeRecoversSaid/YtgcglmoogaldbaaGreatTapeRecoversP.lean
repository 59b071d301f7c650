/- The law TapeRecovers on the plain functions: it answers true at every argument of the sizes that the form allows. -/
import Derived.Test.YtgcglmoogaldbaaGreatWTy
import Derived.Test.YtgcglmoogaldbaaGreatTapeRecoversD
set_option linter.unusedSimpArgs false
set_option linter.unusedVariables false
set_option linter.constructorNameAsVariable false
set_option linter.unnecessarySimpa false
namespace Go.Proofs.YtgcglmoogaldbaaGreat
open Go Go.Mx Go.Proofs
theorem MQ (n:Int):IntKind.u8.wrap n=n % 256:=by
 simp [IntKind.wrap,IntKind.min,IntKind.max,IntKind.bits,IntKind.signed]
theorem I7 {n:Int} (h1:0<=n) (h2:n<18446744073709551616):IntKind.u64.wrap n=n:=by
 simp [IntKind.wrap,IntKind.min,IntKind.max,IntKind.bits,IntKind.signed];omega
theorem nL {n b:Nat} (h:(n:Int)*b<=140737488355328):dh n b=true:=fJ.2 h
theorem jD {α:Type} {l:List α} {i:Nat} {x:α} (h:l[i]? =some x):idx l (i:Int)=some x:=by
 unfold idx
 rw [if_pos (by omega)]
 simpa using h
theorem Ng {α:Type} (l:List α) (x:α) (m:List α):idx (l++x::m) (l.length:Int)=some x:=jD (by simp)
theorem pH (a:ByteArray):cY a a=true:=by unfold cY;exact beq_self_eq_true _
theorem LB (l m:List Int):vE (l++m)=(vE l&&vE m):=by simp [vE]
theorem RY (s:ByteArray):vE (byL s)=true:=by
 simp only [iM,vE,byL,List.all_map,List.all_eq_true,Function.comp,decide_eq_true_eq]
 intro b _
 exact⟨Int.natCast_nonneg _,by have:=b.toNat_lt;omega⟩
theorem UT (s:ByteArray):(byL s).length=s.size:=by
 simp only [iM,byL,List.length_map];rfl
def qbb (n:Int):List Int:=[(n+4611686018427387904) / 72057594037927936 % 256,(n+4611686018427387904) / 281474976710656 % 256,(n+4611686018427387904) / 1099511627776 % 256,(n+4611686018427387904) / 4294967296 % 256,(n+4611686018427387904) / 16777216 % 256,(n+4611686018427387904) / 65536 % 256,(n+4611686018427387904) / 256 % 256,(n+4611686018427387904) % 256]
theorem qgd (n:Int):(qbb n).length=8:=rfl
theorem qcn (n:Int):vE (qbb n)=true:=by
 simp only [iM,vE,qbb,List.all_cons,List.all_nil,Bool.and_true,Bool.and_eq_true,decide_eq_true_eq]
 omega
def qiW (n:Int):Prop:=-4611686018427387904<=n/\n<4611686018427387904
def UW (s:ByteArray):List Int:=(s.size:Int) % 256::byL s
theorem qcm (s:ByteArray):vE (UW s)=true:=by
 have:=RY s
 simp only [iM,vE,UW,List.all_cons,Bool.and_eq_true,decide_eq_true_eq] at*
 exact⟨by omega,this⟩
theorem qeD (s:ByteArray):(UW s).length=s.size+1:=by simp [UW,UT]
def run {α σ R:Type} (f:Nat->α->σ->σ⊕R) (e:σ->R):Nat->List α->σ->R
 |_,[],s=>e s
 |i,x::l,s=>match f i x s with
  | .inl s'=>run f e (i+1) l s'
  | .inr r=>r
theorem w9 {α σ τ R:Type} {step:τ->Option (τ⊕R)} (l:List α) (mk:Int->σ->τ) (I:Nat->σ->Prop) (f:Nat->α->σ->σ⊕R) (e:σ->R)
  (hs: ∀i x s,l[i]? =some x->I i s->step (mk i s)=some (match f i x s with| .inl s'=>.inl (mk ((i+1:Nat):Int) s')| .inr r=>.inr r))
  (hi: ∀i x s s',l[i]? =some x->I i s->f i x s= .inl s'->I (i+1) s')
  (he: ∀(i:Nat) s,l.length<=i->I i s->step (mk i s)=some (.inr (e s))) (k:Nat) (s:σ) (h0:I k s):cM step (mk k s)=some (run f e k (l.drop k) s):=by
 generalize hm:l.drop k=m
 induction m generalizing k s with
 |nil=>
  have:l.length<=k:=by
   have:=congrArg List.length hm
   simp only [iM,List.length_drop,List.length_nil] at this
   omega
  exact jX (he k s this h0)
 |cons x m ih=>
  have hx:l[k]? =some x:=by
   have:=List.getElem?_drop (xs:=l) (i:=k) (j:=0)
   rw [hm] at this
   simpa using this.symm
  have hm':l.drop (k+1)=m:=by
   have:l.drop (k+1)=(l.drop k).drop 1:=by rw [List.drop_drop]
   rw [this,hm];rfl
  have h1:=hs k x s hx h0
  simp only [iM,run]
  cases hf:f k x s with
  |inl s'=>
   rw [hf] at h1
   rw [pL h1]
   exact ih (k+1) s' (hi k x s s' hx h0 hf) hm'
  |inr r=>
   rw [hf] at h1
   exact jX h1
def nk {α:Type} (p:Nat->α->Bool):Nat->List α->Bool
 |_,[]=>true
 |k,x::l=>p k x&&nk p (k+1) l
theorem R5 {α:Type} (p q:Nat->α->Bool) (k:Nat) (l:List α):nk (fun i x=>p i x&&q i x) k l=(nk p k l&&nk q k l):=by
 induction l generalizing k with
 |nil=>rfl
 |cons x l ih=>
  simp only [iM,nk,ih]
  cases p k x<;>cases q k x<;>simp
theorem Yu {α:Type} {p q:Nat->α->Bool} (k:Nat) (l m:List α) (hm:l=m.drop k) (h: ∀i x,m[i]? =some x->k<=i->p i x=q i x):nk p k l=nk q k l:=by
 induction l generalizing k with
 |nil=>rfl
 |cons x l ih=>
  have hx:m[k]? =some x:=by
   have:=List.getElem?_drop (xs:=m) (i:=k) (j:=0)
   rw [<-hm] at this
   simpa using this.symm
  have hm':l=m.drop (k+1):=by
   have:m.drop (k+1)=(m.drop k).drop 1:=by rw [List.drop_drop]
   rw [this,<-hm];rfl
  simp only [iM,nk]
  rw [h k x hx (Nat.le_refl _),ih (k+1) hm' (fun i y hy hk=>h i y hy (by omega))]
theorem rz {α:Type} {step:Int->Option (Int⊕(Unit⊕Unit))} (l:List α) (k:Nat) (p:Nat->α->Bool)
  (hs: ∀i x,l[i]? =some x->k<=i->step i=some (bif p i x then .inl ((i+1:Nat):Int) else .inr (.inl ())))
  (he: ∀i:Nat,l.length<=i->step i=some (.inr (.inr ()))):cM step (k:Int)=some (bif nk p k (l.drop k) then .inr () else .inl ()):=by
 have h:=w9 (step:=step) l (fun i (_:Unit)=>i) (fun i _=>k<=i) (fun i x _=>bif p i x then .inl () else .inr (.inl ())) (fun _=>.inr ()) (fun i x s hx hk=>by
  rw [hs i x hx hk];cases p i x<;>rfl) (fun i x s s' _ hk _=>Nat.le_succ_of_le hk) (fun i s hl _=>he i hl) k () (Nat.le_refl _)
 rw [h]
 congr 1
 have: ∀(m:List α) (j:Nat),run (fun i x (_:Unit)=>bif p i x then .inl () else .inr (.inl ())) (fun _=>(.inr ():Unit⊕Unit)) j m ()=bif nk p j m then .inr () else .inl ():=by
  intro m
  induction m with
  |nil=>intro j;rfl
  |cons x m ih=>
   intro j
   simp only [iM,run,nk]
   cases p j x with
   |false=>rfl
   |true=>exact ih (j+1)
 exact this _ _
def qi {α:Type} (p:α->Bool):Nat->List α->Option Nat
 |_,[]=>none
 |k,x::l=>bif p x then some k else qi p (k+1) l
theorem ru {α τ R:Type} {step:τ->Option (τ⊕R)} (mk:Int->τ) (l:List α) (p:α->Bool) (y:Nat->R) (n:R)
  (hs: ∀(i:Nat) x,l[i]? =some x->step (mk i)=some (bif p x then .inr (y i) else .inl (mk ((i+1:Nat):Int))))
  (he:step (mk l.length)=some (.inr n)):cM step (mk 0)=some (match qi p 0 l with|some i=>y i|none=>n):=by
 have h:=w9 (step:=step) l (fun i (_:Unit)=>mk i) (fun i _=>i<=l.length) (fun i x _=>bif p x then .inr (y i) else .inl ()) (fun _=>n) (fun i x s hx hk=>by
  rw [hs i x hx];cases p x<;>rfl) (fun i x s s' hx hk _=>by have:=(List.getElem?_eq_some_iff.1 hx).1;omega) (fun i s hl hk=>by rw [Nat.le_antisymm hk hl];exact he) 0 () (Nat.zero_le _)
 refine h.trans ?_
 congr 1
 have: ∀(m:List α) (j:Nat),run (fun i x (_:Unit)=>bif p x then .inr (y i) else .inl ()) (fun _=>n) j m ()=match qi p j m with|some i=>y i|none=>n:=by
  intro m
  induction m with
  |nil=>intro j;rfl
  |cons x m ih=>
   intro j
   simp only [iM,run,qi]
   cases p x with
   |true=>rfl
   |false=>exact ih (j+1)
 exact this _ _
theorem xz {α:Type} (p:α->Bool) (k:Nat) (l:List α):(qi p k l).isSome=l.any p:=by
 induction l generalizing k with
 |nil=>rfl
 |cons x l ih=>
  simp only [iM,qi,List.any_cons]
  cases p x with
  |true=>rfl
  |false=>simpa using ih (k+1)
theorem P1 {α:Type} (p:α->Bool) (k:Nat) (l:List α):nk (fun _ x=>!(p x)) k l= !(l.any p):=by
 induction l generalizing k with
 |nil=>rfl
 |cons x l ih=>
  simp only [iM,nk,List.any_cons,Bool.not_or,ih]
theorem qco {α τ R:Type} {step:τ->Option (τ⊕R)} (mk:Int->List α->τ) (l:List α) (e:List α->R)
  (hs: ∀(i:Nat) x,l[i]? =some x->step (mk i (l.take i))=some (.inl (mk ((i+1:Nat):Int) (l.take i++ [x]))))
  (he:step (mk l.length l)=some (.inr (e l))):cM step (mk 0 [])=some (e l):=by
 have h:=w9 (step:=step) l mk (fun i s=>i<=l.length/\s=l.take i) (fun i x s=>.inl (s++ [x])) e (fun i x s hx hk=>by
  rw [hk.2,hs i x hx]) (fun i x s s' hx hk hf=>by
   have:=(List.getElem?_eq_some_iff.1 hx)
   obtain⟨h1,h2⟩:=this
   refine⟨by omega,?_⟩
   simp only [iM,Sum.inl.injEq] at hf
   rw [<-hf,hk.2,<-h2,List.take_append_getElem h1]) (fun i s hl hk=>by
   have hil:i=l.length:=by omega
   rw [hk.2,hil,List.take_length];exact he) 0 [] ⟨Nat.zero_le _,by simp⟩
 refine h.trans ?_
 congr 1
 have: ∀(m s:List α) (j:Nat),run (fun i x (s:List α)=>(.inl (s++ [x]):List α⊕R)) e j m s=e (s++m):=by
  intro m
  induction m with
  |nil=>intro s j;simp [run]
  |cons x m ih=>
   intro s j
   simp only [iM,run]
   rw [ih];simp
 rw [this];simp
theorem kV {n:Nat} (h:n<=140737488355328):IntKind.i64.wrap ((n:Int)+1)=((n+1:Nat):Int):=by
 rw [ls]<;>omega
theorem Xt {n:Nat} (h:n<=140737488355328):IntKind.i64.wrap ((n:Int)-1)=(n:Int)-1:=by
 rw [ls]<;>omega
theorem jp {α:Type} {l:List α} {i:Nat} {x:α} (h:l[i]? =some x):i<l.length:=(List.getElem?_eq_some_iff.1 h).1
theorem ltN {i n:Nat} (h:i<n):decide ((i:Int)<(n:Int))=true:=decide_eq_true (by omega)
theorem geN {i n:Nat} (h:n<=i):decide ((i:Int)<(n:Int))=false:=decide_eq_false (by omega)
theorem z6: ∀a b:List UInt8,decide (0<=Lib.compareBytes a b)= !Op.bytesLess a b
 | [],[]=>by simp [Lib.compareBytes,Op.bytesLess]
 | [],_::_=>by simp [Lib.compareBytes,Op.bytesLess]
 |_::_,[]=>by simp [Lib.compareBytes,Op.bytesLess]
 |a::x,b::y=>by
  simp only [iM,Lib.compareBytes,Op.bytesLess]
  by_cases h1:a<b
  ·simp [h1]
  ·by_cases h2:b<a
   ·have h3:(a==b)=false:=by
     rw [beq_eq_false_iff_ne];rintro rfl;exact h1 h2
    simp [h1,h2,h3]
   ·have h3:a=b:=by
     have e1: ¬a.toNat<b.toNat:=h1
     have e2: ¬b.toNat<a.toNat:=h2
     exact UInt8.toNat_inj.1 (by omega)
    subst h3
    simp only [iM,h1,if_false,beq_self_eq_true,decide_false,Bool.true_and,Bool.false_or]
    exact z6 x y
theorem JA (a b:ByteArray):decide (0<=kE a b)= !rR a b:=by
 have:kE a b=Lib.compareBytes a.toList b.toList:=by
  rw [ByteArray.toList_eq,ByteArray.toList_eq];rfl
 rw [this];exact z6 _ _
theorem Pl (a b:iD):decide (0<=qm a b)= !rR a.iE b.iE:=JA _ _
def u5 {α:Type} (lt:α->α->Bool) (l:List α) (i:Nat) (x:α):Bool:=match l[i-1]? with
 |some y=>lt y x
 |none=>true
theorem sD {α:Type} {lt:α->α->Bool} {l:List α} {i:Nat} {x y:α} (h:l[i-1]? =some y):u5 lt l i x=lt y x:=by
 unfold u5;rw [h]
def pm {α:Type} (lt:α->α->Bool) (l:List α):Bool:=nk (u5 lt l) 1 (l.drop 1)
theorem qgE (b:Bool):(match (some (bif b then .inr () else .inl ()):Option (Unit⊕Unit)) with|none=>none|some (.inl _)=>some false|some (.inr _)=>some true)=some b:=by cases b<;>rfl
theorem zQ {α:Type} {l:List α} {i:Nat} {x:α} (hx:l[i]? =some x) (hi:1<=i) (hl:l.length<=140737488351232): ∃y,l[i-1]? =some y/\idx l (IntKind.i64.wrap ((i:Int)-1))=some y:=by
 have h:=jp hx
 refine⟨l[i-1],List.getElem?_eq_getElem _,?_⟩
 rw [Xt (by omega)]
 have:((i:Int)-1)=((i-1:Nat):Int):=by omega
 rw [this]
 exact jD (List.getElem?_eq_getElem _)
theorem Mb (l:List iD) (hl:l.length<=140737488351232):jy l=some (pm (fun a b=>rR a.iE b.iE) l):=by
 unfold jy
 rw [show (1:Int)=((1:Nat):Int) from rfl,rz (step:=jx l) l 1 (u5 (fun a b=>rR a.iE b.iE) l) (fun i x hx hi=>by
  obtain⟨y,h1,h2⟩:=zQ hx hi hl
  simp only [iM,jx,ltN (jp hx),cond_true,h2,jD hx,sD h1,Pl,kV (Nat.le_trans (Nat.le_of_lt (jp hx)) (Nat.le_trans hl (by decide)))]
  cases rR y.iE x.iE<;>rfl) (fun i hi=>by simp only [iM,jx,geN hi,cond_false])]
 show _=some (nk _ 1 (l.drop 1))
 generalize nk _ 1 (l.drop 1)=b
 cases b<;>rfl
theorem LP (l:List ByteArray) (hl:l.length<=140737488351232):jk l=some (pm rR l):=by
 unfold jk
 rw [show (1:Int)=((1:Nat):Int) from rfl,rz (step:=jh l) l 1 (u5 rR l) (fun i x hx hi=>by
  obtain⟨y,h1,h2⟩:=zQ hx hi hl
  simp only [iM,jh,ltN (jp hx),cond_true,h2,jD hx,sD h1,JA,kV (Nat.le_trans (Nat.le_of_lt (jp hx)) (Nat.le_trans hl (by decide)))]
  cases rR y x<;>rfl) (fun i hi=>by simp only [iM,jh,geN hi,cond_false])]
 show _=some (nk _ 1 (l.drop 1))
 generalize nk _ 1 (l.drop 1)=b
 cases b<;>rfl
theorem or2 (a b:Int):te [a,b]=some (bif a==0 then b else a):=by
 unfold te
 have h:=ru (step:=od [a,b] ([a,b].length:Int)) (fun i=>i) [a,b] (fun x=>!(x==0)) (fun i=>.inl ([a,b].getD i 0)) (.inr ()) (fun i x hx=>by
  have h1:=jp hx
  have h2:i<=140737488355328:=by simp only [iM,List.length_cons,List.length_nil] at h1;omega
  have h3: [a,b].getD i 0=x:=by simp [List.getD,hx]
  simp only [iM,od,ltN h1,cond_true,jD hx,kV h2,h3]
  cases (x==0)<;>rfl) (by simp only [iM,od,geN (Nat.le_refl _),cond_false])
 rw [h]
 simp only [iM,qi]
 cases ha:(a==0) with
 |false=>rfl
 |true=>
  cases hb:(b==0) with
  |false=>rfl
  |true=>
   have:b=0:=by simpa using hb
   subst this;rfl
theorem Rn (a b:im): ∃n,oS a b=some n/\decide (0<=n)= !jS a b:=by
 unfold oS
 rw [or2]
 refine⟨_,rfl,?_⟩
 simp only [iM,mU,og,cond_false,jS]
 by_cases h:a.fN=b.fN
 ·have e:decide (b.fN<b.fN)=false:=decide_eq_false (by omega)
  simp only [iM,h,e,cond_false,beq_self_eq_true,cond_true]
  exact JA _ _
 ·have e:(a.fN==b.fN)=false:=by simpa using h
  by_cases h1:a.fN<b.fN
  ·simp [h1,e]
  ·have h2:b.fN<a.fN:=by omega
   simp [h1,h2,e]
theorem J7 (l:List im) (hl:l.length<=140737488351232):jv l=some (pm jS l):=by
 unfold jv
 rw [show (1:Int)=((1:Nat):Int) from rfl,rz (step:=ju l) l 1 (u5 jS l) (fun i x hx hi=>by
  obtain⟨y,h1,h2⟩:=zQ hx hi hl
  obtain⟨n,h3,h4⟩:=Rn y x
  simp only [iM,ju,ltN (jp hx),cond_true,h2,jD hx,sD h1,h3,h4,kV (Nat.le_trans (Nat.le_of_lt (jp hx)) (Nat.le_trans hl (by decide)))]
  cases jS y x<;>rfl) (fun i hi=>by simp only [iM,ju,geN hi,cond_false])]
 show _=some (nk _ 1 (l.drop 1))
 generalize nk _ 1 (l.drop 1)=b
 cases b<;>rfl
def Eg (o:Option Nat):Int:=match o with|some i=>i|none=>-1
theorem D0 (o:Option Nat):decide (0<=Eg o)=o.isSome:=by
 cases o with
 |none=>rfl
 |some i=>exact decide_eq_true (Int.natCast_nonneg _)
theorem Pu (l:List ByteArray) (hl:l.length<=140737488351232):sX l=some (l.any mo):=by
 unfold sX ur
 rw [ru (step:=ou l (l.length:Int)) (fun i=>i) l mo (fun i=>.inl (i:Int)) (.inr ()) (fun i x hx=>by
  simp only [iM,ou,ltN (jp hx),cond_true,jD hx,kV (Nat.le_trans (Nat.le_of_lt (jp hx)) (Nat.le_trans hl (by decide)))]
  cases mo x<;>rfl) (by simp only [iM,ou,geN (Nat.le_refl _),cond_false])]
 rw [<-xz mo 0 l]
 cases qi mo 0 l<;>simp [iM]
theorem Pt (l:List iD) (hl:l.length<=140737488351232):sW l=some (l.any nA):=by
 unfold sW uu
 rw [ru (step:=oh l (l.length:Int)) (fun i=>i) l nA (fun i=>.inl (i:Int)) (.inr ()) (fun i x hx=>by
  simp only [iM,oh,ltN (jp hx),cond_true,jD hx,kV (Nat.le_trans (Nat.le_of_lt (jp hx)) (Nat.le_trans hl (by decide)))]
  cases nA x<;>rfl) (by simp only [iM,oh,geN (Nat.le_refl _),cond_false])]
 rw [<-xz nA 0 l]
 cases qi nA 0 l<;>simp [iM]
theorem Ll (l:List im) (hl:l.length<=140737488351232):sV l=some (l.any ny):=by
 unfold sV ul
 rw [ru (step:=oe l (l.length:Int)) (fun i=>i) l ny (fun i=>.inl (i:Int)) (.inr ()) (fun i x hx=>by
  simp only [iM,oe,ltN (jp hx),cond_true,jD hx,kV (Nat.le_trans (Nat.le_of_lt (jp hx)) (Nat.le_trans hl (by decide)))]
  cases ny x<;>rfl) (by simp only [iM,oe,geN (Nat.le_refl _),cond_false])]
 rw [<-xz ny 0 l]
 cases qi ny 0 l<;>simp [iM]
theorem ME (l:List im) (hl:l.length<=140737488351232):ta l=some (l.any nC):=by
 unfold ta uF
 rw [ru (step:=oj l (l.length:Int)) (fun i=>i) l nC (fun i=>.inl (i:Int)) (.inr ()) (fun i x hx=>by
  simp only [iM,oj,ltN (jp hx),cond_true,jD hx,kV (Nat.le_trans (Nat.le_of_lt (jp hx)) (Nat.le_trans hl (by decide)))]
  cases nC x<;>rfl) (by simp only [iM,oj,geN (Nat.le_refl _),cond_false])]
 rw [<-xz nC 0 l]
 cases qi nC 0 l<;>simp [iM]
theorem qaN (l:List im) (m:ByteArray) (hl:l.length<=140737488351232):tb l m=some (Eg (qi (fun x=>cY x.iZ m) 0 l)):=by
 unfold tb mN
 rw [ru (step:=kP l (l.length:Int)) (fun i=>(i,m)) l (fun x=>cY x.iZ m) (fun i=>.inl ((i:Int),m)) (.inr m) (fun i x hx=>by
  simp only [iM,kP,ltN (jp hx),cond_true,jD hx,pP,kV (Nat.le_trans (Nat.le_of_lt (jp hx)) (Nat.le_trans hl (by decide)))]
  cases cY x.iZ m<;>rfl) (by simp only [iM,kP,geN (Nat.le_refl _),cond_false])]
 cases qi (fun x=>cY x.iZ m) 0 l<;>rfl
theorem LK (l:List im) (m:ByteArray) (hl:l.length<=140737488351232):sY l m=some (Eg (qi (fun x=>cY x.iZ m) 0 l)):=by
 unfold sY
 rw [ru (step:=oi l m) (fun i=>i) l (fun x=>cY x.iZ m) (fun i=>.inl (i:Int)) (.inr ()) (fun i x hx=>by
  simp only [iM,oi,ltN (jp hx),cond_true,jD hx,kV (Nat.le_trans (Nat.le_of_lt (jp hx)) (Nat.le_trans hl (by decide)))]
  cases cY x.iZ m<;>rfl) (by simp only [iM,oi,geN (Nat.le_refl _),cond_false])]
 cases qi (fun x=>cY x.iZ m) 0 l<;>rfl
def uW (l:List im) (i:Nat) (x:im):Bool:=!(qi (fun y=>cY y.iZ x.iZ) 0 (dm l 0 i)).isSome
noncomputable def Hp (v:iy):Int:=
 bif v.iC.any mo then 1
 else bif v.iA.any nA then 1
 else bif v.il.any ny then 1
 else bif !jA v.iF then 2
 else bif v.il.any nC then 2
 else bif (pm (fun a b=>rR a.iE b.iE) v.iA&&(pm jS v.il&&(!(v.bt==5)||pm rR v.iC)))&&nk (uW v.il) 0 v.il then 0 else 10
theorem En {α:Type} (l:List α) (i:Nat) (n:Nat) (h:l.length<=n):(dm l 0 i).length<=n:=by
 unfold dm
 simp only [iM,List.length_drop,List.length_take]
 omega
theorem M7 {i n:Nat} (h:i<=n):nB 0 i n=true:=by
 unfold nB
 simp
 omega
theorem YF (v w:iy) (b:Bool) (hl:v.il.length<=140737488351232):cM (wj v v.il (v.il.length:Int) w) (b,0)=some (b&&nk (uW v.il) 0 v.il):=by
 have h:=w9 (step:=wj v v.il (v.il.length:Int) w) v.il (fun i s=>(s,i)) (fun i _=>i<=v.il.length) (fun i x s=>.inl (s&&uW v.il i x)) (fun s=>s) (fun i x s hx hi=>by
  have hw:=kV (n:=i) (by omega)
  simp only [iM,wj,ltN (jp hx),cond_true,jD hx,hw,M7 hi,qaN _ _ (En v.il i _ hl),uW,<-D0]
  cases s with
  |false=>rfl
  |true=>
   simp only [iM,cond_true,Bool.true_and]
   congr 4
   generalize Eg _=z
   by_cases hz:z<0
   ·simp [hz,show ¬0<=z by omega]
   ·simp [hz,show 0<=z by omega]) (fun i x s s' hx hi _=>by have:=jp hx;omega) (fun i s hl hi=>by
  simp only [iM,wj,geN hl,cond_false]) 0 b (Nat.zero_le _)
 refine h.trans ?_
 congr 1
 have: ∀(m:List im) (j:Nat) (s:Bool),run (fun i x s=>(.inl (s&&uW v.il i x):Bool⊕Bool)) (fun s=>s) j m s=(s&&nk (uW v.il) j m):=by
  intro m
  induction m with
  |nil=>intro j s;simp [run,nk]
  |cons x m ih=>
   intro j s
   simp only [iM,run,nk]
   rw [ih,Bool.and_assoc]
 exact this _ _ _
theorem qar (v:iy) (ok:v.ok) (h:jd v.iq=true) (h16:qg v (jU v v.bt (v.bt==1))=false):Bw v=some (Hp v):=by
 obtain⟨_,_,_,⟨o1,_⟩,⟨o2,_⟩,⟨o3,_⟩⟩:=ok
 unfold okN at o1 o2 o3
 unfold Bw Mq
 generalize jU v v.bt (v.bt==1)=w at h16⊢
 rw [h16,h,Pu _ (by omega)]
 simp only [iM,cond_true,cond_false]
 rw [Pt _ (by omega)]
 simp only [iM]
 rw [Ll _ (by omega)]
 simp only [iM]
 rw [ME _ (by omega)]
 simp only [iM,xZ]
 rw [Mb _ (by omega),J7 _ (by omega),LP _ (by omega)]
 unfold Hp
 cases v.iC.any mo with
 |true=>rfl
 |false=>
 cases v.iA.any nA with
 |true=>rfl
 |false=>
 cases v.il.any ny with
 |true=>rfl
 |false=>
 cases jA v.iF with
 |false=>rfl
 |true=>
 cases v.il.any nC with
 |true=>rfl
 |false=>
 simp only [iM,cond_true,cond_false,Bool.not_true]
 generalize pm (fun a b=>rR a.iE b.iE) v.iA=b1
 generalize pm jS v.il=b2
 generalize pm rR v.iC=b3
 generalize (v.bt==5)=b4
 cases b1<;>cases b2<;>cases b3<;>cases b4<;>simp only [iM,cond_true,cond_false,Bool.true_and,Bool.false_and,Bool.not_true,Bool.not_false,Bool.true_or,Bool.false_or,Bool.or_true,Bool.or_false,Bool.and_true,Bool.and_false]<;>(rw [YF _ _ _ (by omega)];simp only [iM,Bool.true_and,Bool.false_and,cond_false];try (cases nk (uW v.il) 0 v.il<;>rfl))
def Lu (v:iy):Bool:=(!(v.bt==1)&& !cY v.iq ByteArray.empty)||(!(v.bt==2)&& !(v.iF==0))||(!(v.bt==3)&&decide (0<v.iA.length))||(!(v.bt==4||v.bt==5)&&decide (0<v.iC.length))||(!(v.bt==6)&&decide (0<v.il.length))
noncomputable def AB (v:iy):Bool:=(decide (3<=v.bt)&&(decide (v.iA.length+v.iC.length+v.il.length<1)||decide (20<v.iA.length+v.iC.length+v.il.length)))|| !jd v.iq
noncomputable def BO (v:iy):Int:=
 bif !(decide (1<=v.bt)&&decide (v.bt<=6)) then 3
 else bif Lu v then 8
 else bif AB v then 1
 else Hp v
theorem wd (k:Int) (t:ByteArray) (c:Int) (ps:List iD) (is:List ByteArray) (ss:List im) (h1:ps.length<=140737488351232) (h2:is.length<=140737488351232) (h3:ss.length<=140737488351232):lp ⟨k,t,c,ps,is,ss⟩=((ps.length+is.length+ss.length:Nat):Int):=by
 unfold lp
 simp only [iM]
 rw [ls (n:=(ps.length:Int)+(is.length:Int)) (by omega) (by omega),ls]<;>omega
theorem six {q:Int} (h1: ¬q<1) (h2: ¬6<q):q=1∨q=2∨q=3∨q=4∨q=5∨q=6:=by omega
theorem Ns (n:Nat):decide ((0:Int)<(n:Int))=decide (0<n):=by
 by_cases h:0<n
 ·rw [decide_eq_true h,decide_eq_true (by omega)]
 ·rw [decide_eq_false h,decide_eq_false (by omega)]
theorem UU (v:iy) (ok:v.ok):vaC v=some (BO v):=by
 have ok':=ok
 obtain⟨q,t,c,ps,is,ss⟩:=v
 obtain⟨_,_,_,⟨o1,_⟩,⟨o2,_⟩,⟨o3,_⟩⟩:=ok
 unfold okN at o1 o2 o3
 simp only [iM] at o1 o2 o3
 have l1:ps.length<=140737488351232:=by omega
 have l2:is.length<=140737488351232:=by omega
 have l3:ss.length<=140737488351232:=by omega
 have l0: ∀ {α:Type},([]:List α).length<=140737488351232:=by intro α;simp
 have E:=fun (c:Int) (ps:List iD) (is:List ByteArray) (ss:List im) h1 h2 h3=>wd q t c ps is ss h1 h2 h3
 by_cases h1:q<1
 ·simp [vaC,h1,BO,show ¬1<=q by omega]
 by_cases h2:6<q
 ·simp [vaC,h1,h2,BO,show 1<=q by omega,show ¬q<=6 by omega]
 have hT: ∀v:iy,v.ok->v=⟨q,t,c,ps,is,ss⟩->Bw v=some (bif AB v then 1 else Hp v):=by
  rintro v okv rfl
  cases hs:AB ⟨q,t,c,ps,is,ss⟩ with
  |false=>
   unfold AB at hs
   simp only [iM,Bool.or_eq_false_iff,Bool.not_eq_false'] at hs
   refine qar _ okv hs.2 ?_
   unfold qg
   rw [wd _ _ _ _ _ _ l1 l2 l3]
   have h3:=hs.1
   cases hk:decide (3<=q) with
   |false=>simp only [iM,hk,cond_false]
   |true=>
    rw [hk,Bool.true_and,Bool.or_eq_false_iff,decide_eq_false_iff_not,decide_eq_false_iff_not] at h3
    simp only [iM,hk,cond_true]
    rw [decide_eq_false (by omega),cond_false,decide_eq_false (by omega)]
  |true=>
   unfold AB at hs
   unfold Bw qg
   rw [wd _ _ _ _ _ _ l1 l2 l3]
   simp only [iM] at hs⊢
   cases hx:jd t with
   |false=>
    simp only [iM,cond_true,cond_false]
    cases (bif decide (3<=q) then bif decide (((ps.length+is.length+ss.length:Nat):Int)<1) then true else decide ((20:Int)<((ps.length+is.length+ss.length:Nat):Int)) else false)<;>rfl
   |true=>
    rw [hx,Bool.not_true,Bool.or_false,Bool.and_eq_true,Bool.or_eq_true,decide_eq_true_eq,decide_eq_true_eq,decide_eq_true_eq] at hs
    rw [decide_eq_true hs.1]
    simp only [iM,cond_true]
    rcases hs.2 with h|h
    ·rw [decide_eq_true (by omega)];rfl
    ·rw [decide_eq_false (by omega),cond_false,decide_eq_true (by omega)];rfl
 have hT':=hT _ ok' rfl
 have hr:(decide (1<=q)&&decide (q<=6))=true:=by
  rw [Bool.and_eq_true,decide_eq_true_eq,decide_eq_true_eq];omega
 unfold BO
 simp only [iM,hr,Bool.not_true,cond_false]
 generalize hz:(bif AB ⟨q,t,c,ps,is,ss⟩ then 1 else Hp ⟨q,t,c,ps,is,ss⟩)=z at hT'⊢
 unfold vaC
 simp only [decide_eq_false h1,decide_eq_false h2,cond_false,hT']
 have hform:rI ⟨q,t,c,ps,is,ss⟩ (jU ⟨q,t,c,ps,is,ss⟩ q (q==1))=Lu ⟨q,t,c,ps,is,ss⟩:=by
  have add0: ∀a b:Nat,decide (0<a+b)=(decide (0<a)||decide (0<b)):=by
   intro a b
   by_cases ha:0<a
   ·rw [decide_eq_true ha,decide_eq_true (by omega),Bool.true_or]
   ·have:a=0:=by omega
    subst this;simp
  clear hT hT' hz hr E ok' o1 o2 o3
  rcases six h1 h2 with rfl|rfl|rfl|rfl|rfl|rfl
  all_goals
   unfold rI
   generalize hw:jU _ _ _=w
   simp only [jU,tU,tY,tQ,Int.reduceBEq,cond_true,cond_false] at hw
   subst hw
   simp only [Lu,Int.reduceBEq,pH,beq_self_eq_true,cond_true]
   rw [wd _ _ _ _ _ _ (by first|exact l1|exact l0) (by first|exact l2|exact l0) (by first|exact l3|exact l0)]
   simp only [Ns,List.length_nil,Nat.zero_add,Nat.add_zero,add0]
   generalize decide (0<ps.length)=d1
   generalize decide (0<is.length)=d2
   generalize decide (0<ss.length)=d3
   generalize cY t ByteArray.empty=d4
   generalize (c==0)=d5
   cases d1<;>cases d2<;>cases d3<;>cases d4<;>cases d5<;>rfl
 rw [hform]
 cases Lu ⟨q,t,c,ps,is,ss⟩<;>rfl
theorem AP {α:Type} (p q:α->Bool) (h: ∀x,p x= !q x) (l:List α):nk (fun _ x=>q x) 0 l= !l.any p:=by
 have:(fun (_:Nat) (x:α)=>q x)=fun _ x=>!p x:=by
  funext _ x;rw [h x,Bool.not_not]
 rw [this,P1]
theorem MV (l:List im) (x:im):uW l 0 x=true:=by
 unfold uW dm
 simp [qi]
theorem OE (l:List im):nk (uW l) 0 l=nk (uW l) 1 (l.drop 1):=by
 have: ∀m:List im,nk (uW l) 0 m=nk (uW l) 1 (m.drop 1):=by
  intro m
  cases m with
  |nil=>rfl
  |cons x m=>simp only [iM,nk,MV,Bool.true_and];rfl
 exact this l
theorem qf8 (a b:Option Int) (x:Bool):(match (some (bif x then .inr () else .inl ()):Option (Unit⊕Unit)) with|none=>none|some (.inl _)=>a|some (.inr _)=>b)=bif x then b else a:=by cases x<;>rfl
theorem qiX (v:iy):ve v=sH v:=rfl
theorem qg5 (v:iy):uB v=qv v:=rfl
noncomputable def NU (v:iy):Int:=
 bif v.iA.any nA then 1
 else bif v.il.any ny then 1
 else bif !jA v.iF then 2
 else bif v.il.any nC then 2
 else bif (pm (fun a b=>rR a.iE b.iE) v.iA&&(pm jS v.il&&(!(v.bt==5)||pm rR v.iC)))&&nk (uW v.il) 0 v.il then 0 else 10
theorem Z7 (v:iy):Hp v=bif v.iC.any mo then 1 else NU v:=rfl
theorem U2 (v:iy) (ok:v.ok):cM (kT v) 0=some (bif v.iC.any mo then .inl () else .inr ())/\qv v=some (NU v):=by
 obtain⟨_,_,_,⟨o1,_⟩,⟨o2,_⟩,⟨o3,_⟩⟩:=ok
 unfold okN at o1 o2 o3
 have e0:=rz (step:=kT v) v.iC 0 (fun _ x=>jg x) (fun i x hx hi=>by
  simp only [iM,kT,ltN (jp hx),cond_true,jD hx,kV (show i<=_ by have:=jp hx;omega)]
  cases jg x<;>rfl) (fun i hi=>by simp only [iM,kT,geN hi,cond_false])
 have e2:=rz (step:=lJ v) v.iA 0 (fun _ x=>bif la x.iE then jg x.iq else false) (fun i x hx hi=>by
  simp only [iM,lJ,ltN (jp hx),cond_true,jD hx,kV (show i<=_ by have:=jp hx;omega)]
  cases la x.iE<;>cases jg x.iq<;>rfl) (fun i hi=>by simp only [iM,lJ,geN hi,cond_false])
 have e4:=rz (step:=lT v) v.il 0 (fun _ x=>jg x.iZ) (fun i x hx hi=>by
  simp only [iM,lT,ltN (jp hx),cond_true,jD hx,kV (show i<=_ by have:=jp hx;omega)]
  cases jg x.iZ<;>rfl) (fun i hi=>by simp only [iM,lT,geN hi,cond_false])
 have e6:=rz (step:=lK v) v.il 0 (fun _ x=>kN x.fN) (fun i x hx hi=>by
  simp only [iM,lK,ltN (jp hx),cond_true,jD hx,kV (show i<=_ by have:=jp hx;omega)]
  cases kN x.fN<;>rfl) (fun i hi=>by simp only [iM,lK,geN hi,cond_false])
 have e8:=rz (step:=lD v) v.iA 1 (u5 (fun a b=>rR a.iE b.iE) v.iA) (fun i x hx hi=>by
  obtain⟨y,h1,h2⟩:=zQ hx hi (by omega)
  simp only [iM,lD,ltN (jp hx),cond_true,h2,jD hx,sD h1,kV (show i<=_ by have:=jp hx;omega)]
  cases rR y.iE x.iE<;>rfl) (fun i hi=>by simp only [iM,lD,geN hi,cond_false])
 have e10:(v.bt==5)=true->cM (j0 v) 1=some (bif pm rR v.iC then .inr () else .inl ()):=fun h5=>rz (step:=j0 v) v.iC 1 (u5 rR v.iC) (fun i x hx hi=>by
  obtain⟨y,h1,h2⟩:=zQ hx hi (by omega)
  simp only [iM,j0,ltN (jp hx),cond_true,h5,h2,jD hx,sD h1,kV (show i<=_ by have:=jp hx;omega)]
  cases rR y x<;>rfl) (fun i hi=>by simp only [iM,j0,geN hi,cond_false])
 have e10':(v.bt==5)=false->cM (j0 v) 1=some (.inr ()):=fun h5=>jX (by
  simp only [iM,j0,h5,cond_false]
  cases decide ((1:Int)<(v.iC.length:Int))<;>rfl)
 have e12:=rz (step:=ld v) v.il 1 (fun i x=>u5 jS v.il i x&&uW v.il i x) (fun i x hx hi=>by
  obtain⟨y,h1,h2⟩:=zQ hx hi (by omega)
  have hl:=jp hx
  simp only [iM,ld,ltN (jp hx),cond_true,h2,jD hx,sD h1,M7 (Nat.le_of_lt hl),LK _ _ (En v.il i 140737488351232 (by omega)),uW,<-D0,kV (show i<=_ by omega)]
  cases jS y x with
  |false=>rfl
  |true=>
   simp only [iM,cond_true,Bool.true_and]
   cases decide (0<=Eg (qi (fun y=>cY y.iZ x.iZ) 0 (dm v.il 0 i)))<;>rfl) (fun i hi=>by simp only [iM,ld,geN hi,cond_false])
 rw [AP mo (fun x=>jg x) (fun x=>rfl)] at e0
 rw [AP nA (fun x=>bif la x.iE then jg x.iq else false) (fun x=>by
  show (bif jc x.iE then !jd x.iq else true)= !(bif jc x.iE then jd x.iq else false)
  cases jc x.iE<;>rfl)] at e2
 rw [AP ny (fun x=>jg x.iZ) (fun x=>rfl)] at e4
 rw [AP nC (fun x=>kN x.fN) (fun x=>rfl)] at e6
 rw [R5] at e12
 simp only [iM,List.drop_zero] at e0 e2 e4 e6
 have k1:((1:Nat):Int)=1:=rfl
 have k0:((0:Nat):Int)=0:=rfl
 rw [k0] at e0 e2 e4 e6
 rw [k1] at e8 e12
 unfold qv vn vg vt vo sH
 refine⟨by rw [e0];cases v.iC.any mo<;>rfl,?_⟩
 rw [e2,e4,e6,e8,e12]
 unfold NU
 rw [OE]
 generalize hb1:nk (u5 (fun a b=>rR a.iE b.iE) v.iA) 1 (v.iA.drop 1)=b1
 generalize hb2:nk (u5 jS v.il) 1 (v.il.drop 1)=b2
 have hb1':pm (fun a b=>rR a.iE b.iE) v.iA=b1:=hb1
 have hb2':pm jS v.il=b2:=hb2
 rw [hb1',hb2']
 generalize nk (uW v.il) 1 (v.il.drop 1)=b4
 have hc:kN v.iF=jA v.iF:=rfl
 rw [hc]
 generalize v.iA.any nA=a2
 generalize v.il.any ny=a3
 generalize jA v.iF=a4
 generalize v.il.any nC=a5
 cases h5:(v.bt==5) with
 |true=>
  rw [e10 h5]
  generalize pm rR v.iC=b3
  cases a2<;>try rfl
  cases a3<;>try rfl
  cases a4<;>try rfl
  cases a5<;>try rfl
  cases b1<;>cases b2<;>cases b3<;>cases b4<;>rfl
 |false=>
  rw [e10' h5]
  cases a2<;>try rfl
  cases a3<;>try rfl
  cases a4<;>try rfl
  cases a5<;>try rfl
  cases b1<;>cases b2<;>cases b4<;>rfl
theorem TA (v:iy) (ok:v.ok):qc v=some (BO v):=by
 obtain⟨hl,hg⟩:=U2 v ok
 obtain⟨_,_,_,⟨o1,_⟩,⟨o2,_⟩,⟨o3,_⟩⟩:=ok
 unfold okN at o1 o2 o3
 have hk6:kq v=AB v:=by
  have hs:nF v=((v.iA.length+v.iC.length+v.il.length:Nat):Int):=wd v.bt v.iq v.iF _ _ _ (by omega) (by omega) (by omega)
  unfold kq AB
  rw [hs]
  have hx:jg v.iq=jd v.iq:=rfl
  rw [hx]
  cases decide (3<=v.bt) with
  |false=>rfl
  |true=>
   simp only [iM,cond_true,Bool.true_and]
   by_cases h1:v.iA.length+v.iC.length+v.il.length<1
   ·rw [decide_eq_false (show ¬(1:Int)<=_ by omega),decide_eq_true h1];rfl
   ·rw [decide_eq_true (show (1:Int)<=_ by omega),decide_eq_false h1]
    by_cases h2:20<v.iA.length+v.iC.length+v.il.length
    ·rw [decide_eq_false (show ¬_<=(20:Int) by omega),decide_eq_true h2];rfl
    ·rw [decide_eq_true (show _<=(20:Int) by omega),decide_eq_false h2];rfl
 unfold qc ui
 simp only [iM,qg5,hk6,hl,hg]
 unfold BO
 rw [Z7]
 generalize NU v=tg
 generalize v.iC.any mo=a1
 generalize AB v=sz
 clear hl hg hk6
 obtain⟨q,t,c,ps,is,ss⟩:=v
 by_cases h1:q<1
 ·simp [show ¬1<=q by omega]
 by_cases h2:6<q
 ·simp [show 1<=q by omega,show ¬q<=6 by omega]
 simp only [iM,mB,pA,pG,pN,lU,nQ,nT,nX,nU,nV,nY,nR,Lu,Ns]
 generalize decide (0<ps.length)=d1
 generalize decide (0<is.length)=d2
 generalize decide (0<ss.length)=d3
 generalize cY t ByteArray.empty=d4
 generalize (c==0)=d5
 cases sz<;>cases a1<;>rcases six h1 h2 with rfl|rfl|rfl|rfl|rfl|rfl<;>cases d1<;>cases d2<;>cases d3<;>cases d4<;>cases d5<;>rfl
theorem zz {α β:Type} {step:Int->Option (Int⊕(β⊕Unit))} (l:List α) (g:α->β) (p:Nat->α->Bool)
  (hs: ∀(i:Nat) x,l[i]? =some x->step (i:Int)=some (bif p i x then .inl ((i+1:Nat):Int) else .inr (.inl (g x))))
  (he:step (l.length:Int)=some (.inr (.inr ()))): ∃r,cM step 0=some r/\(nk p 0 l=true->r= .inr ())/\(nk p 0 l=false-> ∃y,r= .inl y):=by
 have h:=w9 (step:=step) l (fun i (_:Unit)=>i) (fun i _=>i<=l.length) (fun i x _=>bif p i x then .inl () else .inr (.inl (g x))) (fun _=>.inr ()) (fun i x s hx hk=>by
  rw [hs i x hx];cases p i x<;>rfl) (fun i x s s' hx hk _=>by have:=jp hx;omega) (fun i s hl hk=>by rw [Nat.le_antisymm hk hl];exact he) 0 () (Nat.zero_le _)
 refine⟨_,h,?_,?_⟩
 ·have: ∀(m:List α) (j:Nat),nk p j m=true->run (fun i x (_:Unit)=>bif p i x then .inl () else .inr (.inl (g x))) (fun _=>(.inr ():β⊕Unit)) j m ()= .inr ():=by
   intro m
   induction m with
   |nil=>intro j _;rfl
   |cons x m ih=>
    intro j h
    simp only [iM,nk,Bool.and_eq_true] at h
    simp only [iM,run,h.1,cond_true]
    exact ih (j+1) h.2
  exact this _ _
 ·have: ∀(m:List α) (j:Nat),nk p j m=false-> ∃y,run (fun i x (_:Unit)=>bif p i x then .inl () else .inr (.inl (g x))) (fun _=>(.inr ():β⊕Unit)) j m ()= .inl y:=by
   intro m
   induction m with
   |nil=>intro j h;cases h
   |cons x m ih=>
    intro j h
    simp only [iM,run]
    cases hp:p j x with
    |false=>exact⟨_,rfl⟩
    |true=>
     simp only [iM,nk,hp,Bool.true_and] at h
     exact ih (j+1) h
  exact this _ _
noncomputable def Mk (now:Int) (l:List ip) (i:Nat) (x:ip):Bool:=(jc x.iU&&((BO x.iJ==0)&&(decide (i=0)||u5 (fun a b=>rR a.iU b.iU) l i x)))&&((x.jQ==0)||(decide (now<x.jQ)&&decide (x.jQ<=1073741824)))
noncomputable def wl (s:iN):Bool:=(decide (0<=s.iL)&&(decide (s.iL<=1073741824)&&decide (s.bi.length<=12)))&&nk (Mk s.iL s.bi) 0 s.bi
theorem Um (now u:Int):(bif (u==0) then false else bif decide (u<=now) then true else decide (1073741824<u))= !((u==0)||(decide (now<u)&&decide (u<=1073741824))):=by
 cases (u==0) with
 |true=>rfl
 |false=>
  by_cases h1:u<=now
  ·simp [h1,show ¬now<u by omega]
  ·by_cases h2:1073741824<u
   ·simp [h1,h2,show ¬u<=1073741824 by omega]
   ·simp [h1,h2,show u<=1073741824 by omega,show now<u by omega]
theorem TG (now u:Int) (h:0<=now):(bif (u==0) then false else bif decide (0<=u) then bif decide (u<=1073741824) then decide (u<=now) else true else true)= !((u==0)||(decide (now<u)&&decide (u<=1073741824))):=by
 cases (u==0) with
 |true=>rfl
 |false=>
  by_cases h0:0<=u
  ·by_cases h1:u<=now
   ·by_cases h2:u<=1073741824
    ·simp [h0,h1,h2,show ¬now<u by omega]
    ·simp [h0,h1,h2]
   ·by_cases h2:u<=1073741824
    ·simp [h0,h1,h2,show now<u by omega]
    ·simp [h0,h1,h2]
  ·simp [h0,show ¬now<u by omega]
theorem qiR (s:iN) (i:Nat) (l:List ip) (n:Int) (x:ip) (ok:x.iJ.ok) (hx:s.bi[i]? =some x) (hl:s.bi.length<=140737488351232):ni s (i:Int) l n x=some (!(jc x.iU&&((BO x.iJ==0)&&(decide (i=0)||u5 (fun a b=>rR a.iU b.iU) s.bi i x)))):=by
 unfold ni
 rw [UU _ ok]
 have hf:jc x.iU=(decide (1<=(x.iU.size:Int))&&decide ((x.iU.size:Int)<=12)):=rfl
 rw [hf]
 by_cases h1:(x.iU.size:Int)<1
 ·simp [h1,show ¬1<=(x.iU.size:Int) by omega]
 by_cases h2:(12:Int)<(x.iU.size:Int)
 ·simp [h1,h2,show ¬(x.iU.size:Int)<=12 by omega]
 rw [decide_eq_false h1,decide_eq_false h2,decide_eq_true (show (1:Int)<=(x.iU.size:Int) by omega),decide_eq_true (show (x.iU.size:Int)<=12 by omega)]
 simp only [iM,cond_false,Bool.true_and]
 cases BO x.iJ==0 with
 |false=>rfl
 |true=>
  simp only [iM,cond_true,Bool.true_and]
  by_cases hi:i=0
  ·subst hi;rfl
  ·obtain⟨y,e1,e2⟩:=zQ hx (by omega) hl
   rw [decide_eq_true (show (0:Int)<(i:Int) by omega),cond_true,e2,decide_eq_false hi,Bool.false_or,sD e1,iM]
theorem qiG (s:iN) (i:Nat) (x:ip) (ok:x.iJ.ok) (hx:s.bi[i]? =some x) (hl:s.bi.length<=140737488351232):mF s (i:Int) x=some (!(jc x.iU&&((BO x.iJ==0)&&(decide (i=0)||u5 (fun a b=>rR a.iU b.iU) s.bi i x)))):=by
 unfold mF
 rw [TA _ ok]
 have hf:la x.iU=jc x.iU:=rfl
 rw [hf]
 cases jc x.iU with
 |false=>rfl
 |true=>
  simp only [iM,cond_true,Bool.true_and]
  cases BO x.iJ==0 with
  |false=>rfl
  |true=>
   simp only [iM,cond_true,Bool.true_and]
   by_cases hi:i=0
   ·subst hi;rfl
   ·obtain⟨y,e1,e2⟩:=zQ hx (by omega) hl
    rw [decide_eq_true (show (0:Int)<(i:Int) by omega),cond_true,e2,decide_eq_false hi,Bool.false_or,sD e1,iM]
theorem ST (s:iN) (ok:s.ok):rn s=some (bif wl s then 0 else 13):=by
 have hl:=ok.2.1
 unfold okN at hl
 have hk:lX s= !(decide (0<=s.iL)&&(decide (s.iL<=1073741824)&&decide (s.bi.length<=12))):=by
  unfold lX
  by_cases h1:s.iL<0
  ·simp [h1,show ¬0<=s.iL by omega]
  by_cases h2:1073741824<s.iL
  ·simp [h1,h2,show ¬s.iL<=1073741824 by omega]
  rw [decide_eq_false h1,decide_eq_false h2,decide_eq_true (show 0<=s.iL by omega),decide_eq_true (show s.iL<=1073741824 by omega)]
  by_cases h3:s.bi.length<=12
  ·rw [decide_eq_true h3,decide_eq_false (by omega)];rfl
  ·rw [decide_eq_false h3,decide_eq_true (by omega)];rfl
 obtain⟨r,e1,e2,e3⟩:=zz (step:=nv s s.bi (s.bi.length:Int)) s.bi (fun x=>x) (Mk s.iL s.bi) (fun i x hx=>by
  simp only [iM,nv,ltN (jp hx),cond_true,jD hx,qiR s i _ _ x (ok.2.2 x (List.mem_of_getElem? hx)).2.1 hx (by omega),l8,Um,kV (show i<=_ by have:=jp hx;omega),Mk]
  generalize (jc x.iU&&((BO x.iJ==0)&&(decide (i=0)||u5 (fun a b=>rR a.iU b.iU) s.bi i x)))=b1
  generalize ((x.jQ==0)||(decide (s.iL<x.jQ)&&decide (x.jQ<=1073741824)))=b2
  cases b1<;>cases b2<;>rfl) (by simp only [iM,nv,geN (Nat.le_refl _),cond_false])
 unfold rn wl
 rw [hk,e1]
 cases (decide (0<=s.iL)&&(decide (s.iL<=1073741824)&&decide (s.bi.length<=12))) with
 |false=>rfl
 |true=>
  cases h:nk (Mk s.iL s.bi) 0 s.bi with
  |true=>rw [e2 h];rfl
  |false=>obtain⟨y,hy⟩:=e3 h;rw [hy];rfl
theorem SL (s:iN) (ok:s.ok):pZ s=some (bif wl s then 0 else 13):=by
 have hl:=ok.2.1
 unfold okN at hl
 have hk:lq s= !(decide (0<=s.iL)&&(decide (s.iL<=1073741824)&&decide (s.bi.length<=12))):=by
  unfold lq
  cases decide (0<=s.iL) with
  |false=>rfl
  |true=>
   cases decide (s.iL<=1073741824) with
   |false=>rfl
   |true=>
    by_cases h3:s.bi.length<=12
    ·rw [decide_eq_true h3,decide_eq_false (by omega)];rfl
    ·rw [decide_eq_false h3,decide_eq_true (by omega)];rfl
 unfold pZ wl
 rw [hk]
 cases hh:(decide (0<=s.iL)&&(decide (s.iL<=1073741824)&&decide (s.bi.length<=12))) with
 |false=>rfl
 |true=>
  have hn:0<=s.iL:=by simp only [iM,Bool.and_eq_true,decide_eq_true_eq] at hh;omega
  obtain⟨r,e1,e2,e3⟩:=zz (step:=mX s) s.bi (fun x=>x) (Mk s.iL s.bi) (fun i x hx=>by
   simp only [iM,mX,ltN (jp hx),cond_true,jD hx,qiG s i x (ok.2.2 x (List.mem_of_getElem? hx)).2.1 hx (by omega),lH,TG _ _ hn,kV (show i<=_ by have:=jp hx;omega),Mk]
   generalize (jc x.iU&&((BO x.iJ==0)&&(decide (i=0)||u5 (fun a b=>rR a.iU b.iU) s.bi i x)))=b1
   generalize ((x.jQ==0)||(decide (s.iL<x.jQ)&&decide (x.jQ<=1073741824)))=b2
   cases b1<;>cases b2<;>rfl) (by simp only [iM,mX,geN (Nat.le_refl _),cond_false])
  rw [e1]
  cases h:nk (Mk s.iL s.bi) 0 s.bi with
  |true=>rw [e2 h];rfl
  |false=>obtain⟨y,hy⟩:=e3 h;rw [hy];rfl
noncomputable def Dr (r:jf):Int:=
 bif !(decide (0<=r.jW)&&decide (r.jW<=13)) then 3
 else bif !(jd r.iq)||(decide (20<r.jH.length)||r.jH.any kg) then 1
 else bif !(jA r.fN) then 2 else 0
theorem Qr (l:List ByteArray) (hl:l.length<=140737488351232):m9 l=some (l.any kg):=by
 unfold m9 ol
 rw [ru (step:=ll l (l.length:Int)) (fun i=>i) l kg (fun i=>.inl (i:Int)) (.inr ()) (fun i x hx=>by
  simp only [iM,ll,ltN (jp hx),cond_true,jD hx,kV (Nat.le_trans (Nat.le_of_lt (jp hx)) (Nat.le_trans hl (by decide)))]
  cases kg x<;>rfl) (by simp only [iM,ll,geN (Nat.le_refl _),cond_false])]
 rw [<-xz kg 0 l]
 cases qi kg 0 l<;>simp [iM]
theorem u6 (n k:Int):decide (k<n)= !decide (n<=k):=by
 by_cases h:n<=k
 ·rw [decide_eq_true h,decide_eq_false (by omega)];rfl
 ·rw [decide_eq_false h,decide_eq_true (by omega)];rfl
theorem Rj (n:Nat):decide ((20:Int)<(n:Int))=decide (20<n):=by
 by_cases h:20<n
 ·rw [decide_eq_true h,decide_eq_true (by omega)]
 ·rw [decide_eq_false h,decide_eq_false (by omega)]
theorem UM (r:jf) (hl:r.jH.length<=140737488351232):wo r=some (Dr r):=by
 unfold wo yS Dr
 rw [Qr _ hl,u6 r.jW 13,u6 (r.iq.size:Int) 20,Rj,u6 r.fN 1099511627776]
 have e1:decide (r.jW<0)= !decide (0<=r.jW):=u6 0 r.jW
 have e2:decide (r.fN< -1099511627776)= !decide (-1099511627776<=r.fN):=u6 (-1099511627776) r.fN
 rw [e1,e2]
 have e3:jd r.iq=decide ((r.iq.size:Int)<=20):=rfl
 have e4:jA r.fN=(decide (-1099511627776<=r.fN)&&decide (r.fN<=1099511627776)):=rfl
 rw [e3,e4]
 cases decide (0<=r.jW)<;>cases decide (r.jW<=13)<;>cases decide ((r.iq.size:Int)<=20)<;>cases decide (20<r.jH.length)<;>cases r.jH.any kg<;>cases decide (-1099511627776<=r.fN)<;>cases decide (r.fN<=1099511627776)<;>rfl
theorem Te (r:jf) (hl:r.jH.length<=140737488351232):oK r=some (Dr r):=by
 have e:=rz (step:=mV r) r.jH 0 (fun _ x=>jg x) (fun i x hx hi=>by
  simp only [iM,mV,ltN (jp hx),cond_true,jD hx,kV (show i<=_ by have:=jp hx;omega)]
  cases jg x<;>rfl) (fun i hi=>by simp only [iM,mV,geN hi,cond_false])
 have e':nk (fun _ x=>jg x) 0 r.jH= !r.jH.any kg:=AP kg (fun x=>jg x) (fun x=>u6 _ _) r.jH
 rw [List.drop_zero,e'] at e
 have k0:((0:Nat):Int)=0:=rfl
 rw [k0] at e
 unfold oK Dr
 rw [e,Rj]
 have e3:jg r.iq=jd r.iq:=rfl
 have e4:kN r.fN=jA r.fN:=rfl
 rw [e3,e4]
 cases decide (0<=r.jW)<;>cases decide (r.jW<=13)<;>cases jd r.iq<;>cases decide (20<r.jH.length)<;>cases r.jH.any kg<;>cases jA r.fN<;>rfl
def idB (next:Int) (l:List gi) (i:Nat) (x:gi):Bool:=(decide (1<=x.fId)&&decide (x.fId<next))&&(decide (i=0)||u5 (fun a b=>decide (a.fId<b.fId)) l i x)
noncomputable def D5 (now:Int) (x:gi):Bool:=(decide (0<=x.je)&&decide (x.je<=1048576))&&((decide (0<=x.iS)&&decide (x.iS<=now))&&(Dr x.iX==0))
noncomputable def JT (m:iv):Bool:=(wl m.af&&((decide (1<=m.iG)&&decide (m.iG<=1048577))&&decide (m.bz.length<=4)))&&nk (fun i x=>idB m.iG m.bz i x&&D5 m.af.iL x) 0 m.bz
theorem qdz (m:iv) (i:Nat) (l:List gi) (n:Int) (x:gi) (hx:m.bz[i]? =some x) (hl:m.bz.length<=140737488351232):u9 m (i:Int) l n x=some (!idB m.iG m.bz i x):=by
 unfold u9 idB
 have e1:decide (x.fId<1)= !decide (1<=x.fId):=u6 _ _
 have e2:decide (m.iG<=x.fId)= !decide (x.fId<m.iG):=by rw [u6];simp
 rw [e1,e2]
 cases decide (1<=x.fId) with
 |false=>rfl
 |true=>
  cases decide (x.fId<m.iG) with
  |false=>rfl
  |true=>
   simp only [iM,Bool.not_true,cond_false,Bool.true_and]
   by_cases hi:i=0
   ·subst hi;rfl
   ·obtain⟨y,h1,h2⟩:=zQ hx (by omega) hl
    rw [decide_eq_true (show (0:Int)<(i:Int) by omega),cond_true,h2,decide_eq_false hi,Bool.false_or,sD h1,iM]
    simp only [iM,u6,Bool.not_not]
theorem qfo (m:iv) (l:List gi) (n:Int) (j:Int) (x:gi) (hl:x.iX.jH.length<=140737488351232):uZ m l n j x=some (!D5 m.af.iL x):=by
 unfold uZ D5
 rw [UM _ hl]
 have e1:decide (x.je<0)= !decide (0<=x.je):=u6 _ _
 have e2:decide (x.iS<0)= !decide (0<=x.iS):=u6 _ _
 rw [e1,e2,u6 x.je 1048576,u6 x.iS m.af.iL]
 cases decide (0<=x.je)<;>cases decide (x.je<=1048576)<;>cases decide (0<=x.iS)<;>cases decide (x.iS<=m.af.iL)<;>rfl
theorem qeX (m:iv) (i:Nat) (x:gi) (hx:m.bz[i]? =some x) (hl:m.bz.length<=140737488351232) (hr:x.iX.jH.length<=140737488351232) (hn:m.iG<=1048577):lB m (i:Int) x=some (!(idB m.iG m.bz i x&&D5 m.af.iL x)):=by
 unfold lB nZ nP idB D5
 rw [Te _ hr]
 have e0:jz x.fId=(decide (1<=x.fId)&&decide (x.fId<=1048576)):=rfl
 have e2:decide (m.iG<=x.fId)= !decide (x.fId<m.iG):=by rw [u6];simp
 rw [e0,e2]
 cases decide (1<=x.fId) with
 |false=>rfl
 |true=>
  by_cases h1:x.fId<m.iG
  ·rw [decide_eq_true h1,decide_eq_true (show x.fId<=1048576 by omega)]
   simp only [iM,Bool.and_self,cond_true,Bool.not_true,cond_false,Bool.true_and]
   by_cases hi:i=0
   ·subst hi
    rw [decide_eq_false (by omega)]
    simp only [iM,cond_false,decide_true,Bool.true_or,Bool.true_and]
    cases decide (0<=x.je)<;>cases decide (x.je<=1048576)<;>cases decide (0<=x.iS)<;>cases decide (x.iS<=m.af.iL)<;>rfl
   ·obtain⟨y,h3,h4⟩:=zQ hx (by omega) hl
    rw [decide_eq_true (show (0:Int)<(i:Int) by omega),cond_true,h4,decide_eq_false hi,Bool.false_or,sD h3,iM]
    have e9:decide (x.fId<=y.fId)= !decide (y.fId<x.fId):=by rw [u6];simp
    simp only [iM,e9]
    cases decide (y.fId<x.fId)<;>cases decide (0<=x.je)<;>cases decide (x.je<=1048576)<;>cases decide (0<=x.iS)<;>cases decide (x.iS<=m.af.iL)<;>rfl
  ·rw [decide_eq_false h1]
   cases decide (x.fId<=1048576)<;>rfl
theorem Q6 (m:iv) (ok:m.ok):clC m=some (bif JT m then 0 else 13):=by
 obtain⟨o1,o2,o3,o4⟩:=ok
 unfold okN at o3
 have hk:xa m=some (!(wl m.af&&((decide (1<=m.iG)&&decide (m.iG<=1048577))&&decide (m.bz.length<=4)))):=by
  unfold xa
  rw [ST _ o1]
  have e1:decide (m.iG<1)= !decide (1<=m.iG):=u6 _ _
  have e3:decide ((4:Int)<(m.bz.length:Int))= !decide (m.bz.length<=4):=by
   by_cases h:m.bz.length<=4
   ·rw [decide_eq_true h,decide_eq_false (by omega)];rfl
   ·rw [decide_eq_false h,decide_eq_true (by omega)];rfl
  rw [e1,e3,u6 m.iG 1048577]
  cases wl m.af<;>cases decide (1<=m.iG)<;>cases decide (m.iG<=1048577)<;>cases decide (m.bz.length<=4)<;>rfl
 unfold clC JT
 rw [hk]
 cases (wl m.af&&((decide (1<=m.iG)&&decide (m.iG<=1048577))&&decide (m.bz.length<=4))) with
 |false=>rfl
 |true=>
  obtain⟨r,e1,e2,e3⟩:=zz (step:=xy m m.bz (m.bz.length:Int)) m.bz (fun x=>x) (fun i x=>idB m.iG m.bz i x&&D5 m.af.iL x) (fun i x hx=>by
   have hxo:=o4 x (List.mem_of_getElem? hx)
   have hxl:=hxo.2.2.2.2.2.2.1
   unfold okN at hxl
   simp only [iM,xy,ltN (jp hx),cond_true,jD hx,qdz m i _ _ x hx (by omega),qfo m _ _ _ x (by omega),kV (show i<=_ by have:=jp hx;omega)]
   cases idB m.iG m.bz i x<;>cases D5 m.af.iL x<;>rfl) (by simp only [iM,xy,geN (Nat.le_refl _),cond_false])
  simp only [iM,Bool.not_true,cond_false,Bool.true_and]
  rw [e1]
  cases h:nk (fun i x=>idB m.iG m.bz i x&&D5 m.af.iL x) 0 m.bz with
  |true=>rw [e2 h];rfl
  |false=>obtain⟨y,hy⟩:=e3 h;rw [hy];rfl
theorem QA (m:iv) (ok:m.ok):mC m=some (bif JT m then 0 else 13):=by
 obtain⟨o1,o2,o3,o4⟩:=ok
 unfold okN at o3
 have hk:mI m=some (!(wl m.af&&((decide (1<=m.iG)&&decide (m.iG<=1048577))&&decide (m.bz.length<=4)))):=by
  unfold mI
  rw [SL _ o1]
  have e3:decide ((4:Int)<(m.bz.length:Int))= !decide (m.bz.length<=4):=by
   by_cases h:m.bz.length<=4
   ·rw [decide_eq_true h,decide_eq_false (by omega)];rfl
   ·rw [decide_eq_false h,decide_eq_true (by omega)];rfl
  rw [e3]
  cases wl m.af<;>cases decide (1<=m.iG)<;>cases decide (m.iG<=1048577)<;>cases decide (m.bz.length<=4)<;>rfl
 unfold mC JT
 rw [hk]
 cases hh:(wl m.af&&((decide (1<=m.iG)&&decide (m.iG<=1048577))&&decide (m.bz.length<=4))) with
 |false=>rfl
 |true=>
  have hn:m.iG<=1048577:=by simp only [iM,Bool.and_eq_true,decide_eq_true_eq] at hh;omega
  obtain⟨r,e1,e2,e3⟩:=zz (step:=lY m) m.bz (fun x=>x) (fun i x=>idB m.iG m.bz i x&&D5 m.af.iL x) (fun i x hx=>by
   have hxo:=o4 x (List.mem_of_getElem? hx)
   have hxl:=hxo.2.2.2.2.2.2.1
   unfold okN at hxl
   simp only [iM,lY,ltN (jp hx),cond_true,jD hx,qeX m i x hx (by omega) (by omega) hn,kV (show i<=_ by have:=jp hx;omega)]
   cases (idB m.iG m.bz i x&&D5 m.af.iL x)<;>rfl) (by simp only [iM,lY,geN (Nat.le_refl _),cond_false])
  simp only [iM,Bool.not_true,cond_false,Bool.true_and]
  rw [e1]
  cases h:nk (fun i x=>idB m.iG m.bz i x&&D5 m.af.iL x) 0 m.bz with
  |true=>rw [e2 h];rfl
  |false=>obtain⟨y,hy⟩:=e3 h;rw [hy];rfl
theorem Ki (s:ByteArray):la s=jc s:=rfl
theorem MG (s:ByteArray):jg s=jd s:=rfl
theorem Kk (n:Int):kN n=jA n:=rfl
theorem IQ (n:Int):jz n=lZ n:=rfl
def SH (q:Int) (et ef ek en k f x n:Bool):Int:=
 bif !(decide (1<=q)&&decide (q<=22)) then 3
 else bif (!(q==1||q==4||q==7||q==8||(decide (11<=q)&&decide (q<=16)))&& !et)||(!(decide (4<=q)&&decide (q<=6))&& !ef)||(!(q==3||q==14||q==20)&& !en)||(q==22&& !ek) then 8
 else bif (!(q==22)&& !k)||((decide (4<=q)&&decide (q<=6))&& !f)|| !x then 1
 else bif !n then 2 else 0
noncomputable def Pd (c:iB):Int:=SH c.bt (cY c.iq ByteArray.empty) (cY c.iE ByteArray.empty) (cY c.iU ByteArray.empty) (c.fN==0) (jc c.iU) (jc c.iE) (jd c.iq) (jA c.fN)
theorem QU {q:Int} (h: ¬(q<1∨22<q)):q=1∨q=2∨q=3∨q=4∨q=5∨q=6∨q=7∨q=8∨q=9∨q=10∨q=11∨q=12∨q=13∨q=14∨q=15∨q=16∨q=17∨q=18∨q=19∨q=20∨q=21∨q=22:=by omega
theorem qiy (c:iB) (q:Int) (k:ByteArray) (h: ¬(q<1∨22<q)):jF c q k=⟨q,bif (q==22) then ByteArray.empty else k,bif (decide (4<=q)&&decide (q<=6)) then c.iE else ByteArray.empty,bif (q==1||q==4||q==7||q==8||(decide (11<=q)&&decide (q<=16))) then c.iq else ByteArray.empty,bif (q==3||q==14||q==20) then c.fN else 0⟩:=by
 rcases QU h with rfl|rfl|rfl|rfl|rfl|rfl|rfl|rfl|rfl|rfl|rfl|rfl|rfl|rfl|rfl|rfl|rfl|rfl|rfl|rfl|rfl|rfl<;>rfl
theorem Sg (a b:ByteArray) (c:Bool):cY a (bif c then a else b)=(c||cY a b):=by
 cases c with
 |true=>exact pH a
 |false=>rfl
theorem Un (n:Int) (c:Bool):(n==bif c then n else 0)=(c||(n==0)):=by
 cases c with
 |true=>exact beq_self_eq_true n
 |false=>rfl
theorem PA (a b:ByteArray) (c:Bool):cY a (bif c then b else a)=(!c||cY a b):=by
 cases c with
 |false=>exact pH a
 |true=>rfl
theorem FN (c:iB):rO c=Pd c:=by
 unfold rO vw Pd
 by_cases h:c.bt<1∨22<c.bt
 ·have e0:(decide (1<=c.bt)&&decide (c.bt<=22))=false:=by
   rw [Bool.and_eq_false_iff,decide_eq_false_iff_not,decide_eq_false_iff_not];omega
  simp only [iM,SH,e0,Bool.not_false,cond_true]
  rcases h with h|h
  ·rw [decide_eq_true h];rfl
  ·cases decide (c.bt<1)<;>simp [decide_eq_true h]
 ·rw [qiy c _ _ h]
  simp only [iM,Sg,PA,Un,beq_self_eq_true,ne,qf]
  generalize cY c.iq ByteArray.empty=et
  generalize cY c.iE ByteArray.empty=ef
  generalize cY c.iU ByteArray.empty=ek
  generalize (c.fN==0)=en
  generalize jc c.iU=k
  generalize jc c.iE=f
  generalize jd c.iq=x
  generalize jA c.fN=n
  generalize c.bt=q at h⊢
  rcases QU h with rfl|rfl|rfl|rfl|rfl|rfl|rfl|rfl|rfl|rfl|rfl|rfl|rfl|rfl|rfl|rfl|rfl|rfl|rfl|rfl|rfl|rfl<;>(revert et ef ek en k f x n;decide)
theorem Pj (c:iB):nx c=Pd c:=by
 simp only [iM,nx,jo,kr,nW,nS,nO,lQ,lI,Pd,Ki,MG,Kk]
 generalize cY c.iq ByteArray.empty=et
 generalize cY c.iE ByteArray.empty=ef
 generalize cY c.iU ByteArray.empty=ek
 generalize (c.fN==0)=en
 generalize jc c.iU=k
 generalize jc c.iE=f
 generalize jd c.iq=x
 generalize jA c.fN=n
 generalize c.bt=q
 by_cases h:q<1∨22<q
 ·have e: ∀j:Int,1<=j->j<=22->(q==j)=false:=fun j h1 h2=>by rw [beq_eq_false_iff_ne];omega
  have e0:(decide (1<=q)&&decide (q<=22))=false:=by
   rw [Bool.and_eq_false_iff,decide_eq_false_iff_not,decide_eq_false_iff_not];omega
  simp only [iM,e 1 (by decide) (by decide),e 2 (by decide) (by decide),e 3 (by decide) (by decide),e 4 (by decide) (by decide),e 5 (by decide) (by decide),e 6 (by decide) (by decide),e 7 (by decide) (by decide),e 8 (by decide) (by decide),e 9 (by decide) (by decide),e 10 (by decide) (by decide),e 11 (by decide) (by decide),e 12 (by decide) (by decide),e 13 (by decide) (by decide),e 14 (by decide) (by decide),e 15 (by decide) (by decide),e 16 (by decide) (by decide),e 17 (by decide) (by decide),e 18 (by decide) (by decide),e 19 (by decide) (by decide),e 20 (by decide) (by decide),e 21 (by decide) (by decide),e 22 (by decide) (by decide),cond_false,SH,e0,Bool.not_false,cond_true]
  rcases h with h|h
  ·simp [show ¬1<=q by omega]
  ·cases decide (1<=q)<;>simp [show ¬q<=22 by omega]
 ·rcases QU h with rfl|rfl|rfl|rfl|rfl|rfl|rfl|rfl|rfl|rfl|rfl|rfl|rfl|rfl|rfl|rfl|rfl|rfl|rfl|rfl|rfl|rfl<;>(revert et ef ek en k f x n;decide)
theorem T9 (c:i8):qx c=ux c:=by
 simp only [iM,qx,uA,ux,vB,IQ,FN,Pj]
theorem NM (x:iV):oR x=kh x:=by
 simp only [iM,oR,un,kh,pp,ku,T9,jz]
 by_cases h1:x.iI<1
 ·simp [h1,show ¬1<=x.iI by omega]
 ·by_cases h2:1048576<x.iI
  ·simp [h1,h2,show ¬x.iI<=1048576 by omega]
  ·by_cases h3:x.iS<0
   ·simp [h1,h2,h3,show ¬0<=x.iS by omega,show 1<=x.iI by omega,show x.iI<=1048576 by omega]
   ·by_cases h4:1073741824<x.iS
    ·simp [h1,h2,h3,h4,show 0<=x.iS by omega,show ¬x.iS<=1073741824 by omega,show 1<=x.iI by omega,show x.iI<=1048576 by omega]
    ·simp [h1,h2,h3,h4,show 0<=x.iS by omega,show x.iS<=1073741824 by omega,show 1<=x.iI by omega,show x.iI<=1048576 by omega]
structure Vu (c:iB):Prop where
 kind:1<=c.bt/\c.bt<=22
 key:(c.iU.size:Int)<=12
 field:(c.iE.size:Int)<=12
 text:(c.iq.size:Int)<=20
 num: -1099511627776<=c.fN/\c.fN<=1099511627776
theorem Q4 {a b:ByteArray} :cY a b=true↔a=b:=by
 unfold cY
 rw [ByteArray.toList_eq,ByteArray.toList_eq]
 constructor
 ·intro h
  have h1:a.data.toList=b.data.toList:=by simpa using h
  cases a;cases b
  simp only [iM,ByteArray.mk.injEq]
  exact Array.ext' h1
 ·rintro rfl;exact beq_self_eq_true _
theorem LR {s:ByteArray} (h:cY s ByteArray.empty=true):s.size=0:=by
 rw [Q4.1 h];rfl
theorem QX {c:Bool} {a b:Int} (ha:a≠0) (h:(bif c then a else b)=0):c=false/\b=0:=by
 cases c with
 |true=>exact absurd h ha
 |false=>exact⟨rfl,h⟩
theorem ZR {c:iB} (h:Pd c=0):Vu c:=by
 unfold Pd SH at h
 obtain⟨h1,h⟩:=QX (by decide) h
 obtain⟨h2,h⟩:=QX (by decide) h
 obtain⟨h3,h⟩:=QX (by decide) h
 obtain⟨h4,_⟩:=QX (by decide) h
 simp only [iM,Bool.not_eq_false',Bool.and_eq_true,decide_eq_true_eq] at h1
 simp only [iM,Bool.or_eq_false_iff,Bool.and_eq_false_iff,Bool.not_eq_false',decide_eq_false_iff_not] at h2 h3
 simp only [iM,Bool.not_eq_false',jA,Bool.and_eq_true,decide_eq_true_eq] at h4
 have hf: ∀s:ByteArray,jc s=true->(s.size:Int)<=12:=by
  intro s hs
  simp only [iM,jc,Bool.and_eq_true,decide_eq_true_eq] at hs
  exact hs.2
 have he: ∀s:ByteArray,cY s ByteArray.empty=true->(s.size:Int)<=12:=fun s hs=>by rw [LR hs];decide
 refine⟨h1,?_,?_,?_,h4⟩
 ·rcases h3.1.1 with hk|hk
  ·rcases h2.2 with h5|h5
   ·rw [hk] at h5;cases h5
   ·exact he _ h5
  ·exact hf _ hk
 ·rcases h3.1.2 with hk|hk
  ·rcases h2.1.1.2 with h5|h5
   ·simp only [iM,Bool.and_eq_true,decide_eq_true_eq] at h5
    rcases hk with hk|hk
    ·exact absurd h5.1 hk
    ·exact absurd h5.2 hk
   ·exact he _ h5
  ·exact hf _ hk
 ·have:=h3.2
  simp only [iM,jd,decide_eq_true_eq] at this
  exact this
structure Zo (x:iV):Prop where
 term:1<=x.iI/\x.iI<=1048576
 time:0<=x.iS/\x.iS<=1073741824
 client:0<=x.cO.iO/\x.cO.iO<=1048576
 seq:x.jY=false->x.cO.iO≠0->1<=x.cO.je/\x.cO.je<=1048576
 cmd:x.jY=false->x.cO.iO≠0->Vu x.cO.ad
theorem qg7 {x:iV} (h:kh x=0):Zo x:=by
 have q:ku x=(decide (x.iI<1)||(decide (1048576<x.iI)||(decide (x.iS<0)||decide (1073741824<x.iS)))):=by
  unfold ku
  simp only [iM,Bool.cond_true_left]
 simp only [iM,kh,pp,ux,vB,FN] at h
 obtain⟨h0,h⟩:=QX (by decide) h
 rw [q,Bool.or_eq_false_iff,Bool.or_eq_false_iff,Bool.or_eq_false_iff] at h0
 obtain⟨h1,h2,h3,h4⟩:=h0
 simp only [iM,decide_eq_false_iff_not] at h1 h2 h3 h4
 cases hn:x.jY with
 |true=>
  rw [hn,cond_true] at h
  cases hc:(x.cO.iO==0) with
  |false=>rw [hc] at h;cases h
  |true=>
   have:x.cO.iO=0:=by simpa using hc
   exact⟨by omega,by omega,by omega,fun h=>(by rw [hn] at h;cases h),fun h=>(by rw [hn] at h;cases h)⟩
 |false=>
  rw [hn,cond_false] at h
  cases hc:(x.cO.iO==0) with
  |true=>
   have:x.cO.iO=0:=by simpa using hc
   exact⟨by omega,by omega,by omega,fun _ h=>absurd this h,fun _ h=>absurd this h⟩
  |false=>
   rw [hc,cond_false] at h
   cases h5:lZ x.cO.iO with
   |false=>rw [h5] at h;cases h
   |true=>
    rw [h5,cond_true] at h
    cases h6:lZ x.cO.je with
    |false=>rw [h6] at h;cases h
    |true=>
     rw [h6,cond_true] at h
     simp only [iM,lZ,Bool.and_eq_true,decide_eq_true_eq] at h5 h6
     exact⟨by omega,by omega,by omega,fun _ _=>h6,fun _ _=>ZR h⟩
theorem Js (n:Int):IntKind.i64.wrap n=(n+9223372036854775808) % 18446744073709551616-9223372036854775808:=by
 simp [IntKind.wrap,IntKind.min,IntKind.max,IntKind.bits,IntKind.signed]
 split<;>omega
theorem Qs (n:Int):IntKind.u64.wrap n=n % 18446744073709551616:=by
 simp [IntKind.wrap,IntKind.min,IntKind.max,IntKind.bits,IntKind.signed]
def mK (l:List Int):Prop:=∀y∈l,0<=y/\y<256
def val (a:Int):List Int->Int
 | []=>a
 |c::l=>val (a*256+c) l
theorem FV: ∀(l:List Int) (a:Int) (m:Nat),mK l->0<=a->a<256 ^ m->0<=val a l/\val a l<256 ^ (m+l.length)
 | [],a,m,_,h1,h2=>⟨h1,h2⟩
 |c::l,a,m,hb,h1,h2=>by
  have hc:=hb c (List.mem_cons_self ..)
  have:=FV l (a*256+c) (m+1) (fun y hy=>hb y (List.mem_cons_of_mem _ hy)) (by omega) (by rw [Int.pow_succ];omega)
  simp only [iM,val,List.length_cons]
  rw [show m+(l.length+1)=m+1+l.length by omega]
  exact this
theorem YG (u c:Int) (h1:0<=u) (h2:u<72057594037927936) (h3:0<=c) (h4:c<256):IntKind.u64.wrap (BitVec.ofInt IntKind.u64.bits (IntKind.u64.wrap (u*2 ^ (min (8:Int).toNat IntKind.u64.bits)))|||BitVec.ofInt IntKind.u64.bits (IntKind.u64.wrap c)).toNat=u*256+c:=by
 obtain⟨a,rfl⟩:=Int.eq_ofNat_of_zero_le h1
 obtain⟨b,rfl⟩:=Int.eq_ofNat_of_zero_le h3
 have e1:(2:Int) ^ (min (8:Int).toNat IntKind.u64.bits)=256:=by decide
 rw [e1]
 have e2:IntKind.u64.wrap ((a:Int)*256)=((a*256:Nat):Int):=by rw [I7 (by omega) (by omega)];omega
 have e3:IntKind.u64.wrap (b:Int)=(b:Int):=I7 (by omega) (by omega)
 rw [e2,e3]
 have e4:(BitVec.ofInt IntKind.u64.bits ((a*256:Nat):Int)|||BitVec.ofInt IntKind.u64.bits (b:Int)).toNat=a*256+b:=by
  show (BitVec.ofInt 64 ((a*256:Nat):Int)|||BitVec.ofInt 64 (b:Int)).toNat=a*256+b
  rw [BitVec.toNat_or,BitVec.ofInt_natCast,BitVec.ofInt_natCast,BitVec.toNat_ofNat,BitVec.toNat_ofNat,Nat.mod_eq_of_lt (by omega),Nat.mod_eq_of_lt (by omega)]
  have:=Nat.shiftLeft_add_eq_or_of_lt (b:=b) (i:=8) (by omega) a
  rw [Nat.shiftLeft_eq] at this
  exact this.symm
 rw [e4,I7 (by omega) (by omega)]
 omega
theorem J3 (l:List Int) (r:ir) (hl:l.length<=8) (hb:mK l): ∀(suf pre:List Int) (u:Int),l=pre++suf->0<=u->u<256 ^ pre.length->cM (qy l (l.length:Int) r) (u,(pre.length:Int))=some (val u suf):=by
 intro suf
 induction suf with
 |nil=>
  intro pre u h _ _
  simp at h;subst h
  exact jX (by simp only [iM,qy,geN (Nat.le_refl _),cond_false,val])
 |cons c suf ih=>
  intro pre u h h1 h2
  have hp:pre.length<=7:=by rw [h] at hl;simp at hl;omega
  have hc:=hb c (by rw [h];simp)
  have hu:u<72057594037927936:=by
   have h3:((256 ^ pre.length:Nat):Int)<=((72057594037927936:Nat):Int):=Int.ofNat_le.2 (Nat.le_trans (Nat.pow_le_pow_right (by decide) hp) (by decide))
   rw [Int.natCast_pow] at h3
   have e:((256:Nat):Int)=256:=rfl
   rw [e] at h3
   omega
  have hd:decide ((pre.length:Int)<(l.length:Int))=true:=decide_eq_true (by rw [h];simp;omega)
  have hi:idx l (pre.length:Int)=some c:=by rw [h];exact Ng _ _ _
  have hw:IntKind.i64.wrap ((pre.length:Int)+1)=((pre++ [c]).length:Int):=by
   rw [List.length_append,List.length_singleton];exact kV (by omega)
  rw [pL (a':=(u*256+c,((pre++ [c]).length:Int)))]
  ·exact ih (pre++ [c]) (u*256+c) (by simp [h]) (by omega) (by rw [List.length_append,List.length_singleton,Int.pow_succ];omega)
  ·simp only [iM,qy,hd,cond_true,hi,hw,YG u c h1 hu hc.1 hc.2]
theorem zn (b:List Int) (a:Int) (h0:0<=a) (h:(b.length:Int)<=a) (hK:a<=4611686018427387904):jn ⟨b,a⟩=some (0,⟨b,a+1⟩):=by
 have hw:IntKind.i64.wrap (a+1)=a+1:=by rw [ls]<;>omega
 unfold jn
 simp only [iM,hw]
 rw [decide_eq_true (by omega),cond_true]
theorem A6 (b:List Int) (a:Nat) (c:Int) (hb:mK b) (h:b[a]? =some c) (hK:a<=140737488355328):jn ⟨b,(a:Int)⟩=some (c,⟨b,((a+1:Nat):Int)⟩):=by
 have hw:IntKind.i64.wrap ((a:Int)+1)=((a+1:Nat):Int):=kV hK
 have hw2:IntKind.i64.wrap (((a+1:Nat):Int)-1)=(a:Int):=by rw [ls]<;>omega
 have hl:=jp h
 have hc:=hb c (List.mem_of_getElem? h)
 have hw3:IntKind.i64.wrap c=c:=by rw [ls]<;>omega
 unfold jn
 simp only [iM,hw,hw2]
 rw [decide_eq_false (by omega),cond_false,jD h]
 simp only [iM,hw3]
theorem OC (b:List Int) (a:Nat) (hb:mK b) (hK:a<=140737488355328): ∃c,jn ⟨b,(a:Int)⟩=some (c,⟨b,((a+1:Nat):Int)⟩)/\0<=c/\c<256:=by
 by_cases h:a<b.length
 ·exact⟨b[a],A6 b a _ hb (List.getElem?_eq_getElem h) hK,hb _ (List.getElem_mem h)⟩
 ·refine⟨0,?_,by omega,by omega⟩
  rw [zn b a (by omega) (by omega) (by omega)]
  simp
theorem Ht (b:List Int) (hb:mK b): ∀(k i:Nat) (n:Int) (a:Nat),i+k=8->a+k<=140737488355328-> ∃n',cM kK (n,(i:Int),⟨b,(a:Int)⟩)=some (n',⟨b,((a+k:Nat):Int)⟩)
 |0,i,n,a,hi,ha=>⟨n,jX (by simp only [iM,kK];rw [decide_eq_false (by omega)];rfl)⟩
 |k+1,i,n,a,hi,ha=>by
  obtain⟨c,hc,_⟩:=OC b a hb (by omega)
  have hw:IntKind.i64.wrap ((i:Int)+1)=((i+1:Nat):Int):=kV (by omega)
  obtain⟨n',h'⟩:=Ht b hb k (i+1) (IntKind.i64.wrap (IntKind.i64.wrap (n*256)+c)) (a+1) (by omega) (by omega)
  refine⟨n',?_⟩
  rw [pL (a':=(IntKind.i64.wrap (IntKind.i64.wrap (n*256)+c),((i+1:Nat):Int),⟨b,((a+1:Nat):Int)⟩))]
  ·rw [h',show a+1+k=a+(k+1) by omega]
  ·simp only [iM,kK,hc,hw]
   rw [decide_eq_true (by omega),cond_true]
theorem Ot (v c:Int):IntKind.i64.wrap (IntKind.i64.wrap (IntKind.i64.wrap v*256)+c)=IntKind.i64.wrap (v*256+c):=by
 simp only [iM,Js];omega
theorem N6 (b:List Int) (hb:mK b): ∀(suf:List Int) (i:Nat) (v:Int) (a:Nat) (tl:List Int),i+suf.length=8->b.drop a=suf++tl->a+suf.length<=140737488355328->cM kK (IntKind.i64.wrap v,(i:Int),⟨b,(a:Int)⟩)=some (IntKind.i64.wrap (val v suf),⟨b,((a+suf.length:Nat):Int)⟩)
 | [],i,v,a,tl,hi,hd,ha=>jX (by simp only [iM,List.length_nil,Nat.add_zero] at hi;simp only [iM,kK];rw [decide_eq_false (by omega)];rfl)
 |c::suf,i,v,a,tl,hi,hd,ha=>by
  simp only [iM,List.length_cons] at hi
  have hx:b[a]? =some c:=by
   have:=List.getElem?_drop (xs:=b) (i:=a) (j:=0)
   rw [hd] at this
   simpa using this.symm
  have hd':b.drop (a+1)=suf++tl:=by
   have:b.drop (a+1)=(b.drop a).drop 1:=by rw [List.drop_drop]
   rw [this,hd];rfl
  have hw:IntKind.i64.wrap ((i:Int)+1)=((i+1:Nat):Int):=kV (by omega)
  have hn:=A6 b a c hb hx (by omega)
  simp only [iM,List.length_cons] at ha
  have h':=N6 b hb suf (i+1) (v*256+c) (a+1) tl (by omega) hd' (by omega)
  rw [pL (a':=(IntKind.i64.wrap (v*256+c),((i+1:Nat):Int),⟨b,((a+1:Nat):Int)⟩))]
  ·rw [h',val,List.length_cons,show a+1+suf.length=a+(suf.length+1) by omega]
  ·simp only [iM,kK,hn,hw,Ot]
   rw [decide_eq_true (by omega),cond_true]
structure Sim (b:List Int) (r:ir) (s:iK) (K:Nat):Prop where
 by_:mK b
 fb:s.fb=b
 at_: ∃a:Nat,s.fat=a/\a<=K/\(r.fshort=false->a<=b.length/\r.frest=b.drop a)/\(r.fshort=true->b.length<a)
theorem z9 (n:Int) (r:ir) (h:r.fshort=true):qW n r=some ([],⟨r.frest,true⟩):=by
 unfold qW;rw [h,cond_true]
theorem BV (n:Int) (r:ir) (h:r.fshort=false) (hn:(r.frest.length:Int)<n):qW n r=some ([],⟨r.frest,true⟩):=by
 unfold qW;rw [h,cond_false,decide_eq_true hn,cond_true]
theorem IL (n:Nat) (r:ir) (h:r.fshort=false) (hn:n<=r.frest.length):qW n r=some (r.frest.take n,⟨r.frest.drop n,false⟩):=by
 have h1:nB 0 (n:Int) (r.frest.length:Int)=true:=by unfold nB;simp;omega
 have h2:nB (n:Int) (r.frest.length:Int) (r.frest.length:Int)=true:=by unfold nB;simp;omega
 unfold qW
 rw [h,cond_false,decide_eq_false (by omega),cond_false,h1,cond_true,h2,cond_true]
 simp only [iM,dm,Int.toNat_natCast,Int.toNat_zero,List.drop_zero,List.take_length]
theorem uf {b:List Int} (h:mK b) (n:Nat):mK (b.drop n):=fun y hy=>h y (List.mem_of_mem_drop hy)
theorem yc {b:List Int} (h:mK b) (n:Nat):mK (b.take n):=fun y hy=>h y (List.mem_of_mem_take hy)
theorem lL {b:List Int} {r:ir} {s:iK} {K:Nat} (h:Sim b r s K) (hK:K<=1000000000): ∃v v' r' s',kz r=some (v,r')/\js s=some (v',s')/\Sim b r' s' (K+8)/\(r.fshort=true->r'.fshort=true)/\(r'.fshort=false->v=v'):=by
 obtain⟨hb,rfl,a,ha,hk,hok,hsh⟩:=h
 obtain⟨b,at_⟩:=s
 simp only [iM] at ha hb hok hsh⊢
 subst ha
 obtain⟨n',hl⟩:=Ht b hb 8 0 0 a rfl (by omega)
 have e0:((0:Nat):Int)=0:=rfl
 rw [e0] at hl
 have hlong:js ⟨b,(a:Int)⟩=some (IntKind.i64.wrap (n'-4611686018427387904),⟨b,((a+8:Nat):Int)⟩):=by
  unfold js;rw [hl,iM]
 have hshort: ∀r':ir,qW 8 r=some ([],r')->kz r=some (IntKind.i64.wrap (IntKind.u64.wrap (0-4611686018427387904)),r'):=by
  intro r' ht
  unfold kz
  rw [ht]
  simp only [iM]
  have:=J3 [] r' (by simp) (fun y hy=>by cases hy) [] [] 0 rfl (by omega) (by simp)
  rw [show (0:Int)=(([]:List Int).length:Int) from rfl] at this⊢
  rw [this]
  rfl
 cases hs:r.fshort with
 |true=>
  refine⟨_,_,_,_,hshort _ (z9 8 r hs),hlong,⟨hb,rfl,a+8,rfl,by omega,fun h=>(by cases h),fun _=>?_⟩,fun _=>rfl,fun h=>by cases h⟩
  have:=hsh hs
  omega
 |false=>
  obtain⟨h1,h2⟩:=hok hs
  by_cases hlen:8<=r.frest.length
  ·have hr:r.frest.length=b.length-a:=by rw [h2,List.length_drop]
   have ht:qW 8 r=_:=IL 8 r hs hlen
   have h8:(r.frest.take 8).length=8:=by rw [List.length_take];omega
   have hby:mK (r.frest.take 8):=by rw [h2];exact yc (uf hb a) 8
   have hn:=J3 (r.frest.take 8) ⟨r.frest.drop 8,false⟩ (by omega) hby (r.frest.take 8) [] 0 rfl (by omega) (by simp)
   have hv:=FV (r.frest.take 8) 0 0 hby (by omega) (by simp)
   have hin:=N6 b hb (r.frest.take 8) 0 0 a (r.frest.drop 8) (by omega) (by rw [<-h2,List.take_append_drop]) (by omega)
   rw [h8] at hin
   have e1:IntKind.i64.wrap 0=0:=by decide
   rw [e1,e0] at hin
   have hlong':js ⟨b,(a:Int)⟩=some (IntKind.i64.wrap (IntKind.i64.wrap (val 0 (r.frest.take 8))-4611686018427387904),⟨b,((a+8:Nat):Int)⟩):=by
    unfold js;rw [hin,iM]
   have hnum:kz r=some (IntKind.i64.wrap (IntKind.u64.wrap (val 0 (r.frest.take 8)-4611686018427387904)),⟨r.frest.drop 8,false⟩):=by
    unfold kz
    rw [ht]
    simp only [iM]
    rw [List.length_nil,e0] at hn
    rw [hn,iM]
   refine⟨_,_,_,_,hnum,hlong',⟨hb,rfl,a+8,rfl,by omega,fun _=>⟨by omega,by rw [h2,List.drop_drop]⟩,fun h=>by cases h⟩,fun h=>(by cases h),fun _=>?_⟩
   generalize val 0 (r.frest.take 8)=q
   simp only [iM,Js,Qs]
   omega
  ·refine⟨_,_,_,_,hshort _ (BV 8 r hs (by omega)),hlong,⟨hb,rfl,a+8,rfl,by omega,fun h=>(by cases h),fun _=>?_⟩,fun _=>rfl,fun h=>by cases h⟩
   have:r.frest.length=b.length-a:=by rw [h2,List.length_drop]
   omega
theorem qH {b:List Int} {r:ir} {s:iK} {K:Nat} (h:Sim b r s K) (hK:K<=1000000000): ∃v r' s',nn r=some (v,r')/\jn s=some (v,s')/\0<=v/\v<256/\Sim b r' s' (K+1)/\(r.fshort=true->r'.fshort=true)/\(r'.fshort=true->v=0):=by
 obtain⟨hb,rfl,a,ha,hk,hok,hsh⟩:=h
 obtain⟨b,at_⟩:=s
 simp only [iM] at ha hb hok hsh⊢
 subst ha
 have hshort: ∀r':ir,qW 1 r=some ([],r')->nn r=some (0,r'):=by
  intro r' ht
  unfold nn
  rw [ht]
  simp only [iM]
  rw [jX (b:=.inr ()) (by simp [tD]),iM]
 cases hs:r.fshort with
 |true=>
  have hl:=hsh hs
  refine⟨0,_,_,hshort _ (z9 1 r hs),zn b a (by omega) (by omega) (by omega),by omega,by omega,⟨hb,rfl,a+1,by simp,by omega,fun h=>(by cases h),fun _=>?_⟩,fun _=>rfl,fun _=>rfl⟩
  omega
 |false=>
  obtain⟨h1,h2⟩:=hok hs
  have hr:r.frest.length=b.length-a:=by rw [h2,List.length_drop]
  by_cases hlen:1<=r.frest.length
  ·have hx:b[a]? =some b[a]:=List.getElem?_eq_getElem (by omega)
   have hc:=hb _ (List.mem_of_getElem? hx)
   have ht:qW 1 r=_:=IL 1 r hs hlen
   have htk:r.frest.take 1= [b[a]]:=by
    rw [h2,List.drop_eq_getElem_cons (by omega)];rfl
   rw [htk] at ht
   have hsm:nn r=some (b[a],⟨r.frest.drop 1,false⟩):=by
    unfold nn
    rw [ht]
    simp only [iM]
    rw [jX (b:=.inl b[a]) (by
     have:IntKind.i64.wrap b[a]=b[a]:=by rw [ls]<;>omega
     simp [tD,idx,this,iM]),iM]
   refine⟨b[a],_,_,hsm,A6 b a _ hb hx (by omega),hc.1,hc.2,⟨hb,rfl,a+1,rfl,by omega,fun _=>⟨by omega,by rw [h2,List.drop_drop]⟩,fun h=>(by cases h)⟩,fun h=>(by cases h),fun h=>(by cases h)⟩
  ·refine⟨0,_,_,hshort _ (BV 1 r hs (by omega)),zn b a (by omega) (by omega) (by omega),by omega,by omega,⟨hb,rfl,a+1,by simp,by omega,fun h=>(by cases h),fun _=>?_⟩,fun _=>rfl,fun _=>rfl⟩
   omega
theorem M3 (b:List Int) (hb:mK b) (n:Nat) (hn:n<=256): ∀(suf acc:List Int) (i a:Nat) (tl:List Int),i+suf.length=n->b.drop a=suf++tl->acc.length<=i->a+suf.length<=140737488355328->cM (ky (n:Int)) (acc,(i:Int),⟨b,(a:Int)⟩)=some (acc++suf,⟨b,((a+suf.length:Nat):Int)⟩)
 | [],acc,i,a,tl,hi,hd,hl,ha=>jX (by
  simp only [iM,List.length_nil,Nat.add_zero] at hi
  subst hi
  simp only [iM,ky,geN (Nat.le_refl _),cond_false,List.append_nil];rfl)
 |c::suf,acc,i,a,tl,hi,hd,hl,ha=>by
  simp only [iM,List.length_cons] at hi ha
  have hx:b[a]? =some c:=by
   have:=List.getElem?_drop (xs:=b) (i:=a) (j:=0)
   rw [hd] at this
   simpa using this.symm
  have hd':b.drop (a+1)=suf++tl:=by
   have:b.drop (a+1)=(b.drop a).drop 1:=by rw [List.drop_drop]
   rw [this,hd];rfl
  have hc:=hb c (List.mem_of_getElem? hx)
  have hal:=jp hx
  have hw:IntKind.i64.wrap ((i:Int)+1)=((i+1:Nat):Int):=kV (by omega)
  have hnx:=A6 b a c hb hx (by omega)
  have hf:dh (acc.length+1) 1=true:=nL (by omega)
  have hu:IntKind.u8.wrap c=c:=by rw [MQ];omega
  have h':=M3 b hb n hn suf (acc++ [c]) (i+1) (a+1) tl (by omega) hd' (by simp;omega) (by omega)
  rw [pL (a':=(acc++ [c],((i+1:Nat):Int),⟨b,((a+1:Nat):Int)⟩))]
  ·rw [h',List.length_cons,show a+1+suf.length=a+(suf.length+1) by omega];simp
  ·simp only [iM,ky,jt,hnx,hw,hf,hu,cond_true]
   rw [decide_eq_true (show (i:Int)<(n:Int) by omega),cond_true,decide_eq_false (show ¬(b.length:Int)<(a:Int) by omega),cond_false]
theorem N9 (b:List Int) (hb:mK b) (n:Nat) (hn:n<=256): ∀(rest acc:List Int) (i a:Nat),b.drop a=rest->a<=b.length->i+rest.length<n->acc.length<=i->vE acc=true->b.length<=140737488351232-> ∃l,cM (ky (n:Int)) (acc,(i:Int),⟨b,(a:Int)⟩)=some (l,⟨b,((b.length+1:Nat):Int)⟩)/\vE l=true
 | [],acc,i,a,hd,ha,hi,hl,hA,hB=>by
  have hal:a=b.length:=by
   have:=congrArg List.length hd
   simp only [iM,List.length_drop,List.length_nil] at this;omega
  subst hal
  have hw:IntKind.i64.wrap ((i:Int)+1)=((i+1:Nat):Int):=kV (by simp at hi;omega)
  have hnx:=zn b (b.length:Int) (by omega) (by omega) (by omega)
  simp only [iM,List.length_nil,Nat.add_zero] at hi
  have hf:dh (acc.length+1) 1=true:=nL (by omega)
  refine⟨acc++ [0],?_,by rw [LB,hA];rfl⟩
  rw [pL (a':=(acc++ [0],((i+1:Nat):Int),⟨b,((b.length+1:Nat):Int)⟩))]
  ·refine jX ?_
   simp only [iM,ky,jt]
   cases decide (((i+1:Nat):Int)<(n:Int)) with
   |false=>rfl
   |true=>rw [cond_true,decide_eq_true (by omega)];rfl
  ·have hu:IntKind.u8.wrap 0=0:=by rw [MQ];rfl
   simp only [iM,ky,jt,hnx,hw,hf,hu,cond_true]
   rw [decide_eq_true (show (i:Int)<(n:Int) by omega),cond_true,decide_eq_false (by omega),cond_false]
   rfl
 |c::rest,acc,i,a,hd,ha,hi,hl,hA,hB=>by
  simp only [iM,List.length_cons] at hi
  have hx:b[a]? =some c:=by
   have:=List.getElem?_drop (xs:=b) (i:=a) (j:=0)
   rw [hd] at this
   simpa using this.symm
  have hd':b.drop (a+1)=rest:=by
   have:b.drop (a+1)=(b.drop a).drop 1:=by rw [List.drop_drop]
   rw [this,hd];rfl
  have hc:=hb c (List.mem_of_getElem? hx)
  have hal:=jp hx
  have hw:IntKind.i64.wrap ((i:Int)+1)=((i+1:Nat):Int):=kV (by omega)
  have hnx:=A6 b a c hb hx (by omega)
  have hf:dh (acc.length+1) 1=true:=nL (by omega)
  have hu:IntKind.u8.wrap c=c:=by rw [MQ];omega
  obtain⟨l,h',hl'⟩:=N9 b hb n hn rest (acc++ [c]) (i+1) (a+1) hd' (by omega) (by omega) (by simp;omega) (by
   rw [LB,hA]
   simp only [iM,vE,List.all_cons,List.all_nil,Bool.and_true,Bool.true_and,decide_eq_true_eq];omega) hB
  refine⟨l,?_,hl'⟩
  rw [pL (a':=(acc++ [c],((i+1:Nat):Int),⟨b,((a+1:Nat):Int)⟩))]
  ·exact h'
  ·simp only [iM,ky,jt,hnx,hw,hf,hu,cond_true]
   rw [decide_eq_true (show (i:Int)<(n:Int) by omega),cond_true,decide_eq_false (show ¬(b.length:Int)<(a:Int) by omega),cond_false]
theorem Ak {l:List Int} (h:mK l):vE l=true:=by
 simp only [iM,vE,List.all_eq_true,decide_eq_true_eq]
 exact h
theorem Bq (l:List Int):(FC l).size=l.length:=by
 simp [FC,ByteArray.size]
theorem th {b:List Int} {r:ir} {s:iK} {K:Nat} (h:Sim b r s K) (hK:K<=1000000000) (hB:b.length<=1000000): ∃v v' r' s',qN r=some (v,r')/\jJ s=some (v',s')/\Sim b r' s' (K+1000000+300)/\(r.fshort=true->r'.fshort=true)/\(r'.fshort=false->v=v')/\v.size<=1000000:=by
 obtain⟨v,r1,s1,e1,e2,hv0,hv1,h1,hm,hz⟩:=qH h hK
 obtain⟨hb,rfl,a,ha,hk,hok,hsh⟩:=h1
 obtain⟨b,at_⟩:=s1
 simp only [iM] at ha hb hok hsh hB⊢
 subst ha
 obtain⟨n,rfl⟩:=Int.eq_ofNat_of_zero_le hv0
 have hn:n<=256:=by omega
 have hA0:vE []=true:=rfl
 have prog: ∀l r',qW (n:Int) r1=some (l,r')->vE l=true->qN r=some (FC l,r'):=by
  intro l r' ht hl
  unfold qN
  rw [e1];simp only [iM]
  rw [ht];simp only [iM,hl,cond_true]
 have doc: ∀l s',cM (ky (n:Int)) ([],0,⟨b,(a:Int)⟩)=some (l,s')->vE l=true->jJ s=some (FC l,s'):=by
  intro l r' ht hl
  unfold jJ
  rw [e2];simp only [iM]
  rw [ht];simp only [iM,hl,cond_true]
 have e0:((0:Nat):Int)=0:=rfl
 cases hs:r1.fshort with
 |true=>
  have hn0:n=0:=by have:=hz hs;omega
  subst hn0
  have hd:=M3 b hb 0 (by omega) [] [] 0 a (b.drop a) rfl rfl (by simp) (by simp;omega)
  rw [e0] at hd
  refine⟨_,_,_,_,prog _ _ (z9 _ r1 hs) hA0,doc _ _ hd hA0,⟨hb,rfl,a,by simp,by omega,fun h=>(by cases h),fun _=>hsh hs⟩,fun _=>rfl,fun h=>(by cases h),(by rw [Bq];simp)⟩
 |false=>
  obtain⟨h1,h2⟩:=hok hs
  have hr:r1.frest.length=b.length-a:=by rw [h2,List.length_drop]
  by_cases hlen:n<=r1.frest.length
  ·have hby:mK (r1.frest.take n):=by rw [h2];exact yc (uf hb a) n
   have htl:(r1.frest.take n).length=n:=by rw [List.length_take];omega
   have hd:=M3 b hb n hn (r1.frest.take n) [] 0 a (r1.frest.drop n) (by omega) (by rw [<-h2,List.take_append_drop]) (by simp) (by omega)
   rw [e0,List.nil_append,htl] at hd
   refine⟨_,_,_,_,prog _ _ (IL n r1 hs hlen) (Ak hby),doc _ _ hd (Ak hby),⟨hb,rfl,a+n,rfl,by omega,fun _=>⟨by omega,by rw [h2,List.drop_drop]⟩,fun h=>(by cases h)⟩,fun h=>(by rw [hm h] at hs;cases hs),fun _=>rfl,(by rw [Bq,htl];omega)⟩
  ·obtain⟨l,hd,hl⟩:=N9 b hb n hn r1.frest [] 0 a h2.symm h1 (by omega) (by simp) rfl (by omega)
   rw [e0] at hd
   refine⟨_,_,_,_,prog _ _ (BV (n:Int) r1 hs (by omega)) hA0,doc _ _ hd hl,⟨hb,rfl,b.length+1,rfl,by omega,fun h=>(by cases h),fun _=>(by omega)⟩,fun _=>rfl,fun h=>(by cases h),(by rw [Bq];simp)⟩
theorem EN {b:List Int} {r:ir} {s:iK} {K:Nat} (h:Sim b r s K) (hK:K<=1000000000) (hB:b.length<=1000000): ∃v v' r' s',qN r=some (v,r')/\jJ s=some (v',s')/\Sim b r' s' (K+1000000+300)/\(r.fshort=true->r'.fshort=true)/\(r'.fshort=false->v=v'):=by
 obtain⟨v,v',r1,s1,p,d,q,m,e,_⟩:=th h hK hB
 exact⟨v,v',r1,s1,p,d,q,m,e⟩
theorem Sim.mono {b:List Int} {r:ir} {s:iK} {K M:Nat} (h:Sim b r s K) (hM:K<=M):Sim b r s M:=by
 obtain⟨hb,hf,a,ha,hk,hok,hsh⟩:=h
 exact⟨hb,hf,a,ha,by omega,hok,hsh⟩
theorem jO {r r':ir} (h:r.fshort=true->r'.fshort=true) (h':r'.fshort=false):r.fshort=false:=by
 cases hr:r.fshort with
 |false=>rfl
 |true=>rw [h hr] at h';cases h'
theorem Kw {b:List Int} {r:ir} {s:iK} {K:Nat} (h:Sim b r s K) (hK:K<=100000000) (hB:b.length<=1000000): ∃c r' s' k t1 t2 t3 n s1 s2 s3 s4,uh r=some (c,r')/\jn s=some (k,s1)/\jJ s1=some (t1,s2)/\jJ s2=some (t2,s3)/\jJ s3=some (t3,s4)/\js s4=some (n,s')/\Sim b r' s' (K+4000000)/\(r.fshort=true->r'.fshort=true)/\(r'.fshort=false->c=⟨k,t1,t2,t3,n⟩):=by
 obtain⟨k,r1,s1,p1,d1,_,_,q1,m1,_⟩:=qH h (by omega)
 obtain⟨t1,t1',r2,s2,p2,d2,q2,m2,v2⟩:=EN q1 (by omega) hB
 obtain⟨t2,t2',r3,s3,p3,d3,q3,m3,v3⟩:=EN q2 (by omega) hB
 obtain⟨t3,t3',r4,s4,p4,d4,q4,m4,v4⟩:=EN q3 (by omega) hB
 obtain⟨n,n',r5,s5,p5,d5,q5,m5,v5⟩:=lL q4 (by omega)
 refine⟨⟨k,t1,t2,t3,n⟩,r5,s5,k,t1',t2',t3',n',s1,s2,s3,s4,?_,d1,d2,d3,d4,d5,q5.mono (by omega),fun h=>m5 (m4 (m3 (m2 (m1 h)))),fun h=>?_⟩
 ·unfold uh
  simp only [iM,p1,p2,p3,p4,p5]
 ·have h4:=jO m5 h
  have h3:=jO m4 h4
  have h2:=jO m3 h3
  rw [v2 h2,v3 h3,v4 h4,v5 h]
theorem TB {r:ir} (h:r.fshort=true):Sim [] r ⟨[],((1:Nat):Int)⟩ 1:=⟨fun y hy=>(by cases hy),rfl,1,rfl,by omega,fun h'=>(by rw [h] at h';cases h'),fun _=>(by decide)⟩
theorem UD {b:List Int} {r:ir} {s:iK} {K:Nat} (h:Sim b r s K) (hs:r.fshort=true):Sim b ⟨[],true⟩ s K:=by
 obtain⟨hb,hf,a,ha,hk,hok,hsh⟩:=h
 exact⟨hb,hf,a,ha,hk,fun h=>(by cases h),fun _=>hsh hs⟩
theorem EB {b:List Int} {r:ir} {s:iK} {K:Nat} (h:Sim b r s K) (hK:K<=90000000) (hB:b.length<=1000000) (q:Int): ∃c r' s' sq s0 k t1 t2 t3 n s1 s2 s3 s4,pX true r q=some (r',c)/\js s=some (sq,s0)/\jn s0=some (k,s1)/\jJ s1=some (t1,s2)/\jJ s2=some (t2,s3)/\jJ s3=some (t3,s4)/\js s4=some (n,s')/\Sim b r' s' (K+5000000)/\(r.fshort=true->r'.fshort=true)/\(r'.fshort=false->c=⟨q,sq,⟨k,t1,t2,t3,n⟩⟩):=by
 obtain⟨sq,sq',r1,s0,p1,d1,q1,m1,v1⟩:=lL h (by omega)
 obtain⟨c,r',s',k,t1,t2,t3,n,s1,s2,s3,s4,p2,d2,d3,d4,d5,d6,q2,m2,v2⟩:=Kw q1 (by omega) hB
 refine⟨⟨q,sq,c⟩,r',s',sq',s0,k,t1,t2,t3,n,s1,s2,s3,s4,?_,d1,d2,d3,d4,d5,d6,q2.mono (by omega),fun h=>m2 (m1 h),fun h=>?_⟩
 ·unfold pX
  simp only [iM,cond_true,p1,p2]
 ·rw [v2 h,v1 (jO m2 h)]
theorem Rv {b : List Int} {r : ir} {s : iK} {K : Nat} (h : Sim b r s K) (hK : K <= 80000000) (hB : b.length <= 1000000) : ∃ x ok r' x' ok' s', Ai r = some (x, ok, r') /\ l7 s = some (x', ok', s') /\ Sim b r' s' (K + 6000000) /\ (r'.fshort = false -> x = x' /\ ok = ok') := by
  obtain ⟨t, t', r1, s1, p1, d1, q1, m1, v1⟩ := lL h (by omega)
  obtain ⟨u, u', r2, s2, p2, d2, q2, m2, v2⟩ := lL q1 (by omega)
  obtain ⟨k, r3, s3, p3, d3, _, _, q3, m3, _⟩ := qH q2 (by omega)
  have back : r3.fshort = false -> t = t' /\ u = u' := fun h3 => ⟨v1 (jO m2 (jO m3 h3)), v2 (jO m3 h3)⟩
  unfold Ai l7
  simp only [iM, p1, p2, p3, d1, d2, d3]
  by_cases hk0 : k = 0
  . subst hk0
    simp only [iM, beq_self_eq_true, cond_true, Bz, sU]
    obtain ⟨c, c', r4, s4, p4, d4, q4, m4, v4⟩ := lL q3 (by omega)
    simp only [iM, p4, d4]
    have e01 : ((0 : Int) == 1) = false := rfl
    simp only [iM, e01, ae, cond_false]
    cases h4 : r4.fshort with
    | false =>
      obtain rfl := v4 h4
      cases hc : (c == 0) with
      | true =>
        simp only [iM, Bool.not_true, pX, cond_false, cond_true]
        refine ⟨_, _, _, _, _, _, rfl, rfl, q4.mono (by omega), fun h => ?_⟩
        obtain ⟨rfl, rfl⟩ := back (jO m4 h)
        exact ⟨rfl, rfl⟩
      | false =>
        obtain ⟨cc, r5, s5, sq, s0, kk, t1, t2, t3, n, z1, z2, z3, z4, p5, e1, e2, e3, e4, e5, e6, q5, m5, v5⟩ := EB q4 (by omega) hB c
        simp only [iM, Bool.not_false, p5, cond_false, e1, e2, e3, e4, e5, e6]
        refine ⟨_, _, _, _, _, _, rfl, rfl, q5.mono (by omega), fun h => ?_⟩
        obtain ⟨rfl, rfl⟩ := back (jO m4 (jO m5 h))
        rw [v5 h]
        exact ⟨rfl, rfl⟩
    | true =>
      -- both are past the end: what is read is of no matter
      have prog : ∃ g r', pX (!(c == 0)) r4 c = some (r', g) /\ r'.fshort = true := by
        cases (c == 0) with
        | true => exact ⟨_, _, rfl, h4⟩
        | false =>
          obtain ⟨g, r', _, _, _, _, _, _, _, _, _, _, _, _, p, _, _, _, _, _, _, _, m, _⟩ := EB (TB h4) (by omega) (by simp) c
          exact ⟨g, r', p, m h4⟩
      obtain ⟨g, r', pe, hr'⟩ := prog
      simp only [iM, pe]
      have hd := UD q4 h4
      cases (c' == 0) with
      | true =>
        simp only [iM, cond_true]
        refine ⟨_, _, _, _, _, _, rfl, rfl, ?_, fun h => (by rw [hr'] at h; cases h)⟩
        obtain ⟨hb, hf, a, ha, hk, hok, hsh⟩ := hd
        exact ⟨hb, hf, a, ha, by omega, fun h => (by rw [hr'] at h; cases h), fun _ => hsh rfl⟩
      | false =>
        obtain ⟨_, r5, s5, sq, s0, kk, t1, t2, t3, n, z1, z2, z3, z4, _, e1, e2, e3, e4, e5, e6, q5, m5, _⟩ := EB hd (by omega) hB c
        simp only [iM, cond_false, e1, e2, e3, e4, e5, e6]
        refine ⟨_, _, _, _, _, _, rfl, rfl, ?_, fun h => (by rw [hr'] at h; cases h)⟩
        obtain ⟨hb, hf, a, ha, hk, hok, hsh⟩ := q5
        exact ⟨hb, hf, a, ha, by omega, fun h => (by rw [hr'] at h; cases h), fun _ => hsh (m5 rfl)⟩
  . have e : (k == 0) = false := by simpa using hk0
    simp only [iM, e, cond_false]
    by_cases hk1 : k = 1
    . subst hk1
      simp only [iM, beq_self_eq_true, cond_true, ae]
      refine ⟨_, _, _, _, _, _, rfl, rfl, q3.mono (by omega), fun h => ?_⟩
      obtain ⟨rfl, rfl⟩ := back h
      exact ⟨rfl, rfl⟩
    . have e1 : (k == 1) = false := by simpa using hk1
      simp only [iM, e1, cond_false, ae]
      refine ⟨_, _, _, _, _, _, rfl, rfl, q3.mono (by omega), fun h => ?_⟩
      obtain ⟨rfl, rfl⟩ := back h
      exact ⟨rfl, rfl⟩
theorem Mn (l:List Int) (hb:mK l): ∃x e,l5 l=some (x,e)/\v7 l=some (x,e):=by
 unfold l5 v7
 by_cases hl:(20000:Int)<(l.length:Int)
 ·rw [decide_eq_true hl]
  exact⟨_,_,rfl,rfl⟩
 ·rw [decide_eq_false hl]
  simp only [iM,cond_false]
  have h0:Sim l ⟨l,false⟩ ⟨l,((0:Nat):Int)⟩ 0:=⟨hb,rfl,0,rfl,by omega,fun _=>⟨by omega,rfl⟩,fun h=>(by cases h)⟩
  obtain⟨x,ok,r,x',ok',s,p,d,q,v⟩:=Rv h0 (by omega) (by omega)
  have d':l7 ⟨l,0⟩=some (x',ok',s):=d
  simp only [iM,p,d']
  obtain⟨_,hf,a,ha,hk,hok,hsh⟩:=q
  obtain⟨b,at_⟩:=s
  simp only [iM] at hf ha
  subst hf ha
  unfold Ct rE jt
  cases hs:r.fshort with
  |true=>
   have:=hsh hs
   simp only [iM,cond_true]
   rw [decide_eq_true (by omega)]
   exact⟨_,_,rfl,rfl⟩
  |false=>
   obtain⟨h1,h2⟩:=hok hs
   obtain⟨rfl,rfl⟩:=v hs
   simp only [iM,cond_false]
   have hov:decide ((b.length:Int)<(a:Int))=false:=decide_eq_false (by omega)
   have hr:r.frest.length=b.length-a:=by rw [h2,List.length_drop]
   simp only [iM,hov,cond_false]
   cases ok with
   |false=>exact⟨_,_,rfl,rfl⟩
   |true=>
    simp only [iM,cond_true]
    by_cases he:a<b.length
    ·rw [decide_eq_true (show (0:Int)<(r.frest.length:Int) by omega),decide_eq_true (show (a:Int)<(b.length:Int) by omega)]
     exact⟨_,_,rfl,rfl⟩
    ·rw [decide_eq_false (show ¬(0:Int)<(r.frest.length:Int) by omega),decide_eq_false (show ¬(a:Int)<(b.length:Int) by omega)]
     simp only [iM,cond_false,beq_self_eq_true,cond_true,mW,NM]
     cases (kh x==0) with
     |true=>exact⟨_,_,rfl,rfl⟩
     |false=>exact⟨_,_,rfl,rfl⟩
theorem Nq {α β:Type} {x:Option α} {f:α->Option β} {r:β} (h:oB x f=some r): ∃a,x=some a/\f a=some r:=by
 cases x with
 |none=>cases h
 |some a=>exact⟨a,rfl,h⟩
theorem rX {r r':ir} {v:Int} (h:kz r=some (v,r')):okI v:=by
 unfold kz at h
 obtain⟨⟨l,r1⟩,_,h⟩:=Nq h
 obtain⟨x,_,h⟩:=Nq h
 simp only [Option.some.injEq,Prod.mk.injEq] at h
 obtain⟨rfl,_⟩:=h
 generalize IntKind.u64.wrap (x-4611686018427387904)=q
 rw [Js]
 unfold okI
 omega
theorem Lw {v:Int} (h1:0<=v) (h2:v<256):okI v:=by unfold okI;omega
theorem Sim.reset {b:List Int} {r:ir} {s:iK} {K:Nat} (h:Sim b r s K) (hs:r.fshort=false) (hB:b.length<=1000000):Sim b r s 1000000:=by
 obtain⟨hb,hf,a,ha,hk,hok,hsh⟩:=h
 exact⟨hb,hf,a,ha,by have:=(hok hs).1;omega,hok,hsh⟩
theorem Sim.over {b:List Int} {r:ir} {s:iK} {K:Nat} (h:Sim b r s K) (hs:r.fshort=true):(s.fb.length:Int)<s.fat:=by
 obtain⟨hb,hf,a,ha,hk,hok,hsh⟩:=h
 have:=hsh hs
 rw [hf,ha];omega
theorem Sim.inside {b:List Int} {r:ir} {s:iK} {K:Nat} (h:Sim b r s K) (hs:r.fshort=false):decide ((s.fb.length:Int)<s.fat)=false:=by
 obtain⟨hb,hf,a,ha,hk,hok,hsh⟩:=h
 have:=(hok hs).1
 rw [hf,ha];exact decide_eq_false (by omega)
theorem vY {r:ir} (h:r.fshort=false):(⟨r.frest,false⟩:ir)=r:=by
 obtain⟨l,q⟩:=r
 simp only at h
 rw [h]
theorem yI {β ρ τ:Type} {b:List Int} {N M:Nat} {stP:Int×ir×β->Option ((Int×ir×β)⊕(ir×β))} {stD:τ->Option (τ⊕ρ)} (mk:Int->iK->β->τ) (out:iK->β->ρ) (Q Q':Nat->β->Prop)
  (hB:b.length<=1000000)
  (hPend: ∀r a,stP (0,r,a)=some (.inr (r,a)))
  (hPsh: ∀n r a,r.fshort=true->stP (n,r,a)=some (.inr (r,a)))
  (hDend: ∀s a,stD (mk N s a)=some (.inr (out s a)))
  (hDov: ∀i s a,(s.fb.length:Int)<s.fat->stD (mk i s a)=some (.inr (out s a)))
  (hQ: ∀i j a,i<=j->Q i a->Q j a) (hQ': ∀i j a,i<=j->Q' i a->Q' j a)
  (hEl: ∀(n i:Nat) r s a a',r.fshort=false->Sim b r s 1000000->i+(n+1)=N->Q i a->Q' i a'-> ∃r' s' c c',stP (((n+1:Nat):Int),r,a)=some (.inl ((n:Int),r',c))/\stD (mk (i:Int) s a')=some (.inl (mk ((i+1:Nat):Int) s' c'))/\Sim b r' s' M/\(r'.fshort=false->a=a'->c=c')/\Q (i+1) c/\Q' (i+1) c'):
  ∀(n i:Nat) r s a a' K,i+n=N->Sim b r s K->M<=K->(r.fshort=false->a=a')->Q i a->Q' i a'-> ∃r' s' c c',cM stP ((n:Int),r,a)=some (r',c)/\cM stD (mk (i:Int) s a')=some (out s' c')/\Sim b r' s' K/\(r.fshort=true->r'.fshort=true)/\(r'.fshort=false->c=c')/\Q N c/\Q' N c':=by
 intro n
 induction n with
 |zero=>
  intro i r s a a' K hi h hM he q q'
  have:i=N:=by omega
  subst this
  exact⟨r,s,a,a',jX (hPend r a),jX (hDend s a'),h,id,he,q,q'⟩
 |succ n ih=>
  intro i r s a a' K hi h hM he q q'
  cases hs:r.fshort with
  |true=>exact⟨r,s,a,a',jX (hPsh _ r a hs),jX (hDov _ s a' (h.over hs)),h,fun _=>hs,fun hf=>(by rw [hs] at hf;cases hf),hQ _ _ _ (by omega) q,hQ' _ _ _ (by omega) q'⟩
  |false=>
   obtain⟨r1,s1,c,c',e1,e2,h1,h2,q1,q1'⟩:=hEl n i r s a a' hs (h.reset hs hB) hi q q'
   obtain⟨r2,s2,d,d',f1,f2,g1,g2,g3,g4,g5⟩:=ih (i+1) r1 s1 c c' K (by omega) (h1.mono hM) hM (fun hf=>h2 hf (he hs)) q1 q1'
   exact⟨r2,s2,d,d',(pL e1).trans f1,(pL e2).trans f2,g1,fun hf=>(by cases hf),g3,g4,g5⟩
theorem QN (n:Nat) (h:n<=1000):IntKind.i64.wrap (((n+1:Nat):Int)-1)=(n:Int):=by
 rw [ls]<;>omega
theorem FR {b:List Int} {r:ir} {s:iK} {K:Nat} (h:Sim b r s K) (hK:5000000<=K) (hK':K<=900000000) (hB:b.length<=1000000): ∃l l' r' s',wD r=some (l,r')/\pV s=some (l',s')/\Sim b r' s' (K+1)/\(r.fshort=true->r'.fshort=true)/\(r'.fshort=false->l=l')/\l.length<=256/\ ∀y∈l,okS y:=by
 obtain⟨v,r1,s1,p1,d1,hv0,hv1,h1,m1,_⟩:=qH h (by omega)
 obtain⟨N,rfl⟩:=Int.eq_ofNat_of_zero_le hv0
 have hN:N<256:=by omega
 obtain⟨r2,s2,c,c',e1,e2,h2,m2,q2,hc,_⟩:=yI (b:=b) (N:=N) (M:=3000000) (stP:=kf) (stD:=ml (N:Int)) (fun i s a=>(a,i,s)) (fun s a=>(a,s)) (fun i l=>l.length<=i/\ ∀y∈l,okS y) (fun i l=>l.length<=i) hB
  (fun r a=>by simp only [kf];rfl)
  (fun n r a hs=>by simp only [kf,hs];cases decide (0<n)<;>rfl)
  (fun s a=>by simp only [ml];rw [decide_eq_false (by omega)];rfl)
  (fun i s a ho=>by simp only [ml,jt,iM,decide_eq_true ho];cases decide (i<(N:Int))<;>rfl)
  (fun i j a hij q=>⟨by omega,q.2⟩) (fun i j a hij q=>by omega)
  (fun n i r s a a' hs hS hi q q'=>by
   obtain⟨x,x',r',s',px,dx,hx,_,ex,zx⟩:=th hS (by omega) hB
   refine⟨r',s',a++ [x],a'++ [x'],?_,?_,hx.mono (by omega),fun hf e=>(by rw [ex hf,e]),⟨?_,?_⟩,?_⟩
   ·have hf:dh (a.length+1) 16=true:=nL (by omega)
    simp only [kf,hs,cond_false,ti,vY hs,px,iM,hf,cond_true,QN n (by omega)]
    rw [decide_eq_true (by omega),cond_true]
   ·have hf:dh (a'.length+1) 16=true:=nL (by omega)
    simp only [ml,jt,hS.inside hs,dx,iM,hf,cond_true,cond_false,kV (show i<=140737488355328 by omega)]
    rw [decide_eq_true (by omega),cond_true]
   ·rw [List.length_append,List.length_singleton];omega
   ·intro y hy
    rcases List.mem_append.1 hy with hy|hy
    ·exact q.2 y hy
    ·rw [List.mem_singleton.1 hy];unfold okS;omega
   ·rw [List.length_append,List.length_singleton];omega)
  N 0 r1 s1 [] [] (K+1) (by omega) h1 (by omega) (fun _=>rfl) ⟨by simp,fun y hy=>by cases hy⟩ (by simp)
 have e0:((0:Nat):Int)=0:=rfl
 rw [e0] at e2
 refine⟨c,c',r2,s2,?_,?_,h2,fun hf=>m2 (m1 hf),q2,by omega,hc.2⟩
 ·simp only [wD,mq,p1,iM,e1]
 ·simp only [pV,d1,iM,e2]
theorem vT {m n:Nat} (h:n<=1000) (hm:m<=1000):okN m n:=by
 unfold okN
 exact Nat.le_trans (Nat.mul_le_mul h hm) (by decide)
theorem Bl {s:ByteArray} (h:s.size<=1000000):okS s:=by unfold okS;omega
theorem OJ {b:List Int} {r:ir} {s:iK} {K:Nat} (h:Sim b r s K) (hK:5000000<=K) (hK':K<=900000000) (hB:b.length<=1000000) (v v':iy) (hv:v.ok) (h0:v.iA.length=0) (h0':v'.iA.length=0) (he:r.fshort=false->v=v'): ∃c c' r' s' n s1,lj r v=some (r',c)/\jn s=some (n,s1)/\cM (ka n) (0,s1,v')=some (s',c')/\Sim b r' s' (K+1)/\(r.fshort=true->r'.fshort=true)/\(r'.fshort=false->c=c')/\c.ok/\c.il=v.il/\c'.il=v'.il:=by
 obtain⟨n,r1,s1,p1,d1,hv0,hv1,h1,m1,_⟩:=qH h (by omega)
 obtain⟨N,rfl⟩:=Int.eq_ofNat_of_zero_le hv0
 have hN:N<256:=by omega
 obtain⟨r2,s2,c,c',e1,e2,h2,m2,q2,hc,hc'⟩:=yI (b:=b) (N:=N) (M:=4000000) (stP:=kl) (stD:=ka (N:Int)) (fun i s a=>(i,s,a)) (fun s a=>(s,a)) (fun i a=>a.iA.length<=i/\a.ok/\a.il=v.il) (fun i a=>a.iA.length<=i/\a.il=v'.il) hB
  (fun r a=>by simp only [kl];rfl)
  (fun n r a hs=>by simp only [kl,hs];cases decide (0<n)<;>rfl)
  (fun s a=>by simp only [ka];rw [decide_eq_false (by omega)];rfl)
  (fun i s a ho=>by simp only [ka,jt,iM,decide_eq_true ho];cases decide (i<(N:Int))<;>rfl)
  (fun i j a hij q=>⟨by omega,q.2⟩) (fun i j a hij q=>⟨by omega,q.2⟩)
  (fun n i r s a a' hs hS hi q q'=>by
   obtain⟨x,x',r',s',px,dx,hx,mx,ex,zx⟩:=th hS (by omega) hB
   obtain⟨y,y',r'',s'',py,dy,hy,my,ey,zy⟩:=th hx (by omega) hB
   refine⟨r'',s'',{ a with iA:=a.iA++ [⟨x,y⟩] },{ a' with iA:=a'.iA++ [⟨x',y'⟩] },?_,?_,hy.mono (by omega),fun hf e=>?_,⟨?_,?_,q.2.2⟩,⟨?_,q'.2⟩⟩
   ·have hf:dh (a.iA.length+1) 32=true:=nL (by omega)
    simp only [kl,hs,cond_false,tv,vY hs,px,py,iM,hf,cond_true,QN n (by omega)]
    rw [decide_eq_true (by omega),cond_true]
   ·have hf:dh (a'.iA.length+1) 32=true:=nL (by omega)
    simp only [ka,jt,hS.inside hs,dx,dy,iM,hf,cond_true,cond_false,kV (show i<=140737488355328 by omega)]
    rw [decide_eq_true (by omega),cond_true]
   ·rw [ey hf,ex (jO my hf),e]
   ·simp only [List.length_append,List.length_singleton];omega
   ·obtain⟨o1,o2,o3,o4,o5,o6⟩:=q.2.1
    refine⟨o1,o2,o3,⟨vT (by simp only [List.length_append,List.length_singleton];omega) (by omega),fun z hz=>?_⟩,o5,o6⟩
    rcases List.mem_append.1 hz with hz|hz
    ·exact o4.2 z hz
    ·rw [List.mem_singleton.1 hz];exact⟨Bl zx,Bl zy⟩
   ·simp only [List.length_append,List.length_singleton];omega)
  N 0 r1 s1 v v' (K+1) (by omega) h1 (by omega) (fun hf=>he (jO m1 hf)) ⟨by omega,hv,rfl⟩ ⟨by omega,rfl⟩
 refine⟨c,c',r2,s2,_,s1,?_,d1,e2,h2,fun hf=>m2 (m1 hf),q2,hc.2.1,hc.2.2,hc'.2⟩
 simp only [lj,p1,iM,e1]
theorem MD {b:List Int} {r:ir} {s:iK} {K:Nat} (h:Sim b r s K) (hK:5000000<=K) (hK':K<=900000000) (hB:b.length<=1000000) (v v':iy) (hv:v.ok) (h0:v.il.length=0) (h0':v'.il.length=0) (he:r.fshort=false->v=v'): ∃c c' r' s' n s1,lg r v=some (r',c)/\jn s=some (n,s1)/\cM (kb n) (0,s1,v')=some (s',c')/\Sim b r' s' (K+1)/\(r.fshort=true->r'.fshort=true)/\(r'.fshort=false->c=c')/\c.ok:=by
 obtain⟨n,r1,s1,p1,d1,hv0,hv1,h1,m1,_⟩:=qH h (by omega)
 obtain⟨N,rfl⟩:=Int.eq_ofNat_of_zero_le hv0
 have hN:N<256:=by omega
 obtain⟨r2,s2,c,c',e1,e2,h2,m2,q2,hc,hc'⟩:=yI (b:=b) (N:=N) (M:=4000000) (stP:=km) (stD:=kb (N:Int)) (fun i s a=>(i,s,a)) (fun s a=>(s,a)) (fun i a=>a.il.length<=i/\a.ok) (fun i a=>a.il.length<=i) hB
  (fun r a=>by simp only [km];rfl)
  (fun n r a hs=>by simp only [km,hs];cases decide (0<n)<;>rfl)
  (fun s a=>by simp only [kb];rw [decide_eq_false (by omega)];rfl)
  (fun i s a ho=>by simp only [kb,jt,iM,decide_eq_true ho];cases decide (i<(N:Int))<;>rfl)
  (fun i j a hij q=>⟨by omega,q.2⟩) (fun i j a hij q=>by omega)
  (fun n i r s a a' hs hS hi q q'=>by
   obtain⟨x,x',r',s',px,dx,hx,mx,ex,zx⟩:=th hS (by omega) hB
   obtain⟨y,y',r'',s'',py,dy,hy,my,ey⟩:=lL hx (by omega)
   refine⟨r'',s'',{ a with il:=a.il++ [⟨x,y⟩] },{ a' with il:=a'.il++ [⟨x',y'⟩] },?_,?_,hy.mono (by omega),fun hf e=>?_,⟨?_,?_⟩,?_⟩
   ·have hf:dh (a.il.length+1) 24=true:=nL (by omega)
    simp only [km,hs,cond_false,tq,vY hs,px,py,iM,hf,cond_true,QN n (by omega)]
    rw [decide_eq_true (by omega),cond_true]
   ·have hf:dh (a'.il.length+1) 24=true:=nL (by omega)
    simp only [kb,jt,hS.inside hs,dx,dy,iM,hf,cond_true,cond_false,kV (show i<=140737488355328 by omega)]
    rw [decide_eq_true (by omega),cond_true]
   ·rw [ey hf,ex (jO my hf),e]
   ·simp only [List.length_append,List.length_singleton];omega
   ·obtain⟨o1,o2,o3,o4,o5,o6⟩:=q.2
    refine⟨o1,o2,o3,o4,o5,⟨vT (by simp only [List.length_append,List.length_singleton];omega) (by omega),fun z hz=>?_⟩⟩
    rcases List.mem_append.1 hz with hz|hz
    ·exact o6.2 z hz
    ·rw [List.mem_singleton.1 hz];exact⟨Bl zx,rX py⟩
   ·simp only [List.length_append,List.length_singleton];omega)
  N 0 r1 s1 v v' (K+1) (by omega) h1 (by omega) (fun hf=>he (jO m1 hf)) ⟨by omega,hv⟩ (by omega)
 refine⟨c,c',r2,s2,_,s1,?_,d1,e2,h2,fun hf=>m2 (m1 hf),q2,hc.2⟩
 simp only [lg,p1,iM,e1]
theorem OH {b:List Int} {r:ir} {s:iK} {K:Nat} (h:Sim b r s K) (hK:5000000<=K) (hK':K<=800000000) (hB:b.length<=1000000): ∃v v' r' s',xH r=some (v,r')/\mm s=some (v',s')/\Sim b r' s' (K+1000400)/\(r.fshort=true->r'.fshort=true)/\(r'.fshort=false->v=v')/\v.ok:=by
 obtain⟨k,r1,s1,p1,d1,k0,k1,h1,m1,_⟩:=qH h (by omega)
 obtain⟨t,t',r2,s2,p2,d2,h2,m2,e2,z2⟩:=th h1 (by omega) hB
 obtain⟨c,c',r3,s3,p3,d3,h3,m3,e3⟩:=lL h2 (by omega)
 have o0:(⟨k,t,c,[],[],[]⟩:iy).ok:=⟨Lw k0 k1,Bl z2,rX p3,⟨vT (by simp) (by omega),fun y hy=>by cases hy⟩,⟨vT (by simp) (by omega),fun y hy=>by cases hy⟩,⟨vT (by simp) (by omega),fun y hy=>by cases hy⟩⟩
 obtain⟨v4,v4',r4,s4,n4,s4',p4,d4,l4,h4,m4,e4,o4,f4,f4'⟩:=OJ h3 (by omega) (by omega) hB ⟨k,t,c,[],[],[]⟩ ⟨k,t',c',[],[],[]⟩ o0 rfl rfl (fun hf=>by rw [e3 hf,e2 (jO m3 hf)])
 obtain⟨l,l',r5,s5,p5,d5,h5,m5,e5,z5,y5⟩:=FR h4 (by omega) (by omega) hB
 have o5:(⟨v4.bt,v4.iq,v4.iF,v4.iA,l,v4.il⟩:iy).ok:=⟨o4.1,o4.2.1,o4.2.2.1,o4.2.2.2.1,⟨vT (n:=l.length) (by omega) (by omega),y5⟩,o4.2.2.2.2.2⟩
 obtain⟨v6,v6',r6,s6,n6,s6',p6,d6,l6,h6,m6,e6,o6⟩:=MD h5 (by omega) (by omega) hB ⟨v4.bt,v4.iq,v4.iF,v4.iA,l,v4.il⟩ ⟨v4'.bt,v4'.iq,v4'.iF,v4'.iA,l',v4'.il⟩ o5 (by simp [f4]) (by simp [f4']) (fun hf=>by rw [e5 hf,e4 (jO m5 hf)])
 refine⟨v6,v6',r6,s6,?_,?_,h6.mono (by omega),fun hf=>m6 (m5 (m4 (m3 (m2 (m1 hf))))),e6,o6⟩
 ·simp only [xH,p1,p2,p3,p4,p5,p6,iM]
 ·simp only [mm,si,d1,d2,d3,d4,l4,d5,d6,l6,iM]
theorem Lz {b:List Int} {r:ir} {s:iK} {K:Nat} (h:Sim b r s K) (hK:20000000<=K) (hK':K<=700000000) (hB:b.length<=1000000) (v v':iv) (hv:v.ok) (h0:v.af.bi.length=0) (h0':v'.af.bi.length=0) (he:r.fshort=false->v=v'): ∃c c' r' s' n s1,kv r v=some (r',c)/\jn s=some (n,s1)/\cM (lk n) (0,s1,v')=some (s',c')/\Sim b r' s' (K+1)/\(r.fshort=true->r'.fshort=true)/\(r'.fshort=false->c=c')/\c.ok/\c.bz=v.bz/\c'.bz=v'.bz:=by
 obtain⟨n,r1,s1,p1,d1,hv0,hv1,h1,m1,_⟩:=qH h (by omega)
 obtain⟨N,rfl⟩:=Int.eq_ofNat_of_zero_le hv0
 have hN:N<256:=by omega
 obtain⟨r2,s2,c,c',e1,e2,h2,m2,q2,hc,hc'⟩:=yI (b:=b) (N:=N) (M:=12000000) (stP:=jI) (stD:=lk (N:Int)) (fun i s a=>(i,s,a)) (fun s a=>(s,a)) (fun i a=>a.af.bi.length<=i/\a.ok/\a.bz=v.bz) (fun i a=>a.af.bi.length<=i/\a.bz=v'.bz) hB
  (fun r a=>by simp only [jI];rfl)
  (fun n r a hs=>by simp only [jI,hs];cases decide (0<n)<;>rfl)
  (fun s a=>by simp only [lk];rw [decide_eq_false (by omega)];rfl)
  (fun i s a ho=>by simp only [lk,jt,iM,decide_eq_true ho];cases decide (i<(N:Int))<;>rfl)
  (fun i j a hij q=>⟨by omega,q.2⟩) (fun i j a hij q=>⟨by omega,q.2⟩)
  (fun n i r s a a' hs hS hi q q'=>by
   obtain⟨x,x',ra,sa,px,dx,hx,mx,ex,zx⟩:=th hS (by omega) hB
   obtain⟨y,y',rb,sb,py,dy,hy,my,ey,oy⟩:=OH (hx.mono (show _<=6000000 by omega)) (by omega) (by omega) hB
   obtain⟨z,z',rc,sc,pz,dz,hz,mz,ez⟩:=lL hy (by omega)
   refine⟨rc,sc,{ a with af:={ a.af with bi:=a.af.bi++ [⟨x,y,z⟩] } },{ a' with af:={ a'.af with bi:=a'.af.bi++ [⟨x',y',z'⟩] } },?_,?_,hz.mono (by omega),fun hf e=>?_,⟨?_,?_,q.2.2⟩,⟨?_,q'.2⟩⟩
   ·have hf:dh (a.af.bi.length+1) 128=true:=nL (by omega)
    simp only [jI,hs,cond_false,oq,vY hs,px,py,pz,iM,hf,cond_true,QN n (by omega)]
    rw [decide_eq_true (by omega),cond_true]
   ·have hf:dh (a'.af.bi.length+1) 128=true:=nL (by omega)
    simp only [lk,jt,hS.inside hs,dx,dy,dz,iM,hf,cond_true,cond_false,kV (show i<=140737488355328 by omega)]
    rw [decide_eq_true (by omega),cond_true]
   ·have hb:=jO mz hf
    rw [ez hf,ey hb,ex (jO my hb),e]
   ·simp only [List.length_append,List.length_singleton];omega
   ·obtain⟨⟨o1,o2⟩,o3,o4⟩:=q.2.1
    refine⟨⟨o1,⟨vT (by simp only [List.length_append,List.length_singleton];omega) (by omega),fun w hw=>?_⟩⟩,o3,o4⟩
    rcases List.mem_append.1 hw with hw|hw
    ·exact o2.2 w hw
    ·rw [List.mem_singleton.1 hw];exact⟨Bl zx,oy,rX pz⟩
   ·simp only [List.length_append,List.length_singleton];omega)
  N 0 r1 s1 v v' (K+1) (by omega) h1 (by omega) (fun hf=>he (jO m1 hf)) ⟨by omega,hv,rfl⟩ ⟨by omega,rfl⟩
 refine⟨c,c',r2,s2,_,s1,?_,d1,e2,h2,fun hf=>m2 (m1 hf),q2,hc.2.1,hc.2.2,hc'.2⟩
 simp only [kv,p1,iM,e1]
theorem Lh {b:List Int} {r:ir} {s:iK} {K:Nat} (h:Sim b r s K) (hK:20000000<=K) (hK':K<=700000000) (hB:b.length<=1000000) (v v':iv) (hv:v.ok) (h0:v.bz.length=0) (h0':v'.bz.length=0) (he:r.fshort=false->v=v'): ∃c c' r' s' n s1,kw r v=some (r',c)/\jn s=some (n,s1)/\cM (lm n) (0,s1,v')=some (s',c')/\Sim b r' s' (K+1)/\(r.fshort=true->r'.fshort=true)/\(r'.fshort=false->c=c')/\c.ok:=by
 obtain⟨n,r1,s1,p1,d1,hv0,hv1,h1,m1,_⟩:=qH h (by omega)
 obtain⟨N,rfl⟩:=Int.eq_ofNat_of_zero_le hv0
 have hN:N<256:=by omega
 obtain⟨r2,s2,c,c',e1,e2,h2,m2,q2,hc,hc'⟩:=yI (b:=b) (N:=N) (M:=12000000) (stP:=jK) (stD:=lm (N:Int)) (fun i s a=>(i,s,a)) (fun s a=>(s,a)) (fun i a=>a.bz.length<=i/\a.ok) (fun i a=>a.bz.length<=i) hB
  (fun r a=>by simp only [jK];rfl)
  (fun n r a hs=>by simp only [jK,hs];cases decide (0<n)<;>rfl)
  (fun s a=>by simp only [lm];rw [decide_eq_false (by omega)];rfl)
  (fun i s a ho=>by simp only [lm,jt,iM,decide_eq_true ho];cases decide (i<(N:Int))<;>rfl)
  (fun i j a hij q=>⟨by omega,q.2⟩) (fun i j a hij q=>by omega)
  (fun n i r s a a' hs hS hi q q'=>by
   obtain⟨x1,x1',ra,sa,pa,da,ha,ma,ea⟩:=lL hS (by omega)
   obtain⟨x2,x2',rb,sb,pb,db,hb,mb,eb⟩:=lL ha (by omega)
   obtain⟨x3,x3',rc,sc,pc,dc,hc,mc,ec⟩:=lL hb (by omega)
   obtain⟨x4,rd,sd,pd,dd,k0,k1,hd,md,_⟩:=qH hc (by omega)
   obtain⟨x5,x5',re,se,pe,de,hE,me,ee,ze⟩:=th hd (by omega) hB
   obtain⟨x6,x6',rf,sf,pf,df,hF,mf,ef⟩:=lL hE (by omega)
   obtain⟨x7,x7',rg,sg,pg,dg,hG,mg,eg,zg,yg⟩:=FR (hF.mono (show _<=6000000 by omega)) (by omega) (by omega) hB
   refine⟨rg,sg,{ a with bz:=a.bz++ [⟨x1,x2,x3,⟨x4,x5,x6,x7⟩⟩] },{ a' with bz:=a'.bz++ [⟨x1',x2',x3',⟨x4,x5',x6',x7'⟩⟩] },?_,?_,hG.mono (by omega),fun h7 e=>?_,⟨?_,?_⟩,?_⟩
   ·have hf:dh (a.bz.length+1) 80=true:=nL (by omega)
    simp only [jK,hs,cond_false,oc,sR,vY hs,pa,pb,pc,pd,pe,pf,pg,iM,hf,cond_true,QN n (by omega)]
    rw [decide_eq_true (by omega),cond_true]
   ·have hf:dh (a'.bz.length+1) 80=true:=nL (by omega)
    simp only [lm,sk,jt,hS.inside hs,da,db,dc,dd,de,df,dg,iM,hf,cond_true,cond_false,kV (show i<=140737488355328 by omega)]
    rw [decide_eq_true (by omega),cond_true]
   ·have h6:=jO mg h7
    have h5:=jO mf h6
    have h4:=jO me h5
    have h3:=jO md h4
    have h2:=jO mc h3
    rw [eg h7,ef h6,ee h5,ec h3,eb h2,ea (jO mb h2),e]
   ·simp only [List.length_append,List.length_singleton];omega
   ·obtain⟨o1,o2,o3⟩:=q.2
    refine⟨o1,o2,⟨vT (by simp only [List.length_append,List.length_singleton];omega) (by omega),fun w hw=>?_⟩⟩
    rcases List.mem_append.1 hw with hw|hw
    ·exact o3.2 w hw
    ·rw [List.mem_singleton.1 hw];exact⟨rX pa,rX pb,rX pc,Lw k0 k1,Bl ze,rX pf,⟨vT (n:=x7.length) (by omega) (by omega),yg⟩⟩
   ·simp only [List.length_append,List.length_singleton];omega)
  N 0 r1 s1 v v' (K+1) (by omega) h1 (by omega) (fun hf=>he (jO m1 hf)) ⟨by omega,hv⟩ (by omega)
 refine⟨c,c',r2,s2,_,s1,?_,d1,e2,h2,fun hf=>m2 (m1 hf),q2,hc.2⟩
 simp only [kw,p1,iM,e1]
theorem Jw {n:Int} (h:okI n):(⟨⟨n,[]⟩,0,[]⟩:iv).ok:=⟨⟨h,⟨vT (by simp) (by omega),fun y hy=>by cases hy⟩⟩,(show okI 0 by unfold okI;omega),⟨vT (by simp) (by omega),fun y hy=>by cases hy⟩⟩
theorem Og (l:List Int) (hb:mK l): ∃m e,ns l=some (m,e)/\rq l=some (m,e)/\m.ok:=by
 have z0:(⟨⟨0,[]⟩,0,[]⟩:iv).ok:=Jw (by unfold okI;omega)
 unfold ns rq
 by_cases hl:(20000:Int)<(l.length:Int)
 ·rw [decide_eq_true hl]
  exact⟨_,_,rfl,rfl,z0⟩
 ·rw [decide_eq_false hl]
  have hf:dh l.length 1=true:=nL (by omega)
  have h0:Sim l ⟨l,false⟩ ⟨l,((0:Nat):Int)⟩ 20000000:=⟨hb,rfl,0,rfl,by omega,fun _=>⟨by omega,rfl⟩,fun h=>(by cases h)⟩
  obtain⟨a,a',r1,s1,p1,d1,h1,m1,e1⟩:=lL h0 (by omega)
  have d1':js ⟨l,0⟩=some (a',s1):=d1
  obtain⟨b,b',r2,s2,n2,s2',p2,d2,l2,h2,m2,e2,o2,f2,f2'⟩:=Lz h1 (by omega) (by omega) (by omega) ⟨⟨a,[]⟩,0,[]⟩ ⟨⟨a',[]⟩,0,[]⟩ (Jw (rX p1)) rfl rfl (fun hf=>by rw [e1 hf])
  obtain⟨c,c',r3,s3,p3,d3,h3,m3,e3⟩:=lL h2 (by omega)
  obtain⟨d,d',r4,s4,n4,s4',p4,d4,l4,h4,m4,e4,o4⟩:=Lh h3 (by omega) (by omega) (by omega) ⟨b.af,c,b.bz⟩ ⟨b'.af,c',b'.bz⟩ ⟨o2.1,rX p3,o2.2.2⟩ (by simp [f2]) (by simp [f2']) (fun hf=>by rw [e3 hf,e2 (jO m3 hf)])
  simp only [cond_false,qK,hf,cond_true,iM,p1,d1',vP,p2,d2,l2,p3,p4,vV,d3,d4,l4,wh]
  obtain⟨_,hfb,k,ha,hk,hok,hsh⟩:=h4
  obtain⟨b4,at_⟩:=s4
  simp only at hfb ha
  subst hfb ha
  unfold Ct rE jt
  cases hs:r4.fshort with
  |true=>
   have:=hsh hs
   simp only [iM,cond_true]
   rw [decide_eq_true (by omega)]
   exact⟨_,_,rfl,rfl,z0⟩
  |false=>
   obtain⟨g1,g2⟩:=hok hs
   obtain rfl:=e4 hs
   have hov:decide ((b4.length:Int)<(k:Int))=false:=decide_eq_false (by omega)
   have hr:r4.frest.length=b4.length-k:=by rw [g2,List.length_drop]
   simp only [iM,cond_false,cond_true,hov]
   by_cases he:k<b4.length
   ·rw [decide_eq_true (show (0:Int)<(r4.frest.length:Int) by omega),decide_eq_true (show (k:Int)<(b4.length:Int) by omega)]
    exact⟨_,_,rfl,rfl,z0⟩
   ·rw [decide_eq_false (show ¬(0:Int)<(r4.frest.length:Int) by omega),decide_eq_false (show ¬(k:Int)<(b4.length:Int) by omega)]
    simp only [iM,cond_false,beq_self_eq_true,cond_true,po,Q6 d o4,QA d o4]
    cases JT d with
    |true=>exact⟨_,_,rfl,rfl,o4⟩
    |false=>exact⟨_,_,rfl,rfl,z0⟩
theorem vN {α R:Type} {step:Int->Option (Int⊕R)} (l:List α) (e:R) (hs: ∀(i:Nat) x,l[i]? =some x->step i=some (.inl ((i+1:Nat):Int))) (he:step l.length=some (.inr e)):cM step 0=some e:=by
 have key: ∀(k i:Nat),i+k=l.length->cM step (i:Int)=some e:=by
  intro k
  induction k with
  |zero=>
   intro i hi
   have:i=l.length:=by omega
   subst this
   exact jX he
  |succ k ih=>
   intro i hi
   exact (pL (hs i l[i] (List.getElem?_eq_getElem (by omega)))).trans (ih (i+1) (by omega))
 exact key l.length 0 (by omega)
theorem C8 (l:List ByteArray) (hl:l.length<=140737488351232):pU l l=some true:=by
 unfold pU
 rw [beq_self_eq_true,cond_true,vN l (.inr ()) (fun i x hx=>by
  simp only [pw,ltN (jp hx),cond_true,jD hx,iM,pH,kV (show i<=140737488355328 by have:=jp hx;omega)]) (by simp only [pw,geN (Nat.le_refl _),cond_false]),iM]
theorem BW {m n:Nat} (h:okN m n) (hm:1<=m):n<=140737488351232:=by
 unfold okN at h
 exact Nat.le_trans (Nat.le_mul_of_pos_right n hm) h
theorem ML (v:iy) (ok:v.ok):rB v v=some true:=by
 obtain⟨_,_,_,o4,o5,o6⟩:=ok
 have h4:=BW o4.1 (by omega)
 have h6:=BW o6.1 (by omega)
 have h:oD v v=some false:=by
  simp only [oD,beq_self_eq_true,pH,cond_true,C8 _ (BW o5.1 (by omega)),iM,Bool.not_true]
 simp only [rB,wb,h,iM,cond_false]
 rw [vN v.iA (.inr ()) (fun i x hx=>by
  simp only [pS,ltN (jp hx),cond_true,jD hx,iM,pH,kV (show i<=140737488355328 by have:=jp hx;omega)]) (by simp only [pS,geN (Nat.le_refl _),cond_false]),iM]
 simp only
 rw [vN v.il (.inr ()) (fun i x hx=>by
  simp only [pq,ltN (jp hx),cond_true,jD hx,iM,pH,beq_self_eq_true,kV (show i<=140737488355328 by have:=jp hx;omega)]) (by simp only [pq,geN (Nat.le_refl _),cond_false]),iM]
theorem LJ (s:iN) (ok:s.ok):rF s s=some true:=by
 have h2:=BW ok.2.1 (by omega)
 simp only [rF,beq_self_eq_true,cond_true]
 rw [vN s.bi (.inr ()) (fun i x hx=>by
  have hk:ng s s (i:Int) x x=some false:=by
   simp only [ng,pH,beq_self_eq_true,cond_true,ML _ (ok.2.2 x (List.mem_of_getElem? hx)).2.1,iM,Bool.not_true]
  simp only [pI,ltN (jp hx),cond_true,cond_false,jD hx,iM,hk,kV (show i<=140737488355328 by have:=jp hx;omega)]) (by simp only [pI,geN (Nat.le_refl _),cond_false]),iM]
theorem LV (r:jf) (ok:r.ok):rA r r=some true:=by
 simp only [rA,qZ,beq_self_eq_true,pH,cond_true,C8 _ (BW ok.2.2.2.1 (by omega)),iM]
theorem Jj (m:iv) (ok:m.ok):oM m m=some true:=by
 obtain⟨o1,_,o3⟩:=ok
 have h3:=BW o3.1 (by omega)
 have h:nc m m=some false:=by
  simp only [nc,beq_self_eq_true,cond_true,LJ _ o1,iM,Bool.not_true]
 simp only [oM,h,iM,cond_false]
 rw [vN m.bz (.inr ()) (fun i x hx=>by
  have hk:mi m m (i:Int) x x=some false:=by
   simp only [mi,beq_self_eq_true,cond_true,LV _ (o3.2 x (List.mem_of_getElem? hx)).2.2.2,iM,Bool.not_true]
  simp only [nJ,ltN (jp hx),cond_true,cond_false,jD hx,iM,hk,kV (show i<=140737488355328 by have:=jp hx;omega)]) (by simp only [nJ,geN (Nat.le_refl _),cond_false]),iM]
theorem Oy (s:i5):nr s=np s:=by
 unfold nr np lW lV
 cases (s.iT==0)<;>cases (s.iI==0)<;>cases (s.iu.iG==0)<;>cases ((s.iu.bz.length:Int)==0)<;>cases (s.iu.af.iL==0)<;>cases ((s.iu.af.bi.length:Int)==0)<;>rfl
theorem UY (r:iw):mn r=kD r:=by
 simp only [mn,qQ,qX,qP,qU,kD,oN,oT,oV,oP,Oy]
theorem zv (n:Int):oZ n=jz n:=rfl
theorem UR (r:iw):(bif mj r then some (2:Int) else some 0)=bif jz r.iI then bif decide (-1<=r.lz) then bif decide (r.lz<=2) then some 0 else some 2 else some 2 else some 2:=by
 unfold mj
 rw [zv]
 cases jz r.iI with
 |false=>rfl
 |true=>
  by_cases h1:r.lz< -1
  ·rw [decide_eq_true h1,decide_eq_false (show ¬-1<=r.lz by omega)];rfl
  ·rw [decide_eq_false h1,decide_eq_true (show-1<=r.lz by omega)]
   by_cases h2:3<=r.lz
   ·rw [decide_eq_true h2,decide_eq_false (show ¬r.lz<=2 by omega)];rfl
   ·rw [decide_eq_false h2,decide_eq_true (show r.lz<=2 by omega)];rfl
theorem Uf (s:i5) (ok:s.ok): ∃n,nH s=some n/\rD s=some n:=by
 unfold nH rD
 rw [zv,zv,Q6 _ ok.2.2,QA _ ok.2.2]
 cases jz s.iT with
 |false=>exact⟨_,rfl,rfl⟩
 |true=>
  cases jz s.iI with
  |false=>exact⟨_,rfl,rfl⟩
  |true=>exact⟨_,rfl,rfl⟩
theorem B5 (r:iw) (ok:r.iH.ok): ∃n,mr r=some n/\mA r=some n:=by
 obtain⟨n,e1,e2⟩:=Uf r.iH ok
 unfold mr wU mA ug
 rw [UY,UR,e1,e2,iM,NM,zv]
 by_cases h1:r.bt<1
 ·rw [decide_eq_true h1,decide_eq_false (show ¬1<=r.bt by omega)];exact⟨_,rfl,rfl⟩
 rw [decide_eq_false h1,decide_eq_true (show 1<=r.bt by omega)]
 by_cases h2:3<r.bt
 ·rw [decide_eq_true h2,decide_eq_false (show ¬r.bt<=3 by omega)];exact⟨_,rfl,rfl⟩
 rw [decide_eq_false h2,decide_eq_true (show r.bt<=3 by omega)]
 cases kD r with
 |true=>exact⟨_,rfl,rfl⟩
 |false=>
  simp only [cond_true,cond_false]
  have h3:r.bt=1∨r.bt=2∨r.bt=3:=by omega
  rcases h3 with h|h|h<;>rw [h]
  ·simp only [beq_self_eq_true,cond_true,show ((1:Int)==3)=false from rfl,cond_false]
   cases jz r.iI with
   |false=>exact⟨_,rfl,rfl⟩
   |true=>
    cases decide (-1<=r.lz) with
    |false=>exact⟨_,rfl,rfl⟩
    |true=>cases decide (r.lz<=2)<;>exact⟨_,rfl,rfl⟩
  ·simp only [beq_self_eq_true,cond_true,show ((2:Int)==1)=false from rfl,show ((2:Int)==3)=false from rfl,cond_false]
   cases jz r.iT<;>exact⟨_,rfl,rfl⟩
  ·simp only [beq_self_eq_true,cond_true,show ((3:Int)==1)=false from rfl,show ((3:Int)==2)=false from rfl,cond_false]
   exact⟨_,rfl,rfl⟩
theorem Q9 (a b k:Nat) (hk:k<=32) (hb:b<2 ^ k) (h:a*2 ^ k+b<9223372036854775808):IntKind.i64.wrap (BitVec.ofInt IntKind.i64.bits (((a*2 ^ k:Nat):Int))|||BitVec.ofInt IntKind.i64.bits (b:Int)).toNat=((a*2 ^ k+b:Nat):Int):=by
 have e:(BitVec.ofInt IntKind.i64.bits ((a*2 ^ k:Nat):Int)|||BitVec.ofInt IntKind.i64.bits (b:Int)).toNat=a*2 ^ k+b:=by
  show (BitVec.ofInt 64 ((a*2 ^ k:Nat):Int)|||BitVec.ofInt 64 (b:Int)).toNat=a*2 ^ k+b
  rw [BitVec.toNat_or,BitVec.ofInt_natCast,BitVec.ofInt_natCast,BitVec.toNat_ofNat,BitVec.toNat_ofNat,Nat.mod_eq_of_lt (by omega),Nat.mod_eq_of_lt (by omega)]
  have:=Nat.shiftLeft_add_eq_or_of_lt (b:=b) (i:=k) hb a
  rw [Nat.shiftLeft_eq] at this
  exact this.symm
 rw [e,ls]<;>omega
theorem uy {x:Int} (h:0<=x/\x<256):IntKind.i64.wrap x=x:=by rw [ls]<;>omega
theorem Uq (l:List Int) (x y z:Int) (hx:0<=x/\x<256) (hy:0<=y/\y<256) (hz:0<=z/\z<256) (h0:l[0]? =some x) (h1:l[1]? =some y) (h2:l[2]? =some z):kx l=some (65536*x+256*y+z):=by
 have i0:idx l 0=some x:=jD (i:=0) h0
 have i1:idx l 1=some y:=jD (i:=1) h1
 have i2:idx l 2=some z:=jD (i:=2) h2
 unfold kx
 rw [i0,iM,i1,iM,i2,iM,uy hx,uy hy,uy hz]
 obtain⟨a,rfl⟩:=Int.eq_ofNat_of_zero_le hx.1
 obtain⟨b,rfl⟩:=Int.eq_ofNat_of_zero_le hy.1
 obtain⟨c,rfl⟩:=Int.eq_ofNat_of_zero_le hz.1
 have e1:(2:Int) ^ (min (16:Int).toNat IntKind.i64.bits)=65536:=by decide
 have e2:(2:Int) ^ (min (8:Int).toNat IntKind.i64.bits)=256:=by decide
 rw [e1,e2]
 have w1:IntKind.i64.wrap ((a:Int)*65536)=((a*2 ^ 16:Nat):Int):=by rw [ls]<;>omega
 have w2:IntKind.i64.wrap ((b:Int)*256)=((b*256:Nat):Int):=by rw [ls]<;>omega
 rw [w1,w2,Q9 a (b*256) 16 (by omega) (by omega) (by omega)]
 have w3:a*2 ^ 16+b*256=(a*256+b)*2 ^ 8:=by omega
 rw [w3,Q9 (a*256+b) c 8 (by omega) (by omega) (by omega)]
 exact congrArg some (by omega)
theorem So (l:List Int) (i:Nat) (x y z:Int) (hi:i<=1000000) (hx:0<=x/\x<256) (hy:0<=y/\y<256) (hz:0<=z/\z<256) (h0:l[i]? =some x) (h1:l[i+1]? =some y) (h2:l[i+2]? =some z):kF l (i:Int)=some (65536*x+256*y+z):=by
 unfold kF
 have w1:IntKind.i64.wrap ((i:Int)+1)=((i+1:Nat):Int):=by rw [ls]<;>omega
 have w2:IntKind.i64.wrap ((i:Int)+2)=((i+2:Nat):Int):=by rw [ls]<;>omega
 rw [jD h0,iM,w1,jD h1,iM,w2,jD h2,iM,uy hx,uy hy,uy hz]
 refine congrArg some ?_
 rw [ls (n:=65536*x) (by omega) (by omega),ls (n:=256*y) (by omega) (by omega),ls (n:=65536*x+256*y) (by omega) (by omega),ls (by omega) (by omega)]
theorem xA (l:List Int) (i:Nat):dm l (i:Int) (l.length:Int)=l.drop i:=by
 simp only [dm,Int.toNat_natCast,List.take_length]
theorem DA (l:List Int) (hb:mK l) (i:Nat) (hi:i+3<=l.length) (hl:l.length<=1000000): ∃n:Nat,n<16777216/\kx (l.drop i)=some (n:Int)/\kF l (i:Int)=some (n:Int):=by
 have h0:l[i]? =some l[i]:=List.getElem?_eq_getElem (by omega)
 have h1:l[i+1]? =some l[i+1]:=List.getElem?_eq_getElem (by omega)
 have h2:l[i+2]? =some l[i+2]:=List.getElem?_eq_getElem (by omega)
 have b0:=hb _ (List.mem_of_getElem? h0)
 have b1:=hb _ (List.mem_of_getElem? h1)
 have b2:=hb _ (List.mem_of_getElem? h2)
 obtain⟨n,hn⟩:=Int.eq_ofNat_of_zero_le (show 0<=65536*l[i]+256*l[i+1]+l[i+2] by omega)
 refine⟨n,by omega,?_,?_⟩
 ·rw [Uq (l.drop i) l[i] l[i+1] l[i+2] b0 b1 b2 (by rw [List.getElem?_drop];exact h0) (by rw [List.getElem?_drop];exact h1) (by rw [List.getElem?_drop];exact h2),hn]
 ·rw [So l i l[i] l[i+1] l[i+2] (by omega) b0 b1 b2 h0 h1 h2,hn]
theorem CZ (i n:Nat) (h:i<=n):nB (i:Int) (n:Int) (n:Int)=true:=by unfold nB;simp;omega
theorem Om:(⟨⟨0,[]⟩,0,[]⟩:iv).ok:=Jw (by unfold okI;omega)
theorem xM:(⟨0,0,⟨⟨0,[]⟩,0,[]⟩⟩:i5).ok:=⟨(show okI 0 by unfold okI;omega),(show okI 0 by unfold okI;omega),Om⟩
theorem Mo (b : List Int) (hb : mK b) (hl : b.length <= 1000000) : ∃ r r' q, kp b = some (r, q) /\ mp b = some (r', q) /\ (q = true -> r = r' /\ r.iH.ok) := by
  by_cases h5 : b.length < 5
  . have e1 : ((b.length : Int) == 5) = false := by simp; omega
    have e2 : decide ((4 : Int) < (b.length : Int)) = false := decide_eq_false (by omega)
    have e3 : decide ((7 : Int) < (b.length : Int)) = false := decide_eq_false (by omega)
    have e4 : decide ((b.length : Int) < 5) = true := decide_eq_true (by omega)
    refine ⟨⟨0, 0, 0, 0, ⟨0, 0, false, ⟨0, 0, ⟨0, ByteArray.empty, ByteArray.empty, ByteArray.empty, 0⟩⟩⟩, ⟨0, 0, ⟨⟨0, []⟩, 0, []⟩⟩⟩, ⟨0, 0, 0, 0, ⟨0, 0, false, ⟨0, 0, ⟨0, ByteArray.empty, ByteArray.empty, ByteArray.empty, 0⟩⟩⟩, ⟨0, 0, ⟨⟨0, []⟩, 0, []⟩⟩⟩, false, ?_, ?_, fun h => by cases h⟩
    . simp only [kp, e1, e2, e3, cond_false]
    . simp only [mp, e4, cond_true]
  . have e4 : decide ((b.length : Int) < 5) = false := decide_eq_false (by omega)
    have e2 : decide ((4 : Int) < (b.length : Int)) = true := decide_eq_true (by omega)
    have h0 : b[0]? = some b[0] := List.getElem?_eq_getElem (by omega)
    have i0 : idx b 0 = some b[0] := jD (i := 0) h0
    have b0 := hb _ (List.mem_of_getElem? h0)
    have w0 := uy b0
    generalize b[0] = k at *
    obtain ⟨n1, hn1, v1, f1⟩ := DA b hb 1 (by omega) hl
    have f1' : kF b 1 = some (n1 : Int) := f1
    have s1 : dm b 1 (b.length : Int) = b.drop 1 := xA b 1
    have g1 : nB 1 (b.length : Int) (b.length : Int) = true := CZ 1 _ (by omega)
    have g4 : nB 4 (b.length : Int) (b.length : Int) = true := CZ 4 _ (by omega)
    have s4 : dm b 4 (b.length : Int) = b.drop 4 := xA b 4
    -- a record that is a mark
    by_cases k1 : k = 1
    . subst k1
      have hk0 : decide ((1 : Int) <= 1) = true := rfl
      have hk3 : decide ((1 : Int) <= 3) = true := rfl
      have i4 : idx b 4 = some b[4] := jD (i := 4) (List.getElem?_eq_getElem (by omega))
      generalize b[4] = m at *
      have he := B5 ⟨1, n1, IntKind.i64.wrap (IntKind.i64.wrap m - 1), 0, ⟨0, 0, false, ⟨0, 0, ⟨0, ByteArray.empty, ByteArray.empty, ByteArray.empty, 0⟩⟩⟩, ⟨0, 0, ⟨⟨0, []⟩, 0, []⟩⟩⟩ xM
      obtain ⟨n, e5, e6⟩ := he
      by_cases hl5 : b.length = 5
      . have c5 : ((b.length : Int) == 5) = true := by simp; omega
        refine ⟨⟨1, n1, IntKind.i64.wrap (IntKind.i64.wrap m - 1), 0, ⟨0, 0, false, ⟨0, 0, ⟨0, ByteArray.empty, ByteArray.empty, ByteArray.empty, 0⟩⟩⟩, ⟨0, 0, ⟨⟨0, []⟩, 0, []⟩⟩⟩, ⟨1, n1, IntKind.i64.wrap (IntKind.i64.wrap m - 1), 0, ⟨0, 0, false, ⟨0, 0, ⟨0, ByteArray.empty, ByteArray.empty, ByteArray.empty, 0⟩⟩⟩, ⟨0, 0, ⟨⟨0, []⟩, 0, []⟩⟩⟩, (n == 0), ?_, ?_, fun _ => ⟨rfl, xM⟩⟩
        rotate_left
        . simp only [mp, e4, cond_false, i0, iM, nq, w0, hk0, hk3, cond_true, beq_self_eq_true, f1', i4, c5, e6]
        . simp only [kp, c5, cond_true, pC, i0, iM, beq_self_eq_true, wg, g1, s1, v1, i4, e5]
      . have c5 : ((b.length : Int) == 5) = false := by simp; omega
        have k2 : ((1 : Int) == 2) = false := rfl
        have k3 : ((1 : Int) == 3) = false := rfl
        refine ⟨⟨0, 0, 0, 0, ⟨0, 0, false, ⟨0, 0, ⟨0, ByteArray.empty, ByteArray.empty, ByteArray.empty, 0⟩⟩⟩, ⟨0, 0, ⟨⟨0, []⟩, 0, []⟩⟩⟩, ⟨1, n1, IntKind.i64.wrap (IntKind.i64.wrap m - 1), 0, ⟨0, 0, false, ⟨0, 0, ⟨0, ByteArray.empty, ByteArray.empty, ByteArray.empty, 0⟩⟩⟩, ⟨0, 0, ⟨⟨0, []⟩, 0, []⟩⟩⟩, false, ?_, ?_, fun h => by cases h⟩
        rotate_left
        . simp only [mp, e4, cond_false, i0, iM, nq, w0, hk0, hk3, cond_true, beq_self_eq_true, f1', i4, c5]
        . simp only [kp, c5, cond_false, e2, cond_true, nI, i0, iM, k2, k3]
          cases decide ((7 : Int) < (b.length : Int)) <;> rfl
    . have k1' : (k == 1) = false := by simpa using k1
      by_cases k2 : k = 2
      . -- a line
        subst k2
        obtain ⟨x, e, p, d⟩ := Mn (b.drop 4) (uf hb 4)
        obtain ⟨n, e5, e6⟩ := B5 ⟨2, 0, 0, n1, x, ⟨0, 0, ⟨⟨0, []⟩, 0, []⟩⟩⟩ xM
        have hk0 : decide ((1 : Int) <= 2) = true := rfl
        have hk3 : decide ((2 : Int) <= 3) = true := rfl
        have hP : ∃ r q, kp b = some (r, q) /\ r = ⟨2, 0, 0, n1, x, ⟨0, 0, ⟨⟨0, []⟩, 0, []⟩⟩⟩ /\ q = bif (e == 0) then (n == 0) else false := by
          refine ⟨_, _, ?_, rfl, rfl⟩
          cases c5 : ((b.length : Int) == 5) with
          | true =>
            simp only [kp, c5, cond_true, pC, i0, iM, k1', cond_false, e2, rG, beq_self_eq_true, v8, g1, s1, v1, g4, s4, p]
            cases (e == 0) with
            | true => simp only [cond_true, e5, iM]
            | false => rfl
          | false =>
            simp only [kp, c5, cond_false, e2, cond_true, nI, i0, iM, beq_self_eq_true, wk, g1, s1, v1, g4, s4, p]
            cases (e == 0) with
            | true => simp only [cond_true, e5, iM]
            | false => rfl
        obtain ⟨r, q, hp, hr, hq⟩ := hP
        refine ⟨r, ⟨2, 0, 0, n1, x, ⟨0, 0, ⟨⟨0, []⟩, 0, []⟩⟩⟩, q, hp, ?_, fun _ => ⟨hr, by rw [hr]; exact xM⟩⟩
        have k1f : ((2 : Int) == 1) = false := rfl
        rw [hq]
        simp only [mp, e4, cond_false, i0, iM, nq, w0, hk0, hk3, cond_true, k1f, sx, beq_self_eq_true, g4, s4, d, f1']
        cases (e == 0) with
        | true => simp only [cond_true, e6, iM]
        | false => rfl
      . have k2' : (k == 2) = false := by simpa using k2
        by_cases k3 : k = 3
        . subst k3
          have hk0 : decide ((1 : Int) <= 3) = true := rfl
          have hk3 : decide ((3 : Int) <= 3) = true := rfl
          have k1f : ((3 : Int) == 1) = false := rfl
          have k2f : ((3 : Int) == 2) = false := rfl
          by_cases h8 : b.length < 8
          . have e7 : decide ((7 : Int) < (b.length : Int)) = false := decide_eq_false (by omega)
            have e8 : decide ((b.length : Int) < 8) = true := decide_eq_true (by omega)
            refine ⟨⟨0, 0, 0, 0, ⟨0, 0, false, ⟨0, 0, ⟨0, ByteArray.empty, ByteArray.empty, ByteArray.empty, 0⟩⟩⟩, ⟨0, 0, ⟨⟨0, []⟩, 0, []⟩⟩⟩, ⟨3, 0, 0, 0, ⟨0, 0, false, ⟨0, 0, ⟨0, ByteArray.empty, ByteArray.empty, ByteArray.empty, 0⟩⟩⟩, ⟨0, 0, ⟨⟨0, []⟩, 0, []⟩⟩⟩, false, ?_, ?_, fun h => by cases h⟩
            rotate_left
            . simp only [mp, e4, cond_false, i0, iM, nq, w0, hk0, hk3, cond_true, k1f, sx, k2f, uK, e8]
            . cases c5 : ((b.length : Int) == 5) with
              | true => simp only [kp, c5, cond_true, pC, i0, iM, k1f, cond_false, e2, rG, k2f, e7]
              | false => simp only [kp, c5, cond_true, nI, i0, iM, cond_false, e2, k2f, e7]
          . have e7 : decide ((7 : Int) < (b.length : Int)) = true := decide_eq_true (by omega)
            have e8 : decide ((b.length : Int) < 8) = false := decide_eq_false (by omega)
            have c5 : ((b.length : Int) == 5) = false := by simp; omega
            obtain ⟨n4, hn4, v4, f4⟩ := DA b hb 4 (by omega) hl
            have f4' : kF b 4 = some (n4 : Int) := f4
            have g7 : nB 7 (b.length : Int) (b.length : Int) = true := CZ 7 _ (by omega)
            have s7 : dm b 7 (b.length : Int) = b.drop 7 := xA b 7
            obtain ⟨m, e, p, d, om⟩ := Og (b.drop 7) (uf hb 7)
            obtain ⟨n, e5, e6⟩ := B5 ⟨3, 0, 0, 0, ⟨0, 0, false, ⟨0, 0, ⟨0, ByteArray.empty, ByteArray.empty, ByteArray.empty, 0⟩⟩⟩, ⟨n1, n4, m⟩⟩ ⟨(show okI (n1 : Int) by unfold okI; omega), (show okI (n4 : Int) by unfold okI; omega), om⟩
            refine ⟨⟨3, 0, 0, 0, ⟨0, 0, false, ⟨0, 0, ⟨0, ByteArray.empty, ByteArray.empty, ByteArray.empty, 0⟩⟩⟩, ⟨n1, n4, m⟩⟩, ⟨3, 0, 0, 0, ⟨0, 0, false, ⟨0, 0, ⟨0, ByteArray.empty, ByteArray.empty, ByteArray.empty, 0⟩⟩⟩, ⟨n1, n4, m⟩⟩, bif (e == 0) then (n == 0) else false, ?_, ?_, fun _ => ⟨rfl, (show okI (n1 : Int) by unfold okI; omega), (show okI (n4 : Int) by unfold okI; omega), om⟩⟩
            . simp only [kp, c5, cond_true, nI, i0, iM, cond_false, e2, k2f, e7, beq_self_eq_true, g1, v9, s1, v1, g4, s4, v4, g7, s7, p]
              cases (e == 0) with
              | true => simp only [cond_true, e5, iM]
              | false => rfl
            . simp only [mp, e4, cond_false, i0, iM, nq, w0, hk0, hk3, cond_true, k1f, sx, k2f, uK, e8, g7, s7, d, f1', f4']
              cases (e == 0) with
              | true => simp only [cond_true, e6, iM]
              | false => rfl
        . have k3' : (k == 3) = false := by simpa using k3
          have hin : (decide (1 <= k) && decide (k <= 3)) = false := by
            by_cases hk : 1 <= k
            . rw [decide_eq_false (show ¬ k <= 3 by omega)]; simp
            . rw [decide_eq_false hk]; rfl
          refine ⟨⟨0, 0, 0, 0, ⟨0, 0, false, ⟨0, 0, ⟨0, ByteArray.empty, ByteArray.empty, ByteArray.empty, 0⟩⟩⟩, ⟨0, 0, ⟨⟨0, []⟩, 0, []⟩⟩⟩, ⟨0, 0, 0, 0, ⟨0, 0, false, ⟨0, 0, ⟨0, ByteArray.empty, ByteArray.empty, ByteArray.empty, 0⟩⟩⟩, ⟨0, 0, ⟨⟨0, []⟩, 0, []⟩⟩⟩, false, ?_, ?_, fun h => by cases h⟩
          . cases c5 : ((b.length : Int) == 5) with
            | true =>
              simp only [kp, c5, cond_true, pC, i0, iM, k1', cond_false, e2, rG, k2', k3']
              cases decide ((7 : Int) < (b.length : Int)) <;> rfl
            | false =>
              simp only [kp, c5, cond_true, nI, i0, iM, cond_false, e2, k2', k3']
              cases decide ((7 : Int) < (b.length : Int)) <;> rfl
          . simp only [mp, e4, cond_false, i0, iM, nq, w0]
            cases h1 : decide (1 <= k) with
            | false => rfl
            | true =>
              rw [h1] at hin
              simp only [Bool.true_and] at hin
              rw [hin]; rfl
def Ow:(List iw×Int)⊕(List iw×Int×iw)->List iw×Int
 | .inl p=>p
 | .inr (l,a,_)=>(l,a)
theorem OM (s:i5) (ok:s.ok):sP s s=some true:=by
 simp only [sP,rT,beq_self_eq_true,cond_true,Jj _ ok.2.2,iM]
theorem J1 (r:iw) (ok:r.iH.ok):qe r r=some true:=by
 simp only [qe,qj,qR,qT,beq_self_eq_true,pH,cond_true,OM _ ok,iM]
theorem IW (l:List iw) (ok: ∀r∈l,r.iH.ok) (hl:l.length<=140737488351232):oY l l=some true:=by
 simp only [oY,beq_self_eq_true,cond_true]
 rw [vN l (.inr ()) (fun i x hx=>by
  simp only [nK,ltN (jp hx),cond_true,jD hx,iM,J1 _ (ok x (List.mem_of_getElem? hx)),kV (show i<=140737488355328 by have:=jp hx;omega)]) (by simp only [nK,geN (Nat.le_refl _),cond_false]),iM]
theorem Gp (t:iY) (hb:mK t.iW):qb t t=some true:=by
 simp only [qb,beq_self_eq_true,cond_true,Ak hb,pH]
theorem Qa (a:List Int) (hf:(a.length:Int)<=140737488355328):tC a=some a:=by
 have l0: ∀(suf pre:List Int),a=pre++suf->cM (qA a) (pre,(pre.length:Int))=some a:=by
  intro suf
  induction suf with
  |nil=>
   intro pre h
   simp at h;subst h
   exact jX (by simp [qA])
  |cons x suf ih=>
   intro pre h
   have:=ih (pre++ [x]) (by simp [h])
   rw [pL (a':=(pre++ [x],((pre++ [x]).length:Int)))]
   ·exact this
   ·have h1:decide ((pre.length:Int)<(a.length:Int))=true:=decide_eq_true (by rw [h];simp;omega)
    have h2:idx a (pre.length:Int)=some x:=by rw [h];exact Ng _ _ _
    have hp:pre.length+1<=a.length:=by rw [h];simp
    have h3:dh (pre.length+1) 1=true:=nL (by omega)
    have h4:IntKind.i64.wrap ((pre.length:Int)+1)=((pre++ [x]).length:Int):=by
     rw [List.length_append,List.length_singleton];exact kV (by omega)
    simp only [qA,h1,cond_true,h2,iM,h3,h4]
 have h0:=l0 a [] rfl
 have e0:(([]:List Int).length:Int)=0:=rfl
 rw [e0] at h0
 unfold tC
 rw [h0,iM,jX (b:=()) (by rfl),iM]
theorem Us (l:List Int) (i n:Nat) (h:i+n<=l.length):dm l (i:Int) ((i+n:Nat):Int)=(l.drop i).take n:=by
 simp only [dm,Int.toNat_natCast]
 rw [List.drop_take]
 congr 1
 omega
theorem II (t:iY) (hb:mK t.iW) (hl:t.iW.length<=400000): ∀(k at_:Nat) (out:List iw),at_<=t.iW.length->t.iW.length-at_<=k->out.length<=at_->(∀r∈out,r.iH.ok)->
  ∃x y o a,cM (kn t) (out,(at_:Int))=some x/\cM (jN t) (out,(at_:Int))=some y/\Ow x=(o,((a:Nat):Int))/\Ow y=(o,(a:Int))/\a<=t.iW.length/\o.length<=a/\ ∀r∈o,r.iH.ok:=by
 intro k
 induction k with
 |zero=>
  intro at_ out h1 h2 h3 h4
  have w3:IntKind.i64.wrap ((at_:Int)+3)=((at_+3:Nat):Int):=by rw [ls]<;>omega
  have hd:decide (((at_+3:Nat):Int)<=(t.iW.length:Int))=false:=decide_eq_false (by omega)
  exact⟨.inl (out,at_),.inl (out,at_),out,at_,jX (by simp only [kn,w3,hd,cond_false]),jX (by simp only [jN,w3,hd,cond_false]),rfl,rfl,h1,h3,h4⟩
 |succ k ih=>
  intro at_ out h1 h2 h3 h4
  have w3:IntKind.i64.wrap ((at_:Int)+3)=((at_+3:Nat):Int):=by rw [ls]<;>omega
  by_cases hd:at_+3<=t.iW.length
  ·have hd':decide (((at_+3:Nat):Int)<=(t.iW.length:Int))=true:=decide_eq_true (by omega)
   obtain⟨n,hn,v,f⟩:=DA t.iW hb at_ hd (by omega)
   have g0:nB (at_:Int) (t.iW.length:Int) (t.iW.length:Int)=true:=CZ at_ _ h1
   have wn:IntKind.i64.wrap (((at_+3:Nat):Int)+(n:Int))=((at_+3+n:Nat):Int):=by rw [ls]<;>omega
   have wm:IntKind.i64.wrap ((at_:Int)+IntKind.i64.wrap (3+(n:Int)))=((at_+3+n:Nat):Int):=by
    rw [ls (n:=3+(n:Int)) (by omega) (by omega),ls]<;>omega
   by_cases he:t.iW.length<at_+3+n
   ·have he':decide ((t.iW.length:Int)<((at_+3+n:Nat):Int))=true:=decide_eq_true (by omega)
    exact⟨.inl (out,at_),.inl (out,at_),out,at_,jX (by simp only [kn,mE,w3,hd',cond_true,g0,xA,v,iM,wn,he']),jX (by simp only [jN,w3,hd',cond_true,f,iM,wn,he']),rfl,rfl,h1,h3,h4⟩
   ·have he':decide ((t.iW.length:Int)<((at_+3+n:Nat):Int))=false:=decide_eq_false (by omega)
    have g1:nB ((at_+3:Nat):Int) ((at_+3+n:Nat):Int) (t.iW.length:Int)=true:=by unfold nB;simp;omega
    have hm:=Us t.iW (at_+3) n (by omega)
    obtain⟨r,r',q,p,d,hr⟩:=Mo ((t.iW.drop (at_+3)).take n) (yc (uf hb _) _) (by rw [List.length_take,List.length_drop];omega)
    cases q with
    |false=>
     exact⟨.inr (out,at_,r),.inr (out,at_,r'),out,at_,jX (by simp only [kn,mE,w3,hd',cond_true,g0,xA,v,iM,wn,he',cond_false,g1,hm,p]),jX (by simp only [jN,w3,hd',cond_true,f,iM,wn,he',cond_false,g1,hm,d]),rfl,rfl,h1,h3,h4⟩
    |true=>
     obtain⟨rfl,ok⟩:=hr rfl
     have hf:dh (out.length+1) 216=true:=nL (by omega)
     obtain⟨x,y,o,a,e1,e2,e3,e4,e5,e6,e7⟩:=ih (at_+3+n) (out++ [r]) (by omega) (by omega) (by rw [List.length_append,List.length_singleton];omega) (fun z hz=>by
      rcases List.mem_append.1 hz with hz|hz
      ·exact h4 z hz
      ·rw [List.mem_singleton.1 hz];exact ok)
     refine⟨x,y,o,a,(pL ?_).trans e1,(pL ?_).trans e2,e3,e4,e5,e6,e7⟩
     ·simp only [kn,mE,w3,hd',cond_true,g0,xA,v,iM,wn,he',cond_false,g1,hm,p,hf,wm]
     ·simp only [jN,w3,hd',cond_true,f,iM,wn,he',cond_false,g1,hm,d,hf]
  ·have hd':decide (((at_+3:Nat):Int)<=(t.iW.length:Int))=false:=decide_eq_false (by omega)
   exact⟨.inl (out,at_),.inl (out,at_),out,at_,jX (by simp only [kn,w3,hd',cond_false]),jX (by simp only [jN,w3,hd',cond_false]),rfl,rfl,h1,h3,h4⟩
theorem WV (t:iY):mT t= !ry t:=by
 unfold mT ry
 by_cases h1:t.iP<0
 ·rw [decide_eq_true h1,decide_eq_false (show ¬0<=t.iP by omega)];simp
 ·rw [decide_eq_false h1,decide_eq_true (show 0<=t.iP by omega)]
  by_cases h2:(t.iW.length:Int)<t.iP
  ·rw [decide_eq_true h2,decide_eq_false (show ¬t.iP<=(t.iW.length:Int) by omega)];simp
  ·rw [decide_eq_false h2,decide_eq_true (show t.iP<=(t.iW.length:Int) by omega)]
   by_cases h3:(400000:Int)<(t.iW.length:Int)
   ·rw [decide_eq_true h3,decide_eq_false (show ¬(t.iW.length:Int)<=400000 by omega)];rfl
   ·rw [decide_eq_false h3,decide_eq_true (show (t.iW.length:Int)<=400000 by omega)];rfl
theorem Mz (t:iY) (hb:mK t.iW) (hl:t.iW.length<=140737488351232): ∃o x e,oL t=some (o,x,e)/\m8 t=some (o,x,e)/\mK x.iW/\(∀r∈o,r.iH.ok)/\o.length<=140737488351232:=by
 unfold oL m8 vM
 rw [WV]
 cases hm:ry t with
 |false=>
  simp only [Bool.not_false,cond_true,iM,cond_false]
  exact⟨_,_,_,rfl,rfl,fun y hy=>(by cases hy),fun r hr=>(by cases hr),(by simp)⟩
 |true=>
  have hl4:t.iW.length<=400000:=by
   unfold ry at hm
   simp only [Bool.and_eq_true,decide_eq_true_eq] at hm
   omega
  have hf:dh t.iW.length 1=true:=nL (by omega)
  obtain⟨x,y,o,a,e1,e2,e3,e4,e5,e6,e7⟩:=II t hb hl4 t.iW.length 0 [] (Nat.zero_le _) (by omega) (by simp) (fun r hr=>by cases hr)
  have e1':cM (kn ⟨t.iW,t.iP⟩) ([],0)=some x:=e1
  have e2':cM (jN t) ([],0)=some y:=e2
  simp only [Bool.not_true,cond_false,cond_true,tz,hf,iM,e1',e2']
  have g:nB 0 (a:Int) (t.iW.length:Int)=true:=M7 e5
  have hj:tC (dm t.iW 0 (a:Int))=some (dm t.iW 0 (a:Int)):=Qa _ (by
   have:=En t.iW a t.iW.length (Nat.le_refl _)
   omega)
  have hs:mK (dm t.iW 0 (a:Int)):=by
   unfold dm
   exact uf (yc hb _) _
  have hq:(if (a:Int)<t.iP then (a:Int) else t.iP)=bif decide ((a:Int)<t.iP) then (a:Int) else t.iP:=by
   by_cases h:(a:Int)<t.iP
   ·rw [if_pos h,decide_eq_true h];rfl
   ·rw [if_neg h,decide_eq_false h];rfl
  refine⟨o,⟨dm t.iW 0 (a:Int),if (a:Int)<t.iP then (a:Int) else t.iP⟩,0,?_,?_,hs,e7,by omega⟩
  ·cases x with
   |inl p=>
    obtain⟨l,b⟩:=p
    simp only [Ow,Prod.mk.injEq] at e3
    obtain⟨rfl,rfl⟩:=e3
    simp only [g,cond_true]
   |inr p=>
    obtain⟨l,b,z⟩:=p
    simp only [Ow,Prod.mk.injEq] at e3
    obtain⟨rfl,rfl⟩:=e3
    simp only [g,cond_true]
  ·cases y with
   |inl p=>
    obtain⟨l,b⟩:=p
    simp only [Ow,Prod.mk.injEq] at e4
    obtain⟨rfl,rfl⟩:=e4
    simp only [td,g,cond_true,hj,iM,kX,hq]
   |inr p=>
    obtain⟨l,b,z⟩:=p
    simp only [Ow,Prod.mk.injEq] at e4
    obtain⟨rfl,rfl⟩:=e4
    simp only [sQ,g,cond_true,hj,iM,kH,hq]
theorem AR (t:iY) (ok:t.ok):tH t=some true:=by
 obtain⟨⟨h1,h2⟩,_⟩:=ok
 unfold okN at h1
 have hb:mK t.iW:=fun y hy=>by
  have:=h2 y hy
  simp only [IntKind.min,IntKind.max,IntKind.bits,IntKind.signed] at this
  have h1:=this.1;have h2:=this.2
  simp at h1 h2
  omega
 have hf:dh t.iW.length 1=true:=nL (by omega)
 obtain⟨o,x,e,p,d,hx,ho,hlen⟩:=Mz t hb (by omega)
 unfold tH vK uD
 simp only [hf,cond_true,iM]
 have p':oL ⟨t.iW,t.iP⟩=some (o,x,e):=p
 rw [p',iM]
 simp only
 rw [d,iM]
 simp only [oJ,beq_self_eq_true,cond_true,IW o ho hlen,iM,Gp x hx]
 have:=Gp t hb
 have this':qb ⟨t.iW,t.iP⟩ t=some true:=this
 rw [this',iM,iM]
end Go.Proofs.YtgcglmoogaldbaaGreat
