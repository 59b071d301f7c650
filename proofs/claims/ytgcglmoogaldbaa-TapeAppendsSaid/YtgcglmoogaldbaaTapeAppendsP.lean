/- The law TapeAppends on the plain functions: it answers true at every argument of the sizes that the form allows. -/
import Derived.Test.YtgcglmoogaldbaaWTy
import Derived.Test.YtgcglmoogaldbaaTapeAppendsD
set_option linter.unusedSimpArgs false
set_option linter.unusedVariables false
set_option linter.constructorNameAsVariable false
set_option linter.unnecessarySimpa false
noncomputable section
namespace Go.Proofs.Ytgcglmoogaldbaa
open Go Go.Mx Go.Proofs
theorem qs (n:Int):IntKind.u8.wrap n=n % 256:=by
 simp [IntKind.wrap,IntKind.min,IntKind.max,IntKind.bits,IntKind.signed]
theorem PM {n:Int} (h1:0<=n) (h2:n<18446744073709551616):IntKind.u64.wrap n=n:=by
 simp [IntKind.wrap,IntKind.min,IntKind.max,IntKind.bits,IntKind.signed];omega
theorem ko {n b:Nat} (h:(n:Int)*b<=140737488355328):dh n b=true:=fJ.2 h
theorem jo {α:Type} {l:List α} {i:Nat} {x:α} (h:l[i]? =some x):idx l (i:Int)=some x:=by
 unfold idx
 rw [if_pos (by omega)]
 simpa using h
theorem Ao {α:Type} (l:List α) (x:α) (m:List α):idx (l++x::m) (l.length:Int)=some x:=jo (by simp)
theorem wO (a:ByteArray):cY a a=true:=by unfold cY;exact beq_self_eq_true _
theorem qy (l m:List Int):oi (l++m)=(oi l&&oi m):=by simp [oi]
theorem M9 (s:ByteArray):oi (byL s)=true:=by
 simp only [f9,oi,byL,List.all_map,List.all_eq_true,Function.comp,decide_eq_true_eq]
 intro b _
 exact⟨Int.natCast_nonneg _,by have:=b.toNat_lt;omega⟩
theorem Gd (s:ByteArray):(byL s).length=s.size:=by
 simp only [f9,byL,List.length_map];rfl
def rv (n:Int):List Int:=[(n+4611686018427387904) / 72057594037927936 % 256,(n+4611686018427387904) / 281474976710656 % 256,(n+4611686018427387904) / 1099511627776 % 256,(n+4611686018427387904) / 4294967296 % 256,(n+4611686018427387904) / 16777216 % 256,(n+4611686018427387904) / 65536 % 256,(n+4611686018427387904) / 256 % 256,(n+4611686018427387904) % 256]
theorem iH (n:Int):(rv n).length=8:=rfl
theorem tH (n:Int):oi (rv n)=true:=by
 simp only [f9,oi,rv,List.all_cons,List.all_nil,Bool.and_true,Bool.and_eq_true,decide_eq_true_eq]
 omega
def Wj (n:Int):Prop:=-4611686018427387904<=n/\n<4611686018427387904
def uB (s:ByteArray):List Int:=(s.size:Int) % 256::byL s
theorem q9 (s:ByteArray):oi (uB s)=true:=by
 have:=M9 s
 simp only [f9,oi,uB,List.all_cons,Bool.and_eq_true,decide_eq_true_eq] at*
 exact⟨by omega,this⟩
theorem iT (s:ByteArray):(uB s).length=s.size+1:=by simp [uB,Gd]
def run {α σ R:Type} (f:Nat->α->σ->σ⊕R) (e:σ->R):Nat->List α->σ->R
 |_,[],s=>e s
 |i,x::l,s=>match f i x s with
  | .inl s'=>run f e (i+1) l s'
  | .inr r=>r
theorem tE {α σ τ R:Type} {step:τ->Option (τ⊕R)} (l:List α) (mk:Int->σ->τ) (I:Nat->σ->Prop) (f:Nat->α->σ->σ⊕R) (e:σ->R)
  (hs: ∀i x s,l[i]? =some x->I i s->step (mk i s)=some (match f i x s with| .inl s'=>.inl (mk ((i+1:Nat):Int) s')| .inr r=>.inr r))
  (hi: ∀i x s s',l[i]? =some x->I i s->f i x s= .inl s'->I (i+1) s')
  (he: ∀(i:Nat) s,l.length<=i->I i s->step (mk i s)=some (.inr (e s))) (k:Nat) (s:σ) (h0:I k s):cM step (mk k s)=some (run f e k (l.drop k) s):=by
 generalize hm:l.drop k=m
 induction m generalizing k s with
 |nil=>
  have:l.length<=k:=by
   have:=congrArg List.length hm
   simp only [f9,List.length_drop,List.length_nil] at this
   omega
  exact pZ (he k s this h0)
 |cons x m ih=>
  have hx:l[k]? =some x:=by
   have:=List.getElem?_drop (xs:=l) (i:=k) (j:=0)
   rw [hm] at this
   simpa using this.symm
  have hm':l.drop (k+1)=m:=by
   have:l.drop (k+1)=(l.drop k).drop 1:=by rw [List.drop_drop]
   rw [this,hm];rfl
  have h1:=hs k x s hx h0
  simp only [f9,run]
  cases hf:f k x s with
  |inl s'=>
   rw [hf] at h1
   rw [uc h1]
   exact ih (k+1) s' (hi k x s s' hx h0 hf) hm'
  |inr r=>
   rw [hf] at h1
   exact pZ h1
def mG {α:Type} (p:Nat->α->Bool):Nat->List α->Bool
 |_,[]=>true
 |k,x::l=>p k x&&mG p (k+1) l
theorem NH {α:Type} (p q:Nat->α->Bool) (k:Nat) (l:List α):mG (fun i x=>p i x&&q i x) k l=(mG p k l&&mG q k l):=by
 induction l generalizing k with
 |nil=>rfl
 |cons x l ih=>
  simp only [f9,mG,ih]
  cases p k x<;>cases q k x<;>simp
theorem pD {α:Type} {step:Int->Option (Int⊕(Unit⊕Unit))} (l:List α) (k:Nat) (p:Nat->α->Bool)
  (hs: ∀i x,l[i]? =some x->k<=i->step i=some (bif p i x then .inl ((i+1:Nat):Int) else .inr (.inl ())))
  (he: ∀i:Nat,l.length<=i->step i=some (.inr (.inr ()))):cM step (k:Int)=some (bif mG p k (l.drop k) then .inr () else .inl ()):=by
 have h:=tE (step:=step) l (fun i (_:Unit)=>i) (fun i _=>k<=i) (fun i x _=>bif p i x then .inl () else .inr (.inl ())) (fun _=>.inr ()) (fun i x s hx hk=>by
  rw [hs i x hx hk];cases p i x<;>rfl) (fun i x s s' _ hk _=>Nat.le_succ_of_le hk) (fun i s hl _=>he i hl) k () (Nat.le_refl _)
 rw [h]
 congr 1
 have: ∀(m:List α) (j:Nat),run (fun i x (_:Unit)=>bif p i x then .inl () else .inr (.inl ())) (fun _=>(.inr ():Unit⊕Unit)) j m ()=bif mG p j m then .inr () else .inl ():=by
  intro m
  induction m with
  |nil=>intro j;rfl
  |cons x m ih=>
   intro j
   simp only [f9,run,mG]
   cases p j x with
   |false=>rfl
   |true=>exact ih (j+1)
 exact this _ _
def ol {α:Type} (p:α->Bool):Nat->List α->Option Nat
 |_,[]=>none
 |k,x::l=>bif p x then some k else ol p (k+1) l
theorem pA {α τ R:Type} {step:τ->Option (τ⊕R)} (mk:Int->τ) (l:List α) (p:α->Bool) (y:Nat->R) (n:R)
  (hs: ∀(i:Nat) x,l[i]? =some x->step (mk i)=some (bif p x then .inr (y i) else .inl (mk ((i+1:Nat):Int))))
  (he:step (mk l.length)=some (.inr n)):cM step (mk 0)=some (match ol p 0 l with|some i=>y i|none=>n):=by
 have h:=tE (step:=step) l (fun i (_:Unit)=>mk i) (fun i _=>i<=l.length) (fun i x _=>bif p x then .inr (y i) else .inl ()) (fun _=>n) (fun i x s hx hk=>by
  rw [hs i x hx];cases p x<;>rfl) (fun i x s s' hx hk _=>by have:=(List.getElem?_eq_some_iff.1 hx).1;omega) (fun i s hl hk=>by rw [Nat.le_antisymm hk hl];exact he) 0 () (Nat.zero_le _)
 refine h.trans ?_
 congr 1
 have: ∀(m:List α) (j:Nat),run (fun i x (_:Unit)=>bif p x then .inr (y i) else .inl ()) (fun _=>n) j m ()=match ol p j m with|some i=>y i|none=>n:=by
  intro m
  induction m with
  |nil=>intro j;rfl
  |cons x m ih=>
   intro j
   simp only [f9,run,ol]
   cases p x with
   |true=>rfl
   |false=>exact ih (j+1)
 exact this _ _
theorem uS {α:Type} (p:α->Bool) (k:Nat) (l:List α):(ol p k l).isSome=l.any p:=by
 induction l generalizing k with
 |nil=>rfl
 |cons x l ih=>
  simp only [f9,ol,List.any_cons]
  cases p x with
  |true=>rfl
  |false=>simpa using ih (k+1)
theorem Mb {α:Type} (p:α->Bool) (k:Nat) (l:List α):mG (fun _ x=>!(p x)) k l= !(l.any p):=by
 induction l generalizing k with
 |nil=>rfl
 |cons x l ih=>
  simp only [f9,mG,List.any_cons,Bool.not_or,ih]
theorem tJ {α τ R:Type} {step:τ->Option (τ⊕R)} (mk:Int->List α->τ) (l:List α) (e:List α->R)
  (hs: ∀(i:Nat) x,l[i]? =some x->step (mk i (l.take i))=some (.inl (mk ((i+1:Nat):Int) (l.take i++ [x]))))
  (he:step (mk l.length l)=some (.inr (e l))):cM step (mk 0 [])=some (e l):=by
 have h:=tE (step:=step) l mk (fun i s=>i<=l.length/\s=l.take i) (fun i x s=>.inl (s++ [x])) e (fun i x s hx hk=>by
  rw [hk.2,hs i x hx]) (fun i x s s' hx hk hf=>by
   have:=(List.getElem?_eq_some_iff.1 hx)
   obtain⟨h1,h2⟩:=this
   refine⟨by omega,?_⟩
   simp only [f9,Sum.inl.injEq] at hf
   rw [<-hf,hk.2,<-h2,List.take_append_getElem h1]) (fun i s hl hk=>by
   have hil:i=l.length:=by omega
   rw [hk.2,hil,List.take_length];exact he) 0 [] ⟨Nat.zero_le _,by simp⟩
 refine h.trans ?_
 congr 1
 have: ∀(m s:List α) (j:Nat),run (fun i x (s:List α)=>(.inl (s++ [x]):List α⊕R)) e j m s=e (s++m):=by
  intro m
  induction m with
  |nil=>intro s j;simp [run]
  |cons x m ih=>
   intro s j
   simp only [f9,run]
   rw [ih];simp
 rw [this];simp
theorem kE {n:Nat} (h:n<=140737488355328):IntKind.i64.wrap ((n:Int)+1)=((n+1:Nat):Int):=by
 rw [nr]<;>omega
theorem X9 {n:Nat} (h:n<=140737488355328):IntKind.i64.wrap ((n:Int)-1)=(n:Int)-1:=by
 rw [nr]<;>omega
theorem iW {α:Type} {l:List α} {i:Nat} {x:α} (h:l[i]? =some x):i<l.length:=(List.getElem?_eq_some_iff.1 h).1
theorem ltN {i n:Nat} (h:i<n):decide ((i:Int)<(n:Int))=true:=decide_eq_true (by omega)
theorem geN {i n:Nat} (h:n<=i):decide ((i:Int)<(n:Int))=false:=decide_eq_false (by omega)
theorem xj: ∀a b:List UInt8,decide (0<=Lib.compareBytes a b)= !Op.bytesLess a b
 | [],[]=>by simp [Lib.compareBytes,Op.bytesLess]
 | [],_::_=>by simp [Lib.compareBytes,Op.bytesLess]
 |_::_,[]=>by simp [Lib.compareBytes,Op.bytesLess]
 |a::x,b::y=>by
  simp only [f9,Lib.compareBytes,Op.bytesLess]
  by_cases h1:a<b
  ·simp [h1]
  ·by_cases h2:b<a
   ·have h3:(a==b)=false:=by
     rw [beq_eq_false_iff_ne];rintro rfl;exact h1 h2
    simp [h1,h2,h3]
   ·have h3:a=b:=by
     have e1: ¬a.toNat<b.toNat:=h1
     have e2: ¬b.toNat<a.toNat:=h2
     exact UInt8.toNat_inj.1 (by omega)
    subst h3
    simp only [f9,h1,if_false,beq_self_eq_true,decide_false,Bool.true_and,Bool.false_or]
    exact xj x y
theorem Fu (a b:ByteArray):decide (0<=kh a b)= !pT a b:=by
 have:kh a b=Lib.compareBytes a.toList b.toList:=by
  rw [ByteArray.toList_eq,ByteArray.toList_eq];rfl
 rw [this];exact xj _ _
theorem LE (a b:iw):decide (0<=oG a b)= !pT a.iv b.iv:=Fu _ _
def sT {α:Type} (lt:α->α->Bool) (l:List α) (i:Nat) (x:α):Bool:=match l[i-1]? with
 |some y=>lt y x
 |none=>true
theorem qw {α:Type} {lt:α->α->Bool} {l:List α} {i:Nat} {x y:α} (h:l[i-1]? =some y):sT lt l i x=lt y x:=by
 unfold sT;rw [h]
def nO {α:Type} (lt:α->α->Bool) (l:List α):Bool:=mG (sT lt l) 1 (l.drop 1)
theorem xg {α:Type} {l:List α} {i:Nat} {x:α} (hx:l[i]? =some x) (hi:1<=i) (hl:l.length<=140737488351232): ∃y,l[i-1]? =some y/\idx l (IntKind.i64.wrap ((i:Int)-1))=some y:=by
 have h:=iW hx
 refine⟨l[i-1],List.getElem?_eq_getElem _,?_⟩
 rw [X9 (by omega)]
 have:((i:Int)-1)=((i-1:Nat):Int):=by omega
 rw [this]
 exact jo (List.getElem?_eq_getElem _)
theorem II (l:List iw) (hl:l.length<=140737488351232):jk l=some (nO (fun a b=>pT a.iv b.iv) l):=by
 unfold jk
 rw [show (1:Int)=((1:Nat):Int) from rfl,pD (step:=jh l) l 1 (sT (fun a b=>pT a.iv b.iv) l) (fun i x hx hi=>by
  obtain⟨y,h1,h2⟩:=xg hx hi hl
  simp only [f9,jh,ltN (iW hx),cond_true,h2,jo hx,qw h1,LE,kE (Nat.le_trans (Nat.le_of_lt (iW hx)) (Nat.le_trans hl (by decide)))]
  cases pT y.iv x.iv<;>rfl) (fun i hi=>by simp only [f9,jh,geN hi,cond_false])]
 show _=some (mG _ 1 (l.drop 1))
 generalize mG _ 1 (l.drop 1)=b
 cases b<;>rfl
theorem Jo (l:List ByteArray) (hl:l.length<=140737488351232):i4 l=some (nO pT l):=by
 unfold i4
 rw [show (1:Int)=((1:Nat):Int) from rfl,pD (step:=iY l) l 1 (sT pT l) (fun i x hx hi=>by
  obtain⟨y,h1,h2⟩:=xg hx hi hl
  simp only [f9,iY,ltN (iW hx),cond_true,h2,jo hx,qw h1,Fu,kE (Nat.le_trans (Nat.le_of_lt (iW hx)) (Nat.le_trans hl (by decide)))]
  cases pT y x<;>rfl) (fun i hi=>by simp only [f9,iY,geN hi,cond_false])]
 show _=some (mG _ 1 (l.drop 1))
 generalize mG _ 1 (l.drop 1)=b
 cases b<;>rfl
theorem or2 (a b:Int):qN [a,b]=some (bif a==0 then b else a):=by
 unfold qN
 have h:=pA (step:=m8 [a,b] ([a,b].length:Int)) (fun i=>i) [a,b] (fun x=>!(x==0)) (fun i=>.inl ([a,b].getD i 0)) (.inr ()) (fun i x hx=>by
  have h1:=iW hx
  have h2:i<=140737488355328:=by simp only [f9,List.length_cons,List.length_nil] at h1;omega
  have h3: [a,b].getD i 0=x:=by simp [List.getD,hx]
  simp only [f9,m8,ltN h1,cond_true,jo hx,kE h2,h3]
  cases (x==0)<;>rfl) (by simp only [f9,m8,geN (Nat.le_refl _),cond_false])
 rw [h]
 simp only [f9,ol]
 cases ha:(a==0) with
 |false=>rfl
 |true=>
  cases hb:(b==0) with
  |false=>rfl
  |true=>
   have:b=0:=by simpa using hb
   subst this;rfl
theorem MD (a b:ae): ∃n,nx a b=some n/\decide (0<=n)= !jH a b:=by
 unfold nx
 rw [or2]
 refine⟨_,rfl,?_⟩
 simp only [f9,me,nb,cond_false,jH]
 by_cases h:a.fN=b.fN
 ·have e:decide (b.fN<b.fN)=false:=decide_eq_false (by omega)
  simp only [f9,h,e,cond_false,beq_self_eq_true,cond_true]
  exact Fu _ _
 ·have e:(a.fN==b.fN)=false:=by simpa using h
  by_cases h1:a.fN<b.fN
  ·simp [h1,e]
  ·have h2:b.fN<a.fN:=by omega
   simp [h1,h2,e]
theorem Hv (l:List ae) (hl:l.length<=140737488351232):jf l=some (nO jH l):=by
 unfold jf
 rw [show (1:Int)=((1:Nat):Int) from rfl,pD (step:=jc l) l 1 (sT jH l) (fun i x hx hi=>by
  obtain⟨y,h1,h2⟩:=xg hx hi hl
  obtain⟨n,h3,h4⟩:=MD y x
  simp only [f9,jc,ltN (iW hx),cond_true,h2,jo hx,qw h1,h3,h4,kE (Nat.le_trans (Nat.le_of_lt (iW hx)) (Nat.le_trans hl (by decide)))]
  cases jH y x<;>rfl) (fun i hi=>by simp only [f9,jc,geN hi,cond_false])]
 show _=some (mG _ 1 (l.drop 1))
 generalize mG _ 1 (l.drop 1)=b
 cases b<;>rfl
def Au (o:Option Nat):Int:=match o with|some i=>i|none=>-1
theorem AK (o:Option Nat):decide (0<=Au o)=o.isSome:=by
 cases o with
 |none=>rfl
 |some i=>exact decide_eq_true (Int.natCast_nonneg _)
theorem Lq (l:List ByteArray) (hl:l.length<=140737488351232):qR l=some (l.any lp):=by
 unfold qR rV
 rw [pA (step:=m7 l (l.length:Int)) (fun i=>i) l lp (fun i=>.inl (i:Int)) (.inr ()) (fun i x hx=>by
  simp only [f9,m7,ltN (iW hx),cond_true,jo hx,kE (Nat.le_trans (Nat.le_of_lt (iW hx)) (Nat.le_trans hl (by decide)))]
  cases lp x<;>rfl) (by simp only [f9,m7,geN (Nat.le_refl _),cond_false])]
 rw [<-uS lp 0 l]
 cases ol lp 0 l<;>simp [f9]
theorem LQ (l:List iw) (hl:l.length<=140737488351232):qL l=some (l.any lW):=by
 unfold qL rP
 rw [pA (step:=nf l (l.length:Int)) (fun i=>i) l lW (fun i=>.inl (i:Int)) (.inr ()) (fun i x hx=>by
  simp only [f9,nf,ltN (iW hx),cond_true,jo hx,kE (Nat.le_trans (Nat.le_of_lt (iW hx)) (Nat.le_trans hl (by decide)))]
  cases lW x<;>rfl) (by simp only [f9,nf,geN (Nat.le_refl _),cond_false])]
 rw [<-uS lW 0 l]
 cases ol lW 0 l<;>simp [f9]
theorem Hp (l:List ae) (hl:l.length<=140737488351232):qM l=some (l.any md):=by
 unfold qM rN
 rw [pA (step:=ne l (l.length:Int)) (fun i=>i) l md (fun i=>.inl (i:Int)) (.inr ()) (fun i x hx=>by
  simp only [f9,ne,ltN (iW hx),cond_true,jo hx,kE (Nat.le_trans (Nat.le_of_lt (iW hx)) (Nat.le_trans hl (by decide)))]
  cases md x<;>rfl) (by simp only [f9,ne,geN (Nat.le_refl _),cond_false])]
 rw [<-uS md 0 l]
 cases ol md 0 l<;>simp [f9]
theorem Is (l:List ae) (hl:l.length<=140737488351232):qQ l=some (l.any lY):=by
 unfold qQ su
 rw [pA (step:=m9 l (l.length:Int)) (fun i=>i) l lY (fun i=>.inl (i:Int)) (.inr ()) (fun i x hx=>by
  simp only [f9,m9,ltN (iW hx),cond_true,jo hx,kE (Nat.le_trans (Nat.le_of_lt (iW hx)) (Nat.le_trans hl (by decide)))]
  cases lY x<;>rfl) (by simp only [f9,m9,geN (Nat.le_refl _),cond_false])]
 rw [<-uS lY 0 l]
 cases ol lY 0 l<;>simp [f9]
theorem VL (l:List ae) (m:ByteArray) (hl:l.length<=140737488351232):qO l m=some (Au (ol (fun x=>cY x.iU m) 0 l)):=by
 unfold qO l5
 rw [pA (step:=kq l (l.length:Int)) (fun i=>(i,m)) l (fun x=>cY x.iU m) (fun i=>.inl ((i:Int),m)) (.inr m) (fun i x hx=>by
  simp only [f9,kq,ltN (iW hx),cond_true,jo hx,nV,kE (Nat.le_trans (Nat.le_of_lt (iW hx)) (Nat.le_trans hl (by decide)))]
  cases cY x.iU m<;>rfl) (by simp only [f9,kq,geN (Nat.le_refl _),cond_false])]
 cases ol (fun x=>cY x.iU m) 0 l<;>rfl
theorem Jc (l:List ae) (m:ByteArray) (hl:l.length<=140737488351232):qS l m=some (Au (ol (fun x=>cY x.iU m) 0 l)):=by
 unfold qS
 rw [pA (step:=na l m) (fun i=>i) l (fun x=>cY x.iU m) (fun i=>.inl (i:Int)) (.inr ()) (fun i x hx=>by
  simp only [f9,na,ltN (iW hx),cond_true,jo hx,kE (Nat.le_trans (Nat.le_of_lt (iW hx)) (Nat.le_trans hl (by decide)))]
  cases cY x.iU m<;>rfl) (by simp only [f9,na,geN (Nat.le_refl _),cond_false])]
 cases ol (fun x=>cY x.iU m) 0 l<;>rfl
def sO (l:List ae) (i:Nat) (x:ae):Bool:=!(ol (fun y=>cY y.iU x.iU) 0 (dm l 0 i)).isSome
def Bt (v:ad):Int:=
 bif v.iG.any lp then 1
 else bif v.iD.any lW then 1
 else bif v.cO.any md then 1
 else bif !i7 v.i8 then 2
 else bif v.cO.any lY then 2
 else bif (nO (fun a b=>pT a.iv b.iv) v.iD&&(nO jH v.cO&&(!(v.af==5)||nO pT v.iG)))&&mG (sO v.cO) 0 v.cO then 0 else 10
theorem Gr {α:Type} (l:List α) (i:Nat) (n:Nat) (h:l.length<=n):(dm l 0 i).length<=n:=by
 unfold dm
 simp only [f9,List.length_drop,List.length_take]
 omega
theorem Nv {i n:Nat} (h:i<=n):IA 0 i n=true:=by
 unfold IA
 simp
 omega
theorem XF (v w:ad) (b:Bool) (hl:v.cO.length<=140737488351232):cM (tO v v.cO (v.cO.length:Int) w) (b,0)=some (b&&mG (sO v.cO) 0 v.cO):=by
 have h:=tE (step:=tO v v.cO (v.cO.length:Int) w) v.cO (fun i s=>(s,i)) (fun i _=>i<=v.cO.length) (fun i x s=>.inl (s&&sO v.cO i x)) (fun s=>s) (fun i x s hx hi=>by
  have hw:=kE (n:=i) (by omega)
  simp only [f9,tO,ltN (iW hx),cond_true,jo hx,hw,Nv hi,VL _ _ (Gr v.cO i _ hl),sO,<-AK]
  cases s with
  |false=>rfl
  |true=>
   simp only [f9,cond_true,Bool.true_and]
   congr 4
   generalize Au _=z
   by_cases hz:z<0
   ·simp [hz,show ¬0<=z by omega]
   ·simp [hz,show 0<=z by omega]) (fun i x s s' hx hi _=>by have:=iW hx;omega) (fun i s hl hi=>by
  simp only [f9,tO,geN hl,cond_false]) 0 b (Nat.zero_le _)
 refine h.trans ?_
 congr 1
 have: ∀(m:List ae) (j:Nat) (s:Bool),run (fun i x s=>(.inl (s&&sO v.cO i x):Bool⊕Bool)) (fun s=>s) j m s=(s&&mG (sO v.cO) j m):=by
  intro m
  induction m with
  |nil=>intro j s;simp [run,mG]
  |cons x m ih=>
   intro j s
   simp only [f9,run,mG]
   rw [ih,Bool.and_assoc]
 exact this _ _ _
theorem Ud (v:ad) (ok:v.ok) (h:iJ v.gi=true) (h16:oq v (jI v v.af (v.af==1))=false):zp v=some (Bt v):=by
 obtain⟨_,_,_,⟨o1,_⟩,⟨o2,_⟩,⟨o3,_⟩⟩:=ok
 unfold okN at o1 o2 o3
 unfold zp Iq
 generalize jI v v.af (v.af==1)=w at h16⊢
 rw [h16,h,Lq _ (by omega)]
 simp only [f9,cond_true,cond_false]
 rw [LQ _ (by omega)]
 simp only [f9]
 rw [Hp _ (by omega)]
 simp only [f9]
 rw [Is _ (by omega)]
 simp only [f9,vE]
 rw [II _ (by omega),Hv _ (by omega),Jo _ (by omega)]
 unfold Bt
 cases v.iG.any lp with
 |true=>rfl
 |false=>
 cases v.iD.any lW with
 |true=>rfl
 |false=>
 cases v.cO.any md with
 |true=>rfl
 |false=>
 cases i7 v.i8 with
 |false=>rfl
 |true=>
 cases v.cO.any lY with
 |true=>rfl
 |false=>
 simp only [f9,cond_true,cond_false,Bool.not_true]
 generalize nO (fun a b=>pT a.iv b.iv) v.iD=b1
 generalize nO jH v.cO=b2
 generalize nO pT v.iG=b3
 generalize (v.af==5)=b4
 cases b1<;>cases b2<;>cases b3<;>cases b4<;>simp only [f9,cond_true,cond_false,Bool.true_and,Bool.false_and,Bool.not_true,Bool.not_false,Bool.true_or,Bool.false_or,Bool.or_true,Bool.or_false,Bool.and_true,Bool.and_false]<;>(rw [XF _ _ _ (by omega)];simp only [f9,Bool.true_and,Bool.false_and,cond_false];try (cases mG (sO v.cO) 0 v.cO<;>rfl))
def C8 (v:ad):Bool:=(!(v.af==1)&& !cY v.gi ByteArray.empty)||(!(v.af==2)&& !(v.i8==0))||(!(v.af==3)&&decide (0<v.iD.length))||(!(v.af==4||v.af==5)&&decide (0<v.iG.length))||(!(v.af==6)&&decide (0<v.cO.length))
def xc (v:ad):Bool:=(decide (3<=v.af)&&(decide (v.iD.length+v.iG.length+v.cO.length<1)||decide (20<v.iD.length+v.iG.length+v.cO.length)))|| !iJ v.gi
def xy (v:ad):Int:=
 bif !(decide (1<=v.af)&&decide (v.af<=6)) then 3
 else bif C8 v then 8
 else bif xc v then 1
 else Bt v
theorem tX (k:Int) (t:ByteArray) (c:Int) (ps:List iw) (is:List ByteArray) (ss:List ae) (h1:ps.length<=140737488351232) (h2:is.length<=140737488351232) (h3:ss.length<=140737488351232):kN ⟨k,t,c,ps,is,ss⟩=((ps.length+is.length+ss.length:Nat):Int):=by
 unfold kN
 simp only [f9]
 rw [nr (n:=(ps.length:Int)+(is.length:Int)) (by omega) (by omega),nr]<;>omega
theorem six {q:Int} (h1: ¬q<1) (h2: ¬6<q):q=1∨q=2∨q=3∨q=4∨q=5∨q=6:=by omega
theorem JR (n:Nat):decide ((0:Int)<(n:Int))=decide (0<n):=by
 by_cases h:0<n
 ·rw [decide_eq_true h,decide_eq_true (by omega)]
 ·rw [decide_eq_false h,decide_eq_false (by omega)]
theorem PE (v:ad) (ok:v.ok):vaC v=some (xy v):=by
 have ok':=ok
 obtain⟨q,t,c,ps,is,ss⟩:=v
 obtain⟨_,_,_,⟨o1,_⟩,⟨o2,_⟩,⟨o3,_⟩⟩:=ok
 unfold okN at o1 o2 o3
 simp only [f9] at o1 o2 o3
 have l1:ps.length<=140737488351232:=by omega
 have l2:is.length<=140737488351232:=by omega
 have l3:ss.length<=140737488351232:=by omega
 have l0: ∀ {α:Type},([]:List α).length<=140737488351232:=by intro α;simp
 have E:=fun (c:Int) (ps:List iw) (is:List ByteArray) (ss:List ae) h1 h2 h3=>tX q t c ps is ss h1 h2 h3
 by_cases h1:q<1
 ·simp [vaC,h1,xy,show ¬1<=q by omega]
 by_cases h2:6<q
 ·simp [vaC,h1,h2,xy,show 1<=q by omega,show ¬q<=6 by omega]
 have hT: ∀v:ad,v.ok->v=⟨q,t,c,ps,is,ss⟩->zp v=some (bif xc v then 1 else Bt v):=by
  rintro v okv rfl
  cases hs:xc ⟨q,t,c,ps,is,ss⟩ with
  |false=>
   unfold xc at hs
   simp only [f9,Bool.or_eq_false_iff,Bool.not_eq_false'] at hs
   refine Ud _ okv hs.2 ?_
   unfold oq
   rw [tX _ _ _ _ _ _ l1 l2 l3]
   have h3:=hs.1
   cases hk:decide (3<=q) with
   |false=>simp only [f9,hk,cond_false]
   |true=>
    rw [hk,Bool.true_and,Bool.or_eq_false_iff,decide_eq_false_iff_not,decide_eq_false_iff_not] at h3
    simp only [f9,hk,cond_true]
    rw [decide_eq_false (by omega),cond_false,decide_eq_false (by omega)]
  |true=>
   unfold xc at hs
   unfold zp oq
   rw [tX _ _ _ _ _ _ l1 l2 l3]
   simp only [f9] at hs⊢
   cases hx:iJ t with
   |false=>
    simp only [f9,cond_true,cond_false]
    cases (bif decide (3<=q) then bif decide (((ps.length+is.length+ss.length:Nat):Int)<1) then true else decide ((20:Int)<((ps.length+is.length+ss.length:Nat):Int)) else false)<;>rfl
   |true=>
    rw [hx,Bool.not_true,Bool.or_false,Bool.and_eq_true,Bool.or_eq_true,decide_eq_true_eq,decide_eq_true_eq,decide_eq_true_eq] at hs
    rw [decide_eq_true hs.1]
    simp only [f9,cond_true]
    rcases hs.2 with h|h
    ·rw [decide_eq_true (by omega)];rfl
    ·rw [decide_eq_false (by omega),cond_false,decide_eq_true (by omega)];rfl
 have hT':=hT _ ok' rfl
 have hr:(decide (1<=q)&&decide (q<=6))=true:=by
  rw [Bool.and_eq_true,decide_eq_true_eq,decide_eq_true_eq];omega
 unfold xy
 simp only [f9,hr,Bool.not_true,cond_false]
 generalize hz:(bif xc ⟨q,t,c,ps,is,ss⟩ then 1 else Bt ⟨q,t,c,ps,is,ss⟩)=z at hT'⊢
 unfold vaC
 simp only [decide_eq_false h1,decide_eq_false h2,cond_false,hT']
 have hform:pU ⟨q,t,c,ps,is,ss⟩ (jI ⟨q,t,c,ps,is,ss⟩ q (q==1))=C8 ⟨q,t,c,ps,is,ss⟩:=by
  have add0: ∀a b:Nat,decide (0<a+b)=(decide (0<a)||decide (0<b)):=by
   intro a b
   by_cases ha:0<a
   ·rw [decide_eq_true ha,decide_eq_true (by omega),Bool.true_or]
   ·have:a=0:=by omega
    subst this;simp
  clear hT hT' hz hr E ok' o1 o2 o3
  rcases six h1 h2 with rfl|rfl|rfl|rfl|rfl|rfl
  all_goals
   unfold pU
   generalize hw:jI _ _ _=w
   simp only [jI,rh,rb,rc,Int.reduceBEq,cond_true,cond_false] at hw
   subst hw
   simp only [C8,Int.reduceBEq,wO,beq_self_eq_true,cond_true]
   rw [tX _ _ _ _ _ _ (by first|exact l1|exact l0) (by first|exact l2|exact l0) (by first|exact l3|exact l0)]
   simp only [JR,List.length_nil,Nat.zero_add,Nat.add_zero,add0]
   generalize decide (0<ps.length)=d1
   generalize decide (0<is.length)=d2
   generalize decide (0<ss.length)=d3
   generalize cY t ByteArray.empty=d4
   generalize (c==0)=d5
   cases d1<;>cases d2<;>cases d3<;>cases d4<;>cases d5<;>rfl
 rw [hform]
 cases C8 ⟨q,t,c,ps,is,ss⟩<;>rfl
theorem xG {α:Type} (p q:α->Bool) (h: ∀x,p x= !q x) (l:List α):mG (fun _ x=>q x) 0 l= !l.any p:=by
 have:(fun (_:Nat) (x:α)=>q x)=fun _ x=>!p x:=by
  funext _ x;rw [h x,Bool.not_not]
 rw [this,Mb]
theorem Iu (l:List ae) (x:ae):sO l 0 x=true:=by
 unfold sO dm
 simp [ol]
theorem KI (l:List ae):mG (sO l) 0 l=mG (sO l) 1 (l.drop 1):=by
 have: ∀m:List ae,mG (sO l) 0 m=mG (sO l) 1 (m.drop 1):=by
  intro m
  cases m with
  |nil=>rfl
  |cons x m=>simp only [f9,mG,Iu,Bool.true_and];rfl
 exact this l
theorem Zm (v:ad):sa v=oO v:=rfl
def J2 (v:ad):Int:=
 bif v.iD.any lW then 1
 else bif v.cO.any md then 1
 else bif !i7 v.i8 then 2
 else bif v.cO.any lY then 2
 else bif (nO (fun a b=>pT a.iv b.iv) v.iD&&(nO jH v.cO&&(!(v.af==5)||nO pT v.iG)))&&mG (sO v.cO) 0 v.cO then 0 else 10
theorem Xo (v:ad):Bt v=bif v.iG.any lp then 1 else J2 v:=rfl
theorem OK (v:ad) (ok:v.ok):cM (kv v) 0=some (bif v.iG.any lp then .inl () else .inr ())/\oO v=some (J2 v):=by
 obtain⟨_,_,_,⟨o1,_⟩,⟨o2,_⟩,⟨o3,_⟩⟩:=ok
 unfold okN at o1 o2 o3
 have e0:=pD (step:=kv v) v.iG 0 (fun _ x=>iV x) (fun i x hx hi=>by
  simp only [f9,kv,ltN (iW hx),cond_true,jo hx,kE (show i<=_ by have:=iW hx;omega)]
  cases iV x<;>rfl) (fun i hi=>by simp only [f9,kv,geN hi,cond_false])
 have e2:=pD (step:=kZ v) v.iD 0 (fun _ x=>bif kz x.iv then iV x.gi else false) (fun i x hx hi=>by
  simp only [f9,kZ,ltN (iW hx),cond_true,jo hx,kE (show i<=_ by have:=iW hx;omega)]
  cases kz x.iv<;>cases iV x.gi<;>rfl) (fun i hi=>by simp only [f9,kZ,geN hi,cond_false])
 have e4:=pD (step:=lh v) v.cO 0 (fun _ x=>iV x.iU) (fun i x hx hi=>by
  simp only [f9,lh,ltN (iW hx),cond_true,jo hx,kE (show i<=_ by have:=iW hx;omega)]
  cases iV x.iU<;>rfl) (fun i hi=>by simp only [f9,lh,geN hi,cond_false])
 have e6:=pD (step:=kV v) v.cO 0 (fun _ x=>kp x.fN) (fun i x hx hi=>by
  simp only [f9,kV,ltN (iW hx),cond_true,jo hx,kE (show i<=_ by have:=iW hx;omega)]
  cases kp x.fN<;>rfl) (fun i hi=>by simp only [f9,kV,geN hi,cond_false])
 have e8:=pD (step:=ll v) v.iD 1 (sT (fun a b=>pT a.iv b.iv) v.iD) (fun i x hx hi=>by
  obtain⟨y,h1,h2⟩:=xg hx hi (by omega)
  simp only [f9,ll,ltN (iW hx),cond_true,h2,jo hx,qw h1,kE (show i<=_ by have:=iW hx;omega)]
  cases pT y.iv x.iv<;>rfl) (fun i hi=>by simp only [f9,ll,geN hi,cond_false])
 have e10:(v.af==5)=true->cM (jN v) 1=some (bif nO pT v.iG then .inr () else .inl ()):=fun h5=>pD (step:=jN v) v.iG 1 (sT pT v.iG) (fun i x hx hi=>by
  obtain⟨y,h1,h2⟩:=xg hx hi (by omega)
  simp only [f9,jN,ltN (iW hx),cond_true,h5,h2,jo hx,qw h1,kE (show i<=_ by have:=iW hx;omega)]
  cases pT y x<;>rfl) (fun i hi=>by simp only [f9,jN,geN hi,cond_false])
 have e10':(v.af==5)=false->cM (jN v) 1=some (.inr ()):=fun h5=>pZ (by
  simp only [f9,jN,h5,cond_false]
  cases decide ((1:Int)<(v.iG.length:Int))<;>rfl)
 have e12:=pD (step:=kK v) v.cO 1 (fun i x=>sT jH v.cO i x&&sO v.cO i x) (fun i x hx hi=>by
  obtain⟨y,h1,h2⟩:=xg hx hi (by omega)
  have hl:=iW hx
  simp only [f9,kK,ltN (iW hx),cond_true,h2,jo hx,qw h1,Nv (Nat.le_of_lt hl),Jc _ _ (Gr v.cO i 140737488351232 (by omega)),sO,<-AK,kE (show i<=_ by omega)]
  cases jH y x with
  |false=>rfl
  |true=>
   simp only [f9,cond_true,Bool.true_and]
   cases decide (0<=Au (ol (fun y=>cY y.iU x.iU) 0 (dm v.cO 0 i)))<;>rfl) (fun i hi=>by simp only [f9,kK,geN hi,cond_false])
 rw [xG lp (fun x=>iV x) (fun x=>rfl)] at e0
 rw [xG lW (fun x=>bif kz x.iv then iV x.gi else false) (fun x=>by
  show (bif iI x.iv then !iJ x.gi else true)= !(bif iI x.iv then iJ x.gi else false)
  cases iI x.iv<;>rfl)] at e2
 rw [xG md (fun x=>iV x.iU) (fun x=>rfl)] at e4
 rw [xG lY (fun x=>kp x.fN) (fun x=>rfl)] at e6
 rw [NH] at e12
 simp only [f9,List.drop_zero] at e0 e2 e4 e6
 have k1:((1:Nat):Int)=1:=rfl
 have k0:((0:Nat):Int)=0:=rfl
 rw [k0] at e0 e2 e4 e6
 rw [k1] at e8 e12
 unfold oO tn ti ta tb td
 refine⟨by rw [e0];cases v.iG.any lp<;>rfl,?_⟩
 rw [e2,e4,e6,e8,e12]
 unfold J2
 rw [KI]
 generalize hb1:mG (sT (fun a b=>pT a.iv b.iv) v.iD) 1 (v.iD.drop 1)=b1
 generalize hb2:mG (sT jH v.cO) 1 (v.cO.drop 1)=b2
 have hb1':nO (fun a b=>pT a.iv b.iv) v.iD=b1:=hb1
 have hb2':nO jH v.cO=b2:=hb2
 rw [hb1',hb2']
 generalize mG (sO v.cO) 1 (v.cO.drop 1)=b4
 have hc:kp v.i8=i7 v.i8:=rfl
 rw [hc]
 generalize v.iD.any lW=a2
 generalize v.cO.any md=a3
 generalize i7 v.i8=a4
 generalize v.cO.any lY=a5
 cases h5:(v.af==5) with
 |true=>
  rw [e10 h5]
  generalize nO pT v.iG=b3
  cases a2<;>try rfl
  cases a3<;>try rfl
  cases a4<;>try rfl
  cases a5<;>try rfl
  cases b1<;>cases b2<;>cases b3<;>cases b4<;>rfl
 |false=>
  rw [e10' h5]
  cases a2<;>try rfl
  cases a3<;>try rfl
  cases a4<;>try rfl
  cases a5<;>try rfl
  cases b1<;>cases b2<;>cases b4<;>rfl
theorem OG (v:ad) (ok:v.ok):ou v=some (xy v):=by
 obtain⟨hl,hg⟩:=OK v ok
 obtain⟨_,_,_,⟨o1,_⟩,⟨o2,_⟩,⟨o3,_⟩⟩:=ok
 unfold okN at o1 o2 o3
 have hk6:jV v=xc v:=by
  have hs:mK v=((v.iD.length+v.iG.length+v.cO.length:Nat):Int):=tX v.af v.gi v.i8 _ _ _ (by omega) (by omega) (by omega)
  unfold jV xc
  rw [hs]
  have hx:iV v.gi=iJ v.gi:=rfl
  rw [hx]
  cases decide (3<=v.af) with
  |false=>rfl
  |true=>
   simp only [f9,cond_true,Bool.true_and]
   by_cases h1:v.iD.length+v.iG.length+v.cO.length<1
   ·rw [decide_eq_false (show ¬(1:Int)<=_ by omega),decide_eq_true h1];rfl
   ·rw [decide_eq_true (show (1:Int)<=_ by omega),decide_eq_false h1]
    by_cases h2:20<v.iD.length+v.iG.length+v.cO.length
    ·rw [decide_eq_false (show ¬_<=(20:Int) by omega),decide_eq_true h2];rfl
    ·rw [decide_eq_true (show _<=(20:Int) by omega),decide_eq_false h2];rfl
 unfold ou sn
 simp only [f9,Zm,hk6,hl,hg]
 unfold xy
 rw [Xo]
 generalize J2 v=tg
 generalize v.iG.any lp=a1
 generalize xc v=sz
 clear hl hg hk6
 obtain⟨q,t,c,ps,is,ss⟩:=v
 by_cases h1:q<1
 ·simp [show ¬1<=q by omega]
 by_cases h2:6<q
 ·simp [show 1<=q by omega,show ¬q<=6 by omega]
 simp only [f9,lJ,nT,nU,nY,kX,mV,m4,m3,mY,mU,m5,mZ,C8,JR]
 generalize decide (0<ps.length)=d1
 generalize decide (0<is.length)=d2
 generalize decide (0<ss.length)=d3
 generalize cY t ByteArray.empty=d4
 generalize (c==0)=d5
 cases sz<;>cases a1<;>rcases six h1 h2 with rfl|rfl|rfl|rfl|rfl|rfl<;>cases d1<;>cases d2<;>cases d3<;>cases d4<;>cases d5<;>rfl
theorem wT {α β:Type} {step:Int->Option (Int⊕(β⊕Unit))} (l:List α) (g:α->β) (p:Nat->α->Bool)
  (hs: ∀(i:Nat) x,l[i]? =some x->step (i:Int)=some (bif p i x then .inl ((i+1:Nat):Int) else .inr (.inl (g x))))
  (he:step (l.length:Int)=some (.inr (.inr ()))): ∃r,cM step 0=some r/\(mG p 0 l=true->r= .inr ())/\(mG p 0 l=false-> ∃y,r= .inl y):=by
 have h:=tE (step:=step) l (fun i (_:Unit)=>i) (fun i _=>i<=l.length) (fun i x _=>bif p i x then .inl () else .inr (.inl (g x))) (fun _=>.inr ()) (fun i x s hx hk=>by
  rw [hs i x hx];cases p i x<;>rfl) (fun i x s s' hx hk _=>by have:=iW hx;omega) (fun i s hl hk=>by rw [Nat.le_antisymm hk hl];exact he) 0 () (Nat.zero_le _)
 refine⟨_,h,?_,?_⟩
 ·have: ∀(m:List α) (j:Nat),mG p j m=true->run (fun i x (_:Unit)=>bif p i x then .inl () else .inr (.inl (g x))) (fun _=>(.inr ():β⊕Unit)) j m ()= .inr ():=by
   intro m
   induction m with
   |nil=>intro j _;rfl
   |cons x m ih=>
    intro j h
    simp only [f9,mG,Bool.and_eq_true] at h
    simp only [f9,run,h.1,cond_true]
    exact ih (j+1) h.2
  exact this _ _
 ·have: ∀(m:List α) (j:Nat),mG p j m=false-> ∃y,run (fun i x (_:Unit)=>bif p i x then .inl () else .inr (.inl (g x))) (fun _=>(.inr ():β⊕Unit)) j m ()= .inl y:=by
   intro m
   induction m with
   |nil=>intro j h;cases h
   |cons x m ih=>
    intro j h
    simp only [f9,run]
    cases hp:p j x with
    |false=>exact⟨_,rfl⟩
    |true=>
     simp only [f9,mG,hp,Bool.true_and] at h
     exact ih (j+1) h
  exact this _ _
def GO (now:Int) (l:List hM) (i:Nat) (x:hM):Bool:=(iI x.jj&&((xy x.jG==0)&&(decide (i=0)||sT (fun a b=>pT a.jj b.jj) l i x)))&&((x.km==0)||(decide (now<x.km)&&decide (x.km<=1073741824)))
def sZ (s:iE):Bool:=(decide (0<=s.jv)&&(decide (s.jv<=1073741824)&&decide (s.im.length<=12)))&&mG (GO s.jv s.im) 0 s.im
theorem PG (now u:Int):(bif (u==0) then false else bif decide (u<=now) then true else decide (1073741824<u))= !((u==0)||(decide (now<u)&&decide (u<=1073741824))):=by
 cases (u==0) with
 |true=>rfl
 |false=>
  by_cases h1:u<=now
  ·simp [h1,show ¬now<u by omega]
  ·by_cases h2:1073741824<u
   ·simp [h1,h2,show ¬u<=1073741824 by omega]
   ·simp [h1,h2,show u<=1073741824 by omega,show now<u by omega]
theorem OI (now u:Int) (h:0<=now):(bif (u==0) then false else bif decide (0<=u) then bif decide (u<=1073741824) then decide (u<=now) else true else true)= !((u==0)||(decide (now<u)&&decide (u<=1073741824))):=by
 cases (u==0) with
 |true=>rfl
 |false=>
  by_cases h0:0<=u
  ·by_cases h1:u<=now
   ·by_cases h2:u<=1073741824
    ·simp [h0,h1,h2,show ¬now<u by omega]
    ·simp [h0,h1,h2]
   ·by_cases h2:u<=1073741824
    ·simp [h0,h1,h2,show now<u by omega]
    ·simp [h0,h1,h2]
  ·simp [h0,show ¬now<u by omega]
theorem qdl (s:iE) (i:Nat) (l:List hM) (n:Int) (x:hM) (ok:x.jG.ok) (hx:s.im[i]? =some x) (hl:s.im.length<=140737488351232):mm s (i:Int) l n x=some (!(iI x.jj&&((xy x.jG==0)&&(decide (i=0)||sT (fun a b=>pT a.jj b.jj) s.im i x)))):=by
 unfold mm
 rw [PE _ ok]
 have hf:iI x.jj=(decide (1<=(x.jj.size:Int))&&decide ((x.jj.size:Int)<=12)):=rfl
 rw [hf]
 by_cases h1:(x.jj.size:Int)<1
 ·simp [h1,show ¬1<=(x.jj.size:Int) by omega]
 by_cases h2:(12:Int)<(x.jj.size:Int)
 ·simp [h1,h2,show ¬(x.jj.size:Int)<=12 by omega]
 rw [decide_eq_false h1,decide_eq_false h2,decide_eq_true (show (1:Int)<=(x.jj.size:Int) by omega),decide_eq_true (show (x.jj.size:Int)<=12 by omega)]
 simp only [f9,cond_false,Bool.true_and]
 cases xy x.jG==0 with
 |false=>rfl
 |true=>
  simp only [f9,cond_true,Bool.true_and]
  by_cases hi:i=0
  ·subst hi;rfl
  ·obtain⟨y,e1,e2⟩:=xg hx (by omega) hl
   rw [decide_eq_true (show (0:Int)<(i:Int) by omega),cond_true,e2,decide_eq_false hi,Bool.false_or,qw e1,f9]
theorem qdS (s:iE) (i:Nat) (x:hM) (ok:x.jG.ok) (hx:s.im[i]? =some x) (hl:s.im.length<=140737488351232):lK s (i:Int) x=some (!(iI x.jj&&((xy x.jG==0)&&(decide (i=0)||sT (fun a b=>pT a.jj b.jj) s.im i x)))):=by
 unfold lK
 rw [OG _ ok]
 have hf:kz x.jj=iI x.jj:=rfl
 rw [hf]
 cases iI x.jj with
 |false=>rfl
 |true=>
  simp only [f9,cond_true,Bool.true_and]
  cases xy x.jG==0 with
  |false=>rfl
  |true=>
   simp only [f9,cond_true,Bool.true_and]
   by_cases hi:i=0
   ·subst hi;rfl
   ·obtain⟨y,e1,e2⟩:=xg hx (by omega) hl
    rw [decide_eq_true (show (0:Int)<(i:Int) by omega),cond_true,e2,decide_eq_false hi,Bool.false_or,qw e1,f9]
theorem QA (s:iE) (ok:s.ok):py s=some (bif sZ s then 0 else 13):=by
 have hl:=ok.2.1
 unfold okN at hl
 have hk:lu s= !(decide (0<=s.jv)&&(decide (s.jv<=1073741824)&&decide (s.im.length<=12))):=by
  unfold lu
  by_cases h1:s.jv<0
  ·simp [h1,show ¬0<=s.jv by omega]
  by_cases h2:1073741824<s.jv
  ·simp [h1,h2,show ¬s.jv<=1073741824 by omega]
  rw [decide_eq_false h1,decide_eq_false h2,decide_eq_true (show 0<=s.jv by omega),decide_eq_true (show s.jv<=1073741824 by omega)]
  by_cases h3:s.im.length<=12
  ·rw [decide_eq_true h3,decide_eq_false (by omega)];rfl
  ·rw [decide_eq_false h3,decide_eq_true (by omega)];rfl
 obtain⟨r,e1,e2,e3⟩:=wT (step:=mA s s.im (s.im.length:Int)) s.im (fun x=>x) (GO s.jv s.im) (fun i x hx=>by
  simp only [f9,mA,ltN (iW hx),cond_true,jo hx,qdl s i _ _ x (ok.2.2 x (List.mem_of_getElem? hx)).2.1 hx (by omega),lB,PG,kE (show i<=_ by have:=iW hx;omega),GO]
  generalize (iI x.jj&&((xy x.jG==0)&&(decide (i=0)||sT (fun a b=>pT a.jj b.jj) s.im i x)))=b1
  generalize ((x.km==0)||(decide (s.jv<x.km)&&decide (x.km<=1073741824)))=b2
  cases b1<;>cases b2<;>rfl) (by simp only [f9,mA,geN (Nat.le_refl _),cond_false])
 unfold py sZ
 rw [hk,e1]
 cases (decide (0<=s.jv)&&(decide (s.jv<=1073741824)&&decide (s.im.length<=12))) with
 |false=>rfl
 |true=>
  cases h:mG (GO s.jv s.im) 0 s.im with
  |true=>rw [e2 h];rfl
  |false=>obtain⟨y,hy⟩:=e3 h;rw [hy];rfl
theorem Pu (s:iE) (ok:s.ok):oD s=some (bif sZ s then 0 else 13):=by
 have hl:=ok.2.1
 unfold okN at hl
 have hk:kL s= !(decide (0<=s.jv)&&(decide (s.jv<=1073741824)&&decide (s.im.length<=12))):=by
  unfold kL
  cases decide (0<=s.jv) with
  |false=>rfl
  |true=>
   cases decide (s.jv<=1073741824) with
   |false=>rfl
   |true=>
    by_cases h3:s.im.length<=12
    ·rw [decide_eq_true h3,decide_eq_false (by omega)];rfl
    ·rw [decide_eq_false h3,decide_eq_true (by omega)];rfl
 unfold oD sZ
 rw [hk]
 cases hh:(decide (0<=s.jv)&&(decide (s.jv<=1073741824)&&decide (s.im.length<=12))) with
 |false=>rfl
 |true=>
  have hn:0<=s.jv:=by simp only [f9,Bool.and_eq_true,decide_eq_true_eq] at hh;omega
  obtain⟨r,e1,e2,e3⟩:=wT (step:=lU s) s.im (fun x=>x) (GO s.jv s.im) (fun i x hx=>by
   simp only [f9,lU,ltN (iW hx),cond_true,jo hx,qdS s i x (ok.2.2 x (List.mem_of_getElem? hx)).2.1 hx (by omega),lk,OI _ _ hn,kE (show i<=_ by have:=iW hx;omega),GO]
   generalize (iI x.jj&&((xy x.jG==0)&&(decide (i=0)||sT (fun a b=>pT a.jj b.jj) s.im i x)))=b1
   generalize ((x.km==0)||(decide (s.jv<x.km)&&decide (x.km<=1073741824)))=b2
   cases b1<;>cases b2<;>rfl) (by simp only [f9,lU,geN (Nat.le_refl _),cond_false])
  rw [e1]
  cases h:mG (GO s.jv s.im) 0 s.im with
  |true=>rw [e2 h];rfl
  |false=>obtain⟨y,hy⟩:=e3 h;rw [hy];rfl
def yU (r:iM):Int:=
 bif !(decide (0<=r.ky)&&decide (r.ky<=13)) then 3
 else bif !(iJ r.gi)||(decide (20<r.jW.length)||r.jW.any jM) then 1
 else bif !(i7 r.fN) then 2 else 0
theorem MX (l:List ByteArray) (hl:l.length<=140737488351232):mh l=some (l.any jM):=by
 unfold mh nc
 rw [pA (step:=kO l (l.length:Int)) (fun i=>i) l jM (fun i=>.inl (i:Int)) (.inr ()) (fun i x hx=>by
  simp only [f9,kO,ltN (iW hx),cond_true,jo hx,kE (Nat.le_trans (Nat.le_of_lt (iW hx)) (Nat.le_trans hl (by decide)))]
  cases jM x<;>rfl) (by simp only [f9,kO,geN (Nat.le_refl _),cond_false])]
 rw [<-uS jM 0 l]
 cases ol jM 0 l<;>simp [f9]
theorem sP (n k:Int):decide (k<n)= !decide (n<=k):=by
 by_cases h:n<=k
 ·rw [decide_eq_true h,decide_eq_false (by omega)];rfl
 ·rw [decide_eq_false h,decide_eq_true (by omega)];rfl
theorem Mi (n:Nat):decide ((20:Int)<(n:Int))=decide (20<n):=by
 by_cases h:20<n
 ·rw [decide_eq_true h,decide_eq_true (by omega)]
 ·rw [decide_eq_false h,decide_eq_false (by omega)]
theorem Pv (r:iM) (hl:r.jW.length<=140737488351232):tU r=some (yU r):=by
 unfold tU wh yU
 rw [MX _ hl,sP r.ky 13,sP (r.gi.size:Int) 20,Mi,sP r.fN 1099511627776]
 have e1:decide (r.ky<0)= !decide (0<=r.ky):=sP 0 r.ky
 have e2:decide (r.fN< -1099511627776)= !decide (-1099511627776<=r.fN):=sP (-1099511627776) r.fN
 rw [e1,e2]
 have e3:iJ r.gi=decide ((r.gi.size:Int)<=20):=rfl
 have e4:i7 r.fN=(decide (-1099511627776<=r.fN)&&decide (r.fN<=1099511627776)):=rfl
 rw [e3,e4]
 cases decide (0<=r.ky)<;>cases decide (r.ky<=13)<;>cases decide ((r.gi.size:Int)<=20)<;>cases decide (20<r.jW.length)<;>cases r.jW.any jM<;>cases decide (-1099511627776<=r.fN)<;>cases decide (r.fN<=1099511627776)<;>rfl
theorem Qh (r:iM) (hl:r.jW.length<=140737488351232):np r=some (yU r):=by
 have e:=pD (step:=lS r) r.jW 0 (fun _ x=>iV x) (fun i x hx hi=>by
  simp only [f9,lS,ltN (iW hx),cond_true,jo hx,kE (show i<=_ by have:=iW hx;omega)]
  cases iV x<;>rfl) (fun i hi=>by simp only [f9,lS,geN hi,cond_false])
 have e':mG (fun _ x=>iV x) 0 r.jW= !r.jW.any jM:=xG jM (fun x=>iV x) (fun x=>sP _ _) r.jW
 rw [List.drop_zero,e'] at e
 have k0:((0:Nat):Int)=0:=rfl
 rw [k0] at e
 unfold np yU
 rw [e,Mi]
 have e3:iV r.gi=iJ r.gi:=rfl
 have e4:kp r.fN=i7 r.fN:=rfl
 rw [e3,e4]
 cases decide (0<=r.ky)<;>cases decide (r.ky<=13)<;>cases iJ r.gi<;>cases decide (20<r.jW.length)<;>cases r.jW.any jM<;>cases i7 r.fN<;>rfl
def idB (next:Int) (l:List f7) (i:Nat) (x:f7):Bool:=(decide (1<=x.fId)&&decide (x.fId<next))&&(decide (i=0)||sT (fun a b=>decide (a.fId<b.fId)) l i x)
def Ac (now:Int) (x:f7):Bool:=(decide (0<=x.jT)&&decide (x.jT<=1048576))&&((decide (0<=x.i6)&&decide (x.i6<=now))&&(yU x.jd==0))
def yu (m:cc):Bool:=(sZ m.iA&&((decide (1<=m.ji)&&decide (m.ji<=1048577))&&decide (m.ir.length<=4)))&&mG (fun i x=>idB m.ji m.ir i x&&Ac m.iA.jv x) 0 m.ir
theorem Yw (m:cc) (i:Nat) (l:List f7) (n:Int) (x:f7) (hx:m.ir[i]? =some x) (hl:m.ir.length<=140737488351232):sM m (i:Int) l n x=some (!idB m.ji m.ir i x):=by
 unfold sM idB
 have e1:decide (x.fId<1)= !decide (1<=x.fId):=sP _ _
 have e2:decide (m.ji<=x.fId)= !decide (x.fId<m.ji):=by rw [sP];simp
 rw [e1,e2]
 cases decide (1<=x.fId) with
 |false=>rfl
 |true=>
  cases decide (x.fId<m.ji) with
  |false=>rfl
  |true=>
   simp only [f9,Bool.not_true,cond_false,Bool.true_and]
   by_cases hi:i=0
   ·subst hi;rfl
   ·obtain⟨y,h1,h2⟩:=xg hx (by omega) hl
    rw [decide_eq_true (show (0:Int)<(i:Int) by omega),cond_true,h2,decide_eq_false hi,Bool.false_or,qw h1,f9]
    simp only [f9,sP,Bool.not_not]
theorem qao (m:cc) (l:List f7) (n:Int) (j:Int) (x:f7) (hl:x.jd.jW.length<=140737488351232):sU m l n j x=some (!Ac m.iA.jv x):=by
 unfold sU Ac
 rw [Pv _ hl]
 have e1:decide (x.jT<0)= !decide (0<=x.jT):=sP _ _
 have e2:decide (x.i6<0)= !decide (0<=x.i6):=sP _ _
 rw [e1,e2,sP x.jT 1048576,sP x.i6 m.iA.jv]
 cases decide (0<=x.jT)<;>cases decide (x.jT<=1048576)<;>cases decide (0<=x.i6)<;>cases decide (x.i6<=m.iA.jv)<;>rfl
theorem ZE (m:cc) (i:Nat) (x:f7) (hx:m.ir[i]? =some x) (hl:m.ir.length<=140737488351232) (hr:x.jd.jW.length<=140737488351232) (hn:m.ji<=1048577):lc m (i:Int) x=some (!(idB m.ji m.ir i x&&Ac m.iA.jv x)):=by
 unfold lc m6 m0 idB Ac
 rw [Qh _ hr]
 have e0:jl x.fId=(decide (1<=x.fId)&&decide (x.fId<=1048576)):=rfl
 have e2:decide (m.ji<=x.fId)= !decide (x.fId<m.ji):=by rw [sP];simp
 rw [e0,e2]
 cases decide (1<=x.fId) with
 |false=>rfl
 |true=>
  by_cases h1:x.fId<m.ji
  ·rw [decide_eq_true h1,decide_eq_true (show x.fId<=1048576 by omega)]
   simp only [f9,Bool.and_self,cond_true,Bool.not_true,cond_false,Bool.true_and]
   by_cases hi:i=0
   ·subst hi
    rw [decide_eq_false (by omega)]
    simp only [f9,cond_false,decide_true,Bool.true_or,Bool.true_and]
    cases decide (0<=x.jT)<;>cases decide (x.jT<=1048576)<;>cases decide (0<=x.i6)<;>cases decide (x.i6<=m.iA.jv)<;>rfl
   ·obtain⟨y,h3,h4⟩:=xg hx (by omega) hl
    rw [decide_eq_true (show (0:Int)<(i:Int) by omega),cond_true,h4,decide_eq_false hi,Bool.false_or,qw h3,f9]
    have e9:decide (x.fId<=y.fId)= !decide (y.fId<x.fId):=by rw [sP];simp
    simp only [f9,e9]
    cases decide (y.fId<x.fId)<;>cases decide (0<=x.jT)<;>cases decide (x.jT<=1048576)<;>cases decide (0<=x.i6)<;>cases decide (x.i6<=m.iA.jv)<;>rfl
  ·rw [decide_eq_false h1]
   cases decide (x.fId<=1048576)<;>rfl
theorem Jk (m:cc) (ok:m.ok):clC m=some (bif yu m then 0 else 13):=by
 obtain⟨o1,o2,o3,o4⟩:=ok
 unfold okN at o3
 have hk:vi m=some (!(sZ m.iA&&((decide (1<=m.ji)&&decide (m.ji<=1048577))&&decide (m.ir.length<=4)))):=by
  unfold vi
  rw [QA _ o1]
  have e1:decide (m.ji<1)= !decide (1<=m.ji):=sP _ _
  have e3:decide ((4:Int)<(m.ir.length:Int))= !decide (m.ir.length<=4):=by
   by_cases h:m.ir.length<=4
   ·rw [decide_eq_true h,decide_eq_false (by omega)];rfl
   ·rw [decide_eq_false h,decide_eq_true (by omega)];rfl
  rw [e1,e3,sP m.ji 1048577]
  cases sZ m.iA<;>cases decide (1<=m.ji)<;>cases decide (m.ji<=1048577)<;>cases decide (m.ir.length<=4)<;>rfl
 unfold clC yu
 rw [hk]
 cases (sZ m.iA&&((decide (1<=m.ji)&&decide (m.ji<=1048577))&&decide (m.ir.length<=4))) with
 |false=>rfl
 |true=>
  obtain⟨r,e1,e2,e3⟩:=wT (step:=uV m m.ir (m.ir.length:Int)) m.ir (fun x=>x) (fun i x=>idB m.ji m.ir i x&&Ac m.iA.jv x) (fun i x hx=>by
   have hxo:=o4 x (List.mem_of_getElem? hx)
   have hxl:=hxo.2.2.2.2.2.2.1
   unfold okN at hxl
   simp only [f9,uV,ltN (iW hx),cond_true,jo hx,Yw m i _ _ x hx (by omega),qao m _ _ _ x (by omega),kE (show i<=_ by have:=iW hx;omega)]
   cases idB m.ji m.ir i x<;>cases Ac m.iA.jv x<;>rfl) (by simp only [f9,uV,geN (Nat.le_refl _),cond_false])
  simp only [f9,Bool.not_true,cond_false,Bool.true_and]
  rw [e1]
  cases h:mG (fun i x=>idB m.ji m.ir i x&&Ac m.iA.jv x) 0 m.ir with
  |true=>rw [e2 h];rfl
  |false=>obtain⟨y,hy⟩:=e3 h;rw [hy];rfl
theorem T2 (m:cc) (ok:m.ok):mP m=some (bif yu m then 0 else 13):=by
 obtain⟨o1,o2,o3,o4⟩:=ok
 unfold okN at o3
 have hk:lL m=some (!(sZ m.iA&&((decide (1<=m.ji)&&decide (m.ji<=1048577))&&decide (m.ir.length<=4)))):=by
  unfold lL
  rw [Pu _ o1]
  have e3:decide ((4:Int)<(m.ir.length:Int))= !decide (m.ir.length<=4):=by
   by_cases h:m.ir.length<=4
   ·rw [decide_eq_true h,decide_eq_false (by omega)];rfl
   ·rw [decide_eq_false h,decide_eq_true (by omega)];rfl
  rw [e3]
  cases sZ m.iA<;>cases decide (1<=m.ji)<;>cases decide (m.ji<=1048577)<;>cases decide (m.ir.length<=4)<;>rfl
 unfold mP yu
 rw [hk]
 cases hh:(sZ m.iA&&((decide (1<=m.ji)&&decide (m.ji<=1048577))&&decide (m.ir.length<=4))) with
 |false=>rfl
 |true=>
  have hn:m.ji<=1048577:=by simp only [f9,Bool.and_eq_true,decide_eq_true_eq] at hh;omega
  obtain⟨r,e1,e2,e3⟩:=wT (step:=lr m) m.ir (fun x=>x) (fun i x=>idB m.ji m.ir i x&&Ac m.iA.jv x) (fun i x hx=>by
   have hxo:=o4 x (List.mem_of_getElem? hx)
   have hxl:=hxo.2.2.2.2.2.2.1
   unfold okN at hxl
   simp only [f9,lr,ltN (iW hx),cond_true,jo hx,ZE m i x hx (by omega) (by omega) hn,kE (show i<=_ by have:=iW hx;omega)]
   cases (idB m.ji m.ir i x&&Ac m.iA.jv x)<;>rfl) (by simp only [f9,lr,geN (Nat.le_refl _),cond_false])
  simp only [f9,Bool.not_true,cond_false,Bool.true_and]
  rw [e1]
  cases h:mG (fun i x=>idB m.ji m.ir i x&&Ac m.iA.jv x) 0 m.ir with
  |true=>rw [e2 h];rfl
  |false=>obtain⟨y,hy⟩:=e3 h;rw [hy];rfl
theorem GL (s:ByteArray):kz s=iI s:=rfl
theorem I9 (s:ByteArray):iV s=iJ s:=rfl
theorem HA (n:Int):kp n=i7 n:=rfl
theorem FL (n:Int):jl n=lv n:=rfl
def Qm (q:Int) (et ef ek en k f x n:Bool):Int:=
 bif !(decide (1<=q)&&decide (q<=22)) then 3
 else bif (!(q==1||q==4||q==7||q==8||(decide (11<=q)&&decide (q<=16)))&& !et)||(!(decide (4<=q)&&decide (q<=6))&& !ef)||(!(q==3||q==14||q==20)&& !en)||(q==22&& !ek) then 8
 else bif (!(q==22)&& !k)||((decide (4<=q)&&decide (q<=6))&& !f)|| !x then 1
 else bif !n then 2 else 0
def LY (c:f5):Int:=Qm c.af (cY c.gi ByteArray.empty) (cY c.iv ByteArray.empty) (cY c.jj ByteArray.empty) (c.fN==0) (iI c.jj) (iI c.iv) (iJ c.gi) (i7 c.fN)
theorem Ol {q:Int} (h: ¬(q<1∨22<q)):q=1∨q=2∨q=3∨q=4∨q=5∨q=6∨q=7∨q=8∨q=9∨q=10∨q=11∨q=12∨q=13∨q=14∨q=15∨q=16∨q=17∨q=18∨q=19∨q=20∨q=21∨q=22:=by omega
theorem qdR (c:f5) (q:Int) (k:ByteArray) (h: ¬(q<1∨22<q)):jw c q k=⟨q,bif (q==22) then ByteArray.empty else k,bif (decide (4<=q)&&decide (q<=6)) then c.iv else ByteArray.empty,bif (q==1||q==4||q==7||q==8||(decide (11<=q)&&decide (q<=16))) then c.gi else ByteArray.empty,bif (q==3||q==14||q==20) then c.fN else 0⟩:=by
 rcases Ol h with rfl|rfl|rfl|rfl|rfl|rfl|rfl|rfl|rfl|rfl|rfl|rfl|rfl|rfl|rfl|rfl|rfl|rfl|rfl|rfl|rfl|rfl<;>rfl
theorem M8 (a b:ByteArray) (c:Bool):cY a (bif c then a else b)=(c||cY a b):=by
 cases c with
 |true=>exact wO a
 |false=>rfl
theorem Qk (n:Int) (c:Bool):(n==bif c then n else 0)=(c||(n==0)):=by
 cases c with
 |true=>exact beq_self_eq_true n
 |false=>rfl
theorem Lv (a b:ByteArray) (c:Bool):cY a (bif c then b else a)=(!c||cY a b):=by
 cases c with
 |false=>exact wO a
 |true=>rfl
theorem C3 (c:f5):pW c=LY c:=by
 unfold pW th LY
 by_cases h:c.af<1∨22<c.af
 ·have e0:(decide (1<=c.af)&&decide (c.af<=22))=false:=by
   rw [Bool.and_eq_false_iff,decide_eq_false_iff_not,decide_eq_false_iff_not];omega
  simp only [f9,Qm,e0,Bool.not_false,cond_true]
  rcases h with h|h
  ·rw [decide_eq_true h];rfl
  ·cases decide (c.af<1)<;>simp [decide_eq_true h]
 ·rw [qdR c _ _ h]
  simp only [f9,M8,Lv,Qk,beq_self_eq_true,mn,ov]
  generalize cY c.gi ByteArray.empty=et
  generalize cY c.iv ByteArray.empty=ef
  generalize cY c.jj ByteArray.empty=ek
  generalize (c.fN==0)=en
  generalize iI c.jj=k
  generalize iI c.iv=f
  generalize iJ c.gi=x
  generalize i7 c.fN=n
  generalize c.af=q at h⊢
  rcases Ol h with rfl|rfl|rfl|rfl|rfl|rfl|rfl|rfl|rfl|rfl|rfl|rfl|rfl|rfl|rfl|rfl|rfl|rfl|rfl|rfl|rfl|rfl<;>(revert et ef ek en k f x n;decide)
theorem Lh (c:f5):mD c=LY c:=by
 simp only [f9,mD,i5,jY,mT,mS,mW,kU,lf,LY,GL,I9,HA]
 generalize cY c.gi ByteArray.empty=et
 generalize cY c.iv ByteArray.empty=ef
 generalize cY c.jj ByteArray.empty=ek
 generalize (c.fN==0)=en
 generalize iI c.jj=k
 generalize iI c.iv=f
 generalize iJ c.gi=x
 generalize i7 c.fN=n
 generalize c.af=q
 by_cases h:q<1∨22<q
 ·have e: ∀j:Int,1<=j->j<=22->(q==j)=false:=fun j h1 h2=>by rw [beq_eq_false_iff_ne];omega
  have e0:(decide (1<=q)&&decide (q<=22))=false:=by
   rw [Bool.and_eq_false_iff,decide_eq_false_iff_not,decide_eq_false_iff_not];omega
  simp only [f9,e 1 (by decide) (by decide),e 2 (by decide) (by decide),e 3 (by decide) (by decide),e 4 (by decide) (by decide),e 5 (by decide) (by decide),e 6 (by decide) (by decide),e 7 (by decide) (by decide),e 8 (by decide) (by decide),e 9 (by decide) (by decide),e 10 (by decide) (by decide),e 11 (by decide) (by decide),e 12 (by decide) (by decide),e 13 (by decide) (by decide),e 14 (by decide) (by decide),e 15 (by decide) (by decide),e 16 (by decide) (by decide),e 17 (by decide) (by decide),e 18 (by decide) (by decide),e 19 (by decide) (by decide),e 20 (by decide) (by decide),e 21 (by decide) (by decide),e 22 (by decide) (by decide),cond_false,Qm,e0,Bool.not_false,cond_true]
  rcases h with h|h
  ·simp [show ¬1<=q by omega]
  ·cases decide (1<=q)<;>simp [show ¬q<=22 by omega]
 ·rcases Ol h with rfl|rfl|rfl|rfl|rfl|rfl|rfl|rfl|rfl|rfl|rfl|rfl|rfl|rfl|rfl|rfl|rfl|rfl|rfl|rfl|rfl|rfl<;>(revert et ef ek en k f x n;decide)
theorem Pt (c:jB):oT c=rU c:=by
 simp only [f9,oT,rT,rU,tw,FL,C3,Lh]
theorem Pk (x:iX):oR x=jn x:=by
 simp only [f9,oR,rW,jn,nK,j0,Pt,jl]
 by_cases h1:x.iO<1
 ·simp [h1,show ¬1<=x.iO by omega]
 ·by_cases h2:1048576<x.iO
  ·simp [h1,h2,show ¬x.iO<=1048576 by omega]
  ·by_cases h3:x.i6<0
   ·simp [h1,h2,h3,show ¬0<=x.i6 by omega,show 1<=x.iO by omega,show x.iO<=1048576 by omega]
   ·by_cases h4:1073741824<x.i6
    ·simp [h1,h2,h3,h4,show 0<=x.i6 by omega,show ¬x.i6<=1073741824 by omega,show 1<=x.iO by omega,show x.iO<=1048576 by omega]
    ·simp [h1,h2,h3,h4,show 0<=x.i6 by omega,show x.i6<=1073741824 by omega,show 1<=x.iO by omega,show x.iO<=1048576 by omega]
structure GH (c:f5):Prop where
 kind:1<=c.af/\c.af<=22
 key:(c.jj.size:Int)<=12
 field:(c.iv.size:Int)<=12
 text:(c.gi.size:Int)<=20
 num: -1099511627776<=c.fN/\c.fN<=1099511627776
theorem Nq {a b:ByteArray} :cY a b=true↔a=b:=by
 unfold cY
 rw [ByteArray.toList_eq,ByteArray.toList_eq]
 constructor
 ·intro h
  have h1:a.data.toList=b.data.toList:=by simpa using h
  cases a;cases b
  simp only [f9,ByteArray.mk.injEq]
  exact Array.ext' h1
 ·rintro rfl;exact beq_self_eq_true _
theorem IK {s:ByteArray} (h:cY s ByteArray.empty=true):s.size=0:=by
 rw [Nq.1 h];rfl
theorem MZ {c:Bool} {a b:Int} (ha:a≠0) (h:(bif c then a else b)=0):c=false/\b=0:=by
 cases c with
 |true=>exact absurd h ha
 |false=>exact⟨rfl,h⟩
theorem Va {c:f5} (h:LY c=0):GH c:=by
 unfold LY Qm at h
 obtain⟨h1,h⟩:=MZ (by decide) h
 obtain⟨h2,h⟩:=MZ (by decide) h
 obtain⟨h3,h⟩:=MZ (by decide) h
 obtain⟨h4,_⟩:=MZ (by decide) h
 simp only [f9,Bool.not_eq_false',Bool.and_eq_true,decide_eq_true_eq] at h1
 simp only [f9,Bool.or_eq_false_iff,Bool.and_eq_false_iff,Bool.not_eq_false',decide_eq_false_iff_not] at h2 h3
 simp only [f9,Bool.not_eq_false',i7,Bool.and_eq_true,decide_eq_true_eq] at h4
 have hf: ∀s:ByteArray,iI s=true->(s.size:Int)<=12:=by
  intro s hs
  simp only [f9,iI,Bool.and_eq_true,decide_eq_true_eq] at hs
  exact hs.2
 have he: ∀s:ByteArray,cY s ByteArray.empty=true->(s.size:Int)<=12:=fun s hs=>by rw [IK hs];decide
 refine⟨h1,?_,?_,?_,h4⟩
 ·rcases h3.1.1 with hk|hk
  ·rcases h2.2 with h5|h5
   ·rw [hk] at h5;cases h5
   ·exact he _ h5
  ·exact hf _ hk
 ·rcases h3.1.2 with hk|hk
  ·rcases h2.1.1.2 with h5|h5
   ·simp only [f9,Bool.and_eq_true,decide_eq_true_eq] at h5
    rcases hk with hk|hk
    ·exact absurd h5.1 hk
    ·exact absurd h5.2 hk
   ·exact he _ h5
  ·exact hf _ hk
 ·have:=h3.2
  simp only [f9,iJ,decide_eq_true_eq] at this
  exact this
structure Ga (x:iX):Prop where
 term:1<=x.iO/\x.iO<=1048576
 time:0<=x.i6/\x.i6<=1073741824
 client:0<=x.iz.iP/\x.iz.iP<=1048576
 seq:x.tj=false->x.iz.iP≠0->1<=x.iz.jT/\x.iz.jT<=1048576
 cmd:x.tj=false->x.iz.iP≠0->GH x.iz.bt
theorem Kc {x:iX} (h:jn x=0):Ga x:=by
 have q:j0 x=(decide (x.iO<1)||(decide (1048576<x.iO)||(decide (x.i6<0)||decide (1073741824<x.i6)))):=by
  unfold j0
  simp only [f9,Bool.cond_true_left]
 simp only [f9,jn,nK,rU,tw,C3] at h
 obtain⟨h0,h⟩:=MZ (by decide) h
 rw [q,Bool.or_eq_false_iff,Bool.or_eq_false_iff,Bool.or_eq_false_iff] at h0
 obtain⟨h1,h2,h3,h4⟩:=h0
 simp only [f9,decide_eq_false_iff_not] at h1 h2 h3 h4
 cases hn:x.tj with
 |true=>
  rw [hn,cond_true] at h
  cases hc:(x.iz.iP==0) with
  |false=>rw [hc] at h;cases h
  |true=>
   have:x.iz.iP=0:=by simpa using hc
   exact⟨by omega,by omega,by omega,fun h=>(by rw [hn] at h;cases h),fun h=>(by rw [hn] at h;cases h)⟩
 |false=>
  rw [hn,cond_false] at h
  cases hc:(x.iz.iP==0) with
  |true=>
   have:x.iz.iP=0:=by simpa using hc
   exact⟨by omega,by omega,by omega,fun _ h=>absurd this h,fun _ h=>absurd this h⟩
  |false=>
   rw [hc,cond_false] at h
   cases h5:lv x.iz.iP with
   |false=>rw [h5] at h;cases h
   |true=>
    rw [h5,cond_true] at h
    cases h6:lv x.iz.jT with
    |false=>rw [h6] at h;cases h
    |true=>
     rw [h6,cond_true] at h
     simp only [f9,lv,Bool.and_eq_true,decide_eq_true_eq] at h5 h6
     exact⟨by omega,by omega,by omega,fun _ _=>h6,fun _ _=>Va h⟩
theorem jy (a b:List Int) (hf:(a.length:Int)+b.length<=140737488355328):je a b=some (a++b):=by
 have l0: ∀(suf pre:List Int),a=pre++suf->cM (oX a b) (pre,(pre.length:Int))=some a:=by
  intro suf
  induction suf with
  |nil=>
   intro pre h
   simp at h;subst h
   exact pZ (by simp [oX])
  |cons x suf ih=>
   intro pre h
   have:=ih (pre++ [x]) (by simp [h])
   rw [uc (a':=(pre++ [x],((pre++ [x]).length:Int)))]
   ·exact this
   ·have h1:decide ((pre.length:Int)<(a.length:Int))=true:=decide_eq_true (by rw [h];simp;omega)
    have h2:idx a (pre.length:Int)=some x:=by rw [h];exact Ao _ _ _
    have h3:dh (pre.length+1) 1=true:=ko (by rw [h] at hf;simp at hf;omega)
    have h4:IntKind.i64.wrap ((pre.length:Int)+1)=((pre++ [x]).length:Int):=by
     rw [nr]<;>(rw [h] at hf;simp at hf⊢;try omega)
    simp only [f9,oX,h1,h2,h3,h4,cond_true]
 have l2: ∀(suf pre:List Int),b=pre++suf->cM (oU b) (a++pre,(pre.length:Int))=some (a++b):=by
  intro suf
  induction suf with
  |nil=>
   intro pre h
   simp at h;subst h
   exact pZ (by simp [oU])
  |cons x suf ih=>
   intro pre h
   have:=ih (pre++ [x]) (by simp [h])
   rw [uc (a':=(a++(pre++ [x]),((pre++ [x]).length:Int)))]
   ·exact this
   ·have h1:decide ((pre.length:Int)<(b.length:Int))=true:=decide_eq_true (by rw [h];simp;omega)
    have h2:idx b (pre.length:Int)=some x:=by rw [h];exact Ao _ _ _
    have h3:dh ((a++pre).length+1) 1=true:=ko (by rw [h] at hf;simp at hf⊢;omega)
    have h4:IntKind.i64.wrap ((pre.length:Int)+1)=((pre++ [x]).length:Int):=by
     rw [nr]<;>(rw [h] at hf;simp at hf⊢;try omega)
    simp only [f9,oU,h1,h2,h3,h4,cond_true,List.append_assoc]
 unfold je
 have e0:=l0 a [] rfl
 have e2:=l2 b [] rfl
 simp only [f9,List.length_nil,Int.cast_ofNat_Int,List.append_nil] at e0 e2
 rw [e0]
 simp only [f9]
 rw [e2,f9]
theorem Bo (a b:Int) (h:0<=b):Int.fdiv a b=a / b:=Int.fdiv_eq_ediv_of_nonneg a h
theorem nj (n:Int) (w:bi) (h:Wj n) (hf:(w.fb.length:Int)+8<=140737488355328):kP n w=some ⟨w.fb++rv n⟩:=by
 obtain⟨h1,h2⟩:=h
 have e0:IntKind.u64.wrap (IntKind.i64.wrap (n+4611686018427387904))=n+4611686018427387904:=by
  rw [nr (by omega) (by omega),PM (by omega) (by omega)]
 have fit: ∀(l:List Int),(l.length:Int)<(w.fb.length:Int)+8->dh (l.length+1) 1=true:=fun l hl=>ko (by omega)
 have st: ∀(s:Int) (v:bi) (k:Int),0<=s->s<=56->(2:Int) ^ (min s.toNat IntKind.u64.bits)=k->0<=k->(v.fb.length:Int)<(w.fb.length:Int)+8->
   cM (nA (n+4611686018427387904)) (s,v)=cM (nA (n+4611686018427387904)) (s-8,⟨v.fb++ [(n+4611686018427387904) / k % 256]⟩):=by
  intro s v k hs hs2 hk hk0 hl
  refine uc ?_
  simp only [f9,nA,decide_eq_true hs,fit v.fb hl,cond_true,hk,qs,Bo _ _ hk0]
  rw [nr (by omega) (by omega)]
 unfold kP
 rw [e0]
 rw [st 56 w 72057594037927936 (by omega) (by omega) rfl (by omega) (by omega)]
 rw [show (56:Int)-8=48 from rfl,st 48 _ 281474976710656 (by omega) (by omega) rfl (by omega) (by simp<;>omega)]
 rw [show (48:Int)-8=40 from rfl,st 40 _ 1099511627776 (by omega) (by omega) rfl (by omega) (by simp<;>omega)]
 rw [show (40:Int)-8=32 from rfl,st 32 _ 4294967296 (by omega) (by omega) rfl (by omega) (by simp<;>omega)]
 rw [show (32:Int)-8=24 from rfl,st 24 _ 16777216 (by omega) (by omega) rfl (by omega) (by simp<;>omega)]
 rw [show (24:Int)-8=16 from rfl,st 16 _ 65536 (by omega) (by omega) rfl (by omega) (by simp<;>omega)]
 rw [show (16:Int)-8=8 from rfl,st 8 _ 256 (by omega) (by omega) rfl (by omega) (by simp<;>omega)]
 rw [show (8:Int)-8=0 from rfl,st 0 _ 1 (by omega) (by omega) rfl (by omega) (by simp<;>omega)]
 rw [pZ (b:=⟨w.fb++rv n⟩) (by simp [nA,rv]),f9]
theorem rf (n:Int) (w:bi) (hf:(w.fb.length:Int)+1<=140737488355328):ni n w=some ⟨w.fb++ [n % 256]⟩:=by
 unfold ni
 simp only [f9,ko (n:=w.fb.length+1) (b:=1) (by omega),qs,cond_true]
theorem uF (s:ByteArray) (w:bi) (hf:(w.fb.length:Int)+1+s.size<=140737488355328):qn s w=some ⟨w.fb++uB s⟩:=by
 unfold qn
 rw [rf _ _ (by omega),f9]
 have:dh ((w.fb++ [(s.size:Int) % 256]).length+(byL s).length) 1=true:=ko (by rw [Gd];simp;omega)
 simp only [f9,this,cond_true,uB,List.append_assoc,List.singleton_append]
theorem pj (n:Int) (h:Wj n):lV n=some (rv n):=by
 obtain⟨h1,h2⟩:=h
 have st: ∀(u:Int) (l:List Int) (i:Nat),0<=u->u<9223372036854775808->l.length=8->i<8->
   cM oh (u,l,(i:Int))=cM oh (u / 256,l.set i (u % 256),(i:Int)-1):=by
  intro u l i hu hu2 hl hi
  refine uc ?_
  have e1:decide (0<=(i:Int))=true:=decide_eq_true (by omega)
  have e2:ltB (i:Int) (l.length:Int)=true:=decide_eq_true (by omega)
  obtain⟨x,e3⟩: ∃x,l[i]? =some x:=⟨l[i],List.getElem?_eq_getElem (by omega)⟩
  have e4:u.tdiv 256=u / 256:=Int.tdiv_eq_ediv_of_nonneg hu
  have e5:u.tmod 256=u % 256:=Int.tmod_eq_emod_of_nonneg hu
  have e6:IntKind.i64.wrap (u / 256)=u / 256:=nr (by omega) (by omega)
  have e7:u % 256 % 256=u % 256:=by omega
  simp only [f9,oh,e1,e2,jo e3,e4,e5,e6,qs,e7,cond_true,ud,Int.toNat_natCast]
  rw [nr (by omega) (by omega)]
 unfold lV
 rw [nr (by omega) (by omega)]
 generalize hu:n+4611686018427387904=u
 have hu0:0<=u:=by omega
 have hu1:u<9223372036854775808:=by omega
 rw [show List.replicate (8:Int).toNat (0:Int)= [0,0,0,0,0,0,0,0] from rfl]
 have q:=st u [0,0,0,0,0,0,0,0] 7 hu0 hu1 rfl (by omega)
 rw [show ((7:Nat):Int)=7 from rfl] at q
 rw [q,show (7:Int)-1=((6:Nat):Int) from rfl,st _ _ 6 (by omega) (by omega) rfl (by omega),show ((6:Nat):Int)-1=((5:Nat):Int) from rfl,st _ _ 5 (by omega) (by omega) rfl (by omega),
  show ((5:Nat):Int)-1=((4:Nat):Int) from rfl,st _ _ 4 (by omega) (by omega) rfl (by omega),show ((4:Nat):Int)-1=((3:Nat):Int) from rfl,st _ _ 3 (by omega) (by omega) rfl (by omega),
  show ((3:Nat):Int)-1=((2:Nat):Int) from rfl,st _ _ 2 (by omega) (by omega) rfl (by omega),show ((2:Nat):Int)-1=((1:Nat):Int) from rfl,st _ _ 1 (by omega) (by omega) rfl (by omega),
  show ((1:Nat):Int)-1=((0:Nat):Int) from rfl,st _ _ 0 (by omega) (by omega) rfl (by omega)]
 rw [pZ (b:=rv n),f9]
 simp only [f9,oh]
 have e1:decide (0<=((0:Nat):Int)-1)=false:=by decide
 rw [e1]
 simp only [f9,cond_false,List.set_cons_zero,List.set_cons_succ,rv,hu,Option.some.injEq,Sum.inr.injEq,Prod.mk.injEq,List.cons.injEq,true_and,and_true]
 refine⟨?_,?_,?_,?_,?_,?_⟩<;>omega
theorem mp (s:ByteArray) (hf:(s.size:Int)+1<=140737488355328):kd s=some (uB s):=by
 unfold kd
 rw [jy _ _ (by rw [Gd];simp;omega)]
 simp [uB,qs,f9]
def Jl (c:f5):List Int:=c.af % 256::(uB c.jj++(uB c.iv++(uB c.gi++rv c.fN)))
def zT (c:jB):List Int:=rv c.iP++bif c.iP==0 then [] else rv c.jT++Jl c.bt
def tN (x:iX):List Int:=rv x.iO++(rv x.i6++bif x.tj then [1] else 0::zT x.iz)
theorem N3 {c:f5} (h:GH c):((Jl c).length:Int)<=56:=by
 have:=h.key;have:=h.field;have:=h.text
 simp only [f9,Jl,List.length_cons,List.length_append,iT,iH]
 omega
theorem LZ {c:f5} (h:GH c) (w:bi) (hf:(w.fb.length:Int)+56<=140737488355328):rS c w=some ⟨w.fb++Jl c⟩:=by
 have h1:=h.key;have h2:=h.field;have h3:=h.text;have h4:=h.num
 unfold rS
 rw [rf _ _ (by omega)]
 simp only [f9]
 rw [uF _ _ (by simp;omega)]
 simp only [f9]
 rw [uF _ _ (by simp [iT];omega)]
 simp only [f9]
 rw [uF _ _ (by simp [iT];omega)]
 simp only [f9]
 rw [nj _ _ ⟨by omega,by omega⟩ (by simp [iT];omega)]
 simp [f9,Jl]
theorem S9 {c:jB} (w:bi) (h1:0<=c.iP/\c.iP<=1048576) (h2:c.iP≠0->1<=c.jT/\c.jT<=1048576) (h3:c.iP≠0->GH c.bt) (hf:(w.fb.length:Int)+80<=140737488355328):xw c w=some ⟨w.fb++zT c⟩:=by
 unfold xw sK
 rw [nj _ _ ⟨by omega,by omega⟩ (by omega)]
 simp only [f9]
 by_cases hc:c.iP=0
 ·simp [f9,hc,zT]
 ·have hp:0<c.iP:=by omega
  have h4:=h2 hc
  have hb:(c.iP==0)=false:=by simpa using hc
  simp only [f9,decide_eq_true hp,cond_true]
  rw [nj _ _ ⟨by omega,by omega⟩ (by simp [iH];omega)]
  simp only [f9]
  rw [LZ (h3 hc) _ (by simp [iH];omega)]
  simp [f9,zT,hb]
theorem WX {x:iX} (h:Ga x) (w:bi) (hf:(w.fb.length:Int)+100<=140737488355328):xo x w=some ⟨w.fb++tN x⟩:=by
 have h1:=h.term;have h2:=h.time
 unfold xo
 rw [nj _ _ ⟨by omega,by omega⟩ (by omega)]
 simp only [f9]
 rw [nj _ _ ⟨by omega,by omega⟩ (by simp [iH];omega)]
 simp only [f9]
 cases hn:x.tj with
 |true=>
  simp only [f9,cond_true]
  rw [rf _ _ (by simp [iH];omega)]
  simp [f9,tN,hn]
 |false=>
  simp only [f9,cond_false]
  rw [rf _ _ (by simp [iH];omega)]
  simp only [f9]
  rw [S9 _ h.client (h.seq hn) (h.cmd hn) (by simp [iH];omega)]
  simp [f9,tN,hn]
theorem G5 {x:iX} (h:Ga x):pI x=some (tN x):=by
 have h1:=h.term;have h2:=h.time;have h3:=h.client
 simp only [f9,pI,ue,tQ]
 rw [pj _ ⟨by omega,by omega⟩,pj _ ⟨by omega,by omega⟩]
 simp only [f9]
 rw [jy _ _ (by simp [iH])]
 simp only [f9]
 have f1:dh ((rv x.iO++rv x.i6).length+1) 1=true:=ko (by simp [iH])
 rw [f1]
 simp only [f9,cond_true]
 cases hn:x.tj with
 |true=>simp [tN,hn]
 |false=>
  simp only [f9,cond_false]
  rw [pj _ ⟨by omega,by omega⟩]
  simp only [f9]
  rw [jy _ _ (by simp [iH])]
  simp only [f9]
  cases hc:(x.iz.iP==0) with
  |true=>simp [tN,zT,hn,hc]
  |false=>
   have hc':x.iz.iP≠0:=by simpa using hc
   have h4:=h.seq hn hc'
   have h5:=h.cmd hn hc'
   have k1:=h5.key;have k2:=h5.field;have k3:=h5.text;have k4:=h5.num
   simp only [f9,cond_false]
   rw [pj _ ⟨by omega,by omega⟩]
   simp only [f9]
   rw [jy _ _ (by simp [iH])]
   simp only [f9]
   have f2:dh ((((rv x.iO++rv x.i6++ [0])++rv x.iz.iP)++rv x.iz.jT).length+1) 1=true:=ko (by simp [iH])
   rw [f2]
   simp only [f9,cond_true]
   rw [mp _ (by omega),mp _ (by omega),mp _ (by omega)]
   simp only [f9]
   rw [jy _ _ (by simp [iH,iT];omega)]
   simp only [f9]
   rw [jy _ _ (by simp [iH,iT];omega)]
   simp only [f9]
   rw [jy _ _ (by simp [iH,iT];omega)]
   simp only [f9]
   rw [pj _ ⟨by omega,by omega⟩]
   simp only [f9]
   rw [jy _ _ (by simp [iH,iT];omega)]
   simp [f9,tN,zT,Jl,hn,hc,qs]
theorem KL (n:Int) (l:List Int):oi (n::l)=(decide (0<=n/\n<256)&&oi l):=rfl
theorem Oc:oi []=true:=rfl
theorem Ih (x:iX):oi (tN x)=true:=by
 have h:decide (0<=x.iz.bt.af % 256/\x.iz.bt.af % 256<256)=true:=decide_eq_true (by omega)
 unfold tN zT Jl
 cases x.tj<;>cases (x.iz.iP==0)<;>simp only [f9,qy,tH,q9,KL,Oc,h,cond_true,cond_false,Bool.and_true,Bool.and_self,Bool.true_and,List.append_nil]<;>rfl
theorem FY (x:iX):lz x=some (bif jn x==0 then tN x else [],jn x):=by
 unfold lz
 cases h:(jn x==0) with
 |false=>rfl
 |true=>
  have h0:jn x=0:=by simpa using h
  rw [cond_true,WX (Kc h0) ⟨[]⟩ (by decide),h0]
  simp [f9]
theorem nz {α τ R:Type} {step:τ->Option (τ⊕R)} (mk:Int->List Int->τ) (l:List α) (g:α->List Int) (M B:Nat) (hg: ∀x∈l,(g x).length<=M) (e:List Int->R)
  (hs: ∀(i:Nat) x (w:List Int),l[i]? =some x->w.length<=B+i*M->step (mk i w)=some (.inl (mk ((i+1:Nat):Int) (w++g x))))
  (he: ∀w,step (mk l.length w)=some (.inr (e w))) (w0:List Int) (h0:w0.length<=B):cM step (mk 0 w0)=some (e (w0++l.flatMap g)):=by
 have h:=tE (step:=step) l mk (fun i w=>i<=l.length/\w.length<=B+i*M) (fun i x w=>.inl (w++g x)) e (fun i x w hx hi=>hs i x w hx hi.2) (fun i x w w' hx hi hf=>by
  have:=iW hx
  have hm:=hg x (List.mem_of_getElem? hx)
  simp only [Sum.inl.injEq] at hf
  refine⟨by omega,?_⟩
  rw [<-hf,List.length_append,Nat.succ_mul];omega) (fun i w hl hi=>by rw [Nat.le_antisymm hi.1 hl];exact he w) 0 w0 ⟨Nat.zero_le _,by omega⟩
 refine h.trans ?_
 congr 1
 have: ∀(m:List α) (w:List Int) (j:Nat),run (fun i x w=>(.inl (w++g x):List Int⊕R)) e j m w=e (w++m.flatMap g):=by
  intro m
  induction m with
  |nil=>intro w j;simp [run]
  |cons x m ih=>intro w j;simp only [run];rw [ih];simp
 exact this _ _ _
def xl (l:List ByteArray):List Int:=(l.length:Int) % 256::l.flatMap uB
def wk (p:iw):List Int:=uB p.iv++uB p.gi
def vG (s:ae):List Int:=uB s.iU++rv s.fN
def ET (v:ad):List Int:=v.af % 256::(uB v.gi++(rv v.i8++((v.iD.length:Int) % 256::v.iD.flatMap wk++(xl v.iG++((v.cO.length:Int) % 256::v.cO.flatMap vG)))))
def ui (x:hM):List Int:=uB x.jj++(ET x.jG++rv x.km)
def tz (c:f7):List Int:=rv c.fId++(rv c.jT++(rv c.i6++(c.jd.ky % 256::(uB c.jd.gi++(rv c.jd.fN++xl c.jd.jW)))))
def vO (m:cc):List Int:=rv m.iA.jv++((m.iA.im.length:Int) % 256::m.iA.im.flatMap ui++(rv m.ji++((m.ir.length:Int) % 256::m.ir.flatMap tz)))
theorem qx {α:Type} (g:α->List Int) (M:Nat): ∀(l:List α),(∀x∈l,(g x).length<=M)->(l.flatMap g).length<=l.length*M
 | [],_=>by simp
 |x::l,h=>by
  have h1:=h x (List.mem_cons_self ..)
  have h2:=qx g M l (fun y hy=>h y (List.mem_cons_of_mem _ hy))
  simp only [List.flatMap_cons,List.length_append,List.length_cons,Nat.succ_mul];omega
structure EB (v:ad):Prop where
 text:v.gi.size<=20
 count: -1099511627776<=v.i8/\v.i8<=1099511627776
 pl:v.iD.length<=20
 il:v.iG.length<=20
 sl:v.cO.length<=20
 pair: ∀p∈v.iD,p.iv.size<=12/\p.gi.size<=20
 item: ∀s∈v.iG,s.size<=20
 score: ∀s∈v.cO,s.iU.size<=20/\ -1099511627776<=s.fN/\s.fN<=1099511627776
theorem uW {α:Type} {p:α->Bool} {l:List α} (h:l.any p=false): ∀x∈l,p x=false:=by
 intro x hx
 cases hp:p x with
 |false=>rfl
 |true=>rw [List.any_eq_true.2 ⟨x,hx,hp⟩] at h;cases h
theorem u6 {s:ByteArray} (h:iJ s=true):s.size<=20:=by
 have:decide ((s.size:Int)<=20)=true:=h
 rw [decide_eq_true_eq] at this;omega
theorem AI {s:ByteArray} (h:iI s=true):s.size<=12:=by
 have:(decide (1<=(s.size:Int))&&decide ((s.size:Int)<=12))=true:=h
 rw [Bool.and_eq_true,decide_eq_true_eq,decide_eq_true_eq] at this;omega
theorem BI {n:Int} (h:i7 n=true): -1099511627776<=n/\n<=1099511627776:=by
 have:(decide (-1099511627776<=n)&&decide (n<=1099511627776))=true:=h
 rw [Bool.and_eq_true,decide_eq_true_eq,decide_eq_true_eq] at this;exact this
theorem WD {v:ad} (h:xy v=0):EB v:=by
 unfold xy at h
 have bz: ∀ {c:Bool} {a b:Int},a≠0->(bif c then a else b)=0->c=false/\b=0:=by
  intro c a b ha h
  cases c with
  |true=>exact absurd h ha
  |false=>exact⟨rfl,h⟩
 obtain⟨h1,h⟩:=bz (by decide) h
 obtain⟨h2,h⟩:=bz (by decide) h
 obtain⟨h3,h⟩:=bz (by decide) h
 unfold Bt at h
 obtain⟨h4,h⟩:=bz (by decide) h
 obtain⟨h5,h⟩:=bz (by decide) h
 obtain⟨h6,h⟩:=bz (by decide) h
 obtain⟨h7,h⟩:=bz (by decide) h
 obtain⟨h8,h⟩:=bz (by decide) h
 unfold xc at h3
 simp only [Bool.or_eq_false_iff,Bool.not_eq_false'] at h3 h7
 simp only [Bool.not_eq_false',Bool.and_eq_true,decide_eq_true_eq] at h1
 have hlen:v.iD.length+v.iG.length+v.cO.length<=20:=by
  by_cases hk:3<=v.af
  ·have:=h3.1
   rw [decide_eq_true hk,Bool.true_and,Bool.or_eq_false_iff,decide_eq_false_iff_not,decide_eq_false_iff_not] at this
   omega
  ·unfold C8 at h2
   simp only [Bool.or_eq_false_iff,Bool.and_eq_false_iff,Bool.not_eq_false',decide_eq_false_iff_not,beq_iff_eq] at h2
   obtain⟨⟨⟨⟨_,_⟩,a3⟩,a4⟩,a5⟩:=h2
   have b3:v.iD.length=0:=by rcases a3 with a|a<;>omega
   have b4:v.iG.length=0:=by
    rcases a4 with a|a
    ·simp only [Bool.or_eq_true,beq_iff_eq] at a;omega
    ·omega
   have b5:v.cO.length=0:=by rcases a5 with a|a<;>omega
   omega
 refine⟨u6 h3.2,BI h7,by omega,by omega,by omega,fun p hp=>?_,fun s hs=>?_,fun s hs=>?_⟩
 ·have:=uW h5 p hp
  have e:lW p=bif iI p.iv then !iJ p.gi else true:=rfl
  rw [e] at this
  cases hf:iI p.iv with
  |false=>rw [hf] at this;cases this
  |true=>
   rw [hf,cond_true,Bool.not_eq_false'] at this
   exact⟨AI hf,u6 this⟩
 ·have:=uW h4 s hs
  have e:lp s= !iJ s:=rfl
  rw [e,Bool.not_eq_false'] at this
  exact u6 this
 ·have q1:=uW h6 s hs
  have q2:=uW h8 s hs
  have e1:md s= !iJ s.iU:=rfl
  have e2:lY s= !i7 s.fN:=rfl
  rw [e1,Bool.not_eq_false'] at q1
  rw [e2,Bool.not_eq_false'] at q2
  exact⟨u6 q1,BI q2⟩
theorem wN {n:Int} (h: -1099511627776<=n/\n<=1099511627776):Wj n:=⟨by omega,by omega⟩
theorem ve {p:iw} (h:p.iv.size<=12/\p.gi.size<=20):(wk p).length<=40:=by
 simp only [wk,List.length_append,iT];omega
theorem xA {s:ae} (h:s.iU.size<=20):(vG s).length<=40:=by
 simp only [vG,List.length_append,iT,iH];omega
theorem uR {l:List ByteArray} (hl:l.length<=20) (h: ∀s∈l,s.size<=20):(xl l).length<=500:=by
 have:=qx uB 21 l (fun s hs=>by rw [iT];have:=h s hs;omega)
 simp only [xl,List.length_cons];omega
theorem Ku (l:List ByteArray) (w:bi) (hl:l.length<=20) (h: ∀s∈l,s.size<=20) (hw:w.fb.length<=1000000):uw l w=some ⟨w.fb++xl l⟩:=by
 unfold uw
 rw [rf _ _ (by omega),f9]
 have e:=nz (step:=pS l (l.length:Int)) (fun i b=>(i,⟨b⟩)) l uB 21 1000001 (fun s hs=>by rw [iT];have:=h s hs;omega) (fun b=>(⟨b⟩:bi)) (fun i x b hx hb=>by
  have hs:=h x (List.mem_of_getElem? hx)
  have hi:=iW hx
  simp only [f9,pS,ltN hi,cond_true,jo hx,kE (show i<=_ by omega)]
  rw [uF x ⟨b⟩ (by simp only [f9];omega)]
  rfl) (fun b=>by simp only [f9,pS,geN (Nat.le_refl _),cond_false]) (w.fb++ [(l.length:Int) % 256]) (by simp;omega)
 rw [e,f9]
 simp [xl]
theorem zJ (l:List ByteArray) (hl:l.length<=20) (h: ∀s∈l,s.size<=20):od l=some (xl l):=by
 unfold od
 have e:=nz (step:=mz l) (fun i b=>(b,i)) l uB 21 1 (fun s hs=>by rw [iT];have:=h s hs;omega) (fun b=>b) (fun i x b hx hb=>by
  have hs:=h x (List.mem_of_getElem? hx)
  have hi:=iW hx
  simp only [f9,mz,ltN hi,cond_true,jo hx,kE (show i<=_ by omega),mp x (by omega)]
  rw [jy _ _ (by rw [iT];omega)]
  rfl) (fun b=>by simp only [f9,mz,geN (Nat.le_refl _),cond_false]) [IntKind.u8.wrap (l.length:Int)] (by simp)
 rw [e,f9,qs]
 simp [xl]
theorem Bu {v:ad} (h:EB v):(ET v).length<=3000:=by
 have h1:=qx wk 40 v.iD (fun p hp=>ve (h.pair p hp))
 have h2:=uR h.il h.item
 have h3:=qx vG 40 v.cO (fun s hs=>xA (h.score s hs).1)
 have h4:=h.pl;have h5:=h.sl;have h6:=h.text
 simp only [ET,List.length_cons,List.length_append,iT,iH]
 omega
theorem Pa {v:ad} (h:EB v) (w:bi) (hw:w.fb.length<=500000):vH v w=some ⟨w.fb++ET v⟩:=by
 have h4:=h.pl;have h5:=h.sl;have h6:=h.text;have h7:=h.il
 unfold vH xm
 rw [rf _ _ (by omega),f9,uF _ _ (by simp;omega),f9,nj _ _ (wN h.count) (by simp [iT];omega),f9,rf _ _ (by simp [iT,iH,-List.length_flatMap];omega),f9]
 have e:=nz (step:=qj v v.iD (v.iD.length:Int)) (fun i b=>(i,⟨b⟩)) v.iD wk 40 600000 (fun p hp=>ve (h.pair p hp)) (fun b=>(⟨b⟩:bi)) (fun i x b hx hb=>by
  have hs:=h.pair x (List.mem_of_getElem? hx)
  have hi:=iW hx
  simp only [f9,qj,ltN hi,cond_true,jo hx,kE (show i<=_ by omega)]
  rw [uF x.iv ⟨b⟩ (by simp only [f9];omega),f9,uF _ _ (by simp [iT];omega),f9]
  simp [wk]) (fun b=>by simp only [f9,qj,geN (Nat.le_refl _),cond_false])
 rw [e _ (by simp [iT,iH,-List.length_flatMap];omega),f9]
 have hp:=qx wk 40 v.iD (fun p hp=>ve (h.pair p hp))
 rw [Ku _ _ h.il h.item (by simp [iT,iH,-List.length_flatMap];omega),f9]
 have hl:=uR h.il h.item
 rw [rf _ _ (by simp [iT,iH,-List.length_flatMap];omega),f9]
 have e2:=nz (step:=ql v.cO (v.cO.length:Int)) (fun i b=>(i,⟨b⟩)) v.cO vG 40 600000 (fun s hs=>xA (h.score s hs).1) (fun b=>(⟨b⟩:bi)) (fun i x b hx hb=>by
  have hs:=h.score x (List.mem_of_getElem? hx)
  have hi:=iW hx
  simp only [f9,ql,ltN hi,cond_true,jo hx,kE (show i<=_ by omega)]
  rw [uF x.iU ⟨b⟩ (by simp only [f9];omega),f9,nj _ _ (wN hs.2) (by simp [iT];omega),f9]
  simp [vG]) (fun b=>by simp only [f9,ql,geN (Nat.le_refl _),cond_false])
 rw [e2 _ (by simp [iT,iH,-List.length_flatMap];omega),f9]
 simp [ET]
theorem FG {v:ad} (h:EB v):og v=some (ET v):=by
 have h4:=h.pl;have h5:=h.sl;have h6:=h.text;have h7:=h.il
 unfold og tf
 rw [mp _ (by omega),f9,ko (by rw [iT];omega),cond_true,pj _ (wN h.count),f9,jy _ _ (by simp [iT,iH,-List.length_flatMap];omega),f9,ko (by simp [iT,iH,-List.length_flatMap];omega),cond_true]
 have e:=nz (step:=l9 v) (fun i b=>(b,i)) v.iD wk 40 600000 (fun p hp=>ve (h.pair p hp)) (fun b=>b) (fun i x b hx hb=>by
  have hs:=h.pair x (List.mem_of_getElem? hx)
  have hi:=iW hx
  simp only [f9,l9,ltN hi,cond_true,jo hx,kE (show i<=_ by omega)]
  rw [mp _ (by omega),f9,jy _ _ (by rw [iT];omega),f9,mp _ (by omega),f9,jy _ _ (by simp [iT];omega),f9]
  simp [wk]) (fun b=>by simp only [f9,l9,geN (Nat.le_refl _),cond_false])
 rw [e _ (by simp [iT,iH,-List.length_flatMap];omega),f9]
 have hp:=qx wk 40 v.iD (fun p hp=>ve (h.pair p hp))
 have hl:=uR h.il h.item
 rw [zJ _ h.il h.item,f9,jy _ _ (by simp [iT,iH,-List.length_flatMap];omega),f9,ko (by simp [iT,iH,-List.length_flatMap];omega),cond_true]
 have e2:=nz (step:=lZ v) (fun i b=>(b,i)) v.cO vG 40 600000 (fun s hs=>xA (h.score s hs).1) (fun b=>b) (fun i x b hx hb=>by
  have hs:=h.score x (List.mem_of_getElem? hx)
  have hi:=iW hx
  simp only [f9,lZ,ltN hi,cond_true,jo hx,kE (show i<=_ by omega)]
  rw [mp _ (by omega),f9,jy _ _ (by rw [iT];omega),f9,pj _ (wN hs.2),f9,jy _ _ (by simp [iT,iH,-List.length_flatMap];omega),f9]
  simp [vG]) (fun b=>by simp only [f9,lZ,geN (Nat.le_refl _),cond_false])
 rw [e2 _ (by simp [iT,iH,-List.length_flatMap];omega),f9]
 simp [ET,qs]
structure Fw (m:cc):Prop where
 now:0<=m.iA.jv/\m.iA.jv<=1073741824
 el:m.iA.im.length<=12
 next:1<=m.ji/\m.ji<=1048577
 cl:m.ir.length<=4
 entry: ∀x∈m.iA.im,x.jj.size<=12/\EB x.jG/\0<=x.km/\x.km<=1073741824
 client: ∀c∈m.ir,(0<=c.fId/\c.fId<=1048577)/\(0<=c.jT/\c.jT<=1048576)/\(0<=c.i6/\c.i6<=1073741824)/\c.jd.gi.size<=20/\(-1099511627776<=c.jd.fN/\c.jd.fN<=1099511627776)/\c.jd.jW.length<=20/\ ∀s∈c.jd.jW,s.size<=20
theorem BC {α:Type} {p:Nat->α->Bool} : ∀(l:List α) (k:Nat),mG p k l=true-> ∀x∈l,∃i,p i x=true
 | [],_,_,x,hx=>by cases hx
 |y::l,k,h,x,hx=>by
  simp only [mG,Bool.and_eq_true] at h
  rcases List.mem_cons.1 hx with rfl|hx
  ·exact⟨k,h.1⟩
  ·exact BC l (k+1) h.2 x hx
theorem PT {m:cc} (h:yu m=true):Fw m:=by
 unfold yu sZ at h
 simp only [Bool.and_eq_true,decide_eq_true_eq] at h
 obtain⟨⟨⟨⟨a1,a2,a3⟩,a4⟩,⟨a5,a6⟩,a7⟩,a8⟩:=h
 refine⟨⟨a1,a2⟩,a3,⟨a5,a6⟩,a7,fun x hx=>?_,fun c hc=>?_⟩
 ·obtain⟨i,hi⟩:=BC _ _ a4 x hx
  unfold GO at hi
  simp only [Bool.and_eq_true,Bool.or_eq_true,decide_eq_true_eq,beq_iff_eq] at hi
  obtain⟨⟨b1,b2,_⟩,b3⟩:=hi
  refine⟨AI b1,WD b2,?_⟩
  rcases b3 with b3|b3<;>omega
 ·obtain⟨i,hi⟩:=BC _ _ a8 c hc
  unfold idB Ac at hi
  simp only [Bool.and_eq_true,Bool.or_eq_true,decide_eq_true_eq,beq_iff_eq] at hi
  obtain⟨⟨⟨c1,c2⟩,_⟩,⟨c3,c4⟩,⟨c5,c6⟩,c7⟩:=hi
  have bz: ∀ {c:Bool} {a b:Int},a≠0->(bif c then a else b)=0->c=false/\b=0:=by
   intro c a b ha h
   cases c with
   |true=>exact absurd h ha
   |false=>exact⟨rfl,h⟩
  unfold yU at c7
  obtain⟨_,c7⟩:=bz (by decide) c7
  obtain⟨d1,c7⟩:=bz (by decide) c7
  obtain⟨d2,_⟩:=bz (by decide) c7
  simp only [Bool.or_eq_false_iff,Bool.not_eq_false',decide_eq_false_iff_not] at d1 d2
  obtain⟨d3,d4,d5⟩:=d1
  refine⟨by omega,⟨c3,c4⟩,by omega,u6 d3,BI d2,by omega,fun s hs=>?_⟩
  have:=uW d5 s hs
  have e:jM s=decide ((20:Int)<(s.size:Int)):=rfl
  rw [e,decide_eq_false_iff_not] at this
  omega
theorem tT {x:hM} (h:x.jj.size<=12) (hv:EB x.jG):(ui x).length<=4000:=by
 have:=Bu hv
 simp only [ui,List.length_append,iT,iH];omega
theorem wc {c:f7} (h1:c.jd.gi.size<=20) (h2:c.jd.jW.length<=20) (h3: ∀s∈c.jd.jW,s.size<=20):(tz c).length<=4000:=by
 have:=uR h2 h3
 simp only [tz,List.length_append,List.length_cons,iT,iH];omega
theorem Nf {m:cc} (h:Fw m) (hc:clC m=some 0):oe m=some (vO m,0):=by
 have h1:=h.now;have h2:=h.el;have h3:=h.next;have h4:=h.cl
 have hE:=qx ui 4000 m.iA.im (fun x hx=>tT (h.entry x hx).1 (h.entry x hx).2.1)
 unfold oe tL
 rw [hc,f9,beq_self_eq_true,cond_true,nj _ _ ⟨by omega,by omega⟩ (by simp only [List.length_nil];omega),f9,rf _ _ (by simp [iH]),f9]
 have e:=nz (step:=mE m m.iA.im (m.iA.im.length:Int)) (fun i b=>(i,⟨b⟩)) m.iA.im ui 4000 100 (fun x hx=>tT (h.entry x hx).1 (h.entry x hx).2.1) (fun b=>(⟨b⟩:bi)) (fun i x b hx hb=>by
  obtain⟨k1,k2,k3,k4⟩:=h.entry x (List.mem_of_getElem? hx)
  have hi:=iW hx
  have hv:=Bu k2
  simp only [f9,mE,ltN hi,cond_true,jo hx,kE (show i<=_ by omega)]
  rw [uF x.jj ⟨b⟩ (by simp only [f9];omega),f9,Pa k2 _ (by simp [iT];omega),f9,nj _ _ ⟨by omega,by omega⟩ (by simp [iT];omega),f9]
  simp [ui]) (fun b=>by simp only [f9,mE,geN (Nat.le_refl _),cond_false])
 rw [e _ (by simp [iH]),f9,nj _ _ ⟨by omega,by omega⟩ (by simp [iH,-List.length_flatMap];omega),f9,rf _ _ (by simp [iH,-List.length_flatMap];omega),f9]
 have e2:=nz (step:=mH m.ir (m.ir.length:Int)) (fun i b=>(i,⟨b⟩)) m.ir tz 4000 100000 (fun c hc=>wc (h.client c hc).2.2.2.1 (h.client c hc).2.2.2.2.2.1 (h.client c hc).2.2.2.2.2.2) (fun b=>(⟨b⟩:bi)) (fun i x b hx hb=>by
  obtain⟨k1,k2,k3,k4,k5,k6,k7⟩:=h.client x (List.mem_of_getElem? hx)
  have hi:=iW hx
  simp only [f9,mH,qo,ltN hi,cond_true,jo hx,kE (show i<=_ by omega)]
  rw [nj _ ⟨b⟩ ⟨by omega,by omega⟩ (by simp only [f9];omega),f9,nj _ _ ⟨by omega,by omega⟩ (by simp [iH];omega),f9,nj _ _ ⟨by omega,by omega⟩ (by simp [iH];omega),f9,rf _ _ (by simp [iH];omega),f9,uF _ _ (by simp [iH];omega),f9,nj _ _ (wN k5) (by simp [iH,iT];omega),f9,Ku _ _ k6 k7 (by simp [iH,iT];omega),f9]
  simp [tz]) (fun b=>by simp only [f9,mH,geN (Nat.le_refl _),cond_false])
 rw [e2 _ (by simp [iH,-List.length_flatMap];omega),f9]
 simp [vO]
theorem BD {m:cc} (h:Fw m):mN m=some (vO m):=by
 have h1:=h.now;have h2:=h.el;have h3:=h.next;have h4:=h.cl
 have hE:=qx ui 4000 m.iA.im (fun x hx=>tT (h.entry x hx).1 (h.entry x hx).2.1)
 unfold mN ry
 rw [pj _ ⟨by omega,by omega⟩,f9,ko (by simp [iH]),cond_true]
 have e:=nz (step:=ln m) (fun i b=>(b,i)) m.iA.im ui 4000 100 (fun x hx=>tT (h.entry x hx).1 (h.entry x hx).2.1) (fun b=>b) (fun i x b hx hb=>by
  obtain⟨k1,k2,k3,k4⟩:=h.entry x (List.mem_of_getElem? hx)
  have hi:=iW hx
  have hv:=Bu k2
  simp only [f9,ln,oz,ltN hi,cond_true,jo hx,kE (show i<=_ by omega)]
  rw [mp _ (by omega),f9,jy _ _ (by rw [iT];omega),f9,FG k2,f9,jy _ _ (by simp [iT];omega),f9,pj _ ⟨by omega,by omega⟩,f9,jy _ _ (by simp [iT,iH];omega),f9]
  simp [ui]) (fun b=>by simp only [f9,ln,geN (Nat.le_refl _),cond_false])
 rw [e _ (by simp [iH]),f9,pj _ ⟨by omega,by omega⟩,f9,jy _ _ (by simp [iH,-List.length_flatMap];omega),f9,ko (by simp [iH,-List.length_flatMap];omega),cond_true]
 have e2:=nz (step:=ls m) (fun i b=>(b,i)) m.ir tz 4000 100000 (fun c hc=>wc (h.client c hc).2.2.2.1 (h.client c hc).2.2.2.2.2.1 (h.client c hc).2.2.2.2.2.2) (fun b=>b) (fun i x b hx hb=>by
  obtain⟨k1,k2,k3,k4,k5,k6,k7⟩:=h.client x (List.mem_of_getElem? hx)
  have hi:=iW hx
  have hl:=uR k6 k7
  simp only [f9,ls,om,oA,ltN hi,cond_true,jo hx,kE (show i<=_ by omega)]
  rw [pj _ ⟨by omega,by omega⟩,f9,jy _ _ (by rw [iH];omega),f9,pj _ ⟨by omega,by omega⟩,f9,jy _ _ (by simp [iH];omega),f9,pj _ ⟨by omega,by omega⟩,f9,jy _ _ (by simp [iH];omega),f9,ko (by simp [iH];omega),cond_true,mp _ (by omega),f9,jy _ _ (by simp [iH,iT];omega),f9,pj _ (wN k5),f9,jy _ _ (by simp [iH,iT];omega),f9,zJ _ k6 k7,f9,jy _ _ (by simp [iH,iT];omega),f9]
  simp [tz,qs]) (fun b=>by simp only [f9,ls,geN (Nat.le_refl _),cond_false])
 rw [e2 _ (by simp [iH,-List.length_flatMap];omega),f9]
 simp [vO,qs]
theorem tF {α:Type} (g:α->List Int) (hg: ∀x,oi (g x)=true): ∀l:List α,oi (l.flatMap g)=true
 | []=>rfl
 |x::l=>by rw [List.flatMap_cons,qy,hg,tF g hg l];rfl
theorem px (n:Int) (l:List Int):oi (n % 256::l)=oi l:=by
 have h:decide (0<=n % 256/\n % 256<256)=true:=decide_eq_true (by omega)
 show (decide (0<=n % 256/\n % 256<256)&&oi l)=oi l
 rw [h,Bool.true_and]
theorem Bg (l:List ByteArray):oi (xl l)=true:=by
 unfold xl;rw [px];exact tF _ q9 _
theorem Kx (v:ad):oi (ET v)=true:=by
 unfold ET
 simp only [px,qy,List.cons_append,q9,tH,Bg,Bool.true_and]
 rw [tF _ (fun p=>by unfold wk;rw [qy,q9,q9];rfl),tF _ (fun s=>by unfold vG;rw [qy,q9,tH];rfl)]
 rfl
theorem ID (m:cc):oi (vO m)=true:=by
 unfold vO
 simp only [px,qy,List.cons_append,tH,Bool.true_and]
 rw [tF _ (fun x=>by unfold ui;rw [qy,qy,q9,Kx,tH];rfl),tF _ (fun c=>by unfold tz;simp only [px,qy,tH,q9,Bg,Bool.and_self])]
 rfl
theorem Ps (v:ad) (ok:v.ok):pF v=some v:=by
 obtain⟨_,_,_,⟨o1,_⟩,⟨o2,_⟩,⟨o3,_⟩⟩:=ok
 unfold okN at o1 o2 o3
 have e0:=tJ (step:=mB v) (fun i l=>(i,⟨v.af,v.gi,v.i8,l,[],[]⟩)) v.iD (fun l=>⟨v.af,v.gi,v.i8,l,[],[]⟩) (fun i x hx=>by
  have h:=iW hx
  have hf:dh ((v.iD.take i).length+1) 32=true:=ko (by rw [List.length_take];omega)
  simp only [f9,mB,ltN h,cond_true,jo hx,hf,kE (show i<=_ by omega)]) (by simp only [f9,mB,geN (Nat.le_refl _),cond_false])
 have e2:=tJ (step:=mJ v) (fun i l=>(i,⟨v.af,v.gi,v.i8,v.iD,l,[]⟩)) v.iG (fun l=>⟨v.af,v.gi,v.i8,v.iD,l,[]⟩) (fun i x hx=>by
  have h:=iW hx
  have hf:dh ((v.iG.take i).length+1) 16=true:=ko (by rw [List.length_take];omega)
  simp only [f9,mJ,ltN h,cond_true,jo hx,hf,kE (show i<=_ by omega)]) (by simp only [f9,mJ,geN (Nat.le_refl _),cond_false])
 have e4:=tJ (step:=mF v) (fun i l=>(i,⟨v.af,v.gi,v.i8,v.iD,v.iG,l⟩)) v.cO (fun l=>⟨v.af,v.gi,v.i8,v.iD,v.iG,l⟩) (fun i x hx=>by
  have h:=iW hx
  have hf:dh ((v.cO.take i).length+1) 24=true:=ko (by rw [List.length_take];omega)
  simp only [f9,mF,ltN h,cond_true,jo hx,hf,kE (show i<=_ by omega)]) (by simp only [f9,mF,geN (Nat.le_refl _),cond_false])
 unfold pF
 rw [e0]
 simp only [f9,tS]
 rw [e2]
 simp only [f9]
 rw [e4,f9]
theorem OC (s:iE) (ok:s.ok):pC s=some s:=by
 have hl:=ok.2.1
 unfold okN at hl
 unfold pC
 rw [tJ (step:=mC s) (fun i l=>(i,⟨s.jv,l⟩)) s.im (fun l=>⟨s.jv,l⟩) (fun i x hx=>by
  have h:=iW hx
  have hf:dh ((s.im.take i).length+1) 128=true:=ko (by rw [List.length_take];omega)
  simp only [f9,mC,ltN h,cond_true,jo hx,Ps _ (ok.2.2 x (List.mem_of_getElem? hx)).2.1,hf,kE (show i<=_ by omega)]) (by simp only [f9,mC,geN (Nat.le_refl _),cond_false]),f9]
theorem ON (r:iM) (ok:r.ok):pN r=some r:=by
 have hl:=ok.2.2.2.1
 unfold okN at hl
 unfold pN
 rw [tJ (step:=mI r) (fun i l=>(i,⟨r.ky,r.gi,r.fN,l⟩)) r.jW (fun l=>⟨r.ky,r.gi,r.fN,l⟩) (fun i x hx=>by
  have h:=iW hx
  have hf:dh ((r.jW.take i).length+1) 16=true:=ko (by rw [List.length_take];omega)
  simp only [f9,mI,ltN h,cond_true,jo hx,hf,kE (show i<=_ by omega)]) (by simp only [f9,mI,geN (Nat.le_refl _),cond_false]),f9]
theorem PX (m:cc) (ok:m.ok):mg m=some m:=by
 obtain⟨o1,o2,o3,o4⟩:=ok
 unfold okN at o3
 unfold mg
 rw [OC _ o1]
 simp only [f9]
 rw [tJ (step:=kQ m) (fun i l=>(i,⟨m.iA,m.ji,l⟩)) m.ir (fun l=>⟨m.iA,m.ji,l⟩) (fun i x hx=>by
  have h:=iW hx
  have hf:dh ((m.ir.take i).length+1) 80=true:=ko (by rw [List.length_take];omega)
  simp only [f9,kQ,ltN h,cond_true,jo hx,ON _ (o4 x (List.mem_of_getElem? hx)).2.2.2,hf,kE (show i<=_ by omega)]) (by simp only [f9,kQ,geN (Nat.le_refl _),cond_false]),f9]
theorem LR (s:jr):mr s=mu s:=by
 unfold mr mu lq lm
 cases (s.jg==0)<;>cases (s.iO==0)<;>cases (s.iC.ji==0)<;>cases ((s.iC.ir.length:Int)==0)<;>cases (s.iC.iA.jv==0)<;>cases ((s.iC.iA.im.length:Int)==0)<;>rfl
theorem PO (r:iu):lD r=kf r:=by
 simp only [lD,ph,pe,pf,pi,kf,nE,nu,ny,nC,LR]
theorem wM (n:Int):ju n=jl n:=rfl
theorem Pg (r:iu):(bif kF r then some (2:Int) else some 0)=bif jl r.iO then bif decide (-1<=r.qu) then bif decide (r.qu<=2) then some 0 else some 2 else some 2 else some 2:=by
 unfold kF
 rw [wM]
 cases jl r.iO with
 |false=>rfl
 |true=>
  by_cases h1:r.qu< -1
  ·rw [decide_eq_true h1,decide_eq_false (show ¬-1<=r.qu by omega)];rfl
  ·rw [decide_eq_false h1,decide_eq_true (show-1<=r.qu by omega)]
   by_cases h2:3<=r.qu
   ·rw [decide_eq_true h2,decide_eq_false (show ¬r.qu<=2 by omega)];rfl
   ·rw [decide_eq_false h2,decide_eq_true (show r.qu<=2 by omega)];rfl
theorem PC (s:jr) (ok:s.ok): ∃n,lM s=some n/\pE s=some n:=by
 unfold lM pE
 rw [wM,wM,Jk _ ok.2.2,T2 _ ok.2.2]
 cases jl s.jg with
 |false=>exact⟨_,rfl,rfl⟩
 |true=>
  cases jl s.iO with
  |false=>exact⟨_,rfl,rfl⟩
  |true=>exact⟨_,rfl,rfl⟩
theorem Lf (r:iu) (ok:r.iS.ok): ∃n,ns r=some n/\nv r=some n:=by
 obtain⟨n,e1,e2⟩:=PC r.iS ok
 unfold ns sx nv rM
 rw [PO,Pg,e1,e2,f9,Pk,wM]
 by_cases h1:r.af<1
 ·rw [decide_eq_true h1,decide_eq_false (show ¬1<=r.af by omega)];exact⟨_,rfl,rfl⟩
 rw [decide_eq_false h1,decide_eq_true (show 1<=r.af by omega)]
 by_cases h2:3<r.af
 ·rw [decide_eq_true h2,decide_eq_false (show ¬r.af<=3 by omega)];exact⟨_,rfl,rfl⟩
 rw [decide_eq_false h2,decide_eq_true (show r.af<=3 by omega)]
 cases kf r with
 |true=>exact⟨_,rfl,rfl⟩
 |false=>
  simp only [cond_true,cond_false]
  have h3:r.af=1∨r.af=2∨r.af=3:=by omega
  rcases h3 with h|h|h<;>rw [h]
  ·simp only [beq_self_eq_true,cond_true,show ((1:Int)==3)=false from rfl,cond_false]
   cases jl r.iO with
   |false=>exact⟨_,rfl,rfl⟩
   |true=>
    cases decide (-1<=r.qu) with
    |false=>exact⟨_,rfl,rfl⟩
    |true=>cases decide (r.qu<=2)<;>exact⟨_,rfl,rfl⟩
  ·simp only [beq_self_eq_true,cond_true,show ((2:Int)==1)=false from rfl,show ((2:Int)==3)=false from rfl,cond_false]
   cases jl r.jg<;>exact⟨_,rfl,rfl⟩
  ·simp only [beq_self_eq_true,cond_true,show ((3:Int)==1)=false from rfl,show ((3:Int)==2)=false from rfl,cond_false]
   exact⟨_,rfl,rfl⟩
def tri (n:Int):List Int:=[n / 65536 % 256,n / 256 % 256,n % 256]
theorem nn (n:Int):(tri n).length=3:=rfl
theorem xC (n:Int) (h:0<=n):lj n=some (tri n):=by
 have e1:(2:Int) ^ (min (16:Int).toNat IntKind.i64.bits)=65536:=by decide
 have e2:(2:Int) ^ (min (8:Int).toNat IntKind.i64.bits)=256:=by decide
 unfold lj tri
 rw [e1,e2,Bo _ _ (by decide),Bo _ _ (by decide),qs,qs,qs]
theorem we (n:Int) (h:0<=n) (h2:n<=1000000000):pG n=some (tri n):=by
 unfold pG tri
 rw [Int.tdiv_eq_ediv_of_nonneg h,Int.tdiv_eq_ediv_of_nonneg h,Int.tmod_eq_emod_of_nonneg h,nr (by omega) (by omega),nr (n:=n / 256) (by omega) (by omega),Int.tmod_eq_emod_of_nonneg (by omega),qs,qs,qs]
 have a:n / 256 % 256 % 256=n / 256 % 256:=by omega
 have b:n % 256 % 256=n % 256:=by omega
 rw [a,b]
theorem ww (n:Int) (l:List Int):oi (tri n++l)=oi l:=by
 show oi (_::_::_::l)=_
 rw [px,px,px]
theorem Le (p0:List (List Int)) (h:p0.flatten.length<=1000000) (hl:p0.length<=1000000): ∀(suf pre:List (List Int)),p0=pre++suf->cM (jL p0 (p0.length:Int)) ((pre.flatten.length:Int),(pre.length:Int))=some (p0.flatten.length:Int):=by
 intro suf
 induction suf with
 |nil=>
  intro pre hp
  simp at hp;subst hp
  exact pZ (by simp [jL])
 |cons x suf ih=>
  intro pre hp
  have hx:=ih (pre++ [x]) (by simp [hp])
  have f1:p0.flatten.length=pre.flatten.length+(x.length+suf.flatten.length):=by rw [hp];simp
  have f2:p0.length=pre.length+(suf.length+1):=by rw [hp];simp
  have f3:((pre++ [x]).flatten.length:Int)=(pre.flatten.length:Int)+(x.length:Int):=by simp
  have f4:(((pre++ [x]).length:Nat):Int)=((pre.length+1:Nat):Int):=by simp
  rw [f3,f4] at hx
  rw [uc (a':=((pre.flatten.length:Int)+(x.length:Int),((pre.length+1:Nat):Int)))]
  ·exact hx
  ·have h1:decide ((pre.length:Int)<(p0.length:Int))=true:=decide_eq_true (by omega)
   have h2:idx p0 (pre.length:Int)=some x:=by rw [hp];exact Ao _ _ _
   have h3:IntKind.i64.wrap ((pre.flatten.length:Int)+(x.length:Int))=(pre.flatten.length:Int)+(x.length:Int):=by rw [nr]<;>omega
   have h4:decide ((pre.flatten.length:Int)+(x.length:Int)<0)=false:=decide_eq_false (by omega)
   have h5:IntKind.i64.wrap ((pre.length:Int)+1)=((pre.length+1:Nat):Int):=kE (by omega)
   simp only [jL,h1,cond_true,h2,f9,h3,h4,cond_false,h5]
theorem LU (p0:List (List Int)) (h:p0.flatten.length<=1000000) (hl:p0.length<=1000000): ∀(suf pre:List (List Int)),p0=pre++suf->cM (jx p0 (p0.length:Int)) (pre.flatten,(pre.length:Int))=some p0.flatten:=by
 intro suf
 induction suf with
 |nil=>
  intro pre hp
  simp at hp;subst hp
  exact pZ (by simp [jx])
 |cons x suf ih=>
  intro pre hp
  have hx:=ih (pre++ [x]) (by simp [hp])
  have f1:p0.flatten.length=pre.flatten.length+(x.length+suf.flatten.length):=by rw [hp];simp
  have f2:p0.length=pre.length+(suf.length+1):=by rw [hp];simp
  have f3:(pre++ [x]).flatten=pre.flatten++x:=by simp
  have f4:(((pre++ [x]).length:Nat):Int)=((pre.length+1:Nat):Int):=by simp
  rw [f3,f4] at hx
  rw [uc (a':=(pre.flatten++x,((pre.length+1:Nat):Int)))]
  ·exact hx
  ·have h1:decide ((pre.length:Int)<(p0.length:Int))=true:=decide_eq_true (by omega)
   have h2:idx p0 (pre.length:Int)=some x:=by rw [hp];exact Ao _ _ _
   have h3:dh (pre.flatten.length+x.length) 1=true:=ko (by omega)
   have h5:IntKind.i64.wrap ((pre.length:Int)+1)=((pre.length+1:Nat):Int):=kE (by omega)
   simp only [jx,h1,cond_true,h2,f9,h3,h5]
theorem HH (p0:List (List Int)) (h:p0.flatten.length<=1000000) (hl:p0.length<=1000000):jK p0=some p0.flatten:=by
 have e1:=Le p0 h hl p0 [] rfl
 have e2:=LU p0 h hl p0 [] rfl
 have z:(([]:List (List Int)).flatten.length:Int)=0:=rfl
 have z2:(([]:List (List Int)).length:Int)=0:=rfl
 rw [z,z2] at e1
 rw [z2] at e2
 have e2':cM (jx p0 (p0.length:Int)) ([],0)=some p0.flatten:=e2
 have g:ke (p0.flatten.length:Int)=some ():=by
  unfold ke
  rw [decide_eq_true (show (0:Int)<=(p0.flatten.length:Int) by omega),decide_eq_true (show (p0.flatten.length:Int)<=140737488355328 by omega)];rfl
 unfold jK
 rw [e1,f9]
 unfold mM
 rw [g,f9,e2',f9]
theorem Qx {c:Bool} {a:Int} {x:Option Int} (ha:a≠0) (h:(bif c then some a else x)=some 0):c=false/\x=some 0:=by
 cases c with
 |true=>exact absurd (Option.some.inj h) ha
 |false=>exact⟨rfl,h⟩
theorem Ma {c:Bool} {a:Int} {x:Option Int} (ha:a≠0) (h:(bif c then x else some a)=some 0):c=true/\x=some 0:=by
 cases c with
 |true=>exact⟨rfl,h⟩
 |false=>exact absurd (Option.some.inj h) ha
theorem KE (r:iu) (ok:r.iS.ok) (h:ns r=some 0):(r.af=1/\ju r.iO=true)∨(r.af=2/\ju r.jg=true/\jn r.iN=0)∨(r.af=3/\ju r.iS.jg=true/\ju r.iS.iO=true/\yu r.iS.iC=true):=by
 unfold ns sx lM at h
 rw [Jk _ ok.2.2] at h
 obtain⟨h1,h⟩:=Qx (by decide) h
 obtain⟨h2,h⟩:=Qx (by decide) h
 obtain⟨h3,h⟩:=Qx (by decide) h
 rw [decide_eq_false_iff_not] at h1 h2
 cases k1:(r.af==1) with
 |true=>
  rw [k1,cond_true] at h
  obtain⟨h4,_⟩:=Qx (by decide) h
  unfold kF at h4
  refine .inl ⟨by simpa using k1,?_⟩
  cases hn:ju r.iO with
  |true=>rfl
  |false=>rw [hn] at h4;cases h4
 |false=>
  rw [k1,cond_false] at h
  have k1':r.af≠1:=by simpa using k1
  cases k2:(r.af==2) with
  |true=>
   rw [k2,cond_true] at h
   obtain⟨h4,h5⟩:=Ma (by decide) h
   exact .inr (.inl ⟨by simpa using k2,h4,Option.some.inj h5⟩)
  |false=>
   have k2':r.af≠2:=by simpa using k2
   rw [k2,cond_false] at h
   have h':(bif ju r.iS.jg then bif ju r.iS.iO then some (bif yu r.iS.iC then (0:Int) else 13) else some 2 else some 2)=some 0:=by
    cases a:ju r.iS.jg<;>cases b:ju r.iS.iO<;>rw [a] at h<;>try rw [b] at h
    all_goals exact h
   obtain⟨h4,h5⟩:=Ma (by decide) h'
   obtain⟨h6,h7⟩:=Ma (by decide) h5
   refine .inr (.inr ⟨by omega,h4,h6,?_⟩)
   cases hm:yu r.iS.iC with
   |true=>rfl
   |false=>rw [hm] at h7;exact absurd (Option.some.inj h7) (by decide)
theorem Gm {n:Int} (h:ju n=true):1<=n/\n<=1048576:=by
 unfold ju at h
 simpa using h
theorem LB {x:iX} (h:Ga x):(tN x).length<=200:=by
 unfold tN
 cases hn:x.tj with
 |true=>simp [iH]
 |false=>
  unfold zT
  cases hc:(x.iz.iP==0) with
  |true=>simp [iH]
  |false=>
   have h5:=N3 (h.cmd hn (by simpa using hc))
   simp only [cond_false,List.length_append,List.length_cons,iH]
   omega
theorem KH {m:cc} (h:Fw m):(vO m).length<=100000:=by
 have h1:=qx ui 4000 m.iA.im (fun x hx=>tT (h.entry x hx).1 (h.entry x hx).2.1)
 have h2:=qx tz 4000 m.ir (fun c hc=>by
  obtain⟨_,_,_,a,_,b,d⟩:=h.client c hc
  exact wc a b d)
 have h3:=h.el;have h4:=h.cl
 simp only [vO,List.length_append,List.length_cons,iH]
 omega
theorem Lp (r:iu) (ok:r.iS.ok) (h:ns r=some 0): ∃b,lI r=some b/\lH r=some b/\b.length<=200000/\oi b=true:=by
 rcases KE r ok h with⟨k,a⟩|⟨k,a,c⟩|⟨k,a,b,c⟩
 ·have ha:=Gm a
  refine⟨(1::tri r.iO)++ [IntKind.u8.wrap (IntKind.i64.wrap (r.qu+1))],?_,?_,by simp [nn],?_⟩
  ·unfold lI
   have f1:dh (1+3) 1=true:=ko (by decide)
   have f2:dh (3+1+1) 1=true:=ko (by decide)
   rw [k,beq_self_eq_true,cond_true,xC _ (by omega),f9,nn,f1,cond_true,f2,cond_true]
  ·unfold lH
   have f1:dh (([1]++tri r.iO).length+1) 1=true:=ko (by rw [List.length_append,nn];decide)
   rw [k,beq_self_eq_true,cond_true,we _ (by omega) (by omega),f9,jy _ _ (by simp [nn]),f9,f1,cond_true]
   rfl
  ·rw [qs]
   show oi (1::(tri r.iO++_))=true
   rw [show (1:Int)=1 % 256 from rfl,px,ww,px];rfl
 ·have ha:=Gm a
  have hi:=Kc c
  have hl:=LB hi
  have e:lz r.iN=some (tN r.iN,0):=by rw [FY,c];rfl
  have k1:(r.af==1)=false:=by rw [k];rfl
  have k2:(r.af==2)=true:=by rw [k];rfl
  refine⟨(2::tri r.jg)++tN r.iN,?_,?_,?_,?_⟩
  ·unfold lI pQ rX
   rw [k1,cond_false,k2,cond_true,e,f9]
   simp only
   rw [xC _ (by omega),f9,nn]
   have f1:dh (1+3) 1=true:=ko (by decide)
   have f2:dh (3+1+(tN r.iN).length) 1=true:=ko (by omega)
   rw [f1,cond_true,f2,cond_true]
  ·unfold lH qg
   rw [k1,cond_false,k2,cond_true,we _ (by omega) (by omega),f9,jy _ _ (by simp [nn]),f9,G5 hi,f9,jy _ _ (by simp [nn];omega),f9]
   rfl
  ·rw [List.length_append,List.length_cons,nn];omega
  ·show oi (2::(tri r.jg++_))=true
   rw [show (2:Int)=2 % 256 from rfl,px,ww,Ih]
 ·have ha:=Gm a
  have hb:=Gm b
  have hm:=PT c
  have hl:=KH hm
  have e:oe r.iS.iC=some (vO r.iS.iC,0):=Nf hm (by rw [Jk _ ok.2.2,c];rfl)
  have k1:(r.af==1)=false:=by rw [k];rfl
  have k2:(r.af==2)=false:=by rw [k];rfl
  have hf:([[3],tri r.iS.jg,tri r.iS.iO,vO r.iS.iC]:List (List Int)).flatten=((([3]++tri r.iS.jg)++tri r.iS.iO)++vO r.iS.iC):=by simp [List.flatten]
  refine⟨(([3]++tri r.iS.jg)++tri r.iS.iO)++vO r.iS.iC,?_,?_,?_,?_⟩
  ·unfold lI pQ
   rw [k1,cond_false,k2,cond_false,e,f9]
   simp only
   rw [xC _ (by omega),f9,xC _ (by omega),f9,HH _ (by rw [hf];simp [nn];omega) (by simp),f9,hf]
  ·unfold lH qg sm
   rw [k1,cond_false,k2,cond_false,we _ (by omega) (by omega),f9,jy _ _ (by simp [nn]),f9,we _ (by omega) (by omega),f9,jy _ _ (by simp [nn]),f9,BD hm,f9,jy _ _ (by simp [nn];omega),f9]
  ·simp [nn];omega
  ·rw [List.append_assoc,List.append_assoc]
   show oi (3::(tri r.iS.jg++_))=true
   rw [show (3:Int)=3 % 256 from rfl,px,ww,ww,ID]
theorem Ux (t:iK):ma t= !pH t:=by
 unfold ma pH
 by_cases h1:t.kg<0
 ·rw [decide_eq_true h1,decide_eq_false (show ¬0<=t.kg by omega)];simp
 ·rw [decide_eq_false h1,decide_eq_true (show 0<=t.kg by omega)]
  by_cases h2:(t.j9.length:Int)<t.kg
  ·rw [decide_eq_true h2,decide_eq_false (show ¬t.kg<=(t.j9.length:Int) by omega)];simp
  ·rw [decide_eq_false h2,decide_eq_true (show t.kg<=(t.j9.length:Int) by omega)]
   by_cases h3:(400000:Int)<(t.j9.length:Int)
   ·rw [decide_eq_true h3,decide_eq_false (show ¬(t.j9.length:Int)<=400000 by omega)];rfl
   ·rw [decide_eq_false h3,decide_eq_true (show (t.j9.length:Int)<=400000 by omega)];rfl
theorem KC (t:iK) (r:iu) (hd:oi t.j9=true) (ok:r.iS.ok): ∃x e,pO t r=some (x,e)/\mO t r=some (x,e)/\oi x.j9=true:=by
 unfold pO mO tD
 rw [Ux]
 cases hm:pH t with
 |false=>exact⟨_,_,rfl,rfl,rfl⟩
 |true=>
  have hl4:t.j9.length<=400000:=by
   unfold pH at hm
   simp only [Bool.and_eq_true,decide_eq_true_eq] at hm
   omega
  have hf:dh t.j9.length 1=true:=ko (by omega)
  obtain⟨n,e1,e2⟩:=Lf r ok
  simp only [Bool.not_true,cond_false,cond_true,oS,hf,f9,tZ,re,e1,e2]
  cases hn:(n==0) with
  |false=>exact⟨_,_,rfl,rfl,rfl⟩
  |true=>
   have hn0:n=0:=by simpa using hn
   rw [hn0] at e1
   obtain⟨b,p,d,hb,ha⟩:=Lp r ok e1
   simp only [cond_true,p,d,f9,we _ (show (0:Int)<=(b.length:Int) by omega) (by omega),xC _ (show (0:Int)<=(b.length:Int) by omega)]
   rw [jy _ _ (by rw [nn];omega),f9]
   have w1:IntKind.i64.wrap ((IntKind.i64.wrap ((t.j9.length:Int)+3))+(b.length:Int))=(t.j9.length:Int)+(3+(b.length:Int)):=by
    rw [nr (n:=(t.j9.length:Int)+3) (by omega) (by omega),nr]<;>omega
   have w2:IntKind.i64.wrap ((t.j9.length:Int)+((tri (b.length:Int)++b).length:Int))=(t.j9.length:Int)+(3+(b.length:Int)):=by
    have:((tri (b.length:Int)++b).length:Int)=3+(b.length:Int):=by rw [List.length_append,nn];omega
    rw [this,nr]<;>omega
   rw [w1,w2]
   cases hc:decide (400000<(t.j9.length:Int)+(3+(b.length:Int))) with
   |true=>exact⟨_,_,rfl,rfl,rfl⟩
   |false=>
    have hf2:([t.j9,tri (b.length:Int),b]:List (List Int)).flatten=t.j9++(tri (b.length:Int)++b):=by simp [List.flatten]
    simp only [cond_false]
    rw [HH _ (by rw [hf2];simp [nn];omega) (by simp),f9,hf2,jy _ _ (by simp [nn];omega),f9]
    exact⟨_,_,rfl,rfl,by rw [qy,ww,hd,ha];rfl⟩
theorem Ee (t:iK) (h:oi t.j9=true):pz t t=some true:=by
 simp only [pz,beq_self_eq_true,cond_true,h,wO]
theorem zm (t:iK) (r:iu) (ok:t.ok) (okr:r.ok):sE t r=some true:=by
 obtain⟨⟨h1,h2⟩,_⟩:=ok
 unfold okN at h1
 have hd:oi t.j9=true:=by
  unfold oi
  rw [List.all_eq_true]
  intro y hy
  have:=h2 y hy
  simp only [IntKind.min,IntKind.max,IntKind.bits,IntKind.signed] at this
  have h1:=this.1;have h2:=this.2
  simp at h1 h2
  simp;omega
 have hf:dh t.j9.length 1=true:=ko (by omega)
 have os:r.iS.ok:=okr.2.2.2.2.2
 obtain⟨x,e,p,d,hx⟩:=KC t r hd os
 have e1:sc t=some t:=by
  unfold sc sb
  rw [hf,cond_true,f9]
 have e2:qP r=some r:=by
  unfold qP tK
  rw [PX _ os.2.2,f9,f9]
 unfold sE
 rw [e1,f9,e2,f9,p,f9]
 simp only
 rw [d,f9]
 simp only [nL,beq_self_eq_true,cond_true,Ee _ hx,f9,Ee _ hd]
end Go.Proofs.Ytgcglmoogaldbaa
