/- The law TapeFolds on the plain functions: it answers true at every argument of the sizes that the form allows. -/
import Derived.Test.YtgcglmoogaldbaaGreatWTy
import Derived.Test.YtgcglmoogaldbaaGreatTapeFoldsD
set_option linter.unusedSimpArgs false
set_option linter.unusedVariables false
set_option linter.constructorNameAsVariable false
set_option linter.unnecessarySimpa false
noncomputable section
namespace Go.Proofs.YtgcglmoogaldbaaGreat
open Go Go.Mx Go.Proofs
theorem S4 (n:Int):IntKind.u8.wrap n=n % 256:=by
 simp [IntKind.wrap,IntKind.min,IntKind.max,IntKind.bits,IntKind.signed]
theorem DF {n:Int} (h1:0<=n) (h2:n<18446744073709551616):IntKind.u64.wrap n=n:=by
 simp [IntKind.wrap,IntKind.min,IntKind.max,IntKind.bits,IntKind.signed];omega
theorem ky {n b:Nat} (h:(n:Int)*b<=140737488355328):dh n b=true:=fJ.2 h
theorem i8 {α:Type} {l:List α} {i:Nat} {x:α} (h:l[i]? =some x):idx l (i:Int)=some x:=by
 unfold idx
 rw [if_pos (by omega)]
 simpa using h
theorem PR {α:Type} (l:List α) (x:α) (m:List α):idx (l++x::m) (l.length:Int)=some x:=i8 (by simp)
theorem pi (a:ByteArray):cY a a=true:=by unfold cY;exact beq_self_eq_true _
theorem Ki (s:ByteArray):(byL s).length=s.size:=by
 simp only [iF,byL,List.length_map];rfl
def uL (n:Int):List Int:=[(n+4611686018427387904) / 72057594037927936 % 256,(n+4611686018427387904) / 281474976710656 % 256,(n+4611686018427387904) / 1099511627776 % 256,(n+4611686018427387904) / 4294967296 % 256,(n+4611686018427387904) / 16777216 % 256,(n+4611686018427387904) / 65536 % 256,(n+4611686018427387904) / 256 % 256,(n+4611686018427387904) % 256]
theorem jD (n:Int):(uL n).length=8:=rfl
def Wy (n:Int):Prop:=-4611686018427387904<=n/\n<4611686018427387904
def xo (s:ByteArray):List Int:=(s.size:Int) % 256::byL s
theorem jW (s:ByteArray):(xo s).length=s.size+1:=by simp [xo,Ki]
def run {α σ R:Type} (f:Nat->α->σ->σ⊕R) (e:σ->R):Nat->List α->σ->R
 |_,[],s=>e s
 |i,x::l,s=>match f i x s with
  | .inl s'=>run f e (i+1) l s'
  | .inr r=>r
theorem v3 {α σ τ R:Type} {step:τ->Option (τ⊕R)} (l:List α) (mk:Int->σ->τ) (I:Nat->σ->Prop) (f:Nat->α->σ->σ⊕R) (e:σ->R)
  (hs: ∀i x s,l[i]? =some x->I i s->step (mk i s)=some (match f i x s with| .inl s'=>.inl (mk ((i+1:Nat):Int) s')| .inr r=>.inr r))
  (hi: ∀i x s s',l[i]? =some x->I i s->f i x s= .inl s'->I (i+1) s')
  (he: ∀(i:Nat) s,l.length<=i->I i s->step (mk i s)=some (.inr (e s))) (k:Nat) (s:σ) (h0:I k s):cM step (mk k s)=some (run f e k (l.drop k) s):=by
 generalize hm:l.drop k=m
 induction m generalizing k s with
 |nil=>
  have:l.length<=k:=by
   have:=congrArg List.length hm
   simp only [iF,List.length_drop,List.length_nil] at this
   omega
  exact lC (he k s this h0)
 |cons x m ih=>
  have hx:l[k]? =some x:=by
   have:=List.getElem?_drop (xs:=l) (i:=k) (j:=0)
   rw [hm] at this
   simpa using this.symm
  have hm':l.drop (k+1)=m:=by
   have:l.drop (k+1)=(l.drop k).drop 1:=by rw [List.drop_drop]
   rw [this,hm];rfl
  have h1:=hs k x s hx h0
  simp only [iF,run]
  cases hf:f k x s with
  |inl s'=>
   rw [hf] at h1
   rw [tH h1]
   exact ih (k+1) s' (hi k x s s' hx h0 hf) hm'
  |inr r=>
   rw [hf] at h1
   exact lC h1
def mB {α:Type} (p:Nat->α->Bool):Nat->List α->Bool
 |_,[]=>true
 |k,x::l=>p k x&&mB p (k+1) l
theorem Ut {α:Type} (p q:Nat->α->Bool) (k:Nat) (l:List α):mB (fun i x=>p i x&&q i x) k l=(mB p k l&&mB q k l):=by
 induction l generalizing k with
 |nil=>rfl
 |cons x l ih=>
  simp only [iF,mB,ih]
  cases p k x<;>cases q k x<;>simp
theorem pO {α:Type} {step:Int->Option (Int⊕(Unit⊕Unit))} (l:List α) (k:Nat) (p:Nat->α->Bool)
  (hs: ∀i x,l[i]? =some x->k<=i->step i=some (bif p i x then .inl ((i+1:Nat):Int) else .inr (.inl ())))
  (he: ∀i:Nat,l.length<=i->step i=some (.inr (.inr ()))):cM step (k:Int)=some (bif mB p k (l.drop k) then .inr () else .inl ()):=by
 have h:=v3 (step:=step) l (fun i (_:Unit)=>i) (fun i _=>k<=i) (fun i x _=>bif p i x then .inl () else .inr (.inl ())) (fun _=>.inr ()) (fun i x s hx hk=>by
  rw [hs i x hx hk];cases p i x<;>rfl) (fun i x s s' _ hk _=>Nat.le_succ_of_le hk) (fun i s hl _=>he i hl) k () (Nat.le_refl _)
 rw [h]
 congr 1
 have: ∀(m:List α) (j:Nat),run (fun i x (_:Unit)=>bif p i x then .inl () else .inr (.inl ())) (fun _=>(.inr ():Unit⊕Unit)) j m ()=bif mB p j m then .inr () else .inl ():=by
  intro m
  induction m with
  |nil=>intro j;rfl
  |cons x m ih=>
   intro j
   simp only [iF,run,mB]
   cases p j x with
   |false=>rfl
   |true=>exact ih (j+1)
 exact this _ _
def pD {α:Type} (p:α->Bool):Nat->List α->Option Nat
 |_,[]=>none
 |k,x::l=>bif p x then some k else pD p (k+1) l
theorem qQ {α τ R:Type} {step:τ->Option (τ⊕R)} (mk:Int->τ) (l:List α) (p:α->Bool) (y:Nat->R) (n:R)
  (hs: ∀(i:Nat) x,l[i]? =some x->step (mk i)=some (bif p x then .inr (y i) else .inl (mk ((i+1:Nat):Int))))
  (he:step (mk l.length)=some (.inr n)):cM step (mk 0)=some (match pD p 0 l with|some i=>y i|none=>n):=by
 have h:=v3 (step:=step) l (fun i (_:Unit)=>mk i) (fun i _=>i<=l.length) (fun i x _=>bif p x then .inr (y i) else .inl ()) (fun _=>n) (fun i x s hx hk=>by
  rw [hs i x hx];cases p x<;>rfl) (fun i x s s' hx hk _=>by have:=(List.getElem?_eq_some_iff.1 hx).1;omega) (fun i s hl hk=>by rw [Nat.le_antisymm hk hl];exact he) 0 () (Nat.zero_le _)
 refine h.trans ?_
 congr 1
 have: ∀(m:List α) (j:Nat),run (fun i x (_:Unit)=>bif p x then .inr (y i) else .inl ()) (fun _=>n) j m ()=match pD p j m with|some i=>y i|none=>n:=by
  intro m
  induction m with
  |nil=>intro j;rfl
  |cons x m ih=>
   intro j
   simp only [iF,run,pD]
   cases p x with
   |true=>rfl
   |false=>exact ih (j+1)
 exact this _ _
theorem xY {α:Type} (p:α->Bool) (k:Nat) (l:List α):(pD p k l).isSome=l.any p:=by
 induction l generalizing k with
 |nil=>rfl
 |cons x l ih=>
  simp only [iF,pD,List.any_cons]
  cases p x with
  |true=>rfl
  |false=>simpa using ih (k+1)
theorem UF {α:Type} (p:α->Bool) (k:Nat) (l:List α):mB (fun _ x=>!(p x)) k l= !(l.any p):=by
 induction l generalizing k with
 |nil=>rfl
 |cons x l ih=>
  simp only [iF,mB,List.any_cons,Bool.not_or,ih]
theorem oO {α τ R:Type} {step:τ->Option (τ⊕R)} (mk:Int->List α->τ) (l:List α) (e:List α->R)
  (hs: ∀(i:Nat) x,l[i]? =some x->step (mk i (l.take i))=some (.inl (mk ((i+1:Nat):Int) (l.take i++ [x]))))
  (he:step (mk l.length l)=some (.inr (e l))):cM step (mk 0 [])=some (e l):=by
 have h:=v3 (step:=step) l mk (fun i s=>i<=l.length/\s=l.take i) (fun i x s=>.inl (s++ [x])) e (fun i x s hx hk=>by
  rw [hk.2,hs i x hx]) (fun i x s s' hx hk hf=>by
   have:=(List.getElem?_eq_some_iff.1 hx)
   obtain⟨h1,h2⟩:=this
   refine⟨by omega,?_⟩
   simp only [iF,Sum.inl.injEq] at hf
   rw [<-hf,hk.2,<-h2,List.take_append_getElem h1]) (fun i s hl hk=>by
   have hil:i=l.length:=by omega
   rw [hk.2,hil,List.take_length];exact he) 0 [] ⟨Nat.zero_le _,by simp⟩
 refine h.trans ?_
 congr 1
 have: ∀(m s:List α) (j:Nat),run (fun i x (s:List α)=>(.inl (s++ [x]):List α⊕R)) e j m s=e (s++m):=by
  intro m
  induction m with
  |nil=>intro s j;simp [run]
  |cons x m ih=>
   intro s j
   simp only [iF,run]
   rw [ih];simp
 rw [this];simp
theorem kh {n:Nat} (h:n<=140737488355328):IntKind.i64.wrap ((n:Int)+1)=((n+1:Nat):Int):=by
 rw [jE]<;>omega
theorem qdr {n:Nat} (h:n<=140737488355328):IntKind.i64.wrap ((n:Int)-1)=(n:Int)-1:=by
 rw [jE]<;>omega
theorem i0 {α:Type} {l:List α} {i:Nat} {x:α} (h:l[i]? =some x):i<l.length:=(List.getElem?_eq_some_iff.1 h).1
theorem ltN {i n:Nat} (h:i<n):decide ((i:Int)<(n:Int))=true:=decide_eq_true (by omega)
theorem geN {i n:Nat} (h:n<=i):decide ((i:Int)<(n:Int))=false:=decide_eq_false (by omega)
theorem AB: ∀a b:List UInt8,decide (0<=Lib.compareBytes a b)= !Op.bytesLess a b
 | [],[]=>by simp [Lib.compareBytes,Op.bytesLess]
 | [],_::_=>by simp [Lib.compareBytes,Op.bytesLess]
 |_::_,[]=>by simp [Lib.compareBytes,Op.bytesLess]
 |a::x,b::y=>by
  simp only [iF,Lib.compareBytes,Op.bytesLess]
  by_cases h1:a<b
  ·simp [h1]
  ·by_cases h2:b<a
   ·have h3:(a==b)=false:=by
     rw [beq_eq_false_iff_ne];rintro rfl;exact h1 h2
    simp [h1,h2,h3]
   ·have h3:a=b:=by
     have e1: ¬a.toNat<b.toNat:=h1
     have e2: ¬b.toNat<a.toNat:=h2
     exact UInt8.toNat_inj.1 (by omega)
    subst h3
    simp only [iF,h1,if_false,beq_self_eq_true,decide_false,Bool.true_and,Bool.false_or]
    exact AB x y
theorem Ke (a b:ByteArray):decide (0<=kb a b)= !rR a b:=by
 have:kb a b=Lib.compareBytes a.toList b.toList:=by
  rw [ByteArray.toList_eq,ByteArray.toList_eq];rfl
 rw [this];exact AB _ _
theorem Rx (a b:iC):decide (0<=qc a b)= !rR a.iN b.iN:=Ke _ _
def ve {α:Type} (lt:α->α->Bool) (l:List α) (i:Nat) (x:α):Bool:=match l[i-1]? with
 |some y=>lt y x
 |none=>true
theorem rZ {α:Type} {lt:α->α->Bool} {l:List α} {i:Nat} {x y:α} (h:l[i-1]? =some y):ve lt l i x=lt y x:=by
 unfold ve;rw [h]
def oD {α:Type} (lt:α->α->Bool) (l:List α):Bool:=mB (ve lt l) 1 (l.drop 1)
theorem Aw {α:Type} {l:List α} {i:Nat} {x:α} (hx:l[i]? =some x) (hi:1<=i) (hl:l.length<=140737488351232): ∃y,l[i-1]? =some y/\idx l (IntKind.i64.wrap ((i:Int)-1))=some y:=by
 have h:=i0 hx
 refine⟨l[i-1],List.getElem?_eq_getElem _,?_⟩
 rw [qdr (by omega)]
 have:((i:Int)-1)=((i-1:Nat):Int):=by omega
 rw [this]
 exact i8 (List.getElem?_eq_getElem _)
theorem Oz (l:List iC) (hl:l.length<=140737488351232):jn l=some (oD (fun a b=>rR a.iN b.iN) l):=by
 unfold jn
 rw [show (1:Int)=((1:Nat):Int) from rfl,pO (step:=jk l) l 1 (ve (fun a b=>rR a.iN b.iN) l) (fun i x hx hi=>by
  obtain⟨y,h1,h2⟩:=Aw hx hi hl
  simp only [iF,jk,ltN (i0 hx),cond_true,h2,i8 hx,rZ h1,Rx,kh (Nat.le_trans (Nat.le_of_lt (i0 hx)) (Nat.le_trans hl (by decide)))]
  cases rR y.iN x.iN<;>rfl) (fun i hi=>by simp only [iF,jk,geN hi,cond_false])]
 show _=some (mB _ 1 (l.drop 1))
 generalize mB _ 1 (l.drop 1)=b
 cases b<;>rfl
theorem Ou (l:List ByteArray) (hl:l.length<=140737488351232):jd l=some (oD rR l):=by
 unfold jd
 rw [show (1:Int)=((1:Nat):Int) from rfl,pO (step:=i9 l) l 1 (ve rR l) (fun i x hx hi=>by
  obtain⟨y,h1,h2⟩:=Aw hx hi hl
  simp only [iF,i9,ltN (i0 hx),cond_true,h2,i8 hx,rZ h1,Ke,kh (Nat.le_trans (Nat.le_of_lt (i0 hx)) (Nat.le_trans hl (by decide)))]
  cases rR y x<;>rfl) (fun i hi=>by simp only [iF,i9,geN hi,cond_false])]
 show _=some (mB _ 1 (l.drop 1))
 generalize mB _ 1 (l.drop 1)=b
 cases b<;>rfl
theorem or2 (a b:Int):sO [a,b]=some (bif a==0 then b else a):=by
 unfold sO
 have h:=qQ (step:=nI [a,b] ([a,b].length:Int)) (fun i=>i) [a,b] (fun x=>!(x==0)) (fun i=>.inl ([a,b].getD i 0)) (.inr ()) (fun i x hx=>by
  have h1:=i0 hx
  have h2:i<=140737488355328:=by simp only [iF,List.length_cons,List.length_nil] at h1;omega
  have h3: [a,b].getD i 0=x:=by simp [List.getD,hx]
  simp only [iF,nI,ltN h1,cond_true,i8 hx,kh h2,h3]
  cases (x==0)<;>rfl) (by simp only [iF,nI,geN (Nat.le_refl _),cond_false])
 rw [h]
 simp only [iF,pD]
 cases ha:(a==0) with
 |false=>rfl
 |true=>
  cases hb:(b==0) with
  |false=>rfl
  |true=>
   have:b=0:=by simpa using hb
   subst this;rfl
theorem UE (a b:f5): ∃n,nX a b=some n/\decide (0<=n)= !jA a b:=by
 unfold nX
 rw [or2]
 refine⟨_,rfl,?_⟩
 simp only [iF,mi,nH,cond_false,jA]
 by_cases h:a.fN=b.fN
 ·have e:decide (b.fN<b.fN)=false:=decide_eq_false (by omega)
  simp only [iF,h,e,cond_false,beq_self_eq_true,cond_true]
  exact Ke _ _
 ·have e:(a.fN==b.fN)=false:=by simpa using h
  by_cases h1:a.fN<b.fN
  ·simp [h1,e]
  ·have h2:b.fN<a.fN:=by omega
   simp [h1,h2,e]
theorem MV (l:List f5) (hl:l.length<=140737488351232):jj l=some (oD jA l):=by
 unfold jj
 rw [show (1:Int)=((1:Nat):Int) from rfl,pO (step:=ji l) l 1 (ve jA l) (fun i x hx hi=>by
  obtain⟨y,h1,h2⟩:=Aw hx hi hl
  obtain⟨n,h3,h4⟩:=UE y x
  simp only [iF,ji,ltN (i0 hx),cond_true,h2,i8 hx,rZ h1,h3,h4,kh (Nat.le_trans (Nat.le_of_lt (i0 hx)) (Nat.le_trans hl (by decide)))]
  cases jA y x<;>rfl) (fun i hi=>by simp only [iF,ji,geN hi,cond_false])]
 show _=some (mB _ 1 (l.drop 1))
 generalize mB _ 1 (l.drop 1)=b
 cases b<;>rfl
def EL (o:Option Nat):Int:=match o with|some i=>i|none=>-1
theorem EO (o:Option Nat):decide (0<=EL o)=o.isSome:=by
 cases o with
 |none=>rfl
 |some i=>exact decide_eq_true (Int.natCast_nonneg _)
theorem RF (l:List ByteArray) (hl:l.length<=140737488351232):sJ l=some (l.any lA):=by
 unfold sJ uh
 rw [qQ (step:=nF l (l.length:Int)) (fun i=>i) l lA (fun i=>.inl (i:Int)) (.inr ()) (fun i x hx=>by
  simp only [iF,nF,ltN (i0 hx),cond_true,i8 hx,kh (Nat.le_trans (Nat.le_of_lt (i0 hx)) (Nat.le_trans hl (by decide)))]
  cases lA x<;>rfl) (by simp only [iF,nF,geN (Nat.le_refl _),cond_false])]
 rw [<-xY lA 0 l]
 cases pD lA 0 l<;>simp [iF]
theorem QF (l:List iC) (hl:l.length<=140737488351232):sU l=some (l.any l9):=by
 unfold sU uk
 rw [qQ (step:=nG l (l.length:Int)) (fun i=>i) l l9 (fun i=>.inl (i:Int)) (.inr ()) (fun i x hx=>by
  simp only [iF,nG,ltN (i0 hx),cond_true,i8 hx,kh (Nat.le_trans (Nat.le_of_lt (i0 hx)) (Nat.le_trans hl (by decide)))]
  cases l9 x<;>rfl) (by simp only [iF,nG,geN (Nat.le_refl _),cond_false])]
 rw [<-xY l9 0 l]
 cases pD l9 0 l<;>simp [iF]
theorem LN (l:List f5) (hl:l.length<=140737488351232):sH l=some (l.any ma):=by
 unfold sH uF
 rw [qQ (step:=nD l (l.length:Int)) (fun i=>i) l ma (fun i=>.inl (i:Int)) (.inr ()) (fun i x hx=>by
  simp only [iF,nD,ltN (i0 hx),cond_true,i8 hx,kh (Nat.le_trans (Nat.le_of_lt (i0 hx)) (Nat.le_trans hl (by decide)))]
  cases ma x<;>rfl) (by simp only [iF,nD,geN (Nat.le_refl _),cond_false])]
 rw [<-xY ma 0 l]
 cases pD ma 0 l<;>simp [iF]
theorem OH (l:List f5) (hl:l.length<=140737488351232):sI l=some (l.any ml):=by
 unfold sI ud
 rw [qQ (step:=nE l (l.length:Int)) (fun i=>i) l ml (fun i=>.inl (i:Int)) (.inr ()) (fun i x hx=>by
  simp only [iF,nE,ltN (i0 hx),cond_true,i8 hx,kh (Nat.le_trans (Nat.le_of_lt (i0 hx)) (Nat.le_trans hl (by decide)))]
  cases ml x<;>rfl) (by simp only [iF,nE,geN (Nat.le_refl _),cond_false])]
 rw [<-xY ml 0 l]
 cases pD ml 0 l<;>simp [iF]
theorem qdQ (l:List f5) (m:ByteArray) (hl:l.length<=140737488351232):sK l m=some (EL (pD (fun x=>cY x.i6 m) 0 l)):=by
 unfold sK mq
 rw [qQ (step:=ko l (l.length:Int)) (fun i=>(i,m)) l (fun x=>cY x.i6 m) (fun i=>.inl ((i:Int),m)) (.inr m) (fun i x hx=>by
  simp only [iF,ko,ltN (i0 hx),cond_true,i8 hx,pm,kh (Nat.le_trans (Nat.le_of_lt (i0 hx)) (Nat.le_trans hl (by decide)))]
  cases cY x.i6 m<;>rfl) (by simp only [iF,ko,geN (Nat.le_refl _),cond_false])]
 cases pD (fun x=>cY x.i6 m) 0 l<;>rfl
theorem NA (l:List f5) (m:ByteArray) (hl:l.length<=140737488351232):sQ l m=some (EL (pD (fun x=>cY x.i6 m) 0 l)):=by
 unfold sQ
 rw [qQ (step:=nz l m) (fun i=>i) l (fun x=>cY x.i6 m) (fun i=>.inl (i:Int)) (.inr ()) (fun i x hx=>by
  simp only [iF,nz,ltN (i0 hx),cond_true,i8 hx,kh (Nat.le_trans (Nat.le_of_lt (i0 hx)) (Nat.le_trans hl (by decide)))]
  cases cY x.i6 m<;>rfl) (by simp only [iF,nz,geN (Nat.le_refl _),cond_false])]
 cases pD (fun x=>cY x.i6 m) 0 l<;>rfl
def vi (l:List f5) (i:Nat) (x:f5):Bool:=!(pD (fun y=>cY y.i6 x.i6) 0 (dm l 0 i)).isSome
def Ek (v:ae):Int:=
 bif v.af.any lA then 1
 else bif v.iz.any l9 then 1
 else bif v.f9.any ma then 1
 else bif !jf v.iO then 2
 else bif v.f9.any ml then 2
 else bif (oD (fun a b=>rR a.iN b.iN) v.iz&&(oD jA v.f9&&(!(v.e5==5)||oD rR v.af)))&&mB (vi v.f9) 0 v.f9 then 0 else 10
theorem LR {α:Type} (l:List α) (i:Nat) (n:Nat) (h:l.length<=n):(dm l 0 i).length<=n:=by
 unfold dm
 simp only [iF,List.length_drop,List.length_take]
 omega
theorem UY {i n:Nat} (h:i<=n):yo 0 i n=true:=by
 unfold yo
 simp
 omega
theorem qcp (v w:ae) (b:Bool) (hl:v.f9.length<=140737488351232):cM (wc v v.f9 (v.f9.length:Int) w) (b,0)=some (b&&mB (vi v.f9) 0 v.f9):=by
 have h:=v3 (step:=wc v v.f9 (v.f9.length:Int) w) v.f9 (fun i s=>(s,i)) (fun i _=>i<=v.f9.length) (fun i x s=>.inl (s&&vi v.f9 i x)) (fun s=>s) (fun i x s hx hi=>by
  have hw:=kh (n:=i) (by omega)
  simp only [iF,wc,ltN (i0 hx),cond_true,i8 hx,hw,UY hi,qdQ _ _ (LR v.f9 i _ hl),vi,<-EO]
  cases s with
  |false=>rfl
  |true=>
   simp only [iF,cond_true,Bool.true_and]
   congr 4
   generalize EL _=z
   by_cases hz:z<0
   ·simp [hz,show ¬0<=z by omega]
   ·simp [hz,show 0<=z by omega]) (fun i x s s' hx hi _=>by have:=i0 hx;omega) (fun i s hl hi=>by
  simp only [iF,wc,geN hl,cond_false]) 0 b (Nat.zero_le _)
 refine h.trans ?_
 congr 1
 have: ∀(m:List f5) (j:Nat) (s:Bool),run (fun i x s=>(.inl (s&&vi v.f9 i x):Bool⊕Bool)) (fun s=>s) j m s=(s&&mB (vi v.f9) j m):=by
  intro m
  induction m with
  |nil=>intro j s;simp [run,mB]
  |cons x m ih=>
   intro j s
   simp only [iF,run,mB]
   rw [ih,Bool.and_assoc]
 exact this _ _ _
theorem qbu (v:ae) (ok:v.ok) (h:iX v.iq=true) (h16:px v (jC v v.e5 (v.e5==1))=false):BV v=some (Ek v):=by
 obtain⟨_,_,_,⟨o1,_⟩,⟨o2,_⟩,⟨o3,_⟩⟩:=ok
 unfold okN at o1 o2 o3
 unfold BV NS
 generalize jC v v.e5 (v.e5==1)=w at h16⊢
 rw [h16,h,RF _ (by omega)]
 simp only [iF,cond_true,cond_false]
 rw [QF _ (by omega)]
 simp only [iF]
 rw [LN _ (by omega)]
 simp only [iF]
 rw [OH _ (by omega)]
 simp only [iF,yu]
 rw [Oz _ (by omega),MV _ (by omega),Ou _ (by omega)]
 unfold Ek
 cases v.af.any lA with
 |true=>rfl
 |false=>
 cases v.iz.any l9 with
 |true=>rfl
 |false=>
 cases v.f9.any ma with
 |true=>rfl
 |false=>
 cases jf v.iO with
 |false=>rfl
 |true=>
 cases v.f9.any ml with
 |true=>rfl
 |false=>
 simp only [iF,cond_true,cond_false,Bool.not_true]
 generalize oD (fun a b=>rR a.iN b.iN) v.iz=b1
 generalize oD jA v.f9=b2
 generalize oD rR v.af=b3
 generalize (v.e5==5)=b4
 cases b1<;>cases b2<;>cases b3<;>cases b4<;>simp only [iF,cond_true,cond_false,Bool.true_and,Bool.false_and,Bool.not_true,Bool.not_false,Bool.true_or,Bool.false_or,Bool.or_true,Bool.or_false,Bool.and_true,Bool.and_false]<;>(rw [qcp _ _ _ (by omega)];simp only [iF,Bool.true_and,Bool.false_and,cond_false];try (cases mB (vi v.f9) 0 v.f9<;>rfl))
def IC (v:ae):Bool:=(!(v.e5==1)&& !cY v.iq ByteArray.empty)||(!(v.e5==2)&& !(v.iO==0))||(!(v.e5==3)&&decide (0<v.iz.length))||(!(v.e5==4||v.e5==5)&&decide (0<v.af.length))||(!(v.e5==6)&&decide (0<v.f9.length))
def Az (v:ae):Bool:=(decide (3<=v.e5)&&(decide (v.iz.length+v.af.length+v.f9.length<1)||decide (20<v.iz.length+v.af.length+v.f9.length)))|| !iX v.iq
def AH (v:ae):Int:=
 bif !(decide (1<=v.e5)&&decide (v.e5<=6)) then 3
 else bif IC v then 8
 else bif Az v then 1
 else Ek v
theorem we (k:Int) (t:ByteArray) (c:Int) (ps:List iC) (is:List ByteArray) (ss:List f5) (h1:ps.length<=140737488351232) (h2:is.length<=140737488351232) (h3:ss.length<=140737488351232):kM ⟨k,t,c,ps,is,ss⟩=((ps.length+is.length+ss.length:Nat):Int):=by
 unfold kM
 simp only [iF]
 rw [jE (n:=(ps.length:Int)+(is.length:Int)) (by omega) (by omega),jE]<;>omega
theorem six {q:Int} (h1: ¬q<1) (h2: ¬6<q):q=1∨q=2∨q=3∨q=4∨q=5∨q=6:=by omega
theorem Qb (n:Nat):decide ((0:Int)<(n:Int))=decide (0<n):=by
 by_cases h:0<n
 ·rw [decide_eq_true h,decide_eq_true (by omega)]
 ·rw [decide_eq_false h,decide_eq_false (by omega)]
theorem VE (v:ae) (ok:v.ok):vaC v=some (AH v):=by
 have ok':=ok
 obtain⟨q,t,c,ps,is,ss⟩:=v
 obtain⟨_,_,_,⟨o1,_⟩,⟨o2,_⟩,⟨o3,_⟩⟩:=ok
 unfold okN at o1 o2 o3
 simp only [iF] at o1 o2 o3
 have l1:ps.length<=140737488351232:=by omega
 have l2:is.length<=140737488351232:=by omega
 have l3:ss.length<=140737488351232:=by omega
 have l0: ∀ {α:Type},([]:List α).length<=140737488351232:=by intro α;simp
 have E:=fun (c:Int) (ps:List iC) (is:List ByteArray) (ss:List f5) h1 h2 h3=>we q t c ps is ss h1 h2 h3
 by_cases h1:q<1
 ·simp [vaC,h1,AH,show ¬1<=q by omega]
 by_cases h2:6<q
 ·simp [vaC,h1,h2,AH,show 1<=q by omega,show ¬q<=6 by omega]
 have hT: ∀v:ae,v.ok->v=⟨q,t,c,ps,is,ss⟩->BV v=some (bif Az v then 1 else Ek v):=by
  rintro v okv rfl
  cases hs:Az ⟨q,t,c,ps,is,ss⟩ with
  |false=>
   unfold Az at hs
   simp only [iF,Bool.or_eq_false_iff,Bool.not_eq_false'] at hs
   refine qbu _ okv hs.2 ?_
   unfold px
   rw [we _ _ _ _ _ _ l1 l2 l3]
   have h3:=hs.1
   cases hk:decide (3<=q) with
   |false=>simp only [iF,hk,cond_false]
   |true=>
    rw [hk,Bool.true_and,Bool.or_eq_false_iff,decide_eq_false_iff_not,decide_eq_false_iff_not] at h3
    simp only [iF,hk,cond_true]
    rw [decide_eq_false (by omega),cond_false,decide_eq_false (by omega)]
  |true=>
   unfold Az at hs
   unfold BV px
   rw [we _ _ _ _ _ _ l1 l2 l3]
   simp only [iF] at hs⊢
   cases hx:iX t with
   |false=>
    simp only [iF,cond_true,cond_false]
    cases (bif decide (3<=q) then bif decide (((ps.length+is.length+ss.length:Nat):Int)<1) then true else decide ((20:Int)<((ps.length+is.length+ss.length:Nat):Int)) else false)<;>rfl
   |true=>
    rw [hx,Bool.not_true,Bool.or_false,Bool.and_eq_true,Bool.or_eq_true,decide_eq_true_eq,decide_eq_true_eq,decide_eq_true_eq] at hs
    rw [decide_eq_true hs.1]
    simp only [iF,cond_true]
    rcases hs.2 with h|h
    ·rw [decide_eq_true (by omega)];rfl
    ·rw [decide_eq_false (by omega),cond_false,decide_eq_true (by omega)];rfl
 have hT':=hT _ ok' rfl
 have hr:(decide (1<=q)&&decide (q<=6))=true:=by
  rw [Bool.and_eq_true,decide_eq_true_eq,decide_eq_true_eq];omega
 unfold AH
 simp only [iF,hr,Bool.not_true,cond_false]
 generalize hz:(bif Az ⟨q,t,c,ps,is,ss⟩ then 1 else Ek ⟨q,t,c,ps,is,ss⟩)=z at hT'⊢
 unfold vaC
 simp only [decide_eq_false h1,decide_eq_false h2,cond_false,hT']
 have hform:rm ⟨q,t,c,ps,is,ss⟩ (jC ⟨q,t,c,ps,is,ss⟩ q (q==1))=IC ⟨q,t,c,ps,is,ss⟩:=by
  have add0: ∀a b:Nat,decide (0<a+b)=(decide (0<a)||decide (0<b)):=by
   intro a b
   by_cases ha:0<a
   ·rw [decide_eq_true ha,decide_eq_true (by omega),Bool.true_or]
   ·have:a=0:=by omega
    subst this;simp
  clear hT hT' hz hr E ok' o1 o2 o3
  rcases six h1 h2 with rfl|rfl|rfl|rfl|rfl|rfl
  all_goals
   unfold rm
   generalize hw:jC _ _ _=w
   simp only [jC,tz,tG,tM,Int.reduceBEq,cond_true,cond_false] at hw
   subst hw
   simp only [IC,Int.reduceBEq,pi,beq_self_eq_true,cond_true]
   rw [we _ _ _ _ _ _ (by first|exact l1|exact l0) (by first|exact l2|exact l0) (by first|exact l3|exact l0)]
   simp only [Qb,List.length_nil,Nat.zero_add,Nat.add_zero,add0]
   generalize decide (0<ps.length)=d1
   generalize decide (0<is.length)=d2
   generalize decide (0<ss.length)=d3
   generalize cY t ByteArray.empty=d4
   generalize (c==0)=d5
   cases d1<;>cases d2<;>cases d3<;>cases d4<;>cases d5<;>rfl
 rw [hform]
 cases IC ⟨q,t,c,ps,is,ss⟩<;>rfl
theorem A8 {α:Type} (p q:α->Bool) (h: ∀x,p x= !q x) (l:List α):mB (fun _ x=>q x) 0 l= !l.any p:=by
 have:(fun (_:Nat) (x:α)=>q x)=fun _ x=>!p x:=by
  funext _ x;rw [h x,Bool.not_not]
 rw [this,UF]
theorem Ov (l:List f5) (x:f5):vi l 0 x=true:=by
 unfold vi dm
 simp [pD]
theorem RH (l:List f5):mB (vi l) 0 l=mB (vi l) 1 (l.drop 1):=by
 have: ∀m:List f5,mB (vi l) 0 m=mB (vi l) 1 (m.drop 1):=by
  intro m
  cases m with
  |nil=>rfl
  |cons x m=>simp only [iF,mB,Ov,Bool.true_and];rfl
 exact this l
theorem qfI (v:ae):uu v=pS v:=rfl
def PF (v:ae):Int:=
 bif v.iz.any l9 then 1
 else bif v.f9.any ma then 1
 else bif !jf v.iO then 2
 else bif v.f9.any ml then 2
 else bif (oD (fun a b=>rR a.iN b.iN) v.iz&&(oD jA v.f9&&(!(v.e5==5)||oD rR v.af)))&&mB (vi v.f9) 0 v.f9 then 0 else 10
theorem qbx (v:ae):Ek v=bif v.af.any lA then 1 else PF v:=rfl
theorem Xm (v:ae) (ok:v.ok):cM (kv v) 0=some (bif v.af.any lA then .inl () else .inr ())/\pS v=some (PF v):=by
 obtain⟨_,_,_,⟨o1,_⟩,⟨o2,_⟩,⟨o3,_⟩⟩:=ok
 unfold okN at o1 o2 o3
 have e0:=pO (step:=kv v) v.af 0 (fun _ x=>i7 x) (fun i x hx hi=>by
  simp only [iF,kv,ltN (i0 hx),cond_true,i8 hx,kh (show i<=_ by have:=i0 hx;omega)]
  cases i7 x<;>rfl) (fun i hi=>by simp only [iF,kv,geN hi,cond_false])
 have e2:=pO (step:=lk v) v.iz 0 (fun _ x=>bif kA x.iN then i7 x.iq else false) (fun i x hx hi=>by
  simp only [iF,lk,ltN (i0 hx),cond_true,i8 hx,kh (show i<=_ by have:=i0 hx;omega)]
  cases kA x.iN<;>cases i7 x.iq<;>rfl) (fun i hi=>by simp only [iF,lk,geN hi,cond_false])
 have e4:=pO (step:=kX v) v.f9 0 (fun _ x=>i7 x.i6) (fun i x hx hi=>by
  simp only [iF,kX,ltN (i0 hx),cond_true,i8 hx,kh (show i<=_ by have:=i0 hx;omega)]
  cases i7 x.i6<;>rfl) (fun i hi=>by simp only [iF,kX,geN hi,cond_false])
 have e6:=pO (step:=kY v) v.f9 0 (fun _ x=>kp x.fN) (fun i x hx hi=>by
  simp only [iF,kY,ltN (i0 hx),cond_true,i8 hx,kh (show i<=_ by have:=i0 hx;omega)]
  cases kp x.fN<;>rfl) (fun i hi=>by simp only [iF,kY,geN hi,cond_false])
 have e8:=pO (step:=kZ v) v.iz 1 (ve (fun a b=>rR a.iN b.iN) v.iz) (fun i x hx hi=>by
  obtain⟨y,h1,h2⟩:=Aw hx hi (by omega)
  simp only [iF,kZ,ltN (i0 hx),cond_true,h2,i8 hx,rZ h1,kh (show i<=_ by have:=i0 hx;omega)]
  cases rR y.iN x.iN<;>rfl) (fun i hi=>by simp only [iF,kZ,geN hi,cond_false])
 have e10:(v.e5==5)=true->cM (jH v) 1=some (bif oD rR v.af then .inr () else .inl ()):=fun h5=>pO (step:=jH v) v.af 1 (ve rR v.af) (fun i x hx hi=>by
  obtain⟨y,h1,h2⟩:=Aw hx hi (by omega)
  simp only [iF,jH,ltN (i0 hx),cond_true,h5,h2,i8 hx,rZ h1,kh (show i<=_ by have:=i0 hx;omega)]
  cases rR y x<;>rfl) (fun i hi=>by simp only [iF,jH,geN hi,cond_false])
 have e10':(v.e5==5)=false->cM (jH v) 1=some (.inr ()):=fun h5=>lC (by
  simp only [iF,jH,h5,cond_false]
  cases decide ((1:Int)<(v.af.length:Int))<;>rfl)
 have e12:=pO (step:=kB v) v.f9 1 (fun i x=>ve jA v.f9 i x&&vi v.f9 i x) (fun i x hx hi=>by
  obtain⟨y,h1,h2⟩:=Aw hx hi (by omega)
  have hl:=i0 hx
  simp only [iF,kB,ltN (i0 hx),cond_true,h2,i8 hx,rZ h1,UY (Nat.le_of_lt hl),NA _ _ (LR v.f9 i 140737488351232 (by omega)),vi,<-EO,kh (show i<=_ by omega)]
  cases jA y x with
  |false=>rfl
  |true=>
   simp only [iF,cond_true,Bool.true_and]
   cases decide (0<=EL (pD (fun y=>cY y.i6 x.i6) 0 (dm v.f9 0 i)))<;>rfl) (fun i hi=>by simp only [iF,kB,geN hi,cond_false])
 rw [A8 lA (fun x=>i7 x) (fun x=>rfl)] at e0
 rw [A8 l9 (fun x=>bif kA x.iN then i7 x.iq else false) (fun x=>by
  show (bif iW x.iN then !iX x.iq else true)= !(bif iW x.iN then iX x.iq else false)
  cases iW x.iN<;>rfl)] at e2
 rw [A8 ma (fun x=>i7 x.i6) (fun x=>rfl)] at e4
 rw [A8 ml (fun x=>kp x.fN) (fun x=>rfl)] at e6
 rw [Ut] at e12
 simp only [iF,List.drop_zero] at e0 e2 e4 e6
 have k1:((1:Nat):Int)=1:=rfl
 have k0:((0:Nat):Int)=0:=rfl
 rw [k0] at e0 e2 e4 e6
 rw [k1] at e8 e12
 unfold pS vp vB vw vm vF
 refine⟨by rw [e0];cases v.af.any lA<;>rfl,?_⟩
 rw [e2,e4,e6,e8,e12]
 unfold PF
 rw [RH]
 generalize hb1:mB (ve (fun a b=>rR a.iN b.iN) v.iz) 1 (v.iz.drop 1)=b1
 generalize hb2:mB (ve jA v.f9) 1 (v.f9.drop 1)=b2
 have hb1':oD (fun a b=>rR a.iN b.iN) v.iz=b1:=hb1
 have hb2':oD jA v.f9=b2:=hb2
 rw [hb1',hb2']
 generalize mB (vi v.f9) 1 (v.f9.drop 1)=b4
 have hc:kp v.iO=jf v.iO:=rfl
 rw [hc]
 generalize v.iz.any l9=a2
 generalize v.f9.any ma=a3
 generalize jf v.iO=a4
 generalize v.f9.any ml=a5
 cases h5:(v.e5==5) with
 |true=>
  rw [e10 h5]
  generalize oD rR v.af=b3
  cases a2<;>try rfl
  cases a3<;>try rfl
  cases a4<;>try rfl
  cases a5<;>try rfl
  cases b1<;>cases b2<;>cases b3<;>cases b4<;>rfl
 |false=>
  rw [e10' h5]
  cases a2<;>try rfl
  cases a3<;>try rfl
  cases a4<;>try rfl
  cases a5<;>try rfl
  cases b1<;>cases b2<;>cases b4<;>rfl
theorem VX (v:ae) (ok:v.ok):pL v=some (AH v):=by
 obtain⟨hl,hg⟩:=Xm v ok
 obtain⟨_,_,_,⟨o1,_⟩,⟨o2,_⟩,⟨o3,_⟩⟩:=ok
 unfold okN at o1 o2 o3
 have hk6:jP v=Az v:=by
  have hs:nh v=((v.iz.length+v.af.length+v.f9.length:Nat):Int):=we v.e5 v.iq v.iO _ _ _ (by omega) (by omega) (by omega)
  unfold jP Az
  rw [hs]
  have hx:i7 v.iq=iX v.iq:=rfl
  rw [hx]
  cases decide (3<=v.e5) with
  |false=>rfl
  |true=>
   simp only [iF,cond_true,Bool.true_and]
   by_cases h1:v.iz.length+v.af.length+v.f9.length<1
   ·rw [decide_eq_false (show ¬(1:Int)<=_ by omega),decide_eq_true h1];rfl
   ·rw [decide_eq_true (show (1:Int)<=_ by omega),decide_eq_false h1]
    by_cases h2:20<v.iz.length+v.af.length+v.f9.length
    ·rw [decide_eq_false (show ¬_<=(20:Int) by omega),decide_eq_true h2];rfl
    ·rw [decide_eq_true (show _<=(20:Int) by omega),decide_eq_false h2];rfl
 unfold pL uA
 simp only [iF,qfI,hk6,hl,hg]
 unfold AH
 rw [qbx]
 generalize PF v=tg
 generalize v.af.any lA=a1
 generalize Az v=sz
 clear hl hg hk6
 obtain⟨q,t,c,ps,is,ss⟩:=v
 by_cases h1:q<1
 ·simp [show ¬1<=q by omega]
 by_cases h2:6<q
 ·simp [show 1<=q by omega,show ¬q<=6 by omega]
 simp only [iF,lW,pd,pn,oT,lj,nk,nu,ny,nx,nr,nq,np,IC,Qb]
 generalize decide (0<ps.length)=d1
 generalize decide (0<is.length)=d2
 generalize decide (0<ss.length)=d3
 generalize cY t ByteArray.empty=d4
 generalize (c==0)=d5
 cases sz<;>cases a1<;>rcases six h1 h2 with rfl|rfl|rfl|rfl|rfl|rfl<;>cases d1<;>cases d2<;>cases d3<;>cases d4<;>cases d5<;>rfl
theorem z9 {α β:Type} {step:Int->Option (Int⊕(β⊕Unit))} (l:List α) (g:α->β) (p:Nat->α->Bool)
  (hs: ∀(i:Nat) x,l[i]? =some x->step (i:Int)=some (bif p i x then .inl ((i+1:Nat):Int) else .inr (.inl (g x))))
  (he:step (l.length:Int)=some (.inr (.inr ()))): ∃r,cM step 0=some r/\(mB p 0 l=true->r= .inr ())/\(mB p 0 l=false-> ∃y,r= .inl y):=by
 have h:=v3 (step:=step) l (fun i (_:Unit)=>i) (fun i _=>i<=l.length) (fun i x _=>bif p i x then .inl () else .inr (.inl (g x))) (fun _=>.inr ()) (fun i x s hx hk=>by
  rw [hs i x hx];cases p i x<;>rfl) (fun i x s s' hx hk _=>by have:=i0 hx;omega) (fun i s hl hk=>by rw [Nat.le_antisymm hk hl];exact he) 0 () (Nat.zero_le _)
 refine⟨_,h,?_,?_⟩
 ·have: ∀(m:List α) (j:Nat),mB p j m=true->run (fun i x (_:Unit)=>bif p i x then .inl () else .inr (.inl (g x))) (fun _=>(.inr ():β⊕Unit)) j m ()= .inr ():=by
   intro m
   induction m with
   |nil=>intro j _;rfl
   |cons x m ih=>
    intro j h
    simp only [iF,mB,Bool.and_eq_true] at h
    simp only [iF,run,h.1,cond_true]
    exact ih (j+1) h.2
  exact this _ _
 ·have: ∀(m:List α) (j:Nat),mB p j m=false-> ∃y,run (fun i x (_:Unit)=>bif p i x then .inl () else .inr (.inl (g x))) (fun _=>(.inr ():β⊕Unit)) j m ()= .inl y:=by
   intro m
   induction m with
   |nil=>intro j h;cases h
   |cons x m ih=>
    intro j h
    simp only [iF,run]
    cases hp:p j x with
    |false=>exact⟨_,rfl⟩
    |true=>
     simp only [iF,mB,hp,Bool.true_and] at h
     exact ih (j+1) h
  exact this _ _
def Ly (now:Int) (l:List gi) (i:Nat) (x:gi):Bool:=(iW x.jm&&((AH x.jt==0)&&(decide (i=0)||ve (fun a b=>rR a.jm b.jm) l i x)))&&((x.jX==0)||(decide (now<x.jX)&&decide (x.jX<=1073741824)))
def vE (s:iJ):Bool:=(decide (0<=s.iS)&&(decide (s.iS<=1073741824)&&decide (s.f6.length<=12)))&&mB (Ly s.iS s.f6) 0 s.f6
theorem XY (now u:Int):(bif (u==0) then false else bif decide (u<=now) then true else decide (1073741824<u))= !((u==0)||(decide (now<u)&&decide (u<=1073741824))):=by
 cases (u==0) with
 |true=>rfl
 |false=>
  by_cases h1:u<=now
  ·simp [h1,show ¬now<u by omega]
  ·by_cases h2:1073741824<u
   ·simp [h1,h2,show ¬u<=1073741824 by omega]
   ·simp [h1,h2,show u<=1073741824 by omega,show now<u by omega]
theorem XX (now u:Int) (h:0<=now):(bif (u==0) then false else bif decide (0<=u) then bif decide (u<=1073741824) then decide (u<=now) else true else true)= !((u==0)||(decide (now<u)&&decide (u<=1073741824))):=by
 cases (u==0) with
 |true=>rfl
 |false=>
  by_cases h0:0<=u
  ·by_cases h1:u<=now
   ·by_cases h2:u<=1073741824
    ·simp [h0,h1,h2,show ¬now<u by omega]
    ·simp [h0,h1,h2]
   ·by_cases h2:u<=1073741824
    ·simp [h0,h1,h2,show now<u by omega]
    ·simp [h0,h1,h2]
  ·simp [h0,show ¬now<u by omega]
theorem qlu (s:iJ) (i:Nat) (l:List gi) (n:Int) (x:gi) (ok:x.jt.ok) (hx:s.f6[i]? =some x) (hl:s.f6.length<=140737488351232):mE s (i:Int) l n x=some (!(iW x.jm&&((AH x.jt==0)&&(decide (i=0)||ve (fun a b=>rR a.jm b.jm) s.f6 i x)))):=by
 unfold mE
 rw [VE _ ok]
 have hf:iW x.jm=(decide (1<=(x.jm.size:Int))&&decide ((x.jm.size:Int)<=12)):=rfl
 rw [hf]
 by_cases h1:(x.jm.size:Int)<1
 ·simp [h1,show ¬1<=(x.jm.size:Int) by omega]
 by_cases h2:(12:Int)<(x.jm.size:Int)
 ·simp [h1,h2,show ¬(x.jm.size:Int)<=12 by omega]
 rw [decide_eq_false h1,decide_eq_false h2,decide_eq_true (show (1:Int)<=(x.jm.size:Int) by omega),decide_eq_true (show (x.jm.size:Int)<=12 by omega)]
 simp only [iF,cond_false,Bool.true_and]
 cases AH x.jt==0 with
 |false=>rfl
 |true=>
  simp only [iF,cond_true,Bool.true_and]
  by_cases hi:i=0
  ·subst hi;rfl
  ·obtain⟨y,e1,e2⟩:=Aw hx (by omega) hl
   rw [decide_eq_true (show (0:Int)<(i:Int) by omega),cond_true,e2,decide_eq_false hi,Bool.false_or,rZ e1,iF]
theorem qmm (s:iJ) (i:Nat) (x:gi) (ok:x.jt.ok) (hx:s.f6[i]? =some x) (hl:s.f6.length<=140737488351232):lU s (i:Int) x=some (!(iW x.jm&&((AH x.jt==0)&&(decide (i=0)||ve (fun a b=>rR a.jm b.jm) s.f6 i x)))):=by
 unfold lU
 rw [VX _ ok]
 have hf:kA x.jm=iW x.jm:=rfl
 rw [hf]
 cases iW x.jm with
 |false=>rfl
 |true=>
  simp only [iF,cond_true,Bool.true_and]
  cases AH x.jt==0 with
  |false=>rfl
  |true=>
   simp only [iF,cond_true,Bool.true_and]
   by_cases hi:i=0
   ·subst hi;rfl
   ·obtain⟨y,e1,e2⟩:=Aw hx (by omega) hl
    rw [decide_eq_true (show (0:Int)<(i:Int) by omega),cond_true,e2,decide_eq_false hi,Bool.false_or,rZ e1,iF]
theorem W4 (s:iJ) (ok:s.ok):ri s=some (bif vE s then 0 else 13):=by
 have hl:=ok.2.1
 unfold okN at hl
 have hk:lz s= !(decide (0<=s.iS)&&(decide (s.iS<=1073741824)&&decide (s.f6.length<=12))):=by
  unfold lz
  by_cases h1:s.iS<0
  ·simp [h1,show ¬0<=s.iS by omega]
  by_cases h2:1073741824<s.iS
  ·simp [h1,h2,show ¬s.iS<=1073741824 by omega]
  rw [decide_eq_false h1,decide_eq_false h2,decide_eq_true (show 0<=s.iS by omega),decide_eq_true (show s.iS<=1073741824 by omega)]
  by_cases h3:s.f6.length<=12
  ·rw [decide_eq_true h3,decide_eq_false (by omega)];rfl
  ·rw [decide_eq_false h3,decide_eq_true (by omega)];rfl
 obtain⟨r,e1,e2,e3⟩:=z9 (step:=mV s s.f6 (s.f6.length:Int)) s.f6 (fun x=>x) (Ly s.iS s.f6) (fun i x hx=>by
  simp only [iF,mV,ltN (i0 hx),cond_true,i8 hx,qlu s i _ _ x (ok.2.2 x (List.mem_of_getElem? hx)).2.1 hx (by omega),lI,XY,kh (show i<=_ by have:=i0 hx;omega),Ly]
  generalize (iW x.jm&&((AH x.jt==0)&&(decide (i=0)||ve (fun a b=>rR a.jm b.jm) s.f6 i x)))=b1
  generalize ((x.jX==0)||(decide (s.iS<x.jX)&&decide (x.jX<=1073741824)))=b2
  cases b1<;>cases b2<;>rfl) (by simp only [iF,mV,geN (Nat.le_refl _),cond_false])
 unfold ri vE
 rw [hk,e1]
 cases (decide (0<=s.iS)&&(decide (s.iS<=1073741824)&&decide (s.f6.length<=12))) with
 |false=>rfl
 |true=>
  cases h:mB (Ly s.iS s.f6) 0 s.f6 with
  |true=>rw [e2 h];rfl
  |false=>obtain⟨y,hy⟩:=e3 h;rw [hy];rfl
theorem Wf (s:iJ) (ok:s.ok):pI s=some (bif vE s then 0 else 13):=by
 have hl:=ok.2.1
 unfold okN at hl
 have hk:kK s= !(decide (0<=s.iS)&&(decide (s.iS<=1073741824)&&decide (s.f6.length<=12))):=by
  unfold kK
  cases decide (0<=s.iS) with
  |false=>rfl
  |true=>
   cases decide (s.iS<=1073741824) with
   |false=>rfl
   |true=>
    by_cases h3:s.f6.length<=12
    ·rw [decide_eq_true h3,decide_eq_false (by omega)];rfl
    ·rw [decide_eq_false h3,decide_eq_true (by omega)];rfl
 unfold pI vE
 rw [hk]
 cases hh:(decide (0<=s.iS)&&(decide (s.iS<=1073741824)&&decide (s.f6.length<=12))) with
 |false=>rfl
 |true=>
  have hn:0<=s.iS:=by simp only [iF,Bool.and_eq_true,decide_eq_true_eq] at hh;omega
  obtain⟨r,e1,e2,e3⟩:=z9 (step:=mm s) s.f6 (fun x=>x) (Ly s.iS s.f6) (fun i x hx=>by
   simp only [iF,mm,ltN (i0 hx),cond_true,i8 hx,qmm s i x (ok.2.2 x (List.mem_of_getElem? hx)).2.1 hx (by omega),lm,XX _ _ hn,kh (show i<=_ by have:=i0 hx;omega),Ly]
   generalize (iW x.jm&&((AH x.jt==0)&&(decide (i=0)||ve (fun a b=>rR a.jm b.jm) s.f6 i x)))=b1
   generalize ((x.jX==0)||(decide (s.iS<x.jX)&&decide (x.jX<=1073741824)))=b2
   cases b1<;>cases b2<;>rfl) (by simp only [iF,mm,geN (Nat.le_refl _),cond_false])
  rw [e1]
  cases h:mB (Ly s.iS s.f6) 0 s.f6 with
  |true=>rw [e2 h];rfl
  |false=>obtain⟨y,hy⟩:=e3 h;rw [hy];rfl
def CF (r:iT):Int:=
 bif !(decide (0<=r.j9)&&decide (r.j9<=13)) then 3
 else bif !(iX r.iq)||(decide (20<r.jG.length)||r.jG.any jF) then 1
 else bif !(jf r.fN) then 2 else 0
theorem Sx (l:List ByteArray) (hl:l.length<=140737488351232):mu l=some (l.any jF):=by
 unfold mu nA
 rw [qQ (step:=kL l (l.length:Int)) (fun i=>i) l jF (fun i=>.inl (i:Int)) (.inr ()) (fun i x hx=>by
  simp only [iF,kL,ltN (i0 hx),cond_true,i8 hx,kh (Nat.le_trans (Nat.le_of_lt (i0 hx)) (Nat.le_trans hl (by decide)))]
  cases jF x<;>rfl) (by simp only [iF,kL,geN (Nat.le_refl _),cond_false])]
 rw [<-xY jF 0 l]
 cases pD jF 0 l<;>simp [iF]
theorem vf (n k:Int):decide (k<n)= !decide (n<=k):=by
 by_cases h:n<=k
 ·rw [decide_eq_true h,decide_eq_false (by omega)];rfl
 ·rw [decide_eq_false h,decide_eq_true (by omega)];rfl
theorem RY (n:Nat):decide ((20:Int)<(n:Int))=decide (20<n):=by
 by_cases h:20<n
 ·rw [decide_eq_true h,decide_eq_true (by omega)]
 ·rw [decide_eq_false h,decide_eq_false (by omega)]
theorem VZ (r:iT) (hl:r.jG.length<=140737488351232):v9 r=some (CF r):=by
 unfold v9 zn CF
 rw [Sx _ hl,vf r.j9 13,vf (r.iq.size:Int) 20,RY,vf r.fN 1099511627776]
 have e1:decide (r.j9<0)= !decide (0<=r.j9):=vf 0 r.j9
 have e2:decide (r.fN< -1099511627776)= !decide (-1099511627776<=r.fN):=vf (-1099511627776) r.fN
 rw [e1,e2]
 have e3:iX r.iq=decide ((r.iq.size:Int)<=20):=rfl
 have e4:jf r.fN=(decide (-1099511627776<=r.fN)&&decide (r.fN<=1099511627776)):=rfl
 rw [e3,e4]
 cases decide (0<=r.j9)<;>cases decide (r.j9<=13)<;>cases decide ((r.iq.size:Int)<=20)<;>cases decide (20<r.jG.length)<;>cases r.jG.any jF<;>cases decide (-1099511627776<=r.fN)<;>cases decide (r.fN<=1099511627776)<;>rfl
theorem WC (r:iT) (hl:r.jG.length<=140737488351232):nR r=some (CF r):=by
 have e:=pO (step:=mf r) r.jG 0 (fun _ x=>i7 x) (fun i x hx hi=>by
  simp only [iF,mf,ltN (i0 hx),cond_true,i8 hx,kh (show i<=_ by have:=i0 hx;omega)]
  cases i7 x<;>rfl) (fun i hi=>by simp only [iF,mf,geN hi,cond_false])
 have e':mB (fun _ x=>i7 x) 0 r.jG= !r.jG.any jF:=A8 jF (fun x=>i7 x) (fun x=>vf _ _) r.jG
 rw [List.drop_zero,e'] at e
 have k0:((0:Nat):Int)=0:=rfl
 rw [k0] at e
 unfold nR CF
 rw [e,RY]
 have e3:i7 r.iq=iX r.iq:=rfl
 have e4:kp r.fN=jf r.fN:=rfl
 rw [e3,e4]
 cases decide (0<=r.j9)<;>cases decide (r.j9<=13)<;>cases iX r.iq<;>cases decide (20<r.jG.length)<;>cases r.jG.any jF<;>cases jf r.fN<;>rfl
def idB (next:Int) (l:List cc) (i:Nat) (x:cc):Bool:=(decide (1<=x.fId)&&decide (x.fId<next))&&(decide (i=0)||ve (fun a b=>decide (a.fId<b.fId)) l i x)
def Dk (now:Int) (x:cc):Bool:=(decide (0<=x.jQ)&&decide (x.jQ<=1048576))&&((decide (0<=x.iZ)&&decide (x.iZ<=now))&&(CF x.i5==0))
def BE (m:ad):Bool:=(vE m.e7&&((decide (1<=m.iI)&&decide (m.iI<=1048577))&&decide (m.cO.length<=4)))&&mB (fun i x=>idB m.iI m.cO i x&&Dk m.e7.iS x) 0 m.cO
theorem qi9 (m:ad) (i:Nat) (l:List cc) (n:Int) (x:cc) (hx:m.cO[i]? =some x) (hl:m.cO.length<=140737488351232):u3 m (i:Int) l n x=some (!idB m.iI m.cO i x):=by
 unfold u3 idB
 have e1:decide (x.fId<1)= !decide (1<=x.fId):=vf _ _
 have e2:decide (m.iI<=x.fId)= !decide (x.fId<m.iI):=by rw [vf];simp
 rw [e1,e2]
 cases decide (1<=x.fId) with
 |false=>rfl
 |true=>
  cases decide (x.fId<m.iI) with
  |false=>rfl
  |true=>
   simp only [iF,Bool.not_true,cond_false,Bool.true_and]
   by_cases hi:i=0
   ·subst hi;rfl
   ·obtain⟨y,h1,h2⟩:=Aw hx (by omega) hl
    rw [decide_eq_true (show (0:Int)<(i:Int) by omega),cond_true,h2,decide_eq_false hi,Bool.false_or,rZ h1,iF]
    simp only [iF,vf,Bool.not_not]
theorem qkJ (m:ad) (l:List cc) (n:Int) (j:Int) (x:cc) (hl:x.i5.jG.length<=140737488351232):u4 m l n j x=some (!Dk m.e7.iS x):=by
 unfold u4 Dk
 rw [VZ _ hl]
 have e1:decide (x.jQ<0)= !decide (0<=x.jQ):=vf _ _
 have e2:decide (x.iZ<0)= !decide (0<=x.iZ):=vf _ _
 rw [e1,e2,vf x.jQ 1048576,vf x.iZ m.e7.iS]
 cases decide (0<=x.jQ)<;>cases decide (x.jQ<=1048576)<;>cases decide (0<=x.iZ)<;>cases decide (x.iZ<=m.e7.iS)<;>rfl
theorem qko (m:ad) (i:Nat) (x:cc) (hx:m.cO[i]? =some x) (hl:m.cO.length<=140737488351232) (hr:x.i5.jG.length<=140737488351232) (hn:m.iI<=1048577):ll m (i:Int) x=some (!(idB m.iI m.cO i x&&Dk m.e7.iS x)):=by
 unfold ll nm ns idB Dk
 rw [WC _ hr]
 have e0:jo x.fId=(decide (1<=x.fId)&&decide (x.fId<=1048576)):=rfl
 have e2:decide (m.iI<=x.fId)= !decide (x.fId<m.iI):=by rw [vf];simp
 rw [e0,e2]
 cases decide (1<=x.fId) with
 |false=>rfl
 |true=>
  by_cases h1:x.fId<m.iI
  ·rw [decide_eq_true h1,decide_eq_true (show x.fId<=1048576 by omega)]
   simp only [iF,Bool.and_self,cond_true,Bool.not_true,cond_false,Bool.true_and]
   by_cases hi:i=0
   ·subst hi
    rw [decide_eq_false (by omega)]
    simp only [iF,cond_false,decide_true,Bool.true_or,Bool.true_and]
    cases decide (0<=x.jQ)<;>cases decide (x.jQ<=1048576)<;>cases decide (0<=x.iZ)<;>cases decide (x.iZ<=m.e7.iS)<;>rfl
   ·obtain⟨y,h3,h4⟩:=Aw hx (by omega) hl
    rw [decide_eq_true (show (0:Int)<(i:Int) by omega),cond_true,h4,decide_eq_false hi,Bool.false_or,rZ h3,iF]
    have e9:decide (x.fId<=y.fId)= !decide (y.fId<x.fId):=by rw [vf];simp
    simp only [iF,e9]
    cases decide (y.fId<x.fId)<;>cases decide (0<=x.jQ)<;>cases decide (x.jQ<=1048576)<;>cases decide (0<=x.iZ)<;>cases decide (x.iZ<=m.e7.iS)<;>rfl
  ·rw [decide_eq_false h1]
   cases decide (x.fId<=1048576)<;>rfl
theorem NQ (m:ad) (ok:m.ok):clC m=some (bif BE m then 0 else 13):=by
 obtain⟨o1,o2,o3,o4⟩:=ok
 unfold okN at o3
 have hk:xy m=some (!(vE m.e7&&((decide (1<=m.iI)&&decide (m.iI<=1048577))&&decide (m.cO.length<=4)))):=by
  unfold xy
  rw [W4 _ o1]
  have e1:decide (m.iI<1)= !decide (1<=m.iI):=vf _ _
  have e3:decide ((4:Int)<(m.cO.length:Int))= !decide (m.cO.length<=4):=by
   by_cases h:m.cO.length<=4
   ·rw [decide_eq_true h,decide_eq_false (by omega)];rfl
   ·rw [decide_eq_false h,decide_eq_true (by omega)];rfl
  rw [e1,e3,vf m.iI 1048577]
  cases vE m.e7<;>cases decide (1<=m.iI)<;>cases decide (m.iI<=1048577)<;>cases decide (m.cO.length<=4)<;>rfl
 unfold clC BE
 rw [hk]
 cases (vE m.e7&&((decide (1<=m.iI)&&decide (m.iI<=1048577))&&decide (m.cO.length<=4))) with
 |false=>rfl
 |true=>
  obtain⟨r,e1,e2,e3⟩:=z9 (step:=xt m m.cO (m.cO.length:Int)) m.cO (fun x=>x) (fun i x=>idB m.iI m.cO i x&&Dk m.e7.iS x) (fun i x hx=>by
   have hxo:=o4 x (List.mem_of_getElem? hx)
   have hxl:=hxo.2.2.2.2.2.2.1
   unfold okN at hxl
   simp only [iF,xt,ltN (i0 hx),cond_true,i8 hx,qi9 m i _ _ x hx (by omega),qkJ m _ _ _ x (by omega),kh (show i<=_ by have:=i0 hx;omega)]
   cases idB m.iI m.cO i x<;>cases Dk m.e7.iS x<;>rfl) (by simp only [iF,xt,geN (Nat.le_refl _),cond_false])
  simp only [iF,Bool.not_true,cond_false,Bool.true_and]
  rw [e1]
  cases h:mB (fun i x=>idB m.iI m.cO i x&&Dk m.e7.iS x) 0 m.cO with
  |true=>rw [e2 h];rfl
  |false=>obtain⟨y,hy⟩:=e3 h;rw [hy];rfl
theorem qbz (m:ad) (ok:m.ok):na m=some (bif BE m then 0 else 13):=by
 obtain⟨o1,o2,o3,o4⟩:=ok
 unfold okN at o3
 have hk:lX m=some (!(vE m.e7&&((decide (1<=m.iI)&&decide (m.iI<=1048577))&&decide (m.cO.length<=4)))):=by
  unfold lX
  rw [Wf _ o1]
  have e3:decide ((4:Int)<(m.cO.length:Int))= !decide (m.cO.length<=4):=by
   by_cases h:m.cO.length<=4
   ·rw [decide_eq_true h,decide_eq_false (by omega)];rfl
   ·rw [decide_eq_false h,decide_eq_true (by omega)];rfl
  rw [e3]
  cases vE m.e7<;>cases decide (1<=m.iI)<;>cases decide (m.iI<=1048577)<;>cases decide (m.cO.length<=4)<;>rfl
 unfold na BE
 rw [hk]
 cases hh:(vE m.e7&&((decide (1<=m.iI)&&decide (m.iI<=1048577))&&decide (m.cO.length<=4))) with
 |false=>rfl
 |true=>
  have hn:m.iI<=1048577:=by simp only [iF,Bool.and_eq_true,decide_eq_true_eq] at hh;omega
  obtain⟨r,e1,e2,e3⟩:=z9 (step:=lB m) m.cO (fun x=>x) (fun i x=>idB m.iI m.cO i x&&Dk m.e7.iS x) (fun i x hx=>by
   have hxo:=o4 x (List.mem_of_getElem? hx)
   have hxl:=hxo.2.2.2.2.2.2.1
   unfold okN at hxl
   simp only [iF,lB,ltN (i0 hx),cond_true,i8 hx,qko m i x hx (by omega) (by omega) hn,kh (show i<=_ by have:=i0 hx;omega)]
   cases (idB m.iI m.cO i x&&Dk m.e7.iS x)<;>rfl) (by simp only [iF,lB,geN (Nat.le_refl _),cond_false])
  simp only [iF,Bool.not_true,cond_false,Bool.true_and]
  rw [e1]
  cases h:mB (fun i x=>idB m.iI m.cO i x&&Dk m.e7.iS x) 0 m.cO with
  |true=>rw [e2 h];rfl
  |false=>obtain⟨y,hy⟩:=e3 h;rw [hy];rfl
theorem Me (s:ByteArray):kA s=iW s:=rfl
theorem Ok (s:ByteArray):i7 s=iX s:=rfl
theorem Lo (n:Int):kp n=jf n:=rfl
theorem JD (n:Int):jo n=lF n:=rfl
def Vj (q:Int) (et ef ek en k f x n:Bool):Int:=
 bif !(decide (1<=q)&&decide (q<=22)) then 3
 else bif (!(q==1||q==4||q==7||q==8||(decide (11<=q)&&decide (q<=16)))&& !et)||(!(decide (4<=q)&&decide (q<=6))&& !ef)||(!(q==3||q==14||q==20)&& !en)||(q==22&& !ek) then 8
 else bif (!(q==22)&& !k)||((decide (4<=q)&&decide (q<=6))&& !f)|| !x then 1
 else bif !n then 2 else 0
def Qm (c:iA):Int:=Vj c.e5 (cY c.iq ByteArray.empty) (cY c.iN ByteArray.empty) (cY c.jm ByteArray.empty) (c.fN==0) (iW c.jm) (iW c.iN) (iX c.iq) (jf c.fN)
theorem SS {q:Int} (h: ¬(q<1∨22<q)):q=1∨q=2∨q=3∨q=4∨q=5∨q=6∨q=7∨q=8∨q=9∨q=10∨q=11∨q=12∨q=13∨q=14∨q=15∨q=16∨q=17∨q=18∨q=19∨q=20∨q=21∨q=22:=by omega
theorem qmn (c:iA) (q:Int) (k:ByteArray) (h: ¬(q<1∨22<q)):ju c q k=⟨q,bif (q==22) then ByteArray.empty else k,bif (decide (4<=q)&&decide (q<=6)) then c.iN else ByteArray.empty,bif (q==1||q==4||q==7||q==8||(decide (11<=q)&&decide (q<=16))) then c.iq else ByteArray.empty,bif (q==3||q==14||q==20) then c.fN else 0⟩:=by
 rcases SS h with rfl|rfl|rfl|rfl|rfl|rfl|rfl|rfl|rfl|rfl|rfl|rfl|rfl|rfl|rfl|rfl|rfl|rfl|rfl|rfl|rfl|rfl<;>rfl
theorem T8 (a b:ByteArray) (c:Bool):cY a (bif c then a else b)=(c||cY a b):=by
 cases c with
 |true=>exact pi a
 |false=>rfl
theorem Wq (n:Int) (c:Bool):(n==bif c then n else 0)=(c||(n==0)):=by
 cases c with
 |true=>exact beq_self_eq_true n
 |false=>rfl
theorem Qo (a b:ByteArray) (c:Bool):cY a (bif c then b else a)=(!c||cY a b):=by
 cases c with
 |false=>exact pi a
 |true=>rfl
theorem H5 (c:iA):rA c=Qm c:=by
 unfold rA vt Qm
 by_cases h:c.e5<1∨22<c.e5
 ·have e0:(decide (1<=c.e5)&&decide (c.e5<=22))=false:=by
   rw [Bool.and_eq_false_iff,decide_eq_false_iff_not,decide_eq_false_iff_not];omega
  simp only [iF,Vj,e0,Bool.not_false,cond_true]
  rcases h with h|h
  ·rw [decide_eq_true h];rfl
  ·cases decide (c.e5<1)<;>simp [decide_eq_true h]
 ·rw [qmn c _ _ h]
  simp only [iF,T8,Qo,Wq,beq_self_eq_true,mC,pv]
  generalize cY c.iq ByteArray.empty=et
  generalize cY c.iN ByteArray.empty=ef
  generalize cY c.jm ByteArray.empty=ek
  generalize (c.fN==0)=en
  generalize iW c.jm=k
  generalize iW c.iN=f
  generalize iX c.iq=x
  generalize jf c.fN=n
  generalize c.e5=q at h⊢
  rcases SS h with rfl|rfl|rfl|rfl|rfl|rfl|rfl|rfl|rfl|rfl|rfl|rfl|rfl|rfl|rfl|rfl|rfl|rfl|rfl|rfl|rfl|rfl<;>(revert et ef ek en k f x n;decide)
theorem QA (c:iA):mQ c=Qm c:=by
 simp only [iF,mQ,je,jV,nl,nn,nv,ls,lf,Qm,Me,Ok,Lo]
 generalize cY c.iq ByteArray.empty=et
 generalize cY c.iN ByteArray.empty=ef
 generalize cY c.jm ByteArray.empty=ek
 generalize (c.fN==0)=en
 generalize iW c.jm=k
 generalize iW c.iN=f
 generalize iX c.iq=x
 generalize jf c.fN=n
 generalize c.e5=q
 by_cases h:q<1∨22<q
 ·have e: ∀j:Int,1<=j->j<=22->(q==j)=false:=fun j h1 h2=>by rw [beq_eq_false_iff_ne];omega
  have e0:(decide (1<=q)&&decide (q<=22))=false:=by
   rw [Bool.and_eq_false_iff,decide_eq_false_iff_not,decide_eq_false_iff_not];omega
  simp only [iF,e 1 (by decide) (by decide),e 2 (by decide) (by decide),e 3 (by decide) (by decide),e 4 (by decide) (by decide),e 5 (by decide) (by decide),e 6 (by decide) (by decide),e 7 (by decide) (by decide),e 8 (by decide) (by decide),e 9 (by decide) (by decide),e 10 (by decide) (by decide),e 11 (by decide) (by decide),e 12 (by decide) (by decide),e 13 (by decide) (by decide),e 14 (by decide) (by decide),e 15 (by decide) (by decide),e 16 (by decide) (by decide),e 17 (by decide) (by decide),e 18 (by decide) (by decide),e 19 (by decide) (by decide),e 20 (by decide) (by decide),e 21 (by decide) (by decide),e 22 (by decide) (by decide),cond_false,Vj,e0,Bool.not_false,cond_true]
  rcases h with h|h
  ·simp [show ¬1<=q by omega]
  ·cases decide (1<=q)<;>simp [show ¬q<=22 by omega]
 ·rcases SS h with rfl|rfl|rfl|rfl|rfl|rfl|rfl|rfl|rfl|rfl|rfl|rfl|rfl|rfl|rfl|rfl|rfl|rfl|rfl|rfl|rfl|rfl<;>(revert et ef ek en k f x n;decide)
theorem WI (c:jM):qk c=uI c:=by
 simp only [iF,qk,uj,uI,vO,JD,H5,QA]
theorem Pz (x:iE):oz x=jl x:=by
 simp only [iF,oz,ul,jl,oJ,jU,WI,jo]
 by_cases h1:x.iK<1
 ·simp [h1,show ¬1<=x.iK by omega]
 ·by_cases h2:1048576<x.iK
  ·simp [h1,h2,show ¬x.iK<=1048576 by omega]
  ·by_cases h3:x.iZ<0
   ·simp [h1,h2,h3,show ¬0<=x.iZ by omega,show 1<=x.iK by omega,show x.iK<=1048576 by omega]
   ·by_cases h4:1073741824<x.iZ
    ·simp [h1,h2,h3,h4,show 0<=x.iZ by omega,show ¬x.iZ<=1073741824 by omega,show 1<=x.iK by omega,show x.iK<=1048576 by omega]
    ·simp [h1,h2,h3,h4,show 0<=x.iZ by omega,show x.iZ<=1073741824 by omega,show 1<=x.iK by omega,show x.iK<=1048576 by omega]
structure Yx (c:iA):Prop where
 kind:1<=c.e5/\c.e5<=22
 key:(c.jm.size:Int)<=12
 field:(c.iN.size:Int)<=12
 text:(c.iq.size:Int)<=20
 num: -1099511627776<=c.fN/\c.fN<=1099511627776
theorem Tm {a b:ByteArray} :cY a b=true↔a=b:=by
 unfold cY
 rw [ByteArray.toList_eq,ByteArray.toList_eq]
 constructor
 ·intro h
  have h1:a.data.toList=b.data.toList:=by simpa using h
  cases a;cases b
  simp only [iF,ByteArray.mk.injEq]
  exact Array.ext' h1
 ·rintro rfl;exact beq_self_eq_true _
theorem NE {s:ByteArray} (h:cY s ByteArray.empty=true):s.size=0:=by
 rw [Tm.1 h];rfl
theorem T1 {c:Bool} {a b:Int} (ha:a≠0) (h:(bif c then a else b)=0):c=false/\b=0:=by
 cases c with
 |true=>exact absurd h ha
 |false=>exact⟨rfl,h⟩
theorem qeO {c:iA} (h:Qm c=0):Yx c:=by
 unfold Qm Vj at h
 obtain⟨h1,h⟩:=T1 (by decide) h
 obtain⟨h2,h⟩:=T1 (by decide) h
 obtain⟨h3,h⟩:=T1 (by decide) h
 obtain⟨h4,_⟩:=T1 (by decide) h
 simp only [iF,Bool.not_eq_false',Bool.and_eq_true,decide_eq_true_eq] at h1
 simp only [iF,Bool.or_eq_false_iff,Bool.and_eq_false_iff,Bool.not_eq_false',decide_eq_false_iff_not] at h2 h3
 simp only [iF,Bool.not_eq_false',jf,Bool.and_eq_true,decide_eq_true_eq] at h4
 have hf: ∀s:ByteArray,iW s=true->(s.size:Int)<=12:=by
  intro s hs
  simp only [iF,iW,Bool.and_eq_true,decide_eq_true_eq] at hs
  exact hs.2
 have he: ∀s:ByteArray,cY s ByteArray.empty=true->(s.size:Int)<=12:=fun s hs=>by rw [NE hs];decide
 refine⟨h1,?_,?_,?_,h4⟩
 ·rcases h3.1.1 with hk|hk
  ·rcases h2.2 with h5|h5
   ·rw [hk] at h5;cases h5
   ·exact he _ h5
  ·exact hf _ hk
 ·rcases h3.1.2 with hk|hk
  ·rcases h2.1.1.2 with h5|h5
   ·simp only [iF,Bool.and_eq_true,decide_eq_true_eq] at h5
    rcases hk with hk|hk
    ·exact absurd h5.1 hk
    ·exact absurd h5.2 hk
   ·exact he _ h5
  ·exact hf _ hk
 ·have:=h3.2
  simp only [iF,iX,decide_eq_true_eq] at this
  exact this
structure Ol (x:iE):Prop where
 term:1<=x.iK/\x.iK<=1048576
 time:0<=x.iZ/\x.iZ<=1073741824
 client:0<=x.iQ.jv/\x.iQ.jv<=1048576
 seq:x.wF=false->x.iQ.jv≠0->1<=x.iQ.jQ/\x.iQ.jQ<=1048576
 cmd:x.wF=false->x.iQ.jv≠0->Yx x.iQ.ir
theorem PQ {x:iE} (h:jl x=0):Ol x:=by
 have q:jU x=(decide (x.iK<1)||(decide (1048576<x.iK)||(decide (x.iZ<0)||decide (1073741824<x.iZ)))):=by
  unfold jU
  simp only [iF,Bool.cond_true_left]
 simp only [iF,jl,oJ,uI,vO,H5] at h
 obtain⟨h0,h⟩:=T1 (by decide) h
 rw [q,Bool.or_eq_false_iff,Bool.or_eq_false_iff,Bool.or_eq_false_iff] at h0
 obtain⟨h1,h2,h3,h4⟩:=h0
 simp only [iF,decide_eq_false_iff_not] at h1 h2 h3 h4
 cases hn:x.wF with
 |true=>
  rw [hn,cond_true] at h
  cases hc:(x.iQ.jv==0) with
  |false=>rw [hc] at h;cases h
  |true=>
   have:x.iQ.jv=0:=by simpa using hc
   exact⟨by omega,by omega,by omega,fun h=>(by rw [hn] at h;cases h),fun h=>(by rw [hn] at h;cases h)⟩
 |false=>
  rw [hn,cond_false] at h
  cases hc:(x.iQ.jv==0) with
  |true=>
   have:x.iQ.jv=0:=by simpa using hc
   exact⟨by omega,by omega,by omega,fun _ h=>absurd this h,fun _ h=>absurd this h⟩
  |false=>
   rw [hc,cond_false] at h
   cases h5:lF x.iQ.jv with
   |false=>rw [h5] at h;cases h
   |true=>
    rw [h5,cond_true] at h
    cases h6:lF x.iQ.jQ with
    |false=>rw [h6] at h;cases h
    |true=>
     rw [h6,cond_true] at h
     simp only [iF,lF,Bool.and_eq_true,decide_eq_true_eq] at h5 h6
     exact⟨by omega,by omega,by omega,fun _ _=>h6,fun _ _=>qeO h⟩
def chk:Int->Int->List iE->Bool
 |_,_,[]=>true
 |t,m,x::l=>((jl x==0)&&(decide (t<=x.iK)&&decide (m<=x.iZ)))&&chk x.iK x.iZ l
theorem R5 (t m:Int) (l:List iE) (a b:Int) (x:iE):km t m l a b x= !((jl x==0)&&(decide (t<=x.iK)&&decide (m<=x.iZ))):=by
 unfold km
 cases jl x==0 with
 |false=>rfl
 |true=>
  by_cases h1:x.iK<t
  ·simp [h1,show ¬t<=x.iK by omega]
  ·by_cases h2:x.iZ<m
   ·simp [h1,h2,show ¬m<=x.iZ by omega]
   ·simp [h1,h2,show t<=x.iK by omega,show m<=x.iZ by omega]
theorem KQ {α:Type} (pre:List α) (x:α) (suf:List α):idx (pre++x::suf) (pre.length:Int)=some x:=PR _ _ _
theorem Oi (l:List iE) (hl:l.length<=140737488351232): ∀(suf pre:List iE) (t m:Int),l=pre++suf-> ∃r,cM (lg l (l.length:Int)) (t,m,(pre.length:Int))=some r/\(chk t m suf=true->r= .inr ())/\(chk t m suf=false-> ∃x,r= .inl x):=by
 intro suf
 induction suf with
 |nil=>
  intro pre t m h
  simp at h;subst h
  refine⟨.inr (),lC (by simp [lg]),fun _=>rfl,fun h=>by cases h⟩
 |cons x suf ih=>
  intro pre t m h
  have h1:decide ((pre.length:Int)<(l.length:Int))=true:=decide_eq_true (by rw [h];simp;omega)
  have h2:idx l (pre.length:Int)=some x:=by rw [h];exact KQ _ _ _
  have h3:IntKind.i64.wrap ((pre.length:Int)+1)=((pre++ [x]).length:Int):=by
   rw [jE]<;>(rw [h] at hl;simp at hl⊢;try omega)
  cases hb:((jl x==0)&&(decide (t<=x.iK)&&decide (m<=x.iZ))) with
  |false=>
   refine⟨.inl x,lC (by simp only [iF,lg,h1,h2,cond_true,R5,hb,Bool.not_false]),fun h=>?_,fun _=>⟨x,rfl⟩⟩
   rw [chk,hb] at h;cases h
  |true=>
   obtain⟨r,e1,e2,e3⟩:=ih (pre++ [x]) x.iK x.iZ (by simp [h])
   refine⟨r,?_,?_,?_⟩
   ·rw [tH (a':=(x.iK,x.iZ,((pre++ [x]).length:Int)))]
    ·exact e1
    ·simp only [iF,lg,h1,h2,cond_true,R5,hb,Bool.not_true,cond_false,h3]
   ·rw [chk,hb,Bool.true_and];exact e2
   ·rw [chk,hb,Bool.true_and];exact e3
theorem Nx (l:iP) (hl:l.af.length<=140737488351232): ∀(suf pre:List iE) (t m:Int),l.af=pre++suf->(pre= []->t=l.iw/\m=0)->(∀q y,pre=q++ [y]->t=y.iK/\m=y.iZ/\l.iw<=t)->cM (mt l) (pre.length:Int)=some (bif chk t m suf then .inr () else .inl ()):=by
 intro suf
 induction suf with
 |nil=>
  intro pre t m h _ _
  simp at h;subst h
  exact lC (by simp [mt,chk])
 |cons x suf ih=>
  intro pre t m h hn hp
  have h1:decide ((pre.length:Int)<(l.af.length:Int))=true:=decide_eq_true (by rw [h];simp;omega)
  have h2:idx l.af (pre.length:Int)=some x:=by rw [h];exact KQ _ _ _
  have h3:IntKind.i64.wrap ((pre.length:Int)+1)=((pre++ [x]).length:Int):=by
   rw [jE]<;>(rw [h] at hl;simp at hl⊢;try omega)
  have hstep:mt l (pre.length:Int)=some (bif (jl x==0)&&(decide (t<=x.iK)&&decide (m<=x.iZ)) then .inl ((pre++ [x]).length:Int) else .inr (.inl ())):=by
   simp only [iF,mt,h1,cond_true,sG,h2,Pz,h3]
   cases hi:(jl x==0) with
   |false=>rfl
   |true=>
    have ho:=PQ (x:=x) (by simpa using hi)
    simp only [iF,cond_true,Bool.true_and]
    rcases List.eq_nil_or_concat pre with hc|⟨q,y,hc⟩
    ·obtain⟨rfl,rfl⟩:=hn hc
     subst hc
     have hm:decide ((0:Int)<=x.iZ)=true:=decide_eq_true ho.time.1
     have hz:decide ((0:Int)<(([]:List iE).length:Int))=false:=rfl
     rw [hm,hz]
     by_cases ht:x.iK<l.iw
     ·simp [ht,show ¬l.iw<=x.iK by omega]
     ·simp [ht,show l.iw<=x.iK by omega]
    ·rw [List.concat_eq_append] at hc
     obtain⟨rfl,rfl,hb⟩:=hp q y hc
     have hz:decide ((0:Int)<(pre.length:Int))=true:=decide_eq_true (by rw [hc,List.length_append,List.length_singleton];omega)
     have hy:idx l.af (IntKind.i64.wrap ((pre.length:Int)-1))=some y:=by
      have e:IntKind.i64.wrap ((pre.length:Int)-1)=(q.length:Int):=by
       have hq:pre.length=q.length+1:=by rw [hc];simp
       have hp:pre.length<=l.af.length:=by rw [h];simp
       rw [hq,jE]<;>omega
      rw [e,h,hc,List.append_assoc]
      exact KQ _ _ _
     rw [hz,hy]
     by_cases ht:x.iK<y.iK
     ·simp [iF,ht,show ¬y.iK<=x.iK by omega]
     ·by_cases hm:x.iZ<y.iZ
      ·simp [iF,ht,hm,show ¬y.iZ<=x.iZ by omega,show ¬x.iK<l.iw by omega]
      ·simp [iF,ht,hm,show y.iZ<=x.iZ by omega,show y.iK<=x.iK by omega,show ¬x.iK<l.iw by omega]
  cases hb:((jl x==0)&&(decide (t<=x.iK)&&decide (m<=x.iZ))) with
  |false=>
   rw [hb] at hstep
   rw [chk,hb]
   exact lC hstep
  |true=>
   rw [hb] at hstep
   rw [chk,hb,Bool.true_and,tH hstep]
   refine ih (pre++ [x]) x.iK x.iZ (by simp [h]) (fun h=>by simp at h) (fun q y hq=>?_)
   obtain⟨e1,e2⟩:=List.append_inj' hq rfl
   simp at e2
   subst e2
   refine⟨rfl,rfl,?_⟩
   simp only [iF,Bool.and_eq_true,decide_eq_true_eq] at hb
   rcases List.eq_nil_or_concat pre with hc|⟨q',y',hc⟩
   ·have:=(hn hc).1;omega
   ·rw [List.concat_eq_append] at hc
    have:=(hp q' y' hc).2.2;omega
def AF (l:iP):Bool:=(decide (0<=l.iD)&&(decide (0<=l.iw)&&decide (l.iw<=1048576)))&&(((l.iD==0)==(l.iw==0))&&(decide (l.af.length<=200)&&decide (l.iD+l.af.length<=1048576)))
def w4 (l:iP):Bool:=AF l&&chk l.iw 0 l.af
theorem qdC (l:iP) (hl:l.af.length<=140737488351232):kO l= !AF l:=by
 unfold kO oV AF
 by_cases h1:l.iD<0
 ·simp [h1,show ¬0<=l.iD by omega]
 by_cases h2:l.iw<0
 ·simp [h1,h2,show ¬0<=l.iw by omega]
 by_cases h3:1048576<l.iw
 ·simp [h1,h2,h3,show ¬l.iw<=1048576 by omega]
 rw [decide_eq_false h1,decide_eq_false h2,decide_eq_false h3,decide_eq_true (show 0<=l.iD by omega),decide_eq_true (show 0<=l.iw by omega),decide_eq_true (show l.iw<=1048576 by omega)]
 simp only [iF,cond_false,Bool.true_and]
 cases (l.iD==0)<;>cases (l.iw==0)<;>simp only [iF,cond_true,cond_false,beq_self_eq_true,Bool.true_and,Bool.not_true,Bool.not_false]<;>try rfl
 all_goals
  by_cases h4:l.af.length<=200
  ·rw [decide_eq_false (show ¬(200:Int)<(l.af.length:Int) by omega),decide_eq_true h4,cond_false,jE (by omega) (by omega),Bool.true_and]
   by_cases h5:l.iD+l.af.length<=1048576
   ·rw [decide_eq_true h5,decide_eq_false (by omega)];rfl
   ·rw [decide_eq_false h5,decide_eq_true (by omega)];rfl
  ·rw [decide_eq_true (show (200:Int)<(l.af.length:Int) by omega),decide_eq_false h4];rfl
theorem ZO (l:iP) (hl:l.af.length<=140737488351232):lO l= !AF l:=by
 unfold lO qr AF
 by_cases h1:l.iD<0
 ·simp [h1,show ¬0<=l.iD by omega]
 by_cases h6:l.iD<=1048576
 ·by_cases h2:l.iw<0
  ·simp [h1,h2,h6,show ¬0<=l.iw by omega]
  by_cases h3:1048576<l.iw
  ·simp [h1,h2,h3,show ¬l.iw<=1048576 by omega]
  rw [decide_eq_true h6,decide_eq_true (show 0<=l.iD by omega),decide_eq_true (show 0<=l.iw by omega),decide_eq_true (show l.iw<=1048576 by omega)]
  simp only [iF,cond_true,Bool.true_and]
  cases (l.iD==0)<;>cases (l.iw==0)<;>simp only [iF,cond_true,cond_false,beq_self_eq_true,Bool.true_and,Bool.not_true,Bool.not_false]<;>try rfl
  all_goals
   by_cases h4:l.af.length<=200
   ·rw [decide_eq_false (show ¬(200:Int)<(l.af.length:Int) by omega),decide_eq_true h4,cond_false,jE (by omega) (by omega),Bool.true_and]
    by_cases h5:l.iD+l.af.length<=1048576
    ·rw [decide_eq_true h5,decide_eq_false (by omega)];rfl
    ·rw [decide_eq_false h5,decide_eq_true (by omega)];rfl
   ·rw [decide_eq_true (show (200:Int)<(l.af.length:Int) by omega),decide_eq_false h4];rfl
 ·rw [decide_eq_false h6,decide_eq_false (show ¬l.iD+l.af.length<=1048576 by omega)]
  cases decide (0<=l.iD)<;>simp
theorem z3 (l:iP) (hl:l.af.length<=140737488351232):lT l=some (bif w4 l then 0 else 13):=by
 unfold lT w4
 rw [qdC l hl]
 cases AF l with
 |false=>rfl
 |true=>
  obtain⟨r,e1,e2,e3⟩:=Oi l.af hl l.af [] l.iw 0 rfl
  simp only [iF,List.length_nil,Int.cast_ofNat_Int] at e1
  simp only [iF,Bool.not_true,cond_false,Bool.true_and]
  rw [e1]
  cases hc:chk l.iw 0 l.af with
  |true=>rw [e2 hc];rfl
  |false=>obtain⟨x,e⟩:=e3 hc;rw [e];rfl
theorem Hd (l:iP) (hl:l.af.length<=140737488351232):pz l=some (bif w4 l then 0 else 13):=by
 unfold pz w4
 rw [ZO l hl]
 cases AF l with
 |false=>rfl
 |true=>
  have e1:=Nx l hl l.af [] l.iw 0 rfl (fun _=>⟨rfl,rfl⟩) (fun q y h=>by simp at h)
  simp only [iF,List.length_nil,Int.cast_ofNat_Int] at e1
  simp only [iF,Bool.not_true,cond_false,Bool.true_and]
  rw [e1]
  cases chk l.iw 0 l.af<;>rfl
theorem Eg (l:List iE) (hl:l.length<=140737488351232):qU l l=some true:=by
 unfold qU
 rw [beq_self_eq_true,cond_true,show (0:Int)=((0:Nat):Int) from rfl,pO (step:=m3 l l) l 0 (fun _ _=>true) (fun i x hx _=>by
  have h:=i0 hx
  simp only [iF,m3,rX,ltN h,cond_true,i8 hx,beq_self_eq_true,pi,kh (show i<=_ by omega)]) (fun i hi=>by simp only [iF,m3,geN hi,cond_false])]
 have: ∀(m:List iE) k,mB (fun _ _=>true) k m=true:=by
  intro m
  induction m with
  |nil=>intro k;rfl
  |cons x m ih=>intro k;simp only [iF,mB,ih,Bool.and_self]
 rw [this];rfl
theorem JQ (l:iP) (hl:l.af.length<=140737488351232):uK l l=some true:=by
 unfold uK sF
 simp only [iF,beq_self_eq_true,cond_true,Eg _ hl]
structure Ql (l:iP):Prop where
 base:0<=l.iD/\l.iD+l.af.length<=1048576
 bt:0<=l.iw/\l.iw<=1048576
 len:l.af.length<=200
 item: ∀x∈l.af,Ol x
theorem Ij: ∀(l:List iE) (t m:Int),chk t m l=true-> ∀x∈l,Ol x
 | [],_,_,_,x,hx=>by cases hx
 |y::l,t,m,h,x,hx=>by
  simp only [iF,chk,Bool.and_eq_true] at h
  rcases List.mem_cons.1 hx with rfl|hx
  ·exact PQ (by simpa using h.1.1)
  ·exact Ij l _ _ h.2 x hx
theorem zp {l:iP} (h:w4 l=true):Ql l:=by
 unfold w4 AF at h
 simp only [iF,Bool.and_eq_true,decide_eq_true_eq] at h
 exact⟨⟨by omega,by omega⟩,⟨by omega,by omega⟩,by omega,Ij _ _ _ h.2⟩
def FI (L:List iE) (k:Nat):Int:=match L[k]? with
 |some y=>y.iK
 |none=>-2
theorem Tr (l:iP) (at_:Int) (hl:Ql l) (h:l.iD<at_) (h2:at_<=4294967296):qb l at_=some (FI l.af (at_-l.iD-1).toNat):=by
 have hb:=hl.base;have hn:=hl.len
 have hw:IntKind.i64.wrap (l.iD+(l.af.length:Int))=l.iD+l.af.length:=by rw [jE]<;>omega
 unfold qb mw
 rw [decide_eq_false (show ¬at_<l.iD by omega),cond_false,hw]
 by_cases h3:l.iD+l.af.length<at_
 ·rw [decide_eq_true h3,cond_true]
  unfold FI
  rw [List.getElem?_eq_none (by omega)]
 ·have hk:(at_-l.iD-1).toNat<l.af.length:=by omega
  have hy:=List.getElem?_eq_getElem hk
  have e:(at_==l.iD)=false:=by rw [beq_eq_false_iff_ne];omega
  have hw2:IntKind.i64.wrap (IntKind.i64.wrap (at_-l.iD)-1)=((at_-l.iD-1).toNat:Int):=by
   rw [jE (n:=at_-l.iD) (by omega) (by omega),jE]<;>omega
  rw [decide_eq_false h3,cond_false,e,cond_false,hw2,i8 hy]
  unfold FI
  rw [hy];rfl
def qY (l:iP) (p:Int):Int:=bif p==l.iD then l.iw else FI l.af (p-l.iD-1).toNat
theorem DP {l:iP} {p:Int} (h:l.iD+l.af.length<p):qY l p= -2:=by
 unfold qY FI
 have e:(p==l.iD)=false:=by rw [beq_eq_false_iff_ne];omega
 rw [e,List.getElem?_eq_none (by omega)];rfl
theorem ML (l:iP) (p:Int) (hl:Ql l) (h:l.iD<=p) (h2:p<=4294967296):qb l p=some (qY l p):=by
 have hb:=hl.base;have hn:=hl.len
 unfold qY
 by_cases e:p=l.iD
 ·subst e
  have hw:IntKind.i64.wrap (l.iD+(l.af.length:Int))=l.iD+l.af.length:=by rw [jE]<;>omega
  unfold qb mw
  rw [decide_eq_false (by omega),cond_false,hw,decide_eq_false (by omega),cond_false,beq_self_eq_true,cond_true,cond_true]
 ·have e':(p==l.iD)=false:=by rw [beq_eq_false_iff_ne];exact e
  rw [Tr l p hl (by omega) h2,e',cond_false]
theorem SZ (l:iP) (p:Int) (hl:Ql l) (h:l.iD<=p) (h2:p<=4294967296):mM l p=some (bif decide (l.iD+l.af.length<p) then (0,5) else (qY l p,0)):=by
 have hb:=hl.base;have hn:=hl.len
 unfold mM
 rw [decide_eq_false (show ¬p<l.iD by omega),cond_false]
 by_cases e:p=l.iD
 ·subst e
  rw [beq_self_eq_true,cond_true,decide_eq_false (by omega),cond_false]
  unfold qY
  rw [beq_self_eq_true,cond_true]
 ·have e':(p==l.iD)=false:=by rw [beq_eq_false_iff_ne];exact e
  have hw:IntKind.i64.wrap (p-l.iD)=p-l.iD:=by rw [jE]<;>omega
  rw [e',cond_false,hw]
  by_cases h3:l.iD+l.af.length<p
  ·rw [decide_eq_true h3,decide_eq_true (by omega)];rfl
  ·have hk:(p-l.iD-1).toNat<l.af.length:=by omega
   have hy:=List.getElem?_eq_getElem hk
   have hw2:IntKind.i64.wrap (p-l.iD-1)=((p-l.iD-1).toNat:Int):=by rw [jE]<;>omega
   rw [decide_eq_false h3,decide_eq_false (by omega),cond_false,cond_false,hw2,i8 hy]
   unfold qY FI
   rw [e',cond_false,hy];rfl
theorem N7 (l:iP) (p:Int) (h:p<l.iD):qb l p=some (-1):=by
 unfold qb
 rw [decide_eq_true h,cond_true]
def I5 (l:iP) (p t:Int):iP:=bif decide (l.iD<=p)&&(qY l p==t) then ⟨p,qY l p,l.af.drop (p-l.iD).toNat⟩ else ⟨p,t,[]⟩
theorem P5 {l:iP} {p t:Int} (h:(qY l p==t)=true) (ht:1<=t):p<=l.iD+l.af.length:=by
 by_cases hp:p<=l.iD+l.af.length
 ·exact hp
 ·rw [DP (by omega)] at h
  have:(-2:Int)=t:=by simpa using h
  omega
theorem qc3 (l:iP) (s:i4) (hl:l.af.length<=140737488351232) (hb:w4 l=true) (hp:1<=s.iB/\s.iB<=1048576) (ht:1<=s.iK):ui l s=some (I5 l s.iB s.iK):=by
 have ho:=zp hb
 have hn:=ho.len;have hbb:=ho.base
 unfold ui sY I5
 rw [z3 l hl,hb]
 simp only [iF,cond_true,beq_self_eq_true,decide_eq_false (show ¬s.iB<0 by omega),decide_eq_false (show ¬(1048576:Int)<s.iB by omega),cond_false]
 by_cases h6:l.iD<=s.iB
 ·rw [SZ l s.iB ho h6 (by omega),decide_eq_true h6]
  simp only [iF,Bool.true_and]
  by_cases h7:l.iD+l.af.length<s.iB
  ·have e:((-2:Int)==s.iK)=false:=by rw [beq_eq_false_iff_ne];omega
   rw [decide_eq_true h7,DP h7,e];rfl
  ·rw [decide_eq_false h7]
   simp only [cond_false,beq_self_eq_true,cond_true]
   cases hq:(qY l s.iB==s.iK) with
   |false=>rfl
   |true=>
    have hw:IntKind.i64.wrap (s.iB-l.iD)=((s.iB-l.iD).toNat:Int):=by rw [jE]<;>omega
    have hr:yo ((s.iB-l.iD).toNat:Int) (l.af.length:Int) (l.af.length:Int)=true:=by unfold yo;simp;omega
    have hs:dm l.af ((s.iB-l.iD).toNat:Int) (l.af.length:Int)=l.af.drop (s.iB-l.iD).toNat:=by unfold dm;simp;omega
    have hf:dh (l.af.drop (s.iB-l.iD).toNat).length 104=true:=ky (by rw [List.length_drop];omega)
    unfold th mN
    rw [z3 l hl,hb,SZ l s.iB ho h6 (by omega),decide_eq_false h7]
    simp only [iF,cond_true,cond_false,beq_self_eq_true,hw,hr,hs,hf]
 ·have e:mM l s.iB=some (0,11):=by unfold mM;rw [decide_eq_true (show s.iB<l.iD by omega),cond_true]
  rw [e,decide_eq_false h6]
  rfl
theorem qfr (l:iP) (s:i4) (hl:l.af.length<=140737488351232) (hb:w4 l=true) (hp:1<=s.iB/\s.iB<=1048576) (ht:1<=s.iK):u5 l s=some (I5 l s.iB s.iK):=by
 have ho:=zp hb
 have hn:=ho.len;have hbb:=ho.base
 unfold u5 I5
 by_cases h6:l.iD<=s.iB
 ·rw [ML l s.iB ho h6 (by omega),decide_eq_true h6]
  simp only [iF,Bool.true_and]
  cases hq:(qY l s.iB==s.iK) with
  |false=>rfl
  |true=>
   have hlast:=P5 hq ht
   have hqt:qY l s.iB=s.iK:=by simpa using hq
   have e1:(qY l s.iB== -1)=false:=by rw [beq_eq_false_iff_ne];omega
   have e2:(qY l s.iB== -2)=false:=by rw [beq_eq_false_iff_ne];omega
   have hlw:mw l=l.iD+l.af.length:=by unfold mw;rw [jE]<;>omega
   have hloop:=oO (step:=oR l) (fun i q=>(s.iB+1+i,⟨s.iB,qY l s.iB,q⟩)) (l.af.drop (s.iB-l.iD).toNat) (fun q=>⟨s.iB,qY l s.iB,q⟩) (fun i x hx=>by
    have hi:=i0 hx
    rw [List.length_drop] at hi
    rw [List.getElem?_drop] at hx
    have h1:decide (s.iB+1+(i:Int)<=l.iD+l.af.length)=true:=decide_eq_true (by omega)
    have h2:IntKind.i64.wrap (IntKind.i64.wrap (s.iB+1+(i:Int)-l.iD)-1)=(((s.iB-l.iD).toNat+i:Nat):Int):=by
     rw [jE (n:=s.iB+1+(i:Int)-l.iD) (by omega) (by omega),jE]<;>omega
    have h3:IntKind.i64.wrap (s.iB+1+(i:Int)+1)=s.iB+1+((i+1:Nat):Int):=by rw [jE]<;>omega
    have hf:dh (((l.af.drop (s.iB-l.iD).toNat).take i).length+1) 104=true:=ky (by rw [List.length_take,List.length_drop];omega)
    simp only [iF,oR,hlw,h1,cond_true,h2,i8 hx,hf,h3]) (by
    have h1:decide (s.iB+1+((l.af.drop (s.iB-l.iD).toNat).length:Int)<=l.iD+l.af.length)=false:=decide_eq_false (by rw [List.length_drop];omega)
    simp only [iF,oR,hlw,h1,cond_false])
   have hw:IntKind.i64.wrap (s.iB+1)=s.iB+1+0:=by rw [jE]<;>omega
   unfold vX
   rw [Hd l hl,hb,ML l s.iB ho h6 (by omega)]
   simp only [iF,cond_true,beq_self_eq_true,e1,e2,cond_false,hw,hloop]
 ·rw [N7 l s.iB (by omega),decide_eq_false h6]
  have e:((-1:Int)==s.iK)=false:=by rw [beq_eq_false_iff_ne];omega
  simp only [iF,e,cond_false,Bool.false_and]
theorem vZ {α R:Type} {step:Int->Option (Int⊕R)} (l:List α) (e:R) (hs: ∀(i:Nat) x,l[i]? =some x->step i=some (.inl ((i+1:Nat):Int))) (he:step l.length=some (.inr e)):cM step 0=some e:=by
 have key: ∀(k i:Nat),i+k=l.length->cM step (i:Int)=some e:=by
  intro k
  induction k with
  |zero=>
   intro i hi
   have:i=l.length:=by omega
   subst this
   exact lC he
  |succ k ih=>
   intro i hi
   exact (tH (hs i l[i] (List.getElem?_eq_getElem (by omega)))).trans (ih (i+1) (by omega))
 exact key l.length 0 (by omega)
theorem E8 (l:List ByteArray) (hl:l.length<=140737488351232):pp l l=some true:=by
 unfold pp
 rw [beq_self_eq_true,cond_true,vZ l (.inr ()) (fun i x hx=>by
  simp only [pe,ltN (i0 hx),cond_true,i8 hx,iF,pi,kh (show i<=140737488355328 by have:=i0 hx;omega)]) (by simp only [pe,geN (Nat.le_refl _),cond_false]),iF]
theorem CA {m n:Nat} (h:okN m n) (hm:1<=m):n<=140737488351232:=by
 unfold okN at h
 exact Nat.le_trans (Nat.le_mul_of_pos_right n hm) h
theorem NH (v:ae) (ok:v.ok):qP v v=some true:=by
 obtain⟨_,_,_,o4,o5,o6⟩:=ok
 have h4:=CA o4.1 (by omega)
 have h6:=CA o6.1 (by omega)
 have h:nN v v=some false:=by
  simp only [nN,beq_self_eq_true,pi,cond_true,E8 _ (CA o5.1 (by omega)),iF,Bool.not_true]
 simp only [qP,wo,h,iF,cond_false]
 rw [vZ v.iz (.inr ()) (fun i x hx=>by
  simp only [oU,ltN (i0 hx),cond_true,i8 hx,iF,pi,kh (show i<=140737488355328 by have:=i0 hx;omega)]) (by simp only [oU,geN (Nat.le_refl _),cond_false]),iF]
 simp only
 rw [vZ v.f9 (.inr ()) (fun i x hx=>by
  simp only [oW,ltN (i0 hx),cond_true,i8 hx,iF,pi,beq_self_eq_true,kh (show i<=140737488355328 by have:=i0 hx;omega)]) (by simp only [oW,geN (Nat.le_refl _),cond_false]),iF]
theorem NO (s:iJ) (ok:s.ok):qO s s=some true:=by
 have h2:=CA ok.2.1 (by omega)
 simp only [qO,beq_self_eq_true,cond_true]
 rw [vZ s.f6 (.inr ()) (fun i x hx=>by
  have hk:mz s s (i:Int) x x=some false:=by
   simp only [mz,pi,beq_self_eq_true,cond_true,NH _ (ok.2.2 x (List.mem_of_getElem? hx)).2.1,iF,Bool.not_true]
  simp only [ph,ltN (i0 hx),cond_true,cond_false,i8 hx,iF,hk,kh (show i<=140737488355328 by have:=i0 hx;omega)]) (by simp only [ph,geN (Nat.le_refl _),cond_false]),iF]
theorem NC (r:iT) (ok:r.ok):qV r r=some true:=by
 simp only [qV,qB,beq_self_eq_true,pi,cond_true,E8 _ (CA ok.2.2.2.1 (by omega)),iF]
theorem J5 (m:ad) (ok:m.ok):om m m=some true:=by
 obtain⟨o1,_,o3⟩:=ok
 have h3:=CA o3.1 (by omega)
 have h:mF m m=some false:=by
  simp only [mF,beq_self_eq_true,cond_true,NO _ o1,iF,Bool.not_true]
 simp only [om,h,iF,cond_false]
 rw [vZ m.cO (.inr ()) (fun i x hx=>by
  have hk:lG m m (i:Int) x x=some false:=by
   simp only [lG,beq_self_eq_true,cond_true,NC _ (o3.2 x (List.mem_of_getElem? hx)).2.2.2,iF,Bool.not_true]
  simp only [nf,ltN (i0 hx),cond_true,cond_false,i8 hx,iF,hk,kh (show i<=140737488355328 by have:=i0 hx;omega)]) (by simp only [nf,geN (Nat.le_refl _),cond_false]),iF]
theorem Jm (s:i4) (ok:s.ok):qX s s=some true:=by
 simp only [qX,rn,beq_self_eq_true,cond_true,J5 _ ok.2.2,iF]
theorem Ln (r:bi) (ok:r.iG.ok):pB r r=some true:=by
 simp only [pB,pA,qw,qu,beq_self_eq_true,pi,cond_true,Jm _ ok,iF]
theorem JI (l:List bi) (ok: ∀r∈l,r.iG.ok) (hl:l.length<=140737488351232):od l l=some true:=by
 simp only [od,beq_self_eq_true,cond_true]
 rw [vZ l (.inr ()) (fun i x hx=>by
  simp only [m7,ltN (i0 hx),cond_true,i8 hx,iF,Ln _ (ok x (List.mem_of_getElem? hx)),kh (show i<=140737488355328 by have:=i0 hx;omega)]) (by simp only [m7,geN (Nat.le_refl _),cond_false]),iF]
theorem Q8 (s:i4):mL s=mK s:=by
 unfold mL mK lv lE
 cases (s.iB==0)<;>cases (s.iK==0)<;>cases (s.iy.iI==0)<;>cases ((s.iy.cO.length:Int)==0)<;>cases (s.iy.e7.iS==0)<;>cases ((s.iy.e7.f6.length:Int)==0)<;>rfl
theorem XK (r:bi):kG r=ka r:=by
 simp only [kG,qq,qv,qs,qx,ka,nY,oi,nW,oh,Q8]
theorem Aa (n:Int):kx n=jo n:=rfl
theorem XJ (r:bi):(bif lJ r then some (2:Int) else some 0)=bif jo r.iK then bif decide (-1<=r.lS) then bif decide (r.lS<=2) then some 0 else some 2 else some 2 else some 2:=by
 unfold lJ
 rw [Aa]
 cases jo r.iK with
 |false=>rfl
 |true=>
  by_cases h1:r.lS< -1
  ·rw [decide_eq_true h1,decide_eq_false (show ¬-1<=r.lS by omega)];rfl
  ·rw [decide_eq_false h1,decide_eq_true (show-1<=r.lS by omega)]
   by_cases h2:3<=r.lS
   ·rw [decide_eq_true h2,decide_eq_false (show ¬r.lS<=2 by omega)];rfl
   ·rw [decide_eq_false h2,decide_eq_true (show r.lS<=2 by omega)];rfl
theorem Vn (s:i4) (ok:s.ok): ∃n,lZ s=some n/\ra s=some n:=by
 unfold lZ ra
 rw [Aa,Aa,NQ _ ok.2.2,qbz _ ok.2.2]
 cases jo s.iB with
 |false=>exact⟨_,rfl,rfl⟩
 |true=>
  cases jo s.iK with
  |false=>exact⟨_,rfl,rfl⟩
  |true=>exact⟨_,rfl,rfl⟩
theorem Qq (r:bi) (ok:r.iG.ok): ∃n,pJ r=some n/\oq r=some n:=by
 obtain⟨n,e1,e2⟩:=Vn r.iG ok
 unfold pJ uV oq uB
 rw [XK,XJ,e1,e2,iF,Pz,Aa]
 by_cases h1:r.e5<1
 ·rw [decide_eq_true h1,decide_eq_false (show ¬1<=r.e5 by omega)];exact⟨_,rfl,rfl⟩
 rw [decide_eq_false h1,decide_eq_true (show 1<=r.e5 by omega)]
 by_cases h2:3<r.e5
 ·rw [decide_eq_true h2,decide_eq_false (show ¬r.e5<=3 by omega)];exact⟨_,rfl,rfl⟩
 rw [decide_eq_false h2,decide_eq_true (show r.e5<=3 by omega)]
 cases ka r with
 |true=>exact⟨_,rfl,rfl⟩
 |false=>
  simp only [cond_true,cond_false]
  have h3:r.e5=1∨r.e5=2∨r.e5=3:=by omega
  rcases h3 with h|h|h<;>rw [h]
  ·simp only [beq_self_eq_true,cond_true,show ((1:Int)==3)=false from rfl,cond_false]
   cases jo r.iK with
   |false=>exact⟨_,rfl,rfl⟩
   |true=>
    cases decide (-1<=r.lS) with
    |false=>exact⟨_,rfl,rfl⟩
    |true=>cases decide (r.lS<=2)<;>exact⟨_,rfl,rfl⟩
  ·simp only [beq_self_eq_true,cond_true,show ((2:Int)==1)=false from rfl,show ((2:Int)==3)=false from rfl,cond_false]
   cases jo r.iB<;>exact⟨_,rfl,rfl⟩
  ·simp only [beq_self_eq_true,cond_true,show ((3:Int)==1)=false from rfl,show ((3:Int)==2)=false from rfl,cond_false]
   exact⟨_,rfl,rfl⟩
theorem XS (v:ae) (ok:v.ok):re v=some v:=by
 obtain⟨_,_,_,⟨o1,_⟩,⟨o2,_⟩,⟨o3,_⟩⟩:=ok
 unfold okN at o1 o2 o3
 have e0:=oO (step:=mP v) (fun i l=>(i,⟨v.e5,v.iq,v.iO,l,[],[]⟩)) v.iz (fun l=>⟨v.e5,v.iq,v.iO,l,[],[]⟩) (fun i x hx=>by
  have h:=i0 hx
  have hf:dh ((v.iz.take i).length+1) 32=true:=ky (by rw [List.length_take];omega)
  simp only [iF,mP,ltN h,cond_true,i8 hx,hf,kh (show i<=_ by omega)]) (by simp only [iF,mP,geN (Nat.le_refl _),cond_false])
 have e2:=oO (step:=mW v) (fun i l=>(i,⟨v.e5,v.iq,v.iO,v.iz,l,[]⟩)) v.af (fun l=>⟨v.e5,v.iq,v.iO,v.iz,l,[]⟩) (fun i x hx=>by
  have h:=i0 hx
  have hf:dh ((v.af.take i).length+1) 16=true:=ky (by rw [List.length_take];omega)
  simp only [iF,mW,ltN h,cond_true,i8 hx,hf,kh (show i<=_ by omega)]) (by simp only [iF,mW,geN (Nat.le_refl _),cond_false])
 have e4:=oO (step:=mX v) (fun i l=>(i,⟨v.e5,v.iq,v.iO,v.iz,v.af,l⟩)) v.f9 (fun l=>⟨v.e5,v.iq,v.iO,v.iz,v.af,l⟩) (fun i x hx=>by
  have h:=i0 hx
  have hf:dh ((v.f9.take i).length+1) 24=true:=ky (by rw [List.length_take];omega)
  simp only [iF,mX,ltN h,cond_true,i8 hx,hf,kh (show i<=_ by omega)]) (by simp only [iF,mX,geN (Nat.le_refl _),cond_false])
 unfold re
 rw [e0]
 simp only [iF,wb]
 rw [e2]
 simp only [iF]
 rw [e4,iF]
theorem Lx (s:iJ) (ok:s.ok):po s=some s:=by
 have hl:=ok.2.1
 unfold okN at hl
 unfold po
 rw [oO (step:=mR s) (fun i l=>(i,⟨s.iS,l⟩)) s.f6 (fun l=>⟨s.iS,l⟩) (fun i x hx=>by
  have h:=i0 hx
  have hf:dh ((s.f6.take i).length+1) 128=true:=ky (by rw [List.length_take];omega)
  simp only [iF,mR,ltN h,cond_true,i8 hx,XS _ (ok.2.2 x (List.mem_of_getElem? hx)).2.1,hf,kh (show i<=_ by omega)]) (by simp only [iF,mR,geN (Nat.le_refl _),cond_false]),iF]
theorem PN (r:iT) (ok:r.ok):pq r=some r:=by
 have hl:=ok.2.2.2.1
 unfold okN at hl
 unfold pq
 rw [oO (step:=mS r) (fun i l=>(i,⟨r.j9,r.iq,r.fN,l⟩)) r.jG (fun l=>⟨r.j9,r.iq,r.fN,l⟩) (fun i x hx=>by
  have h:=i0 hx
  have hf:dh ((r.jG.take i).length+1) 16=true:=ky (by rw [List.length_take];omega)
  simp only [iF,mS,ltN h,cond_true,i8 hx,hf,kh (show i<=_ by omega)]) (by simp only [iF,mS,geN (Nat.le_refl _),cond_false]),iF]
theorem V1 (m:ad) (ok:m.ok):my m=some m:=by
 obtain⟨o1,o2,o3,o4⟩:=ok
 unfold okN at o3
 unfold my
 rw [Lx _ o1]
 simp only [iF]
 rw [oO (step:=kJ m) (fun i l=>(i,⟨m.e7,m.iI,l⟩)) m.cO (fun l=>⟨m.e7,m.iI,l⟩) (fun i x hx=>by
  have h:=i0 hx
  have hf:dh ((m.cO.take i).length+1) 80=true:=ky (by rw [List.length_take];omega)
  simp only [iF,kJ,ltN h,cond_true,i8 hx,PN _ (o4 x (List.mem_of_getElem? hx)).2.2.2,hf,kh (show i<=_ by omega)]) (by simp only [iF,kJ,geN (Nat.le_refl _),cond_false]),iF]
theorem XA (n:Int):IntKind.i64.wrap n=(n+9223372036854775808) % 18446744073709551616-9223372036854775808:=by
 simp [IntKind.wrap,IntKind.min,IntKind.max,IntKind.bits,IntKind.signed]
 split<;>omega
theorem Sz (n:Int):IntKind.u64.wrap n=n % 18446744073709551616:=by
 simp [IntKind.wrap,IntKind.min,IntKind.max,IntKind.bits,IntKind.signed]
def Le (l:List Int):Prop:=∀y∈l,0<=y/\y<256
def val (a:Int):List Int->Int
 | []=>a
 |c::l=>val (a*256+c) l
theorem Zu (u c:Int) (h1:0<=u) (h2:u<72057594037927936) (h3:0<=c) (h4:c<256):IntKind.u64.wrap (BitVec.ofInt IntKind.u64.bits (IntKind.u64.wrap (u*2 ^ (min (8:Int).toNat IntKind.u64.bits)))|||BitVec.ofInt IntKind.u64.bits (IntKind.u64.wrap c)).toNat=u*256+c:=by
 obtain⟨a,rfl⟩:=Int.eq_ofNat_of_zero_le h1
 obtain⟨b,rfl⟩:=Int.eq_ofNat_of_zero_le h3
 have e1:(2:Int) ^ (min (8:Int).toNat IntKind.u64.bits)=256:=by decide
 rw [e1]
 have e2:IntKind.u64.wrap ((a:Int)*256)=((a*256:Nat):Int):=by rw [DF (by omega) (by omega)];omega
 have e3:IntKind.u64.wrap (b:Int)=(b:Int):=DF (by omega) (by omega)
 rw [e2,e3]
 have e4:(BitVec.ofInt IntKind.u64.bits ((a*256:Nat):Int)|||BitVec.ofInt IntKind.u64.bits (b:Int)).toNat=a*256+b:=by
  show (BitVec.ofInt 64 ((a*256:Nat):Int)|||BitVec.ofInt 64 (b:Int)).toNat=a*256+b
  rw [BitVec.toNat_or,BitVec.ofInt_natCast,BitVec.ofInt_natCast,BitVec.toNat_ofNat,BitVec.toNat_ofNat,Nat.mod_eq_of_lt (by omega),Nat.mod_eq_of_lt (by omega)]
  have:=Nat.shiftLeft_add_eq_or_of_lt (b:=b) (i:=8) (by omega) a
  rw [Nat.shiftLeft_eq] at this
  exact this.symm
 rw [e4,DF (by omega) (by omega)]
 omega
theorem Sq (l:List Int) (r:f7) (hl:l.length<=8) (hb:Le l): ∀(suf pre:List Int) (u:Int),l=pre++suf->0<=u->u<256 ^ pre.length->cM (qp l (l.length:Int) r) (u,(pre.length:Int))=some (val u suf):=by
 intro suf
 induction suf with
 |nil=>
  intro pre u h _ _
  simp at h;subst h
  exact lC (by simp only [iF,qp,geN (Nat.le_refl _),cond_false,val])
 |cons c suf ih=>
  intro pre u h h1 h2
  have hp:pre.length<=7:=by rw [h] at hl;simp at hl;omega
  have hc:=hb c (by rw [h];simp)
  have hu:u<72057594037927936:=by
   have h3:((256 ^ pre.length:Nat):Int)<=((72057594037927936:Nat):Int):=Int.ofNat_le.2 (Nat.le_trans (Nat.pow_le_pow_right (by decide) hp) (by decide))
   rw [Int.natCast_pow] at h3
   have e:((256:Nat):Int)=256:=rfl
   rw [e] at h3
   omega
  have hd:decide ((pre.length:Int)<(l.length:Int))=true:=decide_eq_true (by rw [h];simp;omega)
  have hi:idx l (pre.length:Int)=some c:=by rw [h];exact PR _ _ _
  have hw:IntKind.i64.wrap ((pre.length:Int)+1)=((pre++ [c]).length:Int):=by
   rw [List.length_append,List.length_singleton];exact kh (by omega)
  rw [tH (a':=(u*256+c,((pre++ [c]).length:Int)))]
  ·exact ih (pre++ [c]) (u*256+c) (by simp [h]) (by omega) (by rw [List.length_append,List.length_singleton,Int.pow_succ];omega)
  ·simp only [iF,qp,hd,cond_true,hi,hw,Zu u c h1 hu hc.1 hc.2]
theorem KL (n:Nat) (r:f7) (h:r.fshort=false) (hn:n<=r.frest.length):wn n r=some (r.frest.take n,⟨r.frest.drop n,false⟩):=by
 have h1:yo 0 (n:Int) (r.frest.length:Int)=true:=by unfold yo;simp;omega
 have h2:yo (n:Int) (r.frest.length:Int) (r.frest.length:Int)=true:=by unfold yo;simp;omega
 unfold wn
 rw [h,cond_false,decide_eq_false (by omega),cond_false,h1,cond_true,h2,cond_true]
 simp only [iF,dm,Int.toNat_natCast,Int.toNat_zero,List.drop_zero,List.take_length]
theorem Np {l:List Int} (h:Le l):SA l=true:=by
 simp only [iF,SA,List.all_eq_true,decide_eq_true_eq]
 exact h
theorem Uz (a b:Int) (h:0<=b):Int.fdiv a b=a / b:=Int.fdiv_eq_ediv_of_nonneg a h
theorem tt (n:Int) (w:iu) (h:Wy n) (hf:(w.fb.length:Int)+8<=140737488355328):ng n w=some ⟨w.fb++uL n⟩:=by
 obtain⟨h1,h2⟩:=h
 have e0:IntKind.u64.wrap (IntKind.i64.wrap (n+4611686018427387904))=n+4611686018427387904:=by
  rw [jE (by omega) (by omega),DF (by omega) (by omega)]
 have fit: ∀(l:List Int),(l.length:Int)<(w.fb.length:Int)+8->dh (l.length+1) 1=true:=fun l hl=>ky (by omega)
 have st: ∀(s:Int) (v:iu) (k:Int),0<=s->s<=56->(2:Int) ^ (min s.toNat IntKind.u64.bits)=k->0<=k->(v.fb.length:Int)<(w.fb.length:Int)+8->
   cM (oA (n+4611686018427387904)) (s,v)=cM (oA (n+4611686018427387904)) (s-8,⟨v.fb++ [(n+4611686018427387904) / k % 256]⟩):=by
  intro s v k hs hs2 hk hk0 hl
  refine tH ?_
  simp only [iF,oA,decide_eq_true hs,fit v.fb hl,cond_true,hk,S4,Uz _ _ hk0]
  rw [jE (by omega) (by omega)]
 unfold ng
 rw [e0]
 rw [st 56 w 72057594037927936 (by omega) (by omega) rfl (by omega) (by omega)]
 rw [show (56:Int)-8=48 from rfl,st 48 _ 281474976710656 (by omega) (by omega) rfl (by omega) (by simp<;>omega)]
 rw [show (48:Int)-8=40 from rfl,st 40 _ 1099511627776 (by omega) (by omega) rfl (by omega) (by simp<;>omega)]
 rw [show (40:Int)-8=32 from rfl,st 32 _ 4294967296 (by omega) (by omega) rfl (by omega) (by simp<;>omega)]
 rw [show (32:Int)-8=24 from rfl,st 24 _ 16777216 (by omega) (by omega) rfl (by omega) (by simp<;>omega)]
 rw [show (24:Int)-8=16 from rfl,st 16 _ 65536 (by omega) (by omega) rfl (by omega) (by simp<;>omega)]
 rw [show (16:Int)-8=8 from rfl,st 8 _ 256 (by omega) (by omega) rfl (by omega) (by simp<;>omega)]
 rw [show (8:Int)-8=0 from rfl,st 0 _ 1 (by omega) (by omega) rfl (by omega) (by simp<;>omega)]
 rw [lC (b:=⟨w.fb++uL n⟩) (by simp [oA,uL]),iF]
theorem wL (n:Int) (w:iu) (hf:(w.fb.length:Int)+1<=140737488355328):qE n w=some ⟨w.fb++ [n % 256]⟩:=by
 unfold qE
 simp only [iF,ky (n:=w.fb.length+1) (b:=1) (by omega),S4,cond_true]
theorem AG (s:ByteArray) (w:iu) (hf:(w.fb.length:Int)+1+s.size<=140737488355328):uo s w=some ⟨w.fb++xo s⟩:=by
 unfold uo
 rw [wL _ _ (by omega),iF]
 have:dh ((w.fb++ [(s.size:Int) % 256]).length+(byL s).length) 1=true:=ky (by rw [Ki];simp;omega)
 simp only [iF,this,cond_true,xo,List.append_assoc,List.singleton_append]
theorem wu {α τ R:Type} {step:τ->Option (τ⊕R)} (mk:Int->List Int->τ) (l:List α) (g:α->List Int) (M B:Nat) (hg: ∀x∈l,(g x).length<=M) (e:List Int->R)
  (hs: ∀(i:Nat) x (w:List Int),l[i]? =some x->w.length<=B+i*M->step (mk i w)=some (.inl (mk ((i+1:Nat):Int) (w++g x))))
  (he: ∀w,step (mk l.length w)=some (.inr (e w))) (w0:List Int) (h0:w0.length<=B):cM step (mk 0 w0)=some (e (w0++l.flatMap g)):=by
 have h:=v3 (step:=step) l mk (fun i w=>i<=l.length/\w.length<=B+i*M) (fun i x w=>.inl (w++g x)) e (fun i x w hx hi=>hs i x w hx hi.2) (fun i x w w' hx hi hf=>by
  have:=i0 hx
  have hm:=hg x (List.mem_of_getElem? hx)
  simp only [Sum.inl.injEq] at hf
  refine⟨by omega,?_⟩
  rw [<-hf,List.length_append,Nat.succ_mul];omega) (fun i w hl hi=>by rw [Nat.le_antisymm hi.1 hl];exact he w) 0 w0 ⟨Nat.zero_le _,by omega⟩
 refine h.trans ?_
 congr 1
 have: ∀(m:List α) (w:List Int) (j:Nat),run (fun i x w=>(.inl (w++g x):List Int⊕R)) e j m w=e (w++m.flatMap g):=by
  intro m
  induction m with
  |nil=>intro w j;simp [run]
  |cons x m ih=>intro w j;simp only [run];rw [ih];simp
 exact this _ _ _
def CU (l:List ByteArray):List Int:=(l.length:Int) % 256::l.flatMap xo
def yP (p:iC):List Int:=xo p.iN++xo p.iq
def wx (s:f5):List Int:=xo s.i6++uL s.fN
def JF (v:ae):List Int:=v.e5 % 256::(xo v.iq++(uL v.iO++((v.iz.length:Int) % 256::v.iz.flatMap yP++(CU v.af++((v.f9.length:Int) % 256::v.f9.flatMap wx)))))
def wk (x:gi):List Int:=xo x.jm++(JF x.jt++uL x.jX)
def tq (c:cc):List Int:=uL c.fId++(uL c.jQ++(uL c.iZ++(c.i5.j9 % 256::(xo c.i5.iq++(uL c.i5.fN++CU c.i5.jG)))))
def CS (m:ad):List Int:=uL m.e7.iS++((m.e7.f6.length:Int) % 256::m.e7.f6.flatMap wk++(uL m.iI++((m.cO.length:Int) % 256::m.cO.flatMap tq)))
theorem qR {α:Type} (g:α->List Int) (M:Nat): ∀(l:List α),(∀x∈l,(g x).length<=M)->(l.flatMap g).length<=l.length*M
 | [],_=>by simp
 |x::l,h=>by
  have h1:=h x (List.mem_cons_self ..)
  have h2:=qR g M l (fun y hy=>h y (List.mem_cons_of_mem _ hy))
  simp only [List.flatMap_cons,List.length_append,List.length_cons,Nat.succ_mul];omega
structure CY (v:ae):Prop where
 kind:1<=v.e5/\v.e5<=6
 tot:v.iz.length+v.af.length+v.f9.length<=20
 text:v.iq.size<=20
 count: -1099511627776<=v.iO/\v.iO<=1099511627776
 pl:v.iz.length<=20
 il:v.af.length<=20
 sl:v.f9.length<=20
 pair: ∀p∈v.iz,p.iN.size<=12/\p.iq.size<=20
 item: ∀s∈v.af,s.size<=20
 score: ∀s∈v.f9,s.i6.size<=20/\ -1099511627776<=s.fN/\s.fN<=1099511627776
theorem xX {α:Type} {p:α->Bool} {l:List α} (h:l.any p=false): ∀x∈l,p x=false:=by
 intro x hx
 cases hp:p x with
 |false=>rfl
 |true=>rw [List.any_eq_true.2 ⟨x,hx,hp⟩] at h;cases h
theorem xW {s:ByteArray} (h:iX s=true):s.size<=20:=by
 have:decide ((s.size:Int)<=20)=true:=h
 rw [decide_eq_true_eq] at this;omega
theorem E1 {s:ByteArray} (h:iW s=true):s.size<=12:=by
 have:(decide (1<=(s.size:Int))&&decide ((s.size:Int)<=12))=true:=h
 rw [Bool.and_eq_true,decide_eq_true_eq,decide_eq_true_eq] at this;omega
theorem Fg {n:Int} (h:jf n=true): -1099511627776<=n/\n<=1099511627776:=by
 have:(decide (-1099511627776<=n)&&decide (n<=1099511627776))=true:=h
 rw [Bool.and_eq_true,decide_eq_true_eq,decide_eq_true_eq] at this;exact this
theorem qai {v:ae} (h:AH v=0):CY v:=by
 unfold AH at h
 have bz: ∀ {c:Bool} {a b:Int},a≠0->(bif c then a else b)=0->c=false/\b=0:=by
  intro c a b ha h
  cases c with
  |true=>exact absurd h ha
  |false=>exact⟨rfl,h⟩
 obtain⟨h1,h⟩:=bz (by decide) h
 obtain⟨h2,h⟩:=bz (by decide) h
 obtain⟨h3,h⟩:=bz (by decide) h
 unfold Ek at h
 obtain⟨h4,h⟩:=bz (by decide) h
 obtain⟨h5,h⟩:=bz (by decide) h
 obtain⟨h6,h⟩:=bz (by decide) h
 obtain⟨h7,h⟩:=bz (by decide) h
 obtain⟨h8,h⟩:=bz (by decide) h
 unfold Az at h3
 simp only [Bool.or_eq_false_iff,Bool.not_eq_false'] at h3 h7
 simp only [Bool.not_eq_false',Bool.and_eq_true,decide_eq_true_eq] at h1
 have hlen:v.iz.length+v.af.length+v.f9.length<=20:=by
  by_cases hk:3<=v.e5
  ·have:=h3.1
   rw [decide_eq_true hk,Bool.true_and,Bool.or_eq_false_iff,decide_eq_false_iff_not,decide_eq_false_iff_not] at this
   omega
  ·unfold IC at h2
   simp only [Bool.or_eq_false_iff,Bool.and_eq_false_iff,Bool.not_eq_false',decide_eq_false_iff_not,beq_iff_eq] at h2
   obtain⟨⟨⟨⟨_,_⟩,a3⟩,a4⟩,a5⟩:=h2
   have b3:v.iz.length=0:=by rcases a3 with a|a<;>omega
   have b4:v.af.length=0:=by
    rcases a4 with a|a
    ·simp only [Bool.or_eq_true,beq_iff_eq] at a;omega
    ·omega
   have b5:v.f9.length=0:=by rcases a5 with a|a<;>omega
   omega
 refine⟨h1,hlen,xW h3.2,Fg h7,by omega,by omega,by omega,fun p hp=>?_,fun s hs=>?_,fun s hs=>?_⟩
 ·have:=xX h5 p hp
  have e:l9 p=bif iW p.iN then !iX p.iq else true:=rfl
  rw [e] at this
  cases hf:iW p.iN with
  |false=>rw [hf] at this;cases this
  |true=>
   rw [hf,cond_true,Bool.not_eq_false'] at this
   exact⟨E1 hf,xW this⟩
 ·have:=xX h4 s hs
  have e:lA s= !iX s:=rfl
  rw [e,Bool.not_eq_false'] at this
  exact xW this
 ·have q1:=xX h6 s hs
  have q2:=xX h8 s hs
  have e1:ma s= !iX s.i6:=rfl
  have e2:ml s= !jf s.fN:=rfl
  rw [e1,Bool.not_eq_false'] at q1
  rw [e2,Bool.not_eq_false'] at q2
  exact⟨xW q1,Fg q2⟩
theorem z5 {n:Int} (h: -1099511627776<=n/\n<=1099511627776):Wy n:=⟨by omega,by omega⟩
theorem BW {p:iC} (h:p.iN.size<=12/\p.iq.size<=20):(yP p).length<=40:=by
 simp only [yP,List.length_append,jW];omega
theorem DI {s:f5} (h:s.i6.size<=20):(wx s).length<=40:=by
 simp only [wx,List.length_append,jW,jD];omega
theorem z4 {l:List ByteArray} (hl:l.length<=20) (h: ∀s∈l,s.size<=20):(CU l).length<=500:=by
 have:=qR xo 21 l (fun s hs=>by rw [jW];have:=h s hs;omega)
 simp only [CU,List.length_cons];omega
theorem Py (l:List ByteArray) (w:iu) (hl:l.length<=20) (h: ∀s∈l,s.size<=20) (hw:w.fb.length<=1000000):wK l w=some ⟨w.fb++CU l⟩:=by
 unfold wK
 rw [wL _ _ (by omega),iF]
 have e:=wu (step:=rK l (l.length:Int)) (fun i b=>(i,⟨b⟩)) l xo 21 1000001 (fun s hs=>by rw [jW];have:=h s hs;omega) (fun b=>(⟨b⟩:iu)) (fun i x b hx hb=>by
  have hs:=h x (List.mem_of_getElem? hx)
  have hi:=i0 hx
  simp only [iF,rK,ltN hi,cond_true,i8 hx,kh (show i<=_ by omega)]
  rw [AG x ⟨b⟩ (by simp only [iF];omega)]
  rfl) (fun b=>by simp only [iF,rK,geN (Nat.le_refl _),cond_false]) (w.fb++ [(l.length:Int) % 256]) (by simp;omega)
 rw [e,iF]
 simp [CU]
theorem Lw {v:ae} (h:CY v):(JF v).length<=3000:=by
 have h1:=qR yP 40 v.iz (fun p hp=>BW (h.pair p hp))
 have h2:=z4 h.il h.item
 have h3:=qR wx 40 v.f9 (fun s hs=>DI (h.score s hs).1)
 have h4:=h.pl;have h5:=h.sl;have h6:=h.text
 simp only [JF,List.length_cons,List.length_append,jW,jD]
 omega
theorem W5 {v:ae} (h:CY v) (w:iu) (hw:w.fb.length<=500000):yd v w=some ⟨w.fb++JF v⟩:=by
 have h4:=h.pl;have h5:=h.sl;have h6:=h.text;have h7:=h.il
 unfold yd AW
 rw [wL _ _ (by omega),iF,AG _ _ (by simp;omega),iF,tt _ _ (z5 h.count) (by simp [jW];omega),iF,wL _ _ (by simp [jW,jD,-List.length_flatMap];omega),iF]
 have e:=wu (step:=rB v v.iz (v.iz.length:Int)) (fun i b=>(i,⟨b⟩)) v.iz yP 40 600000 (fun p hp=>BW (h.pair p hp)) (fun b=>(⟨b⟩:iu)) (fun i x b hx hb=>by
  have hs:=h.pair x (List.mem_of_getElem? hx)
  have hi:=i0 hx
  simp only [iF,rB,ltN hi,cond_true,i8 hx,kh (show i<=_ by omega)]
  rw [AG x.iN ⟨b⟩ (by simp only [iF];omega),iF,AG _ _ (by simp [jW];omega),iF]
  simp [yP]) (fun b=>by simp only [iF,rB,geN (Nat.le_refl _),cond_false])
 rw [e _ (by simp [jW,jD,-List.length_flatMap];omega),iF]
 have hp:=qR yP 40 v.iz (fun p hp=>BW (h.pair p hp))
 rw [Py _ _ h.il h.item (by simp [jW,jD,-List.length_flatMap];omega),iF]
 have hl:=z4 h.il h.item
 rw [wL _ _ (by simp [jW,jD,-List.length_flatMap];omega),iF]
 have e2:=wu (step:=rj v.f9 (v.f9.length:Int)) (fun i b=>(i,⟨b⟩)) v.f9 wx 40 600000 (fun s hs=>DI (h.score s hs).1) (fun b=>(⟨b⟩:iu)) (fun i x b hx hb=>by
  have hs:=h.score x (List.mem_of_getElem? hx)
  have hi:=i0 hx
  simp only [iF,rj,ltN hi,cond_true,i8 hx,kh (show i<=_ by omega)]
  rw [AG x.i6 ⟨b⟩ (by simp only [iF];omega),iF,tt _ _ (z5 hs.2) (by simp [jW];omega),iF]
  simp [wx]) (fun b=>by simp only [iF,rj,geN (Nat.le_refl _),cond_false])
 rw [e2 _ (by simp [jW,jD,-List.length_flatMap];omega),iF]
 simp [JF]
structure J8 (m:ad):Prop where
 now:0<=m.e7.iS/\m.e7.iS<=1073741824
 el:m.e7.f6.length<=12
 next:1<=m.iI/\m.iI<=1048577
 cl:m.cO.length<=4
 entry: ∀x∈m.e7.f6,x.jm.size<=12/\CY x.jt/\0<=x.jX/\x.jX<=1073741824
 client: ∀c∈m.cO,(0<=c.i5.j9/\c.i5.j9<=13)/\(0<=c.fId/\c.fId<=1048577)/\(0<=c.jQ/\c.jQ<=1048576)/\(0<=c.iZ/\c.iZ<=1073741824)/\c.i5.iq.size<=20/\(-1099511627776<=c.i5.fN/\c.i5.fN<=1099511627776)/\c.i5.jG.length<=20/\ ∀s∈c.i5.jG,s.size<=20
theorem FG {α:Type} {p:Nat->α->Bool} : ∀(l:List α) (k:Nat),mB p k l=true-> ∀x∈l,∃i,p i x=true
 | [],_,_,x,hx=>by cases hx
 |y::l,k,h,x,hx=>by
  simp only [mB,Bool.and_eq_true] at h
  rcases List.mem_cons.1 hx with rfl|hx
  ·exact⟨k,h.1⟩
  ·exact FG l (k+1) h.2 x hx
theorem Vg {m:ad} (h:BE m=true):J8 m:=by
 unfold BE vE at h
 simp only [Bool.and_eq_true,decide_eq_true_eq] at h
 obtain⟨⟨⟨⟨a1,a2,a3⟩,a4⟩,⟨a5,a6⟩,a7⟩,a8⟩:=h
 refine⟨⟨a1,a2⟩,a3,⟨a5,a6⟩,a7,fun x hx=>?_,fun c hc=>?_⟩
 ·obtain⟨i,hi⟩:=FG _ _ a4 x hx
  unfold Ly at hi
  simp only [Bool.and_eq_true,Bool.or_eq_true,decide_eq_true_eq,beq_iff_eq] at hi
  obtain⟨⟨b1,b2,_⟩,b3⟩:=hi
  refine⟨E1 b1,qai b2,?_⟩
  rcases b3 with b3|b3<;>omega
 ·obtain⟨i,hi⟩:=FG _ _ a8 c hc
  unfold idB Dk at hi
  simp only [Bool.and_eq_true,Bool.or_eq_true,decide_eq_true_eq,beq_iff_eq] at hi
  obtain⟨⟨⟨c1,c2⟩,_⟩,⟨c3,c4⟩,⟨c5,c6⟩,c7⟩:=hi
  have bz: ∀ {c:Bool} {a b:Int},a≠0->(bif c then a else b)=0->c=false/\b=0:=by
   intro c a b ha h
   cases c with
   |true=>exact absurd h ha
   |false=>exact⟨rfl,h⟩
  unfold CF at c7
  obtain⟨d0,c7⟩:=bz (by decide) c7
  simp only [Bool.not_eq_false',Bool.and_eq_true,decide_eq_true_eq] at d0
  obtain⟨d1,c7⟩:=bz (by decide) c7
  obtain⟨d2,_⟩:=bz (by decide) c7
  simp only [Bool.or_eq_false_iff,Bool.not_eq_false',decide_eq_false_iff_not] at d1 d2
  obtain⟨d3,d4,d5⟩:=d1
  refine⟨d0,by omega,⟨c3,c4⟩,by omega,xW d3,Fg d2,by omega,fun s hs=>?_⟩
  have:=xX d5 s hs
  have e:jF s=decide ((20:Int)<(s.size:Int)):=rfl
  rw [e,decide_eq_false_iff_not] at this
  omega
theorem E5 {x:gi} (h:x.jm.size<=12) (hv:CY x.jt):(wk x).length<=4000:=by
 have:=Lw hv
 simp only [wk,List.length_append,jW,jD];omega
theorem MP {c:cc} (h1:c.i5.iq.size<=20) (h2:c.i5.jG.length<=20) (h3: ∀s∈c.i5.jG,s.size<=20):(tq c).length<=4000:=by
 have:=z4 h2 h3
 simp only [tq,List.length_append,List.length_cons,jW,jD];omega
theorem Sw {m:ad} (h:J8 m) (hc:clC m=some 0):rf m=some (CS m,0):=by
 have h1:=h.now;have h2:=h.el;have h3:=h.next;have h4:=h.cl
 have hE:=qR wk 4000 m.e7.f6 (fun x hx=>E5 (h.entry x hx).1 (h.entry x hx).2.1)
 unfold rf wv
 rw [hc,iF,beq_self_eq_true,cond_true,tt _ _ ⟨by omega,by omega⟩ (by simp only [List.length_nil];omega),iF,wL _ _ (by simp [jD]),iF]
 have e:=wu (step:=mZ m m.e7.f6 (m.e7.f6.length:Int)) (fun i b=>(i,⟨b⟩)) m.e7.f6 wk 4000 100 (fun x hx=>E5 (h.entry x hx).1 (h.entry x hx).2.1) (fun b=>(⟨b⟩:iu)) (fun i x b hx hb=>by
  obtain⟨k1,k2,k3,k4⟩:=h.entry x (List.mem_of_getElem? hx)
  have hi:=i0 hx
  have hv:=Lw k2
  simp only [iF,mZ,ltN hi,cond_true,i8 hx,kh (show i<=_ by omega)]
  rw [AG x.jm ⟨b⟩ (by simp only [iF];omega),iF,W5 k2 _ (by simp [jW];omega),iF,tt _ _ ⟨by omega,by omega⟩ (by simp [jW];omega),iF]
  simp [wk]) (fun b=>by simp only [iF,mZ,geN (Nat.le_refl _),cond_false])
 rw [e _ (by simp [jD]),iF,tt _ _ ⟨by omega,by omega⟩ (by simp [jD,-List.length_flatMap];omega),iF,wL _ _ (by simp [jD,-List.length_flatMap];omega),iF]
 have e2:=wu (step:=m4 m.cO (m.cO.length:Int)) (fun i b=>(i,⟨b⟩)) m.cO tq 4000 100000 (fun c hc=>MP (h.client c hc).2.2.2.2.1 (h.client c hc).2.2.2.2.2.2.1 (h.client c hc).2.2.2.2.2.2.2) (fun b=>(⟨b⟩:iu)) (fun i x b hx hb=>by
  obtain⟨_,k1,k2,k3,k4,k5,k6,k7⟩:=h.client x (List.mem_of_getElem? hx)
  have hi:=i0 hx
  simp only [iF,m4,rW,ltN hi,cond_true,i8 hx,kh (show i<=_ by omega)]
  rw [tt _ ⟨b⟩ ⟨by omega,by omega⟩ (by simp only [iF];omega),iF,tt _ _ ⟨by omega,by omega⟩ (by simp [jD];omega),iF,tt _ _ ⟨by omega,by omega⟩ (by simp [jD];omega),iF,wL _ _ (by simp [jD];omega),iF,AG _ _ (by simp [jD];omega),iF,tt _ _ (z5 k5) (by simp [jD,jW];omega),iF,Py _ _ k6 k7 (by simp [jD,jW];omega),iF]
  simp [tq]) (fun b=>by simp only [iF,m4,geN (Nat.le_refl _),cond_false])
 rw [e2 _ (by simp [jD,-List.length_flatMap];omega),iF]
 simp [CS]
theorem NZ (n:Int):Le (uL n):=by
 intro y hy
 simp only [uL,List.mem_cons,List.not_mem_nil,or_false] at hy
 omega
theorem RW (n:Int) (h:Wy n):val 0 (uL n)=n+4611686018427387904:=by
 obtain⟨h1,h2⟩:=h
 simp only [uL,val]
 omega
theorem rG (n:Int) (t:List Int) (h:Wy n):m9 ⟨uL n++t,false⟩=some (n,⟨t,false⟩):=by
 have ht:=KL 8 ⟨uL n++t,false⟩ rfl (by simp only [List.length_append,jD];omega)
 have e1:(uL n++t).take 8=uL n:=by rw [List.take_append_of_le_length (by rw [jD];omega)];exact List.take_of_length_le (by rw [jD];omega)
 have e2:(uL n++t).drop 8=t:=by
  have:=jD n
  rw [<-this,List.drop_left]
 simp only [e1,e2] at ht
 have hn:=Sq (uL n) ⟨t,false⟩ (by rw [jD];omega) (NZ n) (uL n) [] 0 rfl (by omega) (by simp)
 have e0:(([]:List Int).length:Int)=0:=rfl
 rw [e0] at hn
 have ht':wn 8 ⟨uL n++t,false⟩=some (uL n,⟨t,false⟩):=ht
 unfold m9
 rw [ht']
 simp only [iF]
 rw [hn]
 simp only [iF,RW n h]
 obtain⟨h1,h2⟩:=h
 have e:IntKind.i64.wrap (IntKind.u64.wrap (n+4611686018427387904-4611686018427387904))=n:=by
  rw [Sz,XA];omega
 rw [e]
theorem zF (v:Int) (t:List Int) (h0:0<=v) (h1:v<256):nM ⟨v::t,false⟩=some (v,⟨t,false⟩):=by
 have ht:=KL 1 ⟨v::t,false⟩ rfl (by simp)
 have ht':wn 1 ⟨v::t,false⟩=some ([v],⟨t,false⟩):=ht
 unfold nM
 rw [ht']
 simp only [iF]
 rw [lC (b:=.inl v) (by
  have:IntKind.i64.wrap v=v:=by rw [jE]<;>omega
  simp [vJ,idx,this,iF]),iF]
theorem Uv (s:ByteArray):Tz (byL s)=s:=by
 obtain⟨a⟩:=s
 simp only [Tz,byL,List.map_map]
 congr 1
 have:(a.toList.map ((fun n=>UInt8.ofNat n.toNat)∘fun b=>((b.toNat:Nat):Int)))=a.toList:=by
  rw [List.map_congr_left (g:=id) (fun b _=>by simp)]
  simp
 rw [this]
theorem Rp (s:ByteArray):Le (byL s):=by
 intro y hy
 simp only [byL,List.mem_map] at hy
 obtain⟨b,_,rfl⟩:=hy
 have:=b.toNat_lt
 omega
theorem yn (s:ByteArray) (t:List Int) (h:s.size<=255):uy ⟨xo s++t,false⟩=some (s,⟨t,false⟩):=by
 have e:(s.size:Int) % 256=(s.size:Int):=by omega
 have hs:nM ⟨xo s++t,false⟩=some ((s.size:Int),⟨byL s++t,false⟩):=by
  have:=zF (s.size:Int) (byL s++t) (by omega) (by omega)
  simp only [xo,e,List.cons_append]
  exact this
 have hl:=Ki s
 have ht:=KL s.size ⟨byL s++t,false⟩ rfl (by simp only [List.length_append];omega)
 have e1:(byL s++t).take s.size=byL s:=by rw [List.take_append_of_le_length (by omega)];exact List.take_of_length_le (by omega)
 have e2:(byL s++t).drop s.size=t:=by rw [<-hl,List.drop_left]
 simp only [e1,e2] at ht
 unfold uy
 rw [hs]
 simp only [iF]
 rw [ht]
 simp only [iF,Np (Rp s),cond_true,Uv]
theorem zR {α β:Type} {stP:Int×f7×β->Option ((Int×f7×β)⊕(f7×β))} (g:α->List Int) (add:β->α->β) (Q:Nat->β->Prop)
  (hPend: ∀r a,stP (0,r,a)=some (.inr (r,a))):
  ∀(l:List α) (k:Nat) (t:List Int) (a:β),(∀(n j:Nat) x u b,x∈l->Q j b->k<=j->j+n+1=k+l.length->stP (((n+1:Nat):Int),⟨g x++u,false⟩,b)=some (.inl ((n:Int),⟨u,false⟩,add b x))/\Q (j+1) (add b x))->Q k a->
   cM stP ((l.length:Int),⟨l.flatMap g++t,false⟩,a)=some (⟨t,false⟩,l.foldl add a)
 | [],k,t,a,_,_=>lC (hPend _ _)
 |x::l,k,t,a,h,q=>by
  obtain⟨h1,h2⟩:=h l.length k x (l.flatMap g++t) a List.mem_cons_self q (Nat.le_refl _) (by simp only [List.length_cons];omega)
  have ih:=zR g add Q hPend l (k+1) t (add a x) (fun n j y u b hy hq hk hj=>h n j y u b (List.mem_cons_of_mem _ hy) hq (by omega) (by simp only [List.length_cons];omega)) h2
  simp only [List.flatMap_cons,List.length_cons,List.foldl_cons,List.append_assoc]
  exact (tH h1).trans ih
theorem Ms {α:Type} : ∀(l a:List α),l.foldl (fun b x=>b++ [x]) a=a++l
 | [],a=>by simp
 |x::l,a=>by simp only [List.foldl_cons,Ms l];simp
theorem LK (n:Nat) (h:n<=1000):IntKind.i64.wrap (((n+1:Nat):Int)-1)=(n:Int):=by
 rw [jE]<;>omega
def Qa (l:List ByteArray):List Int:=(l.length:Int) % 256::l.flatMap xo
theorem Mg (l:List ByteArray) (t:List Int) (hl:l.length<=20) (h: ∀s∈l,s.size<=20):wN ⟨Qa l++t,false⟩=some (l,⟨t,false⟩):=by
 have e:(l.length:Int) % 256=(l.length:Int):=by omega
 have hs:nM ⟨Qa l++t,false⟩=some ((l.length:Int),⟨l.flatMap xo++t,false⟩):=by
  have:=zF (l.length:Int) (l.flatMap xo++t) (by omega) (by omega)
  simp only [Qa,e,List.cons_append]
  exact this
 have he:=zR (stP:=kd) xo (fun b x=>b++ [x]) (fun j b=>b.length<=j)
  (fun r a=>by simp only [kd];rfl) l 0 t [] (fun n j x u b hx hq hk hj=>by
   refine⟨?_,by simp only [List.length_append,List.length_singleton];omega⟩
   have hf:dh (b.length+1) 16=true:=ky (by omega)
   simp only [kd,cond_false,ta,yn x u (by have:=h x hx;omega),iF,hf,cond_true,LK n (by omega)]
   rw [decide_eq_true (by omega),cond_true]) (by simp)
 rw [Ms,List.nil_append] at he
 simp only [wN,lK,hs,iF,he]
theorem Qz {n:Nat} (h:n<=20):(n:Int) % 256=(n:Int):=by omega
theorem yv (n:Nat) (t:List Int) (h:n<=20):nM ⟨(n:Int) % 256::t,false⟩=some ((n:Int),⟨t,false⟩):=by
 have:=zF (n:Int) t (by omega) (by omega)
 rw [Qz h];exact this
theorem SG (v:ae) (l:List iC) (t:List Int) (hl:l.length<=20) (h0:v.iz= []) (h: ∀p∈l,p.iN.size<=12/\p.iq.size<=20):kD ⟨(l.length:Int) % 256::(l.flatMap yP++t),false⟩ v=some (⟨t,false⟩,{ v with iz:=l }):=by
 have he:=zR (stP:=kg) yP (fun b x=>{ b with iz:=b.iz++ [x] }) (fun j b=>b.iz.length<=j)
  (fun r a=>by simp only [kg];rfl) l 0 t v (fun n j x u b hx hq hk hj=>by
   refine⟨?_,by simp only [List.length_append,List.length_singleton];omega⟩
   have hf:dh (b.iz.length+1) 32=true:=ky (by omega)
   obtain⟨h1,h2⟩:=h x hx
   simp only [kg,cond_false,tl,yP,List.append_assoc,yn x.iN _ (by omega),yn x.iq u (by omega),iF,hf,cond_true,LK n (by omega)]
   rw [decide_eq_true (by omega),cond_true]) (by rw [h0];simp)
 have hF: ∀(l:List iC) (b:ae),l.foldl (fun b x=>({ b with iz:=b.iz++ [x] } :ae)) b= { b with iz:=b.iz++l } :=by
  intro l
  induction l with
  |nil=>intro b;simp
  |cons x l ih=>intro b;rw [List.foldl_cons,ih];simp
 rw [hF,h0,List.nil_append] at he
 simp only [kD,yv _ _ hl,iF,he]
theorem QX (v:ae) (l:List f5) (t:List Int) (hl:l.length<=20) (h0:v.f9= []) (h: ∀s∈l,s.i6.size<=20/\ -1099511627776<=s.fN/\s.fN<=1099511627776):kI ⟨(l.length:Int) % 256::(l.flatMap wx++t),false⟩ v=some (⟨t,false⟩,{ v with f9:=l }):=by
 have he:=zR (stP:=ke) wx (fun b x=>{ b with f9:=b.f9++ [x] }) (fun j b=>b.f9.length<=j)
  (fun r a=>by simp only [ke];rfl) l 0 t v (fun n j x u b hx hq hk hj=>by
   refine⟨?_,by simp only [List.length_append,List.length_singleton];omega⟩
   have hf:dh (b.f9.length+1) 24=true:=ky (by omega)
   obtain⟨h1,h2⟩:=h x hx
   simp only [ke,cond_false,sV,wx,List.append_assoc,yn x.i6 _ (by omega),rG x.fN u (z5 h2),iF,hf,cond_true,LK n (by omega)]
   rw [decide_eq_true (by omega),cond_true]) (by rw [h0];simp)
 have hF: ∀(l:List f5) (b:ae),l.foldl (fun b x=>({ b with f9:=b.f9++ [x] } :ae)) b= { b with f9:=b.f9++l } :=by
  intro l
  induction l with
  |nil=>intro b;simp
  |cons x l ih=>intro b;rw [List.foldl_cons,ih];simp
 rw [hF,h0,List.nil_append] at he
 simp only [kI,yv _ _ hl,iF,he]
theorem Ur (l:List ByteArray):CU l=Qa l:=rfl
theorem Sn {v:ae} (h:CY v) (t:List Int):yc ⟨JF v++t,false⟩=some (v,⟨t,false⟩):=by
 obtain⟨k,tx,c,ps,is,ss⟩:=v
 have hk:=h.kind;have ht:=h.text;have hp:=h.pl;have hi:=h.il;have hs:=h.sl
 simp only at hk ht hp hi hs
 have e0:k % 256=k:=by omega
 unfold yc
 simp only [JF,List.cons_append,List.append_assoc,e0,zF k _ (by omega) (by omega),iF,yn tx _ (by omega),rG c _ (z5 h.count),SG ⟨k,tx,c,[],[],[]⟩ ps _ hp rfl h.pair,Ur,Mg is _ hi h.item,QX ⟨k,tx,c,ps,is,[]⟩ ss _ hs rfl h.score]
theorem NX (m:ad) (l:List gi) (t:List Int) (hl:l.length<=12) (h0:m.e7.f6= []) (h: ∀x∈l,x.jm.size<=12/\CY x.jt/\0<=x.jX/\x.jX<=1073741824):jT ⟨(l.length:Int) % 256::(l.flatMap wk++t),false⟩ m=some (⟨t,false⟩,⟨⟨m.e7.iS,l⟩,m.iI,m.cO⟩):=by
 have he:=zR (stP:=jJ) wk (fun b x=>(⟨⟨b.e7.iS,b.e7.f6++ [x]⟩,b.iI,b.cO⟩:ad)) (fun j b=>b.e7.f6.length<=j)
  (fun r a=>by simp only [jJ];rfl) l 0 t m (fun n j x u b hx hq hk hj=>by
   refine⟨?_,by simp only [List.length_append,List.length_singleton];omega⟩
   have hf:dh (b.e7.f6.length+1) 128=true:=ky (by omega)
   obtain⟨h1,h2,h3⟩:=h x hx
   simp only [jJ,cond_false,nC,wk,List.append_assoc,yn x.jm _ (by omega),Sn h2,rG x.jX u ⟨by omega,by omega⟩,iF,hf,cond_true,LK n (by omega)]
   rw [decide_eq_true (by omega),cond_true]) (by rw [h0];simp)
 have hF: ∀(l:List gi) (b:ad),l.foldl (fun b x=>(⟨⟨b.e7.iS,b.e7.f6++ [x]⟩,b.iI,b.cO⟩:ad)) b=⟨⟨b.e7.iS,b.e7.f6++l⟩,b.iI,b.cO⟩:=by
  intro l
  induction l with
  |nil=>intro b;simp
  |cons x l ih=>intro b;rw [List.foldl_cons,ih];simp
 rw [hF,h0,List.nil_append] at he
 simp only [jT,yv _ _ (show l.length<=20 by omega),iF,he]
theorem Oo (m:ad) (l:List cc) (t:List Int) (hl:l.length<=4) (h0:m.cO= []) (h: ∀c∈l,(0<=c.i5.j9/\c.i5.j9<=13)/\(0<=c.fId/\c.fId<=1048577)/\(0<=c.jQ/\c.jQ<=1048576)/\(0<=c.iZ/\c.iZ<=1073741824)/\c.i5.iq.size<=20/\(-1099511627776<=c.i5.fN/\c.i5.fN<=1099511627776)/\c.i5.jG.length<=20/\ ∀s∈c.i5.jG,s.size<=20):jR ⟨(l.length:Int) % 256::(l.flatMap tq++t),false⟩ m=some (⟨t,false⟩,⟨m.e7,m.iI,l⟩):=by
 have he:=zR (stP:=jK) tq (fun b x=>(⟨b.e7,b.iI,b.cO++ [x]⟩:ad)) (fun j b=>b.cO.length<=j)
  (fun r a=>by simp only [jK];rfl) l 0 t m (fun n j x u b hx hq hk hj=>by
   refine⟨?_,by simp only [List.length_append,List.length_singleton];omega⟩
   have hf:dh (b.cO.length+1) 80=true:=ky (by omega)
   obtain⟨k0,k1,k2,k3,k4,k5,k6,k7⟩:=h x hx
   have e0:x.i5.j9 % 256=x.i5.j9:=by omega
   simp only [jK,cond_false,nB,sP,tq,List.append_assoc,List.cons_append,e0,rG x.fId _ ⟨by omega,by omega⟩,rG x.jQ _ ⟨by omega,by omega⟩,rG x.iZ _ ⟨by omega,by omega⟩,zF x.i5.j9 _ (by omega) (by omega),yn x.i5.iq _ (by omega),rG x.i5.fN _ (z5 k5),Ur,Mg x.i5.jG _ k6 k7,iF,hf,cond_true,LK n (by omega)]
   rw [decide_eq_true (by omega),cond_true]) (by rw [h0];simp)
 have hF: ∀(l:List cc) (b:ad),l.foldl (fun b x=>(⟨b.e7,b.iI,b.cO++ [x]⟩:ad)) b=⟨b.e7,b.iI,b.cO++l⟩:=by
  intro l
  induction l with
  |nil=>intro b;simp
  |cons x l ih=>intro b;rw [List.foldl_cons,ih];simp
 rw [hF,h0,List.nil_append] at he
 simp only [jR,yv _ _ (show l.length<=20 by omega),iF,he]
theorem NK {v:ae} (h:CY v):(JF v).length<=1000:=by
 have h1:=qR yP 34 v.iz (fun p hp=>by have:=h.pair p hp;simp only [yP,List.length_append,jW];omega)
 have h2:=qR xo 21 v.af (fun s hs=>by rw [jW];have:=h.item s hs;omega)
 have h3:=qR wx 34 v.f9 (fun s hs=>by have:=(h.score s hs).1;simp only [wx,List.length_append,jW,jD];omega)
 have h4:=h.tot;have h6:=h.text
 simp only [JF,CU,List.length_cons,List.length_append,jW,jD]
 omega
theorem RE {m:ad} (h:J8 m):(CS m).length<=20000:=by
 have h1:=h.el;have h2:=h.cl
 have a:=qR wk 1100 m.e7.f6 (fun x hx=>by
  obtain⟨q1,q2,_⟩:=h.entry x hx
  have:=NK q2
  simp only [wk,List.length_append,jW,jD];omega)
 have b:=qR tq 1100 m.cO (fun c hc=>by
  obtain⟨_,_,_,_,q1,_,q2,q3⟩:=h.client c hc
  have:=z4 q2 q3
  simp only [tq,List.length_append,List.length_cons,jW,jD];omega)
 simp only [CS,List.length_append,List.length_cons,jD];omega
theorem QN {m:ad} (h:J8 m) (hc:clC m=some 0):qZ (CS m)=some (m,0):=by
 have hlen:=RE h
 have hcl:ol (CS m)=some (CS m):=by
  unfold ol
  rw [ky (by omega),cond_true]
 have h1:=h.now;have h2:=h.el;have h3:=h.next;have h4:=h.cl
 have e1:=NX ⟨⟨m.e7.iS,[]⟩,0,[]⟩ m.e7.f6 (uL m.iI++((m.cO.length:Int) % 256::m.cO.flatMap tq)) h2 rfl h.entry
 have e2:=Oo ⟨m.e7,m.iI,[]⟩ m.cO [] h4 rfl h.client
 rw [List.append_nil] at e2
 unfold qZ wy
 rw [decide_eq_false (by omega),cond_false,hcl,iF]
 simp only [CS,rG m.e7.iS _ ⟨by omega,by omega⟩,iF,List.cons_append,List.append_assoc,e1,rG m.iI _ ⟨by omega,by omega⟩,e2,Hi,cond_false,cond_true,List.length_nil]
 simp only [show decide ((0:Int)<((0:Nat):Int))=false from rfl,cond_false,iF,hc,beq_self_eq_true,cond_true]
theorem QQ (l:iP) (hl:l.af.length<=1000):ux l=some l:=by
 unfold ux
 rw [oO (step:=oS l) (fun i s=>(i,⟨l.iD,l.iw,s⟩)) l.af (fun s=>⟨l.iD,l.iw,s⟩) (fun i x hx=>by
  have h:=i0 hx
  have hf:dh ((l.af.take i).length+1) 104=true:=ky (by rw [List.length_take];omega)
  simp only [iF,oS,ltN h,cond_true,i8 hx,hf,kh (show i<=_ by omega)]) (by simp only [iF,oS,geN (Nat.le_refl _),cond_false]),iF]
theorem Qv (m:ad) (ok:m.ok):nU m=some m:=by
 obtain⟨o1,o2,o3,o4⟩:=ok
 unfold okN at o3
 unfold nU
 rw [Lx _ o1]
 simp only [iF]
 rw [oO (step:=lP m) (fun i l=>(i,⟨m.e7,m.iI,l⟩)) m.cO (fun l=>⟨m.e7,m.iI,l⟩) (fun i x hx=>by
  have h:=i0 hx
  have hf:dh ((m.cO.take i).length+1) 80=true:=ky (by rw [List.length_take];omega)
  simp only [iF,lP,ltN h,cond_true,i8 hx,PN _ (o4 x (List.mem_of_getElem? hx)).2.2.2,hf,kh (show i<=_ by omega)]) (by simp only [iF,lP,geN (Nat.le_refl _),cond_false]),iF]
theorem Rh (l:List bi) (hl:(l.length:Int)*216<=140737488355328) (ok: ∀y∈l,y.ok):qS l=some l:=by
 unfold qS
 rw [oO (step:=mT l) (fun i q=>(q,i)) l (fun q=>q) (fun i x hx=>by
  have h:=i0 hx
  obtain⟨k,t,f,j,it,⟨si,st,m⟩⟩:=x
  have os:=(ok _ (List.mem_of_getElem? hx)).2.2.2.2.2.2.2
  have hf:dh ((l.take i).length+1) 216=true:=ky (by rw [List.length_take];omega)
  simp only [iF,mT,uf,v4,ltN h,cond_true,i8 hx,V1 m os,hf,kh (show i<=_ by omega)]) (by simp only [iF,mT,geN (Nat.le_refl _),cond_false]),iF]
theorem B3 {n:Int} (h:kx n=true):1<=n/\n<=1048576:=by
 have:(decide (1<=n)&&decide (n<=1048576))=true:=h
 rw [Bool.and_eq_true,decide_eq_true_eq,decide_eq_true_eq] at this;exact this
theorem qaa (r:bi) (ok:r.iG.ok) (h:pJ r=some 0):r.e5=1∨(r.e5=2/\1<=r.iB/\r.iB<=1048576)∨(r.e5=3/\(1<=r.iG.iB/\r.iG.iB<=1048576)/\(1<=r.iG.iK/\r.iG.iK<=1048576)/\BE r.iG.iy=true):=by
 unfold pJ uV at h
 by_cases h1:r.e5<1
 ·rw [decide_eq_true h1] at h;cases h
 rw [decide_eq_false h1,cond_false] at h
 by_cases h2:3<r.e5
 ·rw [decide_eq_true h2] at h;cases h
 rw [decide_eq_false h2,cond_false] at h
 cases h3:kG r with
 |true=>rw [h3] at h;cases h
 |false=>
  rw [h3,cond_false] at h
  have hk:r.e5=1∨r.e5=2∨r.e5=3:=by omega
  rcases hk with hk|hk|hk
  ·exact .inl hk
  ·rw [hk] at h
   simp only [beq_self_eq_true,cond_true,show ((2:Int)==1)=false from rfl,cond_false] at h
   cases hn:kx r.iB with
   |false=>rw [hn] at h;cases h
   |true=>exact .inr (.inl ⟨hk,B3 hn⟩)
  ·rw [hk] at h
   simp only [show ((3:Int)==1)=false from rfl,show ((3:Int)==2)=false from rfl,cond_false] at h
   unfold lZ at h
   rw [NQ _ ok.2.2] at h
   cases hn:kx r.iG.iB with
   |false=>rw [hn] at h;cases h
   |true=>
    cases ht:kx r.iG.iK with
    |false=>rw [hn,ht] at h;cases h
    |true=>
     cases hm:BE r.iG.iy with
     |false=>rw [hn,ht,hm] at h;cases h
     |true=>exact .inr (.inr ⟨hk,B3 hn,B3 ht,rfl⟩)
theorem LM: ∀(l:List iE) (t m:Int) (k:Nat) (y:iE),chk t m l=true->l[k]? =some y->chk y.iK y.iZ (l.drop (k+1))=true/\m<=y.iZ
 | [],_,_,_,_,_,h=>by cases h
 |x::l,t,m,0,y,h,hy=>by
  simp only [List.getElem?_cons_zero,Option.some.injEq] at hy
  subst hy
  simp only [chk,Bool.and_eq_true,decide_eq_true_eq] at h
  exact⟨h.2,h.1.2.2⟩
 |x::l,t,m,k+1,y,h,hy=>by
  simp only [List.getElem?_cons_succ] at hy
  simp only [chk,Bool.and_eq_true,decide_eq_true_eq] at h
  obtain⟨a,b⟩:=LM l _ _ k y h.2 hy
  exact⟨a,by omega⟩
theorem XE {t m m':Int} (hm:m'<=m): ∀ {l:List iE},chk t m l=true->chk t m' l=true
 | [],_=>rfl
 |x::l,h=>by
  simp only [chk,Bool.and_eq_true,decide_eq_true_eq] at h⊢
  exact⟨⟨h.1.1,h.1.2.1,by omega⟩,h.2⟩
theorem Nk {p t:Int} {q:List iE} (hp:1<=p) (ht:1<=t/\t<=1048576) (hq:q.length<=200) (hs:p+q.length<=1048576):AF ⟨p,t,q⟩=true:=by
 have e1:(p==0)=false:=by rw [beq_eq_false_iff_ne];omega
 have e2:(t==0)=false:=by rw [beq_eq_false_iff_ne];omega
 simp only [AF,e1,e2,beq_self_eq_true,Bool.and_eq_true,decide_eq_true_eq,true_and]
 omega
theorem Tb (l:iP) (p t:Int) (hb:w4 l=true) (hp:1<=p/\p<=1048576) (ht:1<=t/\t<=1048576):w4 (I5 l p t)=true:=by
 have ho:=zp hb
 have hn:=ho.len;have hbb:=ho.base
 unfold I5
 cases hc:(decide (l.iD<=p)&&(qY l p==t)) with
 |false=>
  rw [cond_false]
  unfold w4
  rw [Nk hp.1 ht (by simp) (by simp;omega)];rfl
 |true=>
  rw [cond_true]
  rw [Bool.and_eq_true,decide_eq_true_eq] at hc
  obtain⟨h6,hq⟩:=hc
  have hlast:=P5 hq ht.1
  have hqt:qY l p=t:=by simpa using hq
  by_cases hpb:p=l.iD
  ·subst hpb
   have e:qY l l.iD=l.iw:=by unfold qY;rw [beq_self_eq_true,cond_true]
   rw [e,Int.sub_self]
   exact hb
  ·have hk:(p-l.iD).toNat=(p-l.iD-1).toNat+1:=by omega
   have hlt:(p-l.iD-1).toNat<l.af.length:=by omega
   have hy:=List.getElem?_eq_getElem hlt
   have e:qY l p=(l.af[(p-l.iD-1).toNat]).iK:=by
    unfold qY FI
    rw [beq_eq_false_iff_ne.2 hpb,cond_false,hy]
   have hc:=hb
   unfold w4 at hc
   rw [Bool.and_eq_true] at hc
   obtain⟨a,b⟩:=LM _ _ _ _ _ hc.2 hy
   unfold w4
   rw [Nk hp.1 (by rw [hqt];exact ht) (by rw [List.length_drop];omega) (by rw [List.length_drop];omega),Bool.true_and,hk]
   simp only [e]
   exact XE b a
def Gm (l:iP) (p:Int) (x:iE):iP:=⟨l.iD,l.iw,l.af.take (p-l.iD-1).toNat++ [x]⟩
theorem qar (l:iP) (h:w4 l=true): ∃t,qM l=some (l.iD+l.af.length,t,0):=by
 have ho:=zp h
 have hn:=ho.len;have hb:=ho.base
 unfold qM sX
 rw [z3 l (by omega),h]
 simp only [cond_true,iF,beq_self_eq_true]
 by_cases h0:0<l.af.length
 ·rw [decide_eq_true (show (0:Int)<(l.af.length:Int) by omega),cond_true]
  have e:IntKind.i64.wrap ((l.af.length:Int)-1)=((l.af.length-1:Nat):Int):=by rw [jE]<;>omega
  rw [e,i8 (List.getElem?_eq_getElem (by omega))]
  simp only [iF]
  rw [jE (by omega) (by omega)]
  exact⟨_,rfl⟩
 ·rw [decide_eq_false (show ¬(0:Int)<(l.af.length:Int) by omega),cond_false]
  have:l.af.length=0:=by omega
  rw [this]
  simp only [iF]
  exact⟨l.iw,by simp⟩
theorem Lj (l:iP) (p:Int) (x:iE) (h:l.af.length<=200):(Gm l p x).af.length<=1000:=by
 simp only [Gm,List.length_append,List.length_take,List.length_singleton];omega
theorem qcl (l:iP) (p:Int) (x:iE) (h:w4 l=true) (hp:1<=p/\p<=1048576):um l p x=some (bif decide (p<=l.iD) then (l,0) else bif decide (l.iD+l.af.length+1<p) then (l,10) else bif w4 (Gm l p x) then (Gm l p x,0) else (l,10)):=by
 have ho:=zp h
 have hn:=ho.len;have hb:=ho.base
 obtain⟨t,e⟩:=qar l h
 unfold um yD
 rw [e,iF]
 simp only
 by_cases h1:p<=l.iD
 ·simp only [decide_eq_true h1,cond_true]
 rw [decide_eq_false h1,cond_false,cond_false,jE (n:=l.iD+l.af.length+1) (by omega) (by omega)]
 by_cases h2:l.iD+l.af.length+1<p
 ·simp only [decide_eq_true h2,cond_true]
 rw [decide_eq_false h2,cond_false,cond_false]
 have e1:IntKind.i64.wrap (IntKind.i64.wrap (p-l.iD)-1)=(((p-l.iD-1).toNat:Nat):Int):=by
  rw [jE (n:=p-l.iD) (by omega) (by omega),jE]<;>omega
 have hr:yo 0 (((p-l.iD-1).toNat:Nat):Int) (l.af.length:Int)=true:=by unfold yo;simp;omega
 have hs:dm l.af 0 (((p-l.iD-1).toNat:Nat):Int)=l.af.take (p-l.iD-1).toNat:=by unfold dm;simp
 have hf:dh (l.af.take (p-l.iD-1).toNat).length 104=true:=ky (by rw [List.length_take];omega)
 have hf2:dh ((l.af.take (p-l.iD-1).toNat).length+1) 104=true:=ky (by rw [List.length_take];omega)
 have hc:=z3 (Gm l p x) (by have:=Lj l p x hn;omega)
 unfold Gm at hc
 simp only [e1,hr,cond_true,hs,mN,hf,iF,hf2,hc]
 unfold Gm
 cases w4 ⟨l.iD,l.iw,l.af.take (p-l.iD-1).toNat++ [x]⟩<;>rfl
theorem qe4 (q:List bi) (i:Int) (d:iL) (x:bi) (h:w4 d.jh=true) (hp:d.jh.iD<x.iB/\x.iB<=d.jh.iD+d.jh.af.length+1):cM (kr q i d x) (IntKind.i64.wrap (d.jh.iD+1),⟨d.jh.iD,d.jh.iw,[]⟩)=some ⟨d.jh.iD,d.jh.iw,d.jh.af.take (x.iB-d.jh.iD-1).toNat⟩:=by
 have ho:=zp h
 have hn:=ho.len;have hb:=ho.base
 have hw:IntKind.i64.wrap (d.jh.iD+1)=d.jh.iD+1+0:=by rw [jE]<;>omega
 rw [hw]
 have hk:(d.jh.af.take (x.iB-d.jh.iD-1).toNat).length=(x.iB-d.jh.iD-1).toNat:=by rw [List.length_take];omega
 exact oO (step:=kr q i d x) (fun j s=>(d.jh.iD+1+j,⟨d.jh.iD,d.jh.iw,s⟩)) (d.jh.af.take (x.iB-d.jh.iD-1).toNat) (fun s=>⟨d.jh.iD,d.jh.iw,s⟩) (fun j y hy=>by
  have hj:=i0 hy
  rw [hk] at hj
  rw [List.getElem?_take,if_pos hj] at hy
  have h1:decide (d.jh.iD+1+(j:Int)<x.iB)=true:=decide_eq_true (by omega)
  have h2:IntKind.i64.wrap (IntKind.i64.wrap (d.jh.iD+1+(j:Int)-d.jh.iD)-1)=((j:Nat):Int):=by
   rw [jE (n:=d.jh.iD+1+(j:Int)-d.jh.iD) (by omega) (by omega),jE]<;>omega
  have h3:IntKind.i64.wrap (d.jh.iD+1+(j:Int)+1)=d.jh.iD+1+((j+1:Nat):Int):=by rw [jE]<;>omega
  have hf:dh (((d.jh.af.take (x.iB-d.jh.iD-1).toNat).take j).length+1) 104=true:=ky (by rw [List.length_take,List.length_take];omega)
  simp only [iF,kr,h1,cond_true,h2,i8 hy,hf,h3]) (by
  have h1:decide (d.jh.iD+1+((d.jh.af.take (x.iB-d.jh.iD-1).toNat).length:Int)<x.iB)=false:=decide_eq_false (by rw [hk];omega)
  simp only [iF,kr,h1,cond_false])
structure Inv (d:iL):Prop where
 log:w4 d.jh=true
 so:d.iG.ok
 mb:BE d.iG.iy=true
def Kq:(Int×iL×bi×iP)⊕((Int×iL×bi)⊕iL)->Int⊕iL
 | .inl (e,_)=>.inl e
 | .inr (.inl (e,_))=>.inl e
 | .inr (.inr d)=>.inr d
def cA:(Int×iL×bi)⊕((iL×bi×Int×Int×(List iE))⊕iL)->Int⊕iL
 | .inl (e,_)=>.inl e
 | .inr (.inl _)=>.inl 10
 | .inr (.inr d)=>.inr d
theorem RK (l:List bi) (i:Nat) (x:bi) (d:iL) (hx:l[i]? =some x) (hl:l.length<=140737488351232) (ok:x.iG.ok) (I:Inv d):
  (∃d',lr l (l.length:Int) ((i:Int),d)=some (.inl (((i+1:Nat):Int),d'))/\kc l ((i:Int),d)=some (.inl (((i+1:Nat):Int),d'))/\Inv d')∨
  (∃r1 r2 e,lr l (l.length:Int) ((i:Int),d)=some (.inr r1)/\kc l ((i:Int),d)=some (.inr r2)/\Kq r1= .inl e/\cA r2= .inl e):=by
 have hi:=i0 hx
 obtain⟨n,e1,e2⟩:=Qq x ok
 have hw:IntKind.i64.wrap ((i:Int)+1)=((i+1:Nat):Int):=kh (by omega)
 have ho:=zp I.log
 have hn:=ho.len;have hb:=ho.base
 simp only [lr,tI,kc,ltN hi,cond_true,i8 hx,iF,e1,e2,hw]
 cases hz:(n==0) with
 |false=>exact .inr ⟨_,_,n,rfl,rfl,rfl,rfl⟩
 |true=>
  have hn0:n=0:=by simpa using hz
  subst hn0
  simp only [cond_true]
  rcases qaa x ok e1 with hk|⟨hk,hp⟩|⟨hk,hp,ht,hm⟩
  ·simp only [hk,beq_self_eq_true,cond_true,cond_false,show ((1:Int)==2)=false from rfl,show ((1:Int)==3)=false from rfl,im]
   exact .inl ⟨_,rfl,rfl,⟨I.log,I.so,I.mb⟩⟩
  ·simp only [hk,beq_self_eq_true,cond_true,cond_false,show ((2:Int)==1)=false from rfl,show ((2:Int)==3)=false from rfl,im,rb,qcl _ _ x.iR I.log hp,iF]
   by_cases h1:x.iB<=d.jh.iD
   ·simp only [decide_eq_true h1,decide_eq_false (show ¬d.jh.iD<x.iB by omega),cond_true,cond_false,beq_self_eq_true,hw]
    exact .inl ⟨d,rfl,rfl,I⟩
   have hlw:IntKind.i64.wrap (mw d.jh+1)=d.jh.iD+d.jh.af.length+1:=by
    unfold mw
    rw [jE (n:=d.jh.iD+d.jh.af.length) (by omega) (by omega),jE]<;>omega
   simp only [decide_eq_false h1,decide_eq_true (show d.jh.iD<x.iB by omega),cond_true,cond_false,hlw]
   by_cases h2:d.jh.iD+d.jh.af.length+1<x.iB
   ·simp only [decide_eq_true h2,cond_true]
    exact .inr ⟨_,_,10,rfl,rfl,rfl,rfl⟩
   have hf:dh ((d.jh.af.take (x.iB-d.jh.iD-1).toNat).length+1) 104=true:=ky (by rw [List.length_take];omega)
   have hc:=Hd (Gm d.jh x.iB x.iR) (by have:=Lj d.jh x.iB x.iR hn;omega)
   have hc':pz ⟨d.jh.iD,d.jh.iw,d.jh.af.take (x.iB-d.jh.iD-1).toNat++ [x.iR]⟩=some (bif w4 (Gm d.jh x.iB x.iR) then 0 else 13):=hc
   simp only [decide_eq_false h2,cond_false,qe4 l (i:Int) d x I.log ⟨by omega,by omega⟩,iF,qJ,hf,cond_true,hc',hk,show ((2:Int)==1)=false from rfl,show ((2:Int)==3)=false from rfl,im]
   cases hq:w4 (Gm d.jh x.iB x.iR) with
   |true=>
    simp only [cond_true,beq_self_eq_true,hw]
    exact .inl ⟨_,rfl,rfl,⟨hq,I.so,I.mb⟩⟩
   |false=>exact .inr ⟨_,_,10,rfl,rfl,rfl,rfl⟩
  ·simp only [hk,beq_self_eq_true,cond_true,cond_false,show ((3:Int)==1)=false from rfl,show ((3:Int)==2)=false from rfl,im,kV,pG,pM,qc3 d.jh x.iG (by omega) I.log hp ht.1,qfr d.jh x.iG (by omega) I.log hp ht.1,iF]
   cases decide (d.iG.iB<x.iG.iB) with
   |true=>exact .inl ⟨_,rfl,rfl,⟨Tb _ _ _ I.log hp ht,ok,hm⟩⟩
   |false=>exact .inl ⟨d,rfl,rfl,I⟩
theorem H7 (l:List bi) (hl:l.length<=140737488351232) (ok: ∀r∈l,r.iG.ok): ∀(k i:Nat) (d:iL),i+k=l.length->Inv d->
  ∃r1 r2,cM (lr l (l.length:Int)) ((i:Int),d)=some r1/\cM (kc l) ((i:Int),d)=some r2/\((∃e,Kq r1= .inl e/\cA r2= .inl e)∨ ∃d',Kq r1= .inr d'/\cA r2= .inr d'/\Inv d')
 |0,i,d,h,I=>by
  have:i=l.length:=by omega
  subst this
  exact⟨.inr (.inr d),.inr (.inr d),lC (by simp only [lr,geN (Nat.le_refl _),cond_false]),lC (by simp only [kc,geN (Nat.le_refl _),cond_false]),.inr ⟨d,rfl,rfl,I⟩⟩
 |k+1,i,d,h,I=>by
  have hx:=List.getElem?_eq_getElem (show i<l.length by omega)
  rcases RK l i _ d hx hl (ok _ (List.mem_of_getElem? hx)) I with⟨d',a,b,I'⟩|⟨r1,r2,e,a,b,c1,c2⟩
  ·obtain⟨r1,r2,q1,q2,q3⟩:=H7 l hl ok k (i+1) d' (by omega) I'
   exact⟨r1,r2,(tH a).trans q1,(tH b).trans q2,q3⟩
  ·exact⟨r1,r2,lC a,lC b,.inl ⟨e,c1,c2⟩⟩
theorem Ry (d:iL) (h:d.iG.ok) (hl:d.jh.af.length<=140737488351232):sN d d=some true:=by
 simp only [sN,rH,beq_self_eq_true,cond_true,Jm _ h,JQ _ hl,iF]
theorem Hj (n:Int) (h:okI n):(⟨⟨0,[]⟩,n,[]⟩:ad).ok:=by
 have z: ∀m,okN m 0:=fun m=>by unfold okN;omega
 have z0:okI 0:=by unfold okI;omega
 exact⟨⟨z0,⟨z _,fun y hy=>by cases hy⟩⟩,h,⟨z _,fun y hy=>by cases hy⟩⟩
theorem Fy (l:List bi) (ok:okN 216 l.length/\ ∀y∈l,y.ok):wH l=some true:=by
 obtain⟨h0,h1⟩:=ok
 have hl:=h0
 unfold okN at hl
 have hs: ∀r∈l,r.iG.ok:=fun r hr=>(h1 r hr).2.2.2.2.2
 have hlen:l.length<=140737488351232:=by omega
 have zi:okI 0:=by unfold okI;omega
 have hI:Inv sL:=⟨rfl,⟨zi,zi,Hj 1 (by unfold okI;omega)⟩,rfl⟩
 obtain⟨r1,r2,q1,q2,q3⟩:=H7 l hlen hs l.length 0 sL (by omega) hI
 have q1':cM (lr l (l.length:Int)) (0,sL)=some r1:=q1
 have q2':cM (kc l) (0,sd)=some r2:=q2
 unfold wH
 rw [Rh l (by omega) h1,iF]
 unfold vY rL
 rw [q1',q2',iF,iF]
 have z0:(⟨0,0,⟨⟨0,[]⟩,0,[]⟩⟩:i4).ok:=⟨zi,zi,Hj 0 zi⟩
 have hsr:=JI l hs hlen
 have fin: ∀(d:iL) (e:Int),d.iG.ok->d.jh.af.length<=140737488351232->mr l l e e d d=some true:=fun d e hd hq=>by
  simp only [mr,beq_self_eq_true,cond_true,Ry d hd hq,hsr,iF]
 have finz:=fun e=>fin ⟨0,0,⟨0,0,⟨⟨0,[]⟩,0,[]⟩⟩,⟨0,0,[]⟩⟩ e z0 (by simp)
 rcases q3 with⟨e,c1,c2⟩|⟨d,c1,c2,I⟩
 ·rcases r1 with⟨x1,x2,x3,x4⟩|⟨x1,x2,x3⟩|x1
  ·simp only [Kq,Sum.inl.injEq] at c1;subst c1
   rcases r2 with⟨y1,y2,y3⟩|⟨y1,y2,y3,y4,y5⟩|y1
   ·simp only [cA,Sum.inl.injEq] at c2;subst c2
    simp only [iF,finz]
   ·simp only [cA,Sum.inl.injEq] at c2;subst c2
    simp only [iF,finz]
   ·simp [cA] at c2
  ·simp only [Kq,Sum.inl.injEq] at c1;subst c1
   rcases r2 with⟨y1,y2,y3⟩|⟨y1,y2,y3,y4,y5⟩|y1
   ·simp only [cA,Sum.inl.injEq] at c2;subst c2
    simp only [iF,finz]
   ·simp only [cA,Sum.inl.injEq] at c2;subst c2
    simp only [iF,finz]
   ·simp [cA] at c2
  ·simp [Kq] at c1
 ·rcases r1 with⟨x1,x2,x3,x4⟩|⟨x1,x2,x3⟩|x1
  ·simp [Kq] at c1
  ·simp [Kq] at c1
  ·simp only [Kq,Sum.inr.injEq] at c1;subst c1
   rcases r2 with⟨y1,y2,y3⟩|⟨y1,y2,y3,y4,y5⟩|y1
   ·simp [cA] at c2
   ·simp [cA] at c2
   ·simp only [cA,Sum.inr.injEq] at c2;subst c2
    have hn:=(zp I.log).len
    have hM:=Vg I.mb
    have hc:clC y1.iG.iy=some 0:=by rw [NQ _ I.so.2.2,I.mb];rfl
    have hf:dh y1.jh.af.length 104=true:=ky (by omega)
    simp only [iF,yp,vG,Sw hM hc,QN hM hc,mN,hf,cond_true,Qv _ I.so.2.2,QQ _ (show y1.jh.af.length<=1000 by omega)]
    have hfin:=fin y1 0 I.so (by omega)
    show oB (mr l l 0 0 y1 y1) _=_
    rw [hfin,iF]
end Go.Proofs.YtgcglmoogaldbaaGreat
