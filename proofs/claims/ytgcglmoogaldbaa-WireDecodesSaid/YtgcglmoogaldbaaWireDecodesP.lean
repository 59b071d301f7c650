/- The law WireDecodes on the plain functions: it answers true at every argument of the sizes that the form allows. -/
import Derived.Test.YtgcglmoogaldbaaWTy
import Derived.Test.YtgcglmoogaldbaaWireDecodesD
set_option linter.unusedSimpArgs false
set_option linter.unusedVariables false
set_option linter.constructorNameAsVariable false
set_option linter.unnecessarySimpa false
namespace Go.Proofs.Ytgcglmoogaldbaa
open Go Go.Mx Go.Proofs
theorem u8wrap (n:Int):IntKind.u8.wrap n=n % 256:=by
 simp [IntKind.wrap,IntKind.min,IntKind.max,IntKind.bits,IntKind.signed]
theorem u64wrap {n:Int} (h1:0≤n) (h2:n<18446744073709551616):IntKind.u64.wrap n=n:=by
 simp [IntKind.wrap,IntKind.min,IntKind.max,IntKind.bits,IntKind.signed];omega
theorem fits_of {n b:Nat} (h:(n:Int)*b≤140737488355328):dh n b=true:=fJ.2 h
theorem idx_get {α:Type} {l:List α} {i:Nat} {x:α} (h:l[i]? =some x):idx l (i:Int)=some x:=by
 unfold idx
 rw [if_pos (by omega)]
 simpa using h
theorem idx_app {α:Type} (l:List α) (x:α) (m:List α):idx (l++x::m) (l.length:Int)=some x:=idx_get (by simp)
theorem seqB_self (a:ByteArray):cY a a=true:=by unfold cY;exact beq_self_eq_true _
theorem allB_app (l m:List Int):allB (l++m)=(allB l&&allB m):=by simp [allB]
theorem allB_byL (s:ByteArray):allB (byL s)=true:=by
 simp only [oB_s,allB,byL,List.all_map,List.all_eq_true,Function.comp,decide_eq_true_eq]
 intro b _
 exact⟨Int.natCast_nonneg _,by have:=b.toNat_lt;omega⟩
theorem byL_len (s:ByteArray):(byL s).length=s.size:=by
 simp only [oB_s,byL,List.length_map];rfl
def num8 (n:Int):List Int:=[(n+4611686018427387904) / 72057594037927936 % 256,(n+4611686018427387904) / 281474976710656 % 256,(n+4611686018427387904) / 1099511627776 % 256,(n+4611686018427387904) / 4294967296 % 256,(n+4611686018427387904) / 16777216 % 256,(n+4611686018427387904) / 65536 % 256,(n+4611686018427387904) / 256 % 256,(n+4611686018427387904) % 256]
theorem num8_len (n:Int):(num8 n).length=8:=rfl
theorem allB_num8 (n:Int):allB (num8 n)=true:=by
 simp only [oB_s,allB,num8,List.all_cons,List.all_nil,Bool.and_true,Bool.and_eq_true,decide_eq_true_eq]
 omega
def in62 (n:Int):Prop:=-4611686018427387904≤n∧n<4611686018427387904
def txt8 (s:ByteArray):List Int:=(s.size:Int) % 256::byL s
theorem allB_txt8 (s:ByteArray):allB (txt8 s)=true:=by
 have:=allB_byL s
 simp only [oB_s,allB,txt8,List.all_cons,Bool.and_eq_true,decide_eq_true_eq] at*
 exact⟨by omega,this⟩
theorem txt8_len (s:ByteArray):(txt8 s).length=s.size+1:=by simp [txt8,byL_len]
def run {α σ R:Type} (f:Nat→α→σ→σ⊕R) (e:σ→R):Nat→List α→σ→R
 |_,[],s=>e s
 |i,x::l,s=>match f i x s with
  | .inl s'=>run f e (i+1) l s'
  | .inr r=>r
theorem loop_list {α σ τ R:Type} {step:τ→Option (τ⊕R)} (l:List α) (mk:Int→σ→τ) (I:Nat→σ→Prop) (f:Nat→α→σ→σ⊕R) (e:σ→R)
  (hs: ∀i x s,l[i]? =some x→I i s→step (mk i s)=some (match f i x s with| .inl s'=>.inl (mk ((i+1:Nat):Int) s')| .inr r=>.inr r))
  (hi: ∀i x s s',l[i]? =some x→I i s→f i x s= .inl s'→I (i+1) s')
  (he: ∀(i:Nat) s,l.length≤i→I i s→step (mk i s)=some (.inr (e s))) (k:Nat) (s:σ) (h0:I k s):cM step (mk k s)=some (run f e k (l.drop k) s):=by
 generalize hm:l.drop k=m
 induction m generalizing k s with
 |nil=>
  have:l.length≤k:=by
   have:=congrArg List.length hm
   simp only [oB_s,List.length_drop,List.length_nil] at this
   omega
  exact loopM_end (he k s this h0)
 |cons x m ih=>
  have hx:l[k]? =some x:=by
   have:=List.getElem?_drop (xs:=l) (i:=k) (j:=0)
   rw [hm] at this
   simpa using this.symm
  have hm':l.drop (k+1)=m:=by
   have:l.drop (k+1)=(l.drop k).drop 1:=by rw [List.drop_drop]
   rw [this,hm];rfl
  have h1:=hs k x s hx h0
  simp only [oB_s,run]
  cases hf:f k x s with
  |inl s'=>
   rw [hf] at h1
   rw [loopM_on h1]
   exact ih (k+1) s' (hi k x s s' hx h0 hf) hm'
  |inr r=>
   rw [hf] at h1
   exact loopM_end h1
def allI {α:Type} (p:Nat→α→Bool):Nat→List α→Bool
 |_,[]=>true
 |k,x::l=>p k x&&allI p (k+1) l
theorem allI_and {α:Type} (p q:Nat→α→Bool) (k:Nat) (l:List α):allI (fun i x=>p i x&&q i x) k l=(allI p k l&&allI q k l):=by
 induction l generalizing k with
 |nil=>rfl
 |cons x l ih=>
  simp only [oB_s,allI,ih]
  cases p k x<;>cases q k x<;>simp
theorem allI_congr {α:Type} {p q:Nat→α→Bool} (k:Nat) (l m:List α) (hm:l=m.drop k) (h: ∀i x,m[i]? =some x→k≤i→p i x=q i x):allI p k l=allI q k l:=by
 induction l generalizing k with
 |nil=>rfl
 |cons x l ih=>
  have hx:m[k]? =some x:=by
   have:=List.getElem?_drop (xs:=m) (i:=k) (j:=0)
   rw [←hm] at this
   simpa using this.symm
  have hm':l=m.drop (k+1):=by
   have:m.drop (k+1)=(m.drop k).drop 1:=by rw [List.drop_drop]
   rw [this,←hm];rfl
  simp only [oB_s,allI]
  rw [h k x hx (Nat.le_refl _),ih (k+1) hm' (fun i y hy hk=>h i y hy (by omega))]
theorem loop_all {α:Type} {step:Int→Option (Int⊕(Unit⊕Unit))} (l:List α) (k:Nat) (p:Nat→α→Bool)
  (hs: ∀i x,l[i]? =some x→k≤i→step i=some (bif p i x then .inl ((i+1:Nat):Int) else .inr (.inl ())))
  (he: ∀i:Nat,l.length≤i→step i=some (.inr (.inr ()))):cM step (k:Int)=some (bif allI p k (l.drop k) then .inr () else .inl ()):=by
 have h:=loop_list (step:=step) l (fun i (_:Unit)=>i) (fun i _=>k≤i) (fun i x _=>bif p i x then .inl () else .inr (.inl ())) (fun _=>.inr ()) (fun i x s hx hk=>by
  rw [hs i x hx hk];cases p i x<;>rfl) (fun i x s s' _ hk _=>Nat.le_succ_of_le hk) (fun i s hl _=>he i hl) k () (Nat.le_refl _)
 rw [h]
 congr 1
 have: ∀(m:List α) (j:Nat),run (fun i x (_:Unit)=>bif p i x then .inl () else .inr (.inl ())) (fun _=>(.inr ():Unit⊕Unit)) j m ()=bif allI p j m then .inr () else .inl ():=by
  intro m
  induction m with
  |nil=>intro j;rfl
  |cons x m ih=>
   intro j
   simp only [oB_s,run,allI]
   cases p j x with
   |false=>rfl
   |true=>exact ih (j+1)
 exact this _ _
def firstI {α:Type} (p:α→Bool):Nat→List α→Option Nat
 |_,[]=>none
 |k,x::l=>bif p x then some k else firstI p (k+1) l
theorem loop_first {α τ R:Type} {step:τ→Option (τ⊕R)} (mk:Int→τ) (l:List α) (p:α→Bool) (y:Nat→R) (n:R)
  (hs: ∀(i:Nat) x,l[i]? =some x→step (mk i)=some (bif p x then .inr (y i) else .inl (mk ((i+1:Nat):Int))))
  (he:step (mk l.length)=some (.inr n)):cM step (mk 0)=some (match firstI p 0 l with|some i=>y i|none=>n):=by
 have h:=loop_list (step:=step) l (fun i (_:Unit)=>mk i) (fun i _=>i≤l.length) (fun i x _=>bif p x then .inr (y i) else .inl ()) (fun _=>n) (fun i x s hx hk=>by
  rw [hs i x hx];cases p x<;>rfl) (fun i x s s' hx hk _=>by have:=(List.getElem?_eq_some_iff.1 hx).1;omega) (fun i s hl hk=>by rw [Nat.le_antisymm hk hl];exact he) 0 () (Nat.zero_le _)
 refine h.trans ?_
 congr 1
 have: ∀(m:List α) (j:Nat),run (fun i x (_:Unit)=>bif p x then .inr (y i) else .inl ()) (fun _=>n) j m ()=match firstI p j m with|some i=>y i|none=>n:=by
  intro m
  induction m with
  |nil=>intro j;rfl
  |cons x m ih=>
   intro j
   simp only [oB_s,run,firstI]
   cases p x with
   |true=>rfl
   |false=>exact ih (j+1)
 exact this _ _
theorem first_any {α:Type} (p:α→Bool) (k:Nat) (l:List α):(firstI p k l).isSome=l.any p:=by
 induction l generalizing k with
 |nil=>rfl
 |cons x l ih=>
  simp only [oB_s,firstI,List.any_cons]
  cases p x with
  |true=>rfl
  |false=>simpa using ih (k+1)
theorem allI_any {α:Type} (p:α→Bool) (k:Nat) (l:List α):allI (fun _ x=>!(p x)) k l= !(l.any p):=by
 induction l generalizing k with
 |nil=>rfl
 |cons x l ih=>
  simp only [oB_s,allI,List.any_cons,Bool.not_or,ih]
theorem loop_copy {α τ R:Type} {step:τ→Option (τ⊕R)} (mk:Int→List α→τ) (l:List α) (e:List α→R)
  (hs: ∀(i:Nat) x,l[i]? =some x→step (mk i (l.take i))=some (.inl (mk ((i+1:Nat):Int) (l.take i++ [x]))))
  (he:step (mk l.length l)=some (.inr (e l))):cM step (mk 0 [])=some (e l):=by
 have h:=loop_list (step:=step) l mk (fun i s=>i≤l.length∧s=l.take i) (fun i x s=>.inl (s++ [x])) e (fun i x s hx hk=>by
  rw [hk.2,hs i x hx]) (fun i x s s' hx hk hf=>by
   have:=(List.getElem?_eq_some_iff.1 hx)
   obtain⟨h1,h2⟩:=this
   refine⟨by omega,?_⟩
   simp only [oB_s,Sum.inl.injEq] at hf
   rw [←hf,hk.2,←h2,List.take_append_getElem h1]) (fun i s hl hk=>by
   have hil:i=l.length:=by omega
   rw [hk.2,hil,List.take_length];exact he) 0 [] ⟨Nat.zero_le _,by simp⟩
 refine h.trans ?_
 congr 1
 have: ∀(m s:List α) (j:Nat),run (fun i x (s:List α)=>(.inl (s++ [x]):List α⊕R)) e j m s=e (s++m):=by
  intro m
  induction m with
  |nil=>intro s j;simp [run]
  |cons x m ih=>
   intro s j
   simp only [oB_s,run]
   rw [ih];simp
 rw [this];simp
theorem wrapN {n:Nat} (h:n≤140737488355328):IntKind.i64.wrap ((n:Int)+1)=((n+1:Nat):Int):=by
 rw [wrap_id]<;>omega
theorem wrapN1 {n:Nat} (h:n≤140737488355328):IntKind.i64.wrap ((n:Int)-1)=(n:Int)-1:=by
 rw [wrap_id]<;>omega
theorem get_lt {α:Type} {l:List α} {i:Nat} {x:α} (h:l[i]? =some x):i<l.length:=(List.getElem?_eq_some_iff.1 h).1
theorem ltN {i n:Nat} (h:i<n):decide ((i:Int)<(n:Int))=true:=decide_eq_true (by omega)
theorem geN {i n:Nat} (h:n≤i):decide ((i:Int)<(n:Int))=false:=decide_eq_false (by omega)
theorem bytesLess_cmp: ∀a b:List UInt8,decide (0≤Lib.compareBytes a b)= !Op.bytesLess a b
 | [],[]=>by simp [Lib.compareBytes,Op.bytesLess]
 | [],_::_=>by simp [Lib.compareBytes,Op.bytesLess]
 |_::_,[]=>by simp [Lib.compareBytes,Op.bytesLess]
 |a::x,b::y=>by
  simp only [oB_s,Lib.compareBytes,Op.bytesLess]
  by_cases h1:a<b
  ·simp [h1]
  ·by_cases h2:b<a
   ·have h3:(a==b)=false:=by
     rw [beq_eq_false_iff_ne];rintro rfl;exact h1 h2
    simp [h1,h2,h3]
   ·have h3:a=b:=by
     have e1: ¬a.toNat<b.toNat:=h1
     have e2: ¬b.toNat<a.toNat:=h2
     exact UInt8.toNat_inj.1 (by omega)
    subst h3
    simp only [oB_s,h1,if_false,beq_self_eq_true,decide_false,Bool.true_and,Bool.false_or]
    exact bytesLess_cmp x y
theorem cmp_slt (a b:ByteArray):decide (0≤strings_Compare_v a b)= !sltB a b:=by
 have:strings_Compare_v a b=Lib.compareBytes a.toList b.toList:=by
  rw [ByteArray.toList_eq,ByteArray.toList_eq];rfl
 rw [this];exact bytesLess_cmp _ _
theorem field_slt (a b:GPair):decide (0≤value_byField_v a b)= !sltB a.fField b.fField:=cmp_slt _ _
def prevB {α:Type} (lt:α→α→Bool) (l:List α) (i:Nat) (x:α):Bool:=match l[i-1]? with
 |some y=>lt y x
 |none=>true
theorem prevB_eq {α:Type} {lt:α→α→Bool} {l:List α} {i:Nat} {x y:α} (h:l[i-1]? =some y):prevB lt l i x=lt y x:=by
 unfold prevB;rw [h]
def risingP {α:Type} (lt:α→α→Bool) (l:List α):Bool:=allI (prevB lt l) 1 (l.drop 1)
theorem bool_out (b:Bool):(match (some (bif b then .inr () else .inl ()):Option (Unit⊕Unit)) with|none=>none|some (.inl _)=>some false|some (.inr _)=>some true)=some b:=by cases b<;>rfl
theorem prevI {α:Type} {l:List α} {i:Nat} {x:α} (hx:l[i]? =some x) (hi:1≤i) (hl:l.length≤140737488351232): ∃y,l[i-1]? =some y∧idx l (IntKind.i64.wrap ((i:Int)-1))=some y:=by
 have h:=get_lt hx
 refine⟨l[i-1],List.getElem?_eq_getElem _,?_⟩
 rw [wrapN1 (by omega)]
 have:((i:Int)-1)=((i-1:Nat):Int):=by omega
 rw [this]
 exact idx_get (List.getElem?_eq_getElem _)
theorem pairs_rise (l:List GPair) (hl:l.length≤140737488351232):value_rising_Pair_value_byField l=some (risingP (fun a b=>sltB a.fField b.fField) l):=by
 unfold value_rising_Pair_value_byField
 rw [show (1:Int)=((1:Nat):Int) from rfl,loop_all (step:=st_value_rising_Pair_value_byField_0 l) l 1 (prevB (fun a b=>sltB a.fField b.fField) l) (fun i x hx hi=>by
  obtain⟨y,h1,h2⟩:=prevI hx hi hl
  simp only [oB_s,st_value_rising_Pair_value_byField_0,ltN (get_lt hx),cond_true,h2,idx_get hx,prevB_eq h1,field_slt,wrapN (Nat.le_trans (Nat.le_of_lt (get_lt hx)) (Nat.le_trans hl (by decide)))]
  cases sltB y.fField x.fField<;>rfl) (fun i hi=>by simp only [oB_s,st_value_rising_Pair_value_byField_0,geN hi,cond_false])]
 show _=some (allI _ 1 (l.drop 1))
 generalize allI _ 1 (l.drop 1)=b
 cases b<;>rfl
theorem items_rise (l:List ByteArray) (hl:l.length≤140737488351232):value_rising_string_strings_Compare l=some (risingP sltB l):=by
 unfold value_rising_string_strings_Compare
 rw [show (1:Int)=((1:Nat):Int) from rfl,loop_all (step:=st_value_rising_string_strings_Compare_0 l) l 1 (prevB sltB l) (fun i x hx hi=>by
  obtain⟨y,h1,h2⟩:=prevI hx hi hl
  simp only [oB_s,st_value_rising_string_strings_Compare_0,ltN (get_lt hx),cond_true,h2,idx_get hx,prevB_eq h1,cmp_slt,wrapN (Nat.le_trans (Nat.le_of_lt (get_lt hx)) (Nat.le_trans hl (by decide)))]
  cases sltB y x<;>rfl) (fun i hi=>by simp only [oB_s,st_value_rising_string_strings_Compare_0,geN hi,cond_false])]
 show _=some (allI _ 1 (l.drop 1))
 generalize allI _ 1 (l.drop 1)=b
 cases b<;>rfl
theorem or2 (a b:Int):cmp_Or_int [a,b]=some (bif a==0 then b else a):=by
 unfold cmp_Or_int
 have h:=loop_first (step:=st_cmp_Or_int_0 [a,b] ([a,b].length:Int)) (fun i=>i) [a,b] (fun x=>!(x==0)) (fun i=>.inl ([a,b].getD i 0)) (.inr ()) (fun i x hx=>by
  have h1:=get_lt hx
  have h2:i≤140737488355328:=by simp only [oB_s,List.length_cons,List.length_nil] at h1;omega
  have h3: [a,b].getD i 0=x:=by simp [List.getD,hx]
  simp only [oB_s,st_cmp_Or_int_0,ltN h1,cond_true,idx_get hx,wrapN h2,h3]
  cases (x==0)<;>rfl) (by simp only [oB_s,st_cmp_Or_int_0,geN (Nat.le_refl _),cond_false])
 rw [h]
 simp only [oB_s,firstI]
 cases ha:(a==0) with
 |false=>rfl
 |true=>
  cases hb:(b==0) with
  |false=>rfl
  |true=>
   have:b=0:=by simpa using hb
   subst this;rfl
theorem score_lt (a b:GScore): ∃n,value_byScore a b=some n∧decide (0≤n)= !rrscoreAhead_v a b:=by
 unfold value_byScore
 rw [or2]
 refine⟨_,rfl,?_⟩
 simp only [oB_s,cmp_Compare_int_v,cmp_isNaN_int_v,cond_false,rrscoreAhead_v]
 by_cases h:a.fN=b.fN
 ·have e:decide (b.fN<b.fN)=false:=decide_eq_false (by omega)
  simp only [oB_s,h,e,cond_false,beq_self_eq_true,cond_true]
  exact cmp_slt _ _
 ·have e:(a.fN==b.fN)=false:=by simpa using h
  by_cases h1:a.fN<b.fN
  ·simp [h1,e]
  ·have h2:b.fN<a.fN:=by omega
   simp [h1,h2,e]
theorem scores_rise (l:List GScore) (hl:l.length≤140737488351232):value_rising_Score_value_byScore l=some (risingP rrscoreAhead_v l):=by
 unfold value_rising_Score_value_byScore
 rw [show (1:Int)=((1:Nat):Int) from rfl,loop_all (step:=st_value_rising_Score_value_byScore_0 l) l 1 (prevB rrscoreAhead_v l) (fun i x hx hi=>by
  obtain⟨y,h1,h2⟩:=prevI hx hi hl
  obtain⟨n,h3,h4⟩:=score_lt y x
  simp only [oB_s,st_value_rising_Score_value_byScore_0,ltN (get_lt hx),cond_true,h2,idx_get hx,prevB_eq h1,h3,h4,wrapN (Nat.le_trans (Nat.le_of_lt (get_lt hx)) (Nat.le_trans hl (by decide)))]
  cases rrscoreAhead_v y x<;>rfl) (fun i hi=>by simp only [oB_s,st_value_rising_Score_value_byScore_0,geN hi,cond_false])]
 show _=some (allI _ 1 (l.drop 1))
 generalize allI _ 1 (l.drop 1)=b
 cases b<;>rfl
def placeI (o:Option Nat):Int:=match o with|some i=>i|none=>-1
theorem placeI_pos (o:Option Nat):decide (0≤placeI o)=o.isSome:=by
 cases o with
 |none=>rfl
 |some i=>exact decide_eq_true (Int.natCast_nonneg _)
theorem texts_any (l:List ByteArray) (hl:l.length≤140737488351232):sCSvaC_fn1 l=some (l.any vaC_fn1_v):=by
 unfold sCSvaC_fn1 sISvaC_fn1
 rw [loop_first (step:=st_sISvaC_fn1_0 l (l.length:Int)) (fun i=>i) l vaC_fn1_v (fun i=>.inl (i:Int)) (.inr ()) (fun i x hx=>by
  simp only [oB_s,st_sISvaC_fn1_0,ltN (get_lt hx),cond_true,idx_get hx,wrapN (Nat.le_trans (Nat.le_of_lt (get_lt hx)) (Nat.le_trans hl (by decide)))]
  cases vaC_fn1_v x<;>rfl) (by simp only [oB_s,st_sISvaC_fn1_0,geN (Nat.le_refl _),cond_false])]
 rw [←first_any vaC_fn1_v 0 l]
 cases firstI vaC_fn1_v 0 l<;>simp [oB_s]
theorem pairs_any (l:List GPair) (hl:l.length≤140737488351232):sCPvaC_fn2 l=some (l.any vaC_fn2_v):=by
 unfold sCPvaC_fn2 sIPvaC_fn2
 rw [loop_first (step:=st_sIPvaC_fn2_0 l (l.length:Int)) (fun i=>i) l vaC_fn2_v (fun i=>.inl (i:Int)) (.inr ()) (fun i x hx=>by
  simp only [oB_s,st_sIPvaC_fn2_0,ltN (get_lt hx),cond_true,idx_get hx,wrapN (Nat.le_trans (Nat.le_of_lt (get_lt hx)) (Nat.le_trans hl (by decide)))]
  cases vaC_fn2_v x<;>rfl) (by simp only [oB_s,st_sIPvaC_fn2_0,geN (Nat.le_refl _),cond_false])]
 rw [←first_any vaC_fn2_v 0 l]
 cases firstI vaC_fn2_v 0 l<;>simp [oB_s]
theorem members_any (l:List GScore) (hl:l.length≤140737488351232):sCRvaC_fn3 l=some (l.any vaC_fn3_v):=by
 unfold sCRvaC_fn3 sIRvaC_fn3
 rw [loop_first (step:=st_sIRvaC_fn3_0 l (l.length:Int)) (fun i=>i) l vaC_fn3_v (fun i=>.inl (i:Int)) (.inr ()) (fun i x hx=>by
  simp only [oB_s,st_sIRvaC_fn3_0,ltN (get_lt hx),cond_true,idx_get hx,wrapN (Nat.le_trans (Nat.le_of_lt (get_lt hx)) (Nat.le_trans hl (by decide)))]
  cases vaC_fn3_v x<;>rfl) (by simp only [oB_s,st_sIRvaC_fn3_0,geN (Nat.le_refl _),cond_false])]
 rw [←first_any vaC_fn3_v 0 l]
 cases firstI vaC_fn3_v 0 l<;>simp [oB_s]
theorem counts_any (l:List GScore) (hl:l.length≤140737488351232):sCRvaC_fn4 l=some (l.any vaC_fn4_v):=by
 unfold sCRvaC_fn4 sIRvaC_fn4
 rw [loop_first (step:=st_sIRvaC_fn4_0 l (l.length:Int)) (fun i=>i) l vaC_fn4_v (fun i=>.inl (i:Int)) (.inr ()) (fun i x hx=>by
  simp only [oB_s,st_sIRvaC_fn4_0,ltN (get_lt hx),cond_true,idx_get hx,wrapN (Nat.le_trans (Nat.le_of_lt (get_lt hx)) (Nat.le_trans hl (by decide)))]
  cases vaC_fn4_v x<;>rfl) (by simp only [oB_s,st_sIRvaC_fn4_0,geN (Nat.le_refl _),cond_false])]
 rw [←first_any vaC_fn4_v 0 l]
 cases firstI vaC_fn4_v 0 l<;>simp [oB_s]
theorem rank_p (l:List GScore) (m:ByteArray) (hl:l.length≤140737488351232):value_rank l m=some (placeI (firstI (fun x=>cY x.fMember m) 0 l)):=by
 unfold value_rank sIRvalue_rank_fn1
 rw [loop_first (step:=st_sIRvalue_rank_fn1_0 l (l.length:Int)) (fun i=>(i,m)) l (fun x=>cY x.fMember m) (fun i=>.inl ((i:Int),m)) (.inr m) (fun i x hx=>by
  simp only [oB_s,st_sIRvalue_rank_fn1_0,ltN (get_lt hx),cond_true,idx_get hx,value_rank_fn1,wrapN (Nat.le_trans (Nat.le_of_lt (get_lt hx)) (Nat.le_trans hl (by decide)))]
  cases cY x.fMember m<;>rfl) (by simp only [oB_s,st_sIRvalue_rank_fn1_0,geN (Nat.le_refl _),cond_false])]
 cases firstI (fun x=>cY x.fMember m) 0 l<;>rfl
theorem memberAt_p (l:List GScore) (m:ByteArray) (hl:l.length≤140737488351232):rrmemberAt l m=some (placeI (firstI (fun x=>cY x.fMember m) 0 l)):=by
 unfold rrmemberAt
 rw [loop_first (step:=st_rrmemberAt_0 l m) (fun i=>i) l (fun x=>cY x.fMember m) (fun i=>.inl (i:Int)) (.inr ()) (fun i x hx=>by
  simp only [oB_s,st_rrmemberAt_0,ltN (get_lt hx),cond_true,idx_get hx,wrapN (Nat.le_trans (Nat.le_of_lt (get_lt hx)) (Nat.le_trans hl (by decide)))]
  cases cY x.fMember m<;>rfl) (by simp only [oB_s,st_rrmemberAt_0,geN (Nat.le_refl _),cond_false])]
 cases firstI (fun x=>cY x.fMember m) 0 l<;>rfl
def onceB (l:List GScore) (i:Nat) (x:GScore):Bool:=!(firstI (fun y=>cY y.fMember x.fMember) 0 (dm l 0 i)).isSome
noncomputable def tailF (v:GValue):Int:=
 bif v.fItems.any vaC_fn1_v then 1
 else bif v.fPairs.any vaC_fn2_v then 1
 else bif v.fScores.any vaC_fn3_v then 1
 else bif !value_count_v v.fCount then 2
 else bif v.fScores.any vaC_fn4_v then 2
 else bif (risingP (fun a b=>sltB a.fField b.fField) v.fPairs&&(risingP rrscoreAhead_v v.fScores&&(!(v.fKind==5)||risingP sltB v.fItems)))&&allI (onceB v.fScores) 0 v.fScores then 0 else 10
theorem subL_len {α:Type} (l:List α) (i:Nat) (n:Nat) (h:l.length≤n):(dm l 0 i).length≤n:=by
 unfold dm
 simp only [oB_s,List.length_drop,List.length_take]
 omega
theorem rng_ok {i n:Nat} (h:i≤n):rngB 0 i n=true:=by
 unfold rngB
 simp
 omega
theorem once_p (v:GValue) (b:Bool) (hl:v.fScores.length≤140737488351232):cM (st_vaC_1 v v.fScores (v.fScores.length:Int) v.fKind v.fCount v.fPairs v.fItems) (b,0)=some (b&&allI (onceB v.fScores) 0 v.fScores):=by
 have h:=loop_list (step:=st_vaC_1 v v.fScores (v.fScores.length:Int) v.fKind v.fCount v.fPairs v.fItems) v.fScores (fun i s=>(s,i)) (fun i _=>i≤v.fScores.length) (fun i x s=>.inl (s&&onceB v.fScores i x)) (fun s=>s) (fun i x s hx hi=>by
  have hw:=wrapN (n:=i) (by omega)
  simp only [oB_s,st_vaC_1,ltN (get_lt hx),cond_true,idx_get hx,hw,rng_ok hi,rank_p _ _ (subL_len v.fScores i _ hl),onceB,←placeI_pos]
  cases s with
  |false=>rfl
  |true=>
   simp only [oB_s,cond_true,Bool.true_and]
   congr 4
   generalize placeI _=z
   by_cases hz:z<0
   ·simp [hz,show ¬0≤z by omega]
   ·simp [hz,show 0≤z by omega]) (fun i x s s' hx hi _=>by have:=get_lt hx;omega) (fun i s hl hi=>by
  simp only [oB_s,st_vaC_1,geN hl,cond_false]) 0 b (Nat.zero_le _)
 refine h.trans ?_
 congr 1
 have: ∀(m:List GScore) (j:Nat) (s:Bool),run (fun i x s=>(.inl (s&&onceB v.fScores i x):Bool⊕Bool)) (fun s=>s) j m s=(s&&allI (onceB v.fScores) j m):=by
  intro m
  induction m with
  |nil=>intro j s;simp [run,allI]
  |cons x m ih=>
   intro j s
   simp only [oB_s,run,allI]
   rw [ih,Bool.and_assoc]
 exact this _ _ _
theorem tail_p (v:GValue) (ok:v.ok) (h:value_text_v v.fText=true) (h16:ck_vaC_k16_v v v.fKind v.fCount v.fPairs v.fItems v.fScores=false):vaC_c1 v=some (tailF v):=by
 obtain⟨_,_,_,⟨o1,_⟩,⟨o2,_⟩,⟨o3,_⟩⟩:=ok
 unfold okN at o1 o2 o3
 unfold vaC_c1
 rw [h16,h,texts_any _ (by omega)]
 simp only [oB_s,cond_true,cond_false]
 rw [pairs_any _ (by omega)]
 simp only [oB_s]
 rw [members_any _ (by omega)]
 simp only [oB_s,vaC_c0]
 rw [counts_any _ (by omega)]
 simp only [oB_s,ck_vaC_k26]
 rw [pairs_rise _ (by omega),scores_rise _ (by omega),items_rise _ (by omega)]
 unfold tailF
 cases v.fItems.any vaC_fn1_v with
 |true=>rfl
 |false=>
 cases v.fPairs.any vaC_fn2_v with
 |true=>rfl
 |false=>
 cases v.fScores.any vaC_fn3_v with
 |true=>rfl
 |false=>
 cases value_count_v v.fCount with
 |false=>rfl
 |true=>
 cases v.fScores.any vaC_fn4_v with
 |true=>rfl
 |false=>
 simp only [oB_s,cond_true,cond_false,Bool.not_true]
 generalize risingP (fun a b=>sltB a.fField b.fField) v.fPairs=b1
 generalize risingP rrscoreAhead_v v.fScores=b2
 generalize risingP sltB v.fItems=b3
 generalize (v.fKind==5)=b4
 cases b1<;>cases b2<;>cases b3<;>cases b4<;>simp only [oB_s,cond_true,cond_false,Bool.true_and,Bool.false_and,Bool.not_true,Bool.not_false,Bool.true_or,Bool.false_or,Bool.or_true,Bool.or_false,Bool.and_true,Bool.and_false]<;>(rw [once_p _ _ (by omega)];simp only [oB_s,Bool.true_and,Bool.false_and,cond_false];try (cases allI (onceB v.fScores) 0 v.fScores<;>rfl))
theorem c3_eq (v:GValue):vaC_c3 v=vaC_c1 v:=rfl
theorem c5_eq (v:GValue):vaC_c5 v=vaC_c1 v:=rfl
theorem c7_eq (v:GValue):vaC_c7 v=vaC_c1 v:=rfl
theorem c9_eq (v:GValue):vaC_c9 v=vaC_c1 v:=rfl
def formF (v:GValue):Bool:=(!(v.fKind==1)&& !cY v.fText ByteArray.empty)||(!(v.fKind==2)&& !(v.fCount==0))||(!(v.fKind==3)&&decide (0<v.fPairs.length))||(!(v.fKind==4||v.fKind==5)&&decide (0<v.fItems.length))||(!(v.fKind==6)&&decide (0<v.fScores.length))
noncomputable def sizeF (v:GValue):Bool:=(decide (3≤v.fKind)&&(decide (v.fPairs.length+v.fItems.length+v.fScores.length<1)||decide (20<v.fPairs.length+v.fItems.length+v.fScores.length)))|| !value_text_v v.fText
noncomputable def valF (v:GValue):Int:=
 bif !(decide (1≤v.fKind)&&decide (v.fKind≤6)) then 3
 else bif formF v then 8
 else bif sizeF v then 1
 else tailF v
theorem elements_p (k:Int) (t:ByteArray) (c:Int) (ps:List GPair) (is:List ByteArray) (ss:List GScore) (h1:ps.length≤140737488351232) (h2:is.length≤140737488351232) (h3:ss.length≤140737488351232):value_elements_v ⟨k,t,c,ps,is,ss⟩=((ps.length+is.length+ss.length:Nat):Int):=by
 unfold value_elements_v
 simp only [oB_s]
 rw [wrap_id (n:=(ps.length:Int)+(is.length:Int)) (by omega) (by omega),wrap_id]<;>omega
theorem six {q:Int} (h1: ¬q<1) (h2: ¬6<q):q=1∨q=2∨q=3∨q=4∨q=5∨q=6:=by omega
theorem pos_nat (n:Nat):decide ((0:Int)<(n:Int))=decide (0<n):=by
 by_cases h:0<n
 ·rw [decide_eq_true h,decide_eq_true (by omega)]
 ·rw [decide_eq_false h,decide_eq_false (by omega)]
theorem check_p (v:GValue) (ok:v.ok):vaC v=some (valF v):=by
 have ok':=ok
 obtain⟨q,t,c,ps,is,ss⟩:=v
 obtain⟨_,_,_,⟨o1,_⟩,⟨o2,_⟩,⟨o3,_⟩⟩:=ok
 unfold okN at o1 o2 o3
 simp only [oB_s] at o1 o2 o3
 have l1:ps.length≤140737488351232:=by omega
 have l2:is.length≤140737488351232:=by omega
 have l3:ss.length≤140737488351232:=by omega
 have l0: ∀ {α:Type},([]:List α).length≤140737488351232:=by intro α;simp
 have E:=fun (c:Int) (ps:List GPair) (is:List ByteArray) (ss:List GScore) h1 h2 h3=>elements_p q t c ps is ss h1 h2 h3
 by_cases h1:q<1
 ·simp [vaC,h1,valF,show ¬1≤q by omega]
 by_cases h2:6<q
 ·simp [vaC,h1,h2,valF,show 1≤q by omega,show ¬q≤6 by omega]
 have hT: ∀v:GValue,v.ok→v=⟨q,t,c,ps,is,ss⟩→vaC_c1 v=some (bif sizeF v then 1 else tailF v):=by
  rintro v okv rfl
  cases hs:sizeF ⟨q,t,c,ps,is,ss⟩ with
  |false=>
   unfold sizeF at hs
   simp only [oB_s,Bool.or_eq_false_iff,Bool.not_eq_false'] at hs
   refine tail_p _ okv hs.2 ?_
   unfold ck_vaC_k16_v
   rw [elements_p _ _ _ _ _ _ l1 l2 l3]
   have h3:=hs.1
   cases hk:decide (3≤q) with
   |false=>simp only [oB_s,hk,cond_false]
   |true=>
    rw [hk,Bool.true_and,Bool.or_eq_false_iff,decide_eq_false_iff_not,decide_eq_false_iff_not] at h3
    simp only [oB_s,hk,cond_true]
    rw [decide_eq_false (by omega),cond_false,decide_eq_false (by omega)]
  |true=>
   unfold sizeF at hs
   unfold vaC_c1 ck_vaC_k16_v
   rw [elements_p _ _ _ _ _ _ l1 l2 l3]
   simp only [oB_s] at hs⊢
   cases hx:value_text_v t with
   |false=>
    simp only [oB_s,cond_true,cond_false]
    cases (bif decide (3≤q) then bif decide (((ps.length+is.length+ss.length:Nat):Int)<1) then true else decide ((20:Int)<((ps.length+is.length+ss.length:Nat):Int)) else false)<;>rfl
   |true=>
    rw [hx,Bool.not_true,Bool.or_false,Bool.and_eq_true,Bool.or_eq_true,decide_eq_true_eq,decide_eq_true_eq,decide_eq_true_eq] at hs
    rw [decide_eq_true hs.1]
    simp only [oB_s,cond_true]
    rcases hs.2 with h|h
    ·rw [decide_eq_true (by omega)];rfl
    ·rw [decide_eq_false (by omega),cond_false,decide_eq_true (by omega)];rfl
 have hT':=hT _ ok' rfl
 have hr:(decide (1≤q)&&decide (q≤6))=true:=by
  rw [Bool.and_eq_true,decide_eq_true_eq,decide_eq_true_eq];omega
 unfold valF
 simp only [oB_s,hr,Bool.not_true,cond_false]
 generalize hz:(bif sizeF ⟨q,t,c,ps,is,ss⟩ then 1 else tailF ⟨q,t,c,ps,is,ss⟩)=z at hT'⊢
 unfold vaC vaC_c11 vaC_c10
 simp only [oB_s,c3_eq,c5_eq,c7_eq,c9_eq,hT',decide_eq_false h1,decide_eq_false h2,cond_false,formF]
 rw [elements_p _ _ _ _ _ _ l1 l2 l3,elements_p _ _ _ _ _ _ l1 l2 l3,elements_p _ _ _ _ _ _ l0 l2 l3,elements_p _ _ _ _ _ _ l1 l2 l0,elements_p _ _ _ _ _ _ l1 l0 l3]
 simp only [oB_s,pos_nat,List.length_nil,Nat.zero_add,Nat.add_zero]
 have add0: ∀a b:Nat,decide (0<a+b)=(decide (0<a)||decide (0<b)):=by
  intro a b
  by_cases ha:0<a
  ·rw [decide_eq_true ha,decide_eq_true (by omega),Bool.true_or]
  ·have:a=0:=by omega
   subst this;simp
 simp only [oB_s,add0]
 generalize decide (0<ps.length)=d1
 generalize decide (0<is.length)=d2
 generalize decide (0<ss.length)=d3
 generalize cY t ByteArray.empty=d4
 generalize (c==0)=d5
 clear hT hT' hz hr E ok' o1 o2 o3
 rcases six h1 h2 with rfl|rfl|rfl|rfl|rfl|rfl<;>cases d1<;>cases d2<;>cases d3<;>cases d4<;>cases d5<;>rfl
theorem any_all {α:Type} (p q:α→Bool) (h: ∀x,p x= !q x) (l:List α):allI (fun _ x=>q x) 0 l= !l.any p:=by
 have:(fun (_:Nat) (x:α)=>q x)=fun _ x=>!p x:=by
  funext _ x;rw [h x,Bool.not_not]
 rw [this,allI_any]
theorem onceB_zero (l:List GScore) (x:GScore):onceB l 0 x=true:=by
 unfold onceB dm
 simp [firstI]
theorem once_tail (l:List GScore):allI (onceB l) 0 l=allI (onceB l) 1 (l.drop 1):=by
 have: ∀m:List GScore,allI (onceB l) 0 m=allI (onceB l) 1 (m.drop 1):=by
  intro m
  cases m with
  |nil=>rfl
  |cons x m=>simp only [oB_s,allI,onceB_zero,Bool.true_and];rfl
 exact this l
theorem none_out (a b:Option Int) (x:Bool):(match (some (bif x then .inr () else .inl ()):Option (Unit⊕Unit)) with|none=>none|some (.inl _)=>a|some (.inr _)=>b)=bif x then b else a:=by cases x<;>rfl
theorem r_c6 (v:GValue):rrValueFault_c6 v=rrValueFault_c0 v:=rfl
theorem r_c11 (v:GValue):rrValueFault_c11 v=rrValueFault_c5 v:=rfl
noncomputable def tailG (v:GValue):Int:=
 bif v.fPairs.any vaC_fn2_v then 1
 else bif v.fScores.any vaC_fn3_v then 1
 else bif !value_count_v v.fCount then 2
 else bif v.fScores.any vaC_fn4_v then 2
 else bif (risingP (fun a b=>sltB a.fField b.fField) v.fPairs&&(risingP rrscoreAhead_v v.fScores&&(!(v.fKind==5)||risingP sltB v.fItems)))&&allI (onceB v.fScores) 0 v.fScores then 0 else 10
theorem tailFG (v:GValue):tailF v=bif v.fItems.any vaC_fn1_v then 1 else tailG v:=rfl
theorem r_loops (v:GValue) (ok:v.ok):cM (st_rrValueFault_0 v) 0=some (bif v.fItems.any vaC_fn1_v then .inl () else .inr ())∧rrValueFault_c5 v=some (tailG v):=by
 obtain⟨_,_,_,⟨o1,_⟩,⟨o2,_⟩,⟨o3,_⟩⟩:=ok
 unfold okN at o1 o2 o3
 have e0:=loop_all (step:=st_rrValueFault_0 v) v.fItems 0 (fun _ x=>rrtextMay_v x) (fun i x hx hi=>by
  simp only [oB_s,st_rrValueFault_0,ltN (get_lt hx),cond_true,idx_get hx,wrapN (show i≤_ by have:=get_lt hx;omega)]
  cases rrtextMay_v x<;>rfl) (fun i hi=>by simp only [oB_s,st_rrValueFault_0,geN hi,cond_false])
 have e2:=loop_all (step:=st_rrValueFault_2 v) v.fPairs 0 (fun _ x=>bif rrfieldMay_v x.fField then rrtextMay_v x.fText else false) (fun i x hx hi=>by
  simp only [oB_s,st_rrValueFault_2,ltN (get_lt hx),cond_true,idx_get hx,wrapN (show i≤_ by have:=get_lt hx;omega)]
  cases rrfieldMay_v x.fField<;>cases rrtextMay_v x.fText<;>rfl) (fun i hi=>by simp only [oB_s,st_rrValueFault_2,geN hi,cond_false])
 have e4:=loop_all (step:=st_rrValueFault_4 v) v.fScores 0 (fun _ x=>rrtextMay_v x.fMember) (fun i x hx hi=>by
  simp only [oB_s,st_rrValueFault_4,ltN (get_lt hx),cond_true,idx_get hx,wrapN (show i≤_ by have:=get_lt hx;omega)]
  cases rrtextMay_v x.fMember<;>rfl) (fun i hi=>by simp only [oB_s,st_rrValueFault_4,geN hi,cond_false])
 have e6:=loop_all (step:=st_rrValueFault_6 v) v.fScores 0 (fun _ x=>rrcountMay_v x.fN) (fun i x hx hi=>by
  simp only [oB_s,st_rrValueFault_6,ltN (get_lt hx),cond_true,idx_get hx,wrapN (show i≤_ by have:=get_lt hx;omega)]
  cases rrcountMay_v x.fN<;>rfl) (fun i hi=>by simp only [oB_s,st_rrValueFault_6,geN hi,cond_false])
 have e8:=loop_all (step:=st_rrValueFault_8 v) v.fPairs 1 (prevB (fun a b=>sltB a.fField b.fField) v.fPairs) (fun i x hx hi=>by
  obtain⟨y,h1,h2⟩:=prevI hx hi (by omega)
  simp only [oB_s,st_rrValueFault_8,ltN (get_lt hx),cond_true,h2,idx_get hx,prevB_eq h1,wrapN (show i≤_ by have:=get_lt hx;omega)]
  cases sltB y.fField x.fField<;>rfl) (fun i hi=>by simp only [oB_s,st_rrValueFault_8,geN hi,cond_false])
 have e10:(v.fKind==5)=true→cM (st_rrValueFault_10 v) 1=some (bif risingP sltB v.fItems then .inr () else .inl ()):=fun h5=>loop_all (step:=st_rrValueFault_10 v) v.fItems 1 (prevB sltB v.fItems) (fun i x hx hi=>by
  obtain⟨y,h1,h2⟩:=prevI hx hi (by omega)
  simp only [oB_s,st_rrValueFault_10,ltN (get_lt hx),cond_true,h5,h2,idx_get hx,prevB_eq h1,wrapN (show i≤_ by have:=get_lt hx;omega)]
  cases sltB y x<;>rfl) (fun i hi=>by simp only [oB_s,st_rrValueFault_10,geN hi,cond_false])
 have e10':(v.fKind==5)=false→cM (st_rrValueFault_10 v) 1=some (.inr ()):=fun h5=>loopM_end (by
  simp only [oB_s,st_rrValueFault_10,h5,cond_false]
  cases decide ((1:Int)<(v.fItems.length:Int))<;>rfl)
 have e12:=loop_all (step:=st_rrValueFault_12 v) v.fScores 1 (fun i x=>prevB rrscoreAhead_v v.fScores i x&&onceB v.fScores i x) (fun i x hx hi=>by
  obtain⟨y,h1,h2⟩:=prevI hx hi (by omega)
  have hl:=get_lt hx
  simp only [oB_s,st_rrValueFault_12,ltN (get_lt hx),cond_true,h2,idx_get hx,prevB_eq h1,rng_ok (Nat.le_of_lt hl),memberAt_p _ _ (subL_len v.fScores i 140737488351232 (by omega)),onceB,←placeI_pos,wrapN (show i≤_ by omega)]
  cases rrscoreAhead_v y x with
  |false=>rfl
  |true=>
   simp only [oB_s,cond_true,Bool.true_and]
   cases decide (0≤placeI (firstI (fun y=>cY y.fMember x.fMember) 0 (dm v.fScores 0 i)))<;>rfl) (fun i hi=>by simp only [oB_s,st_rrValueFault_12,geN hi,cond_false])
 rw [any_all vaC_fn1_v (fun x=>rrtextMay_v x) (fun x=>rfl)] at e0
 rw [any_all vaC_fn2_v (fun x=>bif rrfieldMay_v x.fField then rrtextMay_v x.fText else false) (fun x=>by
  show (bif value_field_v x.fField then !value_text_v x.fText else true)= !(bif value_field_v x.fField then value_text_v x.fText else false)
  cases value_field_v x.fField<;>rfl)] at e2
 rw [any_all vaC_fn3_v (fun x=>rrtextMay_v x.fMember) (fun x=>rfl)] at e4
 rw [any_all vaC_fn4_v (fun x=>rrcountMay_v x.fN) (fun x=>rfl)] at e6
 rw [allI_and] at e12
 simp only [oB_s,List.drop_zero] at e0 e2 e4 e6
 have k1:((1:Nat):Int)=1:=rfl
 have k0:((0:Nat):Int)=0:=rfl
 rw [k0] at e0 e2 e4 e6
 rw [k1] at e8 e12
 unfold rrValueFault_c5 rrValueFault_c4 rrValueFault_c3 rrValueFault_c2 rrValueFault_c1 rrValueFault_c0
 refine⟨by rw [e0];cases v.fItems.any vaC_fn1_v<;>rfl,?_⟩
 rw [e2,e4,e6,e8,e12]
 unfold tailG
 rw [once_tail]
 generalize hb1:allI (prevB (fun a b=>sltB a.fField b.fField) v.fPairs) 1 (v.fPairs.drop 1)=b1
 generalize hb2:allI (prevB rrscoreAhead_v v.fScores) 1 (v.fScores.drop 1)=b2
 have hb1':risingP (fun a b=>sltB a.fField b.fField) v.fPairs=b1:=hb1
 have hb2':risingP rrscoreAhead_v v.fScores=b2:=hb2
 rw [hb1',hb2']
 generalize allI (onceB v.fScores) 1 (v.fScores.drop 1)=b4
 have hc:rrcountMay_v v.fCount=value_count_v v.fCount:=rfl
 rw [hc]
 generalize v.fPairs.any vaC_fn2_v=a2
 generalize v.fScores.any vaC_fn3_v=a3
 generalize value_count_v v.fCount=a4
 generalize v.fScores.any vaC_fn4_v=a5
 cases h5:(v.fKind==5) with
 |true=>
  rw [e10 h5]
  generalize risingP sltB v.fItems=b3
  cases a2<;>try rfl
  cases a3<;>try rfl
  cases a4<;>try rfl
  cases a5<;>try rfl
  cases b1<;>cases b2<;>cases b3<;>cases b4<;>rfl
 |false=>
  rw [e10' h5]
  cases a2<;>try rfl
  cases a3<;>try rfl
  cases a4<;>try rfl
  cases a5<;>try rfl
  cases b1<;>cases b2<;>cases b4<;>rfl
theorem fault_p (v:GValue) (ok:v.ok):rrValueFault v=some (valF v):=by
 obtain⟨hl,hg⟩:=r_loops v ok
 obtain⟨_,_,_,⟨o1,_⟩,⟨o2,_⟩,⟨o3,_⟩⟩:=ok
 unfold okN at o1 o2 o3
 have hk6:ck_rrValueFault_k6_v v=sizeF v:=by
  have hs:rrsizeOf_v v=((v.fPairs.length+v.fItems.length+v.fScores.length:Nat):Int):=elements_p v.fKind v.fText v.fCount _ _ _ (by omega) (by omega) (by omega)
  unfold ck_rrValueFault_k6_v sizeF
  rw [hs]
  have hx:rrtextMay_v v.fText=value_text_v v.fText:=rfl
  rw [hx]
  cases decide (3≤v.fKind) with
  |false=>rfl
  |true=>
   simp only [oB_s,cond_true,Bool.true_and]
   by_cases h1:v.fPairs.length+v.fItems.length+v.fScores.length<1
   ·rw [decide_eq_false (show ¬(1:Int)≤_ by omega),decide_eq_true h1];rfl
   ·rw [decide_eq_true (show (1:Int)≤_ by omega),decide_eq_false h1]
    by_cases h2:20<v.fPairs.length+v.fItems.length+v.fScores.length
    ·rw [decide_eq_false (show ¬_≤(20:Int) by omega),decide_eq_true h2];rfl
    ·rw [decide_eq_true (show _≤(20:Int) by omega),decide_eq_false h2];rfl
 unfold rrValueFault rrValueFault_c12
 simp only [oB_s,r_c11,hk6,hl,hg]
 unfold valF
 rw [tailFG]
 generalize tailG v=tg
 generalize v.fItems.any vaC_fn1_v=a1
 generalize sizeF v=sz
 clear hl hg hk6
 obtain⟨q,t,c,ps,is,ss⟩:=v
 by_cases h1:q<1
 ·simp [show ¬1≤q by omega]
 by_cases h2:6<q
 ·simp [show 1≤q by omega,show ¬q≤6 by omega]
 simp only [oB_s,ck_rrValueFault_k4_v,ck_rrValueFault_k4_v_c0,ck_rrValueFault_k4_v_c1,ck_rrValueFault_k4_v_c2,ck_rrValueFault_k4v2_v,ck_rrValueFault_k4v2_v_c0,ck_rrValueFault_k4v2_v_c1,ck_rrValueFault_k4v2_v_c2,ck_rrValueFault_k4v2_v_c3,ck_rrValueFault_k4v2_v_c4,ck_rrValueFault_k4v2_v_c5,ck_rrValueFault_k4v2_v_c6,formF,pos_nat]
 generalize decide (0<ps.length)=d1
 generalize decide (0<is.length)=d2
 generalize decide (0<ss.length)=d3
 generalize cY t ByteArray.empty=d4
 generalize (c==0)=d5
 cases sz<;>cases a1<;>rcases six h1 h2 with rfl|rfl|rfl|rfl|rfl|rfl<;>cases d1<;>cases d2<;>cases d3<;>cases d4<;>cases d5<;>rfl
theorem loop_allX {α β:Type} {step:Int→Option (Int⊕(β⊕Unit))} (l:List α) (g:α→β) (p:Nat→α→Bool)
  (hs: ∀(i:Nat) x,l[i]? =some x→step (i:Int)=some (bif p i x then .inl ((i+1:Nat):Int) else .inr (.inl (g x))))
  (he:step (l.length:Int)=some (.inr (.inr ()))): ∃r,cM step 0=some r∧(allI p 0 l=true→r= .inr ())∧(allI p 0 l=false→ ∃y,r= .inl y):=by
 have h:=loop_list (step:=step) l (fun i (_:Unit)=>i) (fun i _=>i≤l.length) (fun i x _=>bif p i x then .inl () else .inr (.inl (g x))) (fun _=>.inr ()) (fun i x s hx hk=>by
  rw [hs i x hx];cases p i x<;>rfl) (fun i x s s' hx hk _=>by have:=get_lt hx;omega) (fun i s hl hk=>by rw [Nat.le_antisymm hk hl];exact he) 0 () (Nat.zero_le _)
 refine⟨_,h,?_,?_⟩
 ·have: ∀(m:List α) (j:Nat),allI p j m=true→run (fun i x (_:Unit)=>bif p i x then .inl () else .inr (.inl (g x))) (fun _=>(.inr ():β⊕Unit)) j m ()= .inr ():=by
   intro m
   induction m with
   |nil=>intro j _;rfl
   |cons x m ih=>
    intro j h
    simp only [oB_s,allI,Bool.and_eq_true] at h
    simp only [oB_s,run,h.1,cond_true]
    exact ih (j+1) h.2
  exact this _ _
 ·have: ∀(m:List α) (j:Nat),allI p j m=false→ ∃y,run (fun i x (_:Unit)=>bif p i x then .inl () else .inr (.inl (g x))) (fun _=>(.inr ():β⊕Unit)) j m ()= .inl y:=by
   intro m
   induction m with
   |nil=>intro j h;cases h
   |cons x m ih=>
    intro j h
    simp only [oB_s,run]
    cases hp:p j x with
    |false=>exact⟨_,rfl⟩
    |true=>
     simp only [oB_s,allI,hp,Bool.true_and] at h
     exact ih (j+1) h
  exact this _ _
noncomputable def entB (now:Int) (l:List GEntry) (i:Nat) (x:GEntry):Bool:=(value_field_v x.fKey&&((valF x.fValue==0)&&(decide (i=0)||prevB (fun a b=>sltB a.fKey b.fKey) l i x)))&&((x.fUntil==0)||(decide (now<x.fUntil)&&decide (x.fUntil≤1073741824)))
noncomputable def storeB (s:GStore):Bool:=(decide (0≤s.fNow)&&(decide (s.fNow≤1073741824)&&decide (s.fEntries.length≤12)))&&allI (entB s.fNow s.fEntries) 0 s.fEntries
theorem until_p (now u:Int):(bif (u==0) then false else bif decide (u≤now) then true else decide (1073741824<u))= !((u==0)||(decide (now<u)&&decide (u≤1073741824))):=by
 cases (u==0) with
 |true=>rfl
 |false=>
  by_cases h1:u≤now
  ·simp [h1,show ¬now<u by omega]
  ·by_cases h2:1073741824<u
   ·simp [h1,h2,show ¬u≤1073741824 by omega]
   ·simp [h1,h2,show u≤1073741824 by omega,show now<u by omega]
theorem until_r (now u:Int) (h:0≤now):(bif (u==0) then false else bif decide (0≤u) then bif decide (u≤1073741824) then decide (u≤now) else true else true)= !((u==0)||(decide (now<u)&&decide (u≤1073741824))):=by
 cases (u==0) with
 |true=>rfl
 |false=>
  by_cases h0:0≤u
  ·by_cases h1:u≤now
   ·by_cases h2:u≤1073741824
    ·simp [h0,h1,h2,show ¬now<u by omega]
    ·simp [h0,h1,h2]
   ·by_cases h2:u≤1073741824
    ·simp [h0,h1,h2,show now<u by omega]
    ·simp [h0,h1,h2]
  ·simp [h0,show ¬now<u by omega]
theorem k6_p (s:GStore) (i:Nat) (l:List GEntry) (n:Int) (x:GEntry) (ok:x.fValue.ok) (hx:s.fEntries[i]? =some x) (hl:s.fEntries.length≤140737488351232):ck_store_Check_k6v2 s (i:Int) l n x=some (!(value_field_v x.fKey&&((valF x.fValue==0)&&(decide (i=0)||prevB (fun a b=>sltB a.fKey b.fKey) s.fEntries i x)))):=by
 unfold ck_store_Check_k6v2
 rw [check_p _ ok]
 have hf:value_field_v x.fKey=(decide (1≤(x.fKey.size:Int))&&decide ((x.fKey.size:Int)≤12)):=rfl
 rw [hf]
 by_cases h1:(x.fKey.size:Int)<1
 ·simp [h1,show ¬1≤(x.fKey.size:Int) by omega]
 by_cases h2:(12:Int)<(x.fKey.size:Int)
 ·simp [h1,h2,show ¬(x.fKey.size:Int)≤12 by omega]
 rw [decide_eq_false h1,decide_eq_false h2,decide_eq_true (show (1:Int)≤(x.fKey.size:Int) by omega),decide_eq_true (show (x.fKey.size:Int)≤12 by omega)]
 simp only [oB_s,cond_false,Bool.true_and]
 cases valF x.fValue==0 with
 |false=>rfl
 |true=>
  simp only [oB_s,cond_true,Bool.true_and]
  by_cases hi:i=0
  ·subst hi;rfl
  ·obtain⟨y,e1,e2⟩:=prevI hx (by omega) hl
   rw [decide_eq_true (show (0:Int)<(i:Int) by omega),cond_true,e2,decide_eq_false hi,Bool.false_or,prevB_eq e1,oB_s]
theorem k7_r (s:GStore) (i:Nat) (x:GEntry) (ok:x.fValue.ok) (hx:s.fEntries[i]? =some x) (hl:s.fEntries.length≤140737488351232):ck_rrStoreFault_k7v2 s (i:Int) x=some (!(value_field_v x.fKey&&((valF x.fValue==0)&&(decide (i=0)||prevB (fun a b=>sltB a.fKey b.fKey) s.fEntries i x)))):=by
 unfold ck_rrStoreFault_k7v2
 rw [fault_p _ ok]
 have hf:rrfieldMay_v x.fKey=value_field_v x.fKey:=rfl
 rw [hf]
 cases value_field_v x.fKey with
 |false=>rfl
 |true=>
  simp only [oB_s,cond_true,Bool.true_and]
  cases valF x.fValue==0 with
  |false=>rfl
  |true=>
   simp only [oB_s,cond_true,Bool.true_and]
   by_cases hi:i=0
   ·subst hi;rfl
   ·obtain⟨y,e1,e2⟩:=prevI hx (by omega) hl
    rw [decide_eq_true (show (0:Int)<(i:Int) by omega),cond_true,e2,decide_eq_false hi,Bool.false_or,prevB_eq e1,oB_s]
theorem store_p (s:GStore) (ok:s.ok):store_Check s=some (bif storeB s then 0 else 13):=by
 have hl:=ok.2.1
 unfold okN at hl
 have hk:ck_store_Check_k1_v s= !(decide (0≤s.fNow)&&(decide (s.fNow≤1073741824)&&decide (s.fEntries.length≤12))):=by
  unfold ck_store_Check_k1_v
  by_cases h1:s.fNow<0
  ·simp [h1,show ¬0≤s.fNow by omega]
  by_cases h2:1073741824<s.fNow
  ·simp [h1,h2,show ¬s.fNow≤1073741824 by omega]
  rw [decide_eq_false h1,decide_eq_false h2,decide_eq_true (show 0≤s.fNow by omega),decide_eq_true (show s.fNow≤1073741824 by omega)]
  by_cases h3:s.fEntries.length≤12
  ·rw [decide_eq_true h3,decide_eq_false (by omega)];rfl
  ·rw [decide_eq_false h3,decide_eq_true (by omega)];rfl
 obtain⟨r,e1,e2,e3⟩:=loop_allX (step:=st_store_Check_0 s s.fEntries (s.fEntries.length:Int)) s.fEntries (fun x=>x) (entB s.fNow s.fEntries) (fun i x hx=>by
  simp only [oB_s,st_store_Check_0,ltN (get_lt hx),cond_true,idx_get hx,k6_p s i _ _ x (ok.2.2 x (List.mem_of_getElem? hx)).2.1 hx (by omega),ck_store_Check_k8v2_v,until_p,wrapN (show i≤_ by have:=get_lt hx;omega),entB]
  generalize (value_field_v x.fKey&&((valF x.fValue==0)&&(decide (i=0)||prevB (fun a b=>sltB a.fKey b.fKey) s.fEntries i x)))=b1
  generalize ((x.fUntil==0)||(decide (s.fNow<x.fUntil)&&decide (x.fUntil≤1073741824)))=b2
  cases b1<;>cases b2<;>rfl) (by simp only [oB_s,st_store_Check_0,geN (Nat.le_refl _),cond_false])
 unfold store_Check storeB
 rw [hk,e1]
 cases (decide (0≤s.fNow)&&(decide (s.fNow≤1073741824)&&decide (s.fEntries.length≤12))) with
 |false=>rfl
 |true=>
  cases h:allI (entB s.fNow s.fEntries) 0 s.fEntries with
  |true=>rw [e2 h];rfl
  |false=>obtain⟨y,hy⟩:=e3 h;rw [hy];rfl
theorem store_r (s:GStore) (ok:s.ok):rrStoreFault s=some (bif storeB s then 0 else 13):=by
 have hl:=ok.2.1
 unfold okN at hl
 have hk:ck_rrStoreFault_k1_v s= !(decide (0≤s.fNow)&&(decide (s.fNow≤1073741824)&&decide (s.fEntries.length≤12))):=by
  unfold ck_rrStoreFault_k1_v
  cases decide (0≤s.fNow) with
  |false=>rfl
  |true=>
   cases decide (s.fNow≤1073741824) with
   |false=>rfl
   |true=>
    by_cases h3:s.fEntries.length≤12
    ·rw [decide_eq_true h3,decide_eq_false (by omega)];rfl
    ·rw [decide_eq_false h3,decide_eq_true (by omega)];rfl
 unfold rrStoreFault storeB
 rw [hk]
 cases hh:(decide (0≤s.fNow)&&(decide (s.fNow≤1073741824)&&decide (s.fEntries.length≤12))) with
 |false=>rfl
 |true=>
  have hn:0≤s.fNow:=by simp only [oB_s,Bool.and_eq_true,decide_eq_true_eq] at hh;omega
  obtain⟨r,e1,e2,e3⟩:=loop_allX (step:=st_rrStoreFault_0 s) s.fEntries (fun x=>x) (entB s.fNow s.fEntries) (fun i x hx=>by
   simp only [oB_s,st_rrStoreFault_0,ltN (get_lt hx),cond_true,idx_get hx,k7_r s i x (ok.2.2 x (List.mem_of_getElem? hx)).2.1 hx (by omega),ck_rrStoreFault_k9v2_v,until_r _ _ hn,wrapN (show i≤_ by have:=get_lt hx;omega),entB]
   generalize (value_field_v x.fKey&&((valF x.fValue==0)&&(decide (i=0)||prevB (fun a b=>sltB a.fKey b.fKey) s.fEntries i x)))=b1
   generalize ((x.fUntil==0)||(decide (s.fNow<x.fUntil)&&decide (x.fUntil≤1073741824)))=b2
   cases b1<;>cases b2<;>rfl) (by simp only [oB_s,st_rrStoreFault_0,geN (Nat.le_refl _),cond_false])
  rw [e1]
  cases h:allI (entB s.fNow s.fEntries) 0 s.fEntries with
  |true=>rw [e2 h];rfl
  |false=>obtain⟨y,hy⟩:=e3 h;rw [hy];rfl
noncomputable def replyF (r:GReply):Int:=
 bif !(decide (0≤r.fCode)&&decide (r.fCode≤13)) then 3
 else bif !(value_text_v r.fText)||(decide (20<r.fList.length)||r.fList.any clCReply_fn1_v) then 1
 else bif !(value_count_v r.fN) then 2 else 0
theorem long_any (l:List ByteArray) (hl:l.length≤140737488351232):sCSclCReply_fn1 l=some (l.any clCReply_fn1_v):=by
 unfold sCSclCReply_fn1 sISclCReply_fn1
 rw [loop_first (step:=st_sISclCReply_fn1_0 l (l.length:Int)) (fun i=>i) l clCReply_fn1_v (fun i=>.inl (i:Int)) (.inr ()) (fun i x hx=>by
  simp only [oB_s,st_sISclCReply_fn1_0,ltN (get_lt hx),cond_true,idx_get hx,wrapN (Nat.le_trans (Nat.le_of_lt (get_lt hx)) (Nat.le_trans hl (by decide)))]
  cases clCReply_fn1_v x<;>rfl) (by simp only [oB_s,st_sISclCReply_fn1_0,geN (Nat.le_refl _),cond_false])]
 rw [←first_any clCReply_fn1_v 0 l]
 cases firstI clCReply_fn1_v 0 l<;>simp [oB_s]
theorem lt_le (n k:Int):decide (k<n)= !decide (n≤k):=by
 by_cases h:n≤k
 ·rw [decide_eq_true h,decide_eq_false (by omega)];rfl
 ·rw [decide_eq_false h,decide_eq_true (by omega)];rfl
theorem twenty (n:Nat):decide ((20:Int)<(n:Int))=decide (20<n):=by
 by_cases h:20<n
 ·rw [decide_eq_true h,decide_eq_true (by omega)]
 ·rw [decide_eq_false h,decide_eq_false (by omega)]
theorem reply_p (r:GReply) (hl:r.fList.length≤140737488351232):clCReply r=some (replyF r):=by
 unfold clCReply clCReply_c0 replyF
 rw [long_any _ hl,lt_le r.fCode 13,lt_le (r.fText.size:Int) 20,twenty,lt_le r.fN 1099511627776]
 have e1:decide (r.fCode<0)= !decide (0≤r.fCode):=lt_le 0 r.fCode
 have e2:decide (r.fN< -1099511627776)= !decide (-1099511627776≤r.fN):=lt_le (-1099511627776) r.fN
 rw [e1,e2]
 have e3:value_text_v r.fText=decide ((r.fText.size:Int)≤20):=rfl
 have e4:value_count_v r.fN=(decide (-1099511627776≤r.fN)&&decide (r.fN≤1099511627776)):=rfl
 rw [e3,e4]
 cases decide (0≤r.fCode)<;>cases decide (r.fCode≤13)<;>cases decide ((r.fText.size:Int)≤20)<;>cases decide (20<r.fList.length)<;>cases r.fList.any clCReply_fn1_v<;>cases decide (-1099511627776≤r.fN)<;>cases decide (r.fN≤1099511627776)<;>rfl
theorem reply_r (r:GReply) (hl:r.fList.length≤140737488351232):rrReplyFault r=some (replyF r):=by
 have e:=loop_all (step:=st_rrReplyFault_0 r) r.fList 0 (fun _ x=>rrtextMay_v x) (fun i x hx hi=>by
  simp only [oB_s,st_rrReplyFault_0,ltN (get_lt hx),cond_true,idx_get hx,wrapN (show i≤_ by have:=get_lt hx;omega)]
  cases rrtextMay_v x<;>rfl) (fun i hi=>by simp only [oB_s,st_rrReplyFault_0,geN hi,cond_false])
 have e':allI (fun _ x=>rrtextMay_v x) 0 r.fList= !r.fList.any clCReply_fn1_v:=any_all clCReply_fn1_v (fun x=>rrtextMay_v x) (fun x=>lt_le _ _) r.fList
 rw [List.drop_zero,e'] at e
 have k0:((0:Nat):Int)=0:=rfl
 rw [k0] at e
 unfold rrReplyFault replyF
 rw [e,twenty]
 have e3:rrtextMay_v r.fText=value_text_v r.fText:=rfl
 have e4:rrcountMay_v r.fN=value_count_v r.fN:=rfl
 rw [e3,e4]
 cases decide (0≤r.fCode)<;>cases decide (r.fCode≤13)<;>cases value_text_v r.fText<;>cases decide (20<r.fList.length)<;>cases r.fList.any clCReply_fn1_v<;>cases value_count_v r.fN<;>rfl
def idB (next:Int) (l:List GClient) (i:Nat) (x:GClient):Bool:=(decide (1≤x.fId)&&decide (x.fId<next))&&(decide (i=0)||prevB (fun a b=>decide (a.fId<b.fId)) l i x)
noncomputable def seqF (now:Int) (x:GClient):Bool:=(decide (0≤x.fSeq)&&decide (x.fSeq≤1048576))&&((decide (0≤x.fTime)&&decide (x.fTime≤now))&&(replyF x.fReply==0))
noncomputable def machB (m:GMachine):Bool:=(storeB m.fStore&&((decide (1≤m.fNext)&&decide (m.fNext≤1048577))&&decide (m.fClients.length≤4)))&&allI (fun i x=>idB m.fNext m.fClients i x&&seqF m.fStore.fNow x) 0 m.fClients
theorem kc6_p (m:GMachine) (i:Nat) (l:List GClient) (n:Int) (x:GClient) (hx:m.fClients[i]? =some x) (hl:m.fClients.length≤140737488351232):ck_clC_k6v2 m (i:Int) l n x=some (!idB m.fNext m.fClients i x):=by
 unfold ck_clC_k6v2 idB
 have e1:decide (x.fId<1)= !decide (1≤x.fId):=lt_le _ _
 have e2:decide (m.fNext≤x.fId)= !decide (x.fId<m.fNext):=by rw [lt_le];simp
 rw [e1,e2]
 cases decide (1≤x.fId) with
 |false=>rfl
 |true=>
  cases decide (x.fId<m.fNext) with
  |false=>rfl
  |true=>
   simp only [oB_s,Bool.not_true,cond_false,Bool.true_and]
   by_cases hi:i=0
   ·subst hi;rfl
   ·obtain⟨y,h1,h2⟩:=prevI hx (by omega) hl
    rw [decide_eq_true (show (0:Int)<(i:Int) by omega),cond_true,h2,decide_eq_false hi,Bool.false_or,prevB_eq h1,oB_s]
    simp only [oB_s,lt_le,Bool.not_not]
theorem kc8_p (m:GMachine) (l:List GClient) (n:Int) (j:Int) (x:GClient) (hl:x.fReply.fList.length≤140737488351232):ck_clC_k8v2 m l n j x=some (!seqF m.fStore.fNow x):=by
 unfold ck_clC_k8v2 seqF
 rw [reply_p _ hl]
 have e1:decide (x.fSeq<0)= !decide (0≤x.fSeq):=lt_le _ _
 have e2:decide (x.fTime<0)= !decide (0≤x.fTime):=lt_le _ _
 rw [e1,e2,lt_le x.fSeq 1048576,lt_le x.fTime m.fStore.fNow]
 cases decide (0≤x.fSeq)<;>cases decide (x.fSeq≤1048576)<;>cases decide (0≤x.fTime)<;>cases decide (x.fTime≤m.fStore.fNow)<;>rfl
theorem kr7_r (m:GMachine) (i:Nat) (x:GClient) (hx:m.fClients[i]? =some x) (hl:m.fClients.length≤140737488351232) (hr:x.fReply.fList.length≤140737488351232) (hn:m.fNext≤1048577):ck_rrMachineFault_k7v2 m (i:Int) x=some (!(idB m.fNext m.fClients i x&&seqF m.fStore.fNow x)):=by
 unfold ck_rrMachineFault_k7v2 ck_rrMachineFault_k7v2_c1 ck_rrMachineFault_k7v2_c0 idB seqF
 rw [reply_r _ hr]
 have e0:rrnumberMay_v x.fId=(decide (1≤x.fId)&&decide (x.fId≤1048576)):=rfl
 have e2:decide (m.fNext≤x.fId)= !decide (x.fId<m.fNext):=by rw [lt_le];simp
 rw [e0,e2]
 cases decide (1≤x.fId) with
 |false=>rfl
 |true=>
  by_cases h1:x.fId<m.fNext
  ·rw [decide_eq_true h1,decide_eq_true (show x.fId≤1048576 by omega)]
   simp only [oB_s,Bool.and_self,cond_true,Bool.not_true,cond_false,Bool.true_and]
   by_cases hi:i=0
   ·subst hi
    rw [decide_eq_false (by omega)]
    simp only [oB_s,cond_false,decide_true,Bool.true_or,Bool.true_and]
    cases decide (0≤x.fSeq)<;>cases decide (x.fSeq≤1048576)<;>cases decide (0≤x.fTime)<;>cases decide (x.fTime≤m.fStore.fNow)<;>rfl
   ·obtain⟨y,h3,h4⟩:=prevI hx (by omega) hl
    rw [decide_eq_true (show (0:Int)<(i:Int) by omega),cond_true,h4,decide_eq_false hi,Bool.false_or,prevB_eq h3,oB_s]
    have e9:decide (x.fId≤y.fId)= !decide (y.fId<x.fId):=by rw [lt_le];simp
    simp only [oB_s,e9]
    cases decide (y.fId<x.fId)<;>cases decide (0≤x.fSeq)<;>cases decide (x.fSeq≤1048576)<;>cases decide (0≤x.fTime)<;>cases decide (x.fTime≤m.fStore.fNow)<;>rfl
  ·rw [decide_eq_false h1]
   cases decide (x.fId≤1048576)<;>rfl
theorem mach_p (m:GMachine) (ok:m.ok):clC m=some (bif machB m then 0 else 13):=by
 obtain⟨o1,o2,o3,o4⟩:=ok
 unfold okN at o3
 have hk:ck_clC_k1 m=some (!(storeB m.fStore&&((decide (1≤m.fNext)&&decide (m.fNext≤1048577))&&decide (m.fClients.length≤4)))):=by
  unfold ck_clC_k1
  rw [store_p _ o1]
  have e1:decide (m.fNext<1)= !decide (1≤m.fNext):=lt_le _ _
  have e3:decide ((4:Int)<(m.fClients.length:Int))= !decide (m.fClients.length≤4):=by
   by_cases h:m.fClients.length≤4
   ·rw [decide_eq_true h,decide_eq_false (by omega)];rfl
   ·rw [decide_eq_false h,decide_eq_true (by omega)];rfl
  rw [e1,e3,lt_le m.fNext 1048577]
  cases storeB m.fStore<;>cases decide (1≤m.fNext)<;>cases decide (m.fNext≤1048577)<;>cases decide (m.fClients.length≤4)<;>rfl
 unfold clC machB
 rw [hk]
 cases (storeB m.fStore&&((decide (1≤m.fNext)&&decide (m.fNext≤1048577))&&decide (m.fClients.length≤4))) with
 |false=>rfl
 |true=>
  obtain⟨r,e1,e2,e3⟩:=loop_allX (step:=st_clC_0 m m.fClients (m.fClients.length:Int)) m.fClients (fun x=>x) (fun i x=>idB m.fNext m.fClients i x&&seqF m.fStore.fNow x) (fun i x hx=>by
   have hxo:=o4 x (List.mem_of_getElem? hx)
   have hxl:=hxo.2.2.2.2.2.2.1
   unfold okN at hxl
   simp only [oB_s,st_clC_0,ltN (get_lt hx),cond_true,idx_get hx,kc6_p m i _ _ x hx (by omega),kc8_p m _ _ _ x (by omega),wrapN (show i≤_ by have:=get_lt hx;omega)]
   cases idB m.fNext m.fClients i x<;>cases seqF m.fStore.fNow x<;>rfl) (by simp only [oB_s,st_clC_0,geN (Nat.le_refl _),cond_false])
  simp only [oB_s,Bool.not_true,cond_false,Bool.true_and]
  rw [e1]
  cases h:allI (fun i x=>idB m.fNext m.fClients i x&&seqF m.fStore.fNow x) 0 m.fClients with
  |true=>rw [e2 h];rfl
  |false=>obtain⟨y,hy⟩:=e3 h;rw [hy];rfl
theorem mach_r (m:GMachine) (ok:m.ok):rrMachineFault m=some (bif machB m then 0 else 13):=by
 obtain⟨o1,o2,o3,o4⟩:=ok
 unfold okN at o3
 have hk:ck_rrMachineFault_k1 m=some (!(storeB m.fStore&&((decide (1≤m.fNext)&&decide (m.fNext≤1048577))&&decide (m.fClients.length≤4)))):=by
  unfold ck_rrMachineFault_k1
  rw [store_r _ o1]
  have e3:decide ((4:Int)<(m.fClients.length:Int))= !decide (m.fClients.length≤4):=by
   by_cases h:m.fClients.length≤4
   ·rw [decide_eq_true h,decide_eq_false (by omega)];rfl
   ·rw [decide_eq_false h,decide_eq_true (by omega)];rfl
  rw [e3]
  cases storeB m.fStore<;>cases decide (1≤m.fNext)<;>cases decide (m.fNext≤1048577)<;>cases decide (m.fClients.length≤4)<;>rfl
 unfold rrMachineFault machB
 rw [hk]
 cases hh:(storeB m.fStore&&((decide (1≤m.fNext)&&decide (m.fNext≤1048577))&&decide (m.fClients.length≤4))) with
 |false=>rfl
 |true=>
  have hn:m.fNext≤1048577:=by simp only [oB_s,Bool.and_eq_true,decide_eq_true_eq] at hh;omega
  obtain⟨r,e1,e2,e3⟩:=loop_allX (step:=st_rrMachineFault_0 m) m.fClients (fun x=>x) (fun i x=>idB m.fNext m.fClients i x&&seqF m.fStore.fNow x) (fun i x hx=>by
   have hxo:=o4 x (List.mem_of_getElem? hx)
   have hxl:=hxo.2.2.2.2.2.2.1
   unfold okN at hxl
   simp only [oB_s,st_rrMachineFault_0,ltN (get_lt hx),cond_true,idx_get hx,kr7_r m i x hx (by omega) (by omega) hn,wrapN (show i≤_ by have:=get_lt hx;omega)]
   cases (idB m.fNext m.fClients i x&&seqF m.fStore.fNow x)<;>rfl) (by simp only [oB_s,st_rrMachineFault_0,geN (Nat.le_refl _),cond_false])
  simp only [oB_s,Bool.not_true,cond_false,Bool.true_and]
  rw [e1]
  cases h:allI (fun i x=>idB m.fNext m.fClients i x&&seqF m.fStore.fNow x) 0 m.fClients with
  |true=>rw [e2 h];rfl
  |false=>obtain⟨y,hy⟩:=e3 h;rw [hy];rfl
theorem i64wrap (n:Int):IntKind.i64.wrap n=(n+9223372036854775808) % 18446744073709551616-9223372036854775808:=by
 simp [IntKind.wrap,IntKind.min,IntKind.max,IntKind.bits,IntKind.signed]
 split<;>omega
theorem u64wrap' (n:Int):IntKind.u64.wrap n=n % 18446744073709551616:=by
 simp [IntKind.wrap,IntKind.min,IntKind.max,IntKind.bits,IntKind.signed]
def bytesP (l:List Int):Prop:=∀y∈l,0≤y∧y<256
def val (a:Int):List Int→Int
 | []=>a
 |c::l=>val (a*256+c) l
theorem val_bound: ∀(l:List Int) (a:Int) (m:Nat),bytesP l→0≤a→a<256 ^ m→0≤val a l∧val a l<256 ^ (m+l.length)
 | [],a,m,_,h1,h2=>⟨h1,h2⟩
 |c::l,a,m,hb,h1,h2=>by
  have hc:=hb c (List.mem_cons_self ..)
  have:=val_bound l (a*256+c) (m+1) (fun y hy=>hb y (List.mem_cons_of_mem _ hy)) (by omega) (by rw [Int.pow_succ];omega)
  simp only [oB_s,val,List.length_cons]
  rw [show m+(l.length+1)=m+1+l.length by omega]
  exact this
theorem or_low (u c:Int) (h1:0≤u) (h2:u<72057594037927936) (h3:0≤c) (h4:c<256):IntKind.u64.wrap (BitVec.ofInt IntKind.u64.bits (IntKind.u64.wrap (u*2 ^ (min (8:Int).toNat IntKind.u64.bits)))|||BitVec.ofInt IntKind.u64.bits (IntKind.u64.wrap c)).toNat=u*256+c:=by
 obtain⟨a,rfl⟩:=Int.eq_ofNat_of_zero_le h1
 obtain⟨b,rfl⟩:=Int.eq_ofNat_of_zero_le h3
 have e1:(2:Int) ^ (min (8:Int).toNat IntKind.u64.bits)=256:=by decide
 rw [e1]
 have e2:IntKind.u64.wrap ((a:Int)*256)=((a*256:Nat):Int):=by rw [u64wrap (by omega) (by omega)];omega
 have e3:IntKind.u64.wrap (b:Int)=(b:Int):=u64wrap (by omega) (by omega)
 rw [e2,e3]
 have e4:(BitVec.ofInt IntKind.u64.bits ((a*256:Nat):Int)|||BitVec.ofInt IntKind.u64.bits (b:Int)).toNat=a*256+b:=by
  show (BitVec.ofInt 64 ((a*256:Nat):Int)|||BitVec.ofInt 64 (b:Int)).toNat=a*256+b
  rw [BitVec.toNat_or,BitVec.ofInt_natCast,BitVec.ofInt_natCast,BitVec.toNat_ofNat,BitVec.toNat_ofNat,Nat.mod_eq_of_lt (by omega),Nat.mod_eq_of_lt (by omega)]
  have:=Nat.shiftLeft_add_eq_or_of_lt (b:=b) (i:=8) (by omega) a
  rw [Nat.shiftLeft_eq] at this
  exact this.symm
 rw [e4,u64wrap (by omega) (by omega)]
 omega
theorem num_loop (l:List Int) (r:Greader) (hl:l.length≤8) (hb:bytesP l): ∀(suf pre:List Int) (u:Int),l=pre++suf→0≤u→u<256 ^ pre.length→cM (st_wrnumber_0 l (l.length:Int) r) (u,(pre.length:Int))=some (val u suf):=by
 intro suf
 induction suf with
 |nil=>
  intro pre u h _ _
  simp at h;subst h
  exact loopM_end (by simp only [oB_s,st_wrnumber_0,geN (Nat.le_refl _),cond_false,val])
 |cons c suf ih=>
  intro pre u h h1 h2
  have hp:pre.length≤7:=by rw [h] at hl;simp at hl;omega
  have hc:=hb c (by rw [h];simp)
  have hu:u<72057594037927936:=by
   have h3:((256 ^ pre.length:Nat):Int)≤((72057594037927936:Nat):Int):=Int.ofNat_le.2 (Nat.le_trans (Nat.pow_le_pow_right (by decide) hp) (by decide))
   rw [Int.natCast_pow] at h3
   have e:((256:Nat):Int)=256:=rfl
   rw [e] at h3
   omega
  have hd:decide ((pre.length:Int)<(l.length:Int))=true:=decide_eq_true (by rw [h];simp;omega)
  have hi:idx l (pre.length:Int)=some c:=by rw [h];exact idx_app _ _ _
  have hw:IntKind.i64.wrap ((pre.length:Int)+1)=((pre++ [c]).length:Int):=by
   rw [List.length_append,List.length_singleton];exact wrapN (by omega)
  rw [loopM_on (a':=(u*256+c,((pre++ [c]).length:Int)))]
  ·exact ih (pre++ [c]) (u*256+c) (by simp [h]) (by omega) (by rw [List.length_append,List.length_singleton,Int.pow_succ];omega)
  ·simp only [oB_s,st_wrnumber_0,hd,cond_true,hi,hw,or_low u c h1 hu hc.1 hc.2]
theorem next_over (b:List Int) (a:Int) (h0:0≤a) (h:(b.length:Int)≤a) (hK:a≤4611686018427387904):rrscan_next ⟨b,a⟩=some (0,⟨b,a+1⟩):=by
 have hw:IntKind.i64.wrap (a+1)=a+1:=by rw [wrap_id]<;>omega
 unfold rrscan_next
 simp only [oB_s,hw]
 rw [decide_eq_true (by omega),cond_true]
theorem next_in (b:List Int) (a:Nat) (c:Int) (hb:bytesP b) (h:b[a]? =some c) (hK:a≤140737488355328):rrscan_next ⟨b,(a:Int)⟩=some (c,⟨b,((a+1:Nat):Int)⟩):=by
 have hw:IntKind.i64.wrap ((a:Int)+1)=((a+1:Nat):Int):=wrapN hK
 have hw2:IntKind.i64.wrap (((a+1:Nat):Int)-1)=(a:Int):=by rw [wrap_id]<;>omega
 have hl:=get_lt h
 have hc:=hb c (List.mem_of_getElem? h)
 have hw3:IntKind.i64.wrap c=c:=by rw [wrap_id]<;>omega
 unfold rrscan_next
 simp only [oB_s,hw,hw2]
 rw [decide_eq_false (by omega),cond_false,idx_get h]
 simp only [oB_s,hw3]
theorem next_some (b:List Int) (a:Nat) (hb:bytesP b) (hK:a≤140737488355328): ∃c,rrscan_next ⟨b,(a:Int)⟩=some (c,⟨b,((a+1:Nat):Int)⟩)∧0≤c∧c<256:=by
 by_cases h:a<b.length
 ·exact⟨b[a],next_in b a _ hb (List.getElem?_eq_getElem h) hK,hb _ (List.getElem_mem h)⟩
 ·refine⟨0,?_,by omega,by omega⟩
  rw [next_over b a (by omega) (by omega) (by omega)]
  simp
theorem long_some (b:List Int) (hb:bytesP b): ∀(k i:Nat) (n:Int) (a:Nat),i+k=8→a+k≤140737488355328→ ∃n',cM st_rrscan_long_0 (n,(i:Int),⟨b,(a:Int)⟩)=some (n',⟨b,((a+k:Nat):Int)⟩)
 |0,i,n,a,hi,ha=>⟨n,loopM_end (by simp only [oB_s,st_rrscan_long_0];rw [decide_eq_false (by omega)];rfl)⟩
 |k+1,i,n,a,hi,ha=>by
  obtain⟨c,hc,_⟩:=next_some b a hb (by omega)
  have hw:IntKind.i64.wrap ((i:Int)+1)=((i+1:Nat):Int):=wrapN (by omega)
  obtain⟨n',h'⟩:=long_some b hb k (i+1) (IntKind.i64.wrap (IntKind.i64.wrap (n*256)+c)) (a+1) (by omega) (by omega)
  refine⟨n',?_⟩
  rw [loopM_on (a':=(IntKind.i64.wrap (IntKind.i64.wrap (n*256)+c),((i+1:Nat):Int),⟨b,((a+1:Nat):Int)⟩))]
  ·rw [h',show a+1+k=a+(k+1) by omega]
  ·simp only [oB_s,st_rrscan_long_0,hc,hw]
   rw [decide_eq_true (by omega),cond_true]
theorem wrap_step (v c:Int):IntKind.i64.wrap (IntKind.i64.wrap (IntKind.i64.wrap v*256)+c)=IntKind.i64.wrap (v*256+c):=by
 simp only [oB_s,i64wrap];omega
theorem long_in (b:List Int) (hb:bytesP b): ∀(suf:List Int) (i:Nat) (v:Int) (a:Nat) (tl:List Int),i+suf.length=8→b.drop a=suf++tl→a+suf.length≤140737488355328→cM st_rrscan_long_0 (IntKind.i64.wrap v,(i:Int),⟨b,(a:Int)⟩)=some (IntKind.i64.wrap (val v suf),⟨b,((a+suf.length:Nat):Int)⟩)
 | [],i,v,a,tl,hi,hd,ha=>loopM_end (by simp only [oB_s,List.length_nil,Nat.add_zero] at hi;simp only [oB_s,st_rrscan_long_0];rw [decide_eq_false (by omega)];rfl)
 |c::suf,i,v,a,tl,hi,hd,ha=>by
  simp only [oB_s,List.length_cons] at hi
  have hx:b[a]? =some c:=by
   have:=List.getElem?_drop (xs:=b) (i:=a) (j:=0)
   rw [hd] at this
   simpa using this.symm
  have hd':b.drop (a+1)=suf++tl:=by
   have:b.drop (a+1)=(b.drop a).drop 1:=by rw [List.drop_drop]
   rw [this,hd];rfl
  have hw:IntKind.i64.wrap ((i:Int)+1)=((i+1:Nat):Int):=wrapN (by omega)
  have hn:=next_in b a c hb hx (by omega)
  simp only [oB_s,List.length_cons] at ha
  have h':=long_in b hb suf (i+1) (v*256+c) (a+1) tl (by omega) hd' (by omega)
  rw [loopM_on (a':=(IntKind.i64.wrap (v*256+c),((i+1:Nat):Int),⟨b,((a+1:Nat):Int)⟩))]
  ·rw [h',val,List.length_cons,show a+1+suf.length=a+(suf.length+1) by omega]
  ·simp only [oB_s,st_rrscan_long_0,hn,hw,wrap_step]
   rw [decide_eq_true (by omega),cond_true]
structure Sim (b:List Int) (r:Greader) (s:Gscan) (K:Nat):Prop where
 by_:bytesP b
 fb:s.fb=b
 at_: ∃a:Nat,s.fat=a∧a≤K∧(r.fshort=false→a≤b.length∧r.frest=b.drop a)∧(r.fshort=true→b.length<a)
theorem take_short (n:Int) (r:Greader) (h:r.fshort=true):wrtake n r=some ([],⟨r.frest,true⟩):=by
 unfold wrtake;rw [h,cond_true]
theorem take_less (n:Int) (r:Greader) (h:r.fshort=false) (hn:(r.frest.length:Int)<n):wrtake n r=some ([],⟨r.frest,true⟩):=by
 unfold wrtake;rw [h,cond_false,decide_eq_true hn,cond_true]
theorem take_in (n:Nat) (r:Greader) (h:r.fshort=false) (hn:n≤r.frest.length):wrtake n r=some (r.frest.take n,⟨r.frest.drop n,false⟩):=by
 have h1:rngB 0 (n:Int) (r.frest.length:Int)=true:=by unfold rngB;simp;omega
 have h2:rngB (n:Int) (r.frest.length:Int) (r.frest.length:Int)=true:=by unfold rngB;simp;omega
 unfold wrtake
 rw [h,cond_false,decide_eq_false (by omega),cond_false,h1,cond_true,h2,cond_true]
 simp only [oB_s,dm,Int.toNat_natCast,Int.toNat_zero,List.drop_zero,List.take_length]
theorem bytes_drop {b:List Int} (h:bytesP b) (n:Nat):bytesP (b.drop n):=fun y hy=>h y (List.mem_of_mem_drop hy)
theorem bytes_take {b:List Int} (h:bytesP b) (n:Nat):bytesP (b.take n):=fun y hy=>h y (List.mem_of_mem_take hy)
theorem number_sim {b:List Int} {r:Greader} {s:Gscan} {K:Nat} (h:Sim b r s K) (hK:K≤1000000000): ∃v v' r' s',wrnumber r=some (v,r')∧rrscan_long s=some (v',s')∧Sim b r' s' (K+8)∧(r.fshort=true→r'.fshort=true)∧(r'.fshort=false→v=v'):=by
 obtain⟨hb,rfl,a,ha,hk,hok,hsh⟩:=h
 obtain⟨b,at_⟩:=s
 simp only [oB_s] at ha hb hok hsh⊢
 subst ha
 obtain⟨n',hl⟩:=long_some b hb 8 0 0 a rfl (by omega)
 have e0:((0:Nat):Int)=0:=rfl
 rw [e0] at hl
 have hlong:rrscan_long ⟨b,(a:Int)⟩=some (IntKind.i64.wrap (n'-4611686018427387904),⟨b,((a+8:Nat):Int)⟩):=by
  unfold rrscan_long;rw [hl,oB_s]
 have hshort: ∀r':Greader,wrtake 8 r=some ([],r')→wrnumber r=some (IntKind.i64.wrap (IntKind.u64.wrap (0-4611686018427387904)),r'):=by
  intro r' ht
  unfold wrnumber
  rw [ht]
  simp only [oB_s]
  have:=num_loop [] r' (by simp) (fun y hy=>by cases hy) [] [] 0 rfl (by omega) (by simp)
  rw [show (0:Int)=(([]:List Int).length:Int) from rfl] at this⊢
  rw [this]
  rfl
 cases hs:r.fshort with
 |true=>
  refine⟨_,_,_,_,hshort _ (take_short 8 r hs),hlong,⟨hb,rfl,a+8,rfl,by omega,fun h=>(by cases h),fun _=>?_⟩,fun _=>rfl,fun h=>by cases h⟩
  have:=hsh hs
  omega
 |false=>
  obtain⟨h1,h2⟩:=hok hs
  by_cases hlen:8≤r.frest.length
  ·have hr:r.frest.length=b.length-a:=by rw [h2,List.length_drop]
   have ht:wrtake 8 r=_:=take_in 8 r hs hlen
   have h8:(r.frest.take 8).length=8:=by rw [List.length_take];omega
   have hby:bytesP (r.frest.take 8):=by rw [h2];exact bytes_take (bytes_drop hb a) 8
   have hn:=num_loop (r.frest.take 8) ⟨r.frest.drop 8,false⟩ (by omega) hby (r.frest.take 8) [] 0 rfl (by omega) (by simp)
   have hv:=val_bound (r.frest.take 8) 0 0 hby (by omega) (by simp)
   have hin:=long_in b hb (r.frest.take 8) 0 0 a (r.frest.drop 8) (by omega) (by rw [←h2,List.take_append_drop]) (by omega)
   rw [h8] at hin
   have e1:IntKind.i64.wrap 0=0:=by decide
   rw [e1,e0] at hin
   have hlong':rrscan_long ⟨b,(a:Int)⟩=some (IntKind.i64.wrap (IntKind.i64.wrap (val 0 (r.frest.take 8))-4611686018427387904),⟨b,((a+8:Nat):Int)⟩):=by
    unfold rrscan_long;rw [hin,oB_s]
   have hnum:wrnumber r=some (IntKind.i64.wrap (IntKind.u64.wrap (val 0 (r.frest.take 8)-4611686018427387904)),⟨r.frest.drop 8,false⟩):=by
    unfold wrnumber
    rw [ht]
    simp only [oB_s]
    rw [List.length_nil,e0] at hn
    rw [hn,oB_s]
   refine⟨_,_,_,_,hnum,hlong',⟨hb,rfl,a+8,rfl,by omega,fun _=>⟨by omega,by rw [h2,List.drop_drop]⟩,fun h=>by cases h⟩,fun h=>(by cases h),fun _=>?_⟩
   generalize val 0 (r.frest.take 8)=q
   simp only [oB_s,i64wrap,u64wrap']
   omega
  ·refine⟨_,_,_,_,hshort _ (take_less 8 r hs (by omega)),hlong,⟨hb,rfl,a+8,rfl,by omega,fun h=>(by cases h),fun _=>?_⟩,fun _=>rfl,fun h=>by cases h⟩
   have:r.frest.length=b.length-a:=by rw [h2,List.length_drop]
   omega
theorem small_sim {b:List Int} {r:Greader} {s:Gscan} {K:Nat} (h:Sim b r s K) (hK:K≤1000000000): ∃v r' s',wrsmall r=some (v,r')∧rrscan_next s=some (v,s')∧0≤v∧v<256∧Sim b r' s' (K+1)∧(r.fshort=true→r'.fshort=true)∧(r'.fshort=true→v=0):=by
 obtain⟨hb,rfl,a,ha,hk,hok,hsh⟩:=h
 obtain⟨b,at_⟩:=s
 simp only [oB_s] at ha hb hok hsh⊢
 subst ha
 have hshort: ∀r':Greader,wrtake 1 r=some ([],r')→wrsmall r=some (0,r'):=by
  intro r' ht
  unfold wrsmall
  rw [ht]
  simp only [oB_s]
  rw [loopM_end (b:=.inr ()) (by simp [st_wrsmall_0]),oB_s]
 cases hs:r.fshort with
 |true=>
  have hl:=hsh hs
  refine⟨0,_,_,hshort _ (take_short 1 r hs),next_over b a (by omega) (by omega) (by omega),by omega,by omega,⟨hb,rfl,a+1,by simp,by omega,fun h=>(by cases h),fun _=>?_⟩,fun _=>rfl,fun _=>rfl⟩
  omega
 |false=>
  obtain⟨h1,h2⟩:=hok hs
  have hr:r.frest.length=b.length-a:=by rw [h2,List.length_drop]
  by_cases hlen:1≤r.frest.length
  ·have hx:b[a]? =some b[a]:=List.getElem?_eq_getElem (by omega)
   have hc:=hb _ (List.mem_of_getElem? hx)
   have ht:wrtake 1 r=_:=take_in 1 r hs hlen
   have htk:r.frest.take 1= [b[a]]:=by
    rw [h2,List.drop_eq_getElem_cons (by omega)];rfl
   rw [htk] at ht
   have hsm:wrsmall r=some (b[a],⟨r.frest.drop 1,false⟩):=by
    unfold wrsmall
    rw [ht]
    simp only [oB_s]
    rw [loopM_end (b:=.inl b[a]) (by
     have:IntKind.i64.wrap b[a]=b[a]:=by rw [wrap_id]<;>omega
     simp [st_wrsmall_0,idx,this,oB_s]),oB_s]
   refine⟨b[a],_,_,hsm,next_in b a _ hb hx (by omega),hc.1,hc.2,⟨hb,rfl,a+1,rfl,by omega,fun _=>⟨by omega,by rw [h2,List.drop_drop]⟩,fun h=>(by cases h)⟩,fun h=>(by cases h),fun h=>(by cases h)⟩
  ·refine⟨0,_,_,hshort _ (take_less 1 r hs (by omega)),next_over b a (by omega) (by omega) (by omega),by omega,by omega,⟨hb,rfl,a+1,by simp,by omega,fun h=>(by cases h),fun _=>?_⟩,fun _=>rfl,fun _=>rfl⟩
   omega
theorem str_in (b:List Int) (hb:bytesP b) (n:Nat) (hn:n≤256): ∀(suf acc:List Int) (i a:Nat) (tl:List Int),i+suf.length=n→b.drop a=suf++tl→acc.length≤i→a+suf.length≤140737488355328→cM (st_rrscan_str_0 (n:Int)) (acc,(i:Int),⟨b,(a:Int)⟩)=some (acc++suf,⟨b,((a+suf.length:Nat):Int)⟩)
 | [],acc,i,a,tl,hi,hd,hl,ha=>loopM_end (by
  simp only [oB_s,List.length_nil,Nat.add_zero] at hi
  subst hi
  simp only [oB_s,st_rrscan_str_0,geN (Nat.le_refl _),cond_false,List.append_nil];rfl)
 |c::suf,acc,i,a,tl,hi,hd,hl,ha=>by
  simp only [oB_s,List.length_cons] at hi ha
  have hx:b[a]? =some c:=by
   have:=List.getElem?_drop (xs:=b) (i:=a) (j:=0)
   rw [hd] at this
   simpa using this.symm
  have hd':b.drop (a+1)=suf++tl:=by
   have:b.drop (a+1)=(b.drop a).drop 1:=by rw [List.drop_drop]
   rw [this,hd];rfl
  have hc:=hb c (List.mem_of_getElem? hx)
  have hal:=get_lt hx
  have hw:IntKind.i64.wrap ((i:Int)+1)=((i+1:Nat):Int):=wrapN (by omega)
  have hnx:=next_in b a c hb hx (by omega)
  have hf:dh (acc.length+1) 1=true:=fits_of (by omega)
  have hu:IntKind.u8.wrap c=c:=by rw [u8wrap];omega
  have h':=str_in b hb n hn suf (acc++ [c]) (i+1) (a+1) tl (by omega) hd' (by simp;omega) (by omega)
  rw [loopM_on (a':=(acc++ [c],((i+1:Nat):Int),⟨b,((a+1:Nat):Int)⟩))]
  ·rw [h',List.length_cons,show a+1+suf.length=a+(suf.length+1) by omega];simp
  ·simp only [oB_s,st_rrscan_str_0,rrscan_over,hnx,hw,hf,hu,cond_true]
   rw [decide_eq_true (show (i:Int)<(n:Int) by omega),cond_true,decide_eq_false (show ¬(b.length:Int)<(a:Int) by omega),cond_false]
theorem str_out (b:List Int) (hb:bytesP b) (n:Nat) (hn:n≤256): ∀(rest acc:List Int) (i a:Nat),b.drop a=rest→a≤b.length→i+rest.length<n→acc.length≤i→allB acc=true→b.length≤140737488351232→ ∃l,cM (st_rrscan_str_0 (n:Int)) (acc,(i:Int),⟨b,(a:Int)⟩)=some (l,⟨b,((b.length+1:Nat):Int)⟩)∧allB l=true
 | [],acc,i,a,hd,ha,hi,hl,hA,hB=>by
  have hal:a=b.length:=by
   have:=congrArg List.length hd
   simp only [oB_s,List.length_drop,List.length_nil] at this;omega
  subst hal
  have hw:IntKind.i64.wrap ((i:Int)+1)=((i+1:Nat):Int):=wrapN (by simp at hi;omega)
  have hnx:=next_over b (b.length:Int) (by omega) (by omega) (by omega)
  simp only [oB_s,List.length_nil,Nat.add_zero] at hi
  have hf:dh (acc.length+1) 1=true:=fits_of (by omega)
  refine⟨acc++ [0],?_,by rw [allB_app,hA];rfl⟩
  rw [loopM_on (a':=(acc++ [0],((i+1:Nat):Int),⟨b,((b.length+1:Nat):Int)⟩))]
  ·refine loopM_end ?_
   simp only [oB_s,st_rrscan_str_0,rrscan_over]
   cases decide (((i+1:Nat):Int)<(n:Int)) with
   |false=>rfl
   |true=>rw [cond_true,decide_eq_true (by omega)];rfl
  ·have hu:IntKind.u8.wrap 0=0:=by rw [u8wrap];rfl
   simp only [oB_s,st_rrscan_str_0,rrscan_over,hnx,hw,hf,hu,cond_true]
   rw [decide_eq_true (show (i:Int)<(n:Int) by omega),cond_true,decide_eq_false (by omega),cond_false]
   rfl
 |c::rest,acc,i,a,hd,ha,hi,hl,hA,hB=>by
  simp only [oB_s,List.length_cons] at hi
  have hx:b[a]? =some c:=by
   have:=List.getElem?_drop (xs:=b) (i:=a) (j:=0)
   rw [hd] at this
   simpa using this.symm
  have hd':b.drop (a+1)=rest:=by
   have:b.drop (a+1)=(b.drop a).drop 1:=by rw [List.drop_drop]
   rw [this,hd];rfl
  have hc:=hb c (List.mem_of_getElem? hx)
  have hal:=get_lt hx
  have hw:IntKind.i64.wrap ((i:Int)+1)=((i+1:Nat):Int):=wrapN (by omega)
  have hnx:=next_in b a c hb hx (by omega)
  have hf:dh (acc.length+1) 1=true:=fits_of (by omega)
  have hu:IntKind.u8.wrap c=c:=by rw [u8wrap];omega
  obtain⟨l,h',hl'⟩:=str_out b hb n hn rest (acc++ [c]) (i+1) (a+1) hd' (by omega) (by omega) (by simp;omega) (by
   rw [allB_app,hA]
   simp only [oB_s,allB,List.all_cons,List.all_nil,Bool.and_true,Bool.true_and,decide_eq_true_eq];omega) hB
  refine⟨l,?_,hl'⟩
  rw [loopM_on (a':=(acc++ [c],((i+1:Nat):Int),⟨b,((a+1:Nat):Int)⟩))]
  ·exact h'
  ·simp only [oB_s,st_rrscan_str_0,rrscan_over,hnx,hw,hf,hu,cond_true]
   rw [decide_eq_true (show (i:Int)<(n:Int) by omega),cond_true,decide_eq_false (show ¬(b.length:Int)<(a:Int) by omega),cond_false]
theorem allB_bytes {l:List Int} (h:bytesP l):allB l=true:=by
 simp only [oB_s,allB,List.all_eq_true,decide_eq_true_eq]
 exact h
theorem strL_size (l:List Int):(strL l).size=l.length:=by
 simp [strL,ByteArray.size]
theorem text_simX {b:List Int} {r:Greader} {s:Gscan} {K:Nat} (h:Sim b r s K) (hK:K≤1000000000) (hB:b.length≤1000000): ∃v v' r' s',wrtext r=some (v,r')∧rrscan_str s=some (v',s')∧Sim b r' s' (K+1000000+300)∧(r.fshort=true→r'.fshort=true)∧(r'.fshort=false→v=v')∧v.size≤1000000:=by
 obtain⟨v,r1,s1,e1,e2,hv0,hv1,h1,hm,hz⟩:=small_sim h hK
 obtain⟨hb,rfl,a,ha,hk,hok,hsh⟩:=h1
 obtain⟨b,at_⟩:=s1
 simp only [oB_s] at ha hb hok hsh hB⊢
 subst ha
 obtain⟨n,rfl⟩:=Int.eq_ofNat_of_zero_le hv0
 have hn:n≤256:=by omega
 have hA0:allB []=true:=rfl
 have prog: ∀l r',wrtake (n:Int) r1=some (l,r')→allB l=true→wrtext r=some (strL l,r'):=by
  intro l r' ht hl
  unfold wrtext
  rw [e1];simp only [oB_s]
  rw [ht];simp only [oB_s,hl,cond_true]
 have doc: ∀l s',cM (st_rrscan_str_0 (n:Int)) ([],0,⟨b,(a:Int)⟩)=some (l,s')→allB l=true→rrscan_str s=some (strL l,s'):=by
  intro l r' ht hl
  unfold rrscan_str
  rw [e2];simp only [oB_s]
  rw [ht];simp only [oB_s,hl,cond_true]
 have e0:((0:Nat):Int)=0:=rfl
 cases hs:r1.fshort with
 |true=>
  have hn0:n=0:=by have:=hz hs;omega
  subst hn0
  have hd:=str_in b hb 0 (by omega) [] [] 0 a (b.drop a) rfl rfl (by simp) (by simp;omega)
  rw [e0] at hd
  refine⟨_,_,_,_,prog _ _ (take_short _ r1 hs) hA0,doc _ _ hd hA0,⟨hb,rfl,a,by simp,by omega,fun h=>(by cases h),fun _=>hsh hs⟩,fun _=>rfl,fun h=>(by cases h),(by rw [strL_size];simp)⟩
 |false=>
  obtain⟨h1,h2⟩:=hok hs
  have hr:r1.frest.length=b.length-a:=by rw [h2,List.length_drop]
  by_cases hlen:n≤r1.frest.length
  ·have hby:bytesP (r1.frest.take n):=by rw [h2];exact bytes_take (bytes_drop hb a) n
   have htl:(r1.frest.take n).length=n:=by rw [List.length_take];omega
   have hd:=str_in b hb n hn (r1.frest.take n) [] 0 a (r1.frest.drop n) (by omega) (by rw [←h2,List.take_append_drop]) (by simp) (by omega)
   rw [e0,List.nil_append,htl] at hd
   refine⟨_,_,_,_,prog _ _ (take_in n r1 hs hlen) (allB_bytes hby),doc _ _ hd (allB_bytes hby),⟨hb,rfl,a+n,rfl,by omega,fun _=>⟨by omega,by rw [h2,List.drop_drop]⟩,fun h=>(by cases h)⟩,fun h=>(by rw [hm h] at hs;cases hs),fun _=>rfl,(by rw [strL_size,htl];omega)⟩
  ·obtain⟨l,hd,hl⟩:=str_out b hb n hn r1.frest [] 0 a h2.symm h1 (by omega) (by simp) rfl (by omega)
   rw [e0] at hd
   refine⟨_,_,_,_,prog _ _ (take_less (n:Int) r1 hs (by omega)) hA0,doc _ _ hd hl,⟨hb,rfl,b.length+1,rfl,by omega,fun h=>(by cases h),fun _=>(by omega)⟩,fun _=>rfl,fun h=>(by cases h),(by rw [strL_size];simp)⟩
theorem text_sim {b:List Int} {r:Greader} {s:Gscan} {K:Nat} (h:Sim b r s K) (hK:K≤1000000000) (hB:b.length≤1000000): ∃v v' r' s',wrtext r=some (v,r')∧rrscan_str s=some (v',s')∧Sim b r' s' (K+1000000+300)∧(r.fshort=true→r'.fshort=true)∧(r'.fshort=false→v=v'):=by
 obtain⟨v,v',r1,s1,p,d,q,m,e,_⟩:=text_simX h hK hB
 exact⟨v,v',r1,s1,p,d,q,m,e⟩
theorem Sim.mono {b:List Int} {r:Greader} {s:Gscan} {K M:Nat} (h:Sim b r s K) (hM:K≤M):Sim b r s M:=by
 obtain⟨hb,hf,a,ha,hk,hok,hsh⟩:=h
 exact⟨hb,hf,a,ha,by omega,hok,hsh⟩
theorem not_short {r r':Greader} (h:r.fshort=true→r'.fshort=true) (h':r'.fshort=false):r.fshort=false:=by
 cases hr:r.fshort with
 |false=>rfl
 |true=>rw [h hr] at h';cases h'
theorem oB_some {α β:Type} {x:Option α} {f:α→Option β} {r:β} (h:oB x f=some r): ∃a,x=some a∧f a=some r:=by
 cases x with
 |none=>cases h
 |some a=>exact⟨a,rfl,h⟩
theorem number_ok {r r':Greader} {v:Int} (h:wrnumber r=some (v,r')):okI v:=by
 unfold wrnumber at h
 obtain⟨⟨l,r1⟩,_,h⟩:=oB_some h
 obtain⟨x,_,h⟩:=oB_some h
 simp only [Option.some.injEq,Prod.mk.injEq] at h
 obtain⟨rfl,_⟩:=h
 generalize IntKind.u64.wrap (x-4611686018427387904)=q
 rw [i64wrap]
 unfold okI
 omega
theorem small_ok {v:Int} (h1:0≤v) (h2:v<256):okI v:=by unfold okI;omega
theorem Sim.reset {b:List Int} {r:Greader} {s:Gscan} {K:Nat} (h:Sim b r s K) (hs:r.fshort=false) (hB:b.length≤1000000):Sim b r s 1000000:=by
 obtain⟨hb,hf,a,ha,hk,hok,hsh⟩:=h
 exact⟨hb,hf,a,ha,by have:=(hok hs).1;omega,hok,hsh⟩
theorem Sim.over {b:List Int} {r:Greader} {s:Gscan} {K:Nat} (h:Sim b r s K) (hs:r.fshort=true):(s.fb.length:Int)<s.fat:=by
 obtain⟨hb,hf,a,ha,hk,hok,hsh⟩:=h
 have:=hsh hs
 rw [hf,ha];omega
theorem Sim.inside {b:List Int} {r:Greader} {s:Gscan} {K:Nat} (h:Sim b r s K) (hs:r.fshort=false):decide ((s.fb.length:Int)<s.fat)=false:=by
 obtain⟨hb,hf,a,ha,hk,hok,hsh⟩:=h
 have:=(hok hs).1
 rw [hf,ha];exact decide_eq_false (by omega)
theorem reader_eta {r:Greader} (h:r.fshort=false):(⟨r.frest,false⟩:Greader)=r:=by
 obtain⟨l,q⟩:=r
 simp only at h
 rw [h]
theorem each_sim {β ρ τ:Type} {b:List Int} {N M:Nat} {stP:Int×Greader×β→Option ((Int×Greader×β)⊕(Greader×β))} {stD:τ→Option (τ⊕ρ)} (mk:Int→Gscan→β→τ) (out:Gscan→β→ρ) (Q Q':Nat→β→Prop)
  (hB:b.length≤1000000)
  (hPend: ∀r a,stP (0,r,a)=some (.inr (r,a)))
  (hPsh: ∀n r a,r.fshort=true→stP (n,r,a)=some (.inr (r,a)))
  (hDend: ∀s a,stD (mk N s a)=some (.inr (out s a)))
  (hDov: ∀i s a,(s.fb.length:Int)<s.fat→stD (mk i s a)=some (.inr (out s a)))
  (hQ: ∀i j a,i≤j→Q i a→Q j a) (hQ': ∀i j a,i≤j→Q' i a→Q' j a)
  (hEl: ∀(n i:Nat) r s a a',r.fshort=false→Sim b r s 1000000→i+(n+1)=N→Q i a→Q' i a'→ ∃r' s' c c',stP (((n+1:Nat):Int),r,a)=some (.inl ((n:Int),r',c))∧stD (mk (i:Int) s a')=some (.inl (mk ((i+1:Nat):Int) s' c'))∧Sim b r' s' M∧(r'.fshort=false→a=a'→c=c')∧Q (i+1) c∧Q' (i+1) c'):
  ∀(n i:Nat) r s a a' K,i+n=N→Sim b r s K→M≤K→(r.fshort=false→a=a')→Q i a→Q' i a'→ ∃r' s' c c',cM stP ((n:Int),r,a)=some (r',c)∧cM stD (mk (i:Int) s a')=some (out s' c')∧Sim b r' s' K∧(r.fshort=true→r'.fshort=true)∧(r'.fshort=false→c=c')∧Q N c∧Q' N c':=by
 intro n
 induction n with
 |zero=>
  intro i r s a a' K hi h hM he q q'
  have:i=N:=by omega
  subst this
  exact⟨r,s,a,a',loopM_end (hPend r a),loopM_end (hDend s a'),h,id,he,q,q'⟩
 |succ n ih=>
  intro i r s a a' K hi h hM he q q'
  cases hs:r.fshort with
  |true=>exact⟨r,s,a,a',loopM_end (hPsh _ r a hs),loopM_end (hDov _ s a' (h.over hs)),h,fun _=>hs,fun hf=>(by rw [hs] at hf;cases hf),hQ _ _ _ (by omega) q,hQ' _ _ _ (by omega) q'⟩
  |false=>
   obtain⟨r1,s1,c,c',e1,e2,h1,h2,q1,q1'⟩:=hEl n i r s a a' hs (h.reset hs hB) hi q q'
   obtain⟨r2,s2,d,d',f1,f2,g1,g2,g3,g4,g5⟩:=ih (i+1) r1 s1 c c' K (by omega) (h1.mono hM) hM (fun hf=>h2 hf (he hs)) q1 q1'
   exact⟨r2,s2,d,d',(loopM_on e1).trans f1,(loopM_on e2).trans f2,g1,fun hf=>(by cases hf),g3,g4,g5⟩
theorem down (n:Nat) (h:n≤1000):IntKind.i64.wrap (((n+1:Nat):Int)-1)=(n:Int):=by
 rw [wrap_id]<;>omega
theorem texts_sim {b:List Int} {r:Greader} {s:Gscan} {K:Nat} (h:Sim b r s K) (hK:5000000≤K) (hK':K≤900000000) (hB:b.length≤1000000): ∃l l' r' s',wrtexts r=some (l,r')∧rrscan_strs s=some (l',s')∧Sim b r' s' (K+1)∧(r.fshort=true→r'.fshort=true)∧(r'.fshort=false→l=l')∧l.length≤256∧ ∀y∈l,okS y:=by
 obtain⟨v,r1,s1,p1,d1,hv0,hv1,h1,m1,_⟩:=small_sim h (by omega)
 obtain⟨N,rfl⟩:=Int.eq_ofNat_of_zero_le hv0
 have hN:N<256:=by omega
 obtain⟨r2,s2,c,c',e1,e2,h2,m2,q2,hc,_⟩:=each_sim (b:=b) (N:=N) (M:=3000000) (stP:=st_wreach_wrtexts_fn1_0) (stD:=st_rrscan_strs_0 (N:Int)) (fun i s a=>(a,i,s)) (fun s a=>(a,s)) (fun i l=>l.length≤i∧ ∀y∈l,okS y) (fun i l=>l.length≤i) hB
  (fun r a=>by simp only [st_wreach_wrtexts_fn1_0];rfl)
  (fun n r a hs=>by simp only [st_wreach_wrtexts_fn1_0,hs];cases decide (0<n)<;>rfl)
  (fun s a=>by simp only [st_rrscan_strs_0];rw [decide_eq_false (by omega)];rfl)
  (fun i s a ho=>by simp only [st_rrscan_strs_0,rrscan_over,oB_s,decide_eq_true ho];cases decide (i<(N:Int))<;>rfl)
  (fun i j a hij q=>⟨by omega,q.2⟩) (fun i j a hij q=>by omega)
  (fun n i r s a a' hs hS hi q q'=>by
   obtain⟨x,x',r',s',px,dx,hx,_,ex,zx⟩:=text_simX hS (by omega) hB
   refine⟨r',s',a++ [x],a'++ [x'],?_,?_,hx.mono (by omega),fun hf e=>(by rw [ex hf,e]),⟨?_,?_⟩,?_⟩
   ·have hf:dh (a.length+1) 16=true:=fits_of (by omega)
    simp only [st_wreach_wrtexts_fn1_0,hs,cond_false,wrtexts_fn1,reader_eta hs,px,oB_s,hf,cond_true,down n (by omega)]
    rw [decide_eq_true (by omega),cond_true]
   ·have hf:dh (a'.length+1) 16=true:=fits_of (by omega)
    simp only [st_rrscan_strs_0,rrscan_over,hS.inside hs,dx,oB_s,hf,cond_true,cond_false,wrapN (show i≤140737488355328 by omega)]
    rw [decide_eq_true (by omega),cond_true]
   ·rw [List.length_append,List.length_singleton];omega
   ·intro y hy
    rcases List.mem_append.1 hy with hy|hy
    ·exact q.2 y hy
    ·rw [List.mem_singleton.1 hy];unfold okS;omega
   ·rw [List.length_append,List.length_singleton];omega)
  N 0 r1 s1 [] [] (K+1) (by omega) h1 (by omega) (fun _=>rfl) ⟨by simp,fun y hy=>by cases hy⟩ (by simp)
 have e0:((0:Nat):Int)=0:=rfl
 rw [e0] at e2
 refine⟨c,c',r2,s2,?_,?_,h2,fun hf=>m2 (m1 hf),q2,by omega,hc.2⟩
 ·simp only [wrtexts,wreach_wrtexts_fn1,p1,oB_s,e1]
 ·simp only [rrscan_strs,d1,oB_s,e2]
theorem okN_of {m n:Nat} (h:n≤1000) (hm:m≤1000):okN m n:=by
 unfold okN
 exact Nat.le_trans (Nat.mul_le_mul h hm) (by decide)
theorem okS_of {s:ByteArray} (h:s.size≤1000000):okS s:=by unfold okS;omega
theorem pairs_sim {b:List Int} {r:Greader} {s:Gscan} {K:Nat} (h:Sim b r s K) (hK:5000000≤K) (hK':K≤900000000) (hB:b.length≤1000000) (v v':GValue) (hv:v.ok) (h0:v.fPairs.length=0) (h0':v'.fPairs.length=0) (he:r.fshort=false→v=v'): ∃c c' r' s' n s1,wreach_wrvalue_fn1 r v=some (r',c)∧rrscan_next s=some (n,s1)∧cM (st_rrscan_valueNext_0 n) (0,s1,v')=some (s',c')∧Sim b r' s' (K+1)∧(r.fshort=true→r'.fshort=true)∧(r'.fshort=false→c=c')∧c.ok∧c.fScores=v.fScores∧c'.fScores=v'.fScores:=by
 obtain⟨n,r1,s1,p1,d1,hv0,hv1,h1,m1,_⟩:=small_sim h (by omega)
 obtain⟨N,rfl⟩:=Int.eq_ofNat_of_zero_le hv0
 have hN:N<256:=by omega
 obtain⟨r2,s2,c,c',e1,e2,h2,m2,q2,hc,hc'⟩:=each_sim (b:=b) (N:=N) (M:=4000000) (stP:=st_wreach_wrvalue_fn1_0) (stD:=st_rrscan_valueNext_0 (N:Int)) (fun i s a=>(i,s,a)) (fun s a=>(s,a)) (fun i a=>a.fPairs.length≤i∧a.ok∧a.fScores=v.fScores) (fun i a=>a.fPairs.length≤i∧a.fScores=v'.fScores) hB
  (fun r a=>by simp only [st_wreach_wrvalue_fn1_0];rfl)
  (fun n r a hs=>by simp only [st_wreach_wrvalue_fn1_0,hs];cases decide (0<n)<;>rfl)
  (fun s a=>by simp only [st_rrscan_valueNext_0];rw [decide_eq_false (by omega)];rfl)
  (fun i s a ho=>by simp only [st_rrscan_valueNext_0,rrscan_over,oB_s,decide_eq_true ho];cases decide (i<(N:Int))<;>rfl)
  (fun i j a hij q=>⟨by omega,q.2⟩) (fun i j a hij q=>⟨by omega,q.2⟩)
  (fun n i r s a a' hs hS hi q q'=>by
   obtain⟨x,x',r',s',px,dx,hx,mx,ex,zx⟩:=text_simX hS (by omega) hB
   obtain⟨y,y',r'',s'',py,dy,hy,my,ey,zy⟩:=text_simX hx (by omega) hB
   refine⟨r'',s'',{ a with fPairs:=a.fPairs++ [⟨x,y⟩] },{ a' with fPairs:=a'.fPairs++ [⟨x',y'⟩] },?_,?_,hy.mono (by omega),fun hf e=>?_,⟨?_,?_,q.2.2⟩,⟨?_,q'.2⟩⟩
   ·have hf:dh (a.fPairs.length+1) 32=true:=fits_of (by omega)
    simp only [st_wreach_wrvalue_fn1_0,hs,cond_false,wrvalue_fn1,reader_eta hs,px,py,oB_s,hf,cond_true,down n (by omega)]
    rw [decide_eq_true (by omega),cond_true]
   ·have hf:dh (a'.fPairs.length+1) 32=true:=fits_of (by omega)
    simp only [st_rrscan_valueNext_0,rrscan_over,hS.inside hs,dx,dy,oB_s,hf,cond_true,cond_false,wrapN (show i≤140737488355328 by omega)]
    rw [decide_eq_true (by omega),cond_true]
   ·rw [ey hf,ex (not_short my hf),e]
   ·simp only [List.length_append,List.length_singleton];omega
   ·obtain⟨o1,o2,o3,o4,o5,o6⟩:=q.2.1
    refine⟨o1,o2,o3,⟨okN_of (by simp only [List.length_append,List.length_singleton];omega) (by omega),fun z hz=>?_⟩,o5,o6⟩
    rcases List.mem_append.1 hz with hz|hz
    ·exact o4.2 z hz
    ·rw [List.mem_singleton.1 hz];exact⟨okS_of zx,okS_of zy⟩
   ·simp only [List.length_append,List.length_singleton];omega)
  N 0 r1 s1 v v' (K+1) (by omega) h1 (by omega) (fun hf=>he (not_short m1 hf)) ⟨by omega,hv,rfl⟩ ⟨by omega,rfl⟩
 refine⟨c,c',r2,s2,_,s1,?_,d1,e2,h2,fun hf=>m2 (m1 hf),q2,hc.2.1,hc.2.2,hc'.2⟩
 simp only [wreach_wrvalue_fn1,p1,oB_s,e1]
theorem scores_sim {b:List Int} {r:Greader} {s:Gscan} {K:Nat} (h:Sim b r s K) (hK:5000000≤K) (hK':K≤900000000) (hB:b.length≤1000000) (v v':GValue) (hv:v.ok) (h0:v.fScores.length=0) (h0':v'.fScores.length=0) (he:r.fshort=false→v=v'): ∃c c' r' s' n s1,wreach_wrvalue_fn2 r v=some (r',c)∧rrscan_next s=some (n,s1)∧cM (st_rrscan_valueNext_2 n) (0,s1,v')=some (s',c')∧Sim b r' s' (K+1)∧(r.fshort=true→r'.fshort=true)∧(r'.fshort=false→c=c')∧c.ok:=by
 obtain⟨n,r1,s1,p1,d1,hv0,hv1,h1,m1,_⟩:=small_sim h (by omega)
 obtain⟨N,rfl⟩:=Int.eq_ofNat_of_zero_le hv0
 have hN:N<256:=by omega
 obtain⟨r2,s2,c,c',e1,e2,h2,m2,q2,hc,hc'⟩:=each_sim (b:=b) (N:=N) (M:=4000000) (stP:=st_wreach_wrvalue_fn2_0) (stD:=st_rrscan_valueNext_2 (N:Int)) (fun i s a=>(i,s,a)) (fun s a=>(s,a)) (fun i a=>a.fScores.length≤i∧a.ok) (fun i a=>a.fScores.length≤i) hB
  (fun r a=>by simp only [st_wreach_wrvalue_fn2_0];rfl)
  (fun n r a hs=>by simp only [st_wreach_wrvalue_fn2_0,hs];cases decide (0<n)<;>rfl)
  (fun s a=>by simp only [st_rrscan_valueNext_2];rw [decide_eq_false (by omega)];rfl)
  (fun i s a ho=>by simp only [st_rrscan_valueNext_2,rrscan_over,oB_s,decide_eq_true ho];cases decide (i<(N:Int))<;>rfl)
  (fun i j a hij q=>⟨by omega,q.2⟩) (fun i j a hij q=>by omega)
  (fun n i r s a a' hs hS hi q q'=>by
   obtain⟨x,x',r',s',px,dx,hx,mx,ex,zx⟩:=text_simX hS (by omega) hB
   obtain⟨y,y',r'',s'',py,dy,hy,my,ey⟩:=number_sim hx (by omega)
   refine⟨r'',s'',{ a with fScores:=a.fScores++ [⟨x,y⟩] },{ a' with fScores:=a'.fScores++ [⟨x',y'⟩] },?_,?_,hy.mono (by omega),fun hf e=>?_,⟨?_,?_⟩,?_⟩
   ·have hf:dh (a.fScores.length+1) 24=true:=fits_of (by omega)
    simp only [st_wreach_wrvalue_fn2_0,hs,cond_false,wrvalue_fn2,reader_eta hs,px,py,oB_s,hf,cond_true,down n (by omega)]
    rw [decide_eq_true (by omega),cond_true]
   ·have hf:dh (a'.fScores.length+1) 24=true:=fits_of (by omega)
    simp only [st_rrscan_valueNext_2,rrscan_over,hS.inside hs,dx,dy,oB_s,hf,cond_true,cond_false,wrapN (show i≤140737488355328 by omega)]
    rw [decide_eq_true (by omega),cond_true]
   ·rw [ey hf,ex (not_short my hf),e]
   ·simp only [List.length_append,List.length_singleton];omega
   ·obtain⟨o1,o2,o3,o4,o5,o6⟩:=q.2
    refine⟨o1,o2,o3,o4,o5,⟨okN_of (by simp only [List.length_append,List.length_singleton];omega) (by omega),fun z hz=>?_⟩⟩
    rcases List.mem_append.1 hz with hz|hz
    ·exact o6.2 z hz
    ·rw [List.mem_singleton.1 hz];exact⟨okS_of zx,number_ok py⟩
   ·simp only [List.length_append,List.length_singleton];omega)
  N 0 r1 s1 v v' (K+1) (by omega) h1 (by omega) (fun hf=>he (not_short m1 hf)) ⟨by omega,hv⟩ (by omega)
 refine⟨c,c',r2,s2,_,s1,?_,d1,e2,h2,fun hf=>m2 (m1 hf),q2,hc.2⟩
 simp only [wreach_wrvalue_fn2,p1,oB_s,e1]
theorem value_sim {b:List Int} {r:Greader} {s:Gscan} {K:Nat} (h:Sim b r s K) (hK:5000000≤K) (hK':K≤800000000) (hB:b.length≤1000000): ∃v v' r' s',wrvalue r=some (v,r')∧rrscan_valueNext s=some (v',s')∧Sim b r' s' (K+1000400)∧(r.fshort=true→r'.fshort=true)∧(r'.fshort=false→v=v')∧v.ok:=by
 obtain⟨k,r1,s1,p1,d1,k0,k1,h1,m1,_⟩:=small_sim h (by omega)
 obtain⟨t,t',r2,s2,p2,d2,h2,m2,e2,z2⟩:=text_simX h1 (by omega) hB
 obtain⟨c,c',r3,s3,p3,d3,h3,m3,e3⟩:=number_sim h2 (by omega)
 have o0:(⟨k,t,c,[],[],[]⟩:GValue).ok:=⟨small_ok k0 k1,okS_of z2,number_ok p3,⟨okN_of (by simp) (by omega),fun y hy=>by cases hy⟩,⟨okN_of (by simp) (by omega),fun y hy=>by cases hy⟩,⟨okN_of (by simp) (by omega),fun y hy=>by cases hy⟩⟩
 obtain⟨v4,v4',r4,s4,n4,s4',p4,d4,l4,h4,m4,e4,o4,f4,f4'⟩:=pairs_sim h3 (by omega) (by omega) hB ⟨k,t,c,[],[],[]⟩ ⟨k,t',c',[],[],[]⟩ o0 rfl rfl (fun hf=>by rw [e3 hf,e2 (not_short m3 hf)])
 obtain⟨l,l',r5,s5,p5,d5,h5,m5,e5,z5,y5⟩:=texts_sim h4 (by omega) (by omega) hB
 have o5:(⟨v4.fKind,v4.fText,v4.fCount,v4.fPairs,l,v4.fScores⟩:GValue).ok:=⟨o4.1,o4.2.1,o4.2.2.1,o4.2.2.2.1,⟨okN_of (n:=l.length) (by omega) (by omega),y5⟩,o4.2.2.2.2.2⟩
 obtain⟨v6,v6',r6,s6,n6,s6',p6,d6,l6,h6,m6,e6,o6⟩:=scores_sim h5 (by omega) (by omega) hB ⟨v4.fKind,v4.fText,v4.fCount,v4.fPairs,l,v4.fScores⟩ ⟨v4'.fKind,v4'.fText,v4'.fCount,v4'.fPairs,l',v4'.fScores⟩ o5 (by simp [f4]) (by simp [f4']) (fun hf=>by rw [e5 hf,e4 (not_short m5 hf)])
 refine⟨v6,v6',r6,s6,?_,?_,h6.mono (by omega),fun hf=>m6 (m5 (m4 (m3 (m2 (m1 hf))))),e6,o6⟩
 ·simp only [wrvalue,p1,p2,p3,p4,p5,p6,oB_s]
 ·simp only [rrscan_valueNext,rrscan_valueNext_c0,d1,d2,d3,d4,l4,d5,d6,l6,oB_s]
theorem entries_sim {b:List Int} {r:Greader} {s:Gscan} {K:Nat} (h:Sim b r s K) (hK:20000000≤K) (hK':K≤700000000) (hB:b.length≤1000000) (v v':GMachine) (hv:v.ok) (h0:v.fStore.fEntries.length=0) (h0':v'.fStore.fEntries.length=0) (he:r.fshort=false→v=v'): ∃c c' r' s' n s1,wreach_wire_Decode_fn1 r v=some (r',c)∧rrscan_next s=some (n,s1)∧cM (st_rrMachineOf_0 n) (0,s1,v')=some (s',c')∧Sim b r' s' (K+1)∧(r.fshort=true→r'.fshort=true)∧(r'.fshort=false→c=c')∧c.ok∧c.fClients=v.fClients∧c'.fClients=v'.fClients:=by
 obtain⟨n,r1,s1,p1,d1,hv0,hv1,h1,m1,_⟩:=small_sim h (by omega)
 obtain⟨N,rfl⟩:=Int.eq_ofNat_of_zero_le hv0
 have hN:N<256:=by omega
 obtain⟨r2,s2,c,c',e1,e2,h2,m2,q2,hc,hc'⟩:=each_sim (b:=b) (N:=N) (M:=12000000) (stP:=st_wreach_wire_Decode_fn1_0) (stD:=st_rrMachineOf_0 (N:Int)) (fun i s a=>(i,s,a)) (fun s a=>(s,a)) (fun i a=>a.fStore.fEntries.length≤i∧a.ok∧a.fClients=v.fClients) (fun i a=>a.fStore.fEntries.length≤i∧a.fClients=v'.fClients) hB
  (fun r a=>by simp only [st_wreach_wire_Decode_fn1_0];rfl)
  (fun n r a hs=>by simp only [st_wreach_wire_Decode_fn1_0,hs];cases decide (0<n)<;>rfl)
  (fun s a=>by simp only [st_rrMachineOf_0];rw [decide_eq_false (by omega)];rfl)
  (fun i s a ho=>by simp only [st_rrMachineOf_0,rrscan_over,oB_s,decide_eq_true ho];cases decide (i<(N:Int))<;>rfl)
  (fun i j a hij q=>⟨by omega,q.2⟩) (fun i j a hij q=>⟨by omega,q.2⟩)
  (fun n i r s a a' hs hS hi q q'=>by
   obtain⟨x,x',ra,sa,px,dx,hx,mx,ex,zx⟩:=text_simX hS (by omega) hB
   obtain⟨y,y',rb,sb,py,dy,hy,my,ey,oy⟩:=value_sim (hx.mono (show _≤6000000 by omega)) (by omega) (by omega) hB
   obtain⟨z,z',rc,sc,pz,dz,hz,mz,ez⟩:=number_sim hy (by omega)
   refine⟨rc,sc,{ a with fStore:={ a.fStore with fEntries:=a.fStore.fEntries++ [⟨x,y,z⟩] } },{ a' with fStore:={ a'.fStore with fEntries:=a'.fStore.fEntries++ [⟨x',y',z'⟩] } },?_,?_,hz.mono (by omega),fun hf e=>?_,⟨?_,?_,q.2.2⟩,⟨?_,q'.2⟩⟩
   ·have hf:dh (a.fStore.fEntries.length+1) 128=true:=fits_of (by omega)
    simp only [st_wreach_wire_Decode_fn1_0,hs,cond_false,wire_Decode_fn1,reader_eta hs,px,py,pz,oB_s,hf,cond_true,down n (by omega)]
    rw [decide_eq_true (by omega),cond_true]
   ·have hf:dh (a'.fStore.fEntries.length+1) 128=true:=fits_of (by omega)
    simp only [st_rrMachineOf_0,rrscan_over,hS.inside hs,dx,dy,dz,oB_s,hf,cond_true,cond_false,wrapN (show i≤140737488355328 by omega)]
    rw [decide_eq_true (by omega),cond_true]
   ·have hb:=not_short mz hf
    rw [ez hf,ey hb,ex (not_short my hb),e]
   ·simp only [List.length_append,List.length_singleton];omega
   ·obtain⟨⟨o1,o2⟩,o3,o4⟩:=q.2.1
    refine⟨⟨o1,⟨okN_of (by simp only [List.length_append,List.length_singleton];omega) (by omega),fun w hw=>?_⟩⟩,o3,o4⟩
    rcases List.mem_append.1 hw with hw|hw
    ·exact o2.2 w hw
    ·rw [List.mem_singleton.1 hw];exact⟨okS_of zx,oy,number_ok pz⟩
   ·simp only [List.length_append,List.length_singleton];omega)
  N 0 r1 s1 v v' (K+1) (by omega) h1 (by omega) (fun hf=>he (not_short m1 hf)) ⟨by omega,hv,rfl⟩ ⟨by omega,rfl⟩
 refine⟨c,c',r2,s2,_,s1,?_,d1,e2,h2,fun hf=>m2 (m1 hf),q2,hc.2.1,hc.2.2,hc'.2⟩
 simp only [wreach_wire_Decode_fn1,p1,oB_s,e1]
theorem clients_sim {b:List Int} {r:Greader} {s:Gscan} {K:Nat} (h:Sim b r s K) (hK:20000000≤K) (hK':K≤700000000) (hB:b.length≤1000000) (v v':GMachine) (hv:v.ok) (h0:v.fClients.length=0) (h0':v'.fClients.length=0) (he:r.fshort=false→v=v'): ∃c c' r' s' n s1,wreach_wire_Decode_fn2 r v=some (r',c)∧rrscan_next s=some (n,s1)∧cM (st_rrMachineOf_2 n) (0,s1,v')=some (s',c')∧Sim b r' s' (K+1)∧(r.fshort=true→r'.fshort=true)∧(r'.fshort=false→c=c')∧c.ok:=by
 obtain⟨n,r1,s1,p1,d1,hv0,hv1,h1,m1,_⟩:=small_sim h (by omega)
 obtain⟨N,rfl⟩:=Int.eq_ofNat_of_zero_le hv0
 have hN:N<256:=by omega
 obtain⟨r2,s2,c,c',e1,e2,h2,m2,q2,hc,hc'⟩:=each_sim (b:=b) (N:=N) (M:=12000000) (stP:=st_wreach_wire_Decode_fn2_0) (stD:=st_rrMachineOf_2 (N:Int)) (fun i s a=>(i,s,a)) (fun s a=>(s,a)) (fun i a=>a.fClients.length≤i∧a.ok) (fun i a=>a.fClients.length≤i) hB
  (fun r a=>by simp only [st_wreach_wire_Decode_fn2_0];rfl)
  (fun n r a hs=>by simp only [st_wreach_wire_Decode_fn2_0,hs];cases decide (0<n)<;>rfl)
  (fun s a=>by simp only [st_rrMachineOf_2];rw [decide_eq_false (by omega)];rfl)
  (fun i s a ho=>by simp only [st_rrMachineOf_2,rrscan_over,oB_s,decide_eq_true ho];cases decide (i<(N:Int))<;>rfl)
  (fun i j a hij q=>⟨by omega,q.2⟩) (fun i j a hij q=>by omega)
  (fun n i r s a a' hs hS hi q q'=>by
   obtain⟨x1,x1',ra,sa,pa,da,ha,ma,ea⟩:=number_sim hS (by omega)
   obtain⟨x2,x2',rb,sb,pb,db,hb,mb,eb⟩:=number_sim ha (by omega)
   obtain⟨x3,x3',rc,sc,pc,dc,hc,mc,ec⟩:=number_sim hb (by omega)
   obtain⟨x4,rd,sd,pd,dd,k0,k1,hd,md,_⟩:=small_sim hc (by omega)
   obtain⟨x5,x5',re,se,pe,de,hE,me,ee,ze⟩:=text_simX hd (by omega) hB
   obtain⟨x6,x6',rf,sf,pf,df,hF,mf,ef⟩:=number_sim hE (by omega)
   obtain⟨x7,x7',rg,sg,pg,dg,hG,mg,eg,zg,yg⟩:=texts_sim (hF.mono (show _≤6000000 by omega)) (by omega) (by omega) hB
   refine⟨rg,sg,{ a with fClients:=a.fClients++ [⟨x1,x2,x3,⟨x4,x5,x6,x7⟩⟩] },{ a' with fClients:=a'.fClients++ [⟨x1',x2',x3',⟨x4,x5',x6',x7'⟩⟩] },?_,?_,hG.mono (by omega),fun h7 e=>?_,⟨?_,?_⟩,?_⟩
   ·have hf:dh (a.fClients.length+1) 80=true:=fits_of (by omega)
    simp only [st_wreach_wire_Decode_fn2_0,hs,cond_false,wire_Decode_fn2,wire_Decode_fn2_c0,reader_eta hs,pa,pb,pc,pd,pe,pf,pg,oB_s,hf,cond_true,down n (by omega)]
    rw [decide_eq_true (by omega),cond_true]
   ·have hf:dh (a'.fClients.length+1) 80=true:=fits_of (by omega)
    simp only [st_rrMachineOf_2,st_rrMachineOf_2_c0,rrscan_over,hS.inside hs,da,db,dc,dd,de,df,dg,oB_s,hf,cond_true,cond_false,wrapN (show i≤140737488355328 by omega)]
    rw [decide_eq_true (by omega),cond_true]
   ·have h6:=not_short mg h7
    have h5:=not_short mf h6
    have h4:=not_short me h5
    have h3:=not_short md h4
    have h2:=not_short mc h3
    rw [eg h7,ef h6,ee h5,ec h3,eb h2,ea (not_short mb h2),e]
   ·simp only [List.length_append,List.length_singleton];omega
   ·obtain⟨o1,o2,o3⟩:=q.2
    refine⟨o1,o2,⟨okN_of (by simp only [List.length_append,List.length_singleton];omega) (by omega),fun w hw=>?_⟩⟩
    rcases List.mem_append.1 hw with hw|hw
    ·exact o3.2 w hw
    ·rw [List.mem_singleton.1 hw];exact⟨number_ok pa,number_ok pb,number_ok pc,small_ok k0 k1,okS_of ze,number_ok pf,⟨okN_of (n:=x7.length) (by omega) (by omega),yg⟩⟩
   ·simp only [List.length_append,List.length_singleton];omega)
  N 0 r1 s1 v v' (K+1) (by omega) h1 (by omega) (fun hf=>he (not_short m1 hf)) ⟨by omega,hv⟩ (by omega)
 refine⟨c,c',r2,s2,_,s1,?_,d1,e2,h2,fun hf=>m2 (m1 hf),q2,hc.2⟩
 simp only [wreach_wire_Decode_fn2,p1,oB_s,e1]
theorem zero_ok {n:Int} (h:okI n):(⟨⟨n,[]⟩,0,[]⟩:GMachine).ok:=⟨⟨h,⟨okN_of (by simp) (by omega),fun y hy=>by cases hy⟩⟩,(show okI 0 by unfold okI;omega),⟨okN_of (by simp) (by omega),fun y hy=>by cases hy⟩⟩
theorem decode_eq (l:List Int) (hb:bytesP l): ∃m e,wire_Decode l=some (m,e)∧rrMachineOf l=some (m,e)∧m.ok:=by
 have z0:(⟨⟨0,[]⟩,0,[]⟩:GMachine).ok:=zero_ok (by unfold okI;omega)
 unfold wire_Decode rrMachineOf
 by_cases hl:(20000:Int)<(l.length:Int)
 ·rw [decide_eq_true hl]
  exact⟨_,_,rfl,rfl,z0⟩
 ·rw [decide_eq_false hl]
  have hf:dh l.length 1=true:=fits_of (by omega)
  have h0:Sim l ⟨l,false⟩ ⟨l,((0:Nat):Int)⟩ 20000000:=⟨hb,rfl,0,rfl,by omega,fun _=>⟨by omega,rfl⟩,fun h=>(by cases h)⟩
  obtain⟨a,a',r1,s1,p1,d1,h1,m1,e1⟩:=number_sim h0 (by omega)
  have d1':rrscan_long ⟨l,0⟩=some (a',s1):=d1
  obtain⟨b,b',r2,s2,n2,s2',p2,d2,l2,h2,m2,e2,o2,f2,f2'⟩:=entries_sim h1 (by omega) (by omega) (by omega) ⟨⟨a,[]⟩,0,[]⟩ ⟨⟨a',[]⟩,0,[]⟩ (zero_ok (number_ok p1)) rfl rfl (fun hf=>by rw [e1 hf])
  obtain⟨c,c',r3,s3,p3,d3,h3,m3,e3⟩:=number_sim h2 (by omega)
  obtain⟨d,d',r4,s4,n4,s4',p4,d4,l4,h4,m4,e4,o4⟩:=clients_sim h3 (by omega) (by omega) (by omega) ⟨b.fStore,c,b.fClients⟩ ⟨b'.fStore,c',b'.fClients⟩ ⟨o2.1,number_ok p3,o2.2.2⟩ (by simp [f2]) (by simp [f2']) (fun hf=>by rw [e3 hf,e2 (not_short m3 hf)])
  simp only [cond_false,sKbyte_byte_z,hf,cond_true,oB_s,p1,d1',wire_Decode_c0,p2,d2,l2,p3,p4,rrMachineOf_c1,d3,d4,l4,rrMachineOf_c0]
  obtain⟨_,hfb,k,ha,hk,hok,hsh⟩:=h4
  obtain⟨b4,at_⟩:=s4
  simp only at hfb ha
  subst hfb ha
  unfold wrend rrscan_end rrscan_over
  cases hs:r4.fshort with
  |true=>
   have:=hsh hs
   simp only [oB_s,cond_true]
   rw [decide_eq_true (by omega)]
   exact⟨_,_,rfl,rfl,z0⟩
  |false=>
   obtain⟨g1,g2⟩:=hok hs
   obtain rfl:=e4 hs
   have hov:decide ((b4.length:Int)<(k:Int))=false:=decide_eq_false (by omega)
   have hr:r4.frest.length=b4.length-k:=by rw [g2,List.length_drop]
   simp only [oB_s,cond_false,cond_true,hov]
   by_cases he:k<b4.length
   ·rw [decide_eq_true (show (0:Int)<(r4.frest.length:Int) by omega),decide_eq_true (show (k:Int)<(b4.length:Int) by omega)]
    exact⟨_,_,rfl,rfl,z0⟩
   ·rw [decide_eq_false (show ¬(0:Int)<(r4.frest.length:Int) by omega),decide_eq_false (show ¬(k:Int)<(b4.length:Int) by omega)]
    simp only [oB_s,cond_false,beq_self_eq_true,cond_true,ck_rrMachineOf_q104,mach_p d o4,mach_r d o4]
    cases machB d with
    |true=>exact⟨_,_,rfl,rfl,o4⟩
    |false=>exact⟨_,_,rfl,rfl,z0⟩
theorem loop_thru {α R:Type} {step:Int→Option (Int⊕R)} (l:List α) (e:R) (hs: ∀(i:Nat) x,l[i]? =some x→step i=some (.inl ((i+1:Nat):Int))) (he:step l.length=some (.inr e)):cM step 0=some e:=by
 have key: ∀(k i:Nat),i+k=l.length→cM step (i:Int)=some e:=by
  intro k
  induction k with
  |zero=>
   intro i hi
   have:i=l.length:=by omega
   subst this
   exact loopM_end he
  |succ k ih=>
   intro i hi
   exact (loopM_on (hs i l[i] (List.getElem?_eq_getElem (by omega)))).trans (ih (i+1) (by omega))
 exact key l.length 0 (by omega)
theorem same_texts (l:List ByteArray) (hl:l.length≤140737488351232):rlsameTexts l l=some true:=by
 unfold rlsameTexts
 rw [beq_self_eq_true,cond_true,loop_thru l (.inr ()) (fun i x hx=>by
  simp only [st_rlsameTexts_0,ltN (get_lt hx),cond_true,idx_get hx,oB_s,seqB_self,wrapN (show i≤140737488355328 by have:=get_lt hx;omega)]) (by simp only [st_rlsameTexts_0,geN (Nat.le_refl _),cond_false]),oB_s]
theorem len_ok {m n:Nat} (h:okN m n) (hm:1≤m):n≤140737488351232:=by
 unfold okN at h
 exact Nat.le_trans (Nat.le_mul_of_pos_right n hm) h
theorem same_value (v:GValue) (ok:v.ok):rlsameValue v v=some true:=by
 obtain⟨_,_,_,o4,o5,o6⟩:=ok
 have h4:=len_ok o4.1 (by omega)
 have h6:=len_ok o6.1 (by omega)
 have h:ck_rlsameValue_k1 v v=some false:=by
  simp only [ck_rlsameValue_k1,beq_self_eq_true,seqB_self,cond_true,same_texts _ (len_ok o5.1 (by omega)),oB_s,Bool.not_true]
 simp only [rlsameValue,rlsameValue_c0,h,oB_s,cond_false]
 rw [loop_thru v.fPairs (.inr ()) (fun i x hx=>by
  simp only [st_rlsameValue_0,ltN (get_lt hx),cond_true,idx_get hx,oB_s,seqB_self,wrapN (show i≤140737488355328 by have:=get_lt hx;omega)]) (by simp only [st_rlsameValue_0,geN (Nat.le_refl _),cond_false]),oB_s]
 simp only
 rw [loop_thru v.fScores (.inr ()) (fun i x hx=>by
  simp only [st_rlsameValue_2,ltN (get_lt hx),cond_true,idx_get hx,oB_s,seqB_self,beq_self_eq_true,wrapN (show i≤140737488355328 by have:=get_lt hx;omega)]) (by simp only [st_rlsameValue_2,geN (Nat.le_refl _),cond_false]),oB_s]
theorem same_store (s:GStore) (ok:s.ok):rlsameStore s s=some true:=by
 have h2:=len_ok ok.2.1 (by omega)
 simp only [rlsameStore,beq_self_eq_true,cond_true]
 rw [loop_thru s.fEntries (.inr ()) (fun i x hx=>by
  have hk:ck_rlsameStore_k8v2 s s (i:Int) x x=some false:=by
   simp only [ck_rlsameStore_k8v2,seqB_self,beq_self_eq_true,cond_true,same_value _ (ok.2.2 x (List.mem_of_getElem? hx)).2.1,oB_s,Bool.not_true]
  simp only [st_rlsameStore_0,ltN (get_lt hx),cond_true,cond_false,idx_get hx,oB_s,hk,wrapN (show i≤140737488355328 by have:=get_lt hx;omega)]) (by simp only [st_rlsameStore_0,geN (Nat.le_refl _),cond_false]),oB_s]
theorem same_reply (r:GReply) (ok:r.ok):rlsameReply r r=some true:=by
 simp only [rlsameReply,ck_rlsameReply_k1,beq_self_eq_true,seqB_self,cond_true,same_texts _ (len_ok ok.2.2.2.1 (by omega)),oB_s]
theorem same_machine (m:GMachine) (ok:m.ok):rlsameMachine m m=some true:=by
 obtain⟨o1,_,o3⟩:=ok
 have h3:=len_ok o3.1 (by omega)
 have h:ck_rlsameMachine_k1 m m=some false:=by
  simp only [ck_rlsameMachine_k1,beq_self_eq_true,cond_true,same_store _ o1,oB_s,Bool.not_true]
 simp only [rlsameMachine,h,oB_s,cond_false]
 rw [loop_thru m.fClients (.inr ()) (fun i x hx=>by
  have hk:ck_rlsameMachine_k8v2 m m (i:Int) x x=some false:=by
   simp only [ck_rlsameMachine_k8v2,beq_self_eq_true,cond_true,same_reply _ (o3.2 x (List.mem_of_getElem? hx)).2.2.2,oB_s,Bool.not_true]
  simp only [st_rlsameMachine_0,ltN (get_lt hx),cond_true,cond_false,idx_get hx,oB_s,hk,wrapN (show i≤140737488355328 by have:=get_lt hx;omega)]) (by simp only [st_rlsameMachine_0,geN (Nat.le_refl _),cond_false]),oB_s]
theorem WireDecodes_pure (l:List Int) (ok:okN 1 l.length∧ ∀y∈l,(IntKind.u8).min≤y∧y≤(IntKind.u8).max):rlWireDecodes l=some true:=by
 have h1:=ok.1
 unfold okN at h1
 have hb:bytesP l:=fun y hy=>by
  have:=ok.2 y hy
  simp only [IntKind.min,IntKind.max,IntKind.bits,IntKind.signed] at this
  have h1:=this.1;have h2:=this.2
  simp at h1 h2
  omega
 have hf:dh l.length 1=true:=fits_of (by omega)
 obtain⟨m,e,p,d,o⟩:=decode_eq l hb
 unfold rlWireDecodes rloctets_z
 simp only [hf,cond_true,oB_s,p,d,beq_self_eq_true,same_machine m o]
end Go.Proofs.Ytgcglmoogaldbaa
