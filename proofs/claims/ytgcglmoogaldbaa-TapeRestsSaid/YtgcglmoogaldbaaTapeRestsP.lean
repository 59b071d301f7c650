/- The law TapeRests on the plain functions: it answers true at every argument of the sizes that the form allows. -/
import Derived.Test.YtgcglmoogaldbaaWTy
import Derived.Test.YtgcglmoogaldbaaTapeRestsD
set_option linter.unusedSimpArgs false
set_option linter.unusedVariables false
set_option linter.constructorNameAsVariable false
set_option linter.unnecessarySimpa false
namespace Go.Proofs.Ytgcglmoogaldbaa
open Go Go.Mx Go.Proofs
theorem u8wrap (n:Int):IntKind.u8.wrap n=n % 256:=by
 simp [IntKind.wrap,IntKind.min,IntKind.max,IntKind.bits,IntKind.signed]
theorem u64wrap {n:Int} (h1:0≤n) (h2:n<18446744073709551616):IntKind.u64.wrap n=n:=by
 simp [IntKind.wrap,IntKind.min,IntKind.max,IntKind.bits,IntKind.signed];omega
theorem fits_of {n b:Nat} (h:(n:Int)*b≤140737488355328):dh n b=true:=fJ.2 h
theorem idx_get {α:Type} {l:List α} {i:Nat} {x:α} (h:l[i]? =some x):idx l (i:Int)=some x:=by
 unfold idx
 rw [if_pos (by omega)]
 simpa using h
theorem idx_app {α:Type} (l:List α) (x:α) (m:List α):idx (l++x::m) (l.length:Int)=some x:=idx_get (by simp)
theorem seqB_self (a:ByteArray):cY a a=true:=by unfold cY;exact beq_self_eq_true _
theorem allB_app (l m:List Int):allB (l++m)=(allB l&&allB m):=by simp [allB]
theorem allB_byL (s:ByteArray):allB (byL s)=true:=by
 simp only [oB_s,allB,byL,List.all_map,List.all_eq_true,Function.comp,decide_eq_true_eq]
 intro b _
 exact⟨Int.natCast_nonneg _,by have:=b.toNat_lt;omega⟩
theorem byL_len (s:ByteArray):(byL s).length=s.size:=by
 simp only [oB_s,byL,List.length_map];rfl
def num8 (n:Int):List Int:=[(n+4611686018427387904) / 72057594037927936 % 256,(n+4611686018427387904) / 281474976710656 % 256,(n+4611686018427387904) / 1099511627776 % 256,(n+4611686018427387904) / 4294967296 % 256,(n+4611686018427387904) / 16777216 % 256,(n+4611686018427387904) / 65536 % 256,(n+4611686018427387904) / 256 % 256,(n+4611686018427387904) % 256]
theorem num8_len (n:Int):(num8 n).length=8:=rfl
theorem allB_num8 (n:Int):allB (num8 n)=true:=by
 simp only [oB_s,allB,num8,List.all_cons,List.all_nil,Bool.and_true,Bool.and_eq_true,decide_eq_true_eq]
 omega
def in62 (n:Int):Prop:=-4611686018427387904≤n∧n<4611686018427387904
def txt8 (s:ByteArray):List Int:=(s.size:Int) % 256::byL s
theorem allB_txt8 (s:ByteArray):allB (txt8 s)=true:=by
 have:=allB_byL s
 simp only [oB_s,allB,txt8,List.all_cons,Bool.and_eq_true,decide_eq_true_eq] at*
 exact⟨by omega,this⟩
theorem txt8_len (s:ByteArray):(txt8 s).length=s.size+1:=by simp [txt8,byL_len]
def run {α σ R:Type} (f:Nat→α→σ→σ⊕R) (e:σ→R):Nat→List α→σ→R
 |_,[],s=>e s
 |i,x::l,s=>match f i x s with
  | .inl s'=>run f e (i+1) l s'
  | .inr r=>r
theorem loop_list {α σ τ R:Type} {step:τ→Option (τ⊕R)} (l:List α) (mk:Int→σ→τ) (I:Nat→σ→Prop) (f:Nat→α→σ→σ⊕R) (e:σ→R)
  (hs: ∀i x s,l[i]? =some x→I i s→step (mk i s)=some (match f i x s with| .inl s'=>.inl (mk ((i+1:Nat):Int) s')| .inr r=>.inr r))
  (hi: ∀i x s s',l[i]? =some x→I i s→f i x s= .inl s'→I (i+1) s')
  (he: ∀(i:Nat) s,l.length≤i→I i s→step (mk i s)=some (.inr (e s))) (k:Nat) (s:σ) (h0:I k s):cM step (mk k s)=some (run f e k (l.drop k) s):=by
 generalize hm:l.drop k=m
 induction m generalizing k s with
 |nil=>
  have:l.length≤k:=by
   have:=congrArg List.length hm
   simp only [oB_s,List.length_drop,List.length_nil] at this
   omega
  exact loopM_end (he k s this h0)
 |cons x m ih=>
  have hx:l[k]? =some x:=by
   have:=List.getElem?_drop (xs:=l) (i:=k) (j:=0)
   rw [hm] at this
   simpa using this.symm
  have hm':l.drop (k+1)=m:=by
   have:l.drop (k+1)=(l.drop k).drop 1:=by rw [List.drop_drop]
   rw [this,hm];rfl
  have h1:=hs k x s hx h0
  simp only [oB_s,run]
  cases hf:f k x s with
  |inl s'=>
   rw [hf] at h1
   rw [loopM_on h1]
   exact ih (k+1) s' (hi k x s s' hx h0 hf) hm'
  |inr r=>
   rw [hf] at h1
   exact loopM_end h1
def allI {α:Type} (p:Nat→α→Bool):Nat→List α→Bool
 |_,[]=>true
 |k,x::l=>p k x&&allI p (k+1) l
theorem allI_and {α:Type} (p q:Nat→α→Bool) (k:Nat) (l:List α):allI (fun i x=>p i x&&q i x) k l=(allI p k l&&allI q k l):=by
 induction l generalizing k with
 |nil=>rfl
 |cons x l ih=>
  simp only [oB_s,allI,ih]
  cases p k x<;>cases q k x<;>simp
theorem allI_congr {α:Type} {p q:Nat→α→Bool} (k:Nat) (l m:List α) (hm:l=m.drop k) (h: ∀i x,m[i]? =some x→k≤i→p i x=q i x):allI p k l=allI q k l:=by
 induction l generalizing k with
 |nil=>rfl
 |cons x l ih=>
  have hx:m[k]? =some x:=by
   have:=List.getElem?_drop (xs:=m) (i:=k) (j:=0)
   rw [←hm] at this
   simpa using this.symm
  have hm':l=m.drop (k+1):=by
   have:m.drop (k+1)=(m.drop k).drop 1:=by rw [List.drop_drop]
   rw [this,←hm];rfl
  simp only [oB_s,allI]
  rw [h k x hx (Nat.le_refl _),ih (k+1) hm' (fun i y hy hk=>h i y hy (by omega))]
theorem loop_all {α:Type} {step:Int→Option (Int⊕(Unit⊕Unit))} (l:List α) (k:Nat) (p:Nat→α→Bool)
  (hs: ∀i x,l[i]? =some x→k≤i→step i=some (bif p i x then .inl ((i+1:Nat):Int) else .inr (.inl ())))
  (he: ∀i:Nat,l.length≤i→step i=some (.inr (.inr ()))):cM step (k:Int)=some (bif allI p k (l.drop k) then .inr () else .inl ()):=by
 have h:=loop_list (step:=step) l (fun i (_:Unit)=>i) (fun i _=>k≤i) (fun i x _=>bif p i x then .inl () else .inr (.inl ())) (fun _=>.inr ()) (fun i x s hx hk=>by
  rw [hs i x hx hk];cases p i x<;>rfl) (fun i x s s' _ hk _=>Nat.le_succ_of_le hk) (fun i s hl _=>he i hl) k () (Nat.le_refl _)
 rw [h]
 congr 1
 have: ∀(m:List α) (j:Nat),run (fun i x (_:Unit)=>bif p i x then .inl () else .inr (.inl ())) (fun _=>(.inr ():Unit⊕Unit)) j m ()=bif allI p j m then .inr () else .inl ():=by
  intro m
  induction m with
  |nil=>intro j;rfl
  |cons x m ih=>
   intro j
   simp only [oB_s,run,allI]
   cases p j x with
   |false=>rfl
   |true=>exact ih (j+1)
 exact this _ _
def firstI {α:Type} (p:α→Bool):Nat→List α→Option Nat
 |_,[]=>none
 |k,x::l=>bif p x then some k else firstI p (k+1) l
theorem loop_first {α τ R:Type} {step:τ→Option (τ⊕R)} (mk:Int→τ) (l:List α) (p:α→Bool) (y:Nat→R) (n:R)
  (hs: ∀(i:Nat) x,l[i]? =some x→step (mk i)=some (bif p x then .inr (y i) else .inl (mk ((i+1:Nat):Int))))
  (he:step (mk l.length)=some (.inr n)):cM step (mk 0)=some (match firstI p 0 l with|some i=>y i|none=>n):=by
 have h:=loop_list (step:=step) l (fun i (_:Unit)=>mk i) (fun i _=>i≤l.length) (fun i x _=>bif p x then .inr (y i) else .inl ()) (fun _=>n) (fun i x s hx hk=>by
  rw [hs i x hx];cases p x<;>rfl) (fun i x s s' hx hk _=>by have:=(List.getElem?_eq_some_iff.1 hx).1;omega) (fun i s hl hk=>by rw [Nat.le_antisymm hk hl];exact he) 0 () (Nat.zero_le _)
 refine h.trans ?_
 congr 1
 have: ∀(m:List α) (j:Nat),run (fun i x (_:Unit)=>bif p x then .inr (y i) else .inl ()) (fun _=>n) j m ()=match firstI p j m with|some i=>y i|none=>n:=by
  intro m
  induction m with
  |nil=>intro j;rfl
  |cons x m ih=>
   intro j
   simp only [oB_s,run,firstI]
   cases p x with
   |true=>rfl
   |false=>exact ih (j+1)
 exact this _ _
theorem first_any {α:Type} (p:α→Bool) (k:Nat) (l:List α):(firstI p k l).isSome=l.any p:=by
 induction l generalizing k with
 |nil=>rfl
 |cons x l ih=>
  simp only [oB_s,firstI,List.any_cons]
  cases p x with
  |true=>rfl
  |false=>simpa using ih (k+1)
theorem allI_any {α:Type} (p:α→Bool) (k:Nat) (l:List α):allI (fun _ x=>!(p x)) k l= !(l.any p):=by
 induction l generalizing k with
 |nil=>rfl
 |cons x l ih=>
  simp only [oB_s,allI,List.any_cons,Bool.not_or,ih]
theorem loop_copy {α τ R:Type} {step:τ→Option (τ⊕R)} (mk:Int→List α→τ) (l:List α) (e:List α→R)
  (hs: ∀(i:Nat) x,l[i]? =some x→step (mk i (l.take i))=some (.inl (mk ((i+1:Nat):Int) (l.take i++ [x]))))
  (he:step (mk l.length l)=some (.inr (e l))):cM step (mk 0 [])=some (e l):=by
 have h:=loop_list (step:=step) l mk (fun i s=>i≤l.length∧s=l.take i) (fun i x s=>.inl (s++ [x])) e (fun i x s hx hk=>by
  rw [hk.2,hs i x hx]) (fun i x s s' hx hk hf=>by
   have:=(List.getElem?_eq_some_iff.1 hx)
   obtain⟨h1,h2⟩:=this
   refine⟨by omega,?_⟩
   simp only [oB_s,Sum.inl.injEq] at hf
   rw [←hf,hk.2,←h2,List.take_append_getElem h1]) (fun i s hl hk=>by
   have hil:i=l.length:=by omega
   rw [hk.2,hil,List.take_length];exact he) 0 [] ⟨Nat.zero_le _,by simp⟩
 refine h.trans ?_
 congr 1
 have: ∀(m s:List α) (j:Nat),run (fun i x (s:List α)=>(.inl (s++ [x]):List α⊕R)) e j m s=e (s++m):=by
  intro m
  induction m with
  |nil=>intro s j;simp [run]
  |cons x m ih=>
   intro s j
   simp only [oB_s,run]
   rw [ih];simp
 rw [this];simp
theorem wrapN {n:Nat} (h:n≤140737488355328):IntKind.i64.wrap ((n:Int)+1)=((n+1:Nat):Int):=by
 rw [wrap_id]<;>omega
theorem wrapN1 {n:Nat} (h:n≤140737488355328):IntKind.i64.wrap ((n:Int)-1)=(n:Int)-1:=by
 rw [wrap_id]<;>omega
theorem get_lt {α:Type} {l:List α} {i:Nat} {x:α} (h:l[i]? =some x):i<l.length:=(List.getElem?_eq_some_iff.1 h).1
theorem ltN {i n:Nat} (h:i<n):decide ((i:Int)<(n:Int))=true:=decide_eq_true (by omega)
theorem geN {i n:Nat} (h:n≤i):decide ((i:Int)<(n:Int))=false:=decide_eq_false (by omega)
theorem bytesLess_cmp: ∀a b:List UInt8,decide (0≤Lib.compareBytes a b)= !Op.bytesLess a b
 | [],[]=>by simp [Lib.compareBytes,Op.bytesLess]
 | [],_::_=>by simp [Lib.compareBytes,Op.bytesLess]
 |_::_,[]=>by simp [Lib.compareBytes,Op.bytesLess]
 |a::x,b::y=>by
  simp only [oB_s,Lib.compareBytes,Op.bytesLess]
  by_cases h1:a<b
  ·simp [h1]
  ·by_cases h2:b<a
   ·have h3:(a==b)=false:=by
     rw [beq_eq_false_iff_ne];rintro rfl;exact h1 h2
    simp [h1,h2,h3]
   ·have h3:a=b:=by
     have e1: ¬a.toNat<b.toNat:=h1
     have e2: ¬b.toNat<a.toNat:=h2
     exact UInt8.toNat_inj.1 (by omega)
    subst h3
    simp only [oB_s,h1,if_false,beq_self_eq_true,decide_false,Bool.true_and,Bool.false_or]
    exact bytesLess_cmp x y
theorem cmp_slt (a b:ByteArray):decide (0≤strings_Compare_v a b)= !sltB a b:=by
 have:strings_Compare_v a b=Lib.compareBytes a.toList b.toList:=by
  rw [ByteArray.toList_eq,ByteArray.toList_eq];rfl
 rw [this];exact bytesLess_cmp _ _
theorem field_slt (a b:GPair):decide (0≤value_byField_v a b)= !sltB a.fField b.fField:=cmp_slt _ _
def prevB {α:Type} (lt:α→α→Bool) (l:List α) (i:Nat) (x:α):Bool:=match l[i-1]? with
 |some y=>lt y x
 |none=>true
theorem prevB_eq {α:Type} {lt:α→α→Bool} {l:List α} {i:Nat} {x y:α} (h:l[i-1]? =some y):prevB lt l i x=lt y x:=by
 unfold prevB;rw [h]
def risingP {α:Type} (lt:α→α→Bool) (l:List α):Bool:=allI (prevB lt l) 1 (l.drop 1)
theorem bool_out (b:Bool):(match (some (bif b then .inr () else .inl ()):Option (Unit⊕Unit)) with|none=>none|some (.inl _)=>some false|some (.inr _)=>some true)=some b:=by cases b<;>rfl
theorem prevI {α:Type} {l:List α} {i:Nat} {x:α} (hx:l[i]? =some x) (hi:1≤i) (hl:l.length≤140737488351232): ∃y,l[i-1]? =some y∧idx l (IntKind.i64.wrap ((i:Int)-1))=some y:=by
 have h:=get_lt hx
 refine⟨l[i-1],List.getElem?_eq_getElem _,?_⟩
 rw [wrapN1 (by omega)]
 have:((i:Int)-1)=((i-1:Nat):Int):=by omega
 rw [this]
 exact idx_get (List.getElem?_eq_getElem _)
theorem pairs_rise (l:List GPair) (hl:l.length≤140737488351232):value_rising_Pair_value_byField l=some (risingP (fun a b=>sltB a.fField b.fField) l):=by
 unfold value_rising_Pair_value_byField
 rw [show (1:Int)=((1:Nat):Int) from rfl,loop_all (step:=st_value_rising_Pair_value_byField_0 l) l 1 (prevB (fun a b=>sltB a.fField b.fField) l) (fun i x hx hi=>by
  obtain⟨y,h1,h2⟩:=prevI hx hi hl
  simp only [oB_s,st_value_rising_Pair_value_byField_0,ltN (get_lt hx),cond_true,h2,idx_get hx,prevB_eq h1,field_slt,wrapN (Nat.le_trans (Nat.le_of_lt (get_lt hx)) (Nat.le_trans hl (by decide)))]
  cases sltB y.fField x.fField<;>rfl) (fun i hi=>by simp only [oB_s,st_value_rising_Pair_value_byField_0,geN hi,cond_false])]
 show _=some (allI _ 1 (l.drop 1))
 generalize allI _ 1 (l.drop 1)=b
 cases b<;>rfl
theorem items_rise (l:List ByteArray) (hl:l.length≤140737488351232):value_rising_string_strings_Compare l=some (risingP sltB l):=by
 unfold value_rising_string_strings_Compare
 rw [show (1:Int)=((1:Nat):Int) from rfl,loop_all (step:=st_value_rising_string_strings_Compare_0 l) l 1 (prevB sltB l) (fun i x hx hi=>by
  obtain⟨y,h1,h2⟩:=prevI hx hi hl
  simp only [oB_s,st_value_rising_string_strings_Compare_0,ltN (get_lt hx),cond_true,h2,idx_get hx,prevB_eq h1,cmp_slt,wrapN (Nat.le_trans (Nat.le_of_lt (get_lt hx)) (Nat.le_trans hl (by decide)))]
  cases sltB y x<;>rfl) (fun i hi=>by simp only [oB_s,st_value_rising_string_strings_Compare_0,geN hi,cond_false])]
 show _=some (allI _ 1 (l.drop 1))
 generalize allI _ 1 (l.drop 1)=b
 cases b<;>rfl
theorem or2 (a b:Int):cmp_Or_int [a,b]=some (bif a==0 then b else a):=by
 unfold cmp_Or_int
 have h:=loop_first (step:=st_cmp_Or_int_0 [a,b] ([a,b].length:Int)) (fun i=>i) [a,b] (fun x=>!(x==0)) (fun i=>.inl ([a,b].getD i 0)) (.inr ()) (fun i x hx=>by
  have h1:=get_lt hx
  have h2:i≤140737488355328:=by simp only [oB_s,List.length_cons,List.length_nil] at h1;omega
  have h3: [a,b].getD i 0=x:=by simp [List.getD,hx]
  simp only [oB_s,st_cmp_Or_int_0,ltN h1,cond_true,idx_get hx,wrapN h2,h3]
  cases (x==0)<;>rfl) (by simp only [oB_s,st_cmp_Or_int_0,geN (Nat.le_refl _),cond_false])
 rw [h]
 simp only [oB_s,firstI]
 cases ha:(a==0) with
 |false=>rfl
 |true=>
  cases hb:(b==0) with
  |false=>rfl
  |true=>
   have:b=0:=by simpa using hb
   subst this;rfl
theorem score_lt (a b:GScore): ∃n,value_byScore a b=some n∧decide (0≤n)= !rrscoreAhead_v a b:=by
 unfold value_byScore
 rw [or2]
 refine⟨_,rfl,?_⟩
 simp only [oB_s,cmp_Compare_int_v,cmp_isNaN_int_v,cond_false,rrscoreAhead_v]
 by_cases h:a.fN=b.fN
 ·have e:decide (b.fN<b.fN)=false:=decide_eq_false (by omega)
  simp only [oB_s,h,e,cond_false,beq_self_eq_true,cond_true]
  exact cmp_slt _ _
 ·have e:(a.fN==b.fN)=false:=by simpa using h
  by_cases h1:a.fN<b.fN
  ·simp [h1,e]
  ·have h2:b.fN<a.fN:=by omega
   simp [h1,h2,e]
theorem scores_rise (l:List GScore) (hl:l.length≤140737488351232):value_rising_Score_value_byScore l=some (risingP rrscoreAhead_v l):=by
 unfold value_rising_Score_value_byScore
 rw [show (1:Int)=((1:Nat):Int) from rfl,loop_all (step:=st_value_rising_Score_value_byScore_0 l) l 1 (prevB rrscoreAhead_v l) (fun i x hx hi=>by
  obtain⟨y,h1,h2⟩:=prevI hx hi hl
  obtain⟨n,h3,h4⟩:=score_lt y x
  simp only [oB_s,st_value_rising_Score_value_byScore_0,ltN (get_lt hx),cond_true,h2,idx_get hx,prevB_eq h1,h3,h4,wrapN (Nat.le_trans (Nat.le_of_lt (get_lt hx)) (Nat.le_trans hl (by decide)))]
  cases rrscoreAhead_v y x<;>rfl) (fun i hi=>by simp only [oB_s,st_value_rising_Score_value_byScore_0,geN hi,cond_false])]
 show _=some (allI _ 1 (l.drop 1))
 generalize allI _ 1 (l.drop 1)=b
 cases b<;>rfl
def placeI (o:Option Nat):Int:=match o with|some i=>i|none=>-1
theorem placeI_pos (o:Option Nat):decide (0≤placeI o)=o.isSome:=by
 cases o with
 |none=>rfl
 |some i=>exact decide_eq_true (Int.natCast_nonneg _)
theorem texts_any (l:List ByteArray) (hl:l.length≤140737488351232):sCSvaC_fn1 l=some (l.any vaC_fn1_v):=by
 unfold sCSvaC_fn1 sISvaC_fn1
 rw [loop_first (step:=st_sISvaC_fn1_0 l (l.length:Int)) (fun i=>i) l vaC_fn1_v (fun i=>.inl (i:Int)) (.inr ()) (fun i x hx=>by
  simp only [oB_s,st_sISvaC_fn1_0,ltN (get_lt hx),cond_true,idx_get hx,wrapN (Nat.le_trans (Nat.le_of_lt (get_lt hx)) (Nat.le_trans hl (by decide)))]
  cases vaC_fn1_v x<;>rfl) (by simp only [oB_s,st_sISvaC_fn1_0,geN (Nat.le_refl _),cond_false])]
 rw [←first_any vaC_fn1_v 0 l]
 cases firstI vaC_fn1_v 0 l<;>simp [oB_s]
theorem pairs_any (l:List GPair) (hl:l.length≤140737488351232):sCPvaC_fn2 l=some (l.any vaC_fn2_v):=by
 unfold sCPvaC_fn2 sIPvaC_fn2
 rw [loop_first (step:=st_sIPvaC_fn2_0 l (l.length:Int)) (fun i=>i) l vaC_fn2_v (fun i=>.inl (i:Int)) (.inr ()) (fun i x hx=>by
  simp only [oB_s,st_sIPvaC_fn2_0,ltN (get_lt hx),cond_true,idx_get hx,wrapN (Nat.le_trans (Nat.le_of_lt (get_lt hx)) (Nat.le_trans hl (by decide)))]
  cases vaC_fn2_v x<;>rfl) (by simp only [oB_s,st_sIPvaC_fn2_0,geN (Nat.le_refl _),cond_false])]
 rw [←first_any vaC_fn2_v 0 l]
 cases firstI vaC_fn2_v 0 l<;>simp [oB_s]
theorem members_any (l:List GScore) (hl:l.length≤140737488351232):sCRvaC_fn3 l=some (l.any vaC_fn3_v):=by
 unfold sCRvaC_fn3 sIRvaC_fn3
 rw [loop_first (step:=st_sIRvaC_fn3_0 l (l.length:Int)) (fun i=>i) l vaC_fn3_v (fun i=>.inl (i:Int)) (.inr ()) (fun i x hx=>by
  simp only [oB_s,st_sIRvaC_fn3_0,ltN (get_lt hx),cond_true,idx_get hx,wrapN (Nat.le_trans (Nat.le_of_lt (get_lt hx)) (Nat.le_trans hl (by decide)))]
  cases vaC_fn3_v x<;>rfl) (by simp only [oB_s,st_sIRvaC_fn3_0,geN (Nat.le_refl _),cond_false])]
 rw [←first_any vaC_fn3_v 0 l]
 cases firstI vaC_fn3_v 0 l<;>simp [oB_s]
theorem counts_any (l:List GScore) (hl:l.length≤140737488351232):sCRvaC_fn4 l=some (l.any vaC_fn4_v):=by
 unfold sCRvaC_fn4 sIRvaC_fn4
 rw [loop_first (step:=st_sIRvaC_fn4_0 l (l.length:Int)) (fun i=>i) l vaC_fn4_v (fun i=>.inl (i:Int)) (.inr ()) (fun i x hx=>by
  simp only [oB_s,st_sIRvaC_fn4_0,ltN (get_lt hx),cond_true,idx_get hx,wrapN (Nat.le_trans (Nat.le_of_lt (get_lt hx)) (Nat.le_trans hl (by decide)))]
  cases vaC_fn4_v x<;>rfl) (by simp only [oB_s,st_sIRvaC_fn4_0,geN (Nat.le_refl _),cond_false])]
 rw [←first_any vaC_fn4_v 0 l]
 cases firstI vaC_fn4_v 0 l<;>simp [oB_s]
theorem rank_p (l:List GScore) (m:ByteArray) (hl:l.length≤140737488351232):value_rank l m=some (placeI (firstI (fun x=>cY x.fMember m) 0 l)):=by
 unfold value_rank sIRvalue_rank_fn1
 rw [loop_first (step:=st_sIRvalue_rank_fn1_0 l (l.length:Int)) (fun i=>(i,m)) l (fun x=>cY x.fMember m) (fun i=>.inl ((i:Int),m)) (.inr m) (fun i x hx=>by
  simp only [oB_s,st_sIRvalue_rank_fn1_0,ltN (get_lt hx),cond_true,idx_get hx,value_rank_fn1,wrapN (Nat.le_trans (Nat.le_of_lt (get_lt hx)) (Nat.le_trans hl (by decide)))]
  cases cY x.fMember m<;>rfl) (by simp only [oB_s,st_sIRvalue_rank_fn1_0,geN (Nat.le_refl _),cond_false])]
 cases firstI (fun x=>cY x.fMember m) 0 l<;>rfl
theorem memberAt_p (l:List GScore) (m:ByteArray) (hl:l.length≤140737488351232):rrmemberAt l m=some (placeI (firstI (fun x=>cY x.fMember m) 0 l)):=by
 unfold rrmemberAt
 rw [loop_first (step:=st_rrmemberAt_0 l m) (fun i=>i) l (fun x=>cY x.fMember m) (fun i=>.inl (i:Int)) (.inr ()) (fun i x hx=>by
  simp only [oB_s,st_rrmemberAt_0,ltN (get_lt hx),cond_true,idx_get hx,wrapN (Nat.le_trans (Nat.le_of_lt (get_lt hx)) (Nat.le_trans hl (by decide)))]
  cases cY x.fMember m<;>rfl) (by simp only [oB_s,st_rrmemberAt_0,geN (Nat.le_refl _),cond_false])]
 cases firstI (fun x=>cY x.fMember m) 0 l<;>rfl
def onceB (l:List GScore) (i:Nat) (x:GScore):Bool:=!(firstI (fun y=>cY y.fMember x.fMember) 0 (dm l 0 i)).isSome
noncomputable def tailF (v:GValue):Int:=
 bif v.fItems.any vaC_fn1_v then 1
 else bif v.fPairs.any vaC_fn2_v then 1
 else bif v.fScores.any vaC_fn3_v then 1
 else bif !value_count_v v.fCount then 2
 else bif v.fScores.any vaC_fn4_v then 2
 else bif (risingP (fun a b=>sltB a.fField b.fField) v.fPairs&&(risingP rrscoreAhead_v v.fScores&&(!(v.fKind==5)||risingP sltB v.fItems)))&&allI (onceB v.fScores) 0 v.fScores then 0 else 10
theorem subL_len {α:Type} (l:List α) (i:Nat) (n:Nat) (h:l.length≤n):(dm l 0 i).length≤n:=by
 unfold dm
 simp only [oB_s,List.length_drop,List.length_take]
 omega
theorem rng_ok {i n:Nat} (h:i≤n):rngB 0 i n=true:=by
 unfold rngB
 simp
 omega
theorem once_p (v:GValue) (b:Bool) (hl:v.fScores.length≤140737488351232):cM (st_vaC_1 v v.fScores (v.fScores.length:Int) v.fKind v.fCount v.fPairs v.fItems) (b,0)=some (b&&allI (onceB v.fScores) 0 v.fScores):=by
 have h:=loop_list (step:=st_vaC_1 v v.fScores (v.fScores.length:Int) v.fKind v.fCount v.fPairs v.fItems) v.fScores (fun i s=>(s,i)) (fun i _=>i≤v.fScores.length) (fun i x s=>.inl (s&&onceB v.fScores i x)) (fun s=>s) (fun i x s hx hi=>by
  have hw:=wrapN (n:=i) (by omega)
  simp only [oB_s,st_vaC_1,ltN (get_lt hx),cond_true,idx_get hx,hw,rng_ok hi,rank_p _ _ (subL_len v.fScores i _ hl),onceB,←placeI_pos]
  cases s with
  |false=>rfl
  |true=>
   simp only [oB_s,cond_true,Bool.true_and]
   congr 4
   generalize placeI _=z
   by_cases hz:z<0
   ·simp [hz,show ¬0≤z by omega]
   ·simp [hz,show 0≤z by omega]) (fun i x s s' hx hi _=>by have:=get_lt hx;omega) (fun i s hl hi=>by
  simp only [oB_s,st_vaC_1,geN hl,cond_false]) 0 b (Nat.zero_le _)
 refine h.trans ?_
 congr 1
 have: ∀(m:List GScore) (j:Nat) (s:Bool),run (fun i x s=>(.inl (s&&onceB v.fScores i x):Bool⊕Bool)) (fun s=>s) j m s=(s&&allI (onceB v.fScores) j m):=by
  intro m
  induction m with
  |nil=>intro j s;simp [run,allI]
  |cons x m ih=>
   intro j s
   simp only [oB_s,run,allI]
   rw [ih,Bool.and_assoc]
 exact this _ _ _
theorem tail_p (v:GValue) (ok:v.ok) (h:value_text_v v.fText=true) (h16:ck_vaC_k16_v v v.fKind v.fCount v.fPairs v.fItems v.fScores=false):vaC_c1 v=some (tailF v):=by
 obtain⟨_,_,_,⟨o1,_⟩,⟨o2,_⟩,⟨o3,_⟩⟩:=ok
 unfold okN at o1 o2 o3
 unfold vaC_c1
 rw [h16,h,texts_any _ (by omega)]
 simp only [oB_s,cond_true,cond_false]
 rw [pairs_any _ (by omega)]
 simp only [oB_s]
 rw [members_any _ (by omega)]
 simp only [oB_s,vaC_c0]
 rw [counts_any _ (by omega)]
 simp only [oB_s,ck_vaC_k26]
 rw [pairs_rise _ (by omega),scores_rise _ (by omega),items_rise _ (by omega)]
 unfold tailF
 cases v.fItems.any vaC_fn1_v with
 |true=>rfl
 |false=>
 cases v.fPairs.any vaC_fn2_v with
 |true=>rfl
 |false=>
 cases v.fScores.any vaC_fn3_v with
 |true=>rfl
 |false=>
 cases value_count_v v.fCount with
 |false=>rfl
 |true=>
 cases v.fScores.any vaC_fn4_v with
 |true=>rfl
 |false=>
 simp only [oB_s,cond_true,cond_false,Bool.not_true]
 generalize risingP (fun a b=>sltB a.fField b.fField) v.fPairs=b1
 generalize risingP rrscoreAhead_v v.fScores=b2
 generalize risingP sltB v.fItems=b3
 generalize (v.fKind==5)=b4
 cases b1<;>cases b2<;>cases b3<;>cases b4<;>simp only [oB_s,cond_true,cond_false,Bool.true_and,Bool.false_and,Bool.not_true,Bool.not_false,Bool.true_or,Bool.false_or,Bool.or_true,Bool.or_false,Bool.and_true,Bool.and_false]<;>(rw [once_p _ _ (by omega)];simp only [oB_s,Bool.true_and,Bool.false_and,cond_false];try (cases allI (onceB v.fScores) 0 v.fScores<;>rfl))
theorem c3_eq (v:GValue):vaC_c3 v=vaC_c1 v:=rfl
theorem c5_eq (v:GValue):vaC_c5 v=vaC_c1 v:=rfl
theorem c7_eq (v:GValue):vaC_c7 v=vaC_c1 v:=rfl
theorem c9_eq (v:GValue):vaC_c9 v=vaC_c1 v:=rfl
def formF (v:GValue):Bool:=(!(v.fKind==1)&& !cY v.fText ByteArray.empty)||(!(v.fKind==2)&& !(v.fCount==0))||(!(v.fKind==3)&&decide (0<v.fPairs.length))||(!(v.fKind==4||v.fKind==5)&&decide (0<v.fItems.length))||(!(v.fKind==6)&&decide (0<v.fScores.length))
noncomputable def sizeF (v:GValue):Bool:=(decide (3≤v.fKind)&&(decide (v.fPairs.length+v.fItems.length+v.fScores.length<1)||decide (20<v.fPairs.length+v.fItems.length+v.fScores.length)))|| !value_text_v v.fText
noncomputable def valF (v:GValue):Int:=
 bif !(decide (1≤v.fKind)&&decide (v.fKind≤6)) then 3
 else bif formF v then 8
 else bif sizeF v then 1
 else tailF v
theorem elements_p (k:Int) (t:ByteArray) (c:Int) (ps:List GPair) (is:List ByteArray) (ss:List GScore) (h1:ps.length≤140737488351232) (h2:is.length≤140737488351232) (h3:ss.length≤140737488351232):value_elements_v ⟨k,t,c,ps,is,ss⟩=((ps.length+is.length+ss.length:Nat):Int):=by
 unfold value_elements_v
 simp only [oB_s]
 rw [wrap_id (n:=(ps.length:Int)+(is.length:Int)) (by omega) (by omega),wrap_id]<;>omega
theorem six {q:Int} (h1: ¬q<1) (h2: ¬6<q):q=1∨q=2∨q=3∨q=4∨q=5∨q=6:=by omega
theorem pos_nat (n:Nat):decide ((0:Int)<(n:Int))=decide (0<n):=by
 by_cases h:0<n
 ·rw [decide_eq_true h,decide_eq_true (by omega)]
 ·rw [decide_eq_false h,decide_eq_false (by omega)]
theorem check_p (v:GValue) (ok:v.ok):vaC v=some (valF v):=by
 have ok':=ok
 obtain⟨q,t,c,ps,is,ss⟩:=v
 obtain⟨_,_,_,⟨o1,_⟩,⟨o2,_⟩,⟨o3,_⟩⟩:=ok
 unfold okN at o1 o2 o3
 simp only [oB_s] at o1 o2 o3
 have l1:ps.length≤140737488351232:=by omega
 have l2:is.length≤140737488351232:=by omega
 have l3:ss.length≤140737488351232:=by omega
 have l0: ∀ {α:Type},([]:List α).length≤140737488351232:=by intro α;simp
 have E:=fun (c:Int) (ps:List GPair) (is:List ByteArray) (ss:List GScore) h1 h2 h3=>elements_p q t c ps is ss h1 h2 h3
 by_cases h1:q<1
 ·simp [vaC,h1,valF,show ¬1≤q by omega]
 by_cases h2:6<q
 ·simp [vaC,h1,h2,valF,show 1≤q by omega,show ¬q≤6 by omega]
 have hT: ∀v:GValue,v.ok→v=⟨q,t,c,ps,is,ss⟩→vaC_c1 v=some (bif sizeF v then 1 else tailF v):=by
  rintro v okv rfl
  cases hs:sizeF ⟨q,t,c,ps,is,ss⟩ with
  |false=>
   unfold sizeF at hs
   simp only [oB_s,Bool.or_eq_false_iff,Bool.not_eq_false'] at hs
   refine tail_p _ okv hs.2 ?_
   unfold ck_vaC_k16_v
   rw [elements_p _ _ _ _ _ _ l1 l2 l3]
   have h3:=hs.1
   cases hk:decide (3≤q) with
   |false=>simp only [oB_s,hk,cond_false]
   |true=>
    rw [hk,Bool.true_and,Bool.or_eq_false_iff,decide_eq_false_iff_not,decide_eq_false_iff_not] at h3
    simp only [oB_s,hk,cond_true]
    rw [decide_eq_false (by omega),cond_false,decide_eq_false (by omega)]
  |true=>
   unfold sizeF at hs
   unfold vaC_c1 ck_vaC_k16_v
   rw [elements_p _ _ _ _ _ _ l1 l2 l3]
   simp only [oB_s] at hs⊢
   cases hx:value_text_v t with
   |false=>
    simp only [oB_s,cond_true,cond_false]
    cases (bif decide (3≤q) then bif decide (((ps.length+is.length+ss.length:Nat):Int)<1) then true else decide ((20:Int)<((ps.length+is.length+ss.length:Nat):Int)) else false)<;>rfl
   |true=>
    rw [hx,Bool.not_true,Bool.or_false,Bool.and_eq_true,Bool.or_eq_true,decide_eq_true_eq,decide_eq_true_eq,decide_eq_true_eq] at hs
    rw [decide_eq_true hs.1]
    simp only [oB_s,cond_true]
    rcases hs.2 with h|h
    ·rw [decide_eq_true (by omega)];rfl
    ·rw [decide_eq_false (by omega),cond_false,decide_eq_true (by omega)];rfl
 have hT':=hT _ ok' rfl
 have hr:(decide (1≤q)&&decide (q≤6))=true:=by
  rw [Bool.and_eq_true,decide_eq_true_eq,decide_eq_true_eq];omega
 unfold valF
 simp only [oB_s,hr,Bool.not_true,cond_false]
 generalize hz:(bif sizeF ⟨q,t,c,ps,is,ss⟩ then 1 else tailF ⟨q,t,c,ps,is,ss⟩)=z at hT'⊢
 unfold vaC vaC_c11 vaC_c10
 simp only [oB_s,c3_eq,c5_eq,c7_eq,c9_eq,hT',decide_eq_false h1,decide_eq_false h2,cond_false,formF]
 rw [elements_p _ _ _ _ _ _ l1 l2 l3,elements_p _ _ _ _ _ _ l1 l2 l3,elements_p _ _ _ _ _ _ l0 l2 l3,elements_p _ _ _ _ _ _ l1 l2 l0,elements_p _ _ _ _ _ _ l1 l0 l3]
 simp only [oB_s,pos_nat,List.length_nil,Nat.zero_add,Nat.add_zero]
 have add0: ∀a b:Nat,decide (0<a+b)=(decide (0<a)||decide (0<b)):=by
  intro a b
  by_cases ha:0<a
  ·rw [decide_eq_true ha,decide_eq_true (by omega),Bool.true_or]
  ·have:a=0:=by omega
   subst this;simp
 simp only [oB_s,add0]
 generalize decide (0<ps.length)=d1
 generalize decide (0<is.length)=d2
 generalize decide (0<ss.length)=d3
 generalize cY t ByteArray.empty=d4
 generalize (c==0)=d5
 clear hT hT' hz hr E ok' o1 o2 o3
 rcases six h1 h2 with rfl|rfl|rfl|rfl|rfl|rfl<;>cases d1<;>cases d2<;>cases d3<;>cases d4<;>cases d5<;>rfl
theorem any_all {α:Type} (p q:α→Bool) (h: ∀x,p x= !q x) (l:List α):allI (fun _ x=>q x) 0 l= !l.any p:=by
 have:(fun (_:Nat) (x:α)=>q x)=fun _ x=>!p x:=by
  funext _ x;rw [h x,Bool.not_not]
 rw [this,allI_any]
theorem onceB_zero (l:List GScore) (x:GScore):onceB l 0 x=true:=by
 unfold onceB dm
 simp [firstI]
theorem once_tail (l:List GScore):allI (onceB l) 0 l=allI (onceB l) 1 (l.drop 1):=by
 have: ∀m:List GScore,allI (onceB l) 0 m=allI (onceB l) 1 (m.drop 1):=by
  intro m
  cases m with
  |nil=>rfl
  |cons x m=>simp only [oB_s,allI,onceB_zero,Bool.true_and];rfl
 exact this l
theorem none_out (a b:Option Int) (x:Bool):(match (some (bif x then .inr () else .inl ()):Option (Unit⊕Unit)) with|none=>none|some (.inl _)=>a|some (.inr _)=>b)=bif x then b else a:=by cases x<;>rfl
theorem r_c6 (v:GValue):rrValueFault_c6 v=rrValueFault_c0 v:=rfl
theorem r_c11 (v:GValue):rrValueFault_c11 v=rrValueFault_c5 v:=rfl
noncomputable def tailG (v:GValue):Int:=
 bif v.fPairs.any vaC_fn2_v then 1
 else bif v.fScores.any vaC_fn3_v then 1
 else bif !value_count_v v.fCount then 2
 else bif v.fScores.any vaC_fn4_v then 2
 else bif (risingP (fun a b=>sltB a.fField b.fField) v.fPairs&&(risingP rrscoreAhead_v v.fScores&&(!(v.fKind==5)||risingP sltB v.fItems)))&&allI (onceB v.fScores) 0 v.fScores then 0 else 10
theorem tailFG (v:GValue):tailF v=bif v.fItems.any vaC_fn1_v then 1 else tailG v:=rfl
theorem r_loops (v:GValue) (ok:v.ok):cM (st_rrValueFault_0 v) 0=some (bif v.fItems.any vaC_fn1_v then .inl () else .inr ())∧rrValueFault_c5 v=some (tailG v):=by
 obtain⟨_,_,_,⟨o1,_⟩,⟨o2,_⟩,⟨o3,_⟩⟩:=ok
 unfold okN at o1 o2 o3
 have e0:=loop_all (step:=st_rrValueFault_0 v) v.fItems 0 (fun _ x=>rrtextMay_v x) (fun i x hx hi=>by
  simp only [oB_s,st_rrValueFault_0,ltN (get_lt hx),cond_true,idx_get hx,wrapN (show i≤_ by have:=get_lt hx;omega)]
  cases rrtextMay_v x<;>rfl) (fun i hi=>by simp only [oB_s,st_rrValueFault_0,geN hi,cond_false])
 have e2:=loop_all (step:=st_rrValueFault_2 v) v.fPairs 0 (fun _ x=>bif rrfieldMay_v x.fField then rrtextMay_v x.fText else false) (fun i x hx hi=>by
  simp only [oB_s,st_rrValueFault_2,ltN (get_lt hx),cond_true,idx_get hx,wrapN (show i≤_ by have:=get_lt hx;omega)]
  cases rrfieldMay_v x.fField<;>cases rrtextMay_v x.fText<;>rfl) (fun i hi=>by simp only [oB_s,st_rrValueFault_2,geN hi,cond_false])
 have e4:=loop_all (step:=st_rrValueFault_4 v) v.fScores 0 (fun _ x=>rrtextMay_v x.fMember) (fun i x hx hi=>by
  simp only [oB_s,st_rrValueFault_4,ltN (get_lt hx),cond_true,idx_get hx,wrapN (show i≤_ by have:=get_lt hx;omega)]
  cases rrtextMay_v x.fMember<;>rfl) (fun i hi=>by simp only [oB_s,st_rrValueFault_4,geN hi,cond_false])
 have e6:=loop_all (step:=st_rrValueFault_6 v) v.fScores 0 (fun _ x=>rrcountMay_v x.fN) (fun i x hx hi=>by
  simp only [oB_s,st_rrValueFault_6,ltN (get_lt hx),cond_true,idx_get hx,wrapN (show i≤_ by have:=get_lt hx;omega)]
  cases rrcountMay_v x.fN<;>rfl) (fun i hi=>by simp only [oB_s,st_rrValueFault_6,geN hi,cond_false])
 have e8:=loop_all (step:=st_rrValueFault_8 v) v.fPairs 1 (prevB (fun a b=>sltB a.fField b.fField) v.fPairs) (fun i x hx hi=>by
  obtain⟨y,h1,h2⟩:=prevI hx hi (by omega)
  simp only [oB_s,st_rrValueFault_8,ltN (get_lt hx),cond_true,h2,idx_get hx,prevB_eq h1,wrapN (show i≤_ by have:=get_lt hx;omega)]
  cases sltB y.fField x.fField<;>rfl) (fun i hi=>by simp only [oB_s,st_rrValueFault_8,geN hi,cond_false])
 have e10:(v.fKind==5)=true→cM (st_rrValueFault_10 v) 1=some (bif risingP sltB v.fItems then .inr () else .inl ()):=fun h5=>loop_all (step:=st_rrValueFault_10 v) v.fItems 1 (prevB sltB v.fItems) (fun i x hx hi=>by
  obtain⟨y,h1,h2⟩:=prevI hx hi (by omega)
  simp only [oB_s,st_rrValueFault_10,ltN (get_lt hx),cond_true,h5,h2,idx_get hx,prevB_eq h1,wrapN (show i≤_ by have:=get_lt hx;omega)]
  cases sltB y x<;>rfl) (fun i hi=>by simp only [oB_s,st_rrValueFault_10,geN hi,cond_false])
 have e10':(v.fKind==5)=false→cM (st_rrValueFault_10 v) 1=some (.inr ()):=fun h5=>loopM_end (by
  simp only [oB_s,st_rrValueFault_10,h5,cond_false]
  cases decide ((1:Int)<(v.fItems.length:Int))<;>rfl)
 have e12:=loop_all (step:=st_rrValueFault_12 v) v.fScores 1 (fun i x=>prevB rrscoreAhead_v v.fScores i x&&onceB v.fScores i x) (fun i x hx hi=>by
  obtain⟨y,h1,h2⟩:=prevI hx hi (by omega)
  have hl:=get_lt hx
  simp only [oB_s,st_rrValueFault_12,ltN (get_lt hx),cond_true,h2,idx_get hx,prevB_eq h1,rng_ok (Nat.le_of_lt hl),memberAt_p _ _ (subL_len v.fScores i 140737488351232 (by omega)),onceB,←placeI_pos,wrapN (show i≤_ by omega)]
  cases rrscoreAhead_v y x with
  |false=>rfl
  |true=>
   simp only [oB_s,cond_true,Bool.true_and]
   cases decide (0≤placeI (firstI (fun y=>cY y.fMember x.fMember) 0 (dm v.fScores 0 i)))<;>rfl) (fun i hi=>by simp only [oB_s,st_rrValueFault_12,geN hi,cond_false])
 rw [any_all vaC_fn1_v (fun x=>rrtextMay_v x) (fun x=>rfl)] at e0
 rw [any_all vaC_fn2_v (fun x=>bif rrfieldMay_v x.fField then rrtextMay_v x.fText else false) (fun x=>by
  show (bif value_field_v x.fField then !value_text_v x.fText else true)= !(bif value_field_v x.fField then value_text_v x.fText else false)
  cases value_field_v x.fField<;>rfl)] at e2
 rw [any_all vaC_fn3_v (fun x=>rrtextMay_v x.fMember) (fun x=>rfl)] at e4
 rw [any_all vaC_fn4_v (fun x=>rrcountMay_v x.fN) (fun x=>rfl)] at e6
 rw [allI_and] at e12
 simp only [oB_s,List.drop_zero] at e0 e2 e4 e6
 have k1:((1:Nat):Int)=1:=rfl
 have k0:((0:Nat):Int)=0:=rfl
 rw [k0] at e0 e2 e4 e6
 rw [k1] at e8 e12
 unfold rrValueFault_c5 rrValueFault_c4 rrValueFault_c3 rrValueFault_c2 rrValueFault_c1 rrValueFault_c0
 refine⟨by rw [e0];cases v.fItems.any vaC_fn1_v<;>rfl,?_⟩
 rw [e2,e4,e6,e8,e12]
 unfold tailG
 rw [once_tail]
 generalize hb1:allI (prevB (fun a b=>sltB a.fField b.fField) v.fPairs) 1 (v.fPairs.drop 1)=b1
 generalize hb2:allI (prevB rrscoreAhead_v v.fScores) 1 (v.fScores.drop 1)=b2
 have hb1':risingP (fun a b=>sltB a.fField b.fField) v.fPairs=b1:=hb1
 have hb2':risingP rrscoreAhead_v v.fScores=b2:=hb2
 rw [hb1',hb2']
 generalize allI (onceB v.fScores) 1 (v.fScores.drop 1)=b4
 have hc:rrcountMay_v v.fCount=value_count_v v.fCount:=rfl
 rw [hc]
 generalize v.fPairs.any vaC_fn2_v=a2
 generalize v.fScores.any vaC_fn3_v=a3
 generalize value_count_v v.fCount=a4
 generalize v.fScores.any vaC_fn4_v=a5
 cases h5:(v.fKind==5) with
 |true=>
  rw [e10 h5]
  generalize risingP sltB v.fItems=b3
  cases a2<;>try rfl
  cases a3<;>try rfl
  cases a4<;>try rfl
  cases a5<;>try rfl
  cases b1<;>cases b2<;>cases b3<;>cases b4<;>rfl
 |false=>
  rw [e10' h5]
  cases a2<;>try rfl
  cases a3<;>try rfl
  cases a4<;>try rfl
  cases a5<;>try rfl
  cases b1<;>cases b2<;>cases b4<;>rfl
theorem fault_p (v:GValue) (ok:v.ok):rrValueFault v=some (valF v):=by
 obtain⟨hl,hg⟩:=r_loops v ok
 obtain⟨_,_,_,⟨o1,_⟩,⟨o2,_⟩,⟨o3,_⟩⟩:=ok
 unfold okN at o1 o2 o3
 have hk6:ck_rrValueFault_k6_v v=sizeF v:=by
  have hs:rrsizeOf_v v=((v.fPairs.length+v.fItems.length+v.fScores.length:Nat):Int):=elements_p v.fKind v.fText v.fCount _ _ _ (by omega) (by omega) (by omega)
  unfold ck_rrValueFault_k6_v sizeF
  rw [hs]
  have hx:rrtextMay_v v.fText=value_text_v v.fText:=rfl
  rw [hx]
  cases decide (3≤v.fKind) with
  |false=>rfl
  |true=>
   simp only [oB_s,cond_true,Bool.true_and]
   by_cases h1:v.fPairs.length+v.fItems.length+v.fScores.length<1
   ·rw [decide_eq_false (show ¬(1:Int)≤_ by omega),decide_eq_true h1];rfl
   ·rw [decide_eq_true (show (1:Int)≤_ by omega),decide_eq_false h1]
    by_cases h2:20<v.fPairs.length+v.fItems.length+v.fScores.length
    ·rw [decide_eq_false (show ¬_≤(20:Int) by omega),decide_eq_true h2];rfl
    ·rw [decide_eq_true (show _≤(20:Int) by omega),decide_eq_false h2];rfl
 unfold rrValueFault rrValueFault_c12
 simp only [oB_s,r_c11,hk6,hl,hg]
 unfold valF
 rw [tailFG]
 generalize tailG v=tg
 generalize v.fItems.any vaC_fn1_v=a1
 generalize sizeF v=sz
 clear hl hg hk6
 obtain⟨q,t,c,ps,is,ss⟩:=v
 by_cases h1:q<1
 ·simp [show ¬1≤q by omega]
 by_cases h2:6<q
 ·simp [show 1≤q by omega,show ¬q≤6 by omega]
 simp only [oB_s,ck_rrValueFault_k4_v,ck_rrValueFault_k4_v_c0,ck_rrValueFault_k4_v_c1,ck_rrValueFault_k4_v_c2,ck_rrValueFault_k4v2_v,ck_rrValueFault_k4v2_v_c0,ck_rrValueFault_k4v2_v_c1,ck_rrValueFault_k4v2_v_c2,ck_rrValueFault_k4v2_v_c3,ck_rrValueFault_k4v2_v_c4,ck_rrValueFault_k4v2_v_c5,ck_rrValueFault_k4v2_v_c6,formF,pos_nat]
 generalize decide (0<ps.length)=d1
 generalize decide (0<is.length)=d2
 generalize decide (0<ss.length)=d3
 generalize cY t ByteArray.empty=d4
 generalize (c==0)=d5
 cases sz<;>cases a1<;>rcases six h1 h2 with rfl|rfl|rfl|rfl|rfl|rfl<;>cases d1<;>cases d2<;>cases d3<;>cases d4<;>cases d5<;>rfl
theorem copyV_p (v:GValue) (ok:v.ok):rrValueCopy v=some v:=by
 obtain⟨_,_,_,⟨o1,_⟩,⟨o2,_⟩,⟨o3,_⟩⟩:=ok
 unfold okN at o1 o2 o3
 have e0:=loop_copy (step:=st_rrValueCopy_0 v) (fun i l=>(i,⟨v.fKind,v.fText,v.fCount,l,[],[]⟩)) v.fPairs (fun l=>⟨v.fKind,v.fText,v.fCount,l,[],[]⟩) (fun i x hx=>by
  have h:=get_lt hx
  have hf:dh ((v.fPairs.take i).length+1) 32=true:=fits_of (by rw [List.length_take];omega)
  simp only [oB_s,st_rrValueCopy_0,ltN h,cond_true,idx_get hx,hf,wrapN (show i≤_ by omega)]) (by simp only [oB_s,st_rrValueCopy_0,geN (Nat.le_refl _),cond_false])
 have e2:=loop_copy (step:=st_rrValueCopy_2 v) (fun i l=>(i,⟨v.fKind,v.fText,v.fCount,v.fPairs,l,[]⟩)) v.fItems (fun l=>⟨v.fKind,v.fText,v.fCount,v.fPairs,l,[]⟩) (fun i x hx=>by
  have h:=get_lt hx
  have hf:dh ((v.fItems.take i).length+1) 16=true:=fits_of (by rw [List.length_take];omega)
  simp only [oB_s,st_rrValueCopy_2,ltN h,cond_true,idx_get hx,hf,wrapN (show i≤_ by omega)]) (by simp only [oB_s,st_rrValueCopy_2,geN (Nat.le_refl _),cond_false])
 have e4:=loop_copy (step:=st_rrValueCopy_4 v) (fun i l=>(i,⟨v.fKind,v.fText,v.fCount,v.fPairs,v.fItems,l⟩)) v.fScores (fun l=>⟨v.fKind,v.fText,v.fCount,v.fPairs,v.fItems,l⟩) (fun i x hx=>by
  have h:=get_lt hx
  have hf:dh ((v.fScores.take i).length+1) 24=true:=fits_of (by rw [List.length_take];omega)
  simp only [oB_s,st_rrValueCopy_4,ltN h,cond_true,idx_get hx,hf,wrapN (show i≤_ by omega)]) (by simp only [oB_s,st_rrValueCopy_4,geN (Nat.le_refl _),cond_false])
 unfold rrValueCopy
 rw [e0]
 simp only [oB_s,rrValueCopy_c0]
 rw [e2]
 simp only [oB_s]
 rw [e4,oB_s]
theorem loop_allX {α β:Type} {step:Int→Option (Int⊕(β⊕Unit))} (l:List α) (g:α→β) (p:Nat→α→Bool)
  (hs: ∀(i:Nat) x,l[i]? =some x→step (i:Int)=some (bif p i x then .inl ((i+1:Nat):Int) else .inr (.inl (g x))))
  (he:step (l.length:Int)=some (.inr (.inr ()))): ∃r,cM step 0=some r∧(allI p 0 l=true→r= .inr ())∧(allI p 0 l=false→ ∃y,r= .inl y):=by
 have h:=loop_list (step:=step) l (fun i (_:Unit)=>i) (fun i _=>i≤l.length) (fun i x _=>bif p i x then .inl () else .inr (.inl (g x))) (fun _=>.inr ()) (fun i x s hx hk=>by
  rw [hs i x hx];cases p i x<;>rfl) (fun i x s s' hx hk _=>by have:=get_lt hx;omega) (fun i s hl hk=>by rw [Nat.le_antisymm hk hl];exact he) 0 () (Nat.zero_le _)
 refine⟨_,h,?_,?_⟩
 ·have: ∀(m:List α) (j:Nat),allI p j m=true→run (fun i x (_:Unit)=>bif p i x then .inl () else .inr (.inl (g x))) (fun _=>(.inr ():β⊕Unit)) j m ()= .inr ():=by
   intro m
   induction m with
   |nil=>intro j _;rfl
   |cons x m ih=>
    intro j h
    simp only [oB_s,allI,Bool.and_eq_true] at h
    simp only [oB_s,run,h.1,cond_true]
    exact ih (j+1) h.2
  exact this _ _
 ·have: ∀(m:List α) (j:Nat),allI p j m=false→ ∃y,run (fun i x (_:Unit)=>bif p i x then .inl () else .inr (.inl (g x))) (fun _=>(.inr ():β⊕Unit)) j m ()= .inl y:=by
   intro m
   induction m with
   |nil=>intro j h;cases h
   |cons x m ih=>
    intro j h
    simp only [oB_s,run]
    cases hp:p j x with
    |false=>exact⟨_,rfl⟩
    |true=>
     simp only [oB_s,allI,hp,Bool.true_and] at h
     exact ih (j+1) h
  exact this _ _
noncomputable def entB (now:Int) (l:List GEntry) (i:Nat) (x:GEntry):Bool:=(value_field_v x.fKey&&((valF x.fValue==0)&&(decide (i=0)||prevB (fun a b=>sltB a.fKey b.fKey) l i x)))&&((x.fUntil==0)||(decide (now<x.fUntil)&&decide (x.fUntil≤1073741824)))
noncomputable def storeB (s:GStore):Bool:=(decide (0≤s.fNow)&&(decide (s.fNow≤1073741824)&&decide (s.fEntries.length≤12)))&&allI (entB s.fNow s.fEntries) 0 s.fEntries
theorem until_p (now u:Int):(bif (u==0) then false else bif decide (u≤now) then true else decide (1073741824<u))= !((u==0)||(decide (now<u)&&decide (u≤1073741824))):=by
 cases (u==0) with
 |true=>rfl
 |false=>
  by_cases h1:u≤now
  ·simp [h1,show ¬now<u by omega]
  ·by_cases h2:1073741824<u
   ·simp [h1,h2,show ¬u≤1073741824 by omega]
   ·simp [h1,h2,show u≤1073741824 by omega,show now<u by omega]
theorem until_r (now u:Int) (h:0≤now):(bif (u==0) then false else bif decide (0≤u) then bif decide (u≤1073741824) then decide (u≤now) else true else true)= !((u==0)||(decide (now<u)&&decide (u≤1073741824))):=by
 cases (u==0) with
 |true=>rfl
 |false=>
  by_cases h0:0≤u
  ·by_cases h1:u≤now
   ·by_cases h2:u≤1073741824
    ·simp [h0,h1,h2,show ¬now<u by omega]
    ·simp [h0,h1,h2]
   ·by_cases h2:u≤1073741824
    ·simp [h0,h1,h2,show now<u by omega]
    ·simp [h0,h1,h2]
  ·simp [h0,show ¬now<u by omega]
theorem k6_p (s:GStore) (i:Nat) (l:List GEntry) (n:Int) (x:GEntry) (ok:x.fValue.ok) (hx:s.fEntries[i]? =some x) (hl:s.fEntries.length≤140737488351232):ck_store_Check_k6v2 s (i:Int) l n x=some (!(value_field_v x.fKey&&((valF x.fValue==0)&&(decide (i=0)||prevB (fun a b=>sltB a.fKey b.fKey) s.fEntries i x)))):=by
 unfold ck_store_Check_k6v2
 rw [check_p _ ok]
 have hf:value_field_v x.fKey=(decide (1≤(x.fKey.size:Int))&&decide ((x.fKey.size:Int)≤12)):=rfl
 rw [hf]
 by_cases h1:(x.fKey.size:Int)<1
 ·simp [h1,show ¬1≤(x.fKey.size:Int) by omega]
 by_cases h2:(12:Int)<(x.fKey.size:Int)
 ·simp [h1,h2,show ¬(x.fKey.size:Int)≤12 by omega]
 rw [decide_eq_false h1,decide_eq_false h2,decide_eq_true (show (1:Int)≤(x.fKey.size:Int) by omega),decide_eq_true (show (x.fKey.size:Int)≤12 by omega)]
 simp only [oB_s,cond_false,Bool.true_and]
 cases valF x.fValue==0 with
 |false=>rfl
 |true=>
  simp only [oB_s,cond_true,Bool.true_and]
  by_cases hi:i=0
  ·subst hi;rfl
  ·obtain⟨y,e1,e2⟩:=prevI hx (by omega) hl
   rw [decide_eq_true (show (0:Int)<(i:Int) by omega),cond_true,e2,decide_eq_false hi,Bool.false_or,prevB_eq e1,oB_s]
theorem k7_r (s:GStore) (i:Nat) (x:GEntry) (ok:x.fValue.ok) (hx:s.fEntries[i]? =some x) (hl:s.fEntries.length≤140737488351232):ck_rrStoreFault_k7v2 s (i:Int) x=some (!(value_field_v x.fKey&&((valF x.fValue==0)&&(decide (i=0)||prevB (fun a b=>sltB a.fKey b.fKey) s.fEntries i x)))):=by
 unfold ck_rrStoreFault_k7v2
 rw [fault_p _ ok]
 have hf:rrfieldMay_v x.fKey=value_field_v x.fKey:=rfl
 rw [hf]
 cases value_field_v x.fKey with
 |false=>rfl
 |true=>
  simp only [oB_s,cond_true,Bool.true_and]
  cases valF x.fValue==0 with
  |false=>rfl
  |true=>
   simp only [oB_s,cond_true,Bool.true_and]
   by_cases hi:i=0
   ·subst hi;rfl
   ·obtain⟨y,e1,e2⟩:=prevI hx (by omega) hl
    rw [decide_eq_true (show (0:Int)<(i:Int) by omega),cond_true,e2,decide_eq_false hi,Bool.false_or,prevB_eq e1,oB_s]
theorem store_p (s:GStore) (ok:s.ok):store_Check s=some (bif storeB s then 0 else 13):=by
 have hl:=ok.2.1
 unfold okN at hl
 have hk:ck_store_Check_k1_v s= !(decide (0≤s.fNow)&&(decide (s.fNow≤1073741824)&&decide (s.fEntries.length≤12))):=by
  unfold ck_store_Check_k1_v
  by_cases h1:s.fNow<0
  ·simp [h1,show ¬0≤s.fNow by omega]
  by_cases h2:1073741824<s.fNow
  ·simp [h1,h2,show ¬s.fNow≤1073741824 by omega]
  rw [decide_eq_false h1,decide_eq_false h2,decide_eq_true (show 0≤s.fNow by omega),decide_eq_true (show s.fNow≤1073741824 by omega)]
  by_cases h3:s.fEntries.length≤12
  ·rw [decide_eq_true h3,decide_eq_false (by omega)];rfl
  ·rw [decide_eq_false h3,decide_eq_true (by omega)];rfl
 obtain⟨r,e1,e2,e3⟩:=loop_allX (step:=st_store_Check_0 s s.fEntries (s.fEntries.length:Int)) s.fEntries (fun x=>x) (entB s.fNow s.fEntries) (fun i x hx=>by
  simp only [oB_s,st_store_Check_0,ltN (get_lt hx),cond_true,idx_get hx,k6_p s i _ _ x (ok.2.2 x (List.mem_of_getElem? hx)).2.1 hx (by omega),ck_store_Check_k8v2_v,until_p,wrapN (show i≤_ by have:=get_lt hx;omega),entB]
  generalize (value_field_v x.fKey&&((valF x.fValue==0)&&(decide (i=0)||prevB (fun a b=>sltB a.fKey b.fKey) s.fEntries i x)))=b1
  generalize ((x.fUntil==0)||(decide (s.fNow<x.fUntil)&&decide (x.fUntil≤1073741824)))=b2
  cases b1<;>cases b2<;>rfl) (by simp only [oB_s,st_store_Check_0,geN (Nat.le_refl _),cond_false])
 unfold store_Check storeB
 rw [hk,e1]
 cases (decide (0≤s.fNow)&&(decide (s.fNow≤1073741824)&&decide (s.fEntries.length≤12))) with
 |false=>rfl
 |true=>
  cases h:allI (entB s.fNow s.fEntries) 0 s.fEntries with
  |true=>rw [e2 h];rfl
  |false=>obtain⟨y,hy⟩:=e3 h;rw [hy];rfl
theorem store_r (s:GStore) (ok:s.ok):rrStoreFault s=some (bif storeB s then 0 else 13):=by
 have hl:=ok.2.1
 unfold okN at hl
 have hk:ck_rrStoreFault_k1_v s= !(decide (0≤s.fNow)&&(decide (s.fNow≤1073741824)&&decide (s.fEntries.length≤12))):=by
  unfold ck_rrStoreFault_k1_v
  cases decide (0≤s.fNow) with
  |false=>rfl
  |true=>
   cases decide (s.fNow≤1073741824) with
   |false=>rfl
   |true=>
    by_cases h3:s.fEntries.length≤12
    ·rw [decide_eq_true h3,decide_eq_false (by omega)];rfl
    ·rw [decide_eq_false h3,decide_eq_true (by omega)];rfl
 unfold rrStoreFault storeB
 rw [hk]
 cases hh:(decide (0≤s.fNow)&&(decide (s.fNow≤1073741824)&&decide (s.fEntries.length≤12))) with
 |false=>rfl
 |true=>
  have hn:0≤s.fNow:=by simp only [oB_s,Bool.and_eq_true,decide_eq_true_eq] at hh;omega
  obtain⟨r,e1,e2,e3⟩:=loop_allX (step:=st_rrStoreFault_0 s) s.fEntries (fun x=>x) (entB s.fNow s.fEntries) (fun i x hx=>by
   simp only [oB_s,st_rrStoreFault_0,ltN (get_lt hx),cond_true,idx_get hx,k7_r s i x (ok.2.2 x (List.mem_of_getElem? hx)).2.1 hx (by omega),ck_rrStoreFault_k9v2_v,until_r _ _ hn,wrapN (show i≤_ by have:=get_lt hx;omega),entB]
   generalize (value_field_v x.fKey&&((valF x.fValue==0)&&(decide (i=0)||prevB (fun a b=>sltB a.fKey b.fKey) s.fEntries i x)))=b1
   generalize ((x.fUntil==0)||(decide (s.fNow<x.fUntil)&&decide (x.fUntil≤1073741824)))=b2
   cases b1<;>cases b2<;>rfl) (by simp only [oB_s,st_rrStoreFault_0,geN (Nat.le_refl _),cond_false])
  rw [e1]
  cases h:allI (entB s.fNow s.fEntries) 0 s.fEntries with
  |true=>rw [e2 h];rfl
  |false=>obtain⟨y,hy⟩:=e3 h;rw [hy];rfl
noncomputable def replyF (r:GReply):Int:=
 bif !(decide (0≤r.fCode)&&decide (r.fCode≤13)) then 3
 else bif !(value_text_v r.fText)||(decide (20<r.fList.length)||r.fList.any clCReply_fn1_v) then 1
 else bif !(value_count_v r.fN) then 2 else 0
theorem long_any (l:List ByteArray) (hl:l.length≤140737488351232):sCSclCReply_fn1 l=some (l.any clCReply_fn1_v):=by
 unfold sCSclCReply_fn1 sISclCReply_fn1
 rw [loop_first (step:=st_sISclCReply_fn1_0 l (l.length:Int)) (fun i=>i) l clCReply_fn1_v (fun i=>.inl (i:Int)) (.inr ()) (fun i x hx=>by
  simp only [oB_s,st_sISclCReply_fn1_0,ltN (get_lt hx),cond_true,idx_get hx,wrapN (Nat.le_trans (Nat.le_of_lt (get_lt hx)) (Nat.le_trans hl (by decide)))]
  cases clCReply_fn1_v x<;>rfl) (by simp only [oB_s,st_sISclCReply_fn1_0,geN (Nat.le_refl _),cond_false])]
 rw [←first_any clCReply_fn1_v 0 l]
 cases firstI clCReply_fn1_v 0 l<;>simp [oB_s]
theorem lt_le (n k:Int):decide (k<n)= !decide (n≤k):=by
 by_cases h:n≤k
 ·rw [decide_eq_true h,decide_eq_false (by omega)];rfl
 ·rw [decide_eq_false h,decide_eq_true (by omega)];rfl
theorem twenty (n:Nat):decide ((20:Int)<(n:Int))=decide (20<n):=by
 by_cases h:20<n
 ·rw [decide_eq_true h,decide_eq_true (by omega)]
 ·rw [decide_eq_false h,decide_eq_false (by omega)]
theorem reply_p (r:GReply) (hl:r.fList.length≤140737488351232):clCReply r=some (replyF r):=by
 unfold clCReply clCReply_c0 replyF
 rw [long_any _ hl,lt_le r.fCode 13,lt_le (r.fText.size:Int) 20,twenty,lt_le r.fN 1099511627776]
 have e1:decide (r.fCode<0)= !decide (0≤r.fCode):=lt_le 0 r.fCode
 have e2:decide (r.fN< -1099511627776)= !decide (-1099511627776≤r.fN):=lt_le (-1099511627776) r.fN
 rw [e1,e2]
 have e3:value_text_v r.fText=decide ((r.fText.size:Int)≤20):=rfl
 have e4:value_count_v r.fN=(decide (-1099511627776≤r.fN)&&decide (r.fN≤1099511627776)):=rfl
 rw [e3,e4]
 cases decide (0≤r.fCode)<;>cases decide (r.fCode≤13)<;>cases decide ((r.fText.size:Int)≤20)<;>cases decide (20<r.fList.length)<;>cases r.fList.any clCReply_fn1_v<;>cases decide (-1099511627776≤r.fN)<;>cases decide (r.fN≤1099511627776)<;>rfl
theorem reply_r (r:GReply) (hl:r.fList.length≤140737488351232):rrReplyFault r=some (replyF r):=by
 have e:=loop_all (step:=st_rrReplyFault_0 r) r.fList 0 (fun _ x=>rrtextMay_v x) (fun i x hx hi=>by
  simp only [oB_s,st_rrReplyFault_0,ltN (get_lt hx),cond_true,idx_get hx,wrapN (show i≤_ by have:=get_lt hx;omega)]
  cases rrtextMay_v x<;>rfl) (fun i hi=>by simp only [oB_s,st_rrReplyFault_0,geN hi,cond_false])
 have e':allI (fun _ x=>rrtextMay_v x) 0 r.fList= !r.fList.any clCReply_fn1_v:=any_all clCReply_fn1_v (fun x=>rrtextMay_v x) (fun x=>lt_le _ _) r.fList
 rw [List.drop_zero,e'] at e
 have k0:((0:Nat):Int)=0:=rfl
 rw [k0] at e
 unfold rrReplyFault replyF
 rw [e,twenty]
 have e3:rrtextMay_v r.fText=value_text_v r.fText:=rfl
 have e4:rrcountMay_v r.fN=value_count_v r.fN:=rfl
 rw [e3,e4]
 cases decide (0≤r.fCode)<;>cases decide (r.fCode≤13)<;>cases value_text_v r.fText<;>cases decide (20<r.fList.length)<;>cases r.fList.any clCReply_fn1_v<;>cases value_count_v r.fN<;>rfl
def idB (next:Int) (l:List GClient) (i:Nat) (x:GClient):Bool:=(decide (1≤x.fId)&&decide (x.fId<next))&&(decide (i=0)||prevB (fun a b=>decide (a.fId<b.fId)) l i x)
noncomputable def seqF (now:Int) (x:GClient):Bool:=(decide (0≤x.fSeq)&&decide (x.fSeq≤1048576))&&((decide (0≤x.fTime)&&decide (x.fTime≤now))&&(replyF x.fReply==0))
noncomputable def machB (m:GMachine):Bool:=(storeB m.fStore&&((decide (1≤m.fNext)&&decide (m.fNext≤1048577))&&decide (m.fClients.length≤4)))&&allI (fun i x=>idB m.fNext m.fClients i x&&seqF m.fStore.fNow x) 0 m.fClients
theorem kc6_p (m:GMachine) (i:Nat) (l:List GClient) (n:Int) (x:GClient) (hx:m.fClients[i]? =some x) (hl:m.fClients.length≤140737488351232):ck_clC_k6v2 m (i:Int) l n x=some (!idB m.fNext m.fClients i x):=by
 unfold ck_clC_k6v2 idB
 have e1:decide (x.fId<1)= !decide (1≤x.fId):=lt_le _ _
 have e2:decide (m.fNext≤x.fId)= !decide (x.fId<m.fNext):=by rw [lt_le];simp
 rw [e1,e2]
 cases decide (1≤x.fId) with
 |false=>rfl
 |true=>
  cases decide (x.fId<m.fNext) with
  |false=>rfl
  |true=>
   simp only [oB_s,Bool.not_true,cond_false,Bool.true_and]
   by_cases hi:i=0
   ·subst hi;rfl
   ·obtain⟨y,h1,h2⟩:=prevI hx (by omega) hl
    rw [decide_eq_true (show (0:Int)<(i:Int) by omega),cond_true,h2,decide_eq_false hi,Bool.false_or,prevB_eq h1,oB_s]
    simp only [oB_s,lt_le,Bool.not_not]
theorem kc8_p (m:GMachine) (l:List GClient) (n:Int) (j:Int) (x:GClient) (hl:x.fReply.fList.length≤140737488351232):ck_clC_k8v2 m l n j x=some (!seqF m.fStore.fNow x):=by
 unfold ck_clC_k8v2 seqF
 rw [reply_p _ hl]
 have e1:decide (x.fSeq<0)= !decide (0≤x.fSeq):=lt_le _ _
 have e2:decide (x.fTime<0)= !decide (0≤x.fTime):=lt_le _ _
 rw [e1,e2,lt_le x.fSeq 1048576,lt_le x.fTime m.fStore.fNow]
 cases decide (0≤x.fSeq)<;>cases decide (x.fSeq≤1048576)<;>cases decide (0≤x.fTime)<;>cases decide (x.fTime≤m.fStore.fNow)<;>rfl
theorem kr7_r (m:GMachine) (i:Nat) (x:GClient) (hx:m.fClients[i]? =some x) (hl:m.fClients.length≤140737488351232) (hr:x.fReply.fList.length≤140737488351232) (hn:m.fNext≤1048577):ck_rrMachineFault_k7v2 m (i:Int) x=some (!(idB m.fNext m.fClients i x&&seqF m.fStore.fNow x)):=by
 unfold ck_rrMachineFault_k7v2 ck_rrMachineFault_k7v2_c1 ck_rrMachineFault_k7v2_c0 idB seqF
 rw [reply_r _ hr]
 have e0:rrnumberMay_v x.fId=(decide (1≤x.fId)&&decide (x.fId≤1048576)):=rfl
 have e2:decide (m.fNext≤x.fId)= !decide (x.fId<m.fNext):=by rw [lt_le];simp
 rw [e0,e2]
 cases decide (1≤x.fId) with
 |false=>rfl
 |true=>
  by_cases h1:x.fId<m.fNext
  ·rw [decide_eq_true h1,decide_eq_true (show x.fId≤1048576 by omega)]
   simp only [oB_s,Bool.and_self,cond_true,Bool.not_true,cond_false,Bool.true_and]
   by_cases hi:i=0
   ·subst hi
    rw [decide_eq_false (by omega)]
    simp only [oB_s,cond_false,decide_true,Bool.true_or,Bool.true_and]
    cases decide (0≤x.fSeq)<;>cases decide (x.fSeq≤1048576)<;>cases decide (0≤x.fTime)<;>cases decide (x.fTime≤m.fStore.fNow)<;>rfl
   ·obtain⟨y,h3,h4⟩:=prevI hx (by omega) hl
    rw [decide_eq_true (show (0:Int)<(i:Int) by omega),cond_true,h4,decide_eq_false hi,Bool.false_or,prevB_eq h3,oB_s]
    have e9:decide (x.fId≤y.fId)= !decide (y.fId<x.fId):=by rw [lt_le];simp
    simp only [oB_s,e9]
    cases decide (y.fId<x.fId)<;>cases decide (0≤x.fSeq)<;>cases decide (x.fSeq≤1048576)<;>cases decide (0≤x.fTime)<;>cases decide (x.fTime≤m.fStore.fNow)<;>rfl
  ·rw [decide_eq_false h1]
   cases decide (x.fId≤1048576)<;>rfl
theorem mach_p (m:GMachine) (ok:m.ok):clC m=some (bif machB m then 0 else 13):=by
 obtain⟨o1,o2,o3,o4⟩:=ok
 unfold okN at o3
 have hk:ck_clC_k1 m=some (!(storeB m.fStore&&((decide (1≤m.fNext)&&decide (m.fNext≤1048577))&&decide (m.fClients.length≤4)))):=by
  unfold ck_clC_k1
  rw [store_p _ o1]
  have e1:decide (m.fNext<1)= !decide (1≤m.fNext):=lt_le _ _
  have e3:decide ((4:Int)<(m.fClients.length:Int))= !decide (m.fClients.length≤4):=by
   by_cases h:m.fClients.length≤4
   ·rw [decide_eq_true h,decide_eq_false (by omega)];rfl
   ·rw [decide_eq_false h,decide_eq_true (by omega)];rfl
  rw [e1,e3,lt_le m.fNext 1048577]
  cases storeB m.fStore<;>cases decide (1≤m.fNext)<;>cases decide (m.fNext≤1048577)<;>cases decide (m.fClients.length≤4)<;>rfl
 unfold clC machB
 rw [hk]
 cases (storeB m.fStore&&((decide (1≤m.fNext)&&decide (m.fNext≤1048577))&&decide (m.fClients.length≤4))) with
 |false=>rfl
 |true=>
  obtain⟨r,e1,e2,e3⟩:=loop_allX (step:=st_clC_0 m m.fClients (m.fClients.length:Int)) m.fClients (fun x=>x) (fun i x=>idB m.fNext m.fClients i x&&seqF m.fStore.fNow x) (fun i x hx=>by
   have hxo:=o4 x (List.mem_of_getElem? hx)
   have hxl:=hxo.2.2.2.2.2.2.1
   unfold okN at hxl
   simp only [oB_s,st_clC_0,ltN (get_lt hx),cond_true,idx_get hx,kc6_p m i _ _ x hx (by omega),kc8_p m _ _ _ x (by omega),wrapN (show i≤_ by have:=get_lt hx;omega)]
   cases idB m.fNext m.fClients i x<;>cases seqF m.fStore.fNow x<;>rfl) (by simp only [oB_s,st_clC_0,geN (Nat.le_refl _),cond_false])
  simp only [oB_s,Bool.not_true,cond_false,Bool.true_and]
  rw [e1]
  cases h:allI (fun i x=>idB m.fNext m.fClients i x&&seqF m.fStore.fNow x) 0 m.fClients with
  |true=>rw [e2 h];rfl
  |false=>obtain⟨y,hy⟩:=e3 h;rw [hy];rfl
theorem mach_r (m:GMachine) (ok:m.ok):rrMachineFault m=some (bif machB m then 0 else 13):=by
 obtain⟨o1,o2,o3,o4⟩:=ok
 unfold okN at o3
 have hk:ck_rrMachineFault_k1 m=some (!(storeB m.fStore&&((decide (1≤m.fNext)&&decide (m.fNext≤1048577))&&decide (m.fClients.length≤4)))):=by
  unfold ck_rrMachineFault_k1
  rw [store_r _ o1]
  have e3:decide ((4:Int)<(m.fClients.length:Int))= !decide (m.fClients.length≤4):=by
   by_cases h:m.fClients.length≤4
   ·rw [decide_eq_true h,decide_eq_false (by omega)];rfl
   ·rw [decide_eq_false h,decide_eq_true (by omega)];rfl
  rw [e3]
  cases storeB m.fStore<;>cases decide (1≤m.fNext)<;>cases decide (m.fNext≤1048577)<;>cases decide (m.fClients.length≤4)<;>rfl
 unfold rrMachineFault machB
 rw [hk]
 cases hh:(storeB m.fStore&&((decide (1≤m.fNext)&&decide (m.fNext≤1048577))&&decide (m.fClients.length≤4))) with
 |false=>rfl
 |true=>
  have hn:m.fNext≤1048577:=by simp only [oB_s,Bool.and_eq_true,decide_eq_true_eq] at hh;omega
  obtain⟨r,e1,e2,e3⟩:=loop_allX (step:=st_rrMachineFault_0 m) m.fClients (fun x=>x) (fun i x=>idB m.fNext m.fClients i x&&seqF m.fStore.fNow x) (fun i x hx=>by
   have hxo:=o4 x (List.mem_of_getElem? hx)
   have hxl:=hxo.2.2.2.2.2.2.1
   unfold okN at hxl
   simp only [oB_s,st_rrMachineFault_0,ltN (get_lt hx),cond_true,idx_get hx,kr7_r m i x hx (by omega) (by omega) hn,wrapN (show i≤_ by have:=get_lt hx;omega)]
   cases (idB m.fNext m.fClients i x&&seqF m.fStore.fNow x)<;>rfl) (by simp only [oB_s,st_rrMachineFault_0,geN (Nat.le_refl _),cond_false])
  simp only [oB_s,Bool.not_true,cond_false,Bool.true_and]
  rw [e1]
  cases h:allI (fun i x=>idB m.fNext m.fClients i x&&seqF m.fStore.fNow x) 0 m.fClients with
  |true=>rw [e2 h];rfl
  |false=>obtain⟨y,hy⟩:=e3 h;rw [hy];rfl
theorem fieldMay_eq (s:ByteArray):rrfieldMay_v s=value_field_v s:=rfl
theorem textMay_eq (s:ByteArray):rrtextMay_v s=value_text_v s:=rfl
theorem countMay_eq (n:Int):rrcountMay_v n=value_count_v n:=rfl
theorem numberMay_eq (n:Int):rrnumberMay_v n=client_number_v n:=rfl
def cmdK (q:Int) (et ef ek en k f x n:Bool):Int:=
 bif !(decide (1≤q)&&decide (q≤22)) then 3
 else bif (!(q==1||q==4||q==7||q==8||(decide (11≤q)&&decide (q≤16)))&& !et)||(!(decide (4≤q)&&decide (q≤6))&& !ef)||(!(q==3||q==14||q==20)&& !en)||(q==22&& !ek) then 8
 else bif (!(q==22)&& !k)||((decide (4≤q)&&decide (q≤6))&& !f)|| !x then 1
 else bif !n then 2 else 0
noncomputable def cmdF (c:GCommand):Int:=cmdK c.fKind (cY c.fText ByteArray.empty) (cY c.fField ByteArray.empty) (cY c.fKey ByteArray.empty) (c.fN==0) (value_field_v c.fKey) (value_field_v c.fField) (value_text_v c.fText) (value_count_v c.fN)
theorem kinds {q:Int} (h: ¬(q<1∨22<q)):q=1∨q=2∨q=3∨q=4∨q=5∨q=6∨q=7∨q=8∨q=9∨q=10∨q=11∨q=12∨q=13∨q=14∨q=15∨q=16∨q=17∨q=18∨q=19∨q=20∨q=21∨q=22:=by omega
theorem w0_p (c:GCommand) (q:Int) (k:ByteArray) (h: ¬(q<1∨22<q)):ck_vaCCommand_w0_v c q k=⟨q,bif (q==22) then ByteArray.empty else k,bif (decide (4≤q)&&decide (q≤6)) then c.fField else ByteArray.empty,bif (q==1||q==4||q==7||q==8||(decide (11≤q)&&decide (q≤16))) then c.fText else ByteArray.empty,bif (q==3||q==14||q==20) then c.fN else 0⟩:=by
 rcases kinds h with rfl|rfl|rfl|rfl|rfl|rfl|rfl|rfl|rfl|rfl|rfl|rfl|rfl|rfl|rfl|rfl|rfl|rfl|rfl|rfl|rfl|rfl<;>rfl
theorem seqB_bif (a b:ByteArray) (c:Bool):cY a (bif c then a else b)=(c||cY a b):=by
 cases c with
 |true=>exact seqB_self a
 |false=>rfl
theorem beq_bif (n:Int) (c:Bool):(n==bif c then n else 0)=(c||(n==0)):=by
 cases c with
 |true=>exact beq_self_eq_true n
 |false=>rfl
theorem seqB_bif' (a b:ByteArray) (c:Bool):cY a (bif c then b else a)=(!c||cY a b):=by
 cases c with
 |false=>exact seqB_self a
 |true=>rfl
theorem command_p (c:GCommand):vaCCommand_v c=cmdF c:=by
 unfold vaCCommand_v vaCCommand_v_c0 cmdF
 by_cases h:c.fKind<1∨22<c.fKind
 ·have e0:(decide (1≤c.fKind)&&decide (c.fKind≤22))=false:=by
   rw [Bool.and_eq_false_iff,decide_eq_false_iff_not,decide_eq_false_iff_not];omega
  simp only [oB_s,cmdK,e0,Bool.not_false,cond_true]
  rcases h with h|h
  ·rw [decide_eq_true h];rfl
  ·cases decide (c.fKind<1)<;>simp [decide_eq_true h]
 ·rw [w0_p c _ _ h]
  simp only [oB_s,seqB_bif,seqB_bif',beq_bif,beq_self_eq_true,ck_vaCCommand_k28_v,ck_vaCCommand_k28_v_c0]
  generalize cY c.fText ByteArray.empty=et
  generalize cY c.fField ByteArray.empty=ef
  generalize cY c.fKey ByteArray.empty=ek
  generalize (c.fN==0)=en
  generalize value_field_v c.fKey=k
  generalize value_field_v c.fField=f
  generalize value_text_v c.fText=x
  generalize value_count_v c.fN=n
  generalize c.fKind=q at h⊢
  rcases kinds h with rfl|rfl|rfl|rfl|rfl|rfl|rfl|rfl|rfl|rfl|rfl|rfl|rfl|rfl|rfl|rfl|rfl|rfl|rfl|rfl|rfl|rfl<;>(revert et ef ek en k f x n;decide)
theorem command_r (c:GCommand):rrCommandFault_v c=cmdF c:=by
 simp only [oB_s,rrCommandFault_v,ck_rrCommandFault_k3_v,ck_rrCommandFault_k5_v,ck_rrCommandFault_k7_v_c0,ck_rrCommandFault_k7_v_c1,ck_rrCommandFault_k7_v_c2,ck_rrCommandFault_k7_v,ck_rrCommandFault_k9_v,cmdF,fieldMay_eq,textMay_eq,countMay_eq]
 generalize cY c.fText ByteArray.empty=et
 generalize cY c.fField ByteArray.empty=ef
 generalize cY c.fKey ByteArray.empty=ek
 generalize (c.fN==0)=en
 generalize value_field_v c.fKey=k
 generalize value_field_v c.fField=f
 generalize value_text_v c.fText=x
 generalize value_count_v c.fN=n
 generalize c.fKind=q
 by_cases h:q<1∨22<q
 ·have e: ∀j:Int,1≤j→j≤22→(q==j)=false:=fun j h1 h2=>by rw [beq_eq_false_iff_ne];omega
  have e0:(decide (1≤q)&&decide (q≤22))=false:=by
   rw [Bool.and_eq_false_iff,decide_eq_false_iff_not,decide_eq_false_iff_not];omega
  simp only [oB_s,e 1 (by decide) (by decide),e 2 (by decide) (by decide),e 3 (by decide) (by decide),e 4 (by decide) (by decide),e 5 (by decide) (by decide),e 6 (by decide) (by decide),e 7 (by decide) (by decide),e 8 (by decide) (by decide),e 9 (by decide) (by decide),e 10 (by decide) (by decide),e 11 (by decide) (by decide),e 12 (by decide) (by decide),e 13 (by decide) (by decide),e 14 (by decide) (by decide),e 15 (by decide) (by decide),e 16 (by decide) (by decide),e 17 (by decide) (by decide),e 18 (by decide) (by decide),e 19 (by decide) (by decide),e 20 (by decide) (by decide),e 21 (by decide) (by decide),e 22 (by decide) (by decide),cond_false,cmdK,e0,Bool.not_false,cond_true]
  rcases h with h|h
  ·simp [show ¬1≤q by omega]
  ·cases decide (1≤q)<;>simp [show ¬q≤22 by omega]
 ·rcases kinds h with rfl|rfl|rfl|rfl|rfl|rfl|rfl|rfl|rfl|rfl|rfl|rfl|rfl|rfl|rfl|rfl|rfl|rfl|rfl|rfl|rfl|rfl<;>(revert et ef ek en k f x n;decide)
theorem call_eq (c:GCall):rrCallFault_v c=clCCall_v c:=by
 simp only [oB_s,rrCallFault_v,rrCallFault_v_c0,clCCall_v,clCCall_v_c0,numberMay_eq,command_p,command_r]
theorem item_eq (x:GItem):rrItemFault_v x=wire_CheckItem_v x:=by
 simp only [oB_s,rrItemFault_v,rrItemFault_v_c0,wire_CheckItem_v,wire_CheckItem_v_c0,ck_wire_CheckItem_k1_v,call_eq,rrnumberMay_v]
 by_cases h1:x.fTerm<1
 ·simp [h1,show ¬1≤x.fTerm by omega]
 ·by_cases h2:1048576<x.fTerm
  ·simp [h1,h2,show ¬x.fTerm≤1048576 by omega]
  ·by_cases h3:x.fTime<0
   ·simp [h1,h2,h3,show ¬0≤x.fTime by omega,show 1≤x.fTerm by omega,show x.fTerm≤1048576 by omega]
   ·by_cases h4:1073741824<x.fTime
    ·simp [h1,h2,h3,h4,show 0≤x.fTime by omega,show ¬x.fTime≤1073741824 by omega,show 1≤x.fTerm by omega,show x.fTerm≤1048576 by omega]
    ·simp [h1,h2,h3,h4,show 0≤x.fTime by omega,show x.fTime≤1073741824 by omega,show 1≤x.fTerm by omega,show x.fTerm≤1048576 by omega]
structure CmdOk (c:GCommand):Prop where
 kind:1≤c.fKind∧c.fKind≤22
 key:(c.fKey.size:Int)≤12
 field:(c.fField.size:Int)≤12
 text:(c.fText.size:Int)≤20
 num: -1099511627776≤c.fN∧c.fN≤1099511627776
theorem seqB_iff {a b:ByteArray} :cY a b=true↔a=b:=by
 unfold cY
 rw [ByteArray.toList_eq,ByteArray.toList_eq]
 constructor
 ·intro h
  have h1:a.data.toList=b.data.toList:=by simpa using h
  cases a;cases b
  simp only [oB_s,ByteArray.mk.injEq]
  exact Array.ext' h1
 ·rintro rfl;exact beq_self_eq_true _
theorem empty_size {s:ByteArray} (h:cY s ByteArray.empty=true):s.size=0:=by
 rw [seqB_iff.1 h];rfl
theorem bif0 {c:Bool} {a b:Int} (ha:a≠0) (h:(bif c then a else b)=0):c=false∧b=0:=by
 cases c with
 |true=>exact absurd h ha
 |false=>exact⟨rfl,h⟩
theorem cmd_ok {c:GCommand} (h:cmdF c=0):CmdOk c:=by
 unfold cmdF cmdK at h
 obtain⟨h1,h⟩:=bif0 (by decide) h
 obtain⟨h2,h⟩:=bif0 (by decide) h
 obtain⟨h3,h⟩:=bif0 (by decide) h
 obtain⟨h4,_⟩:=bif0 (by decide) h
 simp only [oB_s,Bool.not_eq_false',Bool.and_eq_true,decide_eq_true_eq] at h1
 simp only [oB_s,Bool.or_eq_false_iff,Bool.and_eq_false_iff,Bool.not_eq_false',decide_eq_false_iff_not] at h2 h3
 simp only [oB_s,Bool.not_eq_false',value_count_v,Bool.and_eq_true,decide_eq_true_eq] at h4
 have hf: ∀s:ByteArray,value_field_v s=true→(s.size:Int)≤12:=by
  intro s hs
  simp only [oB_s,value_field_v,Bool.and_eq_true,decide_eq_true_eq] at hs
  exact hs.2
 have he: ∀s:ByteArray,cY s ByteArray.empty=true→(s.size:Int)≤12:=fun s hs=>by rw [empty_size hs];decide
 refine⟨h1,?_,?_,?_,h4⟩
 ·rcases h3.1.1 with hk|hk
  ·rcases h2.2 with h5|h5
   ·rw [hk] at h5;cases h5
   ·exact he _ h5
  ·exact hf _ hk
 ·rcases h3.1.2 with hk|hk
  ·rcases h2.1.1.2 with h5|h5
   ·simp only [oB_s,Bool.and_eq_true,decide_eq_true_eq] at h5
    rcases hk with hk|hk
    ·exact absurd h5.1 hk
    ·exact absurd h5.2 hk
   ·exact he _ h5
  ·exact hf _ hk
 ·have:=h3.2
  simp only [oB_s,value_text_v,decide_eq_true_eq] at this
  exact this
structure ItemOk (x:GItem):Prop where
 term:1≤x.fTerm∧x.fTerm≤1048576
 time:0≤x.fTime∧x.fTime≤1073741824
 client:0≤x.fCall.fClient∧x.fCall.fClient≤1048576
 seq:x.fNop=false→x.fCall.fClient≠0→1≤x.fCall.fSeq∧x.fCall.fSeq≤1048576
 cmd:x.fNop=false→x.fCall.fClient≠0→CmdOk x.fCall.fCommand
theorem item_ok {x:GItem} (h:wire_CheckItem_v x=0):ItemOk x:=by
 have q:ck_wire_CheckItem_k1_v x=(decide (x.fTerm<1)||(decide (1048576<x.fTerm)||(decide (x.fTime<0)||decide (1073741824<x.fTime)))):=by
  unfold ck_wire_CheckItem_k1_v
  simp only [oB_s,Bool.cond_true_left]
 simp only [oB_s,wire_CheckItem_v,wire_CheckItem_v_c0,clCCall_v,clCCall_v_c0,command_p] at h
 obtain⟨h0,h⟩:=bif0 (by decide) h
 rw [q,Bool.or_eq_false_iff,Bool.or_eq_false_iff,Bool.or_eq_false_iff] at h0
 obtain⟨h1,h2,h3,h4⟩:=h0
 simp only [oB_s,decide_eq_false_iff_not] at h1 h2 h3 h4
 cases hn:x.fNop with
 |true=>
  rw [hn,cond_true] at h
  cases hc:(x.fCall.fClient==0) with
  |false=>rw [hc] at h;cases h
  |true=>
   have:x.fCall.fClient=0:=by simpa using hc
   exact⟨by omega,by omega,by omega,fun h=>(by rw [hn] at h;cases h),fun h=>(by rw [hn] at h;cases h)⟩
 |false=>
  rw [hn,cond_false] at h
  cases hc:(x.fCall.fClient==0) with
  |true=>
   have:x.fCall.fClient=0:=by simpa using hc
   exact⟨by omega,by omega,by omega,fun _ h=>absurd this h,fun _ h=>absurd this h⟩
  |false=>
   rw [hc,cond_false] at h
   cases h5:client_number_v x.fCall.fClient with
   |false=>rw [h5] at h;cases h
   |true=>
    rw [h5,cond_true] at h
    cases h6:client_number_v x.fCall.fSeq with
    |false=>rw [h6] at h;cases h
    |true=>
     rw [h6,cond_true] at h
     simp only [oB_s,client_number_v,Bool.and_eq_true,decide_eq_true_eq] at h5 h6
     exact⟨by omega,by omega,by omega,fun _ _=>h6,fun _ _=>cmd_ok h⟩
noncomputable def chk:Int→Int→List GItem→Bool
 |_,_,[]=>true
 |t,m,x::l=>((wire_CheckItem_v x==0)&&(decide (t≤x.fTerm)&&decide (m≤x.fTime)))&&chk x.fTerm x.fTime l
theorem k7v2_p (t m:Int) (l:List GItem) (a b:Int) (x:GItem):ck_ledger_Check_k7v2_v t m l a b x= !((wire_CheckItem_v x==0)&&(decide (t≤x.fTerm)&&decide (m≤x.fTime))):=by
 unfold ck_ledger_Check_k7v2_v
 cases wire_CheckItem_v x==0 with
 |false=>rfl
 |true=>
  by_cases h1:x.fTerm<t
  ·simp [h1,show ¬t≤x.fTerm by omega]
  ·by_cases h2:x.fTime<m
   ·simp [h1,h2,show ¬m≤x.fTime by omega]
   ·simp [h1,h2,show t≤x.fTerm by omega,show m≤x.fTime by omega]
theorem idx_mid {α:Type} (pre:List α) (x:α) (suf:List α):idx (pre++x::suf) (pre.length:Int)=some x:=idx_app _ _ _
theorem check_loop (l:List GItem) (hl:l.length≤140737488351232): ∀(suf pre:List GItem) (t m:Int),l=pre++suf→ ∃r,cM (st_ledger_Check_0 l (l.length:Int)) (t,m,(pre.length:Int))=some r∧(chk t m suf=true→r= .inr ())∧(chk t m suf=false→ ∃x,r= .inl x):=by
 intro suf
 induction suf with
 |nil=>
  intro pre t m h
  simp at h;subst h
  refine⟨.inr (),loopM_end (by simp [st_ledger_Check_0]),fun _=>rfl,fun h=>by cases h⟩
 |cons x suf ih=>
  intro pre t m h
  have h1:decide ((pre.length:Int)<(l.length:Int))=true:=decide_eq_true (by rw [h];simp;omega)
  have h2:idx l (pre.length:Int)=some x:=by rw [h];exact idx_mid _ _ _
  have h3:IntKind.i64.wrap ((pre.length:Int)+1)=((pre++ [x]).length:Int):=by
   rw [wrap_id]<;>(rw [h] at hl;simp at hl⊢;try omega)
  cases hb:((wire_CheckItem_v x==0)&&(decide (t≤x.fTerm)&&decide (m≤x.fTime))) with
  |false=>
   refine⟨.inl x,loopM_end (by simp only [oB_s,st_ledger_Check_0,h1,h2,cond_true,k7v2_p,hb,Bool.not_false]),fun h=>?_,fun _=>⟨x,rfl⟩⟩
   rw [chk,hb] at h;cases h
  |true=>
   obtain⟨r,e1,e2,e3⟩:=ih (pre++ [x]) x.fTerm x.fTime (by simp [h])
   refine⟨r,?_,?_,?_⟩
   ·rw [loopM_on (a':=(x.fTerm,x.fTime,((pre++ [x]).length:Int)))]
    ·exact e1
    ·simp only [oB_s,st_ledger_Check_0,h1,h2,cond_true,k7v2_p,hb,Bool.not_true,cond_false,h3]
   ·rw [chk,hb,Bool.true_and];exact e2
   ·rw [chk,hb,Bool.true_and];exact e3
theorem fault_loop (l:GLog) (hl:l.fItems.length≤140737488351232): ∀(suf pre:List GItem) (t m:Int),l.fItems=pre++suf→(pre= []→t=l.fBaseTerm∧m=0)→(∀q y,pre=q++ [y]→t=y.fTerm∧m=y.fTime∧l.fBaseTerm≤t)→cM (st_rrLogFault_0 l) (pre.length:Int)=some (bif chk t m suf then .inr () else .inl ()):=by
 intro suf
 induction suf with
 |nil=>
  intro pre t m h _ _
  simp at h;subst h
  exact loopM_end (by simp [st_rrLogFault_0,chk])
 |cons x suf ih=>
  intro pre t m h hn hp
  have h1:decide ((pre.length:Int)<(l.fItems.length:Int))=true:=decide_eq_true (by rw [h];simp;omega)
  have h2:idx l.fItems (pre.length:Int)=some x:=by rw [h];exact idx_mid _ _ _
  have h3:IntKind.i64.wrap ((pre.length:Int)+1)=((pre++ [x]).length:Int):=by
   rw [wrap_id]<;>(rw [h] at hl;simp at hl⊢;try omega)
  have hstep:st_rrLogFault_0 l (pre.length:Int)=some (bif (wire_CheckItem_v x==0)&&(decide (t≤x.fTerm)&&decide (m≤x.fTime)) then .inl ((pre++ [x]).length:Int) else .inr (.inl ())):=by
   simp only [oB_s,st_rrLogFault_0,h1,cond_true,st_rrLogFault_0_c0,h2,item_eq,h3]
   cases hi:(wire_CheckItem_v x==0) with
   |false=>rfl
   |true=>
    have ho:=item_ok (x:=x) (by simpa using hi)
    simp only [oB_s,cond_true,Bool.true_and]
    rcases List.eq_nil_or_concat pre with hc|⟨q,y,hc⟩
    ·obtain⟨rfl,rfl⟩:=hn hc
     subst hc
     have hm:decide ((0:Int)≤x.fTime)=true:=decide_eq_true ho.time.1
     have hz:decide ((0:Int)<(([]:List GItem).length:Int))=false:=rfl
     rw [hm,hz]
     by_cases ht:x.fTerm<l.fBaseTerm
     ·simp [ht,show ¬l.fBaseTerm≤x.fTerm by omega]
     ·simp [ht,show l.fBaseTerm≤x.fTerm by omega]
    ·rw [List.concat_eq_append] at hc
     obtain⟨rfl,rfl,hb⟩:=hp q y hc
     have hz:decide ((0:Int)<(pre.length:Int))=true:=decide_eq_true (by rw [hc,List.length_append,List.length_singleton];omega)
     have hy:idx l.fItems (IntKind.i64.wrap ((pre.length:Int)-1))=some y:=by
      have e:IntKind.i64.wrap ((pre.length:Int)-1)=(q.length:Int):=by
       have hq:pre.length=q.length+1:=by rw [hc];simp
       have hp:pre.length≤l.fItems.length:=by rw [h];simp
       rw [hq,wrap_id]<;>omega
      rw [e,h,hc,List.append_assoc]
      exact idx_mid _ _ _
     rw [hz,hy]
     by_cases ht:x.fTerm<y.fTerm
     ·simp [oB_s,ht,show ¬y.fTerm≤x.fTerm by omega]
     ·by_cases hm:x.fTime<y.fTime
      ·simp [oB_s,ht,hm,show ¬y.fTime≤x.fTime by omega,show ¬x.fTerm<l.fBaseTerm by omega]
      ·simp [oB_s,ht,hm,show y.fTime≤x.fTime by omega,show y.fTerm≤x.fTerm by omega,show ¬x.fTerm<l.fBaseTerm by omega]
  cases hb:((wire_CheckItem_v x==0)&&(decide (t≤x.fTerm)&&decide (m≤x.fTime))) with
  |false=>
   rw [hb] at hstep
   rw [chk,hb]
   exact loopM_end hstep
  |true=>
   rw [hb] at hstep
   rw [chk,hb,Bool.true_and,loopM_on hstep]
   refine ih (pre++ [x]) x.fTerm x.fTime (by simp [h]) (fun h=>by simp at h) (fun q y hq=>?_)
   obtain⟨e1,e2⟩:=List.append_inj' hq rfl
   simp at e2
   subst e2
   refine⟨rfl,rfl,?_⟩
   simp only [oB_s,Bool.and_eq_true,decide_eq_true_eq] at hb
   rcases List.eq_nil_or_concat pre with hc|⟨q',y',hc⟩
   ·have:=(hn hc).1;omega
   ·rw [List.concat_eq_append] at hc
    have:=(hp q' y' hc).2.2;omega
def headB (l:GLog):Bool:=(decide (0≤l.fBase)&&(decide (0≤l.fBaseTerm)&&decide (l.fBaseTerm≤1048576)))&&(((l.fBase==0)==(l.fBaseTerm==0))&&(decide (l.fItems.length≤200)&&decide (l.fBase+l.fItems.length≤1048576)))
noncomputable def logB (l:GLog):Bool:=headB l&&chk l.fBaseTerm 0 l.fItems
theorem head_p (l:GLog) (hl:l.fItems.length≤140737488351232):ck_ledger_Check_k1_v l= !headB l:=by
 unfold ck_ledger_Check_k1_v ck_ledger_Check_k1_v_c0 headB
 by_cases h1:l.fBase<0
 ·simp [h1,show ¬0≤l.fBase by omega]
 by_cases h2:l.fBaseTerm<0
 ·simp [h1,h2,show ¬0≤l.fBaseTerm by omega]
 by_cases h3:1048576<l.fBaseTerm
 ·simp [h1,h2,h3,show ¬l.fBaseTerm≤1048576 by omega]
 rw [decide_eq_false h1,decide_eq_false h2,decide_eq_false h3,decide_eq_true (show 0≤l.fBase by omega),decide_eq_true (show 0≤l.fBaseTerm by omega),decide_eq_true (show l.fBaseTerm≤1048576 by omega)]
 simp only [oB_s,cond_false,Bool.true_and]
 cases (l.fBase==0)<;>cases (l.fBaseTerm==0)<;>simp only [oB_s,cond_true,cond_false,beq_self_eq_true,Bool.true_and,Bool.not_true,Bool.not_false]<;>try rfl
 all_goals
  by_cases h4:l.fItems.length≤200
  ·rw [decide_eq_false (show ¬(200:Int)<(l.fItems.length:Int) by omega),decide_eq_true h4,cond_false,wrap_id (by omega) (by omega),Bool.true_and]
   by_cases h5:l.fBase+l.fItems.length≤1048576
   ·rw [decide_eq_true h5,decide_eq_false (by omega)];rfl
   ·rw [decide_eq_false h5,decide_eq_true (by omega)];rfl
  ·rw [decide_eq_true (show (200:Int)<(l.fItems.length:Int) by omega),decide_eq_false h4];rfl
theorem head_r (l:GLog) (hl:l.fItems.length≤140737488351232):ck_rrLogFault_k1_v l= !headB l:=by
 unfold ck_rrLogFault_k1_v ck_rrLogFault_k1_v_c0 headB
 by_cases h1:l.fBase<0
 ·simp [h1,show ¬0≤l.fBase by omega]
 by_cases h6:l.fBase≤1048576
 ·by_cases h2:l.fBaseTerm<0
  ·simp [h1,h2,h6,show ¬0≤l.fBaseTerm by omega]
  by_cases h3:1048576<l.fBaseTerm
  ·simp [h1,h2,h3,show ¬l.fBaseTerm≤1048576 by omega]
  rw [decide_eq_true h6,decide_eq_true (show 0≤l.fBase by omega),decide_eq_true (show 0≤l.fBaseTerm by omega),decide_eq_true (show l.fBaseTerm≤1048576 by omega)]
  simp only [oB_s,cond_true,Bool.true_and]
  cases (l.fBase==0)<;>cases (l.fBaseTerm==0)<;>simp only [oB_s,cond_true,cond_false,beq_self_eq_true,Bool.true_and,Bool.not_true,Bool.not_false]<;>try rfl
  all_goals
   by_cases h4:l.fItems.length≤200
   ·rw [decide_eq_false (show ¬(200:Int)<(l.fItems.length:Int) by omega),decide_eq_true h4,cond_false,wrap_id (by omega) (by omega),Bool.true_and]
    by_cases h5:l.fBase+l.fItems.length≤1048576
    ·rw [decide_eq_true h5,decide_eq_false (by omega)];rfl
    ·rw [decide_eq_false h5,decide_eq_true (by omega)];rfl
   ·rw [decide_eq_true (show (200:Int)<(l.fItems.length:Int) by omega),decide_eq_false h4];rfl
 ·rw [decide_eq_false h6,decide_eq_false (show ¬l.fBase+l.fItems.length≤1048576 by omega)]
  cases decide (0≤l.fBase)<;>simp
theorem check_log (l:GLog) (hl:l.fItems.length≤140737488351232):ledger_Check l=some (bif logB l then 0 else 13):=by
 unfold ledger_Check logB
 rw [head_p l hl]
 cases headB l with
 |false=>rfl
 |true=>
  obtain⟨r,e1,e2,e3⟩:=check_loop l.fItems hl l.fItems [] l.fBaseTerm 0 rfl
  simp only [oB_s,List.length_nil,Int.cast_ofNat_Int] at e1
  simp only [oB_s,Bool.not_true,cond_false,Bool.true_and]
  rw [e1]
  cases hc:chk l.fBaseTerm 0 l.fItems with
  |true=>rw [e2 hc];rfl
  |false=>obtain⟨x,e⟩:=e3 hc;rw [e];rfl
theorem fault_log (l:GLog) (hl:l.fItems.length≤140737488351232):rrLogFault l=some (bif logB l then 0 else 13):=by
 unfold rrLogFault logB
 rw [head_r l hl]
 cases headB l with
 |false=>rfl
 |true=>
  have e1:=fault_loop l hl l.fItems [] l.fBaseTerm 0 rfl (fun _=>⟨rfl,rfl⟩) (fun q y h=>by simp at h)
  simp only [oB_s,List.length_nil,Int.cast_ofNat_Int] at e1
  simp only [oB_s,Bool.not_true,cond_false,Bool.true_and]
  rw [e1]
  cases chk l.fBaseTerm 0 l.fItems<;>rfl
theorem copy_log (l:GLog) (hl:dh l.fItems.length 104=true):rrLogCopy_z l=some l:=by
 have hf:=fJ.1 hl
 unfold rrLogCopy_z
 rw [loop_copy (step:=st_rrLogCopy_z_0 l) (fun i s=>(i,⟨l.fBase,l.fBaseTerm,s⟩)) l.fItems (fun s=>⟨l.fBase,l.fBaseTerm,s⟩) (fun i x hx=>by
  have h:=get_lt hx
  have hf:dh ((l.fItems.take i).length+1) 104=true:=fits_of (by rw [List.length_take];omega)
  simp only [oB_s,st_rrLogCopy_z_0,ltN h,cond_true,idx_get hx,hf,wrapN (show i≤_ by omega)]) (by simp only [oB_s,st_rrLogCopy_z_0,geN (Nat.le_refl _),cond_false]),oB_s]
theorem sameItems_self (l:List GItem) (hl:l.length≤140737488351232):rlsameItems l l=some true:=by
 unfold rlsameItems
 rw [beq_self_eq_true,cond_true,show (0:Int)=((0:Nat):Int) from rfl,loop_all (step:=st_rlsameItems_0 l l) l 0 (fun _ _=>true) (fun i x hx _=>by
  have h:=get_lt hx
  simp only [oB_s,st_rlsameItems_0,st_rlsameItems_0_c0,ltN h,cond_true,idx_get hx,beq_self_eq_true,seqB_self,wrapN (show i≤_ by omega)]) (fun i hi=>by simp only [oB_s,st_rlsameItems_0,geN hi,cond_false])]
 have: ∀(m:List GItem) k,allI (fun _ _=>true) k m=true:=by
  intro m
  induction m with
  |nil=>intro k;rfl
  |cons x m ih=>intro k;simp only [oB_s,allI,ih,Bool.and_self]
 rw [this];rfl
theorem sameLog_self (l:GLog) (hl:l.fItems.length≤140737488351232):rlsameLog l l=some true:=by
 unfold rlsameLog ck_rlsameLog_k1
 simp only [oB_s,beq_self_eq_true,cond_true,sameItems_self _ hl]
structure LogOk (l:GLog):Prop where
 base:0≤l.fBase∧l.fBase+l.fItems.length≤1048576
 bt:0≤l.fBaseTerm∧l.fBaseTerm≤1048576
 len:l.fItems.length≤200
 item: ∀x∈l.fItems,ItemOk x
theorem chk_items: ∀(l:List GItem) (t m:Int),chk t m l=true→ ∀x∈l,ItemOk x
 | [],_,_,_,x,hx=>by cases hx
 |y::l,t,m,h,x,hx=>by
  simp only [oB_s,chk,Bool.and_eq_true] at h
  rcases List.mem_cons.1 hx with rfl|hx
  ·exact item_ok (by simpa using h.1.1)
  ·exact chk_items l _ _ h.2 x hx
theorem log_ok {l:GLog} (h:logB l=true):LogOk l:=by
 unfold logB headB at h
 simp only [oB_s,Bool.and_eq_true,decide_eq_true_eq] at h
 exact⟨⟨by omega,by omega⟩,⟨by omega,by omega⟩,by omega,chk_items _ _ _ h.2⟩
def termL (L:List GItem) (k:Nat):Int:=match L[k]? with
 |some y=>y.fTerm
 |none=>-2
theorem termAt_p (l:GLog) (at_:Int) (hl:LogOk l) (h:l.fBase<at_) (h2:at_≤4294967296):rrtermAt l at_=some (termL l.fItems (at_-l.fBase-1).toNat):=by
 have hb:=hl.base;have hn:=hl.len
 have hw:IntKind.i64.wrap (l.fBase+(l.fItems.length:Int))=l.fBase+l.fItems.length:=by rw [wrap_id]<;>omega
 unfold rrtermAt rrlastOf_v
 rw [decide_eq_false (show ¬at_<l.fBase by omega),cond_false,hw]
 by_cases h3:l.fBase+l.fItems.length<at_
 ·rw [decide_eq_true h3,cond_true]
  unfold termL
  rw [List.getElem?_eq_none (by omega)]
 ·have hk:(at_-l.fBase-1).toNat<l.fItems.length:=by omega
  have hy:=List.getElem?_eq_getElem hk
  have e:(at_==l.fBase)=false:=by rw [beq_eq_false_iff_ne];omega
  have hw2:IntKind.i64.wrap (IntKind.i64.wrap (at_-l.fBase)-1)=((at_-l.fBase-1).toNat:Int):=by
   rw [wrap_id (n:=at_-l.fBase) (by omega) (by omega),wrap_id]<;>omega
  rw [decide_eq_false h3,cond_false,e,cond_false,hw2,idx_get hy]
  unfold termL
  rw [hy];rfl
def termP (l:GLog) (p:Int):Int:=bif p==l.fBase then l.fBaseTerm else termL l.fItems (p-l.fBase-1).toNat
theorem termP_last {l:GLog} {p:Int} (h:l.fBase+l.fItems.length<p):termP l p= -2:=by
 unfold termP termL
 have e:(p==l.fBase)=false:=by rw [beq_eq_false_iff_ne];omega
 rw [e,List.getElem?_eq_none (by omega)];rfl
theorem termAt_b (l:GLog) (p:Int) (hl:LogOk l) (h:l.fBase≤p) (h2:p≤4294967296):rrtermAt l p=some (termP l p):=by
 have hb:=hl.base;have hn:=hl.len
 unfold termP
 by_cases e:p=l.fBase
 ·subst e
  have hw:IntKind.i64.wrap (l.fBase+(l.fItems.length:Int))=l.fBase+l.fItems.length:=by rw [wrap_id]<;>omega
  unfold rrtermAt rrlastOf_v
  rw [decide_eq_false (by omega),cond_false,hw,decide_eq_false (by omega),cond_false,beq_self_eq_true,cond_true,cond_true]
 ·have e':(p==l.fBase)=false:=by rw [beq_eq_false_iff_ne];exact e
  rw [termAt_p l p hl (by omega) h2,e',cond_false]
theorem term_b (l:GLog) (p:Int) (hl:LogOk l) (h:l.fBase≤p) (h2:p≤4294967296):ledger_term l p=some (bif decide (l.fBase+l.fItems.length<p) then (0,5) else (termP l p,0)):=by
 have hb:=hl.base;have hn:=hl.len
 unfold ledger_term
 rw [decide_eq_false (show ¬p<l.fBase by omega),cond_false]
 by_cases e:p=l.fBase
 ·subst e
  rw [beq_self_eq_true,cond_true,decide_eq_false (by omega),cond_false]
  unfold termP
  rw [beq_self_eq_true,cond_true]
 ·have e':(p==l.fBase)=false:=by rw [beq_eq_false_iff_ne];exact e
  have hw:IntKind.i64.wrap (p-l.fBase)=p-l.fBase:=by rw [wrap_id]<;>omega
  rw [e',cond_false,hw]
  by_cases h3:l.fBase+l.fItems.length<p
  ·rw [decide_eq_true h3,decide_eq_true (by omega)];rfl
  ·have hk:(p-l.fBase-1).toNat<l.fItems.length:=by omega
   have hy:=List.getElem?_eq_getElem hk
   have hw2:IntKind.i64.wrap (p-l.fBase-1)=((p-l.fBase-1).toNat:Int):=by rw [wrap_id]<;>omega
   rw [decide_eq_false h3,decide_eq_false (by omega),cond_false,cond_false,hw2,idx_get hy]
   unfold termP termL
   rw [e',cond_false,hy];rfl
theorem copySt_p (s:GStore) (ok:s.ok):rrStoreCopy s=some s:=by
 have hl:=ok.2.1
 unfold okN at hl
 unfold rrStoreCopy
 rw [loop_copy (step:=st_rrStoreCopy_0 s) (fun i l=>(i,⟨s.fNow,l⟩)) s.fEntries (fun l=>⟨s.fNow,l⟩) (fun i x hx=>by
  have h:=get_lt hx
  have hf:dh ((s.fEntries.take i).length+1) 128=true:=fits_of (by rw [List.length_take];omega)
  simp only [oB_s,st_rrStoreCopy_0,ltN h,cond_true,idx_get hx,copyV_p _ (ok.2.2 x (List.mem_of_getElem? hx)).2.1,hf,wrapN (show i≤_ by omega)]) (by simp only [oB_s,st_rrStoreCopy_0,geN (Nat.le_refl _),cond_false]),oB_s]
theorem copyR_p (r:GReply) (ok:r.ok):rrreplyCopy r=some r:=by
 have hl:=ok.2.2.2.1
 unfold okN at hl
 unfold rrreplyCopy
 rw [loop_copy (step:=st_rrreplyCopy_0 r) (fun i l=>(i,⟨r.fCode,r.fText,r.fN,l⟩)) r.fList (fun l=>⟨r.fCode,r.fText,r.fN,l⟩) (fun i x hx=>by
  have h:=get_lt hx
  have hf:dh ((r.fList.take i).length+1) 16=true:=fits_of (by rw [List.length_take];omega)
  simp only [oB_s,st_rrreplyCopy_0,ltN h,cond_true,idx_get hx,hf,wrapN (show i≤_ by omega)]) (by simp only [oB_s,st_rrreplyCopy_0,geN (Nat.le_refl _),cond_false]),oB_s]
theorem copyM_p (m:GMachine) (ok:m.ok):rrMachineCopy_z m=some m:=by
 obtain⟨o1,o2,o3,o4⟩:=ok
 unfold okN at o3
 unfold rrMachineCopy_z
 rw [copySt_p _ o1]
 simp only [oB_s]
 rw [loop_copy (step:=st_rrMachineCopy_z_0 m) (fun i l=>(i,⟨m.fStore,m.fNext,l⟩)) m.fClients (fun l=>⟨m.fStore,m.fNext,l⟩) (fun i x hx=>by
  have h:=get_lt hx
  have hf:dh ((m.fClients.take i).length+1) 80=true:=fits_of (by rw [List.length_take];omega)
  simp only [oB_s,st_rrMachineCopy_z_0,ltN h,cond_true,idx_get hx,copyR_p _ (o4 x (List.mem_of_getElem? hx)).2.2.2,hf,wrapN (show i≤_ by omega)]) (by simp only [oB_s,st_rrMachineCopy_z_0,geN (Nat.le_refl _),cond_false]),oB_s]
theorem snapN_eq (n:Int):tape_number_v n=rrnumberMay_v n:=rfl
theorem snap_ok (s:GSnap) (ok:s.ok): ∃n,tape_CheckSnap s=some n∧rrSnapFault s=some n∧(n=0→(1≤s.fIndex∧s.fIndex≤1048576)∧1≤s.fTerm):=by
 have e: ∀q,rrnumberMay_v q=(decide (1≤q)&&decide (q≤1048576)):=fun q=>rfl
 unfold tape_CheckSnap rrSnapFault
 rw [snapN_eq,snapN_eq,mach_p _ ok.2.2,mach_r _ ok.2.2]
 cases h1:rrnumberMay_v s.fIndex with
 |false=>exact⟨2,rfl,rfl,fun h=>by cases h⟩
 |true=>
  cases h2:rrnumberMay_v s.fTerm with
  |false=>exact⟨2,rfl,rfl,fun h=>by cases h⟩
  |true=>
   rw [e,Bool.and_eq_true,decide_eq_true_eq,decide_eq_true_eq] at h1 h2
   exact⟨_,rfl,rfl,fun _=>⟨h1,h2.1⟩⟩
theorem termAt_low (l:GLog) (p:Int) (h:p<l.fBase):rrtermAt l p=some (-1):=by
 unfold rrtermAt
 rw [decide_eq_true h,cond_true]
def restF (l:GLog) (p t:Int):GLog:=bif decide (l.fBase≤p)&&(termP l p==t) then ⟨p,termP l p,l.fItems.drop (p-l.fBase).toNat⟩ else ⟨p,t,[]⟩
theorem le_last {l:GLog} {p t:Int} (h:(termP l p==t)=true) (ht:1≤t):p≤l.fBase+l.fItems.length:=by
 by_cases hp:p≤l.fBase+l.fItems.length
 ·exact hp
 ·rw [termP_last (by omega)] at h
  have:(-2:Int)=t:=by simpa using h
  omega
theorem rest_p (l:GLog) (s:GSnap) (hl:l.fItems.length≤140737488351232) (hb:logB l=true) (hp:1≤s.fIndex∧s.fIndex≤1048576) (ht:1≤s.fTerm):tape_rest l s=some (restF l s.fIndex s.fTerm):=by
 have ho:=log_ok hb
 have hn:=ho.len;have hbb:=ho.base
 unfold tape_rest ledger_Term restF
 rw [check_log l hl,hb]
 simp only [oB_s,cond_true,beq_self_eq_true,decide_eq_false (show ¬s.fIndex<0 by omega),decide_eq_false (show ¬(1048576:Int)<s.fIndex by omega),cond_false]
 by_cases h6:l.fBase≤s.fIndex
 ·rw [term_b l s.fIndex ho h6 (by omega),decide_eq_true h6]
  simp only [oB_s,Bool.true_and]
  by_cases h7:l.fBase+l.fItems.length<s.fIndex
  ·have e:((-2:Int)==s.fTerm)=false:=by rw [beq_eq_false_iff_ne];omega
   rw [decide_eq_true h7,termP_last h7,e];rfl
  ·rw [decide_eq_false h7]
   simp only [cond_false,beq_self_eq_true,cond_true]
   cases hq:(termP l s.fIndex==s.fTerm) with
   |false=>rfl
   |true=>
    have hw:IntKind.i64.wrap (s.fIndex-l.fBase)=((s.fIndex-l.fBase).toNat:Int):=by rw [wrap_id]<;>omega
    have hr:rngB ((s.fIndex-l.fBase).toNat:Int) (l.fItems.length:Int) (l.fItems.length:Int)=true:=by unfold rngB;simp;omega
    have hs:dm l.fItems ((s.fIndex-l.fBase).toNat:Int) (l.fItems.length:Int)=l.fItems.drop (s.fIndex-l.fBase).toNat:=by unfold dm;simp;omega
    have hf:dh (l.fItems.drop (s.fIndex-l.fBase).toNat).length 104=true:=fits_of (by rw [List.length_drop];omega)
    unfold ledger_Trim sKItem_Item
    rw [check_log l hl,hb,term_b l s.fIndex ho h6 (by omega),decide_eq_false h7]
    simp only [oB_s,cond_true,cond_false,beq_self_eq_true,hw,hr,hs,hf]
 ·have e:ledger_term l s.fIndex=some (0,11):=by unfold ledger_term;rw [decide_eq_true (show s.fIndex<l.fBase by omega),cond_true]
  rw [e,decide_eq_false h6]
  rfl
theorem rest_r (l:GLog) (s:GSnap) (hl:l.fItems.length≤140737488351232) (hb:logB l=true) (hp:1≤s.fIndex∧s.fIndex≤1048576) (ht:1≤s.fTerm):rrrested l s=some (restF l s.fIndex s.fTerm):=by
 have ho:=log_ok hb
 have hn:=ho.len;have hbb:=ho.base
 unfold rrrested restF
 by_cases h6:l.fBase≤s.fIndex
 ·rw [termAt_b l s.fIndex ho h6 (by omega),decide_eq_true h6]
  simp only [oB_s,Bool.true_and]
  cases hq:(termP l s.fIndex==s.fTerm) with
  |false=>rfl
  |true=>
   have hlast:=le_last hq ht
   have hqt:termP l s.fIndex=s.fTerm:=by simpa using hq
   have e1:(termP l s.fIndex== -1)=false:=by rw [beq_eq_false_iff_ne];omega
   have e2:(termP l s.fIndex== -2)=false:=by rw [beq_eq_false_iff_ne];omega
   have hlw:rrlastOf_v l=l.fBase+l.fItems.length:=by unfold rrlastOf_v;rw [wrap_id]<;>omega
   have hloop:=loop_copy (step:=st_rrTrimmed_0 l) (fun i q=>(s.fIndex+1+i,⟨s.fIndex,termP l s.fIndex,q⟩)) (l.fItems.drop (s.fIndex-l.fBase).toNat) (fun q=>⟨s.fIndex,termP l s.fIndex,q⟩) (fun i x hx=>by
    have hi:=get_lt hx
    rw [List.length_drop] at hi
    rw [List.getElem?_drop] at hx
    have h1:decide (s.fIndex+1+(i:Int)≤l.fBase+l.fItems.length)=true:=decide_eq_true (by omega)
    have h2:IntKind.i64.wrap (IntKind.i64.wrap (s.fIndex+1+(i:Int)-l.fBase)-1)=(((s.fIndex-l.fBase).toNat+i:Nat):Int):=by
     rw [wrap_id (n:=s.fIndex+1+(i:Int)-l.fBase) (by omega) (by omega),wrap_id]<;>omega
    have h3:IntKind.i64.wrap (s.fIndex+1+(i:Int)+1)=s.fIndex+1+((i+1:Nat):Int):=by rw [wrap_id]<;>omega
    have hf:dh (((l.fItems.drop (s.fIndex-l.fBase).toNat).take i).length+1) 104=true:=fits_of (by rw [List.length_take,List.length_drop];omega)
    simp only [oB_s,st_rrTrimmed_0,hlw,h1,cond_true,h2,idx_get hx,hf,h3]) (by
    have h1:decide (s.fIndex+1+((l.fItems.drop (s.fIndex-l.fBase).toNat).length:Int)≤l.fBase+l.fItems.length)=false:=decide_eq_false (by rw [List.length_drop];omega)
    simp only [oB_s,st_rrTrimmed_0,hlw,h1,cond_false])
   have hw:IntKind.i64.wrap (s.fIndex+1)=s.fIndex+1+0:=by rw [wrap_id]<;>omega
   unfold rrTrimmed
   rw [fault_log l hl,hb,termAt_b l s.fIndex ho h6 (by omega)]
   simp only [oB_s,cond_true,beq_self_eq_true,e1,e2,cond_false,hw,hloop]
 ·rw [termAt_low l s.fIndex (by omega),decide_eq_false h6]
  have e:((-1:Int)==s.fTerm)=false:=by rw [beq_eq_false_iff_ne];omega
  simp only [oB_s,e,cond_false,Bool.false_and]
theorem restF_len (l:GLog) (p t:Int) (hl:l.fItems.length≤140737488351232):(restF l p t).fItems.length≤140737488351232:=by
 unfold restF
 cases (decide (l.fBase≤p)&&(termP l p==t)) with
 |false=>simp
 |true=>simp only [cond_true,List.length_drop];omega
theorem TapeRests_pure (l:GLog) (s:GSnap) (ol:l.ok) (os:s.ok):rlTapeRests l s=some true:=by
 have h0:=ol.2.2.1
 unfold okN at h0
 have hl:l.fItems.length≤140737488351232:=by omega
 have hc:rrLogCopy_z l=some l:=copy_log l (fits_of (by omega))
 have hs:rlsnaps_z s=some s:=by
  unfold rlsnaps_z
  rw [copyM_p s.fMachine os.2.2,oB_s]
 obtain⟨n,e1,e2,e3⟩:=snap_ok s os
 unfold rlTapeRests tape_Rest rrRestOf ck_rrRestOf_q10
 rw [hc,oB_s,hs,oB_s,check_log l hl,oB_s,fault_log l hl,oB_s]
 have hz:(⟨0,0,[]⟩:GLog).fItems.length≤140737488351232:=by simp
 cases hb:logB l with
 |false=>
  simp only [cond_false,show ((13:Int)==0)=false from rfl,oB_s,beq_self_eq_true,cond_true,sameLog_self _ hz]
 |true=>
  simp only [cond_true,beq_self_eq_true,oB_s,e1,e2]
  cases hn:(n==0) with
  |false=>simp only [cond_false,oB_s,beq_self_eq_true,cond_true,sameLog_self _ hz]
  |true=>
   have hn0:n=0:=by simpa using hn
   obtain⟨hp,ht⟩:=e3 hn0
   simp only [cond_true,rest_p l s hl hb hp ht,rest_r l s hl hb hp ht,oB_s,beq_self_eq_true,sameLog_self _ (restF_len l s.fIndex s.fTerm hl)]
end Go.Proofs.Ytgcglmoogaldbaa
