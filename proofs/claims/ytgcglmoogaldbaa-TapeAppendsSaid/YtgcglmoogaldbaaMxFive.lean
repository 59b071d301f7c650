/- The machine Mx: slices.Grow of nothing. -/
import Derived.Test.YtgcglmoogaldbaaMxFour
import Derived.Shelf.Spec.SlicesGrow
set_option linter.unusedSimpArgs false
set_option linter.unusedVariables false
set_option linter.constructorNameAsVariable false
set_option linter.unnecessarySimpa false
/- slices.Grow of nothing: the kit's contract as one of the machine's. -/
noncomputable section
namespace Go.Mx
open Go Go.Proofs
theorem Hi {h:Array Obj} {G:Gh} {n:Int} {vals:List Value} (A:z7 h G [.own 0 [],.v (.i .i64 n)] vals):vals= [.slice none 0 0,.int .i64 n]:=by
 have hl:=A.len
 obtain⟨v0,h0,r0,_⟩:=A.rd 0 (.own 0 []) rfl
 obtain⟨v1,h1,r1,_⟩:=A.rd 1 (.v (.i .i64 n)) rfl
 simp only [RD,RV] at r0 r1
 subst r1
 rcases r0 with⟨r0,_⟩|⟨_,_,_,_,_,_,_,_,_,_,hz,_⟩
 ·subst r0
  match vals,hl,h0,h1 with
  | [x,y],_,h0,h1=>simp at h0 h1;rw [h0,h1]
 ·exact absurd rfl hz.2
/-- No hand holds anything. -/
def noHands (G:Gh):Gh:={ G with ow:=fun l=>match l with| .hand .. =>none|l=>G.ow l }
theorem Rel.noHands {h:Array Obj} {G:Gh} {tmps:Array Value} {σ:St} (R:Rel h G tmps σ):Rel h (noHands G) tmps σ:=by
 refine R.hands (fun l hl=>by cases l<;>first|rfl|cases hl) (fun l p hp=>⟨l,by cases l<;>first|exact hp|cases hp⟩) (fun l l' b f f' h1 h2=>?_)
 refine R.inv.ow_inj l l' b f f' (by cases l<;>first|exact h1|cases h1) (by cases l'<;>first|exact h2|cases h2)
theorem dv.noHands (h:Array Obj) (G:Gh):dv h G (noHands G):=⟨cS.refl _,rfl,fun l b f hl=>⟨l,f,by cases l<;>first|exact hl|cases hl⟩,fun b hb=>.inl hb⟩
theorem N6 {P:Program} {ρ:Go.Shelf.Ren} {f:FuncId} {i0:TypeInfo} {z:Value} (L:Lays8.n4 P ρ) (hf:ρ.f 4=f) (hi:P.info? (ρ.t 25)=some i0) (hz:i0.zero=some z) (hs:i0.size=1) (hb:i0.bytes=1) (hzc:z.cells.size=1) {p0:Int} (h0:0<=p0) (h1:p0<=140737488355328):
  Mx.Sem P f [.own 0 [],.v (.i .i64 p0)] [] (.own 1 []) []:=by
 subst hf
 intro w G vals R Lo A
 obtain rfl:=Hi A
 obtain⟨n,rfl⟩: ∃n:Nat,p0=n:=⟨p0.toNat,by omega⟩
 obtain⟨nm,hnm,hfn⟩:=L.f4
 have R0:=R.noHands
 unfold eD
 have hcf:(callFunc (ρ.f 4) #[.slice none 0 0,.int .i64 (n:Int)]).run P w= .ok (.enter (ρ.f 4) #[.slice none 0 0,.int .i64 (n:Int)]) w:=by
  have h1':nm≠ "runtime.NumGoroutine" :=by simpa using hnm
  simp [callFunc,hfn,h1',Body8.n4]
 rw [show [Value.slice none 0 0,Value.int .i64 (n:Int)].toArray= #[.slice none 0 0,.int .i64 (n:Int)] from rfl,hcf]
 show Calls P (ρ.f 4) #[.slice none 0 0,.int .i64 (n:Int)] w _
 rcases Nat.eq_zero_or_pos n with rfl|hn
 ·refine (Any8.slices_Grow_room L none 0 0 0 w (Nat.le_refl _) (by omega) (by omega) (Nat.le_refl _)).mono ?_
  rintro e w' ⟨rfl,rfl⟩
  refine⟨_,rfl,noHands G,R0,Lo,(dv.noHands _ G).goes rfl,rfl,⟨?_,.inl rfl,?_⟩⟩
  ·simp only [RD];exact .inl ⟨rfl,rfl⟩
  ·intro k j p hp;cases hp
 ·refine (Any8.slices_Grow_grow L i0 z hi hz (by omega) none 0 0 n [] w (Nat.le_refl _) (by omega) (by rw [hb];omega) (by omega) (by simp) (fun _=>rfl) (fun a h=>by cases h)).mono ?_
  rintro e w' ⟨rfl,rfl⟩
  have hcap:=grownCap_ge w (0+n) 0 (ρ.t 25)
  obtain⟨G2,R2,H,b1,b2,b3,b4⟩:=R0.newOwn (k:=0) (fun j=>rfl) (([]:List Value).toArray++Builtin.zeroCells z.cells (0+n-0)++Builtin.zeroCells z.cells (grownCap w (0+n) 0 (ρ.t 25)-(0+n))) (ρ.t 25) (0,0) (fun i _=>by omega) (sz:=1) (len:=0) (cap:=grownCap w (0+n) 0 (ρ.t 25)) (l:=[]) rfl (by decide) (Nat.zero_le _) (by simp only [Array.size_append,size_zeroCells,hzc,List.size_toArray,List.length_nil];omega) (by simp only [RVr])
  ·refine⟨_,rfl,G2,R2,Lo,dq.push _ (.inr rfl) (by rw [b1];exact cS.refl _) ?_ ?_ (Nat.le_refl _) (fun q _=>by rw [b2];rfl),rfl,⟨H.rd,.inl H.ok,?_⟩⟩
   ·intro b hm
    rcases hm with⟨q,hq⟩|⟨l,f,hl⟩
    ·rw [b2] at hq;exact .inl (.inl ⟨q,hq⟩)
    ·rcases b4 l b f hl with h1|h1
     ·obtain⟨l1,f1,h2⟩:=(dv.noHands w.heap G).mine l b f h1;exact .inl (.inr ⟨l1,f1,h2⟩)
     ·exact .inr h1
   ·intro b hb
    rw [b1] at hb
    exact .inl hb
   ·intro k j p hp
    rcases Nat.eq_zero_or_pos k with rfl|hk
    ·exact⟨rfl,H.own j p hp⟩
    ·rw [b3 _ (by rintro j' hj;cases hj;omega)] at hp;cases hp
theorem Ld {l m:List (List Int)} :ah sR l=ah sR m↔l=m:=by
 constructor
 ·intro h
  induction l generalizing m with
  |nil=>cases m with
   |nil=>rfl
   |cons b m=>cases h
  |cons a l ih=>cases m with
   |nil=>cases h
   |cons b m=>
    have h': [V.sl 1 (ah cE a)]::ah sR l= [V.sl 1 (ah cE b)]::ah sR m:=h
    simp only [List.cons.injEq,V.sl.injEq,bc,true_and,and_true] at h'
    rw [h'.1,ih h'.2]
 ·rintro rfl;rfl
end Go.Mx
