/- Functions in order: a check of their code by computing; oracles that are put together. -/
import Derived.Test.YtiicnbdolakdgaaMxZf
import Derived.Test.YtiicnbdolakdgaaMxRun
import Derived.Test.YtiicnbdolakdgaaMxDh
set_option linter.unusedVariables false
set_option linter.unusedSimpArgs false
set_option linter.constructorNameAsVariable false
set_option linter.unnecessarySimpa false
namespace Go.Mx
open Go

def loopIds : Code → List Nat
  | .block i (.loop c) => i :: loopIds c
  | .block _ c => loopIds c
  | .loop c => loopIds c
  | .seq a b => loopIds a ++ loopIds b
  | .cond _ a b => loopIds a ++ loopIds b
  | _ => []

def Occurs (id : Nat) (c : Code) : Code → Prop
  | .block i (.loop c') => (id = i ∧ c = c') ∨ Occurs id c c'
  | .block _ c' => Occurs id c c'
  | .loop c' => Occurs id c c'
  | .seq a b => Occurs id c a ∨ Occurs id c b
  | .cond _ a b => Occurs id c a ∨ Occurs id c b
  | _ => False

theorem Occurs.mem {id : Nat} {c : Code} : ∀ {c0 : Code}, Occurs id c c0 → id ∈ loopIds c0 := by
  intro c0
  fun_induction loopIds c0 <;> intro h <;> simp only [Occurs] at h <;> first | contradiction | skip
  · rename_i i c' ih
    rcases h with ⟨rfl, _⟩ | h
    · exact List.mem_cons_self
    · exact List.mem_cons_of_mem _ (ih h)
  · rename_i i c' hne ih
    exact ih h
  · rename_i ih; exact ih h
  · rename_i iha ihb
    rcases h with h | h
    · exact List.mem_append_left _ (iha h)
    · exact List.mem_append_right _ (ihb h)
  · rename_i iha ihb
    rcases h with h | h
    · exact List.mem_append_left _ (iha h)
    · exact List.mem_append_right _ (ihb h)

theorem findLoop_none {id : Nat} : ∀ {c0 : Code}, id ∉ loopIds c0 → findLoop id c0 = none := by
  intro c0
  fun_induction loopIds c0 <;> intro h <;> simp only [findLoop]
  · rename_i i c' ih
    simp only [List.mem_cons, not_or] at h
    have : (i == id) = false := by simpa using fun e => h.1 e.symm
    rw [this, cond_false]; exact ih h.2
  · rename_i ih; exact ih h
  · rename_i ih; exact ih h
  · rename_i iha ihb
    simp only [List.mem_append, not_or] at h
    rw [iha h.1]; exact ihb h.2
  · rename_i iha ihb
    simp only [List.mem_append, not_or] at h
    rw [iha h.1]; exact ihb h.2

theorem Occurs.find {id : Nat} {c : Code} : ∀ {c0 : Code}, Occurs id c c0 → (loopIds c0).Nodup → findLoop id c0 = some c := by
  intro c0
  fun_induction loopIds c0 <;> intro h hn <;> simp only [Occurs] at h <;> first | contradiction | skip
  · rename_i i c' ih
    simp only [List.nodup_cons] at hn
    simp only [findLoop]
    rcases h with ⟨rfl, rfl⟩ | h
    · simp
    · have : (i == id) = false := by rw [beq_eq_false_iff_ne]; intro e; subst e; exact hn.1 h.mem
      rw [this, cond_false]; exact ih h hn.2
  · rename_i i c' hne ih
    simp only [findLoop]; exact ih h hn
  · rename_i ih; simp only [findLoop]; exact ih h hn
  · rename_i iha ihb
    rw [List.nodup_append] at hn
    simp only [findLoop]
    rcases h with h | h
    · rw [iha h hn.1]
    · rw [findLoop_none (fun hm => hn.2.2 _ hm _ h.mem rfl)]; exact ihb h hn.2.1
  · rename_i iha ihb
    rw [List.nodup_append] at hn
    simp only [findLoop]
    rcases h with h | h
    · rw [iha h hn.1]
    · rw [findLoop_none (fun hm => hn.2.2 _ hm _ h.mem rfl)]; exact ihb h hn.2.1

/-- The regions that draw their order. -/
def drawn : Code → List (Nat × Array Oper)
  | .region id ops true => [(id, ops)]
  | .block _ c => drawn c
  | .loop c => drawn c
  | .seq a b => drawn a ++ drawn b
  | .cond _ a b => drawn a ++ drawn b
  | _ => []
def dstsOk (n : Nat) : Code → Bool
  | .region _ ops _ => ops.toList.all fun o => match o.dst with | some t => decide (t < n) | none => true
  | .block _ c => dstsOk n c
  | .loop c => dstsOk n c
  | .seq a b => dstsOk n a && dstsOk n b
  | .cond _ a b => dstsOk n a && dstsOk n b
  | _ => true
def nodupB : List Nat → Bool
  | [] => true
  | a :: r => !(r.contains a) && nodupB r
theorem nodupB_ok : ∀ {l : List Nat}, nodupB l = true → l.Nodup := by
  intro l
  induction l with
  | nil => intro _; exact List.nodup_nil
  | cons a r ih =>
    intro h
    simp only [nodupB, Bool.and_eq_true, Bool.not_eq_true', List.contains_eq_mem, decide_eq_false_iff_not] at h
    exact List.nodup_cons.2 ⟨h.1, ih h.2⟩

section
variable {P : Program} {C : Oracle} {ν : Note} {n : Nat} {body : Code}
theorem codeOk_of (SC : SoundC P C) (hb : (loopIds body).Nodup) : ∀ (c : Code), (∀ id c', Occurs id c' c → Occurs id c' body) → dstsOk n c = true → (∀ p ∈ drawn c, RegionOk P C ν n p.1 p.2 true) → CodeOk P C ν n body c := by
  intro c
  fun_induction loopIds c <;> intro ho hs hd
  · rename_i i c' ih
    simp only [CodeOk]
    refine ⟨(ho _ _ ?_).find hb, ih (fun id c'' h => ho _ _ ?_) (by simpa only [dstsOk] using hs) (by simpa only [drawn] using hd)⟩
    · simp [Occurs]
    · simp only [Occurs]; exact .inr h
  · rename_i i c' hne ih
    have : CodeOk P C ν n body (.block i c') = CodeOk P C ν n body c' := by
      cases c' with
      | loop c'' => exact absurd rfl (hne c'')
      | _ => rfl
    rw [this]
    refine ih (fun id c'' h => ho _ _ ?_) (by simpa only [dstsOk] using hs) (by simpa only [drawn] using hd)
    have : Occurs id c'' (.block i c') = Occurs id c'' c' := by
      cases c' with
      | loop c3 => exact absurd rfl (hne c3)
      | _ => rfl
    rw [this]; exact h
  · trivial
  · rename_i a b iha ihb
    simp only [dstsOk, Bool.and_eq_true] at hs
    simp only [drawn, List.mem_append] at hd
    exact ⟨iha (fun id c' h => ho _ _ (by simp only [Occurs]; exact .inl h)) hs.1 (fun p h => hd p (.inl h)), ihb (fun id c' h => ho _ _ (by simp only [Occurs]; exact .inr h)) hs.2 (fun p h => hd p (.inr h))⟩
  · rename_i x a b iha ihb
    simp only [dstsOk, Bool.and_eq_true] at hs
    simp only [drawn, List.mem_append] at hd
    exact ⟨iha (fun id c' h => ho _ _ (by simp only [Occurs]; exact .inl h)) hs.1 (fun p h => hd p (.inl h)), ihb (fun id c' h => ho _ _ (by simp only [Occurs]; exact .inr h)) hs.2 (fun p h => hd p (.inr h))⟩
  · rename_i c h1 h2 h3 h4 h5
    cases c with
    | region id ops draw =>
      cases draw with
      | false =>
        refine regionOk_text SC ?_
        intro o ho t ht
        simp only [dstsOk, List.all_eq_true] at hs
        have := hs o ho
        rw [ht] at this
        simpa using this
      | true => exact hd (id, ops) (by simp only [drawn, List.mem_singleton])
    | block i c => exact absurd rfl (h2 i c)
    | loop c => exact absurd rfl (h3 c)
    | seq a b => exact absurd rfl (h4 a b)
    | cond x a b => exact absurd rfl (h5 x a b)
    | _ => trivial

theorem find_sub {n : Nat} {id : Nat} {c : Code} : ∀ {c0 : Code}, findLoop id c0 = some c → (∀ i c', Occurs i c' c → Occurs i c' c0) ∧ (dstsOk n c0 = true → dstsOk n c = true) ∧ (∀ p ∈ drawn c, p ∈ drawn c0) := by
  intro c0
  fun_induction findLoop id c0 <;> intro hf
  · rename_i i c' hi
    simp only [Option.some.injEq] at hf
    subst hf
    refine ⟨fun j c'' h => by simp only [Occurs]; exact .inr h, fun h => by simpa only [dstsOk] using h, fun p h => by simpa only [drawn] using h⟩
  · rename_i i c' hi ih
    obtain ⟨h1, h2, h3⟩ := ih hf
    exact ⟨fun j c'' h => by simp only [Occurs]; exact .inr (h1 _ _ h), fun h => h2 (by simpa only [dstsOk] using h), fun p h => by simpa only [drawn] using h3 p h⟩
  · rename_i i c' hne ih
    obtain ⟨h1, h2, h3⟩ := ih hf
    refine ⟨fun j c'' h => ?_, fun h => h2 (by simpa only [dstsOk] using h), fun p h => by simpa only [drawn] using h3 p h⟩
    have : Occurs j c'' (.block i c') = Occurs j c'' c' := by
      cases c' with
      | loop c3 => exact absurd rfl (hne c3)
      | _ => rfl
    rw [this]; exact h1 _ _ h
  · rename_i c' ih
    obtain ⟨h1, h2, h3⟩ := ih hf
    exact ⟨fun j c'' h => by simp only [Occurs]; exact h1 _ _ h, fun h => h2 (by simpa only [dstsOk] using h), fun p h => by simpa only [drawn] using h3 p h⟩
  · rename_i a b c1 heq ih
    rw [← hf] at ih
    obtain ⟨h1, h2, h3⟩ := ih heq
    exact ⟨fun j c'' h => by simp only [Occurs]; exact .inl (h1 _ _ h), fun h => h2 (by simp only [dstsOk, Bool.and_eq_true] at h; exact h.1), fun p h => by simp only [drawn, List.mem_append]; exact .inl (h3 p h)⟩
  · rename_i a b heq ih1 ih2
    obtain ⟨h1, h2, h3⟩ := ih2 hf
    exact ⟨fun j c'' h => by simp only [Occurs]; exact .inr (h1 _ _ h), fun h => h2 (by simp only [dstsOk, Bool.and_eq_true] at h; exact h.2), fun p h => by simp only [drawn, List.mem_append]; exact .inr (h3 p h)⟩
  · rename_i x a b c1 heq ih
    rw [← hf] at ih
    obtain ⟨h1, h2, h3⟩ := ih heq
    exact ⟨fun j c'' h => by simp only [Occurs]; exact .inl (h1 _ _ h), fun h => h2 (by simp only [dstsOk, Bool.and_eq_true] at h; exact h.1), fun p h => by simp only [drawn, List.mem_append]; exact .inl (h3 p h)⟩
  · rename_i x a b heq ih1 ih2
    obtain ⟨h1, h2, h3⟩ := ih2 hf
    exact ⟨fun j c'' h => by simp only [Occurs]; exact .inr (h1 _ _ h), fun h => h2 (by simp only [dstsOk, Bool.and_eq_true] at h; exact h.2), fun p h => by simp only [drawn, List.mem_append]; exact .inr (h3 p h)⟩
  · cases hf
end

theorem drawn_dsts {n : Nat} : ∀ (c : Code), dstsOk n c = true → ∀ p ∈ drawn c, ∀ o ∈ p.2.toList, ∀ t, o.dst = some t → t < n := by
  intro c
  fun_induction drawn c <;> intro h p hp
  · rename_i id ops
    simp only [List.mem_singleton] at hp
    subst hp
    intro o ho t ht
    simp only [dstsOk, List.all_eq_true] at h
    have := h o ho
    rw [ht] at this
    simpa using this
  · rename_i ih; exact ih (by simpa only [dstsOk] using h) p hp
  · rename_i ih; exact ih (by simpa only [dstsOk] using h) p hp
  · rename_i iha ihb
    simp only [dstsOk, Bool.and_eq_true] at h
    rcases List.mem_append.1 hp with hp | hp
    · exact iha h.1 p hp
    · exact ihb h.2 p hp
  · rename_i iha ihb
    simp only [dstsOk, Bool.and_eq_true] at h
    rcases List.mem_append.1 hp with hp | hp
    · exact iha h.1 p hp
    · exact ihb h.2 p hp
  · cases hp
/-- A function's code is in order: to be computed. -/
def fnOk (fn : Func) : Bool := fn.body.isSome && !(fn.name == "runtime.NumGoroutine") && nodupB (loopIds (fn.body.getD .skip)) && dstsOk fn.ntmps (fn.body.getD .skip)

theorem sem_fn {P : Program} {C : Oracle} {ν : Note} {f : FuncId} {fn : Func} {args : List D} {S S' : Store} {d : D} {k : Nat} (SC : SoundC P C) (hf : P.funcs[f]? = some fn) (ok : fnOk fn = true) (hm : P.follows .mixedOrders = true) (hd' : (drawn (bodyOf fn)).all (fun p => drawOk p.2 (ν.free p.1)) = true) (hargs : args.length ≤ fn.ntmps)
    (he : evFn (tyOf P) C (evL (tyOf P) C ν (bodyOf fn) k) ν fn.results.toList (bodyOf fn) args S = some (d, S')) : Mx.Sem P f args S d S' := by
  simp only [fnOk, Bool.and_eq_true, Bool.not_eq_true'] at ok
  obtain ⟨⟨⟨h1, h2⟩, h3⟩, h4⟩ := ok
  cases hb : fn.body with
  | none => rw [hb] at h1; cases h1
  | some body =>
    have e : bodyOf fn = body := by simp [bodyOf, hb]
    rw [e] at he hd'
    rw [hb] at h3 h4
    simp only [Option.getD_some] at h3 h4
    have hnd := nodupB_ok h3
    have hd : ∀ p ∈ drawn body, RegionOk P C ν fn.ntmps p.1 p.2 true := fun p hp => regionOk_draw SC hm (drawn_dsts _ h4 p hp) (List.all_eq_true.1 hd' p hp)
    have okb : CodeOk P C ν fn.ntmps body body := codeOk_of SC hnd body (fun _ _ h => h) h4 hd
    refine fn_ok hf hb h2 okb (fun id c hc => ?_) hargs he
    obtain ⟨s1, s2, s3⟩ := find_sub (n := fn.ntmps) hc
    exact codeOk_of SC hnd c s1 (s2 h4) (fun p hp => hd p (s3 p hp))

/-! ### Oracles put together -/
open Classical in
noncomputable def Oracle.add (C : Oracle) (f : Nat) {X : Type} (A : X → Prop) (arg : X → List D × Store) (res : X → D × Store) : Oracle := fun f' a S =>
  if f' = f then (if h : ∃ x, A x ∧ arg x = (a, S) then some (res h.choose) else none) else C f' a S
def noC : Oracle := fun _ _ _ => none
theorem noC_sound (P : Program) : SoundC P noC := fun _ _ _ _ _ h => by cases h

theorem add_eq {C : Oracle} {f : Nat} {X : Type} {A : X → Prop} {arg : X → List D × Store} {res : X → D × Store} (inj : ∀ x y, arg x = arg y → res x = res y) {x : X} (hx : A x) {a : List D} {S : Store} (ha : arg x = (a, S)) : (Oracle.add C f A arg res) f a S = some (res x) := by
  have h : ∃ x, A x ∧ arg x = (a, S) := ⟨x, hx, ha⟩
  simp only [Oracle.add, if_true, dif_pos h]
  rw [inj _ x (h.choose_spec.2.trans ha.symm)]
theorem add_ne {C : Oracle} {f f' : Nat} {X : Type} {A : X → Prop} {arg : X → List D × Store} {res : X → D × Store} (h : f' ≠ f) (a : List D) (S : Store) : (Oracle.add C f A arg res) f' a S = C f' a S := by
  simp only [Oracle.add, if_neg h]
theorem add_sound {P : Program} {C : Oracle} {f : Nat} {X : Type} {A : X → Prop} {arg : X → List D × Store} {res : X → D × Store} (SC : SoundC P C) (h : ∀ x, A x → Mx.Sem P f (arg x).1 (arg x).2 (res x).1 (res x).2) : SoundC P (Oracle.add C f A arg res) := by
  intro f' a S d S' he
  unfold Oracle.add at he
  split at he
  · rename_i hf
    subst hf
    split at he
    · rename_i hx
      have h1 := h _ hx.choose_spec.1
      rw [hx.choose_spec.2] at h1
      simp only [Option.some.injEq] at he
      rw [he] at h1
      exact h1
    · cases he
  · exact SC f' a S d S' he
end Go.Mx
