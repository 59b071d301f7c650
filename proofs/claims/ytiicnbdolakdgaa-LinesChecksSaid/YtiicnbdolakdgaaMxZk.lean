/- Typed rows. -/
import Derived.Test.YtiicnbdolakdgaaMxZj
set_option linter.unusedVariables false
set_option linter.unusedSimpArgs false
set_option linter.constructorNameAsVariable false
set_option linter.unnecessarySimpa false
namespace Go.Mx
open Go
section
variable {P : Program} {t e : TypeId} {k : Nat} {r : List V}
theorem hasFs_shut : ∀ (fs : List Field) (r : List V), hasFs (Has P k) fs r → hasFs (HasV P k) fs r
  | [], r, h => h
  | f :: fs, r, h => by
    simp only [hasFs] at *
    obtain ⟨a, b, h1, h2, h3⟩ := h
    exact ⟨a, b, h1, ⟨h2⟩, hasFs_shut fs b h3⟩
theorem has_int {q : IntKind} (hu : P.underlying t = some (.int q)) (h : HasV P k t r) : ∃ n, r = [.i q n] ∧ q.min ≤ n ∧ n ≤ q.max := by
  replace h := h.out
  cases k with
  | zero => exact h.elim
  | succ k => simp only [Has, hu] at h; exact h
theorem has_bool (hu : P.underlying t = some .bool) (h : HasV P k t r) : ∃ x, r = [.b x] := by
  replace h := h.out
  cases k with
  | zero => exact h.elim
  | succ k => simp only [Has, hu] at h; exact h
theorem has_str (hu : P.underlying t = some .string) (h : HasV P k t r) : ∃ s : ByteArray, r = [.s s] ∧ s.size ≤ reachBytes := by
  replace h := h.out
  cases k with
  | zero => exact h.elim
  | succ k => simp only [Has, hu] at h; exact h
theorem has_slice {n m : Nat} (hu : P.underlying t = some (.slice e)) (hc : P.cellsOf e = n) (hb : P.bytesOf e = m) (h : HasV P k t r) : ∃ l j, r = [.sl n l] ∧ l.length * m ≤ reachBytes ∧ ∀ x ∈ l, HasV P j e x := by
  replace h := h.out
  cases k with
  | zero => exact h.elim
  | succ k =>
    simp only [Has, hu, hc, hb] at h
    obtain ⟨l, h1, h2, h3⟩ := h
    exact ⟨l, k, h1, h2, fun x hx => ⟨h3 x hx⟩⟩
theorem has_struct {fs : Array Field} (hu : P.underlying t = some (.struct fs)) (h : HasV P k t r) : ∃ j, hasFs (HasV P j) fs.toList r := by
  replace h := h.out
  cases k with
  | zero => exact h.elim
  | succ k => simp only [Has, hu] at h; exact ⟨k, hasFs_shut _ _ h⟩
theorem rows_of {X : Type} {f : X → List V} {ok : X → Prop} : ∀ {l : List (List V)}, (∀ r ∈ l, ∃ x, r = f x ∧ ok x) → ∃ xs : List X, l = xs.map f ∧ ∀ x ∈ xs, ok x
  | [], _ => ⟨[], rfl, fun x hx => by cases hx⟩
  | r :: l, h => by
    obtain ⟨x, h1, h2⟩ := h r List.mem_cons_self
    obtain ⟨xs, h3, h4⟩ := rows_of (l := l) (fun r hr => h r (List.mem_cons_of_mem _ hr))
    refine ⟨x :: xs, by rw [h1, h3]; rfl, fun y hy => ?_⟩
    rcases List.mem_cons.1 hy with rfl | hy
    · exact h2
    · exact h4 y hy
theorem map_inj {X Y : Type} {f : X → Y} (hf : ∀ a b, f a = f b → a = b) : ∀ {a b : List X}, a.map f = b.map f ↔ a = b := by
  intro a b
  constructor
  · intro h
    induction a generalizing b with
    | nil => cases b with
      | nil => rfl
      | cons _ _ => cases h
    | cons x a ih => cases b with
      | nil => cases h
      | cons y b =>
        simp only [List.map_cons, List.cons.injEq] at h
        rw [hf _ _ h.1, ih h.2]
  · intro h; rw [h]
theorem HasAll.nil {rs : List (List V)} (h : HasAll P [] rs) : rs = [] := by
  cases rs with
  | nil => rfl
  | cons _ _ => exact h.elim
theorem HasAll.cons {ts : List TypeId} {rs : List (List V)} (h : HasAll P (t :: ts) rs) : ∃ r rs', rs = r :: rs' ∧ HasV P 12 t r ∧ HasAll P ts rs' := by
  cases rs with
  | nil => exact h.elim
  | cons r rs => exact ⟨r, rs, rfl, h.1, h.2⟩
theorem argsD_one {r : List V} : argsD P [t] [r] = [argD P t r] := rfl
theorem argD_struct {fs : Array Field} (hu : P.underlying t = some (.struct fs)) : argD P t r = .agg (r.map .v) := by simp only [argD, hu]
theorem resI {k : IntKind} {S : Store} (c : Bool) (a b : Int) : some (D.v (V.i k (bif c then a else b)), S) = bif c then some (D.v (V.i k a), S) else some (D.v (V.i k b), S) := by cases c <;> rfl
def rowS (s : ByteArray) : List V := [.s s]
def rowI (n : Int) : List V := [.i .i64 n]
def rowB (n : Int) : List V := [.i .u8 n]
theorem rowS_inj {a b : List ByteArray} : a.map rowS = b.map rowS ↔ a = b := map_inj (fun a b h => by simpa [rowS] using h)
theorem rowI_inj {a b : List Int} : a.map rowI = b.map rowI ↔ a = b := map_inj (fun a b h => by simpa [rowI] using h)
theorem rowB_inj {a b : List Int} : a.map rowB = b.map rowB ↔ a = b := map_inj (fun a b h => by simpa [rowB] using h)
def okI (n : Int) : Prop := -9223372036854775808 ≤ n ∧ n ≤ 9223372036854775807
theorem okI_of {n : Int} (h : IntKind.i64.min ≤ n ∧ n ≤ IntKind.i64.max) : okI n := by
  simp only [IntKind.min, IntKind.max, IntKind.bits, IntKind.signed] at h
  exact ⟨by have := h.1; simp at this; omega, by have := h.2; simp at this; omega⟩
def okS (s : ByteArray) : Prop := s.size ≤ 140737488351232
def okN (m n : Nat) : Prop := n * m ≤ 140737488351232
theorem wrap_id {n : Int} (h1 : -9223372036854775808 ≤ n) (h2 : n ≤ 9223372036854775807) : IntKind.i64.wrap n = n := by
  simp [IntKind.wrap, IntKind.min, IntKind.max, IntKind.bits, IntKind.signed]; omega
end
end Go.Mx
