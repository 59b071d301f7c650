/- The relation between the machine's data and the memory of the model. -/
import Derived.Test.YtiicnbdolakdgaaMxT
set_option linter.unusedSimpArgs false
set_option linter.unusedVariables false
set_option linter.constructorNameAsVariable false
set_option linter.unnecessarySimpa false
namespace Go.Mx

abbrev Rd := Nat → Option (Array Value)

mutual
def RV (rd : Rd) : V → Value → Prop
  | .b x, v => v = .bool x
  | .i k n, v => v = .int k n
  | .s x, v => v = .string x
  | .sl sz l, v => ∃ base cap, v = .slice base l.length cap ∧ l.length ≤ cap ∧
      (l = [] ∨ ∃ b off c, base = some ⟨b, off, none⟩ ∧ rd b = some c ∧ RVr rd sz l c off)
def RVr (rd : Rd) (sz : Nat) : List (List V) → Array Value → Nat → Prop
  | [], _, _ => True
  | r :: l, c, off => r.length = sz ∧ RVc rd r c off ∧ RVr rd sz l c (off + sz)
def RVc (rd : Rd) : List V → Array Value → Nat → Prop
  | [], _, _ => True
  | x :: r, c, off => (∃ v, c[off]? = some v ∧ RV rd x v) ∧ RVc rd r c (off + 1)
end

structure Gh where
  rd : Rd
  ob : Nat → Option Nat
  ow : Loc → Option (Nat × Nat)

def unfrozen (c : Array Value) (fr : Nat × Nat) : Prop := ∀ i, i < c.size → ¬ (fr.1 ≤ i ∧ i < fr.2)

def ROwn (h : Array Obj) (rd : Rd) (w : Option (Nat × Nat)) (sz : Nat) (l : List (List V)) (v : Value) : Prop :=
  (v = .slice none 0 0 ∧ l = []) ∨
  ∃ b off cap c e fr, v = .slice (some ⟨b, off, none⟩) l.length cap ∧ w = some (b, off) ∧ h[b]? = some (.cells c e fr) ∧ unfrozen c fr ∧
    (l.length ≤ cap ∧ sz ≠ 0) ∧ off + cap * sz ≤ c.size ∧ RVr rd sz l c off

def RPart (h : Array Obj) (rd : Rd) (w : Option (Nat × Nat)) (sz : Nat) (l : List (List V)) (v : Value) : Prop :=
  ∃ base cap, v = .slice base l.length cap ∧ l.length ≤ cap ∧
    (l = [] ∨ ∃ b off o c e fr, base = some ⟨b, off, none⟩ ∧ w = some (b, o) ∧ h[b]? = some (.cells c e fr) ∧ RVr rd sz l c off)

/-- No hand. -/
def Loc.place : Loc → Bool
  | .hand .. => false
  | _ => true

mutual
def RD (h : Array Obj) (G : Gh) (loc : Nat → Loc) : D → Value → Prop
  | .v x, v => RV G.rd x v
  | .undef, v => v = undef
  | .bad, _ => True
  | .mb g d, v => (g = true → RD h G loc d v) ∧ (g = false → v = undef)
  | .own sz l, v => ROwn h G.rd (G.ow (loc 0)) sz l v
  | .al full sz l src, v => (full = true → ROwn h G.rd (G.ow src) sz l v) ∧ RPart h G.rd (G.ow src) sz l v ∧ src.place = true
  | .cut sz l, v => ∃ base, v = .slice base l.length l.length ∧ (l = [] ∨ ∃ b off c, base = some ⟨b, off, none⟩ ∧ G.rd b = some c ∧ RVr G.rd sz l c off)
  | .rp cells, v => ∃ b off c, v = .pointer (some ⟨b, off, none⟩) ∧ G.rd b = some c ∧ RVc G.rd cells c off
  | .ptr o off, v => ∃ b, G.ob o = some b ∧ v = .pointer (some ⟨b, off, none⟩)
  | .ep src sz i off, v => ∃ b base, G.ow src = some (b, base) ∧ v = .pointer (some ⟨b, base + i * sz + off, none⟩) ∧ src.place = true
  | .agg cs, v => ∃ vs : Array Value, v = .agg vs ∧ RDs h G loc 0 cs vs.toList
  | .tup cs, v => ∃ vs : Array Value, v = .tuple vs ∧ RDs h G (fun _ => Loc.nowhere) 0 cs vs.toList
  | .clo f caps, v => ∃ vs : Array Value, v = .func (.func f) #[] vs ∧ RDs h G (fun _ => Loc.nowhere) 0 caps vs.toList
  | .nilp, v => v = .pointer none
def RDs (h : Array Obj) (G : Gh) (loc : Nat → Loc) : Nat → List D → List Value → Prop
  | _, [], [] => True
  | j, d :: ds, v :: vs => RD h G (fun _ => loc j) d v ∧ RDs h G loc (j + 1) ds vs
  | _, _, _ => False
end

/-- Does the machine say that this place owns something? -/
def ownsAt (σ : St) : Loc → Bool
  | .reg t j => match look σ.env t with
    | .own .. => j == 0
    | .agg cs => match cs[j]? with | some d => isOwn d | none => false
    | _ => false
  | .cell o off => match σ.S[o]? with
    | some cs => match cs[off]? with | some d => isOwn d | none => false
    | none => false
  | _ => false

structure Inv (h : Array Obj) (G : Gh) : Prop where
  rd_ok : ∀ b c, G.rd b = some c → ∃ e fr, h[b]? = some (.cells c e fr)
  ob_lt : ∀ o b, G.ob o = some b → b < h.size
  ob_rd : ∀ o b, G.ob o = some b → G.rd b = none
  ob_inj : ∀ o o' b, G.ob o = some b → G.ob o' = some b → o = o'
  ow_lt : ∀ l b f, G.ow l = some (b, f) → b < h.size
  ow_rd : ∀ l b f, G.ow l = some (b, f) → G.rd b = none
  ow_ob : ∀ l b f o, G.ow l = some (b, f) → G.ob o ≠ some b
  ow_inj : ∀ l l' b f f', G.ow l = some (b, f) → G.ow l' = some (b, f') → l = l'

def ROb (h : Array Obj) (G : Gh) (o : Nat) (cs : List D) : Prop :=
  ∃ b c e fr, G.ob o = some b ∧ h[b]? = some (.cells c e fr) ∧ unfrozen c fr ∧ RDs h G (Loc.cell o) 0 cs c.toList

structure Rel (h : Array Obj) (G : Gh) (tmps : Array Value) (σ : St) : Prop where
  inv : Inv h G
  env : ∀ t, RD h G (Loc.reg t) (look σ.env t) (tmps.getD t undef)
  obj : ∀ o cs, σ.S[o]? = some cs → ROb h G o cs
  obc : ∀ (o : Nat) (cs : List D), σ.S[o]? = some cs → cs.all cellOk = true
  obn : ∀ o, σ.S.length ≤ o → G.ob o = none
  own : ∀ l p, (∀ k j, l ≠ .hand k j) → G.ow l = some p → ownsAt σ l = true

/-! ### More is known: the same data -/

def RdLe (a b : Rd) : Prop := ∀ k c, a k = some c → b k = some c
theorem RdLe.refl (a : Rd) : RdLe a a := fun _ _ h => h
theorem RdLe.trans {a b c : Rd} (h : RdLe a b) (k : RdLe b c) : RdLe a c := fun x y e => k x y (h x y e)

mutual
theorem RV.mono {rd rd' : Rd} (hl : RdLe rd rd') : ∀ (x : V) (v : Value), RV rd x v → RV rd' x v
  | .b _, _, h => h
  | .i _ _, _, h => h
  | .s _, _, h => h
  | .sl sz l, v, h => by
    simp only [RV] at *
    obtain ⟨base, cap, hv, hc, h⟩ := h
    refine ⟨base, cap, hv, hc, h.imp id ?_⟩
    rintro ⟨b, off, c, h1, h2, h3⟩
    exact ⟨b, off, c, h1, hl _ _ h2, RVr.mono hl sz l c off h3⟩
theorem RVr.mono {rd rd' : Rd} (hl : RdLe rd rd') (sz : Nat) : ∀ (l : List (List V)) (c : Array Value) (off : Nat), RVr rd sz l c off → RVr rd' sz l c off
  | [], _, _, _ => by simp only [RVr]
  | r :: l, c, off, h => by
    simp only [RVr] at *
    exact ⟨h.1, RVc.mono hl r c off h.2.1, RVr.mono hl sz l c _ h.2.2⟩
theorem RVc.mono {rd rd' : Rd} (hl : RdLe rd rd') : ∀ (l : List V) (c : Array Value) (off : Nat), RVc rd l c off → RVc rd' l c off
  | [], _, _, _ => by simp only [RVc]
  | x :: r, c, off, h => by
    simp only [RVc] at *
    obtain ⟨⟨v, h1, h2⟩, h3⟩ := h
    exact ⟨⟨v, h1, RV.mono hl x v h2⟩, RVc.mono hl r c _ h3⟩
end

/-- The same cells in that range: the same rows. -/
theorem RVc.same {rd : Rd} : ∀ (l : List V) (c c' : Array Value) (off : Nat), (∀ i, off ≤ i → i < off + l.length → c'[i]? = c[i]?) → RVc rd l c off → RVc rd l c' off
  | [], _, _, _, _, _ => by simp only [RVc]
  | x :: r, c, c', off, hs, h => by
    simp only [RVc, List.length_cons] at *
    obtain ⟨⟨v, h1, h2⟩, h3⟩ := h
    exact ⟨⟨v, by rw [hs off (Nat.le_refl _) (by omega)]; exact h1, h2⟩, RVc.same r c c' _ (fun i a b => hs i (by omega) (by omega)) h3⟩
theorem RVr.same {rd : Rd} (sz : Nat) : ∀ (l : List (List V)) (c c' : Array Value) (off : Nat), (∀ i, off ≤ i → i < off + l.length * sz → c'[i]? = c[i]?) → RVr rd sz l c off → RVr rd sz l c' off
  | [], _, _, _, _, _ => by simp only [RVr]
  | r :: l, c, c', off, hs, h => by
    simp only [RVr, List.length_cons, Nat.succ_mul] at *
    exact ⟨h.1, RVc.same r c c' off (fun i a b => hs i a (by have := h.1; omega)) h.2.1, RVr.same sz l c c' _ (fun i a b => hs i (by omega) (by omega)) h.2.2⟩

theorem RVc.get {rd : Rd} : ∀ (l : List V) (c : Array Value) (off i : Nat) (x : V), RVc rd l c off → l[i]? = some x → ∃ v, c[off + i]? = some v ∧ RV rd x v
  | [], _, _, _, _, _, h => by simp at h
  | y :: r, c, off, 0, x, h, hx => by
    simp only [RVc] at h
    simp at hx; subst hx
    exact h.1
  | y :: r, c, off, i + 1, x, h, hx => by
    simp only [RVc] at h
    simp at hx
    obtain ⟨v, h1, h2⟩ := RVc.get r c (off + 1) i x h.2 hx
    exact ⟨v, by rw [← h1]; congr 1; omega, h2⟩
theorem RVc.drop {rd : Rd} : ∀ (l : List V) (c : Array Value) (off k : Nat), RVc rd l c off → RVc rd (l.drop k) c (off + k)
  | l, c, off, 0, h => by simpa using h
  | [], c, off, k + 1, h => by simp only [List.drop_nil, RVc]
  | x :: r, c, off, k + 1, h => by
    simp only [RVc] at h
    have := RVc.drop r c (off + 1) k h.2
    simpa [Nat.add_assoc, Nat.add_comm 1 k] using this
theorem RVc.take {rd : Rd} : ∀ (l : List V) (c : Array Value) (off k : Nat), RVc rd l c off → RVc rd (l.take k) c off
  | l, c, off, 0, h => by simp only [List.take_zero, RVc]
  | [], c, off, k + 1, h => by simp only [List.take_nil, RVc]
  | x :: r, c, off, k + 1, h => by
    simp only [RVc, List.take_succ_cons] at *
    exact ⟨h.1, RVc.take r c _ k h.2⟩
theorem RVr.get {rd : Rd} (sz : Nat) : ∀ (l : List (List V)) (c : Array Value) (off i : Nat) (r : List V), RVr rd sz l c off → l[i]? = some r → r.length = sz ∧ RVc rd r c (off + i * sz)
  | [], _, _, _, _, _, h => by simp at h
  | y :: l, c, off, 0, r, h, hx => by
    simp only [RVr] at h
    simp at hx; subst hx
    exact ⟨h.1, by simpa using h.2.1⟩
  | y :: l, c, off, i + 1, r, h, hx => by
    simp only [RVr] at h
    simp at hx
    obtain ⟨h1, h2⟩ := RVr.get sz l c (off + sz) i r h.2.2 hx
    exact ⟨h1, by rw [Nat.succ_mul, Nat.add_comm (i * sz) sz, ← Nat.add_assoc]; exact h2⟩
theorem RVr.drop {rd : Rd} (sz : Nat) : ∀ (l : List (List V)) (c : Array Value) (off k : Nat), RVr rd sz l c off → RVr rd sz (l.drop k) c (off + k * sz)
  | l, c, off, 0, h => by simpa using h
  | [], c, off, k + 1, h => by simp only [List.drop_nil, RVr]
  | x :: r, c, off, k + 1, h => by
    simp only [RVr] at h
    have := RVr.drop sz r c (off + sz) k h.2.2
    rw [Nat.succ_mul, Nat.add_comm (k * sz) sz, ← Nat.add_assoc]
    simpa using this
theorem RVr.take {rd : Rd} (sz : Nat) : ∀ (l : List (List V)) (c : Array Value) (off k : Nat), RVr rd sz l c off → RVr rd sz (l.take k) c off
  | l, c, off, 0, h => by simp only [List.take_zero, RVr]
  | [], c, off, k + 1, h => by simp only [List.take_nil, RVr]
  | x :: r, c, off, k + 1, h => by
    simp only [RVr, List.take_succ_cons] at *
    exact ⟨h.1, h.2.1, RVr.take sz r c _ k h.2.2⟩
theorem RVr.append {rd : Rd} (sz : Nat) : ∀ (l m : List (List V)) (c : Array Value) (off : Nat), RVr rd sz l c off → RVr rd sz m c (off + l.length * sz) → RVr rd sz (l ++ m) c off
  | [], m, c, off, _, hm => by simpa using hm
  | x :: l, m, c, off, h, hm => by
    simp only [RVr, List.cons_append, List.length_cons, Nat.succ_mul] at *
    exact ⟨h.1, h.2.1, RVr.append sz l m c _ h.2.2 (by rw [Nat.add_assoc, Nat.add_comm sz]; exact hm)⟩

end Go.Mx
