/- What a law is handed: any arguments, as plain data, typed. -/
import Derived.Test.YtiicnbdolakdgaaMxZh
import Derived.ChangeShapes
import Derived.Below
import Derived.SizedLaws
set_option linter.unusedVariables false
set_option linter.unusedSimpArgs false
set_option linter.constructorNameAsVariable false
set_option linter.unnecessarySimpa false
namespace Go.Mx
open Go

section
variable (P : Program)

def hasFs (rec : TypeId → List V → Prop) : List Field → List V → Prop
  | [], r => r = []
  | f :: fs, r => ∃ a b, r = a ++ b ∧ rec f.type a ∧ hasFs rec fs b
/-- Cells of that type, as plain data. -/
def Has : Nat → TypeId → List V → Prop
  | 0, _, _ => False
  | k + 1, t, r => match P.underlying t with
    | some .bool => ∃ x, r = [.b x]
    | some (.int q) => ∃ n, r = [.i q n] ∧ q.min ≤ n ∧ n ≤ q.max
    | some .string => ∃ s : ByteArray, r = [.s s] ∧ s.size ≤ reachBytes
    | some (.slice e) => ∃ l, r = [.sl (P.cellsOf e) l] ∧ l.length * P.bytesOf e ≤ reachBytes ∧ ∀ x ∈ l, Has k e x
    | some (.struct fs) => hasFs (Has k) fs.toList r
    | _ => False

def tile (rec : TypeId → Bool) : List Field → Nat → Nat → Bool
  | [], off, n => off == n
  | f :: fs, off, n => f.offset == off && rec f.type && tile rec fs (off + P.cellsOf f.type) n
/-- Types whose values are plain data. -/
def plainT : Nat → TypeId → Bool
  | 0, _ => false
  | k + 1, t => match P.underlying t with
    | some .bool | some (.int _) | some .string => P.cellsOf t == 1
    | some (.slice e) => plainT k e && P.cellsOf e != 0 && P.cellsOf t == 1
    | some (.struct fs) => tile P (plainT k) fs.toList 0 (P.cellsOf t)
    | _ => false

def rdOf (w : World) : Rd := fun b => match w.heap[b]? with
  | some (.cells c _ _) => some c
  | _ => none

theorem RVc.move {rd : Rd} : ∀ (r : List V) (c c' : Array Value) (i off : Nat), (∀ j v, c[j]? = some v → c'[off + j]? = some v) → RVc rd r c i → RVc rd r c' (off + i)
  | [], _, _, _, _, _, _ => by simp only [RVc]
  | x :: r, c, c', i, off, h, hr => by
    simp only [RVc] at *
    obtain ⟨⟨v, h1, h2⟩, h3⟩ := hr
    exact ⟨⟨v, h _ _ h1, h2⟩, RVc.move r c c' (i + 1) off h h3⟩
theorem RVc.append {rd : Rd} : ∀ (a b : List V) (c : Array Value) (off : Nat), RVc rd a c off → RVc rd b c (off + a.length) → RVc rd (a ++ b) c off
  | [], b, c, off, _, h => by simpa using h
  | x :: a, b, c, off, h, k => by
    simp only [RVc, List.cons_append, List.length_cons] at *
    exact ⟨h.1, RVc.append a b c (off + 1) h.2 (by rwa [Nat.add_assoc, Nat.add_comm 1])⟩

theorem mapM_range {α : Type} {f : Nat → Option α} {n : Nat} {l : List α} (h : (List.range n).mapM f = some l) : l.length = n ∧ ∀ i, i < n → ∃ x, f i = some x ∧ l[i]? = some x := by
  have gen : ∀ (ks : List Nat) (l : List α), ks.mapM f = some l → l.length = ks.length ∧ ∀ (i k : Nat), ks[i]? = some k → ∃ x, f k = some x ∧ l[i]? = some x := by
    intro ks
    induction ks with
    | nil => intro l h; simp at h; subst h; exact ⟨rfl, fun i k hk => by simp at hk⟩
    | cons k ks ih =>
      intro l h
      simp only [List.mapM_cons] at h
      cases hk : f k with
      | none => simp [hk] at h
      | some x =>
        cases hm : ks.mapM f with
        | none => simp [hk, hm] at h
        | some r =>
          simp only [hk, hm, bind, Option.bind, pure, Option.some.injEq] at h
          subst h
          obtain ⟨h1, h2⟩ := ih r hm
          refine ⟨by simp [h1], fun i k' hi => ?_⟩
          cases i with
          | zero => simp only [List.getElem?_cons_zero, Option.some.injEq] at hi; subst hi; exact ⟨x, hk, rfl⟩
          | succ i => simp only [List.getElem?_cons_succ] at hi ⊢; exact h2 i k' hi
  obtain ⟨h1, h2⟩ := gen _ _ h
  refine ⟨by simpa using h1, fun i hi => h2 i i (by simp [hi])⟩

theorem cells_get {w : World} {a : Addr} {n : Nat} {cs : List Value} (h : w.cells? 0 a n = some cs) : cs.length = n ∧ ∀ i, i < n → w.cell? (a.add i) = cs[i]? := by
  simp only [World.cells?, Nat.zero_le, if_true] at h
  obtain ⟨h1, h2⟩ := mapM_range h
  refine ⟨h1, fun i hi => ?_⟩
  obtain ⟨x, hx, hl⟩ := h2 i hi
  rw [hx, hl]
theorem cell_get {w : World} {a : Addr} {v : Value} (h : w.cell? a = some v) : a.spot = none ∧ ∃ c e fr, w.heap[a.block]? = some (.cells c e fr) ∧ c[a.off]? = some v := by
  unfold World.cell? at h
  split at h
  · rename_i c e fr hb
    split at h
    · cases h
    · rename_i hs
      refine ⟨by cases h2 : a.spot with | none => rfl | some _ => simp [h2] at hs, c, e, fr, hb, h⟩
  · cases h
end

section
variable {P : Program} {H : Type} {enc : TypeId × Value → H} {w : World}

theorem tile_le {rec : TypeId → Bool} {n : Nat} : ∀ (fs : List Field) (o : Nat), tile P rec fs o n = true → o ≤ n := by
  intro fs
  induction fs with
  | nil => intro o h; simp only [tile, beq_iff_eq] at h; omega
  | cons g gs ih => intro o h; simp only [tile, Bool.and_eq_true, beq_iff_eq] at h; have := ih _ h.2; omega
theorem tile_ok {rec : TypeId → Bool} {R : TypeId → List V → Prop} {rd : Rd} {c : Array Value} {n : Nat} :
    ∀ (fs : List Field) (off : Nat), tile P rec fs off n = true → (∀ (j : Nat) (f : Field), fs[j]? = some f → rec f.type = true → f.offset + P.cellsOf f.type ≤ n → ∃ r, RVc rd r c f.offset ∧ R f.type r ∧ r.length = P.cellsOf f.type) →
      ∃ r, RVc rd r c off ∧ hasFs R fs r ∧ r.length = n - off
  | [], off, ht, h => by
    simp only [tile, beq_iff_eq] at ht
    exact ⟨[], by simp only [RVc], rfl, by simp [ht]⟩
  | f :: fs, off, ht, h => by
    simp only [tile, Bool.and_eq_true, beq_iff_eq] at ht
    obtain ⟨⟨h1, h2⟩, h3⟩ := ht
    have hlen := tile_le _ _ h3
    obtain ⟨a, ha1, ha2, ha3⟩ := h 0 f rfl h2 (by omega)
    obtain ⟨b, hb1, hb2, hb3⟩ := tile_ok fs (off + P.cellsOf f.type) h3 (fun j g hg => h (j + 1) g (by simpa using hg))
    rw [h1] at ha1
    exact ⟨a ++ b, RVc.append a b _ _ ha1 (by rw [ha3]; exact hb1), ⟨a, b, rfl, ha2, hb2⟩, by rw [List.length_append, ha3, hb3]; omega⟩

theorem weightsAll_mem {e : TypeId} : ∀ {l : List (DataW H)} {i : Nat} {d : DataW H}, l[i]? = some d → ∀ n ∈ d.weights P e, n ∈ DataW.weightsAll P e l
  | [], i, d, h => by simp at h
  | x :: l, i, d, h => by
    intro n hn
    rw [DataW.weightsAll, List.mem_append]
    cases i with
    | zero => simp only [List.getElem?_cons_zero, Option.some.injEq] at h; subst h; exact .inl hn
    | succ i => simp only [List.getElem?_cons_succ] at h; exact .inr (weightsAll_mem h n hn)

theorem weightsEach_mem : ∀ {ts : List TypeId} {ds : List (DataW H)} {j : Nat} {t : TypeId} {d : DataW H}, ts[j]? = some t → ds[j]? = some d → ∀ n ∈ d.weights P t, n ∈ DataW.weightsEach P ts ds := DataW.weights_mem_each

theorem rows_ok {sz : Nat} {c : Array Value} {off : Nat} {R : List V → Prop} : ∀ (len : Nat), (∀ i, i < len → ∃ r, RVc (rdOf w) r c (off + i * sz) ∧ R r ∧ r.length = sz) → ∃ l : List (List V), l.length = len ∧ RVr (rdOf w) sz l c off ∧ ∀ x ∈ l, R x := by
  intro len h
  have gen : ∀ k, k ≤ len → ∃ l : List (List V), l.length = k ∧ RVr (rdOf w) sz l c (off + (len - k) * sz) ∧ ∀ x ∈ l, R x := by
    intro k
    induction k with
    | zero => intro _; exact ⟨[], rfl, by simp only [RVr], fun x hx => by cases hx⟩
    | succ k ih =>
      intro hk
      obtain ⟨l, h1, h2, h3⟩ := ih (by omega)
      obtain ⟨r, r1, r2, r3⟩ := h (len - (k + 1)) (by omega)
      refine ⟨r :: l, by simp [h1], ?_, fun x hx => ?_⟩
      · simp only [RVr]
        refine ⟨r3, r1, ?_⟩
        have : off + (len - (k + 1)) * sz + sz = off + (len - k) * sz := by
          have e : len - k = (len - (k + 1)) + 1 := by omega
          rw [e, Nat.add_mul, Nat.one_mul]; omega
        rw [this]; exact h2
      · rcases List.mem_cons.1 hx with rfl | hx
        · exact r2
        · exact h3 x hx
  obtain ⟨l, h1, h2, h3⟩ := gen len (Nat.le_refl _)
  exact ⟨l, h1, by simpa using h2, h3⟩

theorem trod_V : ∀ (k fuel : Nat) (t : TypeId) (cs : List Value) (d : DataW H) (ps : List MemPlace), plainT P k t = true → DataW.trod enc P w 0 (fun _ => true) true fuel t cs = some (d, ps) → (∀ n ∈ d.weights P t, n ≤ reachBytes) →
    ∃ r, RVc (rdOf w) r cs.toArray 0 ∧ Has P k t r ∧ r.length = P.cellsOf t := by
  intro k
  induction k with
  | zero => intro fuel t cs d ps hp; cases hp
  | succ k ih =>
    intro fuel t cs d ps hp ht hw
    unfold plainT at hp
    simp only [Has]
    cases hu : P.underlying t with
    | none => rw [hu] at hp; cases hp
    | some desc =>
      rw [hu] at hp
      cases desc with
      | bool =>
        simp only [beq_iff_eq] at hp ⊢
        obtain ⟨b, rfl, _⟩ := DataW.trod_bool hu ht
        exact ⟨[.b b], by simp [RVc, RV], ⟨b, rfl⟩, by simp [hp]⟩
      | int q =>
        simp only [beq_iff_eq] at hp ⊢
        obtain ⟨n, rfl, _, hn⟩ := DataW.trod_int hu ht
        simp only [Lit.wf, Bool.and_eq_true, decide_eq_true_eq] at hn
        exact ⟨[.i q n], by simp [RVc, RV], ⟨n, rfl, hn⟩, by simp [hp]⟩
      | string =>
        simp only [beq_iff_eq] at hp ⊢
        obtain ⟨s, rfl, hd, hs⟩ := DataW.trod_string hu ht
        refine ⟨[.s s], by simp [RVc, RV], ⟨s, rfl, ?_⟩, by simp [hp]⟩
        simp only [Prod.mk.injEq] at hd
        have := hw s.data.toList.length (by rw [hd.1]; simp [DataW.weights])
        simpa using this
      | slice e =>
        simp only [Bool.and_eq_true, bne_iff_ne, ne_eq, beq_iff_eq] at hp ⊢
        obtain ⟨hp, hsz⟩ := hp
        rcases DataW.trod_slice hu ht with ⟨rfl, _⟩ | ⟨a, len, cap, elems, rest, m, _, rfl, hd, _, hlc, _, hel, hge, _⟩
        · refine ⟨[.sl (P.cellsOf e) []], ?_, ⟨[], rfl, by simp, fun x hx => by cases hx⟩, by simp [hsz]⟩
          simp [RVc, RV]
        · simp only [Prod.mk.injEq] at hd
          have hwt : ∀ n ∈ DataW.weights P t (.slice (elems.map (·.1)) (rest.map (·.1))), n ≤ reachBytes := by rw [← hd.1]; exact hw
          rw [DataW.weights, hu] at hwt
          simp only [List.mem_cons, List.mem_append, List.length_map] at hwt
          have hlen : len * P.bytesOf e ≤ reachBytes := by
            have := hwt _ (.inl rfl)
            rw [hel] at this
            exact Nat.le_trans (Nat.mul_le_mul_right _ (Nat.le_add_right _ _)) this
          cases len with
          | zero =>
            refine ⟨[.sl (P.cellsOf e) []], ?_, ⟨[], rfl, by simp, fun x hx => by cases hx⟩, by simp [hsz]⟩
            simp [RVc, RV]
          | succ len =>
            have hpos : 0 < P.cellsOf e := Nat.pos_of_ne_zero hp.2
            -- the block
            have h0 := hge 0 (by omega)
            obtain ⟨x0, hx0⟩ : ∃ x, elems[0]? = some x := ⟨elems[0]'(by omega), by simp [List.getElem?_eq_getElem]⟩
            rw [hx0] at h0
            simp only [Option.bind_eq_some_iff] at h0
            obtain ⟨cs0, hc0, ht0⟩ := h0
            obtain ⟨hl0, hg0⟩ := cells_get hc0
            have hg00 := hg0 0 hpos
            rw [List.getElem?_eq_getElem (by omega)] at hg00
            obtain ⟨hsp, c, ety, fr, hb, hc⟩ := cell_get hg00
            simp only [Nat.zero_mul, Addr.add, if_true] at hsp hb hc
            obtain ⟨b, off, sp⟩ := a
            simp only at hsp hb hc
            subst hsp
            have hcell : ∀ i j, i < len + 1 → j < P.cellsOf e → ((⟨b, off, none⟩ : Addr).add (i * P.cellsOf e)).add j = ⟨b, off + i * P.cellsOf e + j, none⟩ := by
              intro i j _ _
              simp only [Addr.add]
              by_cases h1 : i * P.cellsOf e = 0 <;> by_cases h2 : j = 0 <;> simp [h1, h2]
            obtain ⟨l, l1, l2, l3⟩ := rows_ok (w := w) (sz := P.cellsOf e) (c := c) (off := off) (R := Has P k e) (len + 1) (by
              intro i hi
              have h1 := hge i hi
              obtain ⟨xi, hxi⟩ : ∃ x, elems[i]? = some x := ⟨elems[i]'(by omega), by simp [List.getElem?_eq_getElem]⟩
              rw [hxi] at h1
              simp only [Option.bind_eq_some_iff] at h1
              obtain ⟨csi, hci, hti⟩ := h1
              obtain ⟨hli, hgi⟩ := cells_get hci
              obtain ⟨r, r1, r2, r3⟩ := ih m e csi xi.1 xi.2 hp.1 hti (fun n hn => hwt n (.inr (.inl (weightsAll_mem (i := i) (by simp [hxi]) n hn))))
              refine ⟨r, ?_, r2, r3⟩
              have := RVc.move (rd := rdOf w) r csi.toArray c 0 (off + i * P.cellsOf e) (by
                intro j v hv
                simp only [List.getElem?_toArray] at hv
                have hj : j < P.cellsOf e := by
                  rw [← hli]; exact (List.getElem?_eq_some_iff.1 hv).1
                have h2 := hgi j hj
                rw [hcell i j hi hj, hv] at h2
                obtain ⟨_, c', e', fr', hb', hc'⟩ := cell_get h2
                simp only at hb' hc'
                rw [hb] at hb'
                simp only [Option.some.injEq, Obj.cells.injEq] at hb'
                rw [hb'.1]; exact hc') r1
              simpa using this)
            refine ⟨[.sl (P.cellsOf e) l], ?_, ⟨l, rfl, by rw [l1]; exact hlen, l3⟩, by simp [hsz]⟩
            simp only [RVc, RV, and_true]
            refine ⟨_, by simp; rfl, some ⟨b, off, none⟩, cap, by rw [l1], by omega, .inr ⟨b, off, c, rfl, by simp [rdOf, hb], l2⟩⟩
      | struct fs =>
        simp only at hp ⊢
        obtain ⟨xs, m, _, hd, hcl, hxl, hge⟩ := DataW.trod_struct hu ht
        simp only [Prod.mk.injEq] at hd
        have hwt : ∀ n ∈ DataW.weights P t (.agg (xs.map (·.1))), n ≤ reachBytes := by rw [← hd.1]; exact hw
        rw [DataW.weights, hu] at hwt
        simp only at hwt
        obtain ⟨r, r1, r2, r3⟩ := tile_ok (P := P) (R := Has P k) (rd := rdOf w) (c := cs.toArray) fs.toList 0 hp (by
          intro j f hf hr hle
          have hf' : fs[j]? = some f := by simpa using hf
          have h1 := hge j f hf'
          obtain ⟨x, hx⟩ : ∃ x, xs[j]? = some x := by
            have : j < fs.size := by simpa using (List.getElem?_eq_some_iff.1 hf).1
            exact ⟨xs[j]'(by omega), by simp [List.getElem?_eq_getElem]⟩
          rw [hx] at h1
          obtain ⟨r, r1, r2, r3⟩ := ih m f.type _ x.1 x.2 hr h1 (fun n hn => hwt n (weightsEach_mem (j := j) (t := f.type) (d := x.1) (by simp [hf]) (by simp [hx]) n hn))
          refine ⟨r, ?_, r2, r3⟩
          have := RVc.move (rd := rdOf w) r _ cs.toArray 0 f.offset (by
            intro j v hv
            simp only [List.getElem?_toArray, List.getElem?_take, List.getElem?_drop] at hv ⊢
            split at hv
            · exact hv
            · cases hv) r1
          simpa using this)
        exact ⟨r, r1, r2, by simpa using r3⟩
      | _ => simp at hp
end
end Go.Mx
