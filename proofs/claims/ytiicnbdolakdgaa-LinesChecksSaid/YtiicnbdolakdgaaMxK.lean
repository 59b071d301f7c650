/- Writes into blocks. -/
import Derived.Test.YtiicnbdolakdgaaMxJ
set_option linter.unusedVariables false
set_option linter.unusedSimpArgs false
set_option linter.constructorNameAsVariable false
set_option linter.unnecessarySimpa false
namespace Go.Mx
open Go

/-- Cells with others from o on. -/
def wr (c : Array Value) (o : Nat) : List Value → Array Value
  | [] => c
  | v :: r => wr (c.setIfInBounds o v) (o + 1) r
theorem wr_size : ∀ (vs : List Value) (c : Array Value) (o : Nat), (wr c o vs).size = c.size
  | [], _, _ => rfl
  | v :: r, c, o => by rw [wr, wr_size r]; simp
theorem wr_out : ∀ (vs : List Value) (c : Array Value) (o i : Nat), (i < o ∨ o + vs.length ≤ i) → (wr c o vs)[i]? = c[i]?
  | [], _, _, _, _ => rfl
  | v :: r, c, o, i, h => by
    simp only [List.length_cons] at h
    rw [wr, wr_out r _ _ i (by omega), Array.getElem?_setIfInBounds, if_neg (by omega)]
theorem wr_in : ∀ (vs : List Value) (c : Array Value) (o j : Nat), o + vs.length ≤ c.size → j < vs.length → (wr c o vs)[o + j]? = vs[j]?
  | [], _, _, _, _, h => by simp at h
  | v :: r, c, o, 0, hs, _ => by
    simp only [List.length_cons] at hs
    rw [wr, wr_out r _ _ _ (by omega), Array.getElem?_setIfInBounds, if_pos (by omega), if_pos (by omega)]; rfl
  | v :: r, c, o, j + 1, hs, h => by
    simp only [List.length_cons] at hs h
    have := wr_in r (c.setIfInBounds o v) (o + 1) j (by simp; omega) (by omega)
    rw [wr, show o + (j + 1) = o + 1 + j by omega, this]; rfl

section
variable (w : World) (b : Nat)
theorem heap_setCell {c : Array Value} {e : TypeId} {fr : Nat × Nat} (h : w.heap[b]? = some (.cells c e fr)) (o : Nat) (v : Value) : (w.setCell ⟨b, o, none⟩ v).heap[b]? = some (.cells (c.setIfInBounds o v) e fr) := by
  simp [World.setCell, Array.getElem?_modify, h]
end
theorem heap_setCells (b : Nat) {e : TypeId} {fr : Nat × Nat} : ∀ (vs : List Value) (w : World) (c : Array Value) (o : Nat), w.heap[b]? = some (.cells c e fr) → (w.setCells b o vs).heap[b]? = some (.cells (wr c o vs) e fr)
  | [], _, _, _, h => h
  | v :: r, w, c, o, h => by
    rw [World.setCells, wr]
    exact heap_setCells b r _ _ _ (heap_setCell w b h o v)
theorem heap_setCells_ne (b : Nat) {k : Nat} (hk : k ≠ b) : ∀ (vs : List Value) (w : World) (o : Nat), (w.setCells b o vs).heap[k]? = w.heap[k]?
  | [], _, _ => rfl
  | v :: r, w, o => by
    rw [World.setCells, heap_setCells_ne b hk r]
    simp only [World.setCell, Array.getElem?_modify]
    rw [if_neg (fun h => hk h.symm)]
theorem heap_setCells_size (b : Nat) : ∀ (vs : List Value) (w : World) (o : Nat), (w.setCells b o vs).heap.size = w.heap.size
  | [], _, _ => rfl
  | v :: r, w, o => by rw [World.setCells, heap_setCells_size b r]; simp [World.setCell]
theorem tape_setCells (b : Nat) : ∀ (vs : List Value) (w : World) (o : Nat), (w.setCells b o vs).tape = w.tape
  | [], _, _ => rfl
  | v :: r, w, o => by rw [World.setCells, tape_setCells b r]; rfl
theorem os_setCells' (b : Nat) : ∀ (vs : List Value) (w : World) (o : Nat), (w.setCells b o vs).os = w.os
  | [], _, _ => rfl
  | v :: r, w, o => by rw [World.setCells, os_setCells' b r]; rfl
theorem output_setCells' (b : Nat) : ∀ (vs : List Value) (w : World) (o : Nat), (w.setCells b o vs).output = w.output
  | [], _, _ => rfl
  | v :: r, w, o => by rw [World.setCells, output_setCells' b r]; rfl

theorem there_of {w : World} {b o n : Nat} {c : Array Value} {e : TypeId} {fr : Nat × Nat} (h : w.heap[b]? = some (.cells c e fr)) (hf : unfrozen c fr) (hn : o + n ≤ c.size) : w.there b o n := by
  intro j hj
  refine ⟨?_, ?_⟩
  · rw [cell_of rfl h]; simp; omega
  · have := hf (o + j) (by omega)
    simp only [World.frozen?, h]
    simp only [Bool.and_eq_false_iff, decide_eq_false_iff_not]
    omega

/-! ### Index-wise -/
theorem RDs.of_get {h : Array Obj} {G : Gh} (loc : Nat → Loc) : ∀ (j : Nat) (ds : List D) (vs : List Value), vs.length = ds.length → (∀ i d, ds[i]? = some d → ∃ v, vs[i]? = some v ∧ RD h G (fun _ => loc (j + i)) d v) → RDs h G loc j ds vs
  | _, [], [], _, _ => by simp only [RDs]
  | j, d :: ds, v :: vs, hl, hg => by
    simp only [RDs]
    refine ⟨?_, RDs.of_get loc (j + 1) ds vs (by simpa using hl) (fun i d' hd => ?_)⟩
    · obtain ⟨v', h1, h2⟩ := hg 0 d rfl
      simp at h1; subst h1; simpa using h2
    · obtain ⟨v', h1, h2⟩ := hg (i + 1) d' (by simpa using hd)
      refine ⟨v', by simpa using h1, ?_⟩
      rw [Nat.add_assoc, Nat.add_comm 1 i]; exact h2
  | _, [], _ :: _, hl, _ => by simp at hl
  | _, _ :: _, [], hl, _ => by simp at hl
theorem RVc.of_get {rd : Rd} : ∀ (l : List V) (c : Array Value) (off : Nat), (∀ i x, l[i]? = some x → ∃ v, c[off + i]? = some v ∧ RV rd x v) → RVc rd l c off
  | [], _, _, _ => by simp only [RVc]
  | x :: r, c, off, h => by
    simp only [RVc]
    refine ⟨by simpa using h 0 x rfl, RVc.of_get r c (off + 1) (fun i y hy => ?_)⟩
    have := h (i + 1) y (by simpa using hy)
    rwa [Nat.add_assoc, Nat.add_comm 1 i]
theorem RVr.of_get {rd : Rd} (sz : Nat) : ∀ (l : List (List V)) (c : Array Value) (off : Nat), (∀ i r, l[i]? = some r → r.length = sz ∧ RVc rd r c (off + i * sz)) → RVr rd sz l c off
  | [], _, _, _ => by simp only [RVr]
  | r :: l, c, off, h => by
    simp only [RVr]
    have h0 := h 0 r rfl
    refine ⟨h0.1, by simpa using h0.2, RVr.of_get sz l c (off + sz) (fun i y hy => ?_)⟩
    have := h (i + 1) y (by simpa using hy)
    rwa [Nat.succ_mul, Nat.add_comm (i * sz) sz, ← Nat.add_assoc] at this

theorem setCells_length : ∀ (ds cs : List D) (off : Nat), (setCells cs off ds).length = cs.length
  | [], _, _ => rfl
  | d :: r, cs, off => by rw [setCells, setCells_length r]; simp
theorem setCells_out : ∀ (ds cs : List D) (off i : Nat), (i < off ∨ off + ds.length ≤ i) → (setCells cs off ds)[i]? = cs[i]?
  | [], _, _, _, _ => rfl
  | d :: r, cs, off, i, h => by
    simp only [List.length_cons] at h
    rw [setCells, setCells_out r _ _ i (by omega), List.getElem?_set, if_neg (by omega)]
theorem setCells_in : ∀ (ds cs : List D) (off j : Nat), off + ds.length ≤ cs.length → j < ds.length → (setCells cs off ds)[off + j]? = ds[j]?
  | [], _, _, _, _, h => by simp at h
  | d :: r, cs, off, 0, hs, _ => by
    simp only [List.length_cons] at hs
    rw [setCells, setCells_out r _ _ _ (by omega), List.getElem?_set, if_pos (by omega), if_pos (by omega)]; rfl
  | d :: r, cs, off, j + 1, hs, h => by
    simp only [List.length_cons] at hs h
    have := setCells_in r (cs.set off d) (off + 1) j (by simp; omega) (by omega)
    rw [setCells]
    rw [show off + (j + 1) = off + 1 + j by omega, this]; rfl
theorem setVs_length : ∀ (ds cs : List V) (off : Nat), (setVs cs off ds).length = cs.length
  | [], _, _ => rfl
  | d :: r, cs, off => by rw [setVs, setVs_length r]; simp
theorem setVs_out : ∀ (ds cs : List V) (off i : Nat), (i < off ∨ off + ds.length ≤ i) → (setVs cs off ds)[i]? = cs[i]?
  | [], _, _, _, _ => rfl
  | d :: r, cs, off, i, h => by
    simp only [List.length_cons] at h
    rw [setVs, setVs_out r _ _ i (by omega), List.getElem?_set, if_neg (by omega)]
theorem setVs_in : ∀ (ds cs : List V) (off j : Nat), off + ds.length ≤ cs.length → j < ds.length → (setVs cs off ds)[off + j]? = ds[j]?
  | [], _, _, _, _, h => by simp at h
  | d :: r, cs, off, 0, hs, _ => by
    simp only [List.length_cons] at hs
    rw [setVs, setVs_out r _ _ _ (by omega), List.getElem?_set, if_pos (by omega), if_pos (by omega)]; rfl
  | d :: r, cs, off, j + 1, hs, h => by
    simp only [List.length_cons] at hs h
    have := setVs_in r (cs.set off d) (off + 1) j (by simp; omega) (by omega)
    rw [setVs]
    rw [show off + (j + 1) = off + 1 + j by omega, this]; rfl

theorem dOwns_cells {d : D} {j : Nat} (h : dOwns d j = true) : ∃ d', (cellsOf d)[j]? = some d' ∧ isOwn d' = true := by
  unfold dOwns at h
  split at h
  · have hj : j = 0 := by simpa using h
    subst hj; exact ⟨_, rfl, rfl⟩
  · rename_i cs
    cases hc : cs[j]? with
    | none => simp [hc] at h
    | some d' => exact ⟨d', by simpa [cellsOf] using hc, by simpa [hc] using h⟩
  · cases h

section
variable {h h' : Array Obj} {G : Gh} {tmps : Array Value} {σ : St}

/-- A value goes from a hand into cells of a variable. -/
theorem Rel.put (R : Rel h G tmps σ) {k : Nat} {d : D} {v : Value} (H : Held h G k d v) (hok : (cellsOf d).all cellOk = true) (hcells : RDs h G (Loc.hand k) 0 (cellsOf d) v.cells.toList)
    {o b off : Nat} {cs : List D} {c : Array Value} {e : TypeId} {fr : Nat × Nat} (hcs : σ.S[o]? = some cs) (hb : G.ob o = some b) (hh : h[b]? = some (.cells c e fr)) (hoff : off + (cellsOf d).length ≤ cs.length)
    (hs : h'.size = h.size) (hne : ∀ q, q ≠ b → h'[q]? = h[q]?) (hb' : h'[b]? = some (.cells (wr c off v.cells.toList) e fr)) :
    ∃ G', Rel h' G' tmps { env := bif ((cs.drop off).take (cellsOf d).length).any isOwn then kill (inObj o) σ.env else σ.env, S := σ.S.set o (setCells cs off (cellsOf d)) } ∧ G'.rd = G.rd ∧ G'.ob = G.ob ∧ (∀ j, G'.ow (.hand k j) = none) ∧
      (∀ l p, G'.ow l = some p → ∃ l0, G.ow l0 = some p) ∧ (∀ q j, q ≠ k → G'.ow (.hand q j) = G.ow (.hand q j)) := by
  let n := (cellsOf d).length
  have hn : (cellsOf d).length = n := rfl
  let ow : Loc → Option (Nat × Nat) := fun l => match l with
    | .hand q j => if q = k then none else G.ow (.hand q j)
    | .cell q j => if q = o ∧ off ≤ j ∧ j < off + n then G.ow (.hand k (j - off)) else G.ow (.cell q j)
    | l => G.ow l
  have o1 : ∀ j, ow (.hand k j) = none := fun j => by simp [ow]
  have o2 : ∀ q j, q ≠ k → ow (.hand q j) = G.ow (.hand q j) := fun q j hq => by simp [ow, hq]
  have o3 : ∀ j, off ≤ j → j < off + n → ow (.cell o j) = G.ow (.hand k (j - off)) := fun j h1 h2 => by simp [ow, h1, h2]
  have o4 : ∀ q j, ¬ (q = o ∧ off ≤ j ∧ j < off + n) → ow (.cell q j) = G.ow (.cell q j) := fun q j hq => by simp only [ow]; rw [if_neg hq]
  let r : Loc → Loc := fun l => match l with
    | .cell q j => if q = o ∧ off ≤ j ∧ j < off + n then .hand k (j - off) else .cell q j
    | l => l
  have hr : ∀ l p, ow l = some p → G.ow (r l) = some p ∧ ∀ j, l ≠ .hand k j := by
    intro l p hl
    refine ⟨?_, by rintro j rfl; rw [o1] at hl; cases hl⟩
    cases l with
    | hand q j =>
      by_cases hq : q = k
      · subst hq; rw [o1] at hl; cases hl
      · rw [o2 q j hq] at hl; exact hl
    | cell q j =>
      by_cases hq : q = o ∧ off ≤ j ∧ j < off + n
      · obtain ⟨rfl, h1, h2⟩ := hq
        rw [o3 j h1 h2] at hl; simpa [r, h1, h2] using hl
      · rw [o4 q j hq] at hl; simp only [r]; rw [if_neg hq]; exact hl
    | _ => exact hl
  have hinj : ∀ l l' b f f', ow l = some (b, f) → ow l' = some (b, f') → l = l' := by
    intro l l' b f f' h1 h2
    have e := R.inv.ow_inj _ _ b f f' (hr _ _ h1).1 (hr _ _ h2).1
    have g1 := (hr _ _ h1).2
    have g2 := (hr _ _ h2).2
    cases l with
    | cell q j =>
      cases l' with
      | cell q' j' =>
        simp only [r] at e
        split at e <;> split at e
        · rename_i a1 a2
          have : j = j' := by injection e; omega
          rw [a1.1, a2.1, this]
        · cases e
        · cases e
        · exact e
      | hand q' j' =>
        simp only [r] at e
        split at e
        · injection e with e1 e2; subst e1; exact absurd rfl (g2 _)
        · cases e
      | _ => simp only [r] at e; split at e <;> cases e
    | hand q j =>
      cases l' with
      | cell q' j' =>
        simp only [r] at e
        split at e
        · injection e with e1 e2; subst e1; exact absurd rfl (g1 _)
        · cases e
      | _ => exact e
    | _ =>
      cases l' with
      | cell q' j' => simp only [r] at e; split at e <;> cases e
      | _ => exact e
  have hrdb : G.rd b = none := R.inv.ob_rd o b hb
  have I : Inv h' { rd := G.rd, ob := G.ob, ow := ow } := {
    rd_ok := fun q c' hq => by
      have hqb : q ≠ b := by rintro rfl; rw [hrdb] at hq; cases hq
      rw [hne q hqb]; exact R.inv.rd_ok q c' hq
    ob_lt := fun q b' hq => by rw [hs]; exact R.inv.ob_lt q b' hq
    ob_rd := R.inv.ob_rd
    ob_inj := R.inv.ob_inj
    ow_lt := fun l b f hl => by rw [hs]; exact R.inv.ow_lt _ b f (hr l _ hl).1
    ow_rd := fun l b f hl => R.inv.ow_rd _ b f (hr l _ hl).1
    ow_ob := fun l b f o hl ho => R.inv.ow_ob _ b f o (hr l _ hl).1 ho
    ow_inj := hinj }
  have howh : ∀ l b' f, G.ow l = some (b', f) → h'[b']? = h[b']? := fun l b' f hl => hne b' (by rintro rfl; exact R.inv.ow_ob l _ f o hl hb)
  have F : Fr (fun l => ∃ j, off ≤ j ∧ j < off + n ∧ l = .cell o j) h G h' { rd := G.rd, ob := G.ob, ow := ow } := ⟨RdLe.refl _, fun _ _ h => h, fun l p hpl hl hp => by
      show ow l = some p
      cases l with
      | hand q j => cases hpl
      | cell q j =>
        rw [o4 q j (fun ⟨a, b, c⟩ => hl ⟨j, b, c, by rw [a]⟩)]; exact hp
      | _ => exact hp, fun l b' f _ _ hl => howh l b' f hl⟩
  obtain ⟨b0, c0, e0, fr0, g1, g2, g3, g4⟩ := R.obj o cs hcs
  have hbb : b0 = b := by rw [hb] at g1; cases g1; rfl
  subst hbb
  rw [hh] at g2; cases g2
  have hlen := RDs.length _ _ _ _ g4
  have hvl := RDs.length _ _ _ _ hcells
  have hNo : ((cs.drop off).take n).any isOwn = false → ∀ j, off ≤ j → j < off + n → G.ow (.cell o j) = none := by
    intro ha j h1 h2
    cases ho : G.ow (.cell o j) with
    | none => rfl
    | some p =>
      exfalso
      have := R.own _ p (fun _ _ h => by cases h) ho
      simp only [ownsAt, hcs] at this
      cases hj : cs[j]? with
      | none => rw [hj] at this; cases this
      | some d' =>
        rw [hj] at this
        rw [List.any_eq_false] at ha
        refine ha d' ?_ this
        refine List.mem_of_getElem? (i := j - off) ?_
        rw [List.getElem?_take, if_pos (by omega), List.getElem?_drop, show off + (j - off) = j by omega, hj]
  refine ⟨{ rd := G.rd, ob := G.ob, ow := ow }, ⟨I, ?_, ?_, ?_, ?_, ?_⟩, rfl, rfl, o1, fun l p hl => ⟨_, (hr l p hl).1⟩, o2⟩
  · intro t
    simp only [hn]
    cases ha : ((cs.drop off).take n).any isOwn with
    | false =>
      simp only [cond_false]
      have F0 : Fr (fun _ => False) h G h' { rd := G.rd, ob := G.ob, ow := ow } := ⟨F.rd, F.ob, fun l p hpl _ hp => F.ow l p hpl (by rintro ⟨j, h1, h2, rfl⟩; rw [hNo ha j h1 h2] at hp; cases hp) hp, fun l b' f _ _ hl => howh l b' f hl⟩
      exact RD.fr F0 _ (fun _ => rfl) _ _ (free.none _ _) (R.env t)
    | true =>
      simp only [cond_true]
      rw [look_kill]
      refine RD.fr F _ (fun _ => rfl) _ _ (free.kill ?_ ?_ ?_ _) (RD.kill _ _ _ (R.env t))
      · rintro l ⟨j, _, _, rfl⟩; simp [inObj]
      · rintro ⟨j, _, _, hj⟩; cases hj
      · rintro j ⟨q, _, _, hq⟩; cases hq
  · intro q cs' hcs'
    have hol : o < σ.S.length := by
      rcases Nat.lt_or_ge o σ.S.length with hl | hl
      · exact hl
      · rw [List.getElem?_eq_none hl] at hcs; cases hcs
    simp only [List.getElem?_set] at hcs'
    by_cases hq : o = q
    · subst hq
      rw [if_pos rfl, if_pos hol] at hcs'
      cases hcs'
      refine ⟨b0, _, e, fr, hb, hb', ?_, ?_⟩
      · intro i hi; rw [wr_size] at hi; exact g3 i hi
      · refine RDs.of_get _ _ _ _ ?_ ?_
        · rw [Array.length_toList, wr_size, setCells_length, ← hlen, Array.length_toList]
        · intro i d' hd'
          rw [Nat.zero_add]
          by_cases hin : off ≤ i ∧ i < off + n
          · have hi' : i = off + (i - off) := by omega
            rw [hi', setCells_in _ _ _ _ hoff (by omega)] at hd'
            obtain ⟨v', hv1, hv2⟩ := RDs.get _ _ _ _ _ _ hcells hd'
            refine ⟨v', ?_, ?_⟩
            · rw [Array.getElem?_toList, hi', wr_in _ _ _ _ (by rw [hvl, ← Array.length_toList, hlen]; exact hoff) (by rw [hvl]; omega)]; exact hv1
            · rw [Nat.zero_add] at hv2
              have hck : cellOk d' = true := List.all_eq_true.1 hok d' (List.mem_of_getElem? hd')
              refine RD.cellMove (G := G) (h := h) (l := .hand k (i - off)) ⟨RdLe.refl _, fun _ _ h => h⟩ hck (fun _ b f hb => ⟨?_, howh _ _ _ hb⟩) hv2
              show ow (.cell o i) = some (b, f)
              rw [o3 i hin.1 hin.2]; exact hb
          · rw [setCells_out _ _ _ _ (by omega)] at hd'
            obtain ⟨v', hv1, hv2⟩ := RDs.get _ _ _ _ _ _ g4 hd'
            refine ⟨v', ?_, ?_⟩
            · rw [Array.getElem?_toList] at *
              rw [wr_out _ _ _ _ (by rw [hvl]; omega)]; exact hv1
            · rw [Nat.zero_add] at hv2
              have hck : cellOk d' = true := List.all_eq_true.1 (R.obc o cs hcs) d' (List.mem_of_getElem? hd')
              refine RD.cellMove (G := G) (h := h) (l := .cell o i) ⟨RdLe.refl _, fun _ _ h => h⟩ hck (fun _ b f hb => ⟨?_, howh _ _ _ hb⟩) hv2
              show ow (.cell o i) = some (b, f)
              rw [o4 o i (fun ⟨_, a, b⟩ => hin ⟨a, b⟩)]; exact hb
    · rw [if_neg hq] at hcs'
      obtain ⟨b', c', e', fr', h1, h2, h3, h4⟩ := R.obj q cs' hcs'
      have hbb : b' ≠ b0 := by rintro rfl; exact hq (R.inv.ob_inj o q _ hb h1)
      refine ⟨b', c', e', fr', h1, by rw [hne b' hbb]; exact h2, h3, ?_⟩
      exact RDs.fr F _ (fun _ => rfl) _ _ _ (frees.cell 0 cs' (R.obc q cs' hcs') (by rintro i d _ _ ⟨j, _, _, hj⟩; cases hj; exact hq rfl)) h4
  · intro q cs' hcs'
    simp only [List.getElem?_set] at hcs'
    by_cases hq : o = q
    · subst hq
      rw [if_pos rfl] at hcs'
      split at hcs'
      · cases hcs'
        rw [List.all_eq_true]
        intro d' hd'
        obtain ⟨i, hi⟩ := List.mem_iff_getElem?.1 hd'
        by_cases hin : off ≤ i ∧ i < off + n
        · rw [show i = off + (i - off) by omega, setCells_in _ _ _ _ hoff (by omega)] at hi
          exact List.all_eq_true.1 hok d' (List.mem_of_getElem? hi)
        · rw [setCells_out _ _ _ _ (by omega)] at hi
          exact List.all_eq_true.1 (R.obc o cs hcs) d' (List.mem_of_getElem? hi)
      · cases hcs'
    · rw [if_neg hq] at hcs'
      exact R.obc q cs' hcs'
  · intro q hq
    simp only [List.length_set] at hq
    exact R.obn q hq
  · intro l p hhd hp
    have hp' : ow l = some p := hp
    have hol : o < σ.S.length := by
      rcases Nat.lt_or_ge o σ.S.length with hl | hl
      · exact hl
      · rw [List.getElem?_eq_none hl] at hcs; cases hcs
    cases l with
    | hand q j => exact absurd rfl (hhd q j)
    | nowhere => exact R.own _ p hhd hp'
    | reg t j =>
      have := R.own _ p hhd hp'
      rw [ownsAt_eq] at *
      simp only
      cases ((cs.drop off).take (cellsOf d).length).any isOwn with
      | false => simpa only [cond_false] using this
      | true => simp only [cond_true, look_kill, dOwns_kill]; exact this
    | cell q j =>
      unfold ownsAt
      simp only [List.getElem?_set]
      by_cases hq : o = q
      · subst hq
        rw [if_pos rfl, if_pos hol]
        simp only
        by_cases hin : off ≤ j ∧ j < off + n
        · rw [o3 j hin.1 hin.2] at hp'
          obtain ⟨d', h1, h2⟩ := dOwns_cells (H.own _ p hp')
          have hj : (setCells cs off (cellsOf d))[j]? = some d' := by
            rw [show j = off + (j - off) by omega, setCells_in _ _ _ _ hoff (by omega)]; exact h1
          rw [hj]; exact h2
        · rw [o4 o j (fun ⟨_, a, b⟩ => hin ⟨a, b⟩)] at hp'
          have := R.own _ p hhd hp'
          unfold ownsAt at this
          simp only [hcs] at this
          rw [setCells_out _ _ _ _ (by omega)]; exact this
      · rw [if_neg hq]
        rw [o4 q j (fun ⟨a, _, _⟩ => hq a.symm)] at hp'
        have := R.own _ p hhd hp'
        unfold ownsAt at this
        exact this
end
end Go.Mx
