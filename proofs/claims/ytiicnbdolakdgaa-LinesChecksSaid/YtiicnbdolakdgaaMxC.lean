/- The relation holds on: what a step does not touch. -/
import Derived.Test.YtiicnbdolakdgaaMxB
set_option linter.unusedSimpArgs false
set_option linter.unusedVariables false
set_option linter.constructorNameAsVariable false
set_option linter.unnecessarySimpa false
namespace Go.Mx

mutual
/-- Nothing in it hangs on a touched place. -/
def free (touch : Loc → Prop) (loc : Nat → Loc) : D → Prop
  | .own .. => ¬ touch (loc 0)
  | .al _ _ _ src => ¬ touch src
  | .ep src _ _ _ => ¬ touch src
  | .mb _ d => free touch loc d
  | .agg cs => frees touch loc 0 cs
  | .tup cs => frees touch (fun _ => Loc.nowhere) 0 cs
  | .clo _ cs => frees touch (fun _ => Loc.nowhere) 0 cs
  | _ => True
def frees (touch : Loc → Prop) (loc : Nat → Loc) : Nat → List D → Prop
  | _, [] => True
  | j, d :: ds => free touch (fun _ => loc j) d ∧ frees touch loc (j + 1) ds
end

/-- From (h, G) to (h', G'): what is known stays known but at the touched places. -/
structure Fr (touch : Loc → Prop) (h : Array Obj) (G : Gh) (h' : Array Obj) (G' : Gh) : Prop where
  rd : RdLe G.rd G'.rd
  ob : ∀ o b, G.ob o = some b → G'.ob o = some b
  ow : ∀ l p, l.place = true → ¬ touch l → G.ow l = some p → G'.ow l = some p
  owh : ∀ l b f, l.place = true → ¬ touch l → G.ow l = some (b, f) → h'[b]? = h[b]?

theorem ROwn.fr {touch : Loc → Prop} {h h' : Array Obj} {G G' : Gh} (F : Fr touch h G h' G') {l : Loc} (hp : l.place = true) (hl : ¬ touch l) {sz : Nat} {m : List (List V)} {v : Value}
    (hr : ROwn h G.rd (G.ow l) sz m v) : ROwn h' G'.rd (G'.ow l) sz m v := by
  rcases hr with hr | ⟨b, off, cap, c, e, fr, h1, h2, h3, h4, h5, h6, h7⟩
  · exact .inl hr
  · exact .inr ⟨b, off, cap, c, e, fr, h1, F.ow l _ hp hl h2, by rw [F.owh l b off hp hl h2]; exact h3, h4, h5, h6, RVr.mono F.rd _ _ _ _ h7⟩
theorem RPart.fr {touch : Loc → Prop} {h h' : Array Obj} {G G' : Gh} (F : Fr touch h G h' G') {l : Loc} (hp : l.place = true) (hl : ¬ touch l) {sz : Nat} {m : List (List V)} {v : Value}
    (hr : RPart h G.rd (G.ow l) sz m v) : RPart h' G'.rd (G'.ow l) sz m v := by
  obtain ⟨base, cap, h1, h2, h3⟩ := hr
  refine ⟨base, cap, h1, h2, h3.imp id ?_⟩
  rintro ⟨b, off, o, c, e, fr, k1, k2, k3, k4⟩
  exact ⟨b, off, o, c, e, fr, k1, F.ow l _ hp hl k2, by rw [F.owh l b o hp hl k2]; exact k3, RVr.mono F.rd _ _ _ _ k4⟩

mutual
theorem RD.fr {touch : Loc → Prop} {h h' : Array Obj} {G G' : Gh} (F : Fr touch h G h' G') (loc : Nat → Loc) (hpl : ∀ j, (loc j).place = true) : ∀ (d : D) (v : Value), free touch loc d → RD h G loc d v → RD h' G' loc d v
  | .v x, v, _, hr => by simp only [RD] at *; exact RV.mono F.rd x v hr
  | .undef, v, _, hr => by simp only [RD] at *; exact hr
  | .bad, _, _, _ => by simp only [RD]
  | .mb g d, v, hf, hr => by
    simp only [RD, free] at *
    exact ⟨fun hg => RD.fr F loc hpl d v hf (hr.1 hg), hr.2⟩
  | .own sz l, v, hf, hr => by simp only [RD, free] at *; exact ROwn.fr F (hpl 0) hf hr
  | .al full sz l src, v, hf, hr => by
    simp only [RD, free] at *
    exact ⟨fun he => ROwn.fr F hr.2.2 hf (hr.1 he), RPart.fr F hr.2.2 hf hr.2.1, hr.2.2⟩
  | .cut sz l, v, _, hr => by
    simp only [RD] at *
    obtain ⟨base, h1, h2⟩ := hr
    refine ⟨base, h1, h2.imp id ?_⟩
    rintro ⟨b, off, c, k1, k2, k3⟩
    exact ⟨b, off, c, k1, F.rd _ _ k2, RVr.mono F.rd _ _ _ _ k3⟩
  | .rp cells, v, _, hr => by
    simp only [RD] at *
    obtain ⟨b, off, c, k1, k2, k3⟩ := hr
    exact ⟨b, off, c, k1, F.rd _ _ k2, RVc.mono F.rd _ _ _ k3⟩
  | .ptr o off, v, _, hr => by
    simp only [RD] at *
    obtain ⟨b, k1, k2⟩ := hr
    exact ⟨b, F.ob _ _ k1, k2⟩
  | .ep src sz i off, v, hf, hr => by
    simp only [RD, free] at *
    obtain ⟨b, base, k1, k2, k3⟩ := hr
    exact ⟨b, base, F.ow _ _ k3 hf k1, k2, k3⟩
  | .agg cs, v, hf, hr => by
    simp only [RD, free] at *
    obtain ⟨vs, k1, k2⟩ := hr
    exact ⟨vs, k1, RDs.fr F loc hpl 0 cs vs.toList hf k2⟩
  | .tup cs, v, hf, hr => by
    simp only [RD, free] at *
    obtain ⟨vs, k1, k2⟩ := hr
    exact ⟨vs, k1, RDs.fr F (fun _ => Loc.nowhere) (fun _ => rfl) 0 cs vs.toList hf k2⟩
  | .clo f cs, v, hf, hr => by
    simp only [RD, free] at *
    obtain ⟨vs, k1, k2⟩ := hr
    exact ⟨vs, k1, RDs.fr F (fun _ => Loc.nowhere) (fun _ => rfl) 0 cs vs.toList hf k2⟩
  | .nilp, v, _, hr => by simp only [RD] at *; exact hr
theorem RDs.fr {touch : Loc → Prop} {h h' : Array Obj} {G G' : Gh} (F : Fr touch h G h' G') (loc : Nat → Loc) (hpl : ∀ j, (loc j).place = true) : ∀ (j : Nat) (ds : List D) (vs : List Value), frees touch loc j ds → RDs h G loc j ds vs → RDs h' G' loc j ds vs
  | _, [], [], _, _ => by simp only [RDs]
  | j, d :: ds, v :: vs, hf, hr => by
    simp only [RDs, frees] at *
    exact ⟨RD.fr F (fun _ => loc j) (fun _ => hpl j) d v hf.1 hr.1, RDs.fr F loc hpl (j + 1) ds vs hf.2 hr.2⟩
  | _, [], _ :: _, _, hr => by simp only [RDs] at hr
  | _, _ :: _, [], _, hr => by simp only [RDs] at hr
end

mutual
theorem free.none (loc : Nat → Loc) : ∀ (d : D), free (fun _ => False) loc d
  | .v _ => by simp only [free]
  | .undef => by simp only [free]
  | .bad => by simp only [free]
  | .mb _ d => by simp only [free]; exact free.none loc d
  | .own _ _ => by simp [free]
  | .al .. => by simp [free]
  | .cut .. => by simp only [free]
  | .rp .. => by simp only [free]
  | .ptr .. => by simp only [free]
  | .ep .. => by simp [free]
  | .agg cs => by simp only [free]; exact frees.none loc 0 cs
  | .tup cs => by simp only [free]; exact frees.none _ 0 cs
  | .clo _ cs => by simp only [free]; exact frees.none _ 0 cs
  | .nilp => by simp only [free]
theorem frees.none (loc : Nat → Loc) : ∀ (j : Nat) (ds : List D), frees (fun _ => False) loc j ds
  | _, [] => by simp only [frees]
  | j, d :: ds => by simp only [frees]; exact ⟨free.none _ d, frees.none loc (j + 1) ds⟩
end

mutual
theorem free.kill {touch : Loc → Prop} {p : Loc → Bool} (hp : ∀ l, touch l → p l = true) (hn : ¬ touch .nowhere) {loc : Nat → Loc} (hl : ∀ j, ¬ touch (loc j)) : ∀ (d : D), free touch loc (killB p d)
  | .v _ => by simp only [killB, free]
  | .undef => by simp only [killB, free]
  | .bad => by simp only [killB, free]
  | .mb _ d => by simp only [killB, free]; exact free.kill hp hn hl d
  | .own _ _ => by simp only [killB, free]; exact hl 0
  | .al full sz l src => by
    simp only [killB]
    cases h : p src with
    | true => simp only [cond_true, free]
    | false => simp only [cond_false, free]; exact fun ht => by rw [hp _ ht] at h; cases h
  | .cut .. => by simp only [killB, free]
  | .rp .. => by simp only [killB, free]
  | .ptr .. => by simp only [killB, free]
  | .ep src sz i off => by
    simp only [killB]
    cases h : p src with
    | true => simp only [cond_true, free]
    | false => simp only [cond_false, free]; exact fun ht => by rw [hp _ ht] at h; cases h
  | .agg cs => by simp only [killB, free]; exact frees.kill hp hn hl 0 cs
  | .tup cs => by simp only [killB, free]; exact frees.kill hp hn (fun _ => hn) 0 cs
  | .clo _ cs => by simp only [killB, free]; exact frees.kill hp hn (fun _ => hn) 0 cs
  | .nilp => by simp only [killB, free]
theorem frees.kill {touch : Loc → Prop} {p : Loc → Bool} (hp : ∀ l, touch l → p l = true) (hn : ¬ touch .nowhere) {loc : Nat → Loc} (hl : ∀ j, ¬ touch (loc j)) : ∀ (j : Nat) (ds : List D), frees touch loc j (killBs p ds)
  | _, [] => by simp only [killBs, frees]
  | j, d :: ds => by simp only [killBs, frees]; exact ⟨free.kill hp hn (fun _ => hl j) d, frees.kill hp hn hl (j + 1) ds⟩
end

mutual
/-- Less is known: it holds still. -/
theorem RD.kill {h : Array Obj} {G : Gh} {p : Loc → Bool} (loc : Nat → Loc) : ∀ (d : D) (v : Value), RD h G loc d v → RD h G loc (killB p d) v
  | .v _, _, hr => by simpa only [killB] using hr
  | .undef, _, hr => by simpa only [killB] using hr
  | .bad, _, hr => by simpa only [killB] using hr
  | .mb _ d, v, hr => by
    simp only [killB, RD] at *
    exact ⟨fun hg => RD.kill loc d v (hr.1 hg), hr.2⟩
  | .own _ _, _, hr => by simpa only [killB] using hr
  | .al full sz l src, v, hr => by
    simp only [killB]
    cases h : p src with
    | true => simp only [cond_true, RD]
    | false => simpa only [cond_false] using hr
  | .cut .., _, hr => by simpa only [killB] using hr
  | .rp .., _, hr => by simpa only [killB] using hr
  | .ptr .., _, hr => by simpa only [killB] using hr
  | .ep src sz i off, v, hr => by
    simp only [killB]
    cases h : p src with
    | true => simp only [cond_true, RD]
    | false => simpa only [cond_false] using hr
  | .agg cs, v, hr => by
    simp only [killB, RD] at *
    obtain ⟨vs, h1, h2⟩ := hr
    exact ⟨vs, h1, RDs.kill loc 0 cs _ h2⟩
  | .tup cs, v, hr => by
    simp only [killB, RD] at *
    obtain ⟨vs, h1, h2⟩ := hr
    exact ⟨vs, h1, RDs.kill _ 0 cs _ h2⟩
  | .clo _ cs, v, hr => by
    simp only [killB, RD] at *
    obtain ⟨vs, h1, h2⟩ := hr
    exact ⟨vs, h1, RDs.kill _ 0 cs _ h2⟩
  | .nilp, _, hr => by simpa only [killB] using hr
theorem RDs.kill {h : Array Obj} {G : Gh} {p : Loc → Bool} (loc : Nat → Loc) : ∀ (j : Nat) (ds : List D) (vs : List Value), RDs h G loc j ds vs → RDs h G loc j (killBs p ds) vs
  | _, [], [], _ => by simp only [killBs, RDs]
  | j, d :: ds, v :: vs, hr => by
    simp only [killBs, RDs] at *
    exact ⟨RD.kill _ d v hr.1, RDs.kill loc (j + 1) ds vs hr.2⟩
  | _, [], _ :: _, hr => by simp only [RDs] at hr
  | _, _ :: _, [], hr => by simp only [RDs] at hr
end

theorem killB_isOwn {p : Loc → Bool} (d : D) : isOwn (killB p d) = isOwn d := by
  cases d with
  | al full sz l src => simp only [killB]; cases p src <;> rfl
  | ep src sz i off => simp only [killB]; cases p src <;> rfl
  | _ => simp only [killB, isOwn]
theorem killBs_get {p : Loc → Bool} : ∀ (cs : List D) (j : Nat), (killBs p cs)[j]? = (cs[j]?).map (killB p)
  | [], _ => by simp [killBs]
  | d :: cs, 0 => by simp [killBs]
  | d :: cs, j + 1 => by simp [killBs, killBs_get cs j]

theorem free.stay {touch : Loc → Prop} {loc : Nat → Loc} {d : D} (h : stayC d = true) : free touch loc d := by
  cases d <;> simp_all [stayC, free]
theorem frees.stay {touch : Loc → Prop} {loc : Nat → Loc} : ∀ (j : Nat) (ds : List D), ds.all stayC = true → frees touch loc j ds
  | _, [], _ => by simp only [frees]
  | j, d :: ds, h => by
    simp only [List.all_cons, Bool.and_eq_true] at h
    simp only [frees]
    exact ⟨free.stay h.1, frees.stay (j + 1) ds h.2⟩
theorem free.cell {touch : Loc → Prop} {loc : Nat → Loc} {d : D} (h : cellOk d = true) (hl : isOwn d = true → ¬ touch (loc 0)) : free touch loc d := by
  cases d with
  | own sz l => simp only [free]; exact hl rfl
  | clo f cs => simp only [free]; exact frees.stay 0 cs h
  | _ => exact free.stay h
theorem frees.cell {touch : Loc → Prop} {loc : Nat → Loc} : ∀ (j : Nat) (ds : List D), ds.all cellOk = true → (∀ i d, ds[i]? = some d → isOwn d = true → ¬ touch (loc (j + i))) → frees touch loc j ds
  | _, [], _, _ => by simp only [frees]
  | j, d :: ds, h, hl => by
    simp only [List.all_cons, Bool.and_eq_true] at h
    simp only [frees]
    refine ⟨free.cell h.1 (fun ho => by simpa using hl 0 d rfl ho), frees.cell (j + 1) ds h.2 (fun i d' hd ho => ?_)⟩
    have := hl (i + 1) d' (by simpa using hd) ho
    rw [Nat.add_assoc, Nat.add_comm 1 i]
    exact this

theorem RDs.length {h : Array Obj} {G : Gh} (loc : Nat → Loc) : ∀ (j : Nat) (ds : List D) (vs : List Value), RDs h G loc j ds vs → vs.length = ds.length
  | _, [], [], _ => rfl
  | j, d :: ds, v :: vs, hr => by simp only [RDs] at hr; simp [RDs.length loc (j + 1) ds vs hr.2]
  | _, [], _ :: _, hr => by simp only [RDs] at hr
  | _, _ :: _, [], hr => by simp only [RDs] at hr
theorem RDs.get {h : Array Obj} {G : Gh} (loc : Nat → Loc) : ∀ (j : Nat) (ds : List D) (vs : List Value) (i : Nat) (d : D), RDs h G loc j ds vs → ds[i]? = some d → ∃ v, vs[i]? = some v ∧ RD h G (fun _ => loc (j + i)) d v
  | _, [], [], _, _, _, hd => by simp at hd
  | j, d :: ds, v :: vs, 0, x, hr, hd => by
    simp only [RDs] at hr
    simp at hd; subst hd
    exact ⟨v, rfl, hr.1⟩
  | j, d :: ds, v :: vs, i + 1, x, hr, hd => by
    simp only [RDs] at hr
    simp at hd
    obtain ⟨w, h1, h2⟩ := RDs.get loc (j + 1) ds vs i x hr.2 hd
    refine ⟨w, by simpa using h1, ?_⟩
    rw [Nat.add_assoc, Nat.add_comm 1 i] at h2
    exact h2
  | _, [], _ :: _, _, _, hr, _ => by simp only [RDs] at hr
  | _, _ :: _, [], _, _, hr, _ => by simp only [RDs] at hr

/-- What owns nothing: whatever place it is said to lie at. -/
theorem RD.relocC {h : Array Obj} {G : Gh} {loc loc' : Nat → Loc} {d : D} {v : Value} (hp : ownFreeC d = true) (hr : RD h G loc d v) : RD h G loc' d v := by
  cases d <;> simp_all [ownFreeC, RD]
theorem RDs.reloc {h : Array Obj} {G : Gh} {loc loc' : Nat → Loc} : ∀ (j j' : Nat) (ds : List D) (vs : List Value), ds.all ownFreeC = true → RDs h G loc j ds vs → RDs h G loc' j' ds vs
  | _, _, [], [], _, _ => by simp only [RDs]
  | j, j', d :: ds, v :: vs, ho, hr => by
    simp only [RDs, List.all_cons, Bool.and_eq_true] at *
    exact ⟨RD.relocC ho.1 hr.1, RDs.reloc (j + 1) (j' + 1) ds vs ho.2 hr.2⟩
  | _, _, [], _ :: _, _, hr => by simp only [RDs] at hr
  | _, _, _ :: _, [], _, hr => by simp only [RDs] at hr
theorem RD.reloc {h : Array Obj} {G : Gh} {loc loc' : Nat → Loc} {d : D} {v : Value} (hp : ownFree d = true) (hr : RD h G loc d v) : RD h G loc' d v := by
  cases d <;> simp_all [ownFree, RD]
  obtain ⟨vs, h1, h2⟩ := hr
  exact ⟨vs, h1, RDs.reloc 0 0 _ _ (by simpa using hp) h2⟩

theorem look_put (env : Env) (t u : Nat) (d : D) : look (put env t d) u = if t = u then d else look env u := by
  simp only [put, look]
  by_cases h : t = u
  · simp [h]
  · have : (t == u) = false := by simp [h]
    simp [h, this]

theorem look_map (f : D → D) (hf : f .bad = .bad) : ∀ (env : Env) (t : Nat), look (env.map fun e => (e.1, f e.2)) t = f (look env t)
  | [], _ => by simp [look, hf]
  | (u, d) :: r, t => by
    simp only [List.map_cons, look]
    cases h : u == t
    · simpa using look_map f hf r t
    · simp
theorem look_kill (p : Loc → Bool) (env : Env) (t : Nat) : look (kill p env) t = killB p (look env t) := look_map _ rfl env t

end Go.Mx
