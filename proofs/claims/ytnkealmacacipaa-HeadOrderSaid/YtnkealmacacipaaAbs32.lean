/-
  Slices of rows under construction; nil told as an empty row.
-/
import Derived.Test.YtnkealmacacipaaAbs30
import Derived.Test.YtnkealmacacipaaAbs29
namespace Go.Pa
set_option linter.unusedSectionVars false
variable [GTab]
variable {P : Program}

def BufR (s : Store) (n : Nat) (r : AV) (sz : Nat) (rs : List (List AV)) : Prop :=
  ((r = .nils ∨ r = .emp) ∧ rs = []) ∨ ∃ id, r = .mvec id 0 rs.length sz ∧ s[id]? = some (.vecR sz rs) ∧ n ≤ id

theorem append_bufR {σ s : Store} {t e : TypeId} {sz : Nat} {l l' : List (List AV)} {r y : AV} {R : AV → Store → Prop} (hs : sliceElem P t = some (e, sz)) (hb : P.bytesOf e ≠ 0)
    (hx : Ext σ s) (h : BufR s σ.length r sz l) (hc : contA s y = some (.R sz l')) (hl' : ∀ r ∈ l', r.length = sz) (hf : appFits P e (l.length + l'.length))
    (hR : ∀ r' s', Ext σ s' → BufR s' σ.length r' sz (l ++ l') → R r' s') : vcAppend P t r y s R := by
  have hlen := hx.len
  unfold vcAppend
  simp only [hs, hc]
  refine ⟨hb, ?_⟩
  rcases h with ⟨rfl | rfl, rfl⟩ | ⟨id, rfl, ho, hn⟩
  · refine ⟨rfl, hl', fun h0 => hR _ _ hx (.inl ⟨.inl rfl, by simp [h0]⟩), fun h0 => ⟨by simpa using hf, hR _ _ (hx.push _) (.inr ⟨s.length, by simp, by simp, hlen⟩)⟩⟩
  · refine ⟨rfl, hl', fun h0 => hR _ _ hx (.inl ⟨.inr rfl, by simp [h0]⟩), fun h0 => ⟨by simpa using hf, hR _ _ (hx.push _) (.inr ⟨s.length, by simp, by simp, hlen⟩)⟩⟩
  · simp only [ho]
    refine ⟨by simp, by simp, by simp, by simp, hl', fun h0 => hR _ _ hx (.inr ⟨id, by simp [h0], by simp [h0, ho], hn⟩), fun h0 => ⟨hf, hR _ _ ((hx.set hn _).push _) (.inr ⟨s.length, by simp, ?_, hlen⟩)⟩⟩
    rw [List.getElem?_append_right (by simp)]
    simp

/-- 'y' says no more than 'x'. -/
def Wk (x y : AV) : Prop := ∀ G v, Rep G x v → Rep G y v

theorem Wk.refl (x : AV) : Wk x x := fun _ _ h => h
theorem Wk.nilR (sz : Nat) : Wk .nils (.rows sz []) := fun _ _ h => rep_nil_rows sz h
theorem Wk.nilI (k : IntKind) : Wk .nils (.ints k []) := fun _ _ h => rep_nil_ints k h
theorem Wk.empI (k : IntKind) : Wk .emp (.ints k []) := fun _ _ h => rep_emp_ints k h
theorem Wk.empR (sz : Nat) : Wk .emp (.rows sz []) := fun _ v h => by cases h; exact .rows0 sz _ 0

def WkE : Env → Env → Prop
  | [], _ => True
  | (t, y) :: e', e => (∃ x, e.get t = some x ∧ Wk x y) ∧ WkE e' e

theorem WkE.get {e e' : Env} (h : WkE e' e) : ∀ t y, e'.get t = some y → ∃ x, e.get t = some x ∧ Wk x y := by
  induction e' with
  | nil => intro t y hy; simp [Env.get] at hy
  | cons p e' ih =>
    obtain ⟨u, v⟩ := p
    intro t y hy
    simp only [Env.get] at hy
    split at hy
    · rename_i hu; subst hu; cases hy; exact h.1
    · exact ih h.2 t y hy

/-- **Saying less.** -/
theorem awp_weak {N : Nat} {c : Code} {K : Exit → Env → Store → Prop} {e : Env} {s : Store} (e' : Env) (he : WkE e' e) (h : AWp P N c K e' s) : AWp P N c K e s := by
  intro G0 G a w hg hea hw
  refine h G0 G a w hg ⟨hea.1, hea.2.1, fun t y hy => ?_⟩ hw
  obtain ⟨x, hx, hxy⟩ := he.get t y hy
  obtain ⟨v, hv, hr⟩ := hea.2.2 t x hx
  exact ⟨v, hv, hxy G v hr⟩

def RwE (r y0 : AV) : Env → Env → Prop
  | [], _ => True
  | (t, y) :: e', e => (e.get t = some y ∨ (e.get t = some r ∧ y = y0)) ∧ RwE r y0 e' e

theorem RwE.get {r y0 : AV} {e e' : Env} (h : RwE r y0 e' e) : ∀ t y, e'.get t = some y → e.get t = some y ∨ (e.get t = some r ∧ y = y0) := by
  induction e' with
  | nil => intro t y hy; simp [Env.get] at hy
  | cons p e' ih =>
    obtain ⟨u, v⟩ := p
    intro t y hy
    simp only [Env.get] at hy
    split at hy
    · rename_i hu; subst hu; cases hy; exact h.1
    · exact ih h.2 t y hy

/-- A slice of rows that is ready: sealed, or nil, it is told of by its rows. -/
theorem awp_rows {N : Nat} {c : Code} {K : Exit → Env → Store → Prop} {e : Env} {s : Store} {n : Nat} {r : AV} {sz : Nat} {rs : List (List AV)} (hb : BufR s n r sz rs) (hsz : ∀ r ∈ rs, r.length = sz) (e' : Env)
    (he : RwE r (.rows sz rs) e' e) (h : ∀ s', AWp P N c K e' s') : AWp P N c K e s := by
  have he := he.get
  rcases hb with ⟨hr, rfl⟩ | ⟨id, rfl, ho, _⟩
  · intro G0 G a w hg hea hw
    refine h s G0 G a w hg ⟨hea.1, hea.2.1, fun t y hy => ?_⟩ hw
    rcases he t y hy with h1 | ⟨h1, rfl⟩
    · exact hea.2.2 t y h1
    · obtain ⟨v, hv, hrep⟩ := hea.2.2 t r h1
      refine ⟨v, hv, ?_⟩
      rcases hr with rfl | rfl
      · exact rep_nil_rows sz hrep
      · exact Wk.empR sz G v hrep
  · intro G0 G a w hg hea hw
    have hid : id < s.length := (List.getElem?_eq_some_iff.1 ho).1
    obtain ⟨G', h1, h2, h3⟩ := hw.shut ho (cs := rs.flatten) (by simp only [AObj.cells]; rw [if_pos hsz])
    refine h _ G0 G' a w (hg.trans h1) ⟨hea.1, hea.2.1.mono h1, fun t y hy => ?_⟩ (h3 _ (FzS.set hid))
    rcases he t y hy with h4 | ⟨h4, rfl⟩
    · obtain ⟨v, hv, hr⟩ := hea.2.2 t y h4
      exact ⟨v, hv, hr.mono h1⟩
    · obtain ⟨v, hv, hr⟩ := hea.2.2 t _ h4
      exact ⟨v, hv, h2 _ _ v .allR hr⟩

end Go.Pa
