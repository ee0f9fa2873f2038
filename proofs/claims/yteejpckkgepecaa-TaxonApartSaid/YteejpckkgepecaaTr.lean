/-
  Taxonomies: classes that are added at the end; plain laws.
-/
import Derived.Test.YteejpckkgepecaaTp
namespace Go.Proofs
open Go.Pa
set_option linter.unusedSimpArgs false
set_option linter.unusedVariables false
set_option maxRecDepth 20000
set_option maxHeartbeats 2000000

/-- The row of a further class. -/
def rowM (n : Nat) (k : Int) : List Int := filtI n fun c => decide ((k.tdiv (1 + 5 * c)).tmod 3 = 0)
def moreI (p : List (List Int)) (m : List Int) : Nat → List (List Int)
  | 0 => p
  | i + 1 => moreI p m i ++ [rowM (moreI p m i).length (pickI m (i : Int) 1048576)]

theorem moreI_len (p : List (List Int)) (m : List Int) : ∀ i, (moreI p m i).length = p.length + i
  | 0 => rfl
  | i + 1 => by
    have := moreI_len p m i
    simp only [moreI, List.length_append, List.length_cons, List.length_nil]
    omega

/-- Rows that name classes there are, in order. -/
def Good (p : List (List Int)) : Prop := ∀ r ∈ p, r.any (badI p.length) = false ∧ incB r = true

theorem good_iff (p : List (List Int)) : Good p ↔ p.any (badL p.length) = false := by
  rw [Bool.eq_false_iff]
  constructor
  · intro h hb
    obtain ⟨r, hr, h1⟩ := List.any_eq_true.1 hb
    obtain ⟨h2, h3⟩ := h r hr
    unfold badL at h1
    rw [h2, h3] at h1
    cases h1
  · intro h r hr
    have : ¬ badL p.length r = true := fun h1 => h (List.any_eq_true.2 ⟨r, hr, h1⟩)
    unfold badL at this
    cases h1 : r.any (badI p.length) <;> cases h2 : incB r <;> simp [h1, h2] at this ⊢

theorem any_up {n m : Nat} (h : n ≤ m) {r : List Int} (hr : r.any (badI n) = false) : r.any (badI m) = false := by
  rw [Bool.eq_false_iff]
  intro hb
  obtain ⟨x, hx, h1⟩ := List.any_eq_true.1 hb
  have h2 := good_in hr hx
  unfold badI at h1
  have h3 := of_decide_eq_true h1
  omega

theorem par_app {p : List (List Int)} {q : List Int} {c d : Nat} (hc : c < p.length) : Par (p ++ [q]) c d ↔ Par p c d := by
  unfold Par
  rw [List.getD_eq_getElem?_getD, List.getD_eq_getElem?_getD, List.getElem?_append_left hc]

theorem par_new {p : List (List Int)} {q : List Int} {d : Nat} : Par (p ++ [q]) p.length d ↔ (d : Int) ∈ q := by
  unfold Par
  rw [List.getD_eq_getElem?_getD, List.getElem?_append_right (Nat.le_refl _)]
  simp

theorem rch_app {p : List (List Int)} {q : List Int} (hI : InR p) {c d : Nat} (hc : c < p.length) : Rch (p ++ [q]) c d ↔ Rch p c d := by
  constructor
  · intro h
    induction h with
    | refl => exact .refl _
    | step h1 h2 ih =>
      have h3 := (par_app hc).1 h1
      exact .step h3 (ih (par_lt hI h3).2)
  · intro h
    induction h with
    | refl => exact .refl _
    | step h1 h2 ih => exact .step ((par_app hc).2 h1) (ih (par_lt hI h1).2)

theorem inr_app {p : List (List Int)} {q : List Int} (hI : InR p) (hq : ∀ x ∈ q, 0 ≤ x ∧ x < (p.length : Int)) : InR (p ++ [q]) := by
  intro r hr x hx
  rw [List.length_append, List.length_cons, List.length_nil]
  rcases List.mem_append.1 hr with h | h
  · have := hI r h x hx; omega
  · simp at h; subst h; have := hq x hx; omega

theorem acy_app {p : List (List Int)} {q : List Int} (hI : InR p) (hA : Acy p) (hq : ∀ x ∈ q, 0 ≤ x ∧ x < (p.length : Int)) : Acy (p ++ [q]) := by
  rintro c ⟨e, h1, h2⟩
  have hb := par_lt (inr_app hI hq) h1
  rw [List.length_append, List.length_cons, List.length_nil] at hb
  rcases Nat.lt_or_ge c p.length with hc | hc
  · have h3 := (par_app hc).1 h1
    exact hA c ⟨e, h3, (rch_app hI (par_lt hI h3).2).1 h2⟩
  · have : c = p.length := by omega
    subst this
    have h3 := hq _ (par_new.1 h1)
    have h4 := (rch_app hI (by omega)).1 h2
    have := rch_lt hI h4 (by omega)
    omega

theorem isI_app {p : List (List Int)} {q : List Int} (hI : InR p) {c d : Nat} (hc : c < p.length) (hd : d < p.length) : isI (p ++ [q]) c d = isI p c d := by
  have hl : (p ++ [q]).length = p.length + 1 := by simp
  rw [Bool.eq_iff_iff, isI_in (by omega) (by omega), isI_in hc hd]
  exact rch_app hI hc

theorem upL_app {p : List (List Int)} {q : List Int} (hI : InR p) {c : Nat} (hc : c < p.length) : upL (p ++ [q]) [(c : Int)] = upL p [(c : Int)] := by
  have hl : (p ++ [q]).length = p.length + 1 := by simp
  unfold upL
  rw [hl, filtI_succ]
  have h0 : ([(c : Int)].any fun d => isI (p ++ [q]) d (p.length : Int)) = false := by
    simp only [List.any_cons, List.any_nil, Bool.or_false]
    cases h : isI (p ++ [q]) c p.length with
    | false => rfl
    | true =>
      have h1 := (isI_in (by omega) (by omega)).1 h
      have := rch_lt hI ((rch_app hI hc).1 h1) hc
      omega
  rw [h0]
  simp only [Bool.false_eq_true, if_false, List.append_nil]
  refine filtI_congr fun d h1 h2 => ?_
  obtain ⟨D, rfl⟩ : ∃ D : Nat, d = (D : Int) := ⟨d.toNat, by omega⟩
  simp only [List.any_cons, List.any_nil, Bool.or_false]
  exact isI_app hI hc (by omega)

theorem rowM_in {n : Nat} {k : Int} : ∀ x ∈ rowM n k, 0 ≤ x ∧ x < (n : Int) := fun x hx => (filtI_mem.1 hx).1

theorem more_ok {p : List (List Int)} (m : List Int) (hI : InR p) (hA : Acy p) (hG : Good p) : ∀ i, InR (moreI p m i) ∧ Acy (moreI p m i) ∧ Good (moreI p m i) ∧
    (∀ c d : Nat, c < p.length → d < p.length → isI (moreI p m i) c d = isI p c d) ∧ (∀ c : Nat, c < p.length → upL (moreI p m i) [(c : Int)] = upL p [(c : Int)])
  | 0 => ⟨hI, hA, hG, fun _ _ _ _ => rfl, fun _ _ => rfl⟩
  | i + 1 => by
    obtain ⟨h1, h2, h3, h4, h5⟩ := more_ok m hI hA hG i
    have hl := moreI_len p m i
    have hq : ∀ x ∈ rowM (moreI p m i).length (pickI m (i : Int) 1048576), 0 ≤ x ∧ x < ((moreI p m i).length : Int) := rowM_in
    refine ⟨inr_app h1 hq, acy_app h1 h2 hq, ?_, ?_, ?_⟩
    · intro r hr
      simp only [moreI] at hr ⊢
      rw [List.length_append, List.length_cons, List.length_nil]
      rcases List.mem_append.1 hr with h | h
      · exact ⟨any_up (by omega) (h3 r h).1, (h3 r h).2⟩
      · simp at h; subst h
        exact ⟨any_up (Nat.le_succ _) (filtI_good _ _), filtI_inc _ _⟩
    · intro c d hc hd
      rw [← h4 c d hc hd]
      exact isI_app h1 (by omega) (by omega)
    · intro c hc
      rw [← h5 c hc]
      exact upL_app h1 (by omega)

theorem new_good {p : List (List Int)} (hp : p.length ≤ 64) (hA : Acy p) (hG : Good p) : newV p = .tup [taxA p, .int .i64 0] := by
  have h1 := (good_iff p).1 hG
  have h2 := (acyB_iff p).2 hA
  unfold newV
  simp [h1, h2, Nat.not_lt.2 hp]

/-- Rows that stand in slices of their own, or are values. -/
inductive RowsM (s : Store) : List (List AV) → List (List Int) → Prop
  | nil : RowsM s [] []
  | snoc {rs : List (List AV)} {ps : List (List Int)} {x : AV} {p : List Int} (h : RowsM s rs ps) (hb : x = .ints .i64 p ∨ BufI s 0 x .i64 p) : RowsM s (rs ++ [[x]]) (ps ++ [p])

theorem RowsM.len {s : Store} {rs : List (List AV)} {ps : List (List Int)} (h : RowsM s rs ps) : rs.length = ps.length := by
  induction h with
  | nil => rfl
  | snoc h hb ih => simp [ih]

theorem RowsM.keep {s s' : Store} {rs : List (List AV)} {ps : List (List Int)} (h : RowsM s rs ps) (hk : ∀ (j : Nat) k l, s[j]? = some (.vecI k l) → s'[j]? = some (.vecI k l)) : RowsM s' rs ps := by
  induction h with
  | nil => exact .nil
  | snoc h hb ih => exact .snoc ih (hb.imp id fun hb => bufI_keepV hb hk)

theorem rowsM_of (s : Store) (ps : List (List Int)) : RowsM s (ps.map rowI) ps := by
  have : ∀ n, n ≤ ps.length → RowsM s ((ps.take n).map rowI) (ps.take n) := by
    intro n
    induction n with
    | zero => intro _; exact .nil
    | succ n ih =>
      intro hn
      rw [List.take_succ_eq_append_getElem (by omega), List.map_append]
      exact .snoc (ih (by omega)) (.inl rfl)
  have h := this ps.length (Nat.le_refl _)
  rwa [List.take_length] at h

theorem RowsM.sh {s : Store} {m : Nat} (hm : s.length ≤ m) {rs : List (List AV)} {ps : List (List Int)} (h : RowsM s rs ps) : ∀ (i : Nat) x y, rs.flatten[i]? = some x → (ps.map rowI).flatten[i]? = some y → Sh s (fun i => 0 ≤ i ∧ i < m) x y := by
  have hl : ∀ {rs : List (List AV)} {ps : List (List Int)}, RowsM s rs ps → rs.flatten.length = rs.length ∧ (ps.map rowI).flatten.length = rs.length := by
    intro rs ps h
    induction h with
    | nil => exact ⟨rfl, rfl⟩
    | snoc h hb ih =>
      simp only [List.flatten_append, List.map_append, List.length_append, ih.1, ih.2]
      exact ⟨rfl, rfl⟩
  induction h with
  | nil => intro i x y hx; simp at hx
  | @snoc rs ps z p h hb ih =>
    intro i x y hx hy
    obtain ⟨l1, l2⟩ := hl h
    rw [List.flatten_append] at hx
    rw [List.map_append, List.flatten_append] at hy
    rcases Nat.lt_or_ge i rs.length with hi | hi
    · rw [List.getElem?_append_left (by omega)] at hx hy
      exact ih i x y hx hy
    · rw [List.getElem?_append_right (by omega)] at hx hy
      rw [l1] at hx; rw [l2] at hy
      generalize i - rs.length = j at hx hy
      match j with
      | 0 =>
        cases hx; cases hy
        rcases hb with rfl | hb
        · exact .same _
        · exact hb.sh hm
      | j + 1 => cases hx

theorem bufR_ne {s : Store} {n : Nat} {r : AV} {sz : Nat} {l : List (List AV)} (h : BufR s n r sz l) (hl : l ≠ []) : ∃ id, r = .mvec id 0 l.length sz ∧ s[id]? = some (.vecR sz l) ∧ n ≤ id := by
  rcases h with ⟨_, h⟩ | ⟨id, h⟩
  · exact absurd h hl
  · exact ⟨id, h⟩

end Go.Proofs
