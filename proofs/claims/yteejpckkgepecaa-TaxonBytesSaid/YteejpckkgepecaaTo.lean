/-
  Taxonomies: what is above lists of classes; plain laws.
-/
import Derived.Test.YteejpckkgepecaaTn
namespace Go.Proofs
open Go.Pa
set_option linter.unusedSimpArgs false
set_option linter.unusedVariables false
set_option maxRecDepth 20000
set_option maxHeartbeats 2000000
open scoped Classical in
theorem isI_def (p : List (List Int)) (c d : Int) : isI p c d = true ↔ 0 ≤ c ∧ c < p.length ∧ 0 ≤ d ∧ d < p.length ∧ Rch p c.toNat d.toNat := by
  unfold isI; exact decide_eq_true_iff

theorem isI_iff {p : List (List Int)} {c d : Int} : isI p c d = true ↔ ∃ C D : Nat, c = C ∧ d = D ∧ C < p.length ∧ D < p.length ∧ Rch p C D := by
  rw [isI_def]
  constructor
  · rintro ⟨h1, h2, h3, h4, h5⟩
    exact ⟨c.toNat, d.toNat, by omega, by omega, by omega, by omega, h5⟩
  · rintro ⟨C, D, rfl, rfl, h1, h2, h3⟩
    exact ⟨by omega, by omega, by omega, by omega, by simpa using h3⟩

theorem isI_rfl {p : List (List Int)} {c : Int} (h : 0 ≤ c ∧ c < p.length) : isI p c c = true := isI_iff.2 ⟨c.toNat, c.toNat, by omega, by omega, by omega, by omega, .refl _⟩
theorem isI_tr {p : List (List Int)} {c d e : Int} (h : isI p c d = true) (k : isI p d e = true) : isI p c e = true := by
  obtain ⟨C, D, rfl, rfl, h1, h2, h3⟩ := isI_iff.1 h
  obtain ⟨D', E, h4, rfl, h5, h6, h7⟩ := isI_iff.1 k
  have : D = D' := by omega
  subst this
  exact isI_iff.2 ⟨C, E, rfl, rfl, h1, h6, h3.trans h7⟩
theorem isI_as {p : List (List Int)} (ha : Acy p) {c d : Int} (h : isI p c d = true) (k : isI p d c = true) : c = d := by
  obtain ⟨C, D, rfl, rfl, h1, h2, h3⟩ := isI_iff.1 h
  by_cases hne : (C : Int) = D
  · exact hne
  · rw [isI_anti ha h1 h2 hne h] at k; cases k
theorem isI_b {p : List (List Int)} {c d : Int} (h : isI p c d = true) : (0 ≤ c ∧ c < p.length) ∧ 0 ≤ d ∧ d < p.length := by
  obtain ⟨C, D, rfl, rfl, h1, h2, h3⟩ := isI_iff.1 h
  omega

theorem filtI_congr {n : Nat} {f g : Int → Bool} (h : ∀ c : Int, 0 ≤ c → c < n → f c = g c) : filtI n f = filtI n g := by
  unfold filtI
  refine List.filter_congr fun x hx => ?_
  obtain ⟨c, hc, rfl⟩ := List.mem_map.1 hx
  have := List.mem_range.1 hc
  exact h _ (by omega) (by omega)

theorem filtI_good (n : Nat) (h : Int → Bool) : (filtI n h).any (badI n) = false := by
  rw [Bool.eq_false_iff]
  intro hb
  obtain ⟨x, hx, h1⟩ := List.any_eq_true.1 hb
  have h2 := (filtI_mem.1 hx).1
  unfold badI at h1
  have h3 := of_decide_eq_true h1
  omega

theorem good_in {n : Nat} {l : List Int} (h : l.any (badI n) = false) {x : Int} (hx : x ∈ l) : 0 ≤ x ∧ x < n := by
  by_cases hb : x < 0 ∨ (n : Int) ≤ x
  · exact absurd (List.any_eq_true.2 ⟨x, hx, show badI n x = true by unfold badI; exact decide_eq_true hb⟩) (by rw [h]; decide)
  · omega

/-- What is above a list of classes. -/
noncomputable def upL (p : List (List Int)) (l : List Int) : List Int := filtI p.length fun c => l.any fun d => isI p d c
/-- What inherits from a class. -/
noncomputable def downL (p : List (List Int)) (c : Int) : List Int := filtI p.length fun d => isI p d c
/-- The lowest of a list. -/
noncomputable def lstL (p : List (List Int)) (l : List Int) : List Int := filtI p.length fun c => decide (c ∈ l) && !l.any (lowI p c)

theorem upL_mem {p : List (List Int)} {l : List Int} {c : Int} : c ∈ upL p l ↔ ∃ d ∈ l, isI p d c = true := by
  unfold upL
  rw [filtI_mem, List.any_eq_true]
  constructor
  · rintro ⟨-, h⟩; exact h
  · rintro ⟨d, h1, h2⟩; exact ⟨(isI_b h2).2, d, h1, h2⟩

theorem upL_len (p : List (List Int)) (l : List Int) : (upL p l).length ≤ p.length := filtI_len _ _
theorem lstL_len (p : List (List Int)) (l : List Int) : (lstL p l).length ≤ p.length := filtI_len _ _
theorem downL_len (p : List (List Int)) (c : Int) : (downL p c).length ≤ p.length := filtI_len _ _

theorem upL_ext {p : List (List Int)} {l m : List Int} (h : ∀ c, (∃ d ∈ l, isI p d c = true) ↔ ∃ d ∈ m, isI p d c = true) : upL p l = upL p m := by
  unfold upL
  refine filtI_congr fun c _ _ => ?_
  rw [Bool.eq_iff_iff, List.any_eq_true, List.any_eq_true]
  exact h c

theorem up_up (p : List (List Int)) (l : List Int) : upL p (upL p l) = upL p l := by
  refine upL_ext fun c => ⟨?_, ?_⟩
  · rintro ⟨d, hd, h⟩
    obtain ⟨e, he, h2⟩ := upL_mem.1 hd
    exact ⟨e, he, isI_tr h2 h⟩
  · rintro ⟨d, hd, h⟩
    exact ⟨c, upL_mem.2 ⟨d, hd, h⟩, isI_rfl (isI_b h).2⟩

theorem up_both (p : List (List Int)) (l m : List Int) (c : Int) : decide (c ∈ upL p (l ++ m)) = (decide (c ∈ upL p l) || decide (c ∈ upL p m)) := by
  rw [Bool.eq_iff_iff, Bool.or_eq_true, decide_eq_true_iff, decide_eq_true_iff, decide_eq_true_iff, upL_mem, upL_mem, upL_mem]
  constructor
  · rintro ⟨d, h, h2⟩
    rcases List.mem_append.1 h with h | h
    · exact .inl ⟨d, h, h2⟩
    · exact .inr ⟨d, h, h2⟩
  · rintro (⟨d, h, h2⟩ | ⟨d, h, h2⟩)
    · exact ⟨d, List.mem_append_left _ h, h2⟩
    · exact ⟨d, List.mem_append_right _ h, h2⟩

theorem down_up (p : List (List Int)) (c d : Int) : decide (d ∈ downL p c) = decide (c ∈ upL p [d]) := by
  rw [Bool.eq_iff_iff, decide_eq_true_iff, decide_eq_true_iff, upL_mem]
  unfold downL
  rw [filtI_mem]
  constructor
  · rintro ⟨-, h⟩; exact ⟨d, by simp, h⟩
  · rintro ⟨e, he, h⟩
    cases List.mem_singleton.1 he
    exact ⟨(isI_b h).1, h⟩

theorem filter_less {α : Type} {f g : α → Bool} : ∀ {L : List α}, (∀ a ∈ L, f a = true → g a = true) → (∃ a ∈ L, g a = true ∧ f a = false) → (L.filter f).length < (L.filter g).length
  | [], _, ⟨_, h, _⟩ => by cases h
  | b :: L, h1, ⟨a, ha, h2, h3⟩ => by
    have hle : (L.filter f).length ≤ (L.filter g).length := by
      clear h2 h3 ha
      have h1' : ∀ a ∈ L, f a = true → g a = true := fun a ha => h1 a (List.mem_cons_of_mem _ ha)
      clear h1
      induction L with
      | nil => simp
      | cons c L ih =>
        have ih := ih fun a ha => h1' a (List.mem_cons_of_mem _ ha)
        have h := h1' c (by simp)
        rw [List.filter_cons, List.filter_cons]
        cases hf : f c with
        | true => rw [h hf]; simpa using ih
        | false => cases g c <;> simp <;> omega
    rw [List.filter_cons, List.filter_cons]
    rcases List.mem_cons.1 ha with rfl | ha
    · rw [h2, h3]; simp; omega
    · have ih := filter_less (f := f) (g := g) (L := L) (fun a ha => h1 a (List.mem_cons_of_mem _ ha)) ⟨a, ha, h2, h3⟩
      have h := h1 b (by simp)
      cases hf : f b with
      | true => rw [h hf]; simpa using ih
      | false => cases g b <;> simp <;> omega

theorem low_iff {p : List (List Int)} {c d : Int} : lowI p c d = true ↔ d ≠ c ∧ isI p d c = true := by
  unfold lowI
  rw [Bool.and_eq_true, Bool.not_eq_true', decide_eq_false_iff_not]

theorem least_below {p : List (List Int)} (hA : Acy p) (l : List Int) (hl : l.any (badI p.length) = false) : ∀ (k : Nat) (d : Int), d ∈ l → (downL p d).length ≤ k → ∃ e ∈ l, isI p e d = true ∧ l.any (lowI p e) = false := by
  intro k
  induction k with
  | zero =>
    intro d hd hk
    have : d ∈ downL p d := filtI_mem.2 ⟨good_in hl hd, isI_rfl (good_in hl hd)⟩
    have := List.length_pos_of_mem this
    omega
  | succ k ih =>
    intro d hd hk
    cases hb : l.any (lowI p d) with
    | false => exact ⟨d, hd, isI_rfl (good_in hl hd), hb⟩
    | true =>
      obtain ⟨x, hx, h⟩ := List.any_eq_true.1 hb
      obtain ⟨hne, hxd⟩ := low_iff.1 h
      have hlt : (downL p x).length < (downL p d).length := by
        unfold downL filtI
        refine filter_less (fun a _ h => isI_tr h hxd) ⟨d, List.mem_map.2 ⟨d.toNat, List.mem_range.2 ?_, ?_⟩, isI_rfl (good_in hl hd), ?_⟩
        · have := good_in hl hd; omega
        · have := good_in hl hd; omega
        · cases hk : isI p d x with
          | false => rfl
          | true => exact absurd (isI_as hA hxd hk) hne
      obtain ⟨e, he, h1, h2⟩ := ih x hx (by omega)
      exact ⟨e, he, isI_tr h1 hxd, h2⟩

theorem lstL_mem {p : List (List Int)} {l : List Int} (hl : l.any (badI p.length) = false) {c : Int} : c ∈ lstL p l ↔ c ∈ l ∧ l.any (lowI p c) = false := by
  unfold lstL
  rw [filtI_mem, Bool.and_eq_true, decide_eq_true_iff, Bool.not_eq_true']
  constructor
  · rintro ⟨-, h⟩; exact h
  · rintro h; exact ⟨good_in hl h.1, h⟩

theorem up_lst {p : List (List Int)} (hA : Acy p) {l : List Int} (hl : l.any (badI p.length) = false) : upL p (lstL p l) = upL p l := by
  refine upL_ext fun c => ⟨?_, ?_⟩
  · rintro ⟨d, hd, h⟩
    exact ⟨d, ((lstL_mem hl).1 hd).1, h⟩
  · rintro ⟨d, hd, h⟩
    obtain ⟨e, he, h1, h2⟩ := least_below hA l hl _ d hd (Nat.le_refl _)
    exact ⟨e, (lstL_mem hl).2 ⟨he, h2⟩, isI_tr h1 h⟩

theorem inc_ne {l : List Int} (h : incB l = true) {i j : Nat} (hi : i < l.length) (hj : j < l.length) (hne : i ≠ j) : l[i] ≠ l[j] := by
  have step := (incB_iff l).1 h
  have key : ∀ d i : Nat, i + d + 1 < l.length → l.getD i 0 < l.getD (i + d + 1) 0 := by
    intro d
    induction d with
    | zero => intro i hi; exact step i hi
    | succ d ih => intro i hi; have h1 := ih i (by omega); have h2 := step (i + d + 1) (by omega); have h3 : i + (d + 1) + 1 = i + d + 1 + 1 := by omega
                   rw [h3]; omega
  rw [← getD_get (d := 0) hi, ← getD_get (d := 0) hj]
  rcases Nat.lt_or_gt_of_ne hne with h | h
  · have := key (j - i - 1) i (by omega)
    rw [show i + (j - i - 1) + 1 = j by omega] at this
    omega
  · have := key (i - j - 1) j (by omega)
    rw [show j + (i - j - 1) + 1 = i by omega] at this
    omega

theorem lst_apart {p : List (List Int)} {l : List Int} (hl : l.any (badI p.length) = false) {i k : Nat} (hi : i < (lstL p l).length) (hk : k < (lstL p l).length) (hne : ¬ (i : Int) = k) : isI p (lstL p l)[i] (lstL p l)[k] = false := by
  have hd := inc_ne (l := lstL p l) (filtI_inc _ _) hi hk (by omega)
  have h1 := (lstL_mem hl).1 (List.getElem_mem hi)
  have h2 := (lstL_mem hl).1 (List.getElem_mem hk)
  generalize (lstL p l)[i] = a at hd h1 ⊢
  generalize (lstL p l)[k] = b at hd h2 ⊢
  cases h : isI p a b with
  | false => rfl
  | true =>
    exact absurd (List.any_eq_true.2 ⟨a, h1.1, low_iff.2 ⟨hd, h⟩⟩) (by rw [h2.2]; decide)

theorem up_rest {p : List (List Int)} (hA : Acy p) {l : List Int} (hl : l.any (badI p.length) = false) {x : Int} (hx : x ∈ lstL p l) : upL p ((upL p l).filter fun c => decide (c ≠ x)) ≠ upL p l := by
  intro he
  have h1 := (lstL_mem hl).1 hx
  have hin : x ∈ upL p l := upL_mem.2 ⟨x, h1.1, isI_rfl (good_in hl h1.1)⟩
  rw [← he] at hin
  obtain ⟨d, hd, h2⟩ := upL_mem.1 hin
  rw [List.mem_filter] at hd
  have hne := of_decide_eq_true hd.2
  obtain ⟨e, h3, h4⟩ := upL_mem.1 hd.1
  have h5 : isI p e x = true := isI_tr h4 h2
  by_cases hex : e = x
  · subst hex
    exact hne (isI_as hA h2 h4)
  · exact absurd (List.any_eq_true.2 ⟨e, h3, low_iff.2 ⟨hex, h5⟩⟩) (by rw [h1.2]; decide)

theorem rest_good {p : List (List Int)} {l : List Int} (x : Int) (hl : l.any (badI p.length) = false) : (l.filter fun c => decide (c ≠ x)).any (badI p.length) = false := by
  rw [Bool.eq_false_iff]
  intro h
  obtain ⟨y, hy, h1⟩ := List.any_eq_true.1 h
  exact absurd (List.any_eq_true.2 ⟨y, (List.mem_filter.1 hy).1, h1⟩) (by rw [hl]; decide)

theorem colV_ok {n : Nat} {g : List Int} {h : Int → Bool} (hg : g.any (badI n) = false) : colV n g h = .tup [.ints .i64 (filtI n h), .int .i64 0] := by
  unfold colV; rw [if_neg (by rw [hg]; decide)]
theorem colV_bad {n : Nat} {g : List Int} {h : Int → Bool} (hg : g.any (badI n) = true) : colV n g h = .tup [.nils, .int .i64 7] := by
  unfold colV; rw [if_pos hg]

end Go.Proofs
