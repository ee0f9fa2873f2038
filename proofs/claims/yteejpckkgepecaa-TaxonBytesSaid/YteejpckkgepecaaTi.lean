/-
  Taxonomies: the documented example; orders without cycles. Plain laws.
-/
import Derived.Test.YteejpckkgepecaaTh
namespace Go.Proofs
open Go.Pa
set_option linter.unusedSimpArgs false
set_option linter.unusedVariables false

theorem acy_small {p : List (List Int)} (h : ∀ c d, Par p c d → d < c) : Acy p := by
  have key : ∀ c d, Rch p c d → d ≤ c := by
    intro c d hr
    induction hr with
    | refl => exact Nat.le_refl _
    | step h1 _ ih => have := h _ _ h1; omega
  rintro c ⟨e, h1, h2⟩
  have := h _ _ h1
  have := key _ _ h2
  omega

theorem acy_big {p : List (List Int)} (h : ∀ c d, Par p c d → c < d) : Acy p := by
  have key : ∀ c d, Rch p c d → c ≤ d := by
    intro c d hr
    induction hr with
    | refl => exact Nat.le_refl _
    | step h1 _ ih => have := h _ _ h1; omega
  rintro c ⟨e, h1, h2⟩
  have := h _ _ h1
  have := key _ _ h2
  omega

/-- The example. -/
def P4 : List (List Int) := [[], [0], [0], [1, 2]]
def P2 : List (List Int) := [[1], [0]]

theorem par4 (c d : Nat) : Par P4 c d ↔ (c = 1 ∧ d = 0) ∨ (c = 2 ∧ d = 0) ∨ (c = 3 ∧ (d = 1 ∨ d = 2)) := by
  unfold Par P4
  match c with
  | 0 => simp
  | 1 => simp
  | 2 => simp
  | 3 => simp; omega
  | c + 4 => simp

theorem rch4 (c d : Nat) : Rch P4 c d ↔ c = d ∨ (c = 1 ∧ d = 0) ∨ (c = 2 ∧ d = 0) ∨ (c = 3 ∧ d < 3) := by
  constructor
  · intro h
    induction h with
    | refl => exact .inl rfl
    | step h1 _ ih =>
      have := (par4 _ _).1 h1
      omega
  · rintro (rfl | ⟨rfl, rfl⟩ | ⟨rfl, rfl⟩ | ⟨rfl, h⟩)
    · exact .refl _
    · exact .one ((par4 _ _).2 (by simp))
    · exact .one ((par4 _ _).2 (by simp))
    · have h31 : Par P4 3 1 := (par4 _ _).2 (by simp)
      have h32 : Par P4 3 2 := (par4 _ _).2 (by simp)
      have h10 : Par P4 1 0 := (par4 _ _).2 (by simp)
      match d, h with
      | 0, _ => exact .step h31 (.one h10)
      | 1, _ => exact .one h31
      | 2, _ => exact .one h32

theorem acy4 : acyB P4 = true := (acyB_iff _).2 (acy_small fun c d h => by have := (par4 c d).1 h; omega)

theorem acy2 : acyB P2 = false := by
  cases h : acyB P2 with
  | false => rfl
  | true =>
    have h01 : Par P2 0 1 := by unfold Par P2; simp
    have h10 : Par P2 1 0 := by unfold Par P2; simp
    exact absurd ⟨1, h01, .one h10⟩ ((acyB_iff _).1 h 0)

theorem inc_one (x : Int) : incB [x] = true := (incB_iff _).2 fun i hi => by simp at hi
theorem inc_nil : incB [] = true := (incB_iff _).2 fun i hi => by simp at hi
theorem inc_two {x y : Int} (h : x < y) : incB [x, y] = true := (incB_iff _).2 fun i hi => by
  have : i = 0 := by simp at hi; omega
  subst this
  simpa using h

theorem new4 : newV P4 = .tup [taxA P4, .int .i64 0] := by
  have hb : P4.any (badL P4.length) = false := by
    unfold P4 badL badI
    simp [inc_nil, inc_one, inc_two (show (1 : Int) < 2 by decide)]
  unfold newV
  rw [if_neg (by decide), hb, if_neg (by decide), if_pos acy4]

theorem new2 : newV P2 = .tup [.nilp, .int .i64 9] := by
  have hb : P2.any (badL P2.length) = false := by
    unfold P2 badL badI
    simp [inc_one]
  unfold newV
  rw [if_neg (by decide), hb, if_neg (by decide), if_neg (by rw [acy2]; decide)]

theorem is4 {c d : Nat} (hc : c < 4) (hd : d < 4) : isI P4 c d = decide (c = d ∨ (c = 1 ∧ d = 0) ∨ (c = 2 ∧ d = 0) ∨ (c = 3 ∧ d < 3)) := by
  have h := isI_in (p := P4) (c := c) (d := d) hc hd
  rw [rch4] at h
  cases h1 : isI P4 c d with
  | true => exact (decide_eq_true (h.1 h1)).symm
  | false => exact (decide_eq_false fun h2 => by rw [h.2 h2] at h1; cases h1).symm

end Go.Proofs
