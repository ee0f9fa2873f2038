/-
  First open days, counts of open days: plain laws.
-/
import Derived.Test.YtaebmaibhnhibaaDoorKg
namespace Go.Proofs
open Go.Pa
set_option linter.unusedSimpArgs false
set_option maxRecDepth 20000
set_option maxHeartbeats 2000000

theorem countF_add (ws : List Int) (hs : List Dt) (o : Int) (acts : List Ac) (d : Int) (a : Nat) : ∀ b : Nat, countF ws hs o acts d (a + b) = countF ws hs o acts d a + countF ws hs o acts (d + a) b
  | 0 => by simp [countF]
  | b + 1 => by
    have ih := countF_add ws hs o acts d a b
    have e : countF ws hs o acts d (a + (b + 1)) = countF ws hs o acts d (a + b) + (if openI ws hs o acts (d + ((a + b : Nat) : Int)) = true then 1 else 0) := rfl
    have e2 : countF ws hs o acts (d + a) (b + 1) = countF ws hs o acts (d + a) b + (if openI ws hs o acts (d + a + b) = true then 1 else 0) := rfl
    rw [e, e2, ih, show d + ((a + b : Nat) : Int) = d + a + b by omega]
    omega

theorem nextF_spec (ws : List Int) (hs : List Dt) (o : Int) (acts : List Ac) : ∀ (k : Nat) (d : Int),
    ((nextF ws hs o acts k d).2 = 0 ∧ d ≤ (nextF ws hs o acts k d).1 ∧ (nextF ws hs o acts k d).1 ≤ 131072 ∧ (nextF ws hs o acts k d).1 < d + k ∧ openI ws hs o acts (nextF ws hs o acts k d).1 = true ∧ ∀ x, d ≤ x → x < (nextF ws hs o acts k d).1 → openI ws hs o acts x = false) ∨
    ((nextF ws hs o acts k d).2 = 4 ∧ (nextF ws hs o acts k d).1 = 0 ∧ ∀ x, d ≤ x → x < d + k → openI ws hs o acts x = false) ∨
    ((nextF ws hs o acts k d).2 = 5 ∧ (nextF ws hs o acts k d).1 = 0 ∧ ∀ x, d ≤ x → x ≤ 131072 → openI ws hs o acts x = false)
  | 0, d => .inr (.inl ⟨rfl, rfl, fun x h1 h2 => by omega⟩)
  | k + 1, d => by
    by_cases hm : 131072 < d
    · have e : nextF ws hs o acts (k + 1) d = (0, 5) := if_pos hm
      rw [e]
      exact .inr (.inr ⟨rfl, rfl, fun x h1 h2 => by omega⟩)
    · cases ho : openI ws hs o acts d with
      | true =>
        rw [nextF_hit (by omega) ho]
        exact .inl ⟨rfl, Int.le_refl _, by simp only; omega, by simp only; omega, ho, fun x h1 h2 => by simp only at h2; omega⟩
      | false =>
        rw [nextF_skip (by omega) ho]
        have step : ∀ x, d ≤ x → (d + 1 ≤ x → openI ws hs o acts x = false) → openI ws hs o acts x = false := by
          intro x h1 h2
          by_cases h : x = d
          · rw [h]; exact ho
          · exact h2 (by omega)
        rcases nextF_spec ws hs o acts k (d + 1) with ⟨h1, h2, h3, h4, h5, h6⟩ | ⟨h1, h2, h3⟩ | ⟨h1, h2, h3⟩
        · exact .inl ⟨h1, by omega, h3, by omega, h5, fun x q1 q2 => step x q1 fun q3 => h6 x q3 q2⟩
        · exact .inr (.inl ⟨h1, h2, fun x q1 q2 => step x q1 fun q3 => h3 x q3 (by omega)⟩)
        · exact .inr (.inr ⟨h1, h2, fun x q1 q2 => step x q1 fun q3 => h3 x q3 q2⟩)

theorem checkI_ok {ws : List Int} {hs : List Dt} {o n : Int} (hv : validC ws hs = 0) (ho : 0 ≤ o ∧ o ≤ 11) (hn : 0 ≤ n ∧ n ≤ 131072) : checkI ws hs o n = 0 := by
  unfold checkI
  rw [if_pos hv, if_pos ho, if_pos hn]

theorem countI_ok {ws : List Int} {hs : List Dt} {o a b : Int} {acts : List Ac} (hv : validC ws hs = 0) (ho : 0 ≤ o ∧ o ≤ 11) (ha : 0 ≤ a ∧ a ≤ 131072) (hb : 0 ≤ b ∧ b ≤ 131072) (hab : b ≤ a + 4096) : countI ws hs o acts a b = (countF ws hs o acts a (b - a + 1).toNat, 0) := by
  unfold countI
  rw [if_pos (checkI_ok hv ho ha), if_pos (checkI_ok hv ho hb), if_neg (by omega)]

end Go.Proofs
