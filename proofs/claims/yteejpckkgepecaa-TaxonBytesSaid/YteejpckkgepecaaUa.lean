/-
  Taxonomies: New agrees with the reference; the law.
-/
import Derived.Test.YteejpckkgepecaaTz
namespace Go.Proofs
open Go.Pa
set_option linter.unusedSimpArgs false
set_option linter.unusedVariables false
set_option maxRecDepth 20000
set_option maxHeartbeats 2000000

/-- Lists of lists, as cells. -/
def cellP (x : List (List Int)) : List AV := [.rows 1 (x.map rowI)]

theorem chk_len {x : List (List Int)} (h : chkI x = 0) : x.length ≤ 64 := by
  unfold chkI at h
  split at h
  · cases h
  · omega

theorem quo5 {b : Int} (hb : Okk .i64 b) : IntKind.i64.wrap (b.tdiv 5) = b.tdiv 5 ∧ Okk .i64 (b.tdiv 5) := by
  have h : (-9223372036854775808 : Int) ≤ b ∧ b ≤ 9223372036854775807 := hb
  have h3 : (-9223372036854775808 : Int) ≤ b.tdiv 5 ∧ b.tdiv 5 ≤ 9223372036854775807 := by
    by_cases h0 : 0 ≤ b
    · rw [Int.tdiv_eq_ediv_of_nonneg h0]; omega
    · have e : b.tdiv 5 = -((-b).tdiv 5) := by rw [← Int.neg_tdiv, Int.neg_neg]
      rw [e, Int.tdiv_eq_ediv_of_nonneg (by omega)]; omega
  exact ⟨wrap_i64 (by omega) (by omega), h3⟩

theorem small_gen {p : List (List Int)} {m : Nat} (hp : p.length ≤ m) (hm : m ≤ 64) (hI : InR p) (hr : ∀ r ∈ p, r.length ≤ p.length) : SmallP p m :=
  ⟨by omega, fun r h => by have := hr r h; omega, fun r h x hx => by have := hI r h x hx; exact okk_small (by omega) (by omega)⟩

end Go.Proofs
