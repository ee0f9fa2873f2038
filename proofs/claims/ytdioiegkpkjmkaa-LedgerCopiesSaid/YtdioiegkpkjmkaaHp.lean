/-
  The program's sums are the reference's.
-/
import Derived.Test.YtdioiegkpkjmkaaHb
namespace Go.Proofs
open Go.Pa

theorem wrap_u64_bound (n : Int) : 0 ≤ IntKind.u64.wrap n ∧ IntKind.u64.wrap n < 18446744073709551616 := by
  simp [IntKind.wrap, IntKind.bits, IntKind.signed]
  omega

theorem mix_eq (s w : Int) : mixI s w = mixR s w := by
  unfold mixI mixR
  obtain ⟨m, hm⟩ : ∃ m, m = IntKind.u64.wrap (ixor .u64 s w * 11400714819323198485) := ⟨_, rfl⟩
  have hb := wrap_u64_bound (ixor .u64 s w * 11400714819323198485)
  rw [← hm] at hb ⊢
  congr 1
  have h1 : ishr .u64 m 32 = m.fdiv 4294967296 := by rfl
  rw [h1, Int.fdiv_eq_ediv_of_nonneg _ (by omega), Int.tdiv_eq_ediv_of_nonneg hb.1, wrap_u64 (by omega) (by omega)]

theorem sum_eq (a l : List Int) : sumI a l = sumR a l := by
  have h : mixI = mixR := by funext s w; exact mix_eq s w
  unfold sumI sumR
  rw [h]

end Go.Proofs
