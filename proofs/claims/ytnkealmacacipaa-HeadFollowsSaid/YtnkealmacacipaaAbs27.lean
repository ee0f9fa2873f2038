/-
  Words put together by 'or' and by sums are the same.
-/
import Derived.Test.YtnkealmacacipaaAbs26
namespace Go.Pa
set_option linter.unusedSimpArgs false
set_option linter.unusedVariables false
set_option linter.unusedSectionVars false
variable [GTab]

theorem ior_add {x y : Int} {e : Nat} (hx : 0 ≤ x) (hx' : x < 2 ^ e) (hy : 0 ≤ y) (hs : y * 2 ^ e + x < 18446744073709551616) : ior .u64 x (y * 2 ^ e) = y * 2 ^ e + x := by
  obtain ⟨m, rfl⟩ := Int.eq_ofNat_of_zero_le hx
  obtain ⟨n, rfl⟩ := Int.eq_ofNat_of_zero_le hy
  have e1 : ((n : Int) * 2 ^ e) = ((n * 2 ^ e : Nat) : Int) := by simp
  have hm : m < 2 ^ e := by
    have : ((2 ^ e : Nat) : Int) = (2 : Int) ^ e := by simp
    omega
  rw [e1] at hs ⊢
  have hnat : n * 2 ^ e + m < 18446744073709551616 := by omega
  unfold ior
  have h1 : (BitVec.ofInt 64 (m : Int)).toNat = m := by
    simp [BitVec.toNat_ofInt]; omega
  have h2 : (BitVec.ofInt 64 ((n * 2 ^ e : Nat) : Int)).toNat = n * 2 ^ e := by
    rw [BitVec.toNat_ofInt]; omega
  have h3 : (BitVec.ofInt IntKind.u64.bits (m : Int) ||| BitVec.ofInt IntKind.u64.bits ((n * 2 ^ e : Nat) : Int)).toNat = n * 2 ^ e + m := by
    show (BitVec.ofInt 64 (m : Int) ||| BitVec.ofInt 64 ((n * 2 ^ e : Nat) : Int)).toNat = _
    rw [BitVec.toNat_or, h1, h2, Nat.or_comm, ← Nat.shiftLeft_eq, Nat.shiftLeft_add_eq_or_of_lt hm]
  rw [h3, wrap_u64 (by omega) (by omega)]
  omega

end Go.Pa
