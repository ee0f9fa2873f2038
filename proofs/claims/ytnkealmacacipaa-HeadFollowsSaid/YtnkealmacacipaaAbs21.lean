/-
  Plain laws of numbers and lists.
-/
import Derived.Test.YtnkealmacacipaaAbs20
namespace Go.Pa
set_option linter.unusedSectionVars false
variable [GTab]

theorem wrap_i64 {n : Int} (h : -9223372036854775808 ≤ n) (h' : n < 9223372036854775808) : IntKind.i64.wrap n = n := by
  simp [IntKind.wrap, IntKind.bits, IntKind.signed]
  omega

theorem wrap_u64 {n : Int} (h : 0 ≤ n) (h' : n < 18446744073709551616) : IntKind.u64.wrap n = n := by
  simp [IntKind.wrap, IntKind.bits, IntKind.signed]
  omega

theorem wrap_u8 {n : Int} (h : 0 ≤ n) (h' : n < 256) : IntKind.u8.wrap n = n := by
  simp [IntKind.wrap, IntKind.bits, IntKind.signed]
  omega

theorem take_eq_step {α : Type} {a b : List α} (hl : a.length = b.length) {i : Nat} (hi : i < a.length) (h : a.take i = b.take i) : a.take (i + 1) = b.take (i + 1) ↔ a[i]? = b[i]? := by
  rw [List.take_add_one, List.take_add_one, h]
  constructor
  · intro h
    have := List.append_cancel_left h
    rw [List.getElem?_eq_getElem hi, List.getElem?_eq_getElem (by omega)] at this ⊢
    simpa using this
  · intro h; rw [h]

theorem getD_get {α : Type} {l : List α} {i : Nat} {d : α} (h : i < l.length) : l.getD i d = l[i] := by
  rw [List.getD_eq_getElem?_getD, List.getElem?_eq_getElem h]; rfl

/-- A round of a comparison of two lists. -/
theorem same_round {a b : List Int} (hl : a.length = b.length) {i : Nat} (hi : i < a.length) (hp : a.take i = b.take i) :
    (a.getD i 0 ≠ b.getD i 0 → a ≠ b) ∧ (a.getD i 0 = b.getD i 0 → a.take (i + 1) = b.take (i + 1)) := by
  rw [getD_get hi, getD_get (by omega : i < b.length)]
  refine ⟨fun h e => h (by subst e; rfl), fun h => (take_eq_step hl hi hp).2 ?_⟩
  rw [List.getElem?_eq_getElem hi, List.getElem?_eq_getElem (by omega), h]

theorem same_end {a b : List Int} (hl : a.length = b.length) {i : Nat} (hi : a.length ≤ i) (hp : a.take i = b.take i) : a = b := by
  rw [List.take_of_length_le hi, List.take_of_length_le (by omega)] at hp; exact hp

end Go.Pa
