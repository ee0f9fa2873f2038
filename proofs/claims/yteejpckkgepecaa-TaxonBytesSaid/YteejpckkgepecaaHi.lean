/-
  The iterator over the words of a string.
-/
import Derived.Test.YteejpckkgepecaaHa
import Derived.Test.YteejpckkgepecaaAbsAll
import Derived.RangeFuncNested
import Derived.RangeFuncBound
import Derived.Shelf.Abstract
import Derived.Shelf.RegionOpen
import Derived.OwnWalkIn
import Derived.TacticsInMore
import Derived.LoopNIn
namespace Go.Proofs
open Go.Pa Go.RowKit Go.Shelf
attribute [local go_sem] Oper.semAt_some
theorem leI_snoc (x : Int) : ∀ l : List Int, leI (l ++ [x]) = leI l + 256 ^ l.length * x
  | [] => by simp [leI]
  | y :: l => by
    simp only [List.cons_append, leI, leI_snoc x l, List.length_cons, Int.pow_succ]
    have : 256 * (256 ^ l.length * x) = 256 ^ l.length * 256 * x := by rw [← Int.mul_assoc, Int.mul_comm 256]
    omega

theorem word_step (a : List Int) (hb : U8s a) {j d : Nat} (h : 8 * j + d < a.length) (hd : d < 8) {x : Int} (hx : a[8 * j + d]? = some x) :
    bits BinOp.or IntKind.u64 (leI ((a.drop (8 * j)).take d)) (IntKind.u64.wrap (IntKind.u64.wrap x * 2 ^ (8 * d))) = leI ((a.drop (8 * j)).take (d + 1)) := by
  have hxm : x ∈ a := List.mem_of_getElem? hx
  have hx8 := hb x hxm
  have hlen : ((a.drop (8 * j)).take d).length = d := by rw [List.length_take, List.length_drop]; omega
  have hbd := leI_bound _ (U8s_part hb (8 * j) d)
  have hbd2 := leI_small (U8s_part hb (8 * j) (d + 1)) (by rw [List.length_take]; omega)
  have hsn : leI ((a.drop (8 * j)).take (d + 1)) = leI ((a.drop (8 * j)).take d) + 256 ^ d * x := by
    rw [List.take_add_one, List.getElem?_drop, hx, Option.toList_some, leI_snoc, hlen]
  rw [hlen] at hbd
  have hp : (256 : Int) ^ d = 2 ^ (8 * d) := by rw [Int.pow_mul]; rfl
  rw [hp] at hbd hsn
  rw [hsn] at hbd2 ⊢
  rw [Int.mul_comm (2 ^ (8 * d)) x] at hbd2 ⊢
  have hnn : 0 ≤ x * 2 ^ (8 * d) := Int.mul_nonneg hx8.1 (Int.le_of_lt (Int.pow_pos (by decide)))
  rw [wrap_u64 (n := x) (by omega) (by omega), wrap_u64 (n := x * 2 ^ (8 * d)) hnn (by omega)]
  have := ior_add (x := leI ((a.drop (8 * j)).take d)) (y := x) (e := 8 * d) hbd.1 hbd.2 hx8.1 (by omega)
  rw [Int.add_comm]
  exact this
end Go.Proofs
