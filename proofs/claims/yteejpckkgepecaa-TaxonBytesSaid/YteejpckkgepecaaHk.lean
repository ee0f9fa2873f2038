/-
  hash.Bytes and hash.Pair: contracts.
-/
import Derived.Test.YteejpckkgepecaaHj
import Derived.Test.YteejpckkgepecaaHp
import Derived.Test.YteejpckkgepecaaAbsAll
namespace Go.Proofs
open Go.Pa
set_option linter.unusedSimpArgs false

theorem u8s_take {l : List Int} (h : U8s l) (n : Nat) : U8s (l.take n) := fun x hx => h x (List.mem_of_mem_take hx)

theorem take_small {α : Type} (l : List α) (n : Nat) (h : n < 1000000) : (l.take n).length < 1000000 := by rw [List.length_take]; omega

theorem nil_second {x : AV} {k : IntKind} (G : Gh) (vs : List Value) (h : RepL G [x, .nils] vs) : RepL G [x, .ints k []] vs := by
  cases h with
  | cons h1 h2 => cases h2 with
    | cons h3 h4 => exact .cons h1 (.cons (rep_nil_ints k h3) h4)

end Go.Proofs
