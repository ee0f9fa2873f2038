/-
  hash.Bytes and hash.Pair: contracts.
-/
import Derived.Test.YtdioiegkpkjmkaaHj
import Derived.Test.YtdioiegkpkjmkaaHp
import Derived.Test.YtdioiegkpkjmkaaAbsAll
namespace Go.Proofs
open Go.Pa
set_option linter.unusedSimpArgs false

/-- hash.Sum, in the reference's words, in any store. -/
theorem hsumL (a l : List Int) (σ : Store) (hb : U8s a) (ha : a.length < 140737488351233) (hl : l.length < 140737488351233) : ACalls Try.prog 30 [.str a, .ints .i64 l] σ (fun r σ' => r = .int .u64 (sumR a l) ∧ σ' = σ) := by
  rw [← sum_eq]
  exact ACalls.lend (hash_sum a l hb ha hl) (.cons (.same _ rfl) (.cons (.same _ rfl) .nil)) rfl rfl

theorem hsum (a l : List Int) (σ : Store) (hb : U8s a) (ha : a.length < 1000000) (hl : l.length < 1000000) : ACalls Try.prog 30 [.str a, .ints .i64 l] σ (fun r σ' => r = .int .u64 (sumR a l) ∧ σ' = σ) :=
  hsumL a l σ hb (by omega) (by omega)

theorem u8s_take {l : List Int} (h : U8s l) (n : Nat) : U8s (l.take n) := fun x hx => h x (List.mem_of_mem_take hx)

theorem take_small {α : Type} (l : List α) (n : Nat) (h : n < 1000000) : (l.take n).length < 1000000 := by rw [List.length_take]; omega

theorem nil_second {x : AV} {k : IntKind} (G : Gh) (vs : List Value) (h : RepL G [x, .nils] vs) : RepL G [x, .ints k []] vs := by
  cases h with
  | cons h1 h2 => cases h2 with
    | cons h3 h4 => exact .cons h1 (.cons (rep_nil_ints k h3) h4)

end Go.Proofs
