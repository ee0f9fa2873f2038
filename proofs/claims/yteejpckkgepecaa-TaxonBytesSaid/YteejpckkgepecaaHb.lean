/-
  hash.Sum and what it needs: contracts.
-/
import Derived.Test.YteejpckkgepecaaHi
import Derived.Test.YteejpckkgepecaaAbsAll
namespace Go.Proofs
open Go.Pa
set_option linter.unusedSimpArgs false

/-- The program's sum. -/
def sumI (a l : List Int) : Int :=
  mixI (l.foldl (fun s x => mixI s (IntKind.u64.wrap x)) (mixI (mixI ((wordsI a).foldl mixI 0) (IntKind.u64.wrap a.length)) (IntKind.u64.wrap l.length))) 0
end Go.Proofs
