/-
  The iterator over the words of a slice of bytes.
-/
import Derived.Test.YtdioiegkpkjmkaaHi
namespace Go.Proofs
open Go.Pa Go.RowKit Go.Shelf
attribute [local go_sem] Oper.semAt_some
end Go.Proofs
