/-
  The Reader of package wire: lists.
-/
import Derived.Test.YteejpckkgepecaaWe
namespace Go.Proofs
open Go.Pa
set_option linter.unusedSimpArgs false
set_option maxRecDepth 20000
set_option maxHeartbeats 2000000

theorem ok_form {l : List Int} {o : AObj} (h : RdO (.ok l) o) : o = rdO l 0 := h.1

end Go.Proofs
