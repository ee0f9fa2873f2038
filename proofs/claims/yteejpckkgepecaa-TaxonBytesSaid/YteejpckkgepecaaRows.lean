/-
  No cell of these rows narrows 'for every input' (looked for: loops, veiled, ifaces, maps, wideKeys, modest, calm, conditions, laid).
  DERIVED. THE GIVEN ROWS OF THIS SEAT. 7 by the template 'for every input the law returns true; each argument reads behind the call as it read before'; 0 by the template 'total and deterministic' (their statements: YteejpckkgepecaaTotals.lean).
  GIVEN WITH THE SEED: the statements are not yours to turn. If you find one false, say at which input.
  Laid BY PROGRAM, IN A SANDBOX (cutbox-rows.mjs): the forced cells as the released guide's own fill.sh prints them over the translation 4c4b9dba67f07633… (all of the seat's roots in one cut). By AI agents, Wed Nov 11 2026. No macro, syntax, notation, axiom, sorry.
-/
import Derived.Test.YteejpckkgepecaaChecked
import GoSem.Claim
import GoSem.ClaimJoined
import GoSem.ClaimMapViews
import Derived.JoinedTies
import Derived.KernelRfl
namespace Go.Proofs.Yteejpckkgepecaa
/- THE CELL 'sum', in the pinned program and in every row, IS THE sha256 OF THE DUMP (.gsa) THAT YteejpckkgepecaaProg.lean LOADS. Nothing in Lean hashes anything: it is a label: what it is worth is what the hold of that sum in a sandbox is worth. -/
noncomputable def Try.pinned : Pinned := { name := "yteejpckkgepecaa", sum := "4c4b9dba67f07633769cdcb4e0e7cee9551552d6cab76cbf98bb950d7b06f381", checked := Try.checked }
namespace Rows
def none {H : Type} : Left H := { results := [], args := [] }

/-- 'priorartlaw05.TaxonInherits': WHATEVER THE INPUT: true; the input reads as it did. -/
def taxonInheritsSpec : ChangeSpec := { name := "taxonInherits", fn := fun _ => fun
  | [d1, d2, d3, d4] => { results := [.lit (.bool true)], args := [d1, d2, d3, d4] }
  | _ => none }
def taxonInheritsRow : OpenClaim := { program := "yteejpckkgepecaa", sum := "4c4b9dba67f07633769cdcb4e0e7cee9551552d6cab76cbf98bb950d7b06f381", func := "priorart/priorartlaw05.TaxonInherits", spec := "taxonInherits", unfollowed := true, recurses := true, apart := false }
def TaxonInheritsSaid : Prop := taxonInheritsRow.holds Try.pinned (OpenSpec.ofChange taxonInheritsSpec)

/-- ITS FALSE NEIGHBOUR: 'it returns false'. Refute it at one input. -/
def taxonInheritsWrong : ChangeSpec := { name := "taxonInherits", fn := fun _ => fun
  | [d1, d2, d3, d4] => { results := [.lit (.bool false)], args := [d1, d2, d3, d4] }
  | _ => none }
def TaxonInheritsWrongFalsely : Prop := taxonInheritsRow.holds Try.pinned (OpenSpec.ofChange taxonInheritsWrong)

/-- 'priorartlaw05.TaxonOrder': WHATEVER THE INPUT: true; the input reads as it did. -/
def taxonOrderSpec : ChangeSpec := { name := "taxonOrder", fn := fun _ => fun
  | [d] => { results := [.lit (.bool true)], args := [d] }
  | _ => none }
def taxonOrderRow : OpenClaim := { program := "yteejpckkgepecaa", sum := "4c4b9dba67f07633769cdcb4e0e7cee9551552d6cab76cbf98bb950d7b06f381", func := "priorart/priorartlaw05.TaxonOrder", spec := "taxonOrder", unfollowed := true, recurses := true, apart := false }
def TaxonOrderSaid : Prop := taxonOrderRow.holds Try.pinned (OpenSpec.ofChange taxonOrderSpec)

/-- ITS FALSE NEIGHBOUR: 'it returns false'. Refute it at one input. -/
def taxonOrderWrong : ChangeSpec := { name := "taxonOrder", fn := fun _ => fun
  | [d] => { results := [.lit (.bool false)], args := [d] }
  | _ => none }
def TaxonOrderWrongFalsely : Prop := taxonOrderRow.holds Try.pinned (OpenSpec.ofChange taxonOrderWrong)

/-- 'priorartlaw05.TaxonClosure': WHATEVER THE INPUT: true; the input reads as it did. -/
def taxonClosureSpec : ChangeSpec := { name := "taxonClosure", fn := fun _ => fun
  | [d1, d2, d3] => { results := [.lit (.bool true)], args := [d1, d2, d3] }
  | _ => none }
def taxonClosureRow : OpenClaim := { program := "yteejpckkgepecaa", sum := "4c4b9dba67f07633769cdcb4e0e7cee9551552d6cab76cbf98bb950d7b06f381", func := "priorart/priorartlaw05.TaxonClosure", spec := "taxonClosure", unfollowed := true, recurses := true, apart := false }
def TaxonClosureSaid : Prop := taxonClosureRow.holds Try.pinned (OpenSpec.ofChange taxonClosureSpec)

/-- ITS FALSE NEIGHBOUR: 'it returns false'. Refute it at one input. -/
def taxonClosureWrong : ChangeSpec := { name := "taxonClosure", fn := fun _ => fun
  | [d1, d2, d3] => { results := [.lit (.bool false)], args := [d1, d2, d3] }
  | _ => none }
def TaxonClosureWrongFalsely : Prop := taxonClosureRow.holds Try.pinned (OpenSpec.ofChange taxonClosureWrong)

/-- 'priorartlaw05.TaxonLeast': WHATEVER THE INPUT: true; the input reads as it did. -/
def taxonLeastSpec : ChangeSpec := { name := "taxonLeast", fn := fun _ => fun
  | [d1, d2] => { results := [.lit (.bool true)], args := [d1, d2] }
  | _ => none }
def taxonLeastRow : OpenClaim := { program := "yteejpckkgepecaa", sum := "4c4b9dba67f07633769cdcb4e0e7cee9551552d6cab76cbf98bb950d7b06f381", func := "priorart/priorartlaw05.TaxonLeast", spec := "taxonLeast", unfollowed := true, recurses := true, apart := false }
def TaxonLeastSaid : Prop := taxonLeastRow.holds Try.pinned (OpenSpec.ofChange taxonLeastSpec)

/-- ITS FALSE NEIGHBOUR: 'it returns false'. Refute it at one input. -/
def taxonLeastWrong : ChangeSpec := { name := "taxonLeast", fn := fun _ => fun
  | [d1, d2] => { results := [.lit (.bool false)], args := [d1, d2] }
  | _ => none }
def TaxonLeastWrongFalsely : Prop := taxonLeastRow.holds Try.pinned (OpenSpec.ofChange taxonLeastWrong)

/-- 'priorartlaw05.TaxonApart': WHATEVER THE INPUT: true; the input reads as it did. -/
def taxonApartSpec : ChangeSpec := { name := "taxonApart", fn := fun _ => fun
  | [d1, d2] => { results := [.lit (.bool true)], args := [d1, d2] }
  | _ => none }
def taxonApartRow : OpenClaim := { program := "yteejpckkgepecaa", sum := "4c4b9dba67f07633769cdcb4e0e7cee9551552d6cab76cbf98bb950d7b06f381", func := "priorart/priorartlaw05.TaxonApart", spec := "taxonApart", unfollowed := true, recurses := true, apart := false }
def TaxonApartSaid : Prop := taxonApartRow.holds Try.pinned (OpenSpec.ofChange taxonApartSpec)

/-- ITS FALSE NEIGHBOUR: 'it returns false'. Refute it at one input. -/
def taxonApartWrong : ChangeSpec := { name := "taxonApart", fn := fun _ => fun
  | [d1, d2] => { results := [.lit (.bool false)], args := [d1, d2] }
  | _ => none }
def TaxonApartWrongFalsely : Prop := taxonApartRow.holds Try.pinned (OpenSpec.ofChange taxonApartWrong)

/-- 'priorartlaw05.TaxonMakes': WHATEVER THE INPUT: true; the input reads as it did. -/
def taxonMakesSpec : ChangeSpec := { name := "taxonMakes", fn := fun _ => fun
  | [d1, d2, d3, d4] => { results := [.lit (.bool true)], args := [d1, d2, d3, d4] }
  | _ => none }
def taxonMakesRow : OpenClaim := { program := "yteejpckkgepecaa", sum := "4c4b9dba67f07633769cdcb4e0e7cee9551552d6cab76cbf98bb950d7b06f381", func := "priorart/priorartlaw05.TaxonMakes", spec := "taxonMakes", unfollowed := true, recurses := true, apart := false }
def TaxonMakesSaid : Prop := taxonMakesRow.holds Try.pinned (OpenSpec.ofChange taxonMakesSpec)

/-- ITS FALSE NEIGHBOUR: 'it returns false'. Refute it at one input. -/
def taxonMakesWrong : ChangeSpec := { name := "taxonMakes", fn := fun _ => fun
  | [d1, d2, d3, d4] => { results := [.lit (.bool false)], args := [d1, d2, d3, d4] }
  | _ => none }
def TaxonMakesWrongFalsely : Prop := taxonMakesRow.holds Try.pinned (OpenSpec.ofChange taxonMakesWrong)

/-- 'priorartlaw05.TaxonBytes': WHATEVER THE INPUT: true; the input reads as it did. -/
def taxonBytesSpec : ChangeSpec := { name := "taxonBytes", fn := fun _ => fun
  | [d1, d2, d3, d4, d5, d6] => { results := [.lit (.bool true)], args := [d1, d2, d3, d4, d5, d6] }
  | _ => none }
def taxonBytesRow : OpenClaim := { program := "yteejpckkgepecaa", sum := "4c4b9dba67f07633769cdcb4e0e7cee9551552d6cab76cbf98bb950d7b06f381", func := "priorart/priorartlaw05.TaxonBytes", spec := "taxonBytes", unfollowed := true, recurses := true, apart := false }
def TaxonBytesSaid : Prop := taxonBytesRow.holds Try.pinned (OpenSpec.ofChange taxonBytesSpec)

/-- ITS FALSE NEIGHBOUR: 'it returns false'. Refute it at one input. -/
def taxonBytesWrong : ChangeSpec := { name := "taxonBytes", fn := fun _ => fun
  | [d1, d2, d3, d4, d5, d6] => { results := [.lit (.bool false)], args := [d1, d2, d3, d4, d5, d6] }
  | _ => none }
def TaxonBytesWrongFalsely : Prop := taxonBytesRow.holds Try.pinned (OpenSpec.ofChange taxonBytesWrong)

/- THE SECOND FORM. 'bulk': how many values and letters a reading holds, each counted each time it is reached (what is shared counts as often as it is met; a slice's spare places count too). A statement '..UptoSaid' is the law's where the arguments, and the package variables that the reading takes, are together of bulk at most 1048576: NARROWER than '..Said'. Prove '..Said' where nothing that the law and all that it calls make is longer than what came in: it says more and counts as full. Else prove '..UptoSaid'. A law counts once. -/
mutual
def uptoBulk {H : Type} : DataW H → Nat
  | .lit (.string bytes) => bytes.length + 1
  | .lit _ => 1
  | .nil => 1
  | .ptr d => uptoBulk d + 1
  | .slice elems spare => uptoBulkAll elems + uptoBulkAll spare + 1
  | .agg parts => uptoBulkAll parts + 1
  | .iface _ d => uptoBulk d + 1
  | .map entries => uptoBulkEntries entries + 1
  | .held _ => 1
def uptoBulkAll {H : Type} : List (DataW H) → Nat
  | [] => 0
  | d :: r => uptoBulk d + uptoBulkAll r
def uptoBulkEntries {H : Type} : List (Lit × DataW H) → Nat
  | [] => 0
  | x :: r => uptoBulkEntry x + uptoBulkEntries r
def uptoBulkEntry {H : Type} : Lit × DataW H → Nat
  | (.string bytes, d) => bytes.length + uptoBulk d + 1
  | (_, d) => uptoBulk d + 1
 end
def uptoSmall : (H : Type) → List (DataW H) → Bool := fun _ ds => decide (uptoBulkAll ds ≤ 1048576)
def OpenSpec.upto (s : _root_.Go.ChangeSpec) : _root_.Go.OpenSpec := { _root_.Go.OpenSpec.ofChange s with cond := some uptoSmall }

/-- 'priorartlaw05.TaxonInherits', WHERE WHAT IT READS IS OF BULK AT MOST 1048576: true; the input reads as it did. -/
def taxonInheritsUptoRow : OpenClaim := { program := "yteejpckkgepecaa", sum := "4c4b9dba67f07633769cdcb4e0e7cee9551552d6cab76cbf98bb950d7b06f381", func := "priorart/priorartlaw05.TaxonInherits", spec := "taxonInherits", unfollowed := true, recurses := true, apart := false, narrowed := true }
def TaxonInheritsUptoSaid : Prop := taxonInheritsUptoRow.holds Try.pinned (OpenSpec.upto taxonInheritsSpec)

/-- 'priorartlaw05.TaxonOrder', WHERE WHAT IT READS IS OF BULK AT MOST 1048576: true; the input reads as it did. -/
def taxonOrderUptoRow : OpenClaim := { program := "yteejpckkgepecaa", sum := "4c4b9dba67f07633769cdcb4e0e7cee9551552d6cab76cbf98bb950d7b06f381", func := "priorart/priorartlaw05.TaxonOrder", spec := "taxonOrder", unfollowed := true, recurses := true, apart := false, narrowed := true }
def TaxonOrderUptoSaid : Prop := taxonOrderUptoRow.holds Try.pinned (OpenSpec.upto taxonOrderSpec)

/-- 'priorartlaw05.TaxonClosure', WHERE WHAT IT READS IS OF BULK AT MOST 1048576: true; the input reads as it did. -/
def taxonClosureUptoRow : OpenClaim := { program := "yteejpckkgepecaa", sum := "4c4b9dba67f07633769cdcb4e0e7cee9551552d6cab76cbf98bb950d7b06f381", func := "priorart/priorartlaw05.TaxonClosure", spec := "taxonClosure", unfollowed := true, recurses := true, apart := false, narrowed := true }
def TaxonClosureUptoSaid : Prop := taxonClosureUptoRow.holds Try.pinned (OpenSpec.upto taxonClosureSpec)

/-- 'priorartlaw05.TaxonLeast', WHERE WHAT IT READS IS OF BULK AT MOST 1048576: true; the input reads as it did. -/
def taxonLeastUptoRow : OpenClaim := { program := "yteejpckkgepecaa", sum := "4c4b9dba67f07633769cdcb4e0e7cee9551552d6cab76cbf98bb950d7b06f381", func := "priorart/priorartlaw05.TaxonLeast", spec := "taxonLeast", unfollowed := true, recurses := true, apart := false, narrowed := true }
def TaxonLeastUptoSaid : Prop := taxonLeastUptoRow.holds Try.pinned (OpenSpec.upto taxonLeastSpec)

/-- 'priorartlaw05.TaxonApart', WHERE WHAT IT READS IS OF BULK AT MOST 1048576: true; the input reads as it did. -/
def taxonApartUptoRow : OpenClaim := { program := "yteejpckkgepecaa", sum := "4c4b9dba67f07633769cdcb4e0e7cee9551552d6cab76cbf98bb950d7b06f381", func := "priorart/priorartlaw05.TaxonApart", spec := "taxonApart", unfollowed := true, recurses := true, apart := false, narrowed := true }
def TaxonApartUptoSaid : Prop := taxonApartUptoRow.holds Try.pinned (OpenSpec.upto taxonApartSpec)

/-- 'priorartlaw05.TaxonMakes', WHERE WHAT IT READS IS OF BULK AT MOST 1048576: true; the input reads as it did. -/
def taxonMakesUptoRow : OpenClaim := { program := "yteejpckkgepecaa", sum := "4c4b9dba67f07633769cdcb4e0e7cee9551552d6cab76cbf98bb950d7b06f381", func := "priorart/priorartlaw05.TaxonMakes", spec := "taxonMakes", unfollowed := true, recurses := true, apart := false, narrowed := true }
def TaxonMakesUptoSaid : Prop := taxonMakesUptoRow.holds Try.pinned (OpenSpec.upto taxonMakesSpec)

/-- 'priorartlaw05.TaxonBytes', WHERE WHAT IT READS IS OF BULK AT MOST 1048576: true; the input reads as it did. -/
def taxonBytesUptoRow : OpenClaim := { program := "yteejpckkgepecaa", sum := "4c4b9dba67f07633769cdcb4e0e7cee9551552d6cab76cbf98bb950d7b06f381", func := "priorart/priorartlaw05.TaxonBytes", spec := "taxonBytes", unfollowed := true, recurses := true, apart := false, narrowed := true }
def TaxonBytesUptoSaid : Prop := taxonBytesUptoRow.holds Try.pinned (OpenSpec.upto taxonBytesSpec)

end Rows
end Go.Proofs.Yteejpckkgepecaa
