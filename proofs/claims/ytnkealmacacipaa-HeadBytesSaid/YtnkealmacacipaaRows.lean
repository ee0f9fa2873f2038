/-
  No cell of these rows narrows 'for every input' (looked for: loops, veiled, ifaces, maps, wideKeys, modest, calm, conditions, laid).
  DERIVED. THE GIVEN ROWS OF THIS SEAT. 6 by the template 'for every input the law returns true; each argument reads behind the call as it read before'; 0 by the template 'total and deterministic' (their statements: YtnkealmacacipaaTotals.lean).
  GIVEN WITH THE SEED: the statements are not yours to turn. If you find one false, say at which input.
  Laid BY PROGRAM, IN A SANDBOX (cutbox-rows.mjs): the forced cells as the released guide's own fill.sh prints them over the translation 413f26c30d7218c2… (all of the seat's roots in one cut). By AI agents, Wed Nov 11 2026. No macro, syntax, notation, axiom, sorry.
-/
import Derived.Test.YtnkealmacacipaaChecked
import GoSem.Claim
import GoSem.ClaimJoined
import GoSem.ClaimMapViews
import Derived.JoinedTies
import Derived.KernelRfl
namespace Go.Proofs.Ytnkealmacacipaa
/- THE CELL 'sum', in the pinned program and in every row, IS THE sha256 OF THE DUMP (.gsa) THAT YtnkealmacacipaaProg.lean LOADS. Nothing in Lean hashes anything: it is a label: what it is worth is what the hold of that sum in a sandbox is worth. -/
noncomputable def Try.pinned : Pinned := { name := "ytnkealmacacipaa", sum := "413f26c30d7218c29bae0892197e2773473a636d2fc92fa56fa30c822a9b451e", checked := Try.checked }
namespace Rows
def none {H : Type} : Left H := { results := [], args := [] }

/-- 'priorartlaw34.HeadSigns': WHATEVER THE INPUT: true; the input reads as it did. -/
def headSignsSpec : ChangeSpec := { name := "headSigns", fn := fun _ => fun
  | [d1, d2, d3, d4, d5] => { results := [.lit (.bool true)], args := [d1, d2, d3, d4, d5] }
  | _ => none }
def headSignsRow : OpenClaim := { program := "ytnkealmacacipaa", sum := "413f26c30d7218c29bae0892197e2773473a636d2fc92fa56fa30c822a9b451e", func := "priorart/priorartlaw34.HeadSigns", spec := "headSigns", unfollowed := true, recurses := true, apart := false }
def HeadSignsSaid : Prop := headSignsRow.holds Try.pinned (OpenSpec.ofChange headSignsSpec)

/-- ITS FALSE NEIGHBOUR: 'it returns false'. Refute it at one input. -/
def headSignsWrong : ChangeSpec := { name := "headSigns", fn := fun _ => fun
  | [d1, d2, d3, d4, d5] => { results := [.lit (.bool false)], args := [d1, d2, d3, d4, d5] }
  | _ => none }
def HeadSignsWrongFalsely : Prop := headSignsRow.holds Try.pinned (OpenSpec.ofChange headSignsWrong)

/-- 'priorartlaw34.HeadFollows': WHATEVER THE INPUT: true; the input reads as it did. -/
def headFollowsSpec : ChangeSpec := { name := "headFollows", fn := fun _ => fun
  | [d1, d2, d3, d4] => { results := [.lit (.bool true)], args := [d1, d2, d3, d4] }
  | _ => none }
def headFollowsRow : OpenClaim := { program := "ytnkealmacacipaa", sum := "413f26c30d7218c29bae0892197e2773473a636d2fc92fa56fa30c822a9b451e", func := "priorart/priorartlaw34.HeadFollows", spec := "headFollows", unfollowed := true, recurses := true, apart := false }
def HeadFollowsSaid : Prop := headFollowsRow.holds Try.pinned (OpenSpec.ofChange headFollowsSpec)

/-- ITS FALSE NEIGHBOUR: 'it returns false'. Refute it at one input. -/
def headFollowsWrong : ChangeSpec := { name := "headFollows", fn := fun _ => fun
  | [d1, d2, d3, d4] => { results := [.lit (.bool false)], args := [d1, d2, d3, d4] }
  | _ => none }
def HeadFollowsWrongFalsely : Prop := headFollowsRow.holds Try.pinned (OpenSpec.ofChange headFollowsWrong)

/-- 'priorartlaw34.HeadSigned': WHATEVER THE INPUT: true; the input reads as it did. -/
def headSignedSpec : ChangeSpec := { name := "headSigned", fn := fun _ => fun
  | [d1, d2, d3, d4, d5] => { results := [.lit (.bool true)], args := [d1, d2, d3, d4, d5] }
  | _ => none }
def headSignedRow : OpenClaim := { program := "ytnkealmacacipaa", sum := "413f26c30d7218c29bae0892197e2773473a636d2fc92fa56fa30c822a9b451e", func := "priorart/priorartlaw34.HeadSigned", spec := "headSigned", unfollowed := true, recurses := true, apart := false }
def HeadSignedSaid : Prop := headSignedRow.holds Try.pinned (OpenSpec.ofChange headSignedSpec)

/-- ITS FALSE NEIGHBOUR: 'it returns false'. Refute it at one input. -/
def headSignedWrong : ChangeSpec := { name := "headSigned", fn := fun _ => fun
  | [d1, d2, d3, d4, d5] => { results := [.lit (.bool false)], args := [d1, d2, d3, d4, d5] }
  | _ => none }
def HeadSignedWrongFalsely : Prop := headSignedRow.holds Try.pinned (OpenSpec.ofChange headSignedWrong)

/-- 'priorartlaw34.HeadOrder': WHATEVER THE INPUT: true; the input reads as it did. -/
def headOrderSpec : ChangeSpec := { name := "headOrder", fn := fun _ => fun
  | [d] => { results := [.lit (.bool true)], args := [d] }
  | _ => none }
def headOrderRow : OpenClaim := { program := "ytnkealmacacipaa", sum := "413f26c30d7218c29bae0892197e2773473a636d2fc92fa56fa30c822a9b451e", func := "priorart/priorartlaw34.HeadOrder", spec := "headOrder", unfollowed := true, recurses := true, apart := false }
def HeadOrderSaid : Prop := headOrderRow.holds Try.pinned (OpenSpec.ofChange headOrderSpec)

/-- ITS FALSE NEIGHBOUR: 'it returns false'. Refute it at one input. -/
def headOrderWrong : ChangeSpec := { name := "headOrder", fn := fun _ => fun
  | [d] => { results := [.lit (.bool false)], args := [d] }
  | _ => none }
def HeadOrderWrongFalsely : Prop := headOrderRow.holds Try.pinned (OpenSpec.ofChange headOrderWrong)

/-- 'priorartlaw34.HeadSealed': WHATEVER THE INPUT: true; the input reads as it did. -/
def headSealedSpec : ChangeSpec := { name := "headSealed", fn := fun _ => fun
  | [d1, d2, d3, d4, d5] => { results := [.lit (.bool true)], args := [d1, d2, d3, d4, d5] }
  | _ => none }
def headSealedRow : OpenClaim := { program := "ytnkealmacacipaa", sum := "413f26c30d7218c29bae0892197e2773473a636d2fc92fa56fa30c822a9b451e", func := "priorart/priorartlaw34.HeadSealed", spec := "headSealed", unfollowed := true, recurses := true, apart := false }
def HeadSealedSaid : Prop := headSealedRow.holds Try.pinned (OpenSpec.ofChange headSealedSpec)

/-- ITS FALSE NEIGHBOUR: 'it returns false'. Refute it at one input. -/
def headSealedWrong : ChangeSpec := { name := "headSealed", fn := fun _ => fun
  | [d1, d2, d3, d4, d5] => { results := [.lit (.bool false)], args := [d1, d2, d3, d4, d5] }
  | _ => none }
def HeadSealedWrongFalsely : Prop := headSealedRow.holds Try.pinned (OpenSpec.ofChange headSealedWrong)

/-- 'priorartlaw34.HeadBytes': WHATEVER THE INPUT: true; the input reads as it did. -/
def headBytesSpec : ChangeSpec := { name := "headBytes", fn := fun _ => fun
  | [d1, d2, d3, d4, d5, d6, d7] => { results := [.lit (.bool true)], args := [d1, d2, d3, d4, d5, d6, d7] }
  | _ => none }
def headBytesRow : OpenClaim := { program := "ytnkealmacacipaa", sum := "413f26c30d7218c29bae0892197e2773473a636d2fc92fa56fa30c822a9b451e", func := "priorart/priorartlaw34.HeadBytes", spec := "headBytes", unfollowed := true, recurses := true, apart := false }
def HeadBytesSaid : Prop := headBytesRow.holds Try.pinned (OpenSpec.ofChange headBytesSpec)

/-- ITS FALSE NEIGHBOUR: 'it returns false'. Refute it at one input. -/
def headBytesWrong : ChangeSpec := { name := "headBytes", fn := fun _ => fun
  | [d1, d2, d3, d4, d5, d6, d7] => { results := [.lit (.bool false)], args := [d1, d2, d3, d4, d5, d6, d7] }
  | _ => none }
def HeadBytesWrongFalsely : Prop := headBytesRow.holds Try.pinned (OpenSpec.ofChange headBytesWrong)

/- THE SECOND FORM. 'bulk': how many values and letters a reading holds, each counted each time it is reached (what is shared counts as often as it is met; a slice's spare places count too). A statement '..UptoSaid' is the law's where the arguments, and the package variables that the reading takes, are together of bulk at most 1048576: NARROWER than '..Said'. Prove '..Said' where nothing that the law and all that it calls make is longer than what came in: it says more and counts as full. Else prove '..UptoSaid'. A law counts once. -/
mutual
def uptoBulk {H : Type} : DataW H → Nat
  | .lit (.string bytes) => bytes.length + 1
  | .lit _ => 1
  | .nil => 1
  | .ptr d => uptoBulk d + 1
  | .slice elems spare => uptoBulkAll elems + uptoBulkAll spare + 1
  | .agg parts => uptoBulkAll parts + 1
  | .iface _ d => uptoBulk d + 1
  | .map entries => uptoBulkEntries entries + 1
  | .held _ => 1
def uptoBulkAll {H : Type} : List (DataW H) → Nat
  | [] => 0
  | d :: r => uptoBulk d + uptoBulkAll r
def uptoBulkEntries {H : Type} : List (Lit × DataW H) → Nat
  | [] => 0
  | x :: r => uptoBulkEntry x + uptoBulkEntries r
def uptoBulkEntry {H : Type} : Lit × DataW H → Nat
  | (.string bytes, d) => bytes.length + uptoBulk d + 1
  | (_, d) => uptoBulk d + 1
 end
def uptoSmall : (H : Type) → List (DataW H) → Bool := fun _ ds => decide (uptoBulkAll ds ≤ 1048576)
def OpenSpec.upto (s : _root_.Go.ChangeSpec) : _root_.Go.OpenSpec := { _root_.Go.OpenSpec.ofChange s with cond := some uptoSmall }

/-- 'priorartlaw34.HeadSigns', WHERE WHAT IT READS IS OF BULK AT MOST 1048576: true; the input reads as it did. -/
def headSignsUptoRow : OpenClaim := { program := "ytnkealmacacipaa", sum := "413f26c30d7218c29bae0892197e2773473a636d2fc92fa56fa30c822a9b451e", func := "priorart/priorartlaw34.HeadSigns", spec := "headSigns", unfollowed := true, recurses := true, apart := false, narrowed := true }
def HeadSignsUptoSaid : Prop := headSignsUptoRow.holds Try.pinned (OpenSpec.upto headSignsSpec)

/-- 'priorartlaw34.HeadFollows', WHERE WHAT IT READS IS OF BULK AT MOST 1048576: true; the input reads as it did. -/
def headFollowsUptoRow : OpenClaim := { program := "ytnkealmacacipaa", sum := "413f26c30d7218c29bae0892197e2773473a636d2fc92fa56fa30c822a9b451e", func := "priorart/priorartlaw34.HeadFollows", spec := "headFollows", unfollowed := true, recurses := true, apart := false, narrowed := true }
def HeadFollowsUptoSaid : Prop := headFollowsUptoRow.holds Try.pinned (OpenSpec.upto headFollowsSpec)

/-- 'priorartlaw34.HeadSigned', WHERE WHAT IT READS IS OF BULK AT MOST 1048576: true; the input reads as it did. -/
def headSignedUptoRow : OpenClaim := { program := "ytnkealmacacipaa", sum := "413f26c30d7218c29bae0892197e2773473a636d2fc92fa56fa30c822a9b451e", func := "priorart/priorartlaw34.HeadSigned", spec := "headSigned", unfollowed := true, recurses := true, apart := false, narrowed := true }
def HeadSignedUptoSaid : Prop := headSignedUptoRow.holds Try.pinned (OpenSpec.upto headSignedSpec)

/-- 'priorartlaw34.HeadOrder', WHERE WHAT IT READS IS OF BULK AT MOST 1048576: true; the input reads as it did. -/
def headOrderUptoRow : OpenClaim := { program := "ytnkealmacacipaa", sum := "413f26c30d7218c29bae0892197e2773473a636d2fc92fa56fa30c822a9b451e", func := "priorart/priorartlaw34.HeadOrder", spec := "headOrder", unfollowed := true, recurses := true, apart := false, narrowed := true }
def HeadOrderUptoSaid : Prop := headOrderUptoRow.holds Try.pinned (OpenSpec.upto headOrderSpec)

/-- 'priorartlaw34.HeadSealed', WHERE WHAT IT READS IS OF BULK AT MOST 1048576: true; the input reads as it did. -/
def headSealedUptoRow : OpenClaim := { program := "ytnkealmacacipaa", sum := "413f26c30d7218c29bae0892197e2773473a636d2fc92fa56fa30c822a9b451e", func := "priorart/priorartlaw34.HeadSealed", spec := "headSealed", unfollowed := true, recurses := true, apart := false, narrowed := true }
def HeadSealedUptoSaid : Prop := headSealedUptoRow.holds Try.pinned (OpenSpec.upto headSealedSpec)

/-- 'priorartlaw34.HeadBytes', WHERE WHAT IT READS IS OF BULK AT MOST 1048576: true; the input reads as it did. -/
def headBytesUptoRow : OpenClaim := { program := "ytnkealmacacipaa", sum := "413f26c30d7218c29bae0892197e2773473a636d2fc92fa56fa30c822a9b451e", func := "priorart/priorartlaw34.HeadBytes", spec := "headBytes", unfollowed := true, recurses := true, apart := false, narrowed := true }
def HeadBytesUptoSaid : Prop := headBytesUptoRow.holds Try.pinned (OpenSpec.upto headBytesSpec)

end Rows
end Go.Proofs.Ytnkealmacacipaa
