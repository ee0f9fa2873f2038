/-
  No cell of these rows narrows 'for every input' (looked for: loops, veiled, ifaces, maps, wideKeys, modest, calm, conditions, laid).
  DERIVED. THE GIVEN ROWS OF THIS SEAT. 8 by the template 'for every input the law returns true; each argument reads behind the call as it read before'; 0 by the template 'total and deterministic' (their statements: YthodfbkngdnihaaTotals.lean).
  GIVEN WITH THE SEED: the statements are not yours to turn. If you find one false, say at which input.
  Laid BY PROGRAM, IN A SANDBOX (cutbox-rows.mjs): the forced cells as the released guide's own fill.sh prints them over the translation e16cb50936d9a2a9… (all of the seat's roots in one cut). By AI agents, Wed Nov 11 2026. No macro, syntax, notation, axiom, sorry.
-/
import Derived.Test.YthodfbkngdnihaaChecked
import GoSem.Claim
import GoSem.ClaimJoined
import GoSem.ClaimMapViews
import Derived.JoinedTies
import Derived.KernelRfl
namespace Go.Proofs.Ythodfbkngdnihaa
/- THE CELL 'sum', in the pinned program and in every row, IS THE sha256 OF THE DUMP (.gsa) THAT YthodfbkngdnihaaProg.lean LOADS. Nothing in Lean hashes anything: it is a label: what it is worth is what the hold of that sum in a sandbox is worth. -/
noncomputable def Try.pinned : Pinned := { name := "ythodfbkngdnihaa", sum := "e16cb50936d9a2a94a9e940ed7bdf964e387ad0c51149fefcabb5cc4c9206f27", checked := Try.checked }
namespace Rows
def none {H : Type} : Left H := { results := [], args := [] }

/-- 'priorartlaw01.HashSum': WHATEVER THE INPUT: true; the input reads as it did. -/
def hashSumSpec : ChangeSpec := { name := "hashSum", fn := fun _ => fun
  | [d1, d2] => { results := [.lit (.bool true)], args := [d1, d2] }
  | _ => none }
def hashSumRow : OpenClaim := { program := "ythodfbkngdnihaa", sum := "e16cb50936d9a2a94a9e940ed7bdf964e387ad0c51149fefcabb5cc4c9206f27", func := "priorart/priorartlaw01.HashSum", spec := "hashSum", unfollowed := true, recurses := true, apart := false }
def HashSumSaid : Prop := hashSumRow.holds Try.pinned (OpenSpec.ofChange hashSumSpec)

/-- ITS FALSE NEIGHBOUR: 'it returns false'. Refute it at one input. -/
def hashSumWrong : ChangeSpec := { name := "hashSum", fn := fun _ => fun
  | [d1, d2] => { results := [.lit (.bool false)], args := [d1, d2] }
  | _ => none }
def HashSumWrongFalsely : Prop := hashSumRow.holds Try.pinned (OpenSpec.ofChange hashSumWrong)

/-- 'priorartlaw01.HashBytes': WHATEVER THE INPUT: true; the input reads as it did. -/
def hashBytesSpec : ChangeSpec := { name := "hashBytes", fn := fun _ => fun
  | [d1, d2, d3, d4] => { results := [.lit (.bool true)], args := [d1, d2, d3, d4] }
  | _ => none }
def hashBytesRow : OpenClaim := { program := "ythodfbkngdnihaa", sum := "e16cb50936d9a2a94a9e940ed7bdf964e387ad0c51149fefcabb5cc4c9206f27", func := "priorart/priorartlaw01.HashBytes", spec := "hashBytes", unfollowed := true, recurses := true, apart := false }
def HashBytesSaid : Prop := hashBytesRow.holds Try.pinned (OpenSpec.ofChange hashBytesSpec)

/-- ITS FALSE NEIGHBOUR: 'it returns false'. Refute it at one input. -/
def hashBytesWrong : ChangeSpec := { name := "hashBytes", fn := fun _ => fun
  | [d1, d2, d3, d4] => { results := [.lit (.bool false)], args := [d1, d2, d3, d4] }
  | _ => none }
def HashBytesWrongFalsely : Prop := hashBytesRow.holds Try.pinned (OpenSpec.ofChange hashBytesWrong)

/-- 'priorartlaw01.HashOneWord': WHATEVER THE INPUT: true; the input reads as it did. -/
def hashOneWordSpec : ChangeSpec := { name := "hashOneWord", fn := fun _ => fun
  | [d1, d2, d3, d4] => { results := [.lit (.bool true)], args := [d1, d2, d3, d4] }
  | _ => none }
def hashOneWordRow : OpenClaim := { program := "ythodfbkngdnihaa", sum := "e16cb50936d9a2a94a9e940ed7bdf964e387ad0c51149fefcabb5cc4c9206f27", func := "priorart/priorartlaw01.HashOneWord", spec := "hashOneWord", unfollowed := true, recurses := true, apart := false }
def HashOneWordSaid : Prop := hashOneWordRow.holds Try.pinned (OpenSpec.ofChange hashOneWordSpec)

/-- ITS FALSE NEIGHBOUR: 'it returns false'. Refute it at one input. -/
def hashOneWordWrong : ChangeSpec := { name := "hashOneWord", fn := fun _ => fun
  | [d1, d2, d3, d4] => { results := [.lit (.bool false)], args := [d1, d2, d3, d4] }
  | _ => none }
def HashOneWordWrongFalsely : Prop := hashOneWordRow.holds Try.pinned (OpenSpec.ofChange hashOneWordWrong)

/-- 'priorartlaw01.HashOneGroup': WHATEVER THE INPUT: true; the input reads as it did. -/
def hashOneGroupSpec : ChangeSpec := { name := "hashOneGroup", fn := fun _ => fun
  | [d1, d2, d3, d4, d5] => { results := [.lit (.bool true)], args := [d1, d2, d3, d4, d5] }
  | _ => none }
def hashOneGroupRow : OpenClaim := { program := "ythodfbkngdnihaa", sum := "e16cb50936d9a2a94a9e940ed7bdf964e387ad0c51149fefcabb5cc4c9206f27", func := "priorart/priorartlaw01.HashOneGroup", spec := "hashOneGroup", unfollowed := true, recurses := true, apart := false }
def HashOneGroupSaid : Prop := hashOneGroupRow.holds Try.pinned (OpenSpec.ofChange hashOneGroupSpec)

/-- ITS FALSE NEIGHBOUR: 'it returns false'. Refute it at one input. -/
def hashOneGroupWrong : ChangeSpec := { name := "hashOneGroup", fn := fun _ => fun
  | [d1, d2, d3, d4, d5] => { results := [.lit (.bool false)], args := [d1, d2, d3, d4, d5] }
  | _ => none }
def HashOneGroupWrongFalsely : Prop := hashOneGroupRow.holds Try.pinned (OpenSpec.ofChange hashOneGroupWrong)

/-- 'priorartlaw01.HashOneLabel': WHATEVER THE INPUT: true; the input reads as it did. -/
def hashOneLabelSpec : ChangeSpec := { name := "hashOneLabel", fn := fun _ => fun
  | [d1, d2, d3, d4] => { results := [.lit (.bool true)], args := [d1, d2, d3, d4] }
  | _ => none }
def hashOneLabelRow : OpenClaim := { program := "ythodfbkngdnihaa", sum := "e16cb50936d9a2a94a9e940ed7bdf964e387ad0c51149fefcabb5cc4c9206f27", func := "priorart/priorartlaw01.HashOneLabel", spec := "hashOneLabel", unfollowed := true, recurses := true, apart := false }
def HashOneLabelSaid : Prop := hashOneLabelRow.holds Try.pinned (OpenSpec.ofChange hashOneLabelSpec)

/-- ITS FALSE NEIGHBOUR: 'it returns false'. Refute it at one input. -/
def hashOneLabelWrong : ChangeSpec := { name := "hashOneLabel", fn := fun _ => fun
  | [d1, d2, d3, d4] => { results := [.lit (.bool false)], args := [d1, d2, d3, d4] }
  | _ => none }
def HashOneLabelWrongFalsely : Prop := hashOneLabelRow.holds Try.pinned (OpenSpec.ofChange hashOneLabelWrong)

/-- 'priorartlaw01.HashGroups': WHATEVER THE INPUT: true; the input reads as it did. -/
def hashGroupsSpec : ChangeSpec := { name := "hashGroups", fn := fun _ => fun
  | [d1, d2] => { results := [.lit (.bool true)], args := [d1, d2] }
  | _ => none }
def hashGroupsRow : OpenClaim := { program := "ythodfbkngdnihaa", sum := "e16cb50936d9a2a94a9e940ed7bdf964e387ad0c51149fefcabb5cc4c9206f27", func := "priorart/priorartlaw01.HashGroups", spec := "hashGroups", unfollowed := true, recurses := true, apart := false }
def HashGroupsSaid : Prop := hashGroupsRow.holds Try.pinned (OpenSpec.ofChange hashGroupsSpec)

/-- ITS FALSE NEIGHBOUR: 'it returns false'. Refute it at one input. -/
def hashGroupsWrong : ChangeSpec := { name := "hashGroups", fn := fun _ => fun
  | [d1, d2] => { results := [.lit (.bool false)], args := [d1, d2] }
  | _ => none }
def HashGroupsWrongFalsely : Prop := hashGroupsRow.holds Try.pinned (OpenSpec.ofChange hashGroupsWrong)

/-- 'priorartlaw01.HashPairs': WHATEVER THE INPUT: true; the input reads as it did. -/
def hashPairsSpec : ChangeSpec := { name := "hashPairs", fn := fun _ => fun
  | [d1, d2, d3] => { results := [.lit (.bool true)], args := [d1, d2, d3] }
  | _ => none }
def hashPairsRow : OpenClaim := { program := "ythodfbkngdnihaa", sum := "e16cb50936d9a2a94a9e940ed7bdf964e387ad0c51149fefcabb5cc4c9206f27", func := "priorart/priorartlaw01.HashPairs", spec := "hashPairs", unfollowed := true, recurses := true, apart := false }
def HashPairsSaid : Prop := hashPairsRow.holds Try.pinned (OpenSpec.ofChange hashPairsSpec)

/-- ITS FALSE NEIGHBOUR: 'it returns false'. Refute it at one input. -/
def hashPairsWrong : ChangeSpec := { name := "hashPairs", fn := fun _ => fun
  | [d1, d2, d3] => { results := [.lit (.bool false)], args := [d1, d2, d3] }
  | _ => none }
def HashPairsWrongFalsely : Prop := hashPairsRow.holds Try.pinned (OpenSpec.ofChange hashPairsWrong)

/-- 'priorartlaw01.HashArguments': WHATEVER THE INPUT: true; the input reads as it did. -/
def hashArgumentsSpec : ChangeSpec := { name := "hashArguments", fn := fun _ => fun
  | [d1, d2] => { results := [.lit (.bool true)], args := [d1, d2] }
  | _ => none }
def hashArgumentsRow : OpenClaim := { program := "ythodfbkngdnihaa", sum := "e16cb50936d9a2a94a9e940ed7bdf964e387ad0c51149fefcabb5cc4c9206f27", func := "priorart/priorartlaw01.HashArguments", spec := "hashArguments", unfollowed := true, recurses := true, apart := false }
def HashArgumentsSaid : Prop := hashArgumentsRow.holds Try.pinned (OpenSpec.ofChange hashArgumentsSpec)

/-- ITS FALSE NEIGHBOUR: 'it returns false'. Refute it at one input. -/
def hashArgumentsWrong : ChangeSpec := { name := "hashArguments", fn := fun _ => fun
  | [d1, d2] => { results := [.lit (.bool false)], args := [d1, d2] }
  | _ => none }
def HashArgumentsWrongFalsely : Prop := hashArgumentsRow.holds Try.pinned (OpenSpec.ofChange hashArgumentsWrong)

/- THE SECOND FORM. 'bulk': how many values and letters a reading holds, each counted each time it is reached (what is shared counts as often as it is met; a slice's spare places count too). A statement '..UptoSaid' is the law's where the arguments, and the package variables that the reading takes, are together of bulk at most 1048576: NARROWER than '..Said'. Prove '..Said' where nothing that the law and all that it calls make is longer than what came in: it says more and counts as full. Else prove '..UptoSaid'. A law counts once. -/
mutual
def uptoBulk {H : Type} : DataW H → Nat
  | .lit (.string bytes) => bytes.length + 1
  | .lit _ => 1
  | .nil => 1
  | .ptr d => uptoBulk d + 1
  | .slice elems spare => uptoBulkAll elems + uptoBulkAll spare + 1
  | .agg parts => uptoBulkAll parts + 1
  | .iface _ d => uptoBulk d + 1
  | .map entries => uptoBulkEntries entries + 1
  | .held _ => 1
def uptoBulkAll {H : Type} : List (DataW H) → Nat
  | [] => 0
  | d :: r => uptoBulk d + uptoBulkAll r
def uptoBulkEntries {H : Type} : List (Lit × DataW H) → Nat
  | [] => 0
  | x :: r => uptoBulkEntry x + uptoBulkEntries r
def uptoBulkEntry {H : Type} : Lit × DataW H → Nat
  | (.string bytes, d) => bytes.length + uptoBulk d + 1
  | (_, d) => uptoBulk d + 1
 end
def uptoSmall : (H : Type) → List (DataW H) → Bool := fun _ ds => decide (uptoBulkAll ds ≤ 1048576)
def OpenSpec.upto (s : _root_.Go.ChangeSpec) : _root_.Go.OpenSpec := { _root_.Go.OpenSpec.ofChange s with cond := some uptoSmall }

/-- 'priorartlaw01.HashSum', WHERE WHAT IT READS IS OF BULK AT MOST 1048576: true; the input reads as it did. -/
def hashSumUptoRow : OpenClaim := { program := "ythodfbkngdnihaa", sum := "e16cb50936d9a2a94a9e940ed7bdf964e387ad0c51149fefcabb5cc4c9206f27", func := "priorart/priorartlaw01.HashSum", spec := "hashSum", unfollowed := true, recurses := true, apart := false, narrowed := true }
def HashSumUptoSaid : Prop := hashSumUptoRow.holds Try.pinned (OpenSpec.upto hashSumSpec)

/-- 'priorartlaw01.HashBytes', WHERE WHAT IT READS IS OF BULK AT MOST 1048576: true; the input reads as it did. -/
def hashBytesUptoRow : OpenClaim := { program := "ythodfbkngdnihaa", sum := "e16cb50936d9a2a94a9e940ed7bdf964e387ad0c51149fefcabb5cc4c9206f27", func := "priorart/priorartlaw01.HashBytes", spec := "hashBytes", unfollowed := true, recurses := true, apart := false, narrowed := true }
def HashBytesUptoSaid : Prop := hashBytesUptoRow.holds Try.pinned (OpenSpec.upto hashBytesSpec)

/-- 'priorartlaw01.HashOneWord', WHERE WHAT IT READS IS OF BULK AT MOST 1048576: true; the input reads as it did. -/
def hashOneWordUptoRow : OpenClaim := { program := "ythodfbkngdnihaa", sum := "e16cb50936d9a2a94a9e940ed7bdf964e387ad0c51149fefcabb5cc4c9206f27", func := "priorart/priorartlaw01.HashOneWord", spec := "hashOneWord", unfollowed := true, recurses := true, apart := false, narrowed := true }
def HashOneWordUptoSaid : Prop := hashOneWordUptoRow.holds Try.pinned (OpenSpec.upto hashOneWordSpec)

/-- 'priorartlaw01.HashOneGroup', WHERE WHAT IT READS IS OF BULK AT MOST 1048576: true; the input reads as it did. -/
def hashOneGroupUptoRow : OpenClaim := { program := "ythodfbkngdnihaa", sum := "e16cb50936d9a2a94a9e940ed7bdf964e387ad0c51149fefcabb5cc4c9206f27", func := "priorart/priorartlaw01.HashOneGroup", spec := "hashOneGroup", unfollowed := true, recurses := true, apart := false, narrowed := true }
def HashOneGroupUptoSaid : Prop := hashOneGroupUptoRow.holds Try.pinned (OpenSpec.upto hashOneGroupSpec)

/-- 'priorartlaw01.HashOneLabel', WHERE WHAT IT READS IS OF BULK AT MOST 1048576: true; the input reads as it did. -/
def hashOneLabelUptoRow : OpenClaim := { program := "ythodfbkngdnihaa", sum := "e16cb50936d9a2a94a9e940ed7bdf964e387ad0c51149fefcabb5cc4c9206f27", func := "priorart/priorartlaw01.HashOneLabel", spec := "hashOneLabel", unfollowed := true, recurses := true, apart := false, narrowed := true }
def HashOneLabelUptoSaid : Prop := hashOneLabelUptoRow.holds Try.pinned (OpenSpec.upto hashOneLabelSpec)

/-- 'priorartlaw01.HashGroups', WHERE WHAT IT READS IS OF BULK AT MOST 1048576: true; the input reads as it did. -/
def hashGroupsUptoRow : OpenClaim := { program := "ythodfbkngdnihaa", sum := "e16cb50936d9a2a94a9e940ed7bdf964e387ad0c51149fefcabb5cc4c9206f27", func := "priorart/priorartlaw01.HashGroups", spec := "hashGroups", unfollowed := true, recurses := true, apart := false, narrowed := true }
def HashGroupsUptoSaid : Prop := hashGroupsUptoRow.holds Try.pinned (OpenSpec.upto hashGroupsSpec)

/-- 'priorartlaw01.HashPairs', WHERE WHAT IT READS IS OF BULK AT MOST 1048576: true; the input reads as it did. -/
def hashPairsUptoRow : OpenClaim := { program := "ythodfbkngdnihaa", sum := "e16cb50936d9a2a94a9e940ed7bdf964e387ad0c51149fefcabb5cc4c9206f27", func := "priorart/priorartlaw01.HashPairs", spec := "hashPairs", unfollowed := true, recurses := true, apart := false, narrowed := true }
def HashPairsUptoSaid : Prop := hashPairsUptoRow.holds Try.pinned (OpenSpec.upto hashPairsSpec)

/-- 'priorartlaw01.HashArguments', WHERE WHAT IT READS IS OF BULK AT MOST 1048576: true; the input reads as it did. -/
def hashArgumentsUptoRow : OpenClaim := { program := "ythodfbkngdnihaa", sum := "e16cb50936d9a2a94a9e940ed7bdf964e387ad0c51149fefcabb5cc4c9206f27", func := "priorart/priorartlaw01.HashArguments", spec := "hashArguments", unfollowed := true, recurses := true, apart := false, narrowed := true }
def HashArgumentsUptoSaid : Prop := hashArgumentsUptoRow.holds Try.pinned (OpenSpec.upto hashArgumentsSpec)

end Rows
end Go.Proofs.Ythodfbkngdnihaa
