/-
  No cell of these rows narrows 'for every input' (looked for: loops, veiled, ifaces, maps, wideKeys, modest, calm, conditions, laid).
  DERIVED. THE GIVEN ROWS OF THIS SEAT. 6 by the template 'for every input the law returns true; each argument reads behind the call as it read before'; 0 by the template 'total and deterministic' (their statements: YthcbnjmmeejcjaaTotals.lean).
  GIVEN WITH THE SEED: the statements are not yours to turn. If you find one false, say at which input.
  Laid BY PROGRAM, IN A SANDBOX (cutbox-rows.mjs): the forced cells as the released guide's own fill.sh prints them over the translation 289271fc282b56f3… (all of the seat's roots in one cut). By AI agents, Wed Nov 11 2026. No macro, syntax, notation, axiom, sorry.
-/
import Derived.Test.YthcbnjmmeejcjaaChecked
import GoSem.Claim
import GoSem.ClaimJoined
import GoSem.ClaimMapViews
import Derived.JoinedTies
import Derived.KernelRfl
namespace Go.Proofs.Ythcbnjmmeejcjaa
/- THE CELL 'sum', in the pinned program and in every row, IS THE sha256 OF THE DUMP (.gsa) THAT YthcbnjmmeejcjaaProg.lean LOADS. Nothing in Lean hashes anything: it is a label: what it is worth is what the hold of that sum in a sandbox is worth. -/
noncomputable def Try.pinned : Pinned := { name := "ythcbnjmmeejcjaa", sum := "289271fc282b56f353bd3b3f875cc37dd522fda1dc7a6377edda2f275814bebd", checked := Try.checked }
namespace Rows
def none {H : Type} : Left H := { results := [], args := [] }

/-- 'priorartlaw32.LogtreeProofs': WHATEVER THE INPUT: true; the input reads as it did. -/
def logtreeProofsSpec : ChangeSpec := { name := "logtreeProofs", fn := fun _ => fun
  | [d1, d2, d3] => { results := [.lit (.bool true)], args := [d1, d2, d3] }
  | _ => none }
def logtreeProofsRow : OpenClaim := { program := "ythcbnjmmeejcjaa", sum := "289271fc282b56f353bd3b3f875cc37dd522fda1dc7a6377edda2f275814bebd", func := "priorart/priorartlaw32.LogtreeProofs", spec := "logtreeProofs", unfollowed := true, recurses := true, plainKeys := false, apart := false }
def LogtreeProofsSaid : Prop := logtreeProofsRow.holds Try.pinned (OpenSpec.ofChange logtreeProofsSpec)

/-- ITS FALSE NEIGHBOUR: 'it returns false'. Refute it at one input. -/
def logtreeProofsWrong : ChangeSpec := { name := "logtreeProofs", fn := fun _ => fun
  | [d1, d2, d3] => { results := [.lit (.bool false)], args := [d1, d2, d3] }
  | _ => none }
def LogtreeProofsWrongFalsely : Prop := logtreeProofsRow.holds Try.pinned (OpenSpec.ofChange logtreeProofsWrong)

/-- 'priorartlaw32.LogtreeJoined': WHATEVER THE INPUT: true; the input reads as it did. -/
def logtreeJoinedSpec : ChangeSpec := { name := "logtreeJoined", fn := fun _ => fun
  | [d1, d2, d3, d4] => { results := [.lit (.bool true)], args := [d1, d2, d3, d4] }
  | _ => none }
def logtreeJoinedRow : OpenClaim := { program := "ythcbnjmmeejcjaa", sum := "289271fc282b56f353bd3b3f875cc37dd522fda1dc7a6377edda2f275814bebd", func := "priorart/priorartlaw32.LogtreeJoined", spec := "logtreeJoined", unfollowed := true, recurses := true, plainKeys := false, apart := false }
def LogtreeJoinedSaid : Prop := logtreeJoinedRow.holds Try.pinned (OpenSpec.ofChange logtreeJoinedSpec)

/-- ITS FALSE NEIGHBOUR: 'it returns false'. Refute it at one input. -/
def logtreeJoinedWrong : ChangeSpec := { name := "logtreeJoined", fn := fun _ => fun
  | [d1, d2, d3, d4] => { results := [.lit (.bool false)], args := [d1, d2, d3, d4] }
  | _ => none }
def LogtreeJoinedWrongFalsely : Prop := logtreeJoinedRow.holds Try.pinned (OpenSpec.ofChange logtreeJoinedWrong)

/-- 'priorartlaw32.LogtreeRoots': WHATEVER THE INPUT: true; the input reads as it did. -/
def logtreeRootsSpec : ChangeSpec := { name := "logtreeRoots", fn := fun _ => fun
  | [d1, d2] => { results := [.lit (.bool true)], args := [d1, d2] }
  | _ => none }
def logtreeRootsRow : OpenClaim := { program := "ythcbnjmmeejcjaa", sum := "289271fc282b56f353bd3b3f875cc37dd522fda1dc7a6377edda2f275814bebd", func := "priorart/priorartlaw32.LogtreeRoots", spec := "logtreeRoots", unfollowed := true, recurses := true, plainKeys := false, apart := false }
def LogtreeRootsSaid : Prop := logtreeRootsRow.holds Try.pinned (OpenSpec.ofChange logtreeRootsSpec)

/-- ITS FALSE NEIGHBOUR: 'it returns false'. Refute it at one input. -/
def logtreeRootsWrong : ChangeSpec := { name := "logtreeRoots", fn := fun _ => fun
  | [d1, d2] => { results := [.lit (.bool false)], args := [d1, d2] }
  | _ => none }
def LogtreeRootsWrongFalsely : Prop := logtreeRootsRow.holds Try.pinned (OpenSpec.ofChange logtreeRootsWrong)

/-- 'priorartlaw32.LogtreeChecks': WHATEVER THE INPUT: true; the input reads as it did. -/
def logtreeChecksSpec : ChangeSpec := { name := "logtreeChecks", fn := fun _ => fun
  | [d1, d2, d3, d4, d5, d6] => { results := [.lit (.bool true)], args := [d1, d2, d3, d4, d5, d6] }
  | _ => none }
def logtreeChecksRow : OpenClaim := { program := "ythcbnjmmeejcjaa", sum := "289271fc282b56f353bd3b3f875cc37dd522fda1dc7a6377edda2f275814bebd", func := "priorart/priorartlaw32.LogtreeChecks", spec := "logtreeChecks", unfollowed := true, recurses := true, plainKeys := false, apart := false }
def LogtreeChecksSaid : Prop := logtreeChecksRow.holds Try.pinned (OpenSpec.ofChange logtreeChecksSpec)

/-- ITS FALSE NEIGHBOUR: 'it returns false'. Refute it at one input. -/
def logtreeChecksWrong : ChangeSpec := { name := "logtreeChecks", fn := fun _ => fun
  | [d1, d2, d3, d4, d5, d6] => { results := [.lit (.bool false)], args := [d1, d2, d3, d4, d5, d6] }
  | _ => none }
def LogtreeChecksWrongFalsely : Prop := logtreeChecksRow.holds Try.pinned (OpenSpec.ofChange logtreeChecksWrong)

/-- 'priorartlaw32.LogtreeSound': WHATEVER THE INPUT: true; the input reads as it did. -/
def logtreeSoundSpec : ChangeSpec := { name := "logtreeSound", fn := fun _ => fun
  | [d1, d2, d3, d4, d5] => { results := [.lit (.bool true)], args := [d1, d2, d3, d4, d5] }
  | _ => none }
def logtreeSoundRow : OpenClaim := { program := "ythcbnjmmeejcjaa", sum := "289271fc282b56f353bd3b3f875cc37dd522fda1dc7a6377edda2f275814bebd", func := "priorart/priorartlaw32.LogtreeSound", spec := "logtreeSound", unfollowed := true, recurses := true, plainKeys := false, apart := false }
def LogtreeSoundSaid : Prop := logtreeSoundRow.holds Try.pinned (OpenSpec.ofChange logtreeSoundSpec)

/-- ITS FALSE NEIGHBOUR: 'it returns false'. Refute it at one input. -/
def logtreeSoundWrong : ChangeSpec := { name := "logtreeSound", fn := fun _ => fun
  | [d1, d2, d3, d4, d5] => { results := [.lit (.bool false)], args := [d1, d2, d3, d4, d5] }
  | _ => none }
def LogtreeSoundWrongFalsely : Prop := logtreeSoundRow.holds Try.pinned (OpenSpec.ofChange logtreeSoundWrong)

/-- 'priorartlaw32.LogtreeComplete': WHATEVER THE INPUT: true; the input reads as it did. -/
def logtreeCompleteSpec : ChangeSpec := { name := "logtreeComplete", fn := fun _ => fun
  | [d1, d2] => { results := [.lit (.bool true)], args := [d1, d2] }
  | _ => none }
def logtreeCompleteRow : OpenClaim := { program := "ythcbnjmmeejcjaa", sum := "289271fc282b56f353bd3b3f875cc37dd522fda1dc7a6377edda2f275814bebd", func := "priorart/priorartlaw32.LogtreeComplete", spec := "logtreeComplete", unfollowed := true, recurses := true, plainKeys := false, apart := false }
def LogtreeCompleteSaid : Prop := logtreeCompleteRow.holds Try.pinned (OpenSpec.ofChange logtreeCompleteSpec)

/-- ITS FALSE NEIGHBOUR: 'it returns false'. Refute it at one input. -/
def logtreeCompleteWrong : ChangeSpec := { name := "logtreeComplete", fn := fun _ => fun
  | [d1, d2] => { results := [.lit (.bool false)], args := [d1, d2] }
  | _ => none }
def LogtreeCompleteWrongFalsely : Prop := logtreeCompleteRow.holds Try.pinned (OpenSpec.ofChange logtreeCompleteWrong)

/- THE SECOND FORM. 'bulk': how many values and letters a reading holds, each counted each time it is reached (what is shared counts as often as it is met; a slice's spare places count too). A statement '..UptoSaid' is the law's where the arguments, and the package variables that the reading takes, are together of bulk at most 1048576: NARROWER than '..Said'. Prove '..Said' where nothing that the law and all that it calls make is longer than what came in: it says more and counts as full. Else prove '..UptoSaid'. A law counts once. -/
mutual
def uptoBulk {H : Type} : DataW H → Nat
  | .lit (.string bytes) => bytes.length + 1
  | .lit _ => 1
  | .nil => 1
  | .ptr d => uptoBulk d + 1
  | .slice elems spare => uptoBulkAll elems + uptoBulkAll spare + 1
  | .agg parts => uptoBulkAll parts + 1
  | .iface _ d => uptoBulk d + 1
  | .map entries => uptoBulkEntries entries + 1
  | .held _ => 1
def uptoBulkAll {H : Type} : List (DataW H) → Nat
  | [] => 0
  | d :: r => uptoBulk d + uptoBulkAll r
def uptoBulkEntries {H : Type} : List (Lit × DataW H) → Nat
  | [] => 0
  | x :: r => uptoBulkEntry x + uptoBulkEntries r
def uptoBulkEntry {H : Type} : Lit × DataW H → Nat
  | (.string bytes, d) => bytes.length + uptoBulk d + 1
  | (_, d) => uptoBulk d + 1
 end
def uptoSmall : (H : Type) → List (DataW H) → Bool := fun _ ds => decide (uptoBulkAll ds ≤ 1048576)
def OpenSpec.upto (s : _root_.Go.ChangeSpec) : _root_.Go.OpenSpec := { _root_.Go.OpenSpec.ofChange s with cond := some uptoSmall }

/-- 'priorartlaw32.LogtreeProofs', WHERE WHAT IT READS IS OF BULK AT MOST 1048576: true; the input reads as it did. -/
def logtreeProofsUptoRow : OpenClaim := { program := "ythcbnjmmeejcjaa", sum := "289271fc282b56f353bd3b3f875cc37dd522fda1dc7a6377edda2f275814bebd", func := "priorart/priorartlaw32.LogtreeProofs", spec := "logtreeProofs", unfollowed := true, recurses := true, plainKeys := false, apart := false, narrowed := true }
def LogtreeProofsUptoSaid : Prop := logtreeProofsUptoRow.holds Try.pinned (OpenSpec.upto logtreeProofsSpec)

/-- 'priorartlaw32.LogtreeJoined', WHERE WHAT IT READS IS OF BULK AT MOST 1048576: true; the input reads as it did. -/
def logtreeJoinedUptoRow : OpenClaim := { program := "ythcbnjmmeejcjaa", sum := "289271fc282b56f353bd3b3f875cc37dd522fda1dc7a6377edda2f275814bebd", func := "priorart/priorartlaw32.LogtreeJoined", spec := "logtreeJoined", unfollowed := true, recurses := true, plainKeys := false, apart := false, narrowed := true }
def LogtreeJoinedUptoSaid : Prop := logtreeJoinedUptoRow.holds Try.pinned (OpenSpec.upto logtreeJoinedSpec)

/-- 'priorartlaw32.LogtreeRoots', WHERE WHAT IT READS IS OF BULK AT MOST 1048576: true; the input reads as it did. -/
def logtreeRootsUptoRow : OpenClaim := { program := "ythcbnjmmeejcjaa", sum := "289271fc282b56f353bd3b3f875cc37dd522fda1dc7a6377edda2f275814bebd", func := "priorart/priorartlaw32.LogtreeRoots", spec := "logtreeRoots", unfollowed := true, recurses := true, plainKeys := false, apart := false, narrowed := true }
def LogtreeRootsUptoSaid : Prop := logtreeRootsUptoRow.holds Try.pinned (OpenSpec.upto logtreeRootsSpec)

/-- 'priorartlaw32.LogtreeChecks', WHERE WHAT IT READS IS OF BULK AT MOST 1048576: true; the input reads as it did. -/
def logtreeChecksUptoRow : OpenClaim := { program := "ythcbnjmmeejcjaa", sum := "289271fc282b56f353bd3b3f875cc37dd522fda1dc7a6377edda2f275814bebd", func := "priorart/priorartlaw32.LogtreeChecks", spec := "logtreeChecks", unfollowed := true, recurses := true, plainKeys := false, apart := false, narrowed := true }
def LogtreeChecksUptoSaid : Prop := logtreeChecksUptoRow.holds Try.pinned (OpenSpec.upto logtreeChecksSpec)

/-- 'priorartlaw32.LogtreeSound', WHERE WHAT IT READS IS OF BULK AT MOST 1048576: true; the input reads as it did. -/
def logtreeSoundUptoRow : OpenClaim := { program := "ythcbnjmmeejcjaa", sum := "289271fc282b56f353bd3b3f875cc37dd522fda1dc7a6377edda2f275814bebd", func := "priorart/priorartlaw32.LogtreeSound", spec := "logtreeSound", unfollowed := true, recurses := true, plainKeys := false, apart := false, narrowed := true }
def LogtreeSoundUptoSaid : Prop := logtreeSoundUptoRow.holds Try.pinned (OpenSpec.upto logtreeSoundSpec)

/-- 'priorartlaw32.LogtreeComplete', WHERE WHAT IT READS IS OF BULK AT MOST 1048576: true; the input reads as it did. -/
def logtreeCompleteUptoRow : OpenClaim := { program := "ythcbnjmmeejcjaa", sum := "289271fc282b56f353bd3b3f875cc37dd522fda1dc7a6377edda2f275814bebd", func := "priorart/priorartlaw32.LogtreeComplete", spec := "logtreeComplete", unfollowed := true, recurses := true, plainKeys := false, apart := false, narrowed := true }
def LogtreeCompleteUptoSaid : Prop := logtreeCompleteUptoRow.holds Try.pinned (OpenSpec.upto logtreeCompleteSpec)

end Rows
end Go.Proofs.Ythcbnjmmeejcjaa
