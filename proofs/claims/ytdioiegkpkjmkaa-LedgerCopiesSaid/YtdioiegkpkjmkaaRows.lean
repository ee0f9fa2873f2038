/-
  No cell of these rows narrows 'for every input' (looked for: loops, veiled, ifaces, maps, wideKeys, modest, calm, conditions, laid).
  DERIVED. THE GIVEN ROWS OF THIS SEAT. 7 by the template 'for every input the law returns true; each argument reads behind the call as it read before'; 0 by the template 'total and deterministic' (their statements: YtdioiegkpkjmkaaTotals.lean).
  GIVEN WITH THE SEED: the statements are not yours to turn. If you find one false, say at which input.
  Laid BY PROGRAM, IN A SANDBOX (cutbox-rows.mjs): the forced cells as the released guide's own fill.sh prints them over the translation 1c81d0e82f115966… (all of the seat's roots in one cut). By AI agents, Wed Nov 11 2026. No macro, syntax, notation, axiom, sorry.
-/
import Derived.Test.YtdioiegkpkjmkaaChecked
import GoSem.Claim
import GoSem.ClaimJoined
import GoSem.ClaimMapViews
import Derived.JoinedTies
import Derived.KernelRfl
namespace Go.Proofs.Ytdioiegkpkjmkaa
/- THE CELL 'sum', in the pinned program and in every row, IS THE sha256 OF THE DUMP (.gsa) THAT YtdioiegkpkjmkaaProg.lean LOADS. Nothing in Lean hashes anything: it is a label: what it is worth is what the hold of that sum in a sandbox is worth. -/
noncomputable def Try.pinned : Pinned := { name := "ytdioiegkpkjmkaa", sum := "1c81d0e82f1159665189097f4f1acbce5c5e15d9b5ba849e5a6dc036ba4b8a11", checked := Try.checked }
namespace Rows
def none {H : Type} : Left H := { results := [], args := [] }

/-- 'priorartlaw16.LedgerEnough': WHATEVER THE INPUT: true; the input reads as it did. -/
def ledgerEnoughSpec : ChangeSpec := { name := "ledgerEnough", fn := fun _ => fun
  | [d1, d2] => { results := [.lit (.bool true)], args := [d1, d2] }
  | _ => none }
def ledgerEnoughRow : OpenClaim := { program := "ytdioiegkpkjmkaa", sum := "1c81d0e82f1159665189097f4f1acbce5c5e15d9b5ba849e5a6dc036ba4b8a11", func := "priorart/priorartlaw16.LedgerEnough", spec := "ledgerEnough", unfollowed := true, recurses := true, plainKeys := false, apart := false }
def LedgerEnoughSaid : Prop := ledgerEnoughRow.holds Try.pinned (OpenSpec.ofChange ledgerEnoughSpec)

/-- ITS FALSE NEIGHBOUR: 'it returns false'. Refute it at one input. -/
def ledgerEnoughWrong : ChangeSpec := { name := "ledgerEnough", fn := fun _ => fun
  | [d1, d2] => { results := [.lit (.bool false)], args := [d1, d2] }
  | _ => none }
def LedgerEnoughWrongFalsely : Prop := ledgerEnoughRow.holds Try.pinned (OpenSpec.ofChange ledgerEnoughWrong)

/-- 'priorartlaw16.LedgerLate': WHATEVER THE INPUT: true; the input reads as it did. -/
def ledgerLateSpec : ChangeSpec := { name := "ledgerLate", fn := fun _ => fun
  | [d1, d2, d3] => { results := [.lit (.bool true)], args := [d1, d2, d3] }
  | _ => none }
def ledgerLateRow : OpenClaim := { program := "ytdioiegkpkjmkaa", sum := "1c81d0e82f1159665189097f4f1acbce5c5e15d9b5ba849e5a6dc036ba4b8a11", func := "priorart/priorartlaw16.LedgerLate", spec := "ledgerLate", inPlace := ["maps.clone"], unfollowed := true, recurses := true, plainKeys := false, apart := false }
def LedgerLateSaid : Prop := ledgerLateRow.holds Try.pinned (OpenSpec.ofChange ledgerLateSpec)

/-- ITS FALSE NEIGHBOUR: 'it returns false'. Refute it at one input. -/
def ledgerLateWrong : ChangeSpec := { name := "ledgerLate", fn := fun _ => fun
  | [d1, d2, d3] => { results := [.lit (.bool false)], args := [d1, d2, d3] }
  | _ => none }
def LedgerLateWrongFalsely : Prop := ledgerLateRow.holds Try.pinned (OpenSpec.ofChange ledgerLateWrong)

/-- 'priorartlaw16.LedgerZero': WHATEVER THE INPUT: true; the input reads as it did. -/
def ledgerZeroSpec : ChangeSpec := { name := "ledgerZero", fn := fun _ => fun
  | [d] => { results := [.lit (.bool true)], args := [d] }
  | _ => none }
def ledgerZeroRow : OpenClaim := { program := "ytdioiegkpkjmkaa", sum := "1c81d0e82f1159665189097f4f1acbce5c5e15d9b5ba849e5a6dc036ba4b8a11", func := "priorart/priorartlaw16.LedgerZero", spec := "ledgerZero", unfollowed := true, recurses := true, plainKeys := false, apart := false }
def LedgerZeroSaid : Prop := ledgerZeroRow.holds Try.pinned (OpenSpec.ofChange ledgerZeroSpec)

/-- ITS FALSE NEIGHBOUR: 'it returns false'. Refute it at one input. -/
def ledgerZeroWrong : ChangeSpec := { name := "ledgerZero", fn := fun _ => fun
  | [d] => { results := [.lit (.bool false)], args := [d] }
  | _ => none }
def LedgerZeroWrongFalsely : Prop := ledgerZeroRow.holds Try.pinned (OpenSpec.ofChange ledgerZeroWrong)

/-- 'priorartlaw16.LedgerArguments': WHATEVER THE INPUT: true; the input reads as it did. -/
def ledgerArgumentsSpec : ChangeSpec := { name := "ledgerArguments", fn := fun _ => fun
  | [d1, d2, d3, d4, d5, d6, d7] => { results := [.lit (.bool true)], args := [d1, d2, d3, d4, d5, d6, d7] }
  | _ => none }
def ledgerArgumentsRow : OpenClaim := { program := "ytdioiegkpkjmkaa", sum := "1c81d0e82f1159665189097f4f1acbce5c5e15d9b5ba849e5a6dc036ba4b8a11", func := "priorart/priorartlaw16.LedgerArguments", spec := "ledgerArguments", unfollowed := true, recurses := true, plainKeys := false, apart := false }
def LedgerArgumentsSaid : Prop := ledgerArgumentsRow.holds Try.pinned (OpenSpec.ofChange ledgerArgumentsSpec)

/-- ITS FALSE NEIGHBOUR: 'it returns false'. Refute it at one input. -/
def ledgerArgumentsWrong : ChangeSpec := { name := "ledgerArguments", fn := fun _ => fun
  | [d1, d2, d3, d4, d5, d6, d7] => { results := [.lit (.bool false)], args := [d1, d2, d3, d4, d5, d6, d7] }
  | _ => none }
def LedgerArgumentsWrongFalsely : Prop := ledgerArgumentsRow.holds Try.pinned (OpenSpec.ofChange ledgerArgumentsWrong)

/-- 'priorartlaw16.LedgerRuns': WHATEVER THE INPUT: true; the input reads as it did. -/
def ledgerRunsSpec : ChangeSpec := { name := "ledgerRuns", fn := fun _ => fun
  | [d1, d2] => { results := [.lit (.bool true)], args := [d1, d2] }
  | _ => none }
def ledgerRunsRow : OpenClaim := { program := "ytdioiegkpkjmkaa", sum := "1c81d0e82f1159665189097f4f1acbce5c5e15d9b5ba849e5a6dc036ba4b8a11", func := "priorart/priorartlaw16.LedgerRuns", spec := "ledgerRuns", unfollowed := true, recurses := true, plainKeys := false, apart := false }
def LedgerRunsSaid : Prop := ledgerRunsRow.holds Try.pinned (OpenSpec.ofChange ledgerRunsSpec)

/-- ITS FALSE NEIGHBOUR: 'it returns false'. Refute it at one input. -/
def ledgerRunsWrong : ChangeSpec := { name := "ledgerRuns", fn := fun _ => fun
  | [d1, d2] => { results := [.lit (.bool false)], args := [d1, d2] }
  | _ => none }
def LedgerRunsWrongFalsely : Prop := ledgerRunsRow.holds Try.pinned (OpenSpec.ofChange ledgerRunsWrong)

/-- 'priorartlaw16.LedgerVoids': WHATEVER THE INPUT: true; the input reads as it did. -/
def ledgerVoidsSpec : ChangeSpec := { name := "ledgerVoids", fn := fun _ => fun
  | [d1, d2, d3] => { results := [.lit (.bool true)], args := [d1, d2, d3] }
  | _ => none }
def ledgerVoidsRow : OpenClaim := { program := "ytdioiegkpkjmkaa", sum := "1c81d0e82f1159665189097f4f1acbce5c5e15d9b5ba849e5a6dc036ba4b8a11", func := "priorart/priorartlaw16.LedgerVoids", spec := "ledgerVoids", inPlace := ["maps.clone"], unfollowed := true, recurses := true, plainKeys := false, apart := false }
def LedgerVoidsSaid : Prop := ledgerVoidsRow.holds Try.pinned (OpenSpec.ofChange ledgerVoidsSpec)

/-- ITS FALSE NEIGHBOUR: 'it returns false'. Refute it at one input. -/
def ledgerVoidsWrong : ChangeSpec := { name := "ledgerVoids", fn := fun _ => fun
  | [d1, d2, d3] => { results := [.lit (.bool false)], args := [d1, d2, d3] }
  | _ => none }
def LedgerVoidsWrongFalsely : Prop := ledgerVoidsRow.holds Try.pinned (OpenSpec.ofChange ledgerVoidsWrong)

/-- 'priorartlaw16.LedgerCopies': WHATEVER THE INPUT: true; the input reads as it did. -/
def ledgerCopiesSpec : ChangeSpec := { name := "ledgerCopies", fn := fun _ => fun
  | [d1, d2, d3] => { results := [.lit (.bool true)], args := [d1, d2, d3] }
  | _ => none }
def ledgerCopiesRow : OpenClaim := { program := "ytdioiegkpkjmkaa", sum := "1c81d0e82f1159665189097f4f1acbce5c5e15d9b5ba849e5a6dc036ba4b8a11", func := "priorart/priorartlaw16.LedgerCopies", spec := "ledgerCopies", inPlace := ["maps.clone"], unfollowed := true, recurses := true, plainKeys := false, apart := false }
def LedgerCopiesSaid : Prop := ledgerCopiesRow.holds Try.pinned (OpenSpec.ofChange ledgerCopiesSpec)

/-- ITS FALSE NEIGHBOUR: 'it returns false'. Refute it at one input. -/
def ledgerCopiesWrong : ChangeSpec := { name := "ledgerCopies", fn := fun _ => fun
  | [d1, d2, d3] => { results := [.lit (.bool false)], args := [d1, d2, d3] }
  | _ => none }
def LedgerCopiesWrongFalsely : Prop := ledgerCopiesRow.holds Try.pinned (OpenSpec.ofChange ledgerCopiesWrong)

/- THE SECOND FORM. 'bulk': how many values and letters a reading holds, each counted each time it is reached (what is shared counts as often as it is met; a slice's spare places count too). A statement '..UptoSaid' is the law's where the arguments, and the package variables that the reading takes, are together of bulk at most 1048576: NARROWER than '..Said'. Prove '..Said' where nothing that the law and all that it calls make is longer than what came in: it says more and counts as full. Else prove '..UptoSaid'. A law counts once. -/
mutual
def uptoBulk {H : Type} : DataW H → Nat
  | .lit (.string bytes) => bytes.length + 1
  | .lit _ => 1
  | .nil => 1
  | .ptr d => uptoBulk d + 1
  | .slice elems spare => uptoBulkAll elems + uptoBulkAll spare + 1
  | .agg parts => uptoBulkAll parts + 1
  | .iface _ d => uptoBulk d + 1
  | .map entries => uptoBulkEntries entries + 1
  | .held _ => 1
def uptoBulkAll {H : Type} : List (DataW H) → Nat
  | [] => 0
  | d :: r => uptoBulk d + uptoBulkAll r
def uptoBulkEntries {H : Type} : List (Lit × DataW H) → Nat
  | [] => 0
  | x :: r => uptoBulkEntry x + uptoBulkEntries r
def uptoBulkEntry {H : Type} : Lit × DataW H → Nat
  | (.string bytes, d) => bytes.length + uptoBulk d + 1
  | (_, d) => uptoBulk d + 1
 end
def uptoSmall : (H : Type) → List (DataW H) → Bool := fun _ ds => decide (uptoBulkAll ds ≤ 1048576)
def OpenSpec.upto (s : _root_.Go.ChangeSpec) : _root_.Go.OpenSpec := { _root_.Go.OpenSpec.ofChange s with cond := some uptoSmall }

/-- 'priorartlaw16.LedgerEnough', WHERE WHAT IT READS IS OF BULK AT MOST 1048576: true; the input reads as it did. -/
def ledgerEnoughUptoRow : OpenClaim := { program := "ytdioiegkpkjmkaa", sum := "1c81d0e82f1159665189097f4f1acbce5c5e15d9b5ba849e5a6dc036ba4b8a11", func := "priorart/priorartlaw16.LedgerEnough", spec := "ledgerEnough", unfollowed := true, recurses := true, plainKeys := false, apart := false, narrowed := true }
def LedgerEnoughUptoSaid : Prop := ledgerEnoughUptoRow.holds Try.pinned (OpenSpec.upto ledgerEnoughSpec)

/-- 'priorartlaw16.LedgerLate', WHERE WHAT IT READS IS OF BULK AT MOST 1048576: true; the input reads as it did. -/
def ledgerLateUptoRow : OpenClaim := { program := "ytdioiegkpkjmkaa", sum := "1c81d0e82f1159665189097f4f1acbce5c5e15d9b5ba849e5a6dc036ba4b8a11", func := "priorart/priorartlaw16.LedgerLate", spec := "ledgerLate", inPlace := ["maps.clone"], unfollowed := true, recurses := true, plainKeys := false, apart := false, narrowed := true }
def LedgerLateUptoSaid : Prop := ledgerLateUptoRow.holds Try.pinned (OpenSpec.upto ledgerLateSpec)

/-- 'priorartlaw16.LedgerZero', WHERE WHAT IT READS IS OF BULK AT MOST 1048576: true; the input reads as it did. -/
def ledgerZeroUptoRow : OpenClaim := { program := "ytdioiegkpkjmkaa", sum := "1c81d0e82f1159665189097f4f1acbce5c5e15d9b5ba849e5a6dc036ba4b8a11", func := "priorart/priorartlaw16.LedgerZero", spec := "ledgerZero", unfollowed := true, recurses := true, plainKeys := false, apart := false, narrowed := true }
def LedgerZeroUptoSaid : Prop := ledgerZeroUptoRow.holds Try.pinned (OpenSpec.upto ledgerZeroSpec)

/-- 'priorartlaw16.LedgerArguments', WHERE WHAT IT READS IS OF BULK AT MOST 1048576: true; the input reads as it did. -/
def ledgerArgumentsUptoRow : OpenClaim := { program := "ytdioiegkpkjmkaa", sum := "1c81d0e82f1159665189097f4f1acbce5c5e15d9b5ba849e5a6dc036ba4b8a11", func := "priorart/priorartlaw16.LedgerArguments", spec := "ledgerArguments", unfollowed := true, recurses := true, plainKeys := false, apart := false, narrowed := true }
def LedgerArgumentsUptoSaid : Prop := ledgerArgumentsUptoRow.holds Try.pinned (OpenSpec.upto ledgerArgumentsSpec)

/-- 'priorartlaw16.LedgerRuns', WHERE WHAT IT READS IS OF BULK AT MOST 1048576: true; the input reads as it did. -/
def ledgerRunsUptoRow : OpenClaim := { program := "ytdioiegkpkjmkaa", sum := "1c81d0e82f1159665189097f4f1acbce5c5e15d9b5ba849e5a6dc036ba4b8a11", func := "priorart/priorartlaw16.LedgerRuns", spec := "ledgerRuns", unfollowed := true, recurses := true, plainKeys := false, apart := false, narrowed := true }
def LedgerRunsUptoSaid : Prop := ledgerRunsUptoRow.holds Try.pinned (OpenSpec.upto ledgerRunsSpec)

/-- 'priorartlaw16.LedgerVoids', WHERE WHAT IT READS IS OF BULK AT MOST 1048576: true; the input reads as it did. -/
def ledgerVoidsUptoRow : OpenClaim := { program := "ytdioiegkpkjmkaa", sum := "1c81d0e82f1159665189097f4f1acbce5c5e15d9b5ba849e5a6dc036ba4b8a11", func := "priorart/priorartlaw16.LedgerVoids", spec := "ledgerVoids", inPlace := ["maps.clone"], unfollowed := true, recurses := true, plainKeys := false, apart := false, narrowed := true }
def LedgerVoidsUptoSaid : Prop := ledgerVoidsUptoRow.holds Try.pinned (OpenSpec.upto ledgerVoidsSpec)

/-- 'priorartlaw16.LedgerCopies', WHERE WHAT IT READS IS OF BULK AT MOST 1048576: true; the input reads as it did. -/
def ledgerCopiesUptoRow : OpenClaim := { program := "ytdioiegkpkjmkaa", sum := "1c81d0e82f1159665189097f4f1acbce5c5e15d9b5ba849e5a6dc036ba4b8a11", func := "priorart/priorartlaw16.LedgerCopies", spec := "ledgerCopies", inPlace := ["maps.clone"], unfollowed := true, recurses := true, plainKeys := false, apart := false, narrowed := true }
def LedgerCopiesUptoSaid : Prop := ledgerCopiesUptoRow.holds Try.pinned (OpenSpec.upto ledgerCopiesSpec)

end Rows
end Go.Proofs.Ytdioiegkpkjmkaa
