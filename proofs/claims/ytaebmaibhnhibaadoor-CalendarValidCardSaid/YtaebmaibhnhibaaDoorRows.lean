/-
  NARROWER THAN 'FOR EVERY INPUT', by the rows' own cells (each row's printed sentence says how): CalendarOpen: laid · CalendarNext: laid · CalendarClosures: laid · CalendarSteps: laid · CalendarValid: laid · CalendarCount: laid · CalendarWeeks: laid.
  DERIVED. THE GIVEN ROWS OF THIS SEAT. 7 by the template 'for every input the law returns true; each argument reads behind the call as it read before'; 0 by the template 'total and deterministic' (their statements: YtaebmaibhnhibaaDoorTotals.lean).
  GIVEN WITH THE SEED: the statements are not yours to turn. If you find one false, say at which input.
  Laid BY PROGRAM, IN A SANDBOX (cutbox-rows.mjs): the forced cells as the released guide's own fill.sh prints them over the translation 440658eaaaa806d6… (all of the seat's roots in one cut). By AI agents, Wed Nov 11 2026. No macro, syntax, notation, axiom, sorry.
-/
import Derived.Test.YtaebmaibhnhibaaDoorChecked
import GoSem.Claim
import GoSem.ClaimJoined
import GoSem.ClaimMapViews
import Derived.JoinedTies
import Derived.KernelRfl
namespace Go.Proofs.YtaebmaibhnhibaaDoor
/- THE CELL 'sum', in the pinned program and in every row, IS THE sha256 OF THE DUMP (.gsa) THAT YtaebmaibhnhibaaDoorProg.lean LOADS. Nothing in Lean hashes anything: it is a label: what it is worth is what the hold of that sum in a sandbox is worth. -/
noncomputable def Tryd.pinned : Pinned := { name := "ytaebmaibhnhibaadoor", sum := "440658eaaaa806d689d1706c88fc615f54fd66709064d24f8727b92f372a559a", checked := Tryd.checked }
namespace Rows
def none {H : Type} : Left H := { results := [], args := [] }

/- WHAT THE LISTED PACKAGE-LEVEL VARIABLES READ AS WHEN THE CALL BEGINS. Each datum BY PROGRAM (the guide's laid-datum.mjs) off the statement by which the dump's own 'gosem.cut.vars' lays the variable. In a bare row this is a premise. The card (YtaebmaibhnhibaaDoorCards.lean) ties it to the program's text. -/
def laid_priorart_civil_lengths {H : Type} : DataW H := .agg [.lit (.int .i64 31), .lit (.int .i64 28), .lit (.int .i64 31), .lit (.int .i64 30), .lit (.int .i64 31), .lit (.int .i64 30), .lit (.int .i64 31), .lit (.int .i64 31), .lit (.int .i64 30), .lit (.int .i64 31), .lit (.int .i64 30), .lit (.int .i64 31)]

/-- 'priorartlaw14.CalendarOpen': WHATEVER THE INPUT: true; the input reads as it did. -/
def calendarOpenSpec : ChangeSpec := { name := "calendarOpen", fn := fun _ => fun
  | [d1, d2, d3, d4, d5] => { results := [.lit (.bool true)], args := [d1, d2, d3, d4, d5] }
  | _ => none }
def calendarOpenRow : OpenClaim := { program := "ytaebmaibhnhibaadoor", sum := "440658eaaaa806d689d1706c88fc615f54fd66709064d24f8727b92f372a559a", func := "priorart/priorartlaw14.CalendarOpen", spec := "calendarOpen", unfollowed := true, recurses := true, named := ["priorart/civil.lengths"], apart := false, laid := [("priorart/civil.lengths", laid_priorart_civil_lengths)] }
def CalendarOpenSaid : Prop := calendarOpenRow.holds Tryd.pinned (OpenSpec.ofChange calendarOpenSpec)

/-- ITS FALSE NEIGHBOUR: 'it returns false'. Refute it at one input. -/
def calendarOpenWrong : ChangeSpec := { name := "calendarOpen", fn := fun _ => fun
  | [d1, d2, d3, d4, d5] => { results := [.lit (.bool false)], args := [d1, d2, d3, d4, d5] }
  | _ => none }
def CalendarOpenWrongFalsely : Prop := calendarOpenRow.holds Tryd.pinned (OpenSpec.ofChange calendarOpenWrong)

/-- 'priorartlaw14.CalendarNext': WHATEVER THE INPUT: true; the input reads as it did. -/
def calendarNextSpec : ChangeSpec := { name := "calendarNext", fn := fun _ => fun
  | [d1, d2, d3, d4, d5] => { results := [.lit (.bool true)], args := [d1, d2, d3, d4, d5] }
  | _ => none }
def calendarNextRow : OpenClaim := { program := "ytaebmaibhnhibaadoor", sum := "440658eaaaa806d689d1706c88fc615f54fd66709064d24f8727b92f372a559a", func := "priorart/priorartlaw14.CalendarNext", spec := "calendarNext", unfollowed := true, recurses := true, named := ["priorart/civil.lengths"], apart := false, laid := [("priorart/civil.lengths", laid_priorart_civil_lengths)] }
def CalendarNextSaid : Prop := calendarNextRow.holds Tryd.pinned (OpenSpec.ofChange calendarNextSpec)

/-- ITS FALSE NEIGHBOUR: 'it returns false'. Refute it at one input. -/
def calendarNextWrong : ChangeSpec := { name := "calendarNext", fn := fun _ => fun
  | [d1, d2, d3, d4, d5] => { results := [.lit (.bool false)], args := [d1, d2, d3, d4, d5] }
  | _ => none }
def CalendarNextWrongFalsely : Prop := calendarNextRow.holds Tryd.pinned (OpenSpec.ofChange calendarNextWrong)

/-- 'priorartlaw14.CalendarClosures': WHATEVER THE INPUT: true; the input reads as it did. -/
def calendarClosuresSpec : ChangeSpec := { name := "calendarClosures", fn := fun _ => fun
  | [d1, d2, d3, d4] => { results := [.lit (.bool true)], args := [d1, d2, d3, d4] }
  | _ => none }
def calendarClosuresRow : OpenClaim := { program := "ytaebmaibhnhibaadoor", sum := "440658eaaaa806d689d1706c88fc615f54fd66709064d24f8727b92f372a559a", func := "priorart/priorartlaw14.CalendarClosures", spec := "calendarClosures", unfollowed := true, recurses := true, named := ["priorart/civil.lengths"], apart := false, laid := [("priorart/civil.lengths", laid_priorart_civil_lengths)] }
def CalendarClosuresSaid : Prop := calendarClosuresRow.holds Tryd.pinned (OpenSpec.ofChange calendarClosuresSpec)

/-- ITS FALSE NEIGHBOUR: 'it returns false'. Refute it at one input. -/
def calendarClosuresWrong : ChangeSpec := { name := "calendarClosures", fn := fun _ => fun
  | [d1, d2, d3, d4] => { results := [.lit (.bool false)], args := [d1, d2, d3, d4] }
  | _ => none }
def CalendarClosuresWrongFalsely : Prop := calendarClosuresRow.holds Tryd.pinned (OpenSpec.ofChange calendarClosuresWrong)

/-- 'priorartlaw14.CalendarSteps': WHATEVER THE INPUT: true; the input reads as it did. -/
def calendarStepsSpec : ChangeSpec := { name := "calendarSteps", fn := fun _ => fun
  | [d1, d2, d3] => { results := [.lit (.bool true)], args := [d1, d2, d3] }
  | _ => none }
def calendarStepsRow : OpenClaim := { program := "ytaebmaibhnhibaadoor", sum := "440658eaaaa806d689d1706c88fc615f54fd66709064d24f8727b92f372a559a", func := "priorart/priorartlaw14.CalendarSteps", spec := "calendarSteps", unfollowed := true, recurses := true, named := ["priorart/civil.lengths"], apart := false, laid := [("priorart/civil.lengths", laid_priorart_civil_lengths)] }
def CalendarStepsSaid : Prop := calendarStepsRow.holds Tryd.pinned (OpenSpec.ofChange calendarStepsSpec)

/-- ITS FALSE NEIGHBOUR: 'it returns false'. Refute it at one input. -/
def calendarStepsWrong : ChangeSpec := { name := "calendarSteps", fn := fun _ => fun
  | [d1, d2, d3] => { results := [.lit (.bool false)], args := [d1, d2, d3] }
  | _ => none }
def CalendarStepsWrongFalsely : Prop := calendarStepsRow.holds Tryd.pinned (OpenSpec.ofChange calendarStepsWrong)

/-- 'priorartlaw14.CalendarValid': WHATEVER THE INPUT: true; the input reads as it did. -/
def calendarValidSpec : ChangeSpec := { name := "calendarValid", fn := fun _ => fun
  | [d1, d2, d3, d4, d5, d6, d7] => { results := [.lit (.bool true)], args := [d1, d2, d3, d4, d5, d6, d7] }
  | _ => none }
def calendarValidRow : OpenClaim := { program := "ytaebmaibhnhibaadoor", sum := "440658eaaaa806d689d1706c88fc615f54fd66709064d24f8727b92f372a559a", func := "priorart/priorartlaw14.CalendarValid", spec := "calendarValid", unfollowed := true, recurses := true, named := ["priorart/civil.lengths"], apart := false, laid := [("priorart/civil.lengths", laid_priorart_civil_lengths)] }
def CalendarValidSaid : Prop := calendarValidRow.holds Tryd.pinned (OpenSpec.ofChange calendarValidSpec)

/-- ITS FALSE NEIGHBOUR: 'it returns false'. Refute it at one input. -/
def calendarValidWrong : ChangeSpec := { name := "calendarValid", fn := fun _ => fun
  | [d1, d2, d3, d4, d5, d6, d7] => { results := [.lit (.bool false)], args := [d1, d2, d3, d4, d5, d6, d7] }
  | _ => none }
def CalendarValidWrongFalsely : Prop := calendarValidRow.holds Tryd.pinned (OpenSpec.ofChange calendarValidWrong)

/-- 'priorartlaw14.CalendarCount': WHATEVER THE INPUT: true; the input reads as it did. -/
def calendarCountSpec : ChangeSpec := { name := "calendarCount", fn := fun _ => fun
  | [d1, d2, d3, d4, d5, d6] => { results := [.lit (.bool true)], args := [d1, d2, d3, d4, d5, d6] }
  | _ => none }
def calendarCountRow : OpenClaim := { program := "ytaebmaibhnhibaadoor", sum := "440658eaaaa806d689d1706c88fc615f54fd66709064d24f8727b92f372a559a", func := "priorart/priorartlaw14.CalendarCount", spec := "calendarCount", unfollowed := true, recurses := true, named := ["priorart/civil.lengths"], apart := false, laid := [("priorart/civil.lengths", laid_priorart_civil_lengths)] }
def CalendarCountSaid : Prop := calendarCountRow.holds Tryd.pinned (OpenSpec.ofChange calendarCountSpec)

/-- ITS FALSE NEIGHBOUR: 'it returns false'. Refute it at one input. -/
def calendarCountWrong : ChangeSpec := { name := "calendarCount", fn := fun _ => fun
  | [d1, d2, d3, d4, d5, d6] => { results := [.lit (.bool false)], args := [d1, d2, d3, d4, d5, d6] }
  | _ => none }
def CalendarCountWrongFalsely : Prop := calendarCountRow.holds Tryd.pinned (OpenSpec.ofChange calendarCountWrong)

/-- 'priorartlaw14.CalendarWeeks': WHATEVER THE INPUT: true; the input reads as it did. -/
def calendarWeeksSpec : ChangeSpec := { name := "calendarWeeks", fn := fun _ => fun
  | [d1, d2, d3] => { results := [.lit (.bool true)], args := [d1, d2, d3] }
  | _ => none }
def calendarWeeksRow : OpenClaim := { program := "ytaebmaibhnhibaadoor", sum := "440658eaaaa806d689d1706c88fc615f54fd66709064d24f8727b92f372a559a", func := "priorart/priorartlaw14.CalendarWeeks", spec := "calendarWeeks", unfollowed := true, recurses := true, named := ["priorart/civil.lengths"], apart := false, laid := [("priorart/civil.lengths", laid_priorart_civil_lengths)] }
def CalendarWeeksSaid : Prop := calendarWeeksRow.holds Tryd.pinned (OpenSpec.ofChange calendarWeeksSpec)

/-- ITS FALSE NEIGHBOUR: 'it returns false'. Refute it at one input. -/
def calendarWeeksWrong : ChangeSpec := { name := "calendarWeeks", fn := fun _ => fun
  | [d1, d2, d3] => { results := [.lit (.bool false)], args := [d1, d2, d3] }
  | _ => none }
def CalendarWeeksWrongFalsely : Prop := calendarWeeksRow.holds Tryd.pinned (OpenSpec.ofChange calendarWeeksWrong)

/- THE SECOND FORM. 'bulk': how many values and letters a reading holds, each counted each time it is reached (what is shared counts as often as it is met; a slice's spare places count too). A statement '..UptoSaid' is the law's where the arguments, and the package variables that the reading takes, are together of bulk at most 1048576: NARROWER than '..Said'. Prove '..Said' where nothing that the law and all that it calls make is longer than what came in: it says more and counts as full. Else prove '..UptoSaid'. A law counts once. -/
mutual
def uptoBulk {H : Type} : DataW H → Nat
  | .lit (.string bytes) => bytes.length + 1
  | .lit _ => 1
  | .nil => 1
  | .ptr d => uptoBulk d + 1
  | .slice elems spare => uptoBulkAll elems + uptoBulkAll spare + 1
  | .agg parts => uptoBulkAll parts + 1
  | .iface _ d => uptoBulk d + 1
  | .map entries => uptoBulkEntries entries + 1
  | .held _ => 1
def uptoBulkAll {H : Type} : List (DataW H) → Nat
  | [] => 0
  | d :: r => uptoBulk d + uptoBulkAll r
def uptoBulkEntries {H : Type} : List (Lit × DataW H) → Nat
  | [] => 0
  | x :: r => uptoBulkEntry x + uptoBulkEntries r
def uptoBulkEntry {H : Type} : Lit × DataW H → Nat
  | (.string bytes, d) => bytes.length + uptoBulk d + 1
  | (_, d) => uptoBulk d + 1
 end
def uptoSmall : (H : Type) → List (DataW H) → Bool := fun _ ds => decide (uptoBulkAll ds ≤ 1048576)
def OpenSpec.upto (s : _root_.Go.ChangeSpec) : _root_.Go.OpenSpec := { _root_.Go.OpenSpec.ofChange s with cond := some uptoSmall }

/-- 'priorartlaw14.CalendarOpen', WHERE WHAT IT READS IS OF BULK AT MOST 1048576: true; the input reads as it did. -/
def calendarOpenUptoRow : OpenClaim := { program := "ytaebmaibhnhibaadoor", sum := "440658eaaaa806d689d1706c88fc615f54fd66709064d24f8727b92f372a559a", func := "priorart/priorartlaw14.CalendarOpen", spec := "calendarOpen", unfollowed := true, recurses := true, named := ["priorart/civil.lengths"], apart := false, laid := [("priorart/civil.lengths", laid_priorart_civil_lengths)], narrowed := true }
def CalendarOpenUptoSaid : Prop := calendarOpenUptoRow.holds Tryd.pinned (OpenSpec.upto calendarOpenSpec)

/-- 'priorartlaw14.CalendarNext', WHERE WHAT IT READS IS OF BULK AT MOST 1048576: true; the input reads as it did. -/
def calendarNextUptoRow : OpenClaim := { program := "ytaebmaibhnhibaadoor", sum := "440658eaaaa806d689d1706c88fc615f54fd66709064d24f8727b92f372a559a", func := "priorart/priorartlaw14.CalendarNext", spec := "calendarNext", unfollowed := true, recurses := true, named := ["priorart/civil.lengths"], apart := false, laid := [("priorart/civil.lengths", laid_priorart_civil_lengths)], narrowed := true }
def CalendarNextUptoSaid : Prop := calendarNextUptoRow.holds Tryd.pinned (OpenSpec.upto calendarNextSpec)

/-- 'priorartlaw14.CalendarClosures', WHERE WHAT IT READS IS OF BULK AT MOST 1048576: true; the input reads as it did. -/
def calendarClosuresUptoRow : OpenClaim := { program := "ytaebmaibhnhibaadoor", sum := "440658eaaaa806d689d1706c88fc615f54fd66709064d24f8727b92f372a559a", func := "priorart/priorartlaw14.CalendarClosures", spec := "calendarClosures", unfollowed := true, recurses := true, named := ["priorart/civil.lengths"], apart := false, laid := [("priorart/civil.lengths", laid_priorart_civil_lengths)], narrowed := true }
def CalendarClosuresUptoSaid : Prop := calendarClosuresUptoRow.holds Tryd.pinned (OpenSpec.upto calendarClosuresSpec)

/-- 'priorartlaw14.CalendarSteps', WHERE WHAT IT READS IS OF BULK AT MOST 1048576: true; the input reads as it did. -/
def calendarStepsUptoRow : OpenClaim := { program := "ytaebmaibhnhibaadoor", sum := "440658eaaaa806d689d1706c88fc615f54fd66709064d24f8727b92f372a559a", func := "priorart/priorartlaw14.CalendarSteps", spec := "calendarSteps", unfollowed := true, recurses := true, named := ["priorart/civil.lengths"], apart := false, laid := [("priorart/civil.lengths", laid_priorart_civil_lengths)], narrowed := true }
def CalendarStepsUptoSaid : Prop := calendarStepsUptoRow.holds Tryd.pinned (OpenSpec.upto calendarStepsSpec)

/-- 'priorartlaw14.CalendarValid', WHERE WHAT IT READS IS OF BULK AT MOST 1048576: true; the input reads as it did. -/
def calendarValidUptoRow : OpenClaim := { program := "ytaebmaibhnhibaadoor", sum := "440658eaaaa806d689d1706c88fc615f54fd66709064d24f8727b92f372a559a", func := "priorart/priorartlaw14.CalendarValid", spec := "calendarValid", unfollowed := true, recurses := true, named := ["priorart/civil.lengths"], apart := false, laid := [("priorart/civil.lengths", laid_priorart_civil_lengths)], narrowed := true }
def CalendarValidUptoSaid : Prop := calendarValidUptoRow.holds Tryd.pinned (OpenSpec.upto calendarValidSpec)

/-- 'priorartlaw14.CalendarCount', WHERE WHAT IT READS IS OF BULK AT MOST 1048576: true; the input reads as it did. -/
def calendarCountUptoRow : OpenClaim := { program := "ytaebmaibhnhibaadoor", sum := "440658eaaaa806d689d1706c88fc615f54fd66709064d24f8727b92f372a559a", func := "priorart/priorartlaw14.CalendarCount", spec := "calendarCount", unfollowed := true, recurses := true, named := ["priorart/civil.lengths"], apart := false, laid := [("priorart/civil.lengths", laid_priorart_civil_lengths)], narrowed := true }
def CalendarCountUptoSaid : Prop := calendarCountUptoRow.holds Tryd.pinned (OpenSpec.upto calendarCountSpec)

/-- 'priorartlaw14.CalendarWeeks', WHERE WHAT IT READS IS OF BULK AT MOST 1048576: true; the input reads as it did. -/
def calendarWeeksUptoRow : OpenClaim := { program := "ytaebmaibhnhibaadoor", sum := "440658eaaaa806d689d1706c88fc615f54fd66709064d24f8727b92f372a559a", func := "priorart/priorartlaw14.CalendarWeeks", spec := "calendarWeeks", unfollowed := true, recurses := true, named := ["priorart/civil.lengths"], apart := false, laid := [("priorart/civil.lengths", laid_priorart_civil_lengths)], narrowed := true }
def CalendarWeeksUptoSaid : Prop := calendarWeeksUptoRow.holds Tryd.pinned (OpenSpec.upto calendarWeeksSpec)

end Rows
end Go.Proofs.YtaebmaibhnhibaaDoor
