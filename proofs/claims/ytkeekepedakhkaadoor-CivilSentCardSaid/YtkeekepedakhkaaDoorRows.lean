/-
  NARROWER THAN 'FOR EVERY INPUT', by the rows' own cells (each row's printed sentence says how): CivilDates: laid · CivilAdd: laid · CivilMonths: laid · CivilYears: laid · CivilBack: laid · CivilTexts: laid · CivilSent: laid.
  DERIVED. THE GIVEN ROWS OF THIS SEAT. 7 by the template 'for every input the law returns true; each argument reads behind the call as it read before'; 0 by the template 'total and deterministic' (their statements: YtkeekepedakhkaaDoorTotals.lean).
  GIVEN WITH THE SEED: the statements are not yours to turn. If you find one false, say at which input.
  Laid BY PROGRAM, IN A SANDBOX (cutbox-rows.mjs): the forced cells as the released guide's own fill.sh prints them over the translation e9eba7a3f676c5ec… (all of the seat's roots in one cut). By AI agents, Wed Nov 11 2026. No macro, syntax, notation, axiom, sorry.
-/
import Derived.Test.YtkeekepedakhkaaDoorChecked
import GoSem.Claim
import GoSem.ClaimJoined
import GoSem.ClaimMapViews
import Derived.JoinedTies
import Derived.KernelRfl
namespace Go.Proofs.YtkeekepedakhkaaDoor
/- THE CELL 'sum', in the pinned program and in every row, IS THE sha256 OF THE DUMP (.gsa) THAT YtkeekepedakhkaaDoorProg.lean LOADS. Nothing in Lean hashes anything: it is a label: what it is worth is what the hold of that sum in a sandbox is worth. -/
noncomputable def Tryd.pinned : Pinned := { name := "ytkeekepedakhkaadoor", sum := "e9eba7a3f676c5ecc8a11a38f3e1c9dec92ee856cb71fb4ffd1223d8106ac016", checked := Tryd.checked }
namespace Rows
def none {H : Type} : Left H := { results := [], args := [] }

/- WHAT THE LISTED PACKAGE-LEVEL VARIABLES READ AS WHEN THE CALL BEGINS. Each datum BY PROGRAM (the guide's laid-datum.mjs) off the statement by which the dump's own 'gosem.cut.vars' lays the variable. In a bare row this is a premise. The card (YtkeekepedakhkaaDoorCards.lean) ties it to the program's text. -/
def laid_priorart_civil_lengths {H : Type} : DataW H := .agg [.lit (.int .i64 31), .lit (.int .i64 28), .lit (.int .i64 31), .lit (.int .i64 30), .lit (.int .i64 31), .lit (.int .i64 30), .lit (.int .i64 31), .lit (.int .i64 31), .lit (.int .i64 30), .lit (.int .i64 31), .lit (.int .i64 30), .lit (.int .i64 31)]

/-- 'priorartlaw13.CivilDates': WHATEVER THE INPUT: true; the input reads as it did. -/
def civilDatesSpec : ChangeSpec := { name := "civilDates", fn := fun _ => fun
  | [d1, d2, d3, d4, d5] => { results := [.lit (.bool true)], args := [d1, d2, d3, d4, d5] }
  | _ => none }
def civilDatesRow : OpenClaim := { program := "ytkeekepedakhkaadoor", sum := "e9eba7a3f676c5ecc8a11a38f3e1c9dec92ee856cb71fb4ffd1223d8106ac016", func := "priorart/priorartlaw13.CivilDates", spec := "civilDates", unfollowed := true, recurses := true, named := ["priorart/civil.lengths"], apart := false, laid := [("priorart/civil.lengths", laid_priorart_civil_lengths)] }
def CivilDatesSaid : Prop := civilDatesRow.holds Tryd.pinned (OpenSpec.ofChange civilDatesSpec)

/-- ITS FALSE NEIGHBOUR: 'it returns false'. Refute it at one input. -/
def civilDatesWrong : ChangeSpec := { name := "civilDates", fn := fun _ => fun
  | [d1, d2, d3, d4, d5] => { results := [.lit (.bool false)], args := [d1, d2, d3, d4, d5] }
  | _ => none }
def CivilDatesWrongFalsely : Prop := civilDatesRow.holds Tryd.pinned (OpenSpec.ofChange civilDatesWrong)

/-- 'priorartlaw13.CivilAdd': WHATEVER THE INPUT: true; the input reads as it did. -/
def civilAddSpec : ChangeSpec := { name := "civilAdd", fn := fun _ => fun
  | [d1, d2, d3] => { results := [.lit (.bool true)], args := [d1, d2, d3] }
  | _ => none }
def civilAddRow : OpenClaim := { program := "ytkeekepedakhkaadoor", sum := "e9eba7a3f676c5ecc8a11a38f3e1c9dec92ee856cb71fb4ffd1223d8106ac016", func := "priorart/priorartlaw13.CivilAdd", spec := "civilAdd", unfollowed := true, recurses := true, named := ["priorart/civil.lengths"], apart := false, laid := [("priorart/civil.lengths", laid_priorart_civil_lengths)] }
def CivilAddSaid : Prop := civilAddRow.holds Tryd.pinned (OpenSpec.ofChange civilAddSpec)

/-- ITS FALSE NEIGHBOUR: 'it returns false'. Refute it at one input. -/
def civilAddWrong : ChangeSpec := { name := "civilAdd", fn := fun _ => fun
  | [d1, d2, d3] => { results := [.lit (.bool false)], args := [d1, d2, d3] }
  | _ => none }
def CivilAddWrongFalsely : Prop := civilAddRow.holds Tryd.pinned (OpenSpec.ofChange civilAddWrong)

/-- 'priorartlaw13.CivilMonths': WHATEVER THE INPUT: true; the input reads as it did. -/
def civilMonthsSpec : ChangeSpec := { name := "civilMonths", fn := fun _ => fun
  | [d1, d2, d3] => { results := [.lit (.bool true)], args := [d1, d2, d3] }
  | _ => none }
def civilMonthsRow : OpenClaim := { program := "ytkeekepedakhkaadoor", sum := "e9eba7a3f676c5ecc8a11a38f3e1c9dec92ee856cb71fb4ffd1223d8106ac016", func := "priorart/priorartlaw13.CivilMonths", spec := "civilMonths", unfollowed := true, recurses := true, named := ["priorart/civil.lengths"], apart := false, laid := [("priorart/civil.lengths", laid_priorart_civil_lengths)] }
def CivilMonthsSaid : Prop := civilMonthsRow.holds Tryd.pinned (OpenSpec.ofChange civilMonthsSpec)

/-- ITS FALSE NEIGHBOUR: 'it returns false'. Refute it at one input. -/
def civilMonthsWrong : ChangeSpec := { name := "civilMonths", fn := fun _ => fun
  | [d1, d2, d3] => { results := [.lit (.bool false)], args := [d1, d2, d3] }
  | _ => none }
def CivilMonthsWrongFalsely : Prop := civilMonthsRow.holds Tryd.pinned (OpenSpec.ofChange civilMonthsWrong)

/-- 'priorartlaw13.CivilYears': WHATEVER THE INPUT: true; the input reads as it did. -/
def civilYearsSpec : ChangeSpec := { name := "civilYears", fn := fun _ => fun
  | [d1, d2] => { results := [.lit (.bool true)], args := [d1, d2] }
  | _ => none }
def civilYearsRow : OpenClaim := { program := "ytkeekepedakhkaadoor", sum := "e9eba7a3f676c5ecc8a11a38f3e1c9dec92ee856cb71fb4ffd1223d8106ac016", func := "priorart/priorartlaw13.CivilYears", spec := "civilYears", unfollowed := true, recurses := true, named := ["priorart/civil.lengths"], apart := false, laid := [("priorart/civil.lengths", laid_priorart_civil_lengths)] }
def CivilYearsSaid : Prop := civilYearsRow.holds Tryd.pinned (OpenSpec.ofChange civilYearsSpec)

/-- ITS FALSE NEIGHBOUR: 'it returns false'. Refute it at one input. -/
def civilYearsWrong : ChangeSpec := { name := "civilYears", fn := fun _ => fun
  | [d1, d2] => { results := [.lit (.bool false)], args := [d1, d2] }
  | _ => none }
def CivilYearsWrongFalsely : Prop := civilYearsRow.holds Tryd.pinned (OpenSpec.ofChange civilYearsWrong)

/-- 'priorartlaw13.CivilBack': WHATEVER THE INPUT: true; the input reads as it did. -/
def civilBackSpec : ChangeSpec := { name := "civilBack", fn := fun _ => fun
  | [d1, d2] => { results := [.lit (.bool true)], args := [d1, d2] }
  | _ => none }
def civilBackRow : OpenClaim := { program := "ytkeekepedakhkaadoor", sum := "e9eba7a3f676c5ecc8a11a38f3e1c9dec92ee856cb71fb4ffd1223d8106ac016", func := "priorart/priorartlaw13.CivilBack", spec := "civilBack", unfollowed := true, recurses := true, named := ["priorart/civil.lengths"], apart := false, laid := [("priorart/civil.lengths", laid_priorart_civil_lengths)] }
def CivilBackSaid : Prop := civilBackRow.holds Tryd.pinned (OpenSpec.ofChange civilBackSpec)

/-- ITS FALSE NEIGHBOUR: 'it returns false'. Refute it at one input. -/
def civilBackWrong : ChangeSpec := { name := "civilBack", fn := fun _ => fun
  | [d1, d2] => { results := [.lit (.bool false)], args := [d1, d2] }
  | _ => none }
def CivilBackWrongFalsely : Prop := civilBackRow.holds Tryd.pinned (OpenSpec.ofChange civilBackWrong)

/-- 'priorartlaw13.CivilTexts': WHATEVER THE INPUT: true; the input reads as it did. -/
def civilTextsSpec : ChangeSpec := { name := "civilTexts", fn := fun _ => fun
  | [d1, d2, d3, d4] => { results := [.lit (.bool true)], args := [d1, d2, d3, d4] }
  | _ => none }
def civilTextsRow : OpenClaim := { program := "ytkeekepedakhkaadoor", sum := "e9eba7a3f676c5ecc8a11a38f3e1c9dec92ee856cb71fb4ffd1223d8106ac016", func := "priorart/priorartlaw13.CivilTexts", spec := "civilTexts", unfollowed := true, recurses := true, named := ["priorart/civil.lengths"], apart := false, laid := [("priorart/civil.lengths", laid_priorart_civil_lengths)] }
def CivilTextsSaid : Prop := civilTextsRow.holds Tryd.pinned (OpenSpec.ofChange civilTextsSpec)

/-- ITS FALSE NEIGHBOUR: 'it returns false'. Refute it at one input. -/
def civilTextsWrong : ChangeSpec := { name := "civilTexts", fn := fun _ => fun
  | [d1, d2, d3, d4] => { results := [.lit (.bool false)], args := [d1, d2, d3, d4] }
  | _ => none }
def CivilTextsWrongFalsely : Prop := civilTextsRow.holds Tryd.pinned (OpenSpec.ofChange civilTextsWrong)

/-- 'priorartlaw13.CivilSent': WHATEVER THE INPUT: true; the input reads as it did. -/
def civilSentSpec : ChangeSpec := { name := "civilSent", fn := fun _ => fun
  | [d1, d2, d3] => { results := [.lit (.bool true)], args := [d1, d2, d3] }
  | _ => none }
def civilSentRow : OpenClaim := { program := "ytkeekepedakhkaadoor", sum := "e9eba7a3f676c5ecc8a11a38f3e1c9dec92ee856cb71fb4ffd1223d8106ac016", func := "priorart/priorartlaw13.CivilSent", spec := "civilSent", unfollowed := true, recurses := true, named := ["priorart/civil.lengths"], apart := false, laid := [("priorart/civil.lengths", laid_priorart_civil_lengths)] }
def CivilSentSaid : Prop := civilSentRow.holds Tryd.pinned (OpenSpec.ofChange civilSentSpec)

/-- ITS FALSE NEIGHBOUR: 'it returns false'. Refute it at one input. -/
def civilSentWrong : ChangeSpec := { name := "civilSent", fn := fun _ => fun
  | [d1, d2, d3] => { results := [.lit (.bool false)], args := [d1, d2, d3] }
  | _ => none }
def CivilSentWrongFalsely : Prop := civilSentRow.holds Tryd.pinned (OpenSpec.ofChange civilSentWrong)

/- THE SECOND FORM. 'bulk': how many values and letters a reading holds, each counted each time it is reached (what is shared counts as often as it is met; a slice's spare places count too). A statement '..UptoSaid' is the law's where the arguments, and the package variables that the reading takes, are together of bulk at most 1048576: NARROWER than '..Said'. Prove '..Said' where nothing that the law and all that it calls make is longer than what came in: it says more and counts as full. Else prove '..UptoSaid'. A law counts once. -/
mutual
def uptoBulk {H : Type} : DataW H → Nat
  | .lit (.string bytes) => bytes.length + 1
  | .lit _ => 1
  | .nil => 1
  | .ptr d => uptoBulk d + 1
  | .slice elems spare => uptoBulkAll elems + uptoBulkAll spare + 1
  | .agg parts => uptoBulkAll parts + 1
  | .iface _ d => uptoBulk d + 1
  | .map entries => uptoBulkEntries entries + 1
  | .held _ => 1
def uptoBulkAll {H : Type} : List (DataW H) → Nat
  | [] => 0
  | d :: r => uptoBulk d + uptoBulkAll r
def uptoBulkEntries {H : Type} : List (Lit × DataW H) → Nat
  | [] => 0
  | x :: r => uptoBulkEntry x + uptoBulkEntries r
def uptoBulkEntry {H : Type} : Lit × DataW H → Nat
  | (.string bytes, d) => bytes.length + uptoBulk d + 1
  | (_, d) => uptoBulk d + 1
 end
def uptoSmall : (H : Type) → List (DataW H) → Bool := fun _ ds => decide (uptoBulkAll ds ≤ 1048576)
def OpenSpec.upto (s : _root_.Go.ChangeSpec) : _root_.Go.OpenSpec := { _root_.Go.OpenSpec.ofChange s with cond := some uptoSmall }

/-- 'priorartlaw13.CivilDates', WHERE WHAT IT READS IS OF BULK AT MOST 1048576: true; the input reads as it did. -/
def civilDatesUptoRow : OpenClaim := { program := "ytkeekepedakhkaadoor", sum := "e9eba7a3f676c5ecc8a11a38f3e1c9dec92ee856cb71fb4ffd1223d8106ac016", func := "priorart/priorartlaw13.CivilDates", spec := "civilDates", unfollowed := true, recurses := true, named := ["priorart/civil.lengths"], apart := false, laid := [("priorart/civil.lengths", laid_priorart_civil_lengths)], narrowed := true }
def CivilDatesUptoSaid : Prop := civilDatesUptoRow.holds Tryd.pinned (OpenSpec.upto civilDatesSpec)

/-- 'priorartlaw13.CivilAdd', WHERE WHAT IT READS IS OF BULK AT MOST 1048576: true; the input reads as it did. -/
def civilAddUptoRow : OpenClaim := { program := "ytkeekepedakhkaadoor", sum := "e9eba7a3f676c5ecc8a11a38f3e1c9dec92ee856cb71fb4ffd1223d8106ac016", func := "priorart/priorartlaw13.CivilAdd", spec := "civilAdd", unfollowed := true, recurses := true, named := ["priorart/civil.lengths"], apart := false, laid := [("priorart/civil.lengths", laid_priorart_civil_lengths)], narrowed := true }
def CivilAddUptoSaid : Prop := civilAddUptoRow.holds Tryd.pinned (OpenSpec.upto civilAddSpec)

/-- 'priorartlaw13.CivilMonths', WHERE WHAT IT READS IS OF BULK AT MOST 1048576: true; the input reads as it did. -/
def civilMonthsUptoRow : OpenClaim := { program := "ytkeekepedakhkaadoor", sum := "e9eba7a3f676c5ecc8a11a38f3e1c9dec92ee856cb71fb4ffd1223d8106ac016", func := "priorart/priorartlaw13.CivilMonths", spec := "civilMonths", unfollowed := true, recurses := true, named := ["priorart/civil.lengths"], apart := false, laid := [("priorart/civil.lengths", laid_priorart_civil_lengths)], narrowed := true }
def CivilMonthsUptoSaid : Prop := civilMonthsUptoRow.holds Tryd.pinned (OpenSpec.upto civilMonthsSpec)

/-- 'priorartlaw13.CivilYears', WHERE WHAT IT READS IS OF BULK AT MOST 1048576: true; the input reads as it did. -/
def civilYearsUptoRow : OpenClaim := { program := "ytkeekepedakhkaadoor", sum := "e9eba7a3f676c5ecc8a11a38f3e1c9dec92ee856cb71fb4ffd1223d8106ac016", func := "priorart/priorartlaw13.CivilYears", spec := "civilYears", unfollowed := true, recurses := true, named := ["priorart/civil.lengths"], apart := false, laid := [("priorart/civil.lengths", laid_priorart_civil_lengths)], narrowed := true }
def CivilYearsUptoSaid : Prop := civilYearsUptoRow.holds Tryd.pinned (OpenSpec.upto civilYearsSpec)

/-- 'priorartlaw13.CivilBack', WHERE WHAT IT READS IS OF BULK AT MOST 1048576: true; the input reads as it did. -/
def civilBackUptoRow : OpenClaim := { program := "ytkeekepedakhkaadoor", sum := "e9eba7a3f676c5ecc8a11a38f3e1c9dec92ee856cb71fb4ffd1223d8106ac016", func := "priorart/priorartlaw13.CivilBack", spec := "civilBack", unfollowed := true, recurses := true, named := ["priorart/civil.lengths"], apart := false, laid := [("priorart/civil.lengths", laid_priorart_civil_lengths)], narrowed := true }
def CivilBackUptoSaid : Prop := civilBackUptoRow.holds Tryd.pinned (OpenSpec.upto civilBackSpec)

/-- 'priorartlaw13.CivilTexts', WHERE WHAT IT READS IS OF BULK AT MOST 1048576: true; the input reads as it did. -/
def civilTextsUptoRow : OpenClaim := { program := "ytkeekepedakhkaadoor", sum := "e9eba7a3f676c5ecc8a11a38f3e1c9dec92ee856cb71fb4ffd1223d8106ac016", func := "priorart/priorartlaw13.CivilTexts", spec := "civilTexts", unfollowed := true, recurses := true, named := ["priorart/civil.lengths"], apart := false, laid := [("priorart/civil.lengths", laid_priorart_civil_lengths)], narrowed := true }
def CivilTextsUptoSaid : Prop := civilTextsUptoRow.holds Tryd.pinned (OpenSpec.upto civilTextsSpec)

/-- 'priorartlaw13.CivilSent', WHERE WHAT IT READS IS OF BULK AT MOST 1048576: true; the input reads as it did. -/
def civilSentUptoRow : OpenClaim := { program := "ytkeekepedakhkaadoor", sum := "e9eba7a3f676c5ecc8a11a38f3e1c9dec92ee856cb71fb4ffd1223d8106ac016", func := "priorart/priorartlaw13.CivilSent", spec := "civilSent", unfollowed := true, recurses := true, named := ["priorart/civil.lengths"], apart := false, laid := [("priorart/civil.lengths", laid_priorart_civil_lengths)], narrowed := true }
def CivilSentUptoSaid : Prop := civilSentUptoRow.holds Tryd.pinned (OpenSpec.upto civilSentSpec)

end Rows
end Go.Proofs.YtkeekepedakhkaaDoor
