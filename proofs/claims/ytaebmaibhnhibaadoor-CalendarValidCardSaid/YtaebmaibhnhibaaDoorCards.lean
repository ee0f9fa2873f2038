/-
  DERIVED. GIVEN WITH THE SEED: THE CARDS: each row of YtaebmaibhnhibaaDoorRows.lean that lists a variable, with what it lists TIED to the program's text (the seventh form; the later family's looks); each row that meets fmt, with fmt's text TOLD by the authors' own Lean function (tested against real Go, not proved from fmt's source: count such statements apart). THE CARD IS WHAT COUNTS. Prove the row's statement (the work); the ties are given (YtaebmaibhnhibaaDoorTie.lean); close each card by the builder's one call (the guide's Derived/Test/ToyasCard.lean, 'card_holds'). Laid BY PROGRAM, IN A SANDBOX (cutbox-door.mjs). By AI agents, Wed Nov 11 2026. No macro, syntax, notation, axiom, sorry.
-/
import Derived.Test.YtaebmaibhnhibaaDoorRows
import GoSem.ClaimSeven
namespace Go.Proofs.YtaebmaibhnhibaaDoor
namespace Rows

/-- THE TIED CARD OF 'priorartlaw14.CalendarOpen'. -/
def calendarOpenCard : Claim7 := { stood := { row := calendarOpenRow, standIns := [], harness := (true, "3154b905bcfc2bc9cf14a0d8320d7ee41159f2742c470a83ec7f15b12fa2f3c7"), looks := false }, kinds := [], alts := [], laidByText := true, laidKinds := [.data], laidTests := true, laidLooks := .later }
def CalendarOpenCardSaid : Prop := Claim7.holds Tryd.pinned (.plain (OpenSpec.ofChange calendarOpenSpec)) calendarOpenCard

/-- THE TIED CARD OF 'priorartlaw14.CalendarNext'. -/
def calendarNextCard : Claim7 := { stood := { row := calendarNextRow, standIns := [], harness := (true, "3154b905bcfc2bc9cf14a0d8320d7ee41159f2742c470a83ec7f15b12fa2f3c7"), looks := false }, kinds := [], alts := [], laidByText := true, laidKinds := [.data], laidTests := true, laidLooks := .later }
def CalendarNextCardSaid : Prop := Claim7.holds Tryd.pinned (.plain (OpenSpec.ofChange calendarNextSpec)) calendarNextCard

/-- THE TIED CARD OF 'priorartlaw14.CalendarClosures'. -/
def calendarClosuresCard : Claim7 := { stood := { row := calendarClosuresRow, standIns := [], harness := (true, "3154b905bcfc2bc9cf14a0d8320d7ee41159f2742c470a83ec7f15b12fa2f3c7"), looks := false }, kinds := [], alts := [], laidByText := true, laidKinds := [.data], laidTests := true, laidLooks := .later }
def CalendarClosuresCardSaid : Prop := Claim7.holds Tryd.pinned (.plain (OpenSpec.ofChange calendarClosuresSpec)) calendarClosuresCard

/-- THE TIED CARD OF 'priorartlaw14.CalendarSteps'. -/
def calendarStepsCard : Claim7 := { stood := { row := calendarStepsRow, standIns := [], harness := (true, "3154b905bcfc2bc9cf14a0d8320d7ee41159f2742c470a83ec7f15b12fa2f3c7"), looks := false }, kinds := [], alts := [], laidByText := true, laidKinds := [.data], laidTests := true, laidLooks := .later }
def CalendarStepsCardSaid : Prop := Claim7.holds Tryd.pinned (.plain (OpenSpec.ofChange calendarStepsSpec)) calendarStepsCard

/-- THE TIED CARD OF 'priorartlaw14.CalendarValid'. -/
def calendarValidCard : Claim7 := { stood := { row := calendarValidRow, standIns := [], harness := (true, "3154b905bcfc2bc9cf14a0d8320d7ee41159f2742c470a83ec7f15b12fa2f3c7"), looks := false }, kinds := [], alts := [], laidByText := true, laidKinds := [.data], laidTests := true, laidLooks := .later }
def CalendarValidCardSaid : Prop := Claim7.holds Tryd.pinned (.plain (OpenSpec.ofChange calendarValidSpec)) calendarValidCard

/-- THE TIED CARD OF 'priorartlaw14.CalendarCount'. -/
def calendarCountCard : Claim7 := { stood := { row := calendarCountRow, standIns := [], harness := (true, "3154b905bcfc2bc9cf14a0d8320d7ee41159f2742c470a83ec7f15b12fa2f3c7"), looks := false }, kinds := [], alts := [], laidByText := true, laidKinds := [.data], laidTests := true, laidLooks := .later }
def CalendarCountCardSaid : Prop := Claim7.holds Tryd.pinned (.plain (OpenSpec.ofChange calendarCountSpec)) calendarCountCard

/-- THE TIED CARD OF 'priorartlaw14.CalendarWeeks'. -/
def calendarWeeksCard : Claim7 := { stood := { row := calendarWeeksRow, standIns := [], harness := (true, "3154b905bcfc2bc9cf14a0d8320d7ee41159f2742c470a83ec7f15b12fa2f3c7"), looks := false }, kinds := [], alts := [], laidByText := true, laidKinds := [.data], laidTests := true, laidLooks := .later }
def CalendarWeeksCardSaid : Prop := Claim7.holds Tryd.pinned (.plain (OpenSpec.ofChange calendarWeeksSpec)) calendarWeeksCard

/-- THE SECOND FORM's CARD OF 'priorartlaw14.CalendarOpen'. -/
def calendarOpenUptoCard : Claim7 := { stood := { row := calendarOpenUptoRow, standIns := [], harness := (true, "3154b905bcfc2bc9cf14a0d8320d7ee41159f2742c470a83ec7f15b12fa2f3c7"), looks := false }, kinds := [], alts := [], laidByText := true, laidKinds := [.data], laidTests := true, laidLooks := .later }
def CalendarOpenUptoCardSaid : Prop := Claim7.holds Tryd.pinned (.plain (OpenSpec.upto calendarOpenSpec)) calendarOpenUptoCard

/-- THE SECOND FORM's CARD OF 'priorartlaw14.CalendarNext'. -/
def calendarNextUptoCard : Claim7 := { stood := { row := calendarNextUptoRow, standIns := [], harness := (true, "3154b905bcfc2bc9cf14a0d8320d7ee41159f2742c470a83ec7f15b12fa2f3c7"), looks := false }, kinds := [], alts := [], laidByText := true, laidKinds := [.data], laidTests := true, laidLooks := .later }
def CalendarNextUptoCardSaid : Prop := Claim7.holds Tryd.pinned (.plain (OpenSpec.upto calendarNextSpec)) calendarNextUptoCard

/-- THE SECOND FORM's CARD OF 'priorartlaw14.CalendarClosures'. -/
def calendarClosuresUptoCard : Claim7 := { stood := { row := calendarClosuresUptoRow, standIns := [], harness := (true, "3154b905bcfc2bc9cf14a0d8320d7ee41159f2742c470a83ec7f15b12fa2f3c7"), looks := false }, kinds := [], alts := [], laidByText := true, laidKinds := [.data], laidTests := true, laidLooks := .later }
def CalendarClosuresUptoCardSaid : Prop := Claim7.holds Tryd.pinned (.plain (OpenSpec.upto calendarClosuresSpec)) calendarClosuresUptoCard

/-- THE SECOND FORM's CARD OF 'priorartlaw14.CalendarSteps'. -/
def calendarStepsUptoCard : Claim7 := { stood := { row := calendarStepsUptoRow, standIns := [], harness := (true, "3154b905bcfc2bc9cf14a0d8320d7ee41159f2742c470a83ec7f15b12fa2f3c7"), looks := false }, kinds := [], alts := [], laidByText := true, laidKinds := [.data], laidTests := true, laidLooks := .later }
def CalendarStepsUptoCardSaid : Prop := Claim7.holds Tryd.pinned (.plain (OpenSpec.upto calendarStepsSpec)) calendarStepsUptoCard

/-- THE SECOND FORM's CARD OF 'priorartlaw14.CalendarValid'. -/
def calendarValidUptoCard : Claim7 := { stood := { row := calendarValidUptoRow, standIns := [], harness := (true, "3154b905bcfc2bc9cf14a0d8320d7ee41159f2742c470a83ec7f15b12fa2f3c7"), looks := false }, kinds := [], alts := [], laidByText := true, laidKinds := [.data], laidTests := true, laidLooks := .later }
def CalendarValidUptoCardSaid : Prop := Claim7.holds Tryd.pinned (.plain (OpenSpec.upto calendarValidSpec)) calendarValidUptoCard

/-- THE SECOND FORM's CARD OF 'priorartlaw14.CalendarCount'. -/
def calendarCountUptoCard : Claim7 := { stood := { row := calendarCountUptoRow, standIns := [], harness := (true, "3154b905bcfc2bc9cf14a0d8320d7ee41159f2742c470a83ec7f15b12fa2f3c7"), looks := false }, kinds := [], alts := [], laidByText := true, laidKinds := [.data], laidTests := true, laidLooks := .later }
def CalendarCountUptoCardSaid : Prop := Claim7.holds Tryd.pinned (.plain (OpenSpec.upto calendarCountSpec)) calendarCountUptoCard

/-- THE SECOND FORM's CARD OF 'priorartlaw14.CalendarWeeks'. -/
def calendarWeeksUptoCard : Claim7 := { stood := { row := calendarWeeksUptoRow, standIns := [], harness := (true, "3154b905bcfc2bc9cf14a0d8320d7ee41159f2742c470a83ec7f15b12fa2f3c7"), looks := false }, kinds := [], alts := [], laidByText := true, laidKinds := [.data], laidTests := true, laidLooks := .later }
def CalendarWeeksUptoCardSaid : Prop := Claim7.holds Tryd.pinned (.plain (OpenSpec.upto calendarWeeksSpec)) calendarWeeksUptoCard
end Rows
end Go.Proofs.YtaebmaibhnhibaaDoor
