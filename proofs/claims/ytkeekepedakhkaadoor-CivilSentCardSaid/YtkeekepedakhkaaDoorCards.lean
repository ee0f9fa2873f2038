/-
  DERIVED. GIVEN WITH THE SEED: THE CARDS: each row of YtkeekepedakhkaaDoorRows.lean that lists a variable, with what it lists TIED to the program's text (the seventh form; the later family's looks); each row that meets fmt, with fmt's text TOLD by the authors' own Lean function (tested against real Go, not proved from fmt's source: count such statements apart). THE CARD IS WHAT COUNTS. Prove the row's statement (the work); the ties are given (YtkeekepedakhkaaDoorTie.lean); close each card by the builder's one call (the guide's Derived/Test/ToyasCard.lean, 'card_holds'). Laid BY PROGRAM, IN A SANDBOX (cutbox-door.mjs). By AI agents, Wed Nov 11 2026. No macro, syntax, notation, axiom, sorry.
-/
import Derived.Test.YtkeekepedakhkaaDoorRows
import GoSem.ClaimSeven
namespace Go.Proofs.YtkeekepedakhkaaDoor
namespace Rows

/-- THE TIED CARD OF 'priorartlaw13.CivilDates'. -/
def civilDatesCard : Claim7 := { stood := { row := civilDatesRow, standIns := [], harness := (true, "d173bf1d9d63985501e80a8a835a99d621da8b6e4fcc03e96cde217f5abc700e"), looks := false }, kinds := [], alts := [], laidByText := true, laidKinds := [.data], laidTests := true, laidLooks := .later }
def CivilDatesCardSaid : Prop := Claim7.holds Tryd.pinned (.plain (OpenSpec.ofChange civilDatesSpec)) civilDatesCard

/-- THE TIED CARD OF 'priorartlaw13.CivilAdd'. -/
def civilAddCard : Claim7 := { stood := { row := civilAddRow, standIns := [], harness := (true, "d173bf1d9d63985501e80a8a835a99d621da8b6e4fcc03e96cde217f5abc700e"), looks := false }, kinds := [], alts := [], laidByText := true, laidKinds := [.data], laidTests := true, laidLooks := .later }
def CivilAddCardSaid : Prop := Claim7.holds Tryd.pinned (.plain (OpenSpec.ofChange civilAddSpec)) civilAddCard

/-- THE TIED CARD OF 'priorartlaw13.CivilMonths'. -/
def civilMonthsCard : Claim7 := { stood := { row := civilMonthsRow, standIns := [], harness := (true, "d173bf1d9d63985501e80a8a835a99d621da8b6e4fcc03e96cde217f5abc700e"), looks := false }, kinds := [], alts := [], laidByText := true, laidKinds := [.data], laidTests := true, laidLooks := .later }
def CivilMonthsCardSaid : Prop := Claim7.holds Tryd.pinned (.plain (OpenSpec.ofChange civilMonthsSpec)) civilMonthsCard

/-- THE TIED CARD OF 'priorartlaw13.CivilYears'. -/
def civilYearsCard : Claim7 := { stood := { row := civilYearsRow, standIns := [], harness := (true, "d173bf1d9d63985501e80a8a835a99d621da8b6e4fcc03e96cde217f5abc700e"), looks := false }, kinds := [], alts := [], laidByText := true, laidKinds := [.data], laidTests := true, laidLooks := .later }
def CivilYearsCardSaid : Prop := Claim7.holds Tryd.pinned (.plain (OpenSpec.ofChange civilYearsSpec)) civilYearsCard

/-- THE TIED CARD OF 'priorartlaw13.CivilBack'. -/
def civilBackCard : Claim7 := { stood := { row := civilBackRow, standIns := [], harness := (true, "d173bf1d9d63985501e80a8a835a99d621da8b6e4fcc03e96cde217f5abc700e"), looks := false }, kinds := [], alts := [], laidByText := true, laidKinds := [.data], laidTests := true, laidLooks := .later }
def CivilBackCardSaid : Prop := Claim7.holds Tryd.pinned (.plain (OpenSpec.ofChange civilBackSpec)) civilBackCard

/-- THE TIED CARD OF 'priorartlaw13.CivilTexts'. -/
def civilTextsCard : Claim7 := { stood := { row := civilTextsRow, standIns := [], harness := (true, "d173bf1d9d63985501e80a8a835a99d621da8b6e4fcc03e96cde217f5abc700e"), looks := false }, kinds := [], alts := [], laidByText := true, laidKinds := [.data], laidTests := true, laidLooks := .later }
def CivilTextsCardSaid : Prop := Claim7.holds Tryd.pinned (.plain (OpenSpec.ofChange civilTextsSpec)) civilTextsCard

/-- THE TIED CARD OF 'priorartlaw13.CivilSent'. -/
def civilSentCard : Claim7 := { stood := { row := civilSentRow, standIns := [], harness := (true, "d173bf1d9d63985501e80a8a835a99d621da8b6e4fcc03e96cde217f5abc700e"), looks := false }, kinds := [], alts := [], laidByText := true, laidKinds := [.data], laidTests := true, laidLooks := .later }
def CivilSentCardSaid : Prop := Claim7.holds Tryd.pinned (.plain (OpenSpec.ofChange civilSentSpec)) civilSentCard

/-- THE SECOND FORM's CARD OF 'priorartlaw13.CivilDates'. -/
def civilDatesUptoCard : Claim7 := { stood := { row := civilDatesUptoRow, standIns := [], harness := (true, "d173bf1d9d63985501e80a8a835a99d621da8b6e4fcc03e96cde217f5abc700e"), looks := false }, kinds := [], alts := [], laidByText := true, laidKinds := [.data], laidTests := true, laidLooks := .later }
def CivilDatesUptoCardSaid : Prop := Claim7.holds Tryd.pinned (.plain (OpenSpec.upto civilDatesSpec)) civilDatesUptoCard

/-- THE SECOND FORM's CARD OF 'priorartlaw13.CivilAdd'. -/
def civilAddUptoCard : Claim7 := { stood := { row := civilAddUptoRow, standIns := [], harness := (true, "d173bf1d9d63985501e80a8a835a99d621da8b6e4fcc03e96cde217f5abc700e"), looks := false }, kinds := [], alts := [], laidByText := true, laidKinds := [.data], laidTests := true, laidLooks := .later }
def CivilAddUptoCardSaid : Prop := Claim7.holds Tryd.pinned (.plain (OpenSpec.upto civilAddSpec)) civilAddUptoCard

/-- THE SECOND FORM's CARD OF 'priorartlaw13.CivilMonths'. -/
def civilMonthsUptoCard : Claim7 := { stood := { row := civilMonthsUptoRow, standIns := [], harness := (true, "d173bf1d9d63985501e80a8a835a99d621da8b6e4fcc03e96cde217f5abc700e"), looks := false }, kinds := [], alts := [], laidByText := true, laidKinds := [.data], laidTests := true, laidLooks := .later }
def CivilMonthsUptoCardSaid : Prop := Claim7.holds Tryd.pinned (.plain (OpenSpec.upto civilMonthsSpec)) civilMonthsUptoCard

/-- THE SECOND FORM's CARD OF 'priorartlaw13.CivilYears'. -/
def civilYearsUptoCard : Claim7 := { stood := { row := civilYearsUptoRow, standIns := [], harness := (true, "d173bf1d9d63985501e80a8a835a99d621da8b6e4fcc03e96cde217f5abc700e"), looks := false }, kinds := [], alts := [], laidByText := true, laidKinds := [.data], laidTests := true, laidLooks := .later }
def CivilYearsUptoCardSaid : Prop := Claim7.holds Tryd.pinned (.plain (OpenSpec.upto civilYearsSpec)) civilYearsUptoCard

/-- THE SECOND FORM's CARD OF 'priorartlaw13.CivilBack'. -/
def civilBackUptoCard : Claim7 := { stood := { row := civilBackUptoRow, standIns := [], harness := (true, "d173bf1d9d63985501e80a8a835a99d621da8b6e4fcc03e96cde217f5abc700e"), looks := false }, kinds := [], alts := [], laidByText := true, laidKinds := [.data], laidTests := true, laidLooks := .later }
def CivilBackUptoCardSaid : Prop := Claim7.holds Tryd.pinned (.plain (OpenSpec.upto civilBackSpec)) civilBackUptoCard

/-- THE SECOND FORM's CARD OF 'priorartlaw13.CivilTexts'. -/
def civilTextsUptoCard : Claim7 := { stood := { row := civilTextsUptoRow, standIns := [], harness := (true, "d173bf1d9d63985501e80a8a835a99d621da8b6e4fcc03e96cde217f5abc700e"), looks := false }, kinds := [], alts := [], laidByText := true, laidKinds := [.data], laidTests := true, laidLooks := .later }
def CivilTextsUptoCardSaid : Prop := Claim7.holds Tryd.pinned (.plain (OpenSpec.upto civilTextsSpec)) civilTextsUptoCard

/-- THE SECOND FORM's CARD OF 'priorartlaw13.CivilSent'. -/
def civilSentUptoCard : Claim7 := { stood := { row := civilSentUptoRow, standIns := [], harness := (true, "d173bf1d9d63985501e80a8a835a99d621da8b6e4fcc03e96cde217f5abc700e"), looks := false }, kinds := [], alts := [], laidByText := true, laidKinds := [.data], laidTests := true, laidLooks := .later }
def CivilSentUptoCardSaid : Prop := Claim7.holds Tryd.pinned (.plain (OpenSpec.upto civilSentSpec)) civilSentUptoCard
end Rows
end Go.Proofs.YtkeekepedakhkaaDoor
