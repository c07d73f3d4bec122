/-
  DERIVED. GIVEN WITH THE SEED: THE CARDS: each row of YtifkobejdldkbaaDoorRows.lean that lists a variable, with what it lists TIED to the program's text (the seventh form; the later family's looks); each row that meets fmt, with fmt's text TOLD by the authors' own Lean function (tested against real Go, not proved from fmt's source: count such statements apart). THE CARD IS WHAT COUNTS. Prove the row's statement (the work); the ties are given (YtifkobejdldkbaaDoorTie.lean); close each card by the builder's one call (the guide's Derived/Test/ToyasCard.lean, 'card_holds'). Laid BY PROGRAM, IN A SANDBOX (cutbox-door.mjs). By AI agents, Wed Nov 11 2026. No macro, syntax, notation, axiom, sorry.
-/
import Derived.Test.YtifkobejdldkbaaDoorRows
import GoSem.ClaimSeven
namespace Go.Proofs.YtifkobejdldkbaaDoor
namespace Rows

/-- THE TIED CARD OF 'arrearslaw2.CalendarDates'. -/
def calendarDatesCard : Claim7 := { stood := { row := calendarDatesRow, standIns := [], harness := (true, "32b2329e95a1515ca9826390b1d0460cbef6592631efc822cc60b6fd2fcc643b"), looks := false }, kinds := [], alts := [], laidByText := true, laidKinds := [.data], laidTests := true, laidLooks := .later }
def CalendarDatesCardSaid : Prop := Claim7.holds Tryd.pinned (.plain (OpenSpec.ofChange calendarDatesSpec)) calendarDatesCard

/-- THE TIED CARD OF 'arrearslaw2.CalendarDays'. -/
def calendarDaysCard : Claim7 := { stood := { row := calendarDaysRow, standIns := [], harness := (true, "32b2329e95a1515ca9826390b1d0460cbef6592631efc822cc60b6fd2fcc643b"), looks := false }, kinds := [], alts := [], laidByText := true, laidKinds := [.data], laidTests := true, laidLooks := .later }
def CalendarDaysCardSaid : Prop := Claim7.holds Tryd.pinned (.plain (OpenSpec.ofChange calendarDaysSpec)) calendarDaysCard

/-- THE TIED CARD OF 'arrearslaw2.CalendarGregorian'. -/
def calendarGregorianCard : Claim7 := { stood := { row := calendarGregorianRow, standIns := [], harness := (true, "32b2329e95a1515ca9826390b1d0460cbef6592631efc822cc60b6fd2fcc643b"), looks := false }, kinds := [], alts := [], laidByText := true, laidKinds := [.data], laidTests := true, laidLooks := .later }
def CalendarGregorianCardSaid : Prop := Claim7.holds Tryd.pinned (.plain (OpenSpec.ofChange calendarGregorianSpec)) calendarGregorianCard

/-- THE TIED CARD OF 'arrearslaw2.CalendarCycle'. -/
def calendarCycleCard : Claim7 := { stood := { row := calendarCycleRow, standIns := [], harness := (true, "32b2329e95a1515ca9826390b1d0460cbef6592631efc822cc60b6fd2fcc643b"), looks := false }, kinds := [], alts := [], laidByText := true, laidKinds := [.data], laidTests := true, laidLooks := .later }
def CalendarCycleCardSaid : Prop := Claim7.holds Tryd.pinned (.plain (OpenSpec.ofChange calendarCycleSpec)) calendarCycleCard

/-- THE TIED CARD OF 'arrearslaw2.CalendarRoundTrip'. -/
def calendarRoundTripCard : Claim7 := { stood := { row := calendarRoundTripRow, standIns := [], harness := (true, "32b2329e95a1515ca9826390b1d0460cbef6592631efc822cc60b6fd2fcc643b"), looks := false }, kinds := [], alts := [], laidByText := true, laidKinds := [.data], laidTests := true, laidLooks := .later }
def CalendarRoundTripCardSaid : Prop := Claim7.holds Tryd.pinned (.plain (OpenSpec.ofChange calendarRoundTripSpec)) calendarRoundTripCard

/-- THE TIED CARD OF 'arrearslaw2.CalendarBetweens'. -/
def calendarBetweensCard : Claim7 := { stood := { row := calendarBetweensRow, standIns := [], harness := (true, "32b2329e95a1515ca9826390b1d0460cbef6592631efc822cc60b6fd2fcc643b"), looks := false }, kinds := [], alts := [], laidByText := true, laidKinds := [.data], laidTests := true, laidLooks := .later }
def CalendarBetweensCardSaid : Prop := Claim7.holds Tryd.pinned (.plain (OpenSpec.ofChange calendarBetweensSpec)) calendarBetweensCard

/-- THE TIED CARD OF 'arrearslaw2.CalendarMonths'. -/
def calendarMonthsCard : Claim7 := { stood := { row := calendarMonthsRow, standIns := [], harness := (true, "32b2329e95a1515ca9826390b1d0460cbef6592631efc822cc60b6fd2fcc643b"), looks := false }, kinds := [], alts := [], laidByText := true, laidKinds := [.data], laidTests := true, laidLooks := .later }
def CalendarMonthsCardSaid : Prop := Claim7.holds Tryd.pinned (.plain (OpenSpec.ofChange calendarMonthsSpec)) calendarMonthsCard

/-- THE TIED CARD OF 'arrearslaw2.CalendarMonthSteps'. -/
def calendarMonthStepsCard : Claim7 := { stood := { row := calendarMonthStepsRow, standIns := [], harness := (true, "32b2329e95a1515ca9826390b1d0460cbef6592631efc822cc60b6fd2fcc643b"), looks := false }, kinds := [], alts := [], laidByText := true, laidKinds := [.data], laidTests := true, laidLooks := .later }
def CalendarMonthStepsCardSaid : Prop := Claim7.holds Tryd.pinned (.plain (OpenSpec.ofChange calendarMonthStepsSpec)) calendarMonthStepsCard

/-- THE TIED CARD OF 'arrearslaw2.CalendarAdjusts'. -/
def calendarAdjustsCard : Claim7 := { stood := { row := calendarAdjustsRow, standIns := [], harness := (true, "32b2329e95a1515ca9826390b1d0460cbef6592631efc822cc60b6fd2fcc643b"), looks := false }, kinds := [], alts := [], laidByText := true, laidKinds := [.data], laidTests := true, laidLooks := .later }
def CalendarAdjustsCardSaid : Prop := Claim7.holds Tryd.pinned (.plain (OpenSpec.ofChange calendarAdjustsSpec)) calendarAdjustsCard

/-- THE TIED CARD OF 'arrearslaw2.CalendarBusiness'. -/
def calendarBusinessCard : Claim7 := { stood := { row := calendarBusinessRow, standIns := [], harness := (true, "32b2329e95a1515ca9826390b1d0460cbef6592631efc822cc60b6fd2fcc643b"), looks := false }, kinds := [], alts := [], laidByText := true, laidKinds := [.data], laidTests := true, laidLooks := .later }
def CalendarBusinessCardSaid : Prop := Claim7.holds Tryd.pinned (.plain (OpenSpec.ofChange calendarBusinessSpec)) calendarBusinessCard

/-- THE TIED CARD OF 'arrearslaw2.CalendarSpans'. -/
def calendarSpansCard : Claim7 := { stood := { row := calendarSpansRow, standIns := [], harness := (true, "32b2329e95a1515ca9826390b1d0460cbef6592631efc822cc60b6fd2fcc643b"), looks := false }, kinds := [], alts := [], laidByText := true, laidKinds := [.data], laidTests := true, laidLooks := .later }
def CalendarSpansCardSaid : Prop := Claim7.holds Tryd.pinned (.plain (OpenSpec.ofChange calendarSpansSpec)) calendarSpansCard

/-- THE TIED CARD OF 'arrearslaw2.CalendarTextOrder'. -/
def calendarTextOrderCard : Claim7 := { stood := { row := calendarTextOrderRow, standIns := [], harness := (true, "32b2329e95a1515ca9826390b1d0460cbef6592631efc822cc60b6fd2fcc643b"), looks := false }, kinds := [], alts := [], laidByText := true, laidKinds := [.data], laidTests := true, laidLooks := .later }
def CalendarTextOrderCardSaid : Prop := Claim7.holds Tryd.pinned (.plain (OpenSpec.ofChange calendarTextOrderSpec)) calendarTextOrderCard

/-- THE TIED CARD OF 'arrearslaw2.CalendarTexts'. -/
def calendarTextsCard : Claim7 := { stood := { row := calendarTextsRow, standIns := [], harness := (true, "32b2329e95a1515ca9826390b1d0460cbef6592631efc822cc60b6fd2fcc643b"), looks := false }, kinds := [], alts := [], laidByText := true, laidKinds := [.data, .data, .data, .data], laidTests := true, laidLooks := .later }
def CalendarTextsCardSaid : Prop := Claim7.holds Tryd.pinned (.plain (OpenSpec.ofChange calendarTextsSpec)) calendarTextsCard

/-- THE TIED CARD OF 'arrearslaw2.CalendarExact'. -/
def calendarExactCard : Claim7 := { stood := { row := calendarExactRow, standIns := [], harness := (true, "32b2329e95a1515ca9826390b1d0460cbef6592631efc822cc60b6fd2fcc643b"), looks := false }, kinds := [], alts := [], laidByText := true, laidKinds := [.data, .data, .data, .data], laidTests := true, laidLooks := .later }
def CalendarExactCardSaid : Prop := Claim7.holds Tryd.pinned (.plain (OpenSpec.ofChange calendarExactSpec)) calendarExactCard

/-- THE SECOND FORM's CARD OF 'arrearslaw2.CalendarDates'. -/
def calendarDatesUptoCard : Claim7 := { stood := { row := calendarDatesUptoRow, standIns := [], harness := (true, "32b2329e95a1515ca9826390b1d0460cbef6592631efc822cc60b6fd2fcc643b"), looks := false }, kinds := [], alts := [], laidByText := true, laidKinds := [.data], laidTests := true, laidLooks := .later }
def CalendarDatesUptoCardSaid : Prop := Claim7.holds Tryd.pinned (.plain (OpenSpec.upto calendarDatesSpec)) calendarDatesUptoCard

/-- THE SECOND FORM's CARD OF 'arrearslaw2.CalendarDays'. -/
def calendarDaysUptoCard : Claim7 := { stood := { row := calendarDaysUptoRow, standIns := [], harness := (true, "32b2329e95a1515ca9826390b1d0460cbef6592631efc822cc60b6fd2fcc643b"), looks := false }, kinds := [], alts := [], laidByText := true, laidKinds := [.data], laidTests := true, laidLooks := .later }
def CalendarDaysUptoCardSaid : Prop := Claim7.holds Tryd.pinned (.plain (OpenSpec.upto calendarDaysSpec)) calendarDaysUptoCard

/-- THE SECOND FORM's CARD OF 'arrearslaw2.CalendarGregorian'. -/
def calendarGregorianUptoCard : Claim7 := { stood := { row := calendarGregorianUptoRow, standIns := [], harness := (true, "32b2329e95a1515ca9826390b1d0460cbef6592631efc822cc60b6fd2fcc643b"), looks := false }, kinds := [], alts := [], laidByText := true, laidKinds := [.data], laidTests := true, laidLooks := .later }
def CalendarGregorianUptoCardSaid : Prop := Claim7.holds Tryd.pinned (.plain (OpenSpec.upto calendarGregorianSpec)) calendarGregorianUptoCard

/-- THE SECOND FORM's CARD OF 'arrearslaw2.CalendarCycle'. -/
def calendarCycleUptoCard : Claim7 := { stood := { row := calendarCycleUptoRow, standIns := [], harness := (true, "32b2329e95a1515ca9826390b1d0460cbef6592631efc822cc60b6fd2fcc643b"), looks := false }, kinds := [], alts := [], laidByText := true, laidKinds := [.data], laidTests := true, laidLooks := .later }
def CalendarCycleUptoCardSaid : Prop := Claim7.holds Tryd.pinned (.plain (OpenSpec.upto calendarCycleSpec)) calendarCycleUptoCard

/-- THE SECOND FORM's CARD OF 'arrearslaw2.CalendarRoundTrip'. -/
def calendarRoundTripUptoCard : Claim7 := { stood := { row := calendarRoundTripUptoRow, standIns := [], harness := (true, "32b2329e95a1515ca9826390b1d0460cbef6592631efc822cc60b6fd2fcc643b"), looks := false }, kinds := [], alts := [], laidByText := true, laidKinds := [.data], laidTests := true, laidLooks := .later }
def CalendarRoundTripUptoCardSaid : Prop := Claim7.holds Tryd.pinned (.plain (OpenSpec.upto calendarRoundTripSpec)) calendarRoundTripUptoCard

/-- THE SECOND FORM's CARD OF 'arrearslaw2.CalendarBetweens'. -/
def calendarBetweensUptoCard : Claim7 := { stood := { row := calendarBetweensUptoRow, standIns := [], harness := (true, "32b2329e95a1515ca9826390b1d0460cbef6592631efc822cc60b6fd2fcc643b"), looks := false }, kinds := [], alts := [], laidByText := true, laidKinds := [.data], laidTests := true, laidLooks := .later }
def CalendarBetweensUptoCardSaid : Prop := Claim7.holds Tryd.pinned (.plain (OpenSpec.upto calendarBetweensSpec)) calendarBetweensUptoCard

/-- THE SECOND FORM's CARD OF 'arrearslaw2.CalendarMonths'. -/
def calendarMonthsUptoCard : Claim7 := { stood := { row := calendarMonthsUptoRow, standIns := [], harness := (true, "32b2329e95a1515ca9826390b1d0460cbef6592631efc822cc60b6fd2fcc643b"), looks := false }, kinds := [], alts := [], laidByText := true, laidKinds := [.data], laidTests := true, laidLooks := .later }
def CalendarMonthsUptoCardSaid : Prop := Claim7.holds Tryd.pinned (.plain (OpenSpec.upto calendarMonthsSpec)) calendarMonthsUptoCard

/-- THE SECOND FORM's CARD OF 'arrearslaw2.CalendarMonthSteps'. -/
def calendarMonthStepsUptoCard : Claim7 := { stood := { row := calendarMonthStepsUptoRow, standIns := [], harness := (true, "32b2329e95a1515ca9826390b1d0460cbef6592631efc822cc60b6fd2fcc643b"), looks := false }, kinds := [], alts := [], laidByText := true, laidKinds := [.data], laidTests := true, laidLooks := .later }
def CalendarMonthStepsUptoCardSaid : Prop := Claim7.holds Tryd.pinned (.plain (OpenSpec.upto calendarMonthStepsSpec)) calendarMonthStepsUptoCard

/-- THE SECOND FORM's CARD OF 'arrearslaw2.CalendarAdjusts'. -/
def calendarAdjustsUptoCard : Claim7 := { stood := { row := calendarAdjustsUptoRow, standIns := [], harness := (true, "32b2329e95a1515ca9826390b1d0460cbef6592631efc822cc60b6fd2fcc643b"), looks := false }, kinds := [], alts := [], laidByText := true, laidKinds := [.data], laidTests := true, laidLooks := .later }
def CalendarAdjustsUptoCardSaid : Prop := Claim7.holds Tryd.pinned (.plain (OpenSpec.upto calendarAdjustsSpec)) calendarAdjustsUptoCard

/-- THE SECOND FORM's CARD OF 'arrearslaw2.CalendarBusiness'. -/
def calendarBusinessUptoCard : Claim7 := { stood := { row := calendarBusinessUptoRow, standIns := [], harness := (true, "32b2329e95a1515ca9826390b1d0460cbef6592631efc822cc60b6fd2fcc643b"), looks := false }, kinds := [], alts := [], laidByText := true, laidKinds := [.data], laidTests := true, laidLooks := .later }
def CalendarBusinessUptoCardSaid : Prop := Claim7.holds Tryd.pinned (.plain (OpenSpec.upto calendarBusinessSpec)) calendarBusinessUptoCard

/-- THE SECOND FORM's CARD OF 'arrearslaw2.CalendarSpans'. -/
def calendarSpansUptoCard : Claim7 := { stood := { row := calendarSpansUptoRow, standIns := [], harness := (true, "32b2329e95a1515ca9826390b1d0460cbef6592631efc822cc60b6fd2fcc643b"), looks := false }, kinds := [], alts := [], laidByText := true, laidKinds := [.data], laidTests := true, laidLooks := .later }
def CalendarSpansUptoCardSaid : Prop := Claim7.holds Tryd.pinned (.plain (OpenSpec.upto calendarSpansSpec)) calendarSpansUptoCard

/-- THE SECOND FORM's CARD OF 'arrearslaw2.CalendarTextOrder'. -/
def calendarTextOrderUptoCard : Claim7 := { stood := { row := calendarTextOrderUptoRow, standIns := [], harness := (true, "32b2329e95a1515ca9826390b1d0460cbef6592631efc822cc60b6fd2fcc643b"), looks := false }, kinds := [], alts := [], laidByText := true, laidKinds := [.data], laidTests := true, laidLooks := .later }
def CalendarTextOrderUptoCardSaid : Prop := Claim7.holds Tryd.pinned (.plain (OpenSpec.upto calendarTextOrderSpec)) calendarTextOrderUptoCard

/-- THE SECOND FORM's CARD OF 'arrearslaw2.CalendarTexts'. -/
def calendarTextsUptoCard : Claim7 := { stood := { row := calendarTextsUptoRow, standIns := [], harness := (true, "32b2329e95a1515ca9826390b1d0460cbef6592631efc822cc60b6fd2fcc643b"), looks := false }, kinds := [], alts := [], laidByText := true, laidKinds := [.data, .data, .data, .data], laidTests := true, laidLooks := .later }
def CalendarTextsUptoCardSaid : Prop := Claim7.holds Tryd.pinned (.plain (OpenSpec.upto calendarTextsSpec)) calendarTextsUptoCard

/-- THE SECOND FORM's CARD OF 'arrearslaw2.CalendarExact'. -/
def calendarExactUptoCard : Claim7 := { stood := { row := calendarExactUptoRow, standIns := [], harness := (true, "32b2329e95a1515ca9826390b1d0460cbef6592631efc822cc60b6fd2fcc643b"), looks := false }, kinds := [], alts := [], laidByText := true, laidKinds := [.data, .data, .data, .data], laidTests := true, laidLooks := .later }
def CalendarExactUptoCardSaid : Prop := Claim7.holds Tryd.pinned (.plain (OpenSpec.upto calendarExactSpec)) calendarExactUptoCard
end Rows
end Go.Proofs.YtifkobejdldkbaaDoor
