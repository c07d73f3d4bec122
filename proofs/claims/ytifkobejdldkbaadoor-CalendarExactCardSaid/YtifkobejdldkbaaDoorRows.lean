/-
  NARROWER THAN 'FOR EVERY INPUT', by the rows' own cells (each row's printed sentence says how): CalendarDates: laid · CalendarDays: laid · CalendarGregorian: laid · CalendarCycle: laid · CalendarRoundTrip: laid · CalendarBetweens: laid · CalendarMonths: laid · CalendarMonthSteps: laid · CalendarAdjusts: laid · CalendarBusiness: laid · CalendarSpans: laid · CalendarTextOrder: laid · CalendarTexts: laid · CalendarExact: laid.
  DERIVED. THE GIVEN ROWS OF THIS SEAT. 14 by the template 'for every input the law returns true; each argument reads behind the call as it read before'; 0 by the template 'total and deterministic' (their statements: YtifkobejdldkbaaDoorTotals.lean).
  GIVEN WITH THE SEED: the statements are not yours to turn. If you find one false, say at which input.
  Laid BY PROGRAM, IN A SANDBOX (cutbox-rows.mjs): the forced cells as the released guide's own fill.sh prints them over the translation 6dc8f74d3b8540b8… (all of the seat's roots in one cut). By AI agents, Wed Nov 11 2026. No macro, syntax, notation, axiom, sorry.
-/
import Derived.Test.YtifkobejdldkbaaDoorChecked
import GoSem.Claim
import GoSem.ClaimJoined
import GoSem.ClaimMapViews
import Derived.JoinedTies
import Derived.KernelRfl
namespace Go.Proofs.YtifkobejdldkbaaDoor
/- THE CELL 'sum', in the pinned program and in every row, IS THE sha256 OF THE DUMP (.gsa) THAT YtifkobejdldkbaaDoorProg.lean LOADS. Nothing in Lean hashes anything: it is a label: what it is worth is what the hold of that sum in a sandbox is worth. -/
noncomputable def Tryd.pinned : Pinned := { name := "ytifkobejdldkbaadoor", sum := "6dc8f74d3b8540b8270e67051607e5c0f5ad7e64465335066cfc43818c89c6c3", checked := Tryd.checked }
namespace Rows
def none {H : Type} : Left H := { results := [], args := [] }

/- WHAT THE LISTED PACKAGE-LEVEL VARIABLES READ AS WHEN THE CALL BEGINS. Each datum BY PROGRAM (the guide's laid-datum.mjs) off the statement by which the dump's own 'gosem.cut.vars' lays the variable. In a bare row this is a premise. The card (YtifkobejdldkbaaDoorCards.lean) ties it to the program's text. -/
def laid_arrears_calendar_ahead {H : Type} : DataW H := .agg [.lit (.int .i64 0), .lit (.int .i64 31), .lit (.int .i64 59), .lit (.int .i64 90), .lit (.int .i64 120), .lit (.int .i64 151), .lit (.int .i64 181), .lit (.int .i64 212), .lit (.int .i64 243), .lit (.int .i64 273), .lit (.int .i64 304), .lit (.int .i64 334), .lit (.int .i64 365)]
def laid_math_bits_deBruijn32tab {H : Type} : DataW H := .agg [.lit (.int .u8 0), .lit (.int .u8 1), .lit (.int .u8 28), .lit (.int .u8 2), .lit (.int .u8 29), .lit (.int .u8 14), .lit (.int .u8 24), .lit (.int .u8 3), .lit (.int .u8 30), .lit (.int .u8 22), .lit (.int .u8 20), .lit (.int .u8 15), .lit (.int .u8 25), .lit (.int .u8 17), .lit (.int .u8 4), .lit (.int .u8 8), .lit (.int .u8 31), .lit (.int .u8 27), .lit (.int .u8 13), .lit (.int .u8 23), .lit (.int .u8 21), .lit (.int .u8 19), .lit (.int .u8 16), .lit (.int .u8 7), .lit (.int .u8 26), .lit (.int .u8 12), .lit (.int .u8 18), .lit (.int .u8 6), .lit (.int .u8 11), .lit (.int .u8 5), .lit (.int .u8 10), .lit (.int .u8 9)]
def laid_math_bits_deBruijn64tab {H : Type} : DataW H := .agg [.lit (.int .u8 0), .lit (.int .u8 1), .lit (.int .u8 56), .lit (.int .u8 2), .lit (.int .u8 57), .lit (.int .u8 49), .lit (.int .u8 28), .lit (.int .u8 3), .lit (.int .u8 61), .lit (.int .u8 58), .lit (.int .u8 42), .lit (.int .u8 50), .lit (.int .u8 38), .lit (.int .u8 29), .lit (.int .u8 17), .lit (.int .u8 4), .lit (.int .u8 62), .lit (.int .u8 47), .lit (.int .u8 59), .lit (.int .u8 36), .lit (.int .u8 45), .lit (.int .u8 43), .lit (.int .u8 51), .lit (.int .u8 22), .lit (.int .u8 53), .lit (.int .u8 39), .lit (.int .u8 33), .lit (.int .u8 30), .lit (.int .u8 24), .lit (.int .u8 18), .lit (.int .u8 12), .lit (.int .u8 5), .lit (.int .u8 63), .lit (.int .u8 55), .lit (.int .u8 48), .lit (.int .u8 27), .lit (.int .u8 60), .lit (.int .u8 41), .lit (.int .u8 37), .lit (.int .u8 16), .lit (.int .u8 46), .lit (.int .u8 35), .lit (.int .u8 44), .lit (.int .u8 21), .lit (.int .u8 52), .lit (.int .u8 32), .lit (.int .u8 23), .lit (.int .u8 11), .lit (.int .u8 54), .lit (.int .u8 26), .lit (.int .u8 40), .lit (.int .u8 15), .lit (.int .u8 34), .lit (.int .u8 20), .lit (.int .u8 31), .lit (.int .u8 10), .lit (.int .u8 25), .lit (.int .u8 14), .lit (.int .u8 19), .lit (.int .u8 9), .lit (.int .u8 13), .lit (.int .u8 8), .lit (.int .u8 7), .lit (.int .u8 6)]
def laid_internal_strconv_uint64pow10 {H : Type} : DataW H := .agg [.lit (.int .u64 1), .lit (.int .u64 10), .lit (.int .u64 100), .lit (.int .u64 1000), .lit (.int .u64 10000), .lit (.int .u64 100000), .lit (.int .u64 1000000), .lit (.int .u64 10000000), .lit (.int .u64 100000000), .lit (.int .u64 1000000000), .lit (.int .u64 10000000000), .lit (.int .u64 100000000000), .lit (.int .u64 1000000000000), .lit (.int .u64 10000000000000), .lit (.int .u64 100000000000000), .lit (.int .u64 1000000000000000), .lit (.int .u64 10000000000000000), .lit (.int .u64 100000000000000000), .lit (.int .u64 1000000000000000000), .lit (.int .u64 10000000000000000000)]

/-- 'arrearslaw2.CalendarDates': WHATEVER THE INPUT: true; the input reads as it did. -/
def calendarDatesSpec : ChangeSpec := { name := "calendarDates", fn := fun _ => fun
  | [d1, d2, d3] => { results := [.lit (.bool true)], args := [d1, d2, d3] }
  | _ => none }
def calendarDatesRow : OpenClaim := { program := "ytifkobejdldkbaadoor", sum := "6dc8f74d3b8540b8270e67051607e5c0f5ad7e64465335066cfc43818c89c6c3", func := "arrears/arrearslaw2.CalendarDates", spec := "calendarDates", named := ["arrears/calendar.ahead"], apart := false, laid := [("arrears/calendar.ahead", laid_arrears_calendar_ahead)] }
def CalendarDatesSaid : Prop := calendarDatesRow.holds Tryd.pinned (OpenSpec.ofChange calendarDatesSpec)

/-- ITS FALSE NEIGHBOUR: 'it returns false'. Refute it at one input. -/
def calendarDatesWrong : ChangeSpec := { name := "calendarDates", fn := fun _ => fun
  | [d1, d2, d3] => { results := [.lit (.bool false)], args := [d1, d2, d3] }
  | _ => none }
def CalendarDatesWrongFalsely : Prop := calendarDatesRow.holds Tryd.pinned (OpenSpec.ofChange calendarDatesWrong)

/-- 'arrearslaw2.CalendarDays': WHATEVER THE INPUT: true; the input reads as it did. -/
def calendarDaysSpec : ChangeSpec := { name := "calendarDays", fn := fun _ => fun
  | [d] => { results := [.lit (.bool true)], args := [d] }
  | _ => none }
def calendarDaysRow : OpenClaim := { program := "ytifkobejdldkbaadoor", sum := "6dc8f74d3b8540b8270e67051607e5c0f5ad7e64465335066cfc43818c89c6c3", func := "arrears/arrearslaw2.CalendarDays", spec := "calendarDays", named := ["arrears/calendar.ahead"], apart := false, laid := [("arrears/calendar.ahead", laid_arrears_calendar_ahead)] }
def CalendarDaysSaid : Prop := calendarDaysRow.holds Tryd.pinned (OpenSpec.ofChange calendarDaysSpec)

/-- ITS FALSE NEIGHBOUR: 'it returns false'. Refute it at one input. -/
def calendarDaysWrong : ChangeSpec := { name := "calendarDays", fn := fun _ => fun
  | [d] => { results := [.lit (.bool false)], args := [d] }
  | _ => none }
def CalendarDaysWrongFalsely : Prop := calendarDaysRow.holds Tryd.pinned (OpenSpec.ofChange calendarDaysWrong)

/-- 'arrearslaw2.CalendarGregorian': WHATEVER THE INPUT: true; the input reads as it did. -/
def calendarGregorianSpec : ChangeSpec := { name := "calendarGregorian", fn := fun _ => fun
  | [d] => { results := [.lit (.bool true)], args := [d] }
  | _ => none }
def calendarGregorianRow : OpenClaim := { program := "ytifkobejdldkbaadoor", sum := "6dc8f74d3b8540b8270e67051607e5c0f5ad7e64465335066cfc43818c89c6c3", func := "arrears/arrearslaw2.CalendarGregorian", spec := "calendarGregorian", named := ["arrears/calendar.ahead"], apart := false, laid := [("arrears/calendar.ahead", laid_arrears_calendar_ahead)] }
def CalendarGregorianSaid : Prop := calendarGregorianRow.holds Tryd.pinned (OpenSpec.ofChange calendarGregorianSpec)

/-- ITS FALSE NEIGHBOUR: 'it returns false'. Refute it at one input. -/
def calendarGregorianWrong : ChangeSpec := { name := "calendarGregorian", fn := fun _ => fun
  | [d] => { results := [.lit (.bool false)], args := [d] }
  | _ => none }
def CalendarGregorianWrongFalsely : Prop := calendarGregorianRow.holds Tryd.pinned (OpenSpec.ofChange calendarGregorianWrong)

/-- 'arrearslaw2.CalendarCycle': WHATEVER THE INPUT: true; the input reads as it did. -/
def calendarCycleSpec : ChangeSpec := { name := "calendarCycle", fn := fun _ => fun
  | [d] => { results := [.lit (.bool true)], args := [d] }
  | _ => none }
def calendarCycleRow : OpenClaim := { program := "ytifkobejdldkbaadoor", sum := "6dc8f74d3b8540b8270e67051607e5c0f5ad7e64465335066cfc43818c89c6c3", func := "arrears/arrearslaw2.CalendarCycle", spec := "calendarCycle", named := ["arrears/calendar.ahead"], apart := false, laid := [("arrears/calendar.ahead", laid_arrears_calendar_ahead)] }
def CalendarCycleSaid : Prop := calendarCycleRow.holds Tryd.pinned (OpenSpec.ofChange calendarCycleSpec)

/-- ITS FALSE NEIGHBOUR: 'it returns false'. Refute it at one input. -/
def calendarCycleWrong : ChangeSpec := { name := "calendarCycle", fn := fun _ => fun
  | [d] => { results := [.lit (.bool false)], args := [d] }
  | _ => none }
def CalendarCycleWrongFalsely : Prop := calendarCycleRow.holds Tryd.pinned (OpenSpec.ofChange calendarCycleWrong)

/-- 'arrearslaw2.CalendarRoundTrip': WHATEVER THE INPUT: true; the input reads as it did. -/
def calendarRoundTripSpec : ChangeSpec := { name := "calendarRoundTrip", fn := fun _ => fun
  | [d1, d2, d3, d4] => { results := [.lit (.bool true)], args := [d1, d2, d3, d4] }
  | _ => none }
def calendarRoundTripRow : OpenClaim := { program := "ytifkobejdldkbaadoor", sum := "6dc8f74d3b8540b8270e67051607e5c0f5ad7e64465335066cfc43818c89c6c3", func := "arrears/arrearslaw2.CalendarRoundTrip", spec := "calendarRoundTrip", named := ["arrears/calendar.ahead"], apart := false, laid := [("arrears/calendar.ahead", laid_arrears_calendar_ahead)] }
def CalendarRoundTripSaid : Prop := calendarRoundTripRow.holds Tryd.pinned (OpenSpec.ofChange calendarRoundTripSpec)

/-- ITS FALSE NEIGHBOUR: 'it returns false'. Refute it at one input. -/
def calendarRoundTripWrong : ChangeSpec := { name := "calendarRoundTrip", fn := fun _ => fun
  | [d1, d2, d3, d4] => { results := [.lit (.bool false)], args := [d1, d2, d3, d4] }
  | _ => none }
def CalendarRoundTripWrongFalsely : Prop := calendarRoundTripRow.holds Tryd.pinned (OpenSpec.ofChange calendarRoundTripWrong)

/-- 'arrearslaw2.CalendarBetweens': WHATEVER THE INPUT: true; the input reads as it did. -/
def calendarBetweensSpec : ChangeSpec := { name := "calendarBetweens", fn := fun _ => fun
  | [d1, d2, d3] => { results := [.lit (.bool true)], args := [d1, d2, d3] }
  | _ => none }
def calendarBetweensRow : OpenClaim := { program := "ytifkobejdldkbaadoor", sum := "6dc8f74d3b8540b8270e67051607e5c0f5ad7e64465335066cfc43818c89c6c3", func := "arrears/arrearslaw2.CalendarBetweens", spec := "calendarBetweens", named := ["arrears/calendar.ahead"], apart := false, laid := [("arrears/calendar.ahead", laid_arrears_calendar_ahead)] }
def CalendarBetweensSaid : Prop := calendarBetweensRow.holds Tryd.pinned (OpenSpec.ofChange calendarBetweensSpec)

/-- ITS FALSE NEIGHBOUR: 'it returns false'. Refute it at one input. -/
def calendarBetweensWrong : ChangeSpec := { name := "calendarBetweens", fn := fun _ => fun
  | [d1, d2, d3] => { results := [.lit (.bool false)], args := [d1, d2, d3] }
  | _ => none }
def CalendarBetweensWrongFalsely : Prop := calendarBetweensRow.holds Tryd.pinned (OpenSpec.ofChange calendarBetweensWrong)

/-- 'arrearslaw2.CalendarMonths': WHATEVER THE INPUT: true; the input reads as it did. -/
def calendarMonthsSpec : ChangeSpec := { name := "calendarMonths", fn := fun _ => fun
  | [d1, d2, d3] => { results := [.lit (.bool true)], args := [d1, d2, d3] }
  | _ => none }
def calendarMonthsRow : OpenClaim := { program := "ytifkobejdldkbaadoor", sum := "6dc8f74d3b8540b8270e67051607e5c0f5ad7e64465335066cfc43818c89c6c3", func := "arrears/arrearslaw2.CalendarMonths", spec := "calendarMonths", named := ["arrears/calendar.ahead"], apart := false, laid := [("arrears/calendar.ahead", laid_arrears_calendar_ahead)] }
def CalendarMonthsSaid : Prop := calendarMonthsRow.holds Tryd.pinned (OpenSpec.ofChange calendarMonthsSpec)

/-- ITS FALSE NEIGHBOUR: 'it returns false'. Refute it at one input. -/
def calendarMonthsWrong : ChangeSpec := { name := "calendarMonths", fn := fun _ => fun
  | [d1, d2, d3] => { results := [.lit (.bool false)], args := [d1, d2, d3] }
  | _ => none }
def CalendarMonthsWrongFalsely : Prop := calendarMonthsRow.holds Tryd.pinned (OpenSpec.ofChange calendarMonthsWrong)

/-- 'arrearslaw2.CalendarMonthSteps': WHATEVER THE INPUT: true; the input reads as it did. -/
def calendarMonthStepsSpec : ChangeSpec := { name := "calendarMonthSteps", fn := fun _ => fun
  | [d1, d2, d3, d4] => { results := [.lit (.bool true)], args := [d1, d2, d3, d4] }
  | _ => none }
def calendarMonthStepsRow : OpenClaim := { program := "ytifkobejdldkbaadoor", sum := "6dc8f74d3b8540b8270e67051607e5c0f5ad7e64465335066cfc43818c89c6c3", func := "arrears/arrearslaw2.CalendarMonthSteps", spec := "calendarMonthSteps", named := ["arrears/calendar.ahead"], apart := false, laid := [("arrears/calendar.ahead", laid_arrears_calendar_ahead)] }
def CalendarMonthStepsSaid : Prop := calendarMonthStepsRow.holds Tryd.pinned (OpenSpec.ofChange calendarMonthStepsSpec)

/-- ITS FALSE NEIGHBOUR: 'it returns false'. Refute it at one input. -/
def calendarMonthStepsWrong : ChangeSpec := { name := "calendarMonthSteps", fn := fun _ => fun
  | [d1, d2, d3, d4] => { results := [.lit (.bool false)], args := [d1, d2, d3, d4] }
  | _ => none }
def CalendarMonthStepsWrongFalsely : Prop := calendarMonthStepsRow.holds Tryd.pinned (OpenSpec.ofChange calendarMonthStepsWrong)

/-- 'arrearslaw2.CalendarAdjusts': WHATEVER THE INPUT: true; the input reads as it did. -/
def calendarAdjustsSpec : ChangeSpec := { name := "calendarAdjusts", fn := fun _ => fun
  | [d1, d2, d3] => { results := [.lit (.bool true)], args := [d1, d2, d3] }
  | _ => none }
def calendarAdjustsRow : OpenClaim := { program := "ytifkobejdldkbaadoor", sum := "6dc8f74d3b8540b8270e67051607e5c0f5ad7e64465335066cfc43818c89c6c3", func := "arrears/arrearslaw2.CalendarAdjusts", spec := "calendarAdjusts", named := ["arrears/calendar.ahead"], apart := false, laid := [("arrears/calendar.ahead", laid_arrears_calendar_ahead)] }
def CalendarAdjustsSaid : Prop := calendarAdjustsRow.holds Tryd.pinned (OpenSpec.ofChange calendarAdjustsSpec)

/-- ITS FALSE NEIGHBOUR: 'it returns false'. Refute it at one input. -/
def calendarAdjustsWrong : ChangeSpec := { name := "calendarAdjusts", fn := fun _ => fun
  | [d1, d2, d3] => { results := [.lit (.bool false)], args := [d1, d2, d3] }
  | _ => none }
def CalendarAdjustsWrongFalsely : Prop := calendarAdjustsRow.holds Tryd.pinned (OpenSpec.ofChange calendarAdjustsWrong)

/-- 'arrearslaw2.CalendarBusiness': WHATEVER THE INPUT: true; the input reads as it did. -/
def calendarBusinessSpec : ChangeSpec := { name := "calendarBusiness", fn := fun _ => fun
  | [d1, d2] => { results := [.lit (.bool true)], args := [d1, d2] }
  | _ => none }
def calendarBusinessRow : OpenClaim := { program := "ytifkobejdldkbaadoor", sum := "6dc8f74d3b8540b8270e67051607e5c0f5ad7e64465335066cfc43818c89c6c3", func := "arrears/arrearslaw2.CalendarBusiness", spec := "calendarBusiness", named := ["arrears/calendar.ahead"], apart := false, laid := [("arrears/calendar.ahead", laid_arrears_calendar_ahead)] }
def CalendarBusinessSaid : Prop := calendarBusinessRow.holds Tryd.pinned (OpenSpec.ofChange calendarBusinessSpec)

/-- ITS FALSE NEIGHBOUR: 'it returns false'. Refute it at one input. -/
def calendarBusinessWrong : ChangeSpec := { name := "calendarBusiness", fn := fun _ => fun
  | [d1, d2] => { results := [.lit (.bool false)], args := [d1, d2] }
  | _ => none }
def CalendarBusinessWrongFalsely : Prop := calendarBusinessRow.holds Tryd.pinned (OpenSpec.ofChange calendarBusinessWrong)

/-- 'arrearslaw2.CalendarSpans': WHATEVER THE INPUT: true; the input reads as it did. -/
def calendarSpansSpec : ChangeSpec := { name := "calendarSpans", fn := fun _ => fun
  | [d1, d2, d3, d4] => { results := [.lit (.bool true)], args := [d1, d2, d3, d4] }
  | _ => none }
def calendarSpansRow : OpenClaim := { program := "ytifkobejdldkbaadoor", sum := "6dc8f74d3b8540b8270e67051607e5c0f5ad7e64465335066cfc43818c89c6c3", func := "arrears/arrearslaw2.CalendarSpans", spec := "calendarSpans", named := ["arrears/calendar.ahead"], apart := false, laid := [("arrears/calendar.ahead", laid_arrears_calendar_ahead)] }
def CalendarSpansSaid : Prop := calendarSpansRow.holds Tryd.pinned (OpenSpec.ofChange calendarSpansSpec)

/-- ITS FALSE NEIGHBOUR: 'it returns false'. Refute it at one input. -/
def calendarSpansWrong : ChangeSpec := { name := "calendarSpans", fn := fun _ => fun
  | [d1, d2, d3, d4] => { results := [.lit (.bool false)], args := [d1, d2, d3, d4] }
  | _ => none }
def CalendarSpansWrongFalsely : Prop := calendarSpansRow.holds Tryd.pinned (OpenSpec.ofChange calendarSpansWrong)

/-- 'arrearslaw2.CalendarTextOrder': WHATEVER THE INPUT: true; the input reads as it did. -/
def calendarTextOrderSpec : ChangeSpec := { name := "calendarTextOrder", fn := fun _ => fun
  | [d1, d2, d3] => { results := [.lit (.bool true)], args := [d1, d2, d3] }
  | _ => none }
def calendarTextOrderRow : OpenClaim := { program := "ytifkobejdldkbaadoor", sum := "6dc8f74d3b8540b8270e67051607e5c0f5ad7e64465335066cfc43818c89c6c3", func := "arrears/arrearslaw2.CalendarTextOrder", spec := "calendarTextOrder", named := ["arrears/calendar.ahead"], apart := false, laid := [("arrears/calendar.ahead", laid_arrears_calendar_ahead)] }
def CalendarTextOrderSaid : Prop := calendarTextOrderRow.holds Tryd.pinned (OpenSpec.ofChange calendarTextOrderSpec)

/-- ITS FALSE NEIGHBOUR: 'it returns false'. Refute it at one input. -/
def calendarTextOrderWrong : ChangeSpec := { name := "calendarTextOrder", fn := fun _ => fun
  | [d1, d2, d3] => { results := [.lit (.bool false)], args := [d1, d2, d3] }
  | _ => none }
def CalendarTextOrderWrongFalsely : Prop := calendarTextOrderRow.holds Tryd.pinned (OpenSpec.ofChange calendarTextOrderWrong)

/-- 'arrearslaw2.CalendarTexts': WHATEVER THE INPUT: true; the input reads as it did. -/
def calendarTextsSpec : ChangeSpec := { name := "calendarTexts", fn := fun _ => fun
  | [d1, d2] => { results := [.lit (.bool true)], args := [d1, d2] }
  | _ => none }
def calendarTextsRow : OpenClaim := { program := "ytifkobejdldkbaadoor", sum := "6dc8f74d3b8540b8270e67051607e5c0f5ad7e64465335066cfc43818c89c6c3", func := "arrears/arrearslaw2.CalendarTexts", spec := "calendarTexts", named := ["arrears/calendar.ahead", "internal/strconv.uint64pow10", "math/bits.deBruijn32tab", "math/bits.deBruijn64tab"], apart := false, laid := [("math/bits.deBruijn32tab", laid_math_bits_deBruijn32tab), ("math/bits.deBruijn64tab", laid_math_bits_deBruijn64tab), ("internal/strconv.uint64pow10", laid_internal_strconv_uint64pow10), ("arrears/calendar.ahead", laid_arrears_calendar_ahead)] }
def CalendarTextsSaid : Prop := calendarTextsRow.holds Tryd.pinned (OpenSpec.ofChange calendarTextsSpec)

/-- ITS FALSE NEIGHBOUR: 'it returns false'. Refute it at one input. -/
def calendarTextsWrong : ChangeSpec := { name := "calendarTexts", fn := fun _ => fun
  | [d1, d2] => { results := [.lit (.bool false)], args := [d1, d2] }
  | _ => none }
def CalendarTextsWrongFalsely : Prop := calendarTextsRow.holds Tryd.pinned (OpenSpec.ofChange calendarTextsWrong)

/-- 'arrearslaw2.CalendarExact': WHATEVER THE INPUT: true; the input reads as it did. -/
def calendarExactSpec : ChangeSpec := { name := "calendarExact", fn := fun _ => fun
  | [d] => { results := [.lit (.bool true)], args := [d] }
  | _ => none }
def calendarExactRow : OpenClaim := { program := "ytifkobejdldkbaadoor", sum := "6dc8f74d3b8540b8270e67051607e5c0f5ad7e64465335066cfc43818c89c6c3", func := "arrears/arrearslaw2.CalendarExact", spec := "calendarExact", named := ["arrears/calendar.ahead", "internal/strconv.uint64pow10", "math/bits.deBruijn32tab", "math/bits.deBruijn64tab"], apart := false, laid := [("math/bits.deBruijn32tab", laid_math_bits_deBruijn32tab), ("math/bits.deBruijn64tab", laid_math_bits_deBruijn64tab), ("internal/strconv.uint64pow10", laid_internal_strconv_uint64pow10), ("arrears/calendar.ahead", laid_arrears_calendar_ahead)] }
def CalendarExactSaid : Prop := calendarExactRow.holds Tryd.pinned (OpenSpec.ofChange calendarExactSpec)

/-- ITS FALSE NEIGHBOUR: 'it returns false'. Refute it at one input. -/
def calendarExactWrong : ChangeSpec := { name := "calendarExact", fn := fun _ => fun
  | [d] => { results := [.lit (.bool false)], args := [d] }
  | _ => none }
def CalendarExactWrongFalsely : Prop := calendarExactRow.holds Tryd.pinned (OpenSpec.ofChange calendarExactWrong)

/- THE SECOND FORM. 'bulk': how many values and letters a reading holds, each counted each time it is reached (what is shared counts as often as it is met; a slice's spare places count too). A statement '..UptoSaid' is the law's where the arguments, and the package variables that the reading takes, are together of bulk at most 1048576: NARROWER than '..Said'. Prove '..Said' where nothing that the law and all that it calls make is longer than what came in: it says more and counts as full. Else prove '..UptoSaid'. A law counts once. -/
mutual
def uptoBulk {H : Type} : DataW H → Nat
  | .lit (.string bytes) => bytes.length + 1
  | .lit _ => 1
  | .nil => 1
  | .ptr d => uptoBulk d + 1
  | .slice elems spare => uptoBulkAll elems + uptoBulkAll spare + 1
  | .agg parts => uptoBulkAll parts + 1
  | .iface _ d => uptoBulk d + 1
  | .map entries => uptoBulkEntries entries + 1
  | .held _ => 1
def uptoBulkAll {H : Type} : List (DataW H) → Nat
  | [] => 0
  | d :: r => uptoBulk d + uptoBulkAll r
def uptoBulkEntries {H : Type} : List (Lit × DataW H) → Nat
  | [] => 0
  | x :: r => uptoBulkEntry x + uptoBulkEntries r
def uptoBulkEntry {H : Type} : Lit × DataW H → Nat
  | (.string bytes, d) => bytes.length + uptoBulk d + 1
  | (_, d) => uptoBulk d + 1
 end
def uptoSmall : (H : Type) → List (DataW H) → Bool := fun _ ds => decide (uptoBulkAll ds ≤ 1048576)
def OpenSpec.upto (s : _root_.Go.ChangeSpec) : _root_.Go.OpenSpec := { _root_.Go.OpenSpec.ofChange s with cond := some uptoSmall }

/-- 'arrearslaw2.CalendarDates', WHERE WHAT IT READS IS OF BULK AT MOST 1048576: true; the input reads as it did. -/
def calendarDatesUptoRow : OpenClaim := { program := "ytifkobejdldkbaadoor", sum := "6dc8f74d3b8540b8270e67051607e5c0f5ad7e64465335066cfc43818c89c6c3", func := "arrears/arrearslaw2.CalendarDates", spec := "calendarDates", named := ["arrears/calendar.ahead"], apart := false, laid := [("arrears/calendar.ahead", laid_arrears_calendar_ahead)], narrowed := true }
def CalendarDatesUptoSaid : Prop := calendarDatesUptoRow.holds Tryd.pinned (OpenSpec.upto calendarDatesSpec)

/-- 'arrearslaw2.CalendarDays', WHERE WHAT IT READS IS OF BULK AT MOST 1048576: true; the input reads as it did. -/
def calendarDaysUptoRow : OpenClaim := { program := "ytifkobejdldkbaadoor", sum := "6dc8f74d3b8540b8270e67051607e5c0f5ad7e64465335066cfc43818c89c6c3", func := "arrears/arrearslaw2.CalendarDays", spec := "calendarDays", named := ["arrears/calendar.ahead"], apart := false, laid := [("arrears/calendar.ahead", laid_arrears_calendar_ahead)], narrowed := true }
def CalendarDaysUptoSaid : Prop := calendarDaysUptoRow.holds Tryd.pinned (OpenSpec.upto calendarDaysSpec)

/-- 'arrearslaw2.CalendarGregorian', WHERE WHAT IT READS IS OF BULK AT MOST 1048576: true; the input reads as it did. -/
def calendarGregorianUptoRow : OpenClaim := { program := "ytifkobejdldkbaadoor", sum := "6dc8f74d3b8540b8270e67051607e5c0f5ad7e64465335066cfc43818c89c6c3", func := "arrears/arrearslaw2.CalendarGregorian", spec := "calendarGregorian", named := ["arrears/calendar.ahead"], apart := false, laid := [("arrears/calendar.ahead", laid_arrears_calendar_ahead)], narrowed := true }
def CalendarGregorianUptoSaid : Prop := calendarGregorianUptoRow.holds Tryd.pinned (OpenSpec.upto calendarGregorianSpec)

/-- 'arrearslaw2.CalendarCycle', WHERE WHAT IT READS IS OF BULK AT MOST 1048576: true; the input reads as it did. -/
def calendarCycleUptoRow : OpenClaim := { program := "ytifkobejdldkbaadoor", sum := "6dc8f74d3b8540b8270e67051607e5c0f5ad7e64465335066cfc43818c89c6c3", func := "arrears/arrearslaw2.CalendarCycle", spec := "calendarCycle", named := ["arrears/calendar.ahead"], apart := false, laid := [("arrears/calendar.ahead", laid_arrears_calendar_ahead)], narrowed := true }
def CalendarCycleUptoSaid : Prop := calendarCycleUptoRow.holds Tryd.pinned (OpenSpec.upto calendarCycleSpec)

/-- 'arrearslaw2.CalendarRoundTrip', WHERE WHAT IT READS IS OF BULK AT MOST 1048576: true; the input reads as it did. -/
def calendarRoundTripUptoRow : OpenClaim := { program := "ytifkobejdldkbaadoor", sum := "6dc8f74d3b8540b8270e67051607e5c0f5ad7e64465335066cfc43818c89c6c3", func := "arrears/arrearslaw2.CalendarRoundTrip", spec := "calendarRoundTrip", named := ["arrears/calendar.ahead"], apart := false, laid := [("arrears/calendar.ahead", laid_arrears_calendar_ahead)], narrowed := true }
def CalendarRoundTripUptoSaid : Prop := calendarRoundTripUptoRow.holds Tryd.pinned (OpenSpec.upto calendarRoundTripSpec)

/-- 'arrearslaw2.CalendarBetweens', WHERE WHAT IT READS IS OF BULK AT MOST 1048576: true; the input reads as it did. -/
def calendarBetweensUptoRow : OpenClaim := { program := "ytifkobejdldkbaadoor", sum := "6dc8f74d3b8540b8270e67051607e5c0f5ad7e64465335066cfc43818c89c6c3", func := "arrears/arrearslaw2.CalendarBetweens", spec := "calendarBetweens", named := ["arrears/calendar.ahead"], apart := false, laid := [("arrears/calendar.ahead", laid_arrears_calendar_ahead)], narrowed := true }
def CalendarBetweensUptoSaid : Prop := calendarBetweensUptoRow.holds Tryd.pinned (OpenSpec.upto calendarBetweensSpec)

/-- 'arrearslaw2.CalendarMonths', WHERE WHAT IT READS IS OF BULK AT MOST 1048576: true; the input reads as it did. -/
def calendarMonthsUptoRow : OpenClaim := { program := "ytifkobejdldkbaadoor", sum := "6dc8f74d3b8540b8270e67051607e5c0f5ad7e64465335066cfc43818c89c6c3", func := "arrears/arrearslaw2.CalendarMonths", spec := "calendarMonths", named := ["arrears/calendar.ahead"], apart := false, laid := [("arrears/calendar.ahead", laid_arrears_calendar_ahead)], narrowed := true }
def CalendarMonthsUptoSaid : Prop := calendarMonthsUptoRow.holds Tryd.pinned (OpenSpec.upto calendarMonthsSpec)

/-- 'arrearslaw2.CalendarMonthSteps', WHERE WHAT IT READS IS OF BULK AT MOST 1048576: true; the input reads as it did. -/
def calendarMonthStepsUptoRow : OpenClaim := { program := "ytifkobejdldkbaadoor", sum := "6dc8f74d3b8540b8270e67051607e5c0f5ad7e64465335066cfc43818c89c6c3", func := "arrears/arrearslaw2.CalendarMonthSteps", spec := "calendarMonthSteps", named := ["arrears/calendar.ahead"], apart := false, laid := [("arrears/calendar.ahead", laid_arrears_calendar_ahead)], narrowed := true }
def CalendarMonthStepsUptoSaid : Prop := calendarMonthStepsUptoRow.holds Tryd.pinned (OpenSpec.upto calendarMonthStepsSpec)

/-- 'arrearslaw2.CalendarAdjusts', WHERE WHAT IT READS IS OF BULK AT MOST 1048576: true; the input reads as it did. -/
def calendarAdjustsUptoRow : OpenClaim := { program := "ytifkobejdldkbaadoor", sum := "6dc8f74d3b8540b8270e67051607e5c0f5ad7e64465335066cfc43818c89c6c3", func := "arrears/arrearslaw2.CalendarAdjusts", spec := "calendarAdjusts", named := ["arrears/calendar.ahead"], apart := false, laid := [("arrears/calendar.ahead", laid_arrears_calendar_ahead)], narrowed := true }
def CalendarAdjustsUptoSaid : Prop := calendarAdjustsUptoRow.holds Tryd.pinned (OpenSpec.upto calendarAdjustsSpec)

/-- 'arrearslaw2.CalendarBusiness', WHERE WHAT IT READS IS OF BULK AT MOST 1048576: true; the input reads as it did. -/
def calendarBusinessUptoRow : OpenClaim := { program := "ytifkobejdldkbaadoor", sum := "6dc8f74d3b8540b8270e67051607e5c0f5ad7e64465335066cfc43818c89c6c3", func := "arrears/arrearslaw2.CalendarBusiness", spec := "calendarBusiness", named := ["arrears/calendar.ahead"], apart := false, laid := [("arrears/calendar.ahead", laid_arrears_calendar_ahead)], narrowed := true }
def CalendarBusinessUptoSaid : Prop := calendarBusinessUptoRow.holds Tryd.pinned (OpenSpec.upto calendarBusinessSpec)

/-- 'arrearslaw2.CalendarSpans', WHERE WHAT IT READS IS OF BULK AT MOST 1048576: true; the input reads as it did. -/
def calendarSpansUptoRow : OpenClaim := { program := "ytifkobejdldkbaadoor", sum := "6dc8f74d3b8540b8270e67051607e5c0f5ad7e64465335066cfc43818c89c6c3", func := "arrears/arrearslaw2.CalendarSpans", spec := "calendarSpans", named := ["arrears/calendar.ahead"], apart := false, laid := [("arrears/calendar.ahead", laid_arrears_calendar_ahead)], narrowed := true }
def CalendarSpansUptoSaid : Prop := calendarSpansUptoRow.holds Tryd.pinned (OpenSpec.upto calendarSpansSpec)

/-- 'arrearslaw2.CalendarTextOrder', WHERE WHAT IT READS IS OF BULK AT MOST 1048576: true; the input reads as it did. -/
def calendarTextOrderUptoRow : OpenClaim := { program := "ytifkobejdldkbaadoor", sum := "6dc8f74d3b8540b8270e67051607e5c0f5ad7e64465335066cfc43818c89c6c3", func := "arrears/arrearslaw2.CalendarTextOrder", spec := "calendarTextOrder", named := ["arrears/calendar.ahead"], apart := false, laid := [("arrears/calendar.ahead", laid_arrears_calendar_ahead)], narrowed := true }
def CalendarTextOrderUptoSaid : Prop := calendarTextOrderUptoRow.holds Tryd.pinned (OpenSpec.upto calendarTextOrderSpec)

/-- 'arrearslaw2.CalendarTexts', WHERE WHAT IT READS IS OF BULK AT MOST 1048576: true; the input reads as it did. -/
def calendarTextsUptoRow : OpenClaim := { program := "ytifkobejdldkbaadoor", sum := "6dc8f74d3b8540b8270e67051607e5c0f5ad7e64465335066cfc43818c89c6c3", func := "arrears/arrearslaw2.CalendarTexts", spec := "calendarTexts", named := ["arrears/calendar.ahead", "internal/strconv.uint64pow10", "math/bits.deBruijn32tab", "math/bits.deBruijn64tab"], apart := false, laid := [("math/bits.deBruijn32tab", laid_math_bits_deBruijn32tab), ("math/bits.deBruijn64tab", laid_math_bits_deBruijn64tab), ("internal/strconv.uint64pow10", laid_internal_strconv_uint64pow10), ("arrears/calendar.ahead", laid_arrears_calendar_ahead)], narrowed := true }
def CalendarTextsUptoSaid : Prop := calendarTextsUptoRow.holds Tryd.pinned (OpenSpec.upto calendarTextsSpec)

/-- 'arrearslaw2.CalendarExact', WHERE WHAT IT READS IS OF BULK AT MOST 1048576: true; the input reads as it did. -/
def calendarExactUptoRow : OpenClaim := { program := "ytifkobejdldkbaadoor", sum := "6dc8f74d3b8540b8270e67051607e5c0f5ad7e64465335066cfc43818c89c6c3", func := "arrears/arrearslaw2.CalendarExact", spec := "calendarExact", named := ["arrears/calendar.ahead", "internal/strconv.uint64pow10", "math/bits.deBruijn32tab", "math/bits.deBruijn64tab"], apart := false, laid := [("math/bits.deBruijn32tab", laid_math_bits_deBruijn32tab), ("math/bits.deBruijn64tab", laid_math_bits_deBruijn64tab), ("internal/strconv.uint64pow10", laid_internal_strconv_uint64pow10), ("arrears/calendar.ahead", laid_arrears_calendar_ahead)], narrowed := true }
def CalendarExactUptoSaid : Prop := calendarExactUptoRow.holds Tryd.pinned (OpenSpec.upto calendarExactSpec)

end Rows
end Go.Proofs.YtifkobejdldkbaaDoor
