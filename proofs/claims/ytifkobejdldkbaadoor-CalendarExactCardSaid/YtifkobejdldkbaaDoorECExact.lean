/- CalendarExact: whatever calls are made, in whatever order, each answers as the document says. Plain Lean over the printed functions. -/
import Derived.Test.YtifkobejdldkbaaDoorECMark
import Derived.Test.YtifkobejdldkbaaDoorECMonth
import Derived.Test.YtifkobejdldkbaaDoorECBtw
import Derived.Test.YtifkobejdldkbaaDoorECText2
import Derived.Test.YtifkobejdldkbaaDoorPEx3
import Derived.Test.YtifkobejdldkbaaDoorPEx2
import Derived.Test.YtifkobejdldkbaaDoorPEx5
import Derived.Test.YtifkobejdldkbaaDoorPEx4
import Derived.Test.YtifkobejdldkbaaDoorPEx15
import Derived.Test.YtifkobejdldkbaaDoorPEx16
import Derived.Test.YtifkobejdldkbaaDoorPEx17
namespace Go.Proofs.YtifkobejdldkbaaDoor.ECExact
open Go.RowKit Go.Proofs.YtifkobejdldkbaaDoor.PE Go.Proofs.YtifkobejdldkbaaDoorW.PrintWords Go.Proofs.YtifkobejdldkbaaDoorW.PrintLast Go.Proofs.YtifkobejdldkbaaDoorW.PrintMore Go.Proofs.YtifkobejdldkbaaDoor.EMB Go.Proofs.YtifkobejdldkbaaDoor.ECDate Go.Proofs.YtifkobejdldkbaaDoor.ECProg Go.Proofs.YtifkobejdldkbaaDoor.ECRef Go.Proofs.YtifkobejdldkbaaDoor.ECCivil Go.Proofs.YtifkobejdldkbaaDoor.ECDay Go.Proofs.YtifkobejdldkbaaDoor.ECMonth Go.Proofs.YtifkobejdldkbaaDoor.ECBtw Go.Proofs.YtifkobejdldkbaaDoor.ECAdj Go.Proofs.YtifkobejdldkbaaDoor.ECMark Go.Proofs.YtifkobejdldkbaaDoor.ECText Go.Proofs.YtifkobejdldkbaaDoor.ECText2
set_option linter.unusedVariables false
set_option linter.unusedSectionVars false
set_option linter.unusedSimpArgs false

theorem dates_ev (y m d : Int) : Ev (fun k => arrearslaw2_CalendarDates.f k y m d) true := by
  obtain ⟨K1, h1⟩ := Ev_out (monthLen_ev y m)
  obtain ⟨K2, h2⟩ := Ev_out (number_ev y m d)
  obtain ⟨K3, h3⟩ := Ev_out (refNumber_ev y m d)
  refine ⟨K1 + K2 + K3 + 1, fun k hk => ?_⟩
  obtain ⟨k, rfl⟩ : ∃ j, k = j + 1 := ⟨k - 1, by omega⟩
  simp only [arrearslaw2_CalendarDates.f]
  rw [leap_eq, refLeap_eq, h1 _ (by omega), refMonthLen_eq]
  simp only [Option.bind_some, bne_self_eq_false, Bool.false_eq_true, if_false, arrearslaw2_CalendarDates.j0]
  rw [h2 _ (by omega), h3 _ (by omega)]
  simp
theorem days_ev (n : Int) : Ev (fun k => arrearslaw2_CalendarDays.f k n) true := by
  obtain ⟨K1, h1⟩ := Ev_out (civ_ev n)
  obtain ⟨K2, h2⟩ := Ev_out (refCiv_ev n)
  refine ⟨K1 + K2 + 1, fun k hk => ?_⟩
  obtain ⟨k, rfl⟩ : ∃ j, k = j + 1 := ⟨k - 1, by omega⟩
  simp only [arrearslaw2_CalendarDays.f]
  rw [h1 _ (by omega), h2 _ (by omega)]
  simp only [Option.bind_some, bne_self_eq_false, if_true, arrearslaw2_CalendarDays.j0, Bool.false_eq_true, if_false]
  rw [weekday_eq, refWeekday_eq]
  simp
theorem months_ev (n s a : Int) : Ev (fun k => arrearslaw2_CalendarMonths.f k n s a) true := by
  obtain ⟨K1, h1⟩ := Ev_out (am_ev n s a)
  obtain ⟨K2, h2⟩ := Ev_out (refAm_ev n s a)
  refine ⟨K1 + K2, fun k hk => ?_⟩
  simp only [arrearslaw2_CalendarMonths.f]
  rw [h1 _ (by omega), h2 _ (by omega)]
  simp
theorem betweens_ev (a b c : Int) : Ev (fun k => arrearslaw2_CalendarBetweens.f k a b c) true := by
  obtain ⟨K1, h1⟩ := Ev_out (between_ev a b c)
  obtain ⟨K2, h2⟩ := Ev_out (refBetween_ev a b c)
  refine ⟨K1 + K2, fun k hk => ?_⟩
  simp only [arrearslaw2_CalendarBetweens.f]
  rw [h1 _ (by omega), h2 _ (by omega)]
  simp
theorem texts_ev (t : ByteArray) (n : Int) : Ev (fun k => arrearslaw2_CalendarTexts.f k t n) true := by
  obtain ⟨K1, e1⟩ := Ev_out (parse_ev t)
  obtain ⟨K2, e2⟩ := Ev_out (refParse_ev t)
  obtain ⟨K3, e3⟩ := Ev_out (format_ev n)
  obtain ⟨K4, e4⟩ := Ev_out (refFormat_ev n)
  refine ⟨K1 + K2 + K3 + K4 + 1, fun k hk => ?_⟩
  obtain ⟨k, rfl⟩ : ∃ j, k = j + 1 := ⟨k - 1, by omega⟩
  simp only [arrearslaw2_CalendarTexts.f]
  rw [e1 _ (by omega), Option.bind_some, e2 _ (by omega), Option.bind_some, if_pos rfl, bne_self_eq_false]
  simp only [arrearslaw2_CalendarTexts.j0]
  rw [if_neg Bool.false_ne_true, e3 _ (by omega), Option.bind_some, e4 _ (by omega), Option.bind_some, if_pos rfl, beq_self_eq_true]
theorem plays_ev (o : S51) : Ev (fun k => arrearslaw2_plays.f k o.f0 o.f1 o.f2 o.f3 o.f4 o.f5) true := by
  obtain ⟨K1, e1⟩ := Ev_out (dates_ev o.f1 o.f2 o.f3)
  obtain ⟨K2, e2⟩ := Ev_out (days_ev o.f1)
  obtain ⟨K3, e3⟩ := Ev_out (months_ev o.f1 o.f2 o.f3)
  obtain ⟨K4, e4⟩ := Ev_out (adjusts_ev o.f1 o.f4 o.f2)
  obtain ⟨K5, e5⟩ := Ev_out (betweens_ev o.f1 o.f2 o.f3)
  obtain ⟨K6, e6⟩ := Ev_out (texts_ev o.f5 o.f1)
  refine ⟨K1 + K2 + K3 + K4 + K5 + K6, fun k hk => ?_⟩
  simp only [arrearslaw2_plays.f]
  rw [e1 k (by omega), e2 k (by omega), e3 k (by omega), e4 k (by omega), e5 k (by omega), e6 k (by omega)]
  simp only [Option.bind_some]
  split
  · rfl
  · split
    · rfl
    · split
      · rfl
      · split
        · rfl
        · split
          · rfl
          · split <;> rfl
theorem exact_l0 (l : List S51) (hl : l.length ≤ 9223372036854775807) : ∀ d i : Nat, i + d = l.length → Ev (fun k => arrearslaw2_CalendarExact.l0 k l (i : Int)) true := by
  intro d
  induction d with
  | zero =>
    intro i hi
    obtain ⟨K, e⟩ := Ev_out (days_ev 1)
    refine ⟨K + 1, fun k hk => ?_⟩
    obtain ⟨k, rfl⟩ : ∃ j, k = j + 1 := ⟨k - 1, by omega⟩
    simp only [arrearslaw2_CalendarExact.l0]
    rw [if_neg (by omega), e k (by omega), Option.bind_some]
  | succ d ih =>
    intro i hi
    obtain ⟨K1, e1⟩ := Ev_out (plays_ev (rd_T51 l (i : Int)))
    obtain ⟨K2, e2⟩ := Ev_out (ih (i + 1) (by omega))
    refine ⟨K1 + K2 + 1, fun k hk => ?_⟩
    obtain ⟨k, rfl⟩ : ∃ j, k = j + 1 := ⟨k - 1, by omega⟩
    simp only [arrearslaw2_CalendarExact.l0]
    rw [if_pos (by omega), if_pos (by omega), e1 k (by omega), Option.bind_some, if_pos rfl, w64 (x := (i : Int) + 1) (by omega) (by omega)]
    exact e2 k (by omega)
theorem exact_ev (l : List S51) (hl : l.length ≤ 9223372036854775807) : Ev (fun k => arrearslaw2_CalendarExact.f k l) true := exact_l0 l hl l.length 0 (by omega)
end Go.Proofs.YtifkobejdldkbaaDoor.ECExact
