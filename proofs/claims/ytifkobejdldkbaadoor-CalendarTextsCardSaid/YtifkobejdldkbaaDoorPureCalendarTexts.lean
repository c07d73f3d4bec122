/- CalendarTexts: ParseDate of any text and FormatDate of any number are the document's. This text is the part over numbers and bytes alone. -/
import Derived.Test.YtifkobejdldkbaaDoorCText2
import Derived.Test.YtifkobejdldkbaaDoorPAx21
namespace Go.Proofs.YtifkobejdldkbaaDoor.Pure
open Go.RowKit Go.Proofs.YtifkobejdldkbaaDoor.PA Go.Proofs.YtifkobejdldkbaaDoorW.PrintWords Go.Proofs.YtifkobejdldkbaaDoorW.PrintLast Go.Proofs.YtifkobejdldkbaaDoor.MB Go.Proofs.YtifkobejdldkbaaDoor.CDate Go.Proofs.YtifkobejdldkbaaDoor.CText Go.Proofs.YtifkobejdldkbaaDoor.CText2
set_option linter.unusedVariables false
set_option linter.unusedSimpArgs false

theorem texts_ev (t : ByteArray) (n : Int) : Ev (fun k => arrearslaw2_CalendarTexts.f k t n) true := by
  obtain ⟨K1, e1⟩ := Ev_out (parse_ev t)
  obtain ⟨K2, e2⟩ := Ev_out (refParse_ev t)
  obtain ⟨K3, e3⟩ := Ev_out (format_ev n)
  obtain ⟨K4, e4⟩ := Ev_out (refFormat_ev n)
  refine ⟨K1 + K2 + K3 + K4 + 1, fun k hk => ?_⟩
  obtain ⟨k, rfl⟩ : ∃ j, k = j + 1 := ⟨k - 1, by omega⟩
  simp only [arrearslaw2_CalendarTexts.f]
  rw [e1 _ (by omega), Option.bind_some, e2 _ (by omega), Option.bind_some, if_pos rfl, bne_self_eq_false]
  simp only [arrearslaw2_CalendarTexts.j0]
  rw [if_neg Bool.false_ne_true, e3 _ (by omega), Option.bind_some, e4 _ (by omega), Option.bind_some, if_pos rfl, beq_self_eq_true]
theorem CalendarTexts : arrearslaw2_CalendarTexts.Pure := by
  intro t n ht hn
  obtain ⟨K, e⟩ := Ev_out (texts_ev t n)
  exact ⟨K, e K (by omega)⟩

end Go.Proofs.YtifkobejdldkbaaDoor.Pure
