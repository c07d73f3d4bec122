/- MoneyRounds: MulDiv of any three numbers and Bps of any two answer the document's numbers: the exact fraction, a half to the even one, or a refusal. This text is the part over numbers alone. -/
import Derived.Test.YtfofcgflamidhaaMRef2
import Derived.Test.YtfofcgflamidhaaPAllx7
namespace Go.Proofs.Ytfofcgflamidhaa.Pure
open Go.RowKit Go.Proofs.Ytfofcgflamidhaa.PAll Go.Proofs.YtfofcgflamidhaaW.PrintWords Go.Proofs.YtfofcgflamidhaaW.PrintLast Go.Proofs.Ytfofcgflamidhaa.MB Go.Proofs.Ytfofcgflamidhaa.MMul Go.Proofs.Ytfofcgflamidhaa.MRef2
set_option linter.unusedVariables false
set_option linter.unusedSectionVars false
set_option linter.unusedSimpArgs false

theorem MoneyRounds : arrearslaw1_MoneyRounds.Pure := by
  intro a b c ha hb hc
  obtain ⟨K1, h1⟩ := Ev_out (muldiv_ev a b c (I64.of ha) (I64.of hb) (I64.of hc))
  obtain ⟨K2, h2⟩ := Ev_out (ref_muldiv_ev a b c (I64.of ha) (I64.of hb) (I64.of hc))
  obtain ⟨K3, h3⟩ := Ev_out (muldiv_ev a b 10000 (I64.of ha) (I64.of hb) (by unfold I64; omega))
  obtain ⟨K4, h4⟩ := Ev_out (ref_muldiv_ev a b 10000 (I64.of ha) (I64.of hb) (by unfold I64; omega))
  refine ⟨K1 + K2 + K3 + K4 + 1, ?_⟩
  simp only [arrearslaw1_MoneyRounds.f]
  rw [h1 _ (by omega), h2 _ (by omega)]
  simp only [Option.bind_some, if_true, bne_self_eq_false, arrearslaw1_MoneyRounds.j0, Bool.false_eq_true, if_false, money_Bps.f, arrearsref1_Bps.f]
  rw [h3 _ (by omega), h4 _ (by omega)]
  simp

end Go.Proofs.Ytfofcgflamidhaa.Pure
