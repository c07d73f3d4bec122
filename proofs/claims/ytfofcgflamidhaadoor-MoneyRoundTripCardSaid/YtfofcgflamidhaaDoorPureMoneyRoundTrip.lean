/- MoneyRoundTrip: what Format tells, Parse reads back; what Parse reads, Format tells again; no other amount is told so. This text is the part over numbers and bytes alone. -/
import Derived.Test.YtfofcgflamidhaaDoorMText
import Derived.Test.YtfofcgflamidhaaDoorPAx3
namespace Go.Proofs.YtfofcgflamidhaaDoor.Pure
open Go.RowKit Go.Proofs.YtfofcgflamidhaaDoor.PA Go.Proofs.YtfofcgflamidhaaDoorW.PrintWords Go.Proofs.YtfofcgflamidhaaDoorW.PrintLast Go.Proofs.YtfofcgflamidhaaDoor.MB Go.Proofs.YtfofcgflamidhaaDoor.MPars Go.Proofs.YtfofcgflamidhaaDoor.MByt Go.Proofs.YtfofcgflamidhaaDoor.MText
set_option linter.unusedVariables false
set_option linter.unusedSimpArgs false

theorem rt_j0 {x : Int} (hx : I64 x) (t : ByteArray) (ht : t.size ≤ 140737488351232) : Ev (fun k => arrearslaw1_MoneyRoundTrip.j0 k x t false) true := by
  obtain ⟨K, e⟩ := Ev_out (parse_ev t (by omega))
  refine ⟨K + 1, fun k hk => ?_⟩
  obtain ⟨k, rfl⟩ : ∃ j, k = j + 1 := ⟨k - 1, by omega⟩
  simp only [arrearslaw1_MoneyRoundTrip.j0]
  rw [if_neg Bool.false_ne_true, e k (by omega), Option.bind_some]
  cases hp : pv (byts t) with
  | mk z ok =>
    cases ok with
    | true =>
      obtain ⟨hz, ez⟩ := pv_back hp
      have es : strOfNums (fl z) = t := byts_inj (by rw [byts_fl, ez])
      rw [if_pos rfl, format_eq hz, Option.bind_some, es, beq_self_eq_true]
    | false =>
      rw [if_neg Bool.false_ne_true, if_pos (pv_none hp), format_eq hx, Option.bind_some]
      have hne : t.toList ≠ (strOfNums (fl x)).toList := fun g => by
        have e := text_inj g
        rw [e, byts_fl, pv_fl hx] at hp
        exact absurd (Prod.mk.inj hp).2 (by decide)
      rw [bne_iff_ne.2 hne]
theorem MoneyRoundTrip : arrearslaw1_MoneyRoundTrip.Pure := by
  intro x t hx ht
  have hx' := I64.of hx
  have hsz : (strOfNums (fl x)).size ≤ 4611686018427387904 := by
    rw [strOfNums_size]
    unfold fl
    rw [List.length_append, ul_len]
    have h1 := MDig.dd_len (n := x.natAbs / 100) (d := 20) (by unfold I64 at hx'; omega) (by omega)
    split <;> simp <;> omega
  obtain ⟨K1, e1⟩ := Ev_out (parse_ev (strOfNums (fl x)) hsz)
  obtain ⟨K2, e2⟩ := Ev_out (rt_j0 hx' t ht)
  rw [byts_fl, pv_fl hx'] at e1
  refine ⟨K1 + K2, ?_⟩
  simp only [arrearslaw1_MoneyRoundTrip.f]
  rw [format_eq hx', Option.bind_some, e1 _ (by omega), Option.bind_some, if_pos rfl, bne_self_eq_false]
  exact e2 _ (by omega)

end Go.Proofs.YtfofcgflamidhaaDoor.Pure
