/- The order of keys: what timerq.order answers, and the queue's 'before'. Condition: both places are within the row. -/
import Derived.Test.YtkbbngkfncbgkaaDoorZTQSwap
import Derived.Test.YtkbbngkfncbgkaaDoorZPAx3
namespace Go.Proofs.YtkbbngkfncbgkaaDoor.TQOrd
open Go.RowKit Go.Maps Go.Proofs.YtkbbngkfncbgkaaDoor.IQHeap Go.Proofs.YtkbbngkfncbgkaaDoor.TQWords Go.Proofs.YtkbbngkfncbgkaaDoor.TQSwap Go.Proofs.YtkbbngkfncbgkaaDoor.PA
set_option linter.unusedVariables false
set_option linter.unusedSimpArgs false
def ltK (a b : Ky) : Bool := if a.d = b.d then (if a.l = b.l then decide (a.k < b.k) else decide (a.l < b.l)) else decide (a.d < b.d)
def ltI (x y : It) : Bool := ltK x.1 y.1
theorem ltK_iff (a b : Ky) : ltK a b = true ↔ (a.d < b.d ∨ (a.d = b.d ∧ (a.l < b.l ∨ (a.l = b.l ∧ a.k < b.k)))) := by
  unfold ltK
  split
  · split
    · simp; omega
    · simp; omega
  · simp; omega
theorem ltK_not (a b : Ky) : ltK a b = false ↔ ¬ (a.d < b.d ∨ (a.d = b.d ∧ (a.l < b.l ∨ (a.l = b.l ∧ a.k < b.k)))) := by
  rw [← ltK_iff]
  simp
theorem wo : WO ltI where
  irr a := by unfold ltI; rw [ltK_not]; omega
  asy a b h := by
    unfold ltI at *
    rw [ltK_iff] at h
    rw [ltK_not]
    omega
  ntr a b c h1 h2 := by
    unfold ltI at *
    rw [ltK_not] at *
    omega
theorem ltK_total {a b : Ky} (h1 : ltK a b = false) (h2 : ltK b a = false) : a = b := by
  rw [ltK_not] at h1 h2
  cases a
  cases b
  simp only [Go.Proofs.YtkbbngkfncbgkaaDoor.IQWords.Ky.mk.injEq] at *
  omega
theorem cmp_is (a b : Int) : cmp_Compare_int.f a b = some (if a < b then -1 else if a > b then 1 else 0) := by
  simp only [cmp_Compare_int.f, cmp_isNaN_int.f, Option.bind_some]
  simp only [bne_self_eq_false, Bool.false_eq_true, if_false]
  split
  · rfl
  · split <;> rfl
theorem or_is (x y z : Int) : cmp_Or_int.f 4 [x, y, z] = some (if x = 0 then (if y = 0 then z else y) else x) := by
  unfold cmp_Or_int.f
  have w1 : wrap64 ((0 : Int) + 1) = 1 := by kernel_rfl
  have w2 : wrap64 ((1 : Int) + 1) = 2 := by kernel_rfl
  have w3 : wrap64 ((2 : Int) + 1) = 3 := by kernel_rfl
  simp only [cmp_Or_int.l0, List.length_cons, List.length_nil, w1, w2, w3]
  by_cases hx : x = 0
  · by_cases hy : y = 0
    · by_cases hz : z = 0
      · simp [Go.Proofs.YtkbbngkfncbgkaaDoorW.PrintWords.rd, hx, hy, hz]
      · simp [Go.Proofs.YtkbbngkfncbgkaaDoorW.PrintWords.rd, hx, hy, hz]
    · simp [Go.Proofs.YtkbbngkfncbgkaaDoorW.PrintWords.rd, hx, hy]
  · simp [Go.Proofs.YtkbbngkfncbgkaaDoorW.PrintWords.rd, hx]
theorem order_is (a b : Ky) : ∃ r, timerq_order.f 4 a.d a.l a.k b.d b.l b.k = some r ∧ decide (r < 0) = ltK a b := by
  unfold timerq_order.f
  rw [cmp_is, cmp_is, cmp_is]
  simp only [Option.bind_some]
  rw [or_is]
  refine ⟨_, rfl, ?_⟩
  unfold ltK
  by_cases h1 : a.d = b.d
  · simp only [h1, if_true, Int.lt_irrefl, gt_iff_lt, if_false]
    by_cases h2 : a.l = b.l
    · simp only [h2, if_true, Int.lt_irrefl, gt_iff_lt, if_false]
      by_cases h3 : a.k < b.k
      · simp [h3]
      · by_cases h4 : b.k < a.k
        · simp [h3, h4]
        · simp [h3, h4]
    · by_cases h3 : a.l < b.l
      · simp [h2, h3]
      · have h4 : b.l < a.l := by omega
        simp [h2, h3, h4]
  · by_cases h3 : a.d < b.d
    · simp [h1, h3]
    · have h4 : b.d < a.d := by omega
      simp [h1, h3, h4]
theorem order_calls (a b : Ky) (w : World) : Calls Tryd.prog 57 #[kv a, kv b] w fun e w' => ∃ r : Int, e = .returned (.int .i64 r) ∧ decide (r < 0) = ltK a b ∧ Below w.heap.size w w' := by
  obtain ⟨r, h1, h2⟩ := order_is a b
  exact (timerq_order.calls 4 a.d a.l a.k b.d b.l b.k r w h1).mono fun e w' h => ⟨r, h.1, h2, h.2⟩
set_option maxHeartbeats 4000000 in
set_option maxRecDepth 1000000 in
theorem before_calls (qb mb i j : Nat) (v : Value) (L : List It) (w : World) (hi : i < L.length) (hj : j < L.length) (hQ : QS w qb v mb L) :
    Calls Tryd.prog 59 #[.pointer (some ⟨qb, 0, none⟩), .int .i64 i, .int .i64 j] w fun e w' => e = .returned (.bool (ltI (at_ d0 L i) (at_ d0 L j))) ∧ Below w.heap.size w w' := by
  obtain ⟨b, cap, rfl⟩ := hQ.row.form (by omega)
  obtain ⟨x, hx⟩ : ∃ x, at_ d0 L i = x := ⟨_, rfl⟩
  obtain ⟨y, hy⟩ : ∃ y, at_ d0 L j = y := ⟨_, rfl⟩
  have q0 := hQ.c0
  have c0 : w.cell? ⟨b, i * 4, none⟩ = some (.int .i64 x.1.d) := by rw [← hx]; exact hQ.row.cell hi 0 (by decide)
  have c1 : w.cell? ⟨b, i * 4 + 1, none⟩ = some (.int .i64 x.1.l) := by rw [← hx]; exact hQ.row.cell hi 1 (by decide)
  have c2 : w.cell? ⟨b, i * 4 + 2, none⟩ = some (.int .i64 x.1.k) := by rw [← hx]; exact hQ.row.cell hi 2 (by decide)
  have e0 : w.cell? ⟨b, j * 4, none⟩ = some (.int .i64 y.1.d) := by rw [← hy]; exact hQ.row.cell hj 0 (by decide)
  have e1 : w.cell? ⟨b, j * 4 + 1, none⟩ = some (.int .i64 y.1.l) := by rw [← hy]; exact hQ.row.cell hj 1 (by decide)
  have e2 : w.cell? ⟨b, j * 4 + 2, none⟩ = some (.int .i64 y.1.k) := by rw [← hy]; exact hQ.row.cell hj 2 (by decide)
  have im : (i : Int) < (L.length : Int) := by omega
  have jm : (j : Int) < (L.length : Int) := by omega
  rw [hx, hy]
  clear hQ hx hy
  go_enter Tryd.func59, Tryd.ntmps59
  go_wp2
  go_still_tail 16, (by kernel_rfl)
  change wpList _ _ _ _ _ w.drew
  go_wp2_with (first | (go_at_call 57; refine (order_calls x.1 y.1 _).mono ?_; rintro e w' ⟨r, rfl, hr, hb⟩))
  go_ret
  refine ⟨?_, ⟨hb.os, hb.tape, hb.output, hb.size, hb.block⟩⟩
  rfl
end Go.Proofs.YtkbbngkfncbgkaaDoor.TQOrd
