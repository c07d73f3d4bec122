/- What the parts of a Split are: no cent is lost, a weight of 0 gets nothing, a greater weight never gets less, of equal weights the first gets as much or a cent more. Plain Lean over lists. -/
import Derived.Test.YtfofcgflamidhaaMSplit
namespace Go.Proofs.Ytfofcgflamidhaa.MShare
open Go.RowKit Go.Proofs.Ytfofcgflamidhaa.PAll Go.Proofs.YtfofcgflamidhaaW.PrintWords Go.Proofs.YtfofcgflamidhaaW.PrintLast Go.Proofs.YtfofcgflamidhaaW.PrintMore Go.Proofs.Ytfofcgflamidhaa.MB Go.Proofs.Ytfofcgflamidhaa.MMul Go.Proofs.Ytfofcgflamidhaa.MSplit
set_option linter.unusedVariables false
set_option linter.unusedSectionVars false
set_option linter.unusedSimpArgs false

theorem sum_set : ∀ (l : List Int) (k : Nat) (x : Int), k < l.length → (l.set k (l.getD k 0 + x)).sum = l.sum + x
  | [], _, _, h => by simp at h
  | y :: l, 0, x, _ => by simp; omega
  | y :: l, k + 1, x, h => by
    have := sum_set l k x (by simpa using h)
    simp only [List.set_cons_succ, List.getD_cons_succ, List.sum_cons]
    rw [this]
    omega
theorem getD_set (l : List Int) (k i : Nat) (x : Int) (hk : k < l.length) : (l.set k x).getD i 0 = if k = i then x else l.getD i 0 := by
  rw [List.getD_eq_getElem?_getD, List.getElem?_set]
  by_cases c : k = i
  · rw [if_pos c, if_pos c, if_pos hk]
    rfl
  · rw [if_neg c, if_neg c, List.getD_eq_getElem?_getD]
theorem getD_map (f : Int → Int) (l : List Int) (i : Nat) (h : i < l.length) : (l.map f).getD i 0 = f (l.getD i 0) := by
  rw [List.getD_eq_getElem?_getD, List.getElem?_map, List.getD_eq_getElem?_getD, List.getElem?_eq_getElem h]
  rfl
theorem sum_nonneg : ∀ (l : List Int), (∀ x ∈ l, 0 ≤ x) → 0 ≤ l.sum
  | [], _ => Int.le_refl _
  | y :: l, h => by
    have h1 := h y (by simp)
    have h2 := sum_nonneg l (fun x hx => h x (by simp [hx]))
    rw [List.sum_cons]
    omega
theorem mem_le_sum : ∀ (l : List Int), (∀ x ∈ l, 0 ≤ x) → ∀ x ∈ l, x ≤ l.sum
  | [], _, _, h => by simp at h
  | y :: l, h, x, hx => by
    have h1 := h y (by simp)
    have h2 := sum_nonneg l (fun x hx => h x (by simp [hx]))
    rw [List.sum_cons]
    rcases List.mem_cons.mp hx with rfl | hx
    · omega
    · have := mem_le_sum l (fun x hx => h x (by simp [hx])) x hx
      omega
theorem some_pos : ∀ (l : List Int), 0 < l.sum → ∃ i, i < l.length ∧ 0 < l.getD i 0
  | [], h => by simp at h
  | y :: l, h => by
    by_cases c : 0 < y
    · exact ⟨0, by simp, by simpa using c⟩
    · rw [List.sum_cons] at h
      obtain ⟨i, h1, h2⟩ := some_pos l (by omega)
      exact ⟨i + 1, by simpa using h1, by simpa using h2⟩

def IsBest (R : List Int) (k m : Nat) : Prop := m < k ∧ ∀ j, j < k → R.getD j 0 ≤ R.getD m 0 ∧ (j < m → R.getD j 0 < R.getD m 0)
theorem bestL_best (R : List Int) : ∀ (d i b : Nat), IsBest R i b → IsBest R (i + d) (bestL R d b i)
  | 0, _, _, h => h
  | d + 1, i, b, h => by
    obtain ⟨h1, h2⟩ := h
    unfold bestL
    have e : i + (d + 1) = i + 1 + d := by omega
    rw [e]
    split
    · rename_i c
      refine bestL_best R d (i + 1) i ⟨by omega, fun j hj => ?_⟩
      rcases Nat.lt_or_ge j i with z | z
      · have := (h2 j z).1
        exact ⟨by omega, fun _ => by omega⟩
      · obtain rfl : j = i := by omega
        exact ⟨Int.le_refl _, fun z => by omega⟩
    · rename_i c
      refine bestL_best R d (i + 1) b ⟨by omega, fun j hj => ?_⟩
      rcases Nat.lt_or_ge j i with z | z
      · exact h2 j z
      · obtain rfl : j = i := by omega
        exact ⟨by omega, fun z => by omega⟩
theorem best_best (R : List Int) (h : 1 ≤ R.length) : IsBest R R.length (best R) := by
  have := bestL_best R (R.length - 1) 1 0 ⟨by omega, fun j hj => by
    obtain rfl : j = 0 := by omega
    exact ⟨Int.le_refl _, fun z => absurd z (by omega)⟩⟩
  rw [show 1 + (R.length - 1) = R.length by omega] at this
  exact this

def pos (x : Int) : Int := if x < 0 then 0 else x
section
variable (a W : Int) (l : List Int) (ha : 0 ≤ a) (ha1 : a ≤ 9223372036854775807) (hW : W = l.sum) (hW0 : 0 < W) (hl : ∀ x ∈ l, 0 ≤ x)
include ha ha1 hW hW0 hl
theorem qr (w : Int) (hw : w ∈ l) : qf a W w = a * w / W ∧ rf a W w = a * w % W ∧ 0 ≤ qf a W w ∧ qf a W w ≤ a ∧ 0 ≤ rf a W w ∧ rf a W w < W ∧ qf a W w * W + rf a W w = a * w := by
  have w0 := hl w hw
  have w1 : w ≤ W := by rw [hW]; exact mem_le_sum l hl w hw
  have p0 : 0 ≤ a * w := Int.mul_nonneg ha w0
  have p1 : a * w ≤ a * W := Int.mul_le_mul_of_nonneg_left w1 ha
  have q0 : 0 ≤ a * w / W := Int.ediv_nonneg p0 (by omega)
  have q1 : a * w / W ≤ a := by
    have := Int.ediv_le_ediv hW0 p1
    rw [Int.mul_ediv_cancel _ (by omega)] at this
    exact this
  have r0 := Int.emod_nonneg (a * w) (show W ≠ 0 by omega)
  have r1 := Int.emod_lt_of_pos (a * w) hW0
  have e := Int.mul_ediv_add_emod (a * w) W
  rw [Int.mul_comm] at e
  have m : mfloor a w W = (a * w / W, a * w % W, true) := by unfold mfloor; rw [if_neg (by omega), if_pos ⟨by omega, by omega⟩]
  unfold qf rf
  rw [m]
  exact ⟨rfl, rfl, q0, q1, r0, r1, e⟩
theorem sums_eq : ∀ (m : List Int), (∀ x ∈ m, x ∈ l) → (m.map (qf a W)).sum * W + (m.map (rf a W)).sum = a * m.sum
  | [], _ => by simp
  | y :: m, h => by
    have h1 := (qr a W l ha ha1 hW hW0 hl y (h y (by simp))).2.2.2.2.2.2
    have h2 := sums_eq m (fun x hx => h x (by simp [hx]))
    simp only [List.map_cons, List.sum_cons]
    rw [Int.add_mul, Int.mul_add]
    omega
theorem left_fold : ∀ (m : List Int), (∀ x ∈ m, x ∈ l) → ∀ acc : Int, acc ≤ 9223372036854775807 → 0 ≤ acc - (m.map (qf a W)).sum → m.foldl (fun acc w => wrap64 (acc - qf a W w)) acc = acc - (m.map (qf a W)).sum
  | [], _, acc, _, _ => by simp
  | y :: m, h, acc, h1, h2 => by
    have hq := (qr a W l ha ha1 hW hW0 hl y (h y (by simp))).2.2.1
    have hs : 0 ≤ (m.map (qf a W)).sum := sum_nonneg _ (fun x hx => by
      obtain ⟨z, hz, rfl⟩ := List.mem_map.mp hx
      exact (qr a W l ha ha1 hW hW0 hl z (h z (by simp [hz]))).2.2.1)
    simp only [List.map_cons, List.sum_cons] at h2 ⊢
    rw [List.foldl_cons, w64 (by omega) (by omega), left_fold m (fun x hx => h x (by simp [hx])) _ (by omega) (by omega)]
    omega
theorem left_eq : left0 a W l = a - (l.map (qf a W)).sum ∧ 0 ≤ left0 a W l ∧ left0 a W l * W = (l.map (rf a W)).sum := by
  have e := sums_eq a W l ha ha1 hW hW0 hl l (fun x hx => hx)
  rw [← hW] at e
  have hs : 0 ≤ (l.map (rf a W)).sum := sum_nonneg _ (fun x hx => by
    obtain ⟨z, hz, rfl⟩ := List.mem_map.mp hx
    exact (qr a W l ha ha1 hW hW0 hl z hz).2.2.2.2.1)
  have le : (l.map (qf a W)).sum ≤ a := by
    have : (l.map (qf a W)).sum * W ≤ a * W := by omega
    exact Int.le_of_mul_le_mul_right this hW0
  have h := left_fold a W l ha ha1 hW hW0 hl l (fun x hx => hx) a ha1 (by omega)
  unfold left0
  rw [h]
  refine ⟨rfl, by omega, ?_⟩
  rw [Int.sub_mul]
  omega

structure Inv (t : Int) (P R : List Int) : Prop where
  lenP : P.length = l.length
  lenR : R.length = l.length
  each : ∀ i, i < l.length → (R.getD i 0 = -1 ∧ P.getD i 0 = qf a W (l.getD i 0) + 1 ∧ 0 < rf a W (l.getD i 0)) ∨ (R.getD i 0 = rf a W (l.getD i 0) ∧ P.getD i 0 = qf a W (l.getD i 0))
  closed : ∀ i j, i < l.length → j < l.length → R.getD i 0 = -1 → R.getD j 0 ≠ -1 → rf a W (l.getD j 0) < rf a W (l.getD i 0) ∨ (rf a W (l.getD j 0) = rf a W (l.getD i 0) ∧ i < j)
  total : P.sum = (l.map (qf a W)).sum + t
  more : left0 a W l * W - t * (W - 1) ≤ (R.map pos).sum
theorem inv_start : Inv a W l 0 (l.map (qf a W)) (l.map (rf a W)) := by
  obtain ⟨e1, e2, e3⟩ := left_eq a W l ha ha1 hW hW0 hl
  refine ⟨List.length_map _, List.length_map _, fun i hi => .inr ⟨getD_map _ _ _ hi, getD_map _ _ _ hi⟩, fun i j hi hj h => ?_, by omega, ?_⟩
  · rw [getD_map _ _ _ hi] at h
    have := (qr a W l ha ha1 hW hW0 hl _ (rd_mem hi)).2.2.2.2.1
    omega
  · have : (l.map (rf a W)).map pos = l.map (rf a W) := by
      rw [List.map_map]
      refine List.map_congr_left (fun x hx => ?_)
      have := (qr a W l ha ha1 hW hW0 hl x hx).2.2.2.2.1
      show pos (rf a W x) = rf a W x
      unfold pos
      rw [if_neg (by omega)]
    rw [this, e3]
    omega
theorem inv_bump (t : Int) (P R : List Int) (h : Inv a W l t P R) (ht0 : 0 ≤ t) (ht : t < left0 a W l) : Inv a W l (t + 1) (bump (P, R)).1 (bump (P, R)).2 := by
  obtain ⟨lenP, lenR, each, closed, total, more⟩ := h
  -- something is left to be given
  have room : 0 < (R.map pos).sum := by
    have h1 : (t + 1) * (W - 1) ≤ left0 a W l * (W - 1) := Int.mul_le_mul_of_nonneg_right (by omega) (by omega)
    have h2 : left0 a W l * (W - 1) = left0 a W l * W - left0 a W l := by rw [Int.mul_sub, Int.mul_one]
    have h3 : (t + 1) * (W - 1) = t * (W - 1) + (W - 1) := by rw [Int.add_mul, Int.one_mul]
    omega
  obtain ⟨i, hi, hip⟩ := some_pos _ room
  rw [List.length_map] at hi
  have hRi : 0 < R.getD i 0 := by
    rw [getD_map _ _ _ hi] at hip
    unfold pos at hip
    split at hip <;> omega
  obtain ⟨hb, hbest⟩ := best_best R (by omega)
  have hbl : best R < l.length := by omega
  have hRb : 0 < R.getD (best R) 0 := by have := (hbest i hi).1; omega
  obtain ⟨eR, eP⟩ : R.getD (best R) 0 = rf a W (l.getD (best R) 0) ∧ P.getD (best R) 0 = qf a W (l.getD (best R) 0) := by
    rcases each _ hbl with z | z
    · omega
    · exact z
  obtain ⟨_, _, q0, q1, r0, r1, qe⟩ := qr a W l ha ha1 hW hW0 hl _ (rd_mem hbl)
  have qlt : qf a W (l.getD (best R) 0) < a := by
    have w1 : l.getD (best R) 0 ≤ W := by rw [hW]; exact mem_le_sum l hl _ (rd_mem hbl)
    have p1 : a * l.getD (best R) 0 ≤ a * W := Int.mul_le_mul_of_nonneg_left w1 ha
    exact Int.lt_of_mul_lt_mul_right (show qf a W (l.getD (best R) 0) * W < a * W by omega) (by omega)
  have ew : wrap64 (P.getD (best R) 0 + 1) = P.getD (best R) 0 + 1 := w64 (by omega) (by omega)
  unfold bump
  simp only [ew]
  refine ⟨by rw [List.length_set, lenP], by rw [List.length_set, lenR], fun j hj => ?_, fun j k hj hk h1 h2 => ?_, ?_, ?_⟩
  · rw [getD_set _ _ _ _ (by omega), getD_set _ _ _ _ (by omega)]
    by_cases c : best R = j
    · rw [if_pos c, if_pos c]
      subst c
      exact .inl ⟨rfl, by omega, by omega⟩
    · rw [if_neg c, if_neg c]
      exact each j hj
  · rw [getD_set _ _ _ _ (by omega)] at h1 h2
    have ck : best R ≠ k := fun c => by rw [if_pos c] at h2; exact h2 rfl
    rw [if_neg ck] at h2
    have ek : R.getD k 0 = rf a W (l.getD k 0) := by
      rcases each k hk with z | z
      · exact absurd z.1 h2
      · exact z.1
    by_cases c : best R = j
    · obtain ⟨m1, m2⟩ := hbest k (by omega)
      subst c
      rw [← eR, ← ek]
      rcases Int.lt_or_le (R.getD k 0) (R.getD (best R) 0) with z | z
      · exact .inl z
      · refine .inr ⟨by omega, ?_⟩
        rcases Nat.lt_or_ge k (best R) with y | y
        · exact absurd (m2 y) (by omega)
        · omega
    · rw [if_neg c] at h1
      exact closed j k hj hk h1 h2
  · rw [sum_set _ _ _ (by omega), total]
    omega
  · rw [List.map_set]
    have e1 : (R.map pos).getD (best R) 0 = R.getD (best R) 0 := by
      rw [getD_map _ _ _ hb]
      unfold pos
      rw [if_neg (by omega)]
    have e2 : pos (-1) = (R.map pos).getD (best R) 0 + -(R.getD (best R) 0) := by rw [e1]; unfold pos; rw [if_pos (by omega)]; omega
    rw [e2, sum_set _ _ _ (by rw [List.length_map]; exact hb), Int.add_mul, Int.one_mul]
    omega
theorem inv_bumps : ∀ (m : Nat) (t : Int) (P R : List Int), Inv a W l t P R → 0 ≤ t → t + (m : Int) ≤ left0 a W l → Inv a W l (t + m) (bumps m (P, R)).1 (bumps m (P, R)).2
  | 0, t, P, R, h, _, _ => by
    rw [show t + ((0 : Nat) : Int) = t by omega]
    exact h
  | m + 1, t, P, R, h, h0, h1 => by
    have hb := inv_bump a W l ha ha1 hW hW0 hl t P R h h0 (by omega)
    have := inv_bumps m (t + 1) _ _ hb (by omega) (by omega)
    rw [show t + ((m + 1 : Nat) : Int) = t + 1 + (m : Int) by omega]
    exact this
/-- The parts. -/
theorem parts_ok : ∃ R, Inv a W l (left0 a W l) (bumps (left0 a W l).toNat (l.map (qf a W), l.map (rf a W))).1 R ∧ (bumps (left0 a W l).toNat (l.map (qf a W), l.map (rf a W))).1.sum = a := by
  obtain ⟨e1, e2, e3⟩ := left_eq a W l ha ha1 hW hW0 hl
  have h := inv_bumps a W l ha ha1 hW hW0 hl (left0 a W l).toNat 0 _ _ (inv_start a W l ha ha1 hW hW0 hl) (Int.le_refl _) (by omega)
  rw [show (0 : Int) + ((left0 a W l).toNat : Int) = left0 a W l by omega] at h
  exact ⟨_, h, by rw [h.total]; omega⟩
theorem part_facts (t : Int) (P R : List Int) (h : Inv a W l t P R) :
    (∀ i, i < l.length → 0 ≤ P.getD i 0 ∧ P.getD i 0 ≤ a + 1 ∧ (l.getD i 0 = 0 → P.getD i 0 = 0)) ∧
    (∀ i j, i < l.length → j < l.length → l.getD i 0 > l.getD j 0 → P.getD j 0 ≤ P.getD i 0) ∧
    (∀ i j, i < j → j < l.length → l.getD i 0 = l.getD j 0 → P.getD i 0 = P.getD j 0 ∨ P.getD i 0 = P.getD j 0 + 1) := by
  obtain ⟨lenP, lenR, each, closed, total, more⟩ := h
  refine ⟨fun i hi => ?_, fun i j hi hj hw => ?_, fun i j hij hj hw => ?_⟩
  · obtain ⟨qd, rdd, q0, q1, r0, r1, qe⟩ := qr a W l ha ha1 hW hW0 hl _ (rd_mem hi)
    refine ⟨by rcases each i hi with z | z <;> omega, by rcases each i hi with z | z <;> omega, fun z => ?_⟩
    rw [z, Int.mul_zero, Int.zero_ediv] at qd
    rw [z, Int.mul_zero, Int.zero_emod] at rdd
    rcases each i hi with y | y <;> rw [z] at y <;> omega
  · obtain ⟨qdi, rdi, q0i, q1i, r0i, r1i, qei⟩ := qr a W l ha ha1 hW hW0 hl _ (rd_mem hi)
    obtain ⟨qdj, rdj, q0j, q1j, r0j, r1j, qej⟩ := qr a W l ha ha1 hW hW0 hl _ (rd_mem hj)
    have mono : a * l.getD j 0 ≤ a * l.getD i 0 := Int.mul_le_mul_of_nonneg_left (by omega) ha
    have qm : qf a W (l.getD j 0) ≤ qf a W (l.getD i 0) := by rw [qdi, qdj]; exact Int.ediv_le_ediv hW0 mono
    rcases each i hi with ⟨i1, i2, i3⟩ | ⟨i1, i2⟩ <;> rcases each j hj with ⟨j1, j2, j3⟩ | ⟨j1, j2⟩
    · omega
    · omega
    · by_cases c : qf a W (l.getD j 0) = qf a W (l.getD i 0)
      · rw [c] at qej
        rcases closed j i hj hi j1 (by omega) with z | ⟨z, z2⟩
        · omega
        · have e : a * l.getD i 0 = a * l.getD j 0 := by omega
          have a0 : a = 0 := by
            rcases Int.lt_or_le 0 a with y | y
            · have := Int.mul_lt_mul_of_pos_left hw y
              omega
            · omega
          have : rf a W (l.getD j 0) = 0 := by rw [rdj, a0, Int.zero_mul, Int.zero_emod]
          omega
      · omega
    · omega
  · have hi : i < l.length := by omega
    have eq1 : qf a W (l.getD i 0) = qf a W (l.getD j 0) := by rw [hw]
    have eq2 : rf a W (l.getD i 0) = rf a W (l.getD j 0) := by rw [hw]
    have r0 := (qr a W l ha ha1 hW hW0 hl _ (rd_mem hi)).2.2.2.2.1
    rcases each i hi with ⟨i1, i2, i3⟩ | ⟨i1, i2⟩ <;> rcases each j hj with ⟨j1, j2, j3⟩ | ⟨j1, j2⟩
    · omega
    · omega
    · rcases closed j i hj hi j1 (by omega) with z | ⟨z, z2⟩ <;> omega
    · omega
end

end Go.Proofs.Ytfofcgflamidhaa.MShare
