/- The document's products and quotients, digit by digit in base two: what each of its functions answers. Plain Lean over the printed functions. -/
import Derived.Test.YtfofcgflamidhaaDoorZXMB
import Derived.Test.YtfofcgflamidhaaDoorZPXx2
import Derived.Test.YtfofcgflamidhaaDoorZPXx5
import Derived.Test.YtfofcgflamidhaaDoorZPXx3
namespace Go.Proofs.YtfofcgflamidhaaDoor.XMRef
open Go.RowKit Go.Proofs.YtfofcgflamidhaaDoor.PX Go.Proofs.YtfofcgflamidhaaDoorW.PrintWords Go.Proofs.YtfofcgflamidhaaDoorW.PrintLast Go.Proofs.YtfofcgflamidhaaDoorW.PrintMore Go.Proofs.YtfofcgflamidhaaDoor.XMB
set_option linter.unusedVariables false
set_option linter.unusedSectionVars false
set_option linter.unusedSimpArgs false

/-- The lowest n digits of m in base two, the lowest first. -/
def bitsOf : Nat → Nat → List Int
  | 0, _ => []
  | n + 1, m => ((m % 2 : Nat) : Int) :: bitsOf n (m / 2)
theorem bitsOf_length : ∀ n m, (bitsOf n m).length = n
  | 0, _ => rfl
  | n + 1, m => by simp [bitsOf, bitsOf_length n]
theorem bitsOf_getD : ∀ n m k, k < n → (bitsOf n m).getD k 0 = ((m / 2 ^ k % 2 : Nat) : Int)
  | 0, _, _, h => by omega
  | n + 1, m, 0, _ => by simp [bitsOf]
  | n + 1, m, k + 1, h => by
    have := bitsOf_getD n (m / 2) k (by omega)
    simp only [bitsOf, List.getD_cons_succ]
    rw [this, Nat.div_div_eq_div_mul, Nat.pow_succ, Nat.mul_comm]
theorem bitsOf_snoc : ∀ n m, bitsOf (n + 1) m = bitsOf n m ++ [((m / 2 ^ n % 2 : Nat) : Int)]
  | 0, m => by simp [bitsOf]
  | n + 1, m => by
    have := bitsOf_snoc n (m / 2)
    rw [bitsOf, this, Nat.div_div_eq_div_mul, ← Nat.pow_succ']
    simp [bitsOf]
theorem bitsOf_set : ∀ n m k, k < n → m / 2 ^ k % 2 = 0 → (bitsOf n m).set k 1 = bitsOf n (m + 2 ^ k)
  | 0, _, _, h, _ => by omega
  | n + 1, m, 0, _, h => by
    simp only [Nat.pow_zero, Nat.div_one] at h
    simp only [bitsOf, List.set_cons_zero, Nat.pow_zero]
    rw [show (m + 1) % 2 = 1 by omega, show (m + 1) / 2 = m / 2 by omega]
    rfl
  | n + 1, m, k + 1, h, h2 => by
    rw [Nat.pow_succ', ← Nat.div_div_eq_div_mul] at h2
    have := bitsOf_set n (m / 2) k (by omega) h2
    simp only [bitsOf, List.set_cons_succ]
    rw [this, Nat.pow_succ', show (m + 2 * 2 ^ k) % 2 = m % 2 by omega, show (m + 2 * 2 ^ k) / 2 = m / 2 + 2 ^ k by omega]
theorem bitsOf_zero : ∀ n, bitsOf n 0 = List.replicate n 0
  | 0 => rfl
  | n + 1 => by simp [bitsOf, bitsOf_zero n, List.replicate_succ]
theorem bitsOf_nil (m : Nat) : bitsOf 0 m = [] := rfl
theorem bitsOf_cons (n m : Nat) : bitsOf (n + 1) m = ((m % 2 : Nat) : Int) :: bitsOf n (m / 2) := rfl
attribute [local irreducible] bitsOf
theorem bit_le (m k : Nat) : m / 2 ^ k % 2 ≤ 1 := by omega

theorem digits_loop : ∀ (d i : Nat), i + d = 64 → ∀ (m : Nat), m < 18446744073709551616 → ∀ (acc : List Int), acc.length = i → Ev (fun k => arrearsref1_digits.l0 k (m : Int) acc (i : Int)) (acc ++ bitsOf d m) := by
  intro d
  induction d with
  | zero =>
    intro i hi m hm acc ha
    refine Ev_one (fun k => ?_)
    simp only [arrearsref1_digits.l0]
    rw [if_neg (by omega), bitsOf_nil, List.append_nil]
  | succ d ih =>
    intro i hi m hm acc ha
    have h := ih (i + 1) (by omega) (m / 2) (by omega) (acc ++ [((m % 2 : Nat) : Int)]) (by simp [ha])
    rw [List.append_assoc, List.singleton_append, ← bitsOf_cons] at h
    refine Ev.step (fun k => ?_) h
    simp only [arrearsref1_digits.l0]
    rw [if_pos (by omega), if_pos (by omega), wi i (by omega), Int.tdiv_eq_ediv_of_nonneg (by omega), Int.tmod_eq_emod_of_nonneg (by omega), u64i (by omega) (by omega), w64 (by omega) (by omega)]
    rfl
theorem digits_ev (m : Nat) (hm : m < 18446744073709551616) : Ev (fun k => arrearsref1_digits.f k (m : Int)) (bitsOf 64 m) := digits_loop 64 0 rfl m hm [] rfl

/-- What a list of digits of any size stands for, in base two, the lowest first. -/
def val : List Int → Int
  | [] => 0
  | x :: l => x + 2 * val l
theorem val_set : ∀ (l : List Int) (k : Nat) (x : Int), k < l.length → val (l.set k (l.getD k 0 + x)) = val l + x * 2 ^ k
  | [], _, _, h => by simp at h
  | y :: l, 0, x, _ => by simp [val]; omega
  | y :: l, k + 1, x, h => by
    have := val_set l k x (by simpa using h)
    simp only [List.set_cons_succ, List.getD_cons_succ, val]
    rw [this, Int.pow_succ, ← Int.mul_assoc]
    omega
theorem val_zeros : ∀ n, val (List.replicate n 0) = 0
  | 0 => rfl
  | n + 1 => by simp [List.replicate_succ, val, val_zeros n]
theorem val_drop (l : List Int) (k : Nat) (h : k < l.length) : val (l.drop k) = l.getD k 0 + 2 * val (l.drop (k + 1)) := by
  rw [List.drop_eq_getElem_cons h, val, List.getD_eq_getElem?_getD, List.getElem?_eq_getElem h]
  rfl
/-- All digits from 0 to B. -/
def Bd (l : List Int) (B : Int) : Prop := ∀ x ∈ l, 0 ≤ x ∧ x ≤ B
theorem Bd.getD {l : List Int} {B : Int} (h : Bd l B) (hB : 0 ≤ B) (k : Nat) : 0 ≤ l.getD k 0 ∧ l.getD k 0 ≤ B := by
  by_cases c : k < l.length
  · exact h _ (rd_mem c)
  · rw [List.getD_eq_getElem?_getD, List.getElem?_eq_none (by omega)]
    exact ⟨Int.le_refl _, hB⟩
theorem Bd.set {l : List Int} {B : Int} (h : Bd l B) (hB : 0 ≤ B) (k : Nat) (x : Int) (h0 : 0 ≤ x) (h1 : x ≤ 1) : Bd (l.set k (l.getD k 0 + x)) (B + 1) := by
  intro y hy
  have hg := h.getD hB k
  rcases List.mem_or_eq_of_mem_set hy with h' | h'
  · have := h y h'
    omega
  · omega

theorem zeros_loop (A B : List Int) (r : List Int) (hr : Ev (fun k => arrearsref1_times.l1 k A B (List.replicate 128 0) 0) r) : ∀ (d i : Nat), i + d = 128 → Ev (fun k => arrearsref1_times.l0 k A B (List.replicate i 0) (i : Int)) r := by
  intro d
  induction d with
  | zero =>
    intro i hi
    obtain rfl : i = 128 := by omega
    refine Ev.step (fun k => ?_) hr
    simp only [arrearsref1_times.l0]
    rw [if_neg (by omega)]
  | succ d ih =>
    intro i hi
    refine Ev.step (fun k => ?_) (ih (i + 1) (by omega))
    simp only [arrearsref1_times.l0]
    rw [if_pos (by omega), if_pos (by rw [List.length_replicate]; omega), wi i (by omega), List.replicate_succ']
theorem carry_loop (s : List Int) (hs : s.length = 128) (hb : Bd s 4096) (V : Nat) (hV : (V : Int) = val s) : ∀ (d i : Nat), i + d = 128 → ∀ c : Int, 0 ≤ c → c ≤ 8192 → c + val (s.drop i) = ((V / 2 ^ i : Nat) : Int) →
    Ev (fun k => arrearsref1_times.l3 k (bitsOf i V ++ s.drop i) c (i : Int)) (bitsOf 128 V) := by
  intro d
  induction d with
  | zero =>
    intro i hi c c0 c1 hc
    obtain rfl : i = 128 := by omega
    refine Ev_one (fun k => ?_)
    simp only [arrearsref1_times.l3]
    rw [if_neg (by omega), List.drop_of_length_le (by omega), List.append_nil]
  | succ d ih =>
    intro i hi c c0 c1 hc
    have hlt : i < s.length := by omega
    have hd := val_drop s i hlt
    have hg := hb.getD (by omega) i
    have hr : rd (bitsOf i V ++ s.drop i) (i : Int) = s.getD i 0 := by
      rw [rd_nat, List.getD_eq_getElem?_getD, List.getElem?_append_right (by rw [bitsOf_length]; omega), bitsOf_length, Nat.sub_self, List.getElem?_drop, Nat.add_zero, ← List.getD_eq_getElem?_getD]
    have hp : V / 2 ^ (i + 1) = V / 2 ^ i / 2 := by rw [Nat.pow_succ, Nat.div_div_eq_div_mul]
    have hset : (bitsOf i V ++ s.drop i).set i ((V / 2 ^ i % 2 : Nat) : Int) = bitsOf (i + 1) V ++ s.drop (i + 1) := by
      rw [List.set_append_right _ _ (by rw [bitsOf_length]; omega), bitsOf_length, Nat.sub_self, List.drop_eq_getElem_cons hlt, List.set_cons_zero, bitsOf_snoc, List.append_assoc]
      rfl
    refine Ev.step (fun k => ?_) (ih (i + 1) (by omega) ((s.getD i 0 + c) / 2) (by omega) (by omega) (by rw [hp]; omega))
    simp only [arrearsref1_times.l3]
    rw [if_pos (by omega), if_pos (by omega), if_pos (by rw [List.length_append, bitsOf_length, List.length_drop]; omega), wi i (by omega), hr, w64 (x := s.getD i 0 + c) (by omega) (by omega),
      Int.tdiv_eq_ediv_of_nonneg (by omega), Int.tmod_eq_emod_of_nonneg (by omega), w64 (by omega) (by omega), Int.toNat_natCast, show (s.getD i 0 + c) % 2 = ((V / 2 ^ i % 2 : Nat) : Int) by omega, hset]
section
variable (a b : Nat) (ha : a < 18446744073709551616) (hb : b < 18446744073709551616)
include ha hb
omit ha hb in
theorem wsmall {x p : Int} (h0 : 0 ≤ x) (h1 : x ≤ 9000) (h2 : 0 ≤ p) (h3 : p ≤ 1) : wrap64 (x + p) = x + p := w64 (by omega) (by omega)
theorem inner_loop (i : Nat) (hi : i < 64) (r : List Int)
    (hr : ∀ s : List Int, s.length = 128 → Bd s (64 * ((i + 1 : Nat) : Int)) → val s = ((a % 2 ^ (i + 1) * b : Nat) : Int) → Ev (fun k => arrearsref1_times.l1 k (bitsOf 64 a) (bitsOf 64 b) s ((i + 1 : Nat) : Int)) r) : ∀ (d j : Nat), j + d = 64 →
    ∀ s : List Int, s.length = 128 → Bd s (64 * (i : Int) + (j : Int)) → Aside0 (val s = ((a % 2 ^ i * b + a / 2 ^ i % 2 * 2 ^ i * (b % 2 ^ j) : Nat) : Int)) → Ev (fun k => arrearsref1_times.l2 k (bitsOf 64 a) (bitsOf 64 b) s (i : Int) (j : Int)) r := by
  intro d
  induction d with
  | zero =>
    intro j hj s hs hB hv
    obtain rfl : j = 64 := by omega
    refine Ev.step (fun k => ?_) (hr s hs (by intro x hx; have := hB x hx; omega) ?_)
    · simp only [arrearsref1_times.l2]
      rw [if_neg (by rw [bitsOf_length]; omega), wi i (by omega)]
    · rw [hv.out, Nat.mod_eq_of_lt (show b < 2 ^ 64 by omega), Nat.mod_pow_succ, Nat.add_mul, Nat.mul_comm (2 ^ i)]
  | succ d ih =>
    intro j hj s hs hB hv
    have tj : j < 64 := by omega
    have t1 : (j : Int) < ((bitsOf 64 b).length : Int) := by rw [bitsOf_length]; omega
    have t3 : ((i + j : Nat) : Int) < (s.length : Int) := by rw [hs]; omega
    have t5 : (i : Int) < ((bitsOf 64 a).length : Int) := by rw [bitsOf_length]; omega
    have ei : wrap64 ((i : Int) + (j : Int)) = ((i + j : Nat) : Int) := by rw [w64 (by omega) (by omega)]; omega
    have ej : wrap64 ((j : Int) + 1) = ((j + 1 : Nat) : Int) := wi j (by omega)
    have hB0 : (0 : Int) ≤ 64 * (i : Int) + (j : Int) := by omega
    have hij : i + j < s.length := by omega
    have hg := hB.getD hB0 (i + j)
    have hg2 : s.getD (i + j) 0 ≤ 9000 := by omega
    have eb : 64 * (i : Int) + (j : Int) + 1 = 64 * (i : Int) + ((j + 1 : Nat) : Int) := by omega
    have e1 : rd (bitsOf 64 a) (i : Int) = ((a / 2 ^ i % 2 : Nat) : Int) := bitsOf_getD 64 a i hi
    have e2 : rd (bitsOf 64 b) (j : Int) = ((b / 2 ^ j % 2 : Nat) : Int) := bitsOf_getD 64 b j tj
    have x1 := bit_le a i
    have x2 := bit_le b j
    obtain ⟨u, hu⟩ : ∃ u, u = a / 2 ^ i % 2 := ⟨_, rfl⟩
    obtain ⟨v, hv2⟩ : ∃ v, v = b / 2 ^ j % 2 := ⟨_, rfl⟩
    rw [← hu] at e1 x1 hv
    rw [← hv2] at e2 x2
    have nx : ∃ p, p = u * v ∧ p ≤ 1 := ⟨_, rfl, Nat.mul_le_mul x1 x2⟩
    obtain ⟨p, hp, hp1⟩ := nx
    have p0 : (0 : Int) ≤ (p : Int) := Int.natCast_nonneg p
    have p1 : (p : Int) ≤ 1 := Int.ofNat_le.mpr hp1
    have ep : wrap64 ((u : Int) * (v : Int)) = (p : Int) := by rw [← Int.natCast_mul, ← hp]; exact w64 (Int.le_trans (by decide) p0) (Int.le_trans p1 (by decide))
    have t7 : wrap64 (s.getD (i + j) 0 + (p : Int)) = s.getD (i + j) 0 + (p : Int) := wsmall hg.1 hg2 p0 p1
    have hset := hB.set hB0 (i + j) (p : Int) p0 p1
    have hval := val_set s (i + j) (p : Int) hij
    have j1 : j + 1 + d = 64 := by rw [← hj]; exact Nat.add_right_comm j 1 d
    refine Ev.step (fun k => ?_) (ih (j + 1) j1 (s.set (i + j) (s.getD (i + j) 0 + (p : Int))) (by rw [List.length_set, hs]) ?_ ⟨?_⟩)
    · simp only [arrearsref1_times.l2]
      rw [if_pos t1, ei, if_pos (Int.natCast_nonneg _), if_pos t3, if_pos (Int.natCast_nonneg _), if_pos t5, if_pos (Int.natCast_nonneg _), e1, e2, ep, rd_nat, t7, Int.toNat_natCast, ej]
    · intro x hx
      rw [← eb]
      exact hset x hx
    · rw [hval, hv.out, show (2 : Int) ^ (i + j) = ((2 ^ (i + j) : Nat) : Int) by simp, ← Int.natCast_mul, ← Int.natCast_add, hp, ← hu]
      refine congrArg (fun n : Nat => (n : Int)) ?_
      rw [Nat.mod_pow_succ (k := j), ← hv2, Nat.mul_add, Nat.pow_add, Nat.add_assoc]
      refine congrArg (fun n => a % 2 ^ i * b + n) (congrArg (fun n => u * 2 ^ i * (b % 2 ^ j) + n) ?_)
      rw [Nat.mul_assoc, Nat.mul_assoc, Nat.mul_left_comm v, Nat.mul_comm v]
theorem outer_loop : ∀ (d i : Nat), i + d = 64 → ∀ s : List Int, s.length = 128 → Bd s (64 * (i : Int)) → val s = ((a % 2 ^ i * b : Nat) : Int) → Ev (fun k => arrearsref1_times.l1 k (bitsOf 64 a) (bitsOf 64 b) s (i : Int)) (bitsOf 128 (a * b)) := by
  intro d
  induction d with
  | zero =>
    intro i hi s hs hB hv
    obtain rfl : i = 64 := by omega
    rw [Nat.mod_eq_of_lt (show a < 2 ^ 64 by omega)] at hv
    have h := carry_loop s hs (by intro x hx; have := hB x hx; omega) (a * b) hv.symm 128 0 (by omega) 0 (by omega) (by omega) (by simp [hv])
    rw [bitsOf_nil, List.nil_append, List.drop_zero] at h
    refine Ev.step (fun k => ?_) h
    simp only [arrearsref1_times.l1]
    rw [if_neg (by rw [bitsOf_length]; omega)]
    rfl
  | succ d ih =>
    intro i hi s hs hB hv
    have h := inner_loop a b ha hb i (by omega) (bitsOf 128 (a * b)) (fun s' h1 h2 h3 => ih (i + 1) (by omega) s' h1 h2 h3) 64 0 (by omega) s hs (by intro x hx; have := hB x hx; omega) ⟨by rw [hv]; simp [Nat.mod_one]⟩
    refine Ev.step (fun k => ?_) h
    simp only [arrearsref1_times.l1]
    rw [if_pos (by rw [bitsOf_length]; omega)]
    rfl
theorem times_ev : Ev (fun k => arrearsref1_times.f k (bitsOf 64 a) (bitsOf 64 b)) (bitsOf 128 (a * b)) := by
  refine zeros_loop (bitsOf 64 a) (bitsOf 64 b) _ ?_ 128 0 (by omega)
  exact outer_loop a b ha hb 64 0 (by omega) (List.replicate 128 0) (by simp) (by intro x hx; rw [List.eq_of_mem_replicate hx]; omega) (by rw [val_zeros]; simp [Nat.mod_one])
end

section
variable (n c : Nat) (hc : 0 < c) (hc1 : c ≤ 9223372036854775808)
include hc hc1
theorem over_down : ∀ (j : Nat), j ≤ 128 → n / 2 ^ j / c * 2 ^ j < 2 ^ 128 → Ev (fun k => arrearsref1_over.l1 k (bitsOf 128 n) (c : Int) (bitsOf 128 (n / 2 ^ j / c * 2 ^ j)) ((n / 2 ^ j % c : Nat) : Int) ((j : Int) - 1)) (bitsOf 128 (n / c), ((n % c : Nat) : Int)) := by
  intro j
  induction j with
  | zero =>
    intro _ _
    refine Ev_one (fun k => ?_)
    simp only [arrearsref1_over.l1]
    rw [if_neg (by omega)]
    simp
  | succ j ih =>
    intro hj hw
    have hp : n / 2 ^ (j + 1) = n / 2 ^ j / 2 := by rw [Nat.pow_succ, Nat.div_div_eq_div_mul]
    obtain ⟨M, hM⟩ : ∃ M, M = n / 2 ^ j := ⟨_, rfl⟩
    rw [← hM] at hp ih
    rw [hp] at hw ⊢
    have hr0 : M / 2 % c < c := Nat.mod_lt _ hc
    have hq := Nat.div_add_mod (M / 2) c
    have er : rd (bitsOf 128 n) (j : Int) = ((M % 2 : Nat) : Int) := by rw [hM]; exact bitsOf_getD 128 n j (by omega)
    have ej : ((j + 1 : Nat) : Int) - 1 = (j : Int) := by omega
    have ew : wrap64 ((j : Int) - 1) = (j : Int) - 1 := w64 (by omega) (by omega)
    have e1 : IntKind.u64.wrap (IntKind.u64.wrap (2 * ((M / 2 % c : Nat) : Int)) + IntKind.u64.wrap ((M % 2 : Nat) : Int)) = ((2 * (M / 2 % c) + M % 2 : Nat) : Int) := by
      rw [u64i (x := 2 * _) (by omega) (by omega), u64i (x := ((M % 2 : Nat) : Int)) (by omega) (by omega), u64i (by omega) (by omega)]
      omega
    have sq : M / 2 / c * 2 ^ (j + 1) / 2 ^ j % 2 = 0 := by
      rw [Nat.pow_succ', ← Nat.mul_assoc, Nat.mul_div_cancel _ (Nat.two_pow_pos _)]
      omega
    by_cases b : c ≤ 2 * (M / 2 % c) + M % 2
    · have eM : M / c = 2 * (M / 2 / c) + 1 ∧ M % c = 2 * (M / 2 % c) + M % 2 - c := by
        have := (Nat.div_mod_unique (a := M) (c := 2 * (M / 2 % c) + M % 2 - c) (d := 2 * (M / 2 / c) + 1) hc).mpr ⟨by rw [Nat.mul_add, ← Nat.mul_assoc, Nat.mul_comm c 2, Nat.mul_assoc]; omega, by omega⟩
        exact this
      have ev : M / c * 2 ^ j = M / 2 / c * 2 ^ (j + 1) + 2 ^ j := by rw [eM.1, Nat.add_mul, Nat.one_mul, Nat.pow_succ', Nat.mul_comm 2 (M / 2 / c), Nat.mul_assoc]
      have hw' : M / c * 2 ^ j < 2 ^ 128 := by
        rw [ev]
        have h1 : M / 2 / c * 2 ^ (j + 1) + 2 ^ (j + 1) ≤ 2 ^ 128 := by
          have : 2 ^ 128 = 2 ^ (128 - (j + 1)) * 2 ^ (j + 1) := by rw [← Nat.pow_add]; congr 1; omega
          rw [this] at hw ⊢
          have := Nat.lt_of_mul_lt_mul_right hw
          calc M / 2 / c * 2 ^ (j + 1) + 2 ^ (j + 1) = (M / 2 / c + 1) * 2 ^ (j + 1) := by rw [Nat.add_mul, Nat.one_mul]
            _ ≤ _ := Nat.mul_le_mul_right _ this
        have := Nat.two_pow_pos j
        rw [Nat.pow_succ 2 j] at h1 ⊢
        omega
      refine Ev.step (fun k => ?_) (ih (by omega) hw')
      simp only [arrearsref1_over.l1]
      rw [ej, if_pos (by omega), if_pos (by omega), if_pos (by rw [bitsOf_length]; omega), er, e1, if_pos (by omega), if_pos (by rw [bitsOf_length]; omega), Int.toNat_natCast, bitsOf_set _ _ j (by omega) sq, ← ev, ew, u64i (by omega) (by omega), eM.2]
      congr 2
      omega
    · have eM : M / c = 2 * (M / 2 / c) ∧ M % c = 2 * (M / 2 % c) + M % 2 := by
        have := (Nat.div_mod_unique (a := M) (c := 2 * (M / 2 % c) + M % 2) (d := 2 * (M / 2 / c)) hc).mpr ⟨by rw [← Nat.mul_assoc, Nat.mul_comm c 2, Nat.mul_assoc]; omega, by omega⟩
        exact this
      have ev : M / c * 2 ^ j = M / 2 / c * 2 ^ (j + 1) := by rw [eM.1, Nat.pow_succ', Nat.mul_comm 2 (M / 2 / c), Nat.mul_assoc]
      refine Ev.step (fun k => ?_) (ih (by omega) (by rw [ev]; exact hw))
      simp only [arrearsref1_over.l1]
      rw [ej, if_pos (by omega), if_pos (by omega), if_pos (by rw [bitsOf_length]; omega), er, e1, if_neg (by omega), ← ev, ew, eM.2]
theorem over_zeros (r : List Int × Int) (hr : Ev (fun k => arrearsref1_over.l1 k (bitsOf 128 n) (c : Int) (List.replicate 128 0) 0 127) r) : ∀ (d i : Nat), i + d = 128 → Ev (fun k => arrearsref1_over.l0 k (bitsOf 128 n) (c : Int) (List.replicate i 0) (i : Int)) r := by
  intro d
  induction d with
  | zero =>
    intro i hi
    obtain rfl : i = 128 := by omega
    refine Ev.step (fun k => ?_) hr
    simp only [arrearsref1_over.l0]
    rw [bitsOf_length, if_neg (by omega), show wrap64 (((128 : Nat) : Int) - 1) = 127 from by unfold wrap64; omega]
  | succ d ih =>
    intro i hi
    refine Ev.step (fun k => ?_) (ih (i + 1) (by omega))
    simp only [arrearsref1_over.l0]
    rw [bitsOf_length, if_pos (by omega), if_pos (by rw [List.length_replicate]; omega), wi i (by omega), List.replicate_succ']
theorem over_ev (hn : n < 2 ^ 128) : Ev (fun k => arrearsref1_over.f k (bitsOf 128 n) (c : Int)) (bitsOf 128 (n / c), ((n % c : Nat) : Int)) := by
  refine over_zeros n c hc hc1 _ ?_ 128 0 (by omega)
  have h := over_down n c hc hc1 128 (by omega)
  rw [Nat.div_eq_of_lt hn, Nat.zero_div, Nat.zero_mul, Nat.zero_mod, bitsOf_zero] at h
  exact h (by decide)
end

theorem more_loop (v : Nat) : ∀ (d i : Nat), i + d = 128 → ∀ c : Nat, c ≤ 1 → v / 2 ^ i + c = (v + 1) / 2 ^ i → Ev (fun k => arrearsref1_more.l0 k (bitsOf 128 v) (bitsOf i (v + 1)) (c : Int) (i : Int)) (bitsOf 128 (v + 1)) := by
  intro d
  induction d with
  | zero =>
    intro i hi c hc h
    obtain rfl : i = 128 := by omega
    refine Ev_one (fun k => ?_)
    simp only [arrearsref1_more.l0]
    rw [if_neg (by rw [bitsOf_length]; omega)]
  | succ d ih =>
    intro i hi c hc h
    have p1 : v / 2 ^ (i + 1) = v / 2 ^ i / 2 := by rw [Nat.pow_succ, Nat.div_div_eq_div_mul]
    have p2 : (v + 1) / 2 ^ (i + 1) = (v + 1) / 2 ^ i / 2 := by rw [Nat.pow_succ, Nat.div_div_eq_div_mul]
    have er : rd (bitsOf 128 v) (i : Int) = ((v / 2 ^ i % 2 : Nat) : Int) := bitsOf_getD 128 v i (by omega)
    refine Ev.step (fun k => ?_) (ih (i + 1) (by omega) ((v / 2 ^ i % 2 + c) / 2) (by omega) (by omega))
    simp only [arrearsref1_more.l0]
    rw [if_pos (by rw [bitsOf_length]; omega), if_pos (by omega), if_pos (by rw [bitsOf_length]; omega), er, w64 (x := ((v / 2 ^ i % 2 : Nat) : Int) + (c : Int)) (by omega) (by omega), Int.tdiv_eq_ediv_of_nonneg (by omega), Int.tmod_eq_emod_of_nonneg (by omega), w64 (by omega) (by omega), wi i (by omega), bitsOf_snoc i (v + 1), show (((v / 2 ^ i % 2 : Nat) : Int) + (c : Int)) % 2 = (((v + 1) / 2 ^ i % 2 : Nat) : Int) by omega, show (((v / 2 ^ i % 2 : Nat) : Int) + (c : Int)) / 2 = (((v / 2 ^ i % 2 + c) / 2 : Nat) : Int) by omega]
theorem more_ev (v : Nat) : Ev (fun k => arrearsref1_more.f k (bitsOf 128 v)) (bitsOf 128 (v + 1)) := by
  have h := more_loop v 128 0 (by omega) 1 (by omega) (by simp)
  rw [bitsOf_nil] at h
  exact h

theorem horner (neg : Bool) (v : Nat) (hv : v < 18446744073709551616) : ∀ (j : Nat), j ≤ 64 → Ev (fun k => arrearsref1_signed.l1 k neg (bitsOf 128 v) ((v / 2 ^ j : Nat) : Int) ((j : Int) - 1)) (fits (if neg = true then -(v : Int) else (v : Int))) := by
  intro j
  induction j with
  | zero =>
    intro _
    refine Ev_one (fun k => ?_)
    simp only [arrearsref1_signed.l1, Nat.pow_zero, Nat.div_one]
    rw [if_neg (by omega)]
    cases neg with
    | true =>
      rw [if_pos rfl, if_pos rfl]
      by_cases c : (v : Int) > 9223372036854775808
      · rw [if_pos c, fits_out (by unfold I64; omega)]
      · rw [if_neg c, fits_in (by unfold I64; omega)]
        by_cases z : (v : Int) = 0
        · rw [if_pos z, z]
          rfl
        · rw [if_neg z, u64i (by omega) (by omega), w64 (x := (v : Int) - 1) (by omega) (by omega), w64 (x := -((v : Int) - 1)) (by omega) (by omega), w64 (by omega) (by omega)]
          congr 2
          omega
    | false =>
      rw [if_neg Bool.false_ne_true, if_neg Bool.false_ne_true]
      by_cases c : (v : Int) > 9223372036854775807
      · rw [if_pos c, fits_out (by unfold I64; omega)]
      · rw [if_neg c, fits_in (by unfold I64; omega), w64 (by omega) (by omega)]
  | succ j ih =>
    intro hj
    have p1 : v / 2 ^ (j + 1) = v / 2 ^ j / 2 := by rw [Nat.pow_succ, Nat.div_div_eq_div_mul]
    have le : v / 2 ^ j ≤ v := Nat.div_le_self _ _
    have er : rd (bitsOf 128 v) (j : Int) = ((v / 2 ^ j % 2 : Nat) : Int) := bitsOf_getD 128 v j (by omega)
    have h := ih (by omega)
    rw [p1]
    generalize v / 2 ^ j = V at le er h ⊢
    have es : IntKind.u64.wrap (IntKind.u64.wrap (2 * ((V / 2 : Nat) : Int)) + IntKind.u64.wrap ((V % 2 : Nat) : Int)) = (V : Int) := by simp only [u64e]; omega
    refine Ev.step (fun k => ?_) h
    simp only [arrearsref1_signed.l1]
    rw [show ((j + 1 : Nat) : Int) - 1 = (j : Int) by omega, if_pos (by omega), if_pos (by omega), if_pos (by rw [bitsOf_length]; omega), er, es, w64 (by omega) (by omega)]
theorem high_loop (neg : Bool) (v : Nat) (hv : v < 2 ^ 128) : ∀ (d i : Nat), i + d = 128 → 64 ≤ i → v % 2 ^ i < 18446744073709551616 → Ev (fun k => arrearsref1_signed.l0 k neg (bitsOf 128 v) (i : Int)) (fits (if neg = true then -(v : Int) else (v : Int))) := by
  intro d
  induction d with
  | zero =>
    intro i hi h64 hm
    obtain rfl : i = 128 := by omega
    rw [Nat.mod_eq_of_lt hv] at hm
    have h := horner neg v hm 64 (by omega)
    rw [Nat.div_eq_of_lt (show v < 2 ^ 64 by omega)] at h
    refine Ev.step (fun k => ?_) h
    simp only [arrearsref1_signed.l0]
    rw [if_neg (by rw [bitsOf_length]; omega)]
    rfl
  | succ d ih =>
    intro i hi h64 hm
    have er : rd (bitsOf 128 v) (i : Int) = ((v / 2 ^ i % 2 : Nat) : Int) := bitsOf_getD 128 v i (by omega)
    by_cases b : v / 2 ^ i % 2 = 0
    · refine Ev.step (fun k => ?_) (ih (i + 1) (by omega) (by omega) (by rw [Nat.mod_pow_succ, b]; simpa using hm))
      simp only [arrearsref1_signed.l0]
      rw [if_pos (by rw [bitsOf_length]; omega), if_pos (by omega), er, if_pos (by omega), wi i (by omega)]
    · refine Ev_one (fun k => ?_)
      simp only [arrearsref1_signed.l0]
      have hge : 18446744073709551616 ≤ v := by
        have h1 : 1 ≤ v / 2 ^ i := by
          rcases Nat.eq_zero_or_pos (v / 2 ^ i) with z | z
          · rw [z] at b
            exact absurd rfl b
          · exact z
        have h2 : 2 ^ i ≤ v := by
          have := (Nat.le_div_iff_mul_le (Nat.two_pow_pos i)).mp h1
          omega
        exact Nat.le_trans (Nat.pow_le_pow_right (show 0 < 2 by omega) h64) h2
      rw [if_pos (by rw [bitsOf_length]; omega), if_pos (by omega), er, if_neg (by omega), fits_out (by unfold I64; cases neg <;> simp <;> omega)]
theorem signed_ev (neg : Bool) (v : Nat) (hv : v < 2 ^ 128) : Ev (fun k => arrearsref1_signed.f k neg (bitsOf 128 v)) (fits (if neg = true then -(v : Int) else (v : Int))) :=
  high_loop neg v hv 64 64 (by omega) (by omega) (Nat.mod_lt v (Nat.two_pow_pos 64))
theorem size_eq (x : Int) (h : I64 x) : arrearsref1_size.f x = some (x.natAbs : Int) := by
  unfold I64 at h
  unfold arrearsref1_size.f
  by_cases c : x < 0
  · rw [if_pos c, w64 (x := x + 1) (by omega) (by omega), w64 (by omega) (by omega), u64i (x := -(x + 1)) (by omega) (by omega), u64i (by omega) (by omega)]
    congr 1
    omega
  · rw [if_neg c, u64i (by omega) (by omega)]
    congr 1
    omega

end Go.Proofs.YtfofcgflamidhaaDoor.XMRef
