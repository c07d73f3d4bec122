/- Numbers read out of a reply's text. Plain Lean over the printed plain functions. -/
import Derived.Test.YtpglakfafanhoaaDoorSNum
import Derived.Test.YtpglakfafanhoaaDoorPAx4
namespace Go.Proofs.YtpglakfafanhoaaDoor.SBackN
open Go.RowKit Go.Proofs.YtpglakfafanhoaaDoorW.PrintWords Go.Proofs.YtpglakfafanhoaaDoorW.PrintLast Go.Proofs.YtpglakfafanhoaaDoorW.PrintMore Go.Proofs.YtpglakfafanhoaaDoor.PA Go.Proofs.YtpglakfafanhoaaDoor.MB Go.Proofs.YtpglakfafanhoaaDoor.SNum
set_option linter.unusedVariables false
set_option linter.unusedSimpArgs false

/-- A byte of a text given by its list. -/
theorem bt_list (l : List UInt8) (i : Nat) (h : i < l.length) : bt ⟨l.toArray⟩ (i : Int) = ((l[i]'h).toNat : Int) := by
  unfold bt
  have h' : (i : Int).toNat < (⟨l.toArray⟩ : ByteArray).size := by rw [ba_size]; exact h
  rw [dif_pos h']
  rfl
theorem bt_mid (p q : List UInt8) (c : UInt8) : bt ⟨(p ++ c :: q).toArray⟩ (p.length : Int) = (c.toNat : Int) := by
  rw [bt_list _ p.length (by simp)]
  simp
/-- The number that digits spell, going on from n. -/
def val (n : Int) (l : List UInt8) : Int := l.foldl (fun n c => 10 * n - ((c.toNat : Int) - 48)) n
theorem val_append (n : Int) (l m : List UInt8) : val n (l ++ m) = val (val n l) m := by unfold val; rw [List.foldl_append]
def Dig (c : UInt8) : Prop := 48 ≤ (c.toNat : Int) ∧ (c.toNat : Int) ≤ 57
theorem dig_of {u : Nat} (h : u < 10) : Dig (UInt8.ofNat (48 + u)) ∧ ((UInt8.ofNat (48 + u)).toNat : Int) = 48 + u := by
  unfold Dig
  rw [UInt8.toNat_ofNat']
  omega
theorem digs_dig (n : Nat) : ∀ c ∈ digs n, Dig c := by
  induction n using Nat.strongRecOn with
  | _ n ih =>
    intro c hc
    by_cases h : n = 0
    · subst h; simp [digs] at hc
    · rw [digs_step n h, List.mem_append] at hc
      rcases hc with hc | hc
      · exact ih (n / 10) (by omega) c hc
      · simp only [List.mem_cons, List.not_mem_nil, or_false] at hc
        rw [hc]
        exact (dig_of (by omega)).1
theorem digs_val (n : Nat) : val 0 (digs n) = -(n : Int) := by
  induction n using Nat.strongRecOn with
  | _ n ih =>
    by_cases h : n = 0
    · subst h; simp [digs, val]
    · rw [digs_step n h, val_append, ih (n / 10) (by omega)]
      show 10 * -((n / 10 : Nat) : Int) - (((UInt8.ofNat (48 + n % 10)).toNat : Int) - 48) = _
      rw [(dig_of (u := n % 10) (by omega)).2]
      omega
theorem val_le : ∀ (l : List UInt8) (n : Int), n ≤ 0 → (∀ c ∈ l, Dig c) → val n l ≤ n := by
  intro l
  induction l with
  | nil => intro n _ _; exact Int.le_refl _
  | cons c l ih =>
    intro n hn h
    have hc := h c (by simp)
    unfold Dig at hc
    have := ih (10 * n - ((c.toNat : Int) - 48)) (by omega) (fun x hx => h x (by simp [hx]))
    show val (10 * n - ((c.toNat : Int) - 48)) l ≤ n
    omega
/-- Where a number ends: behind it comes nothing, or a blank. -/
def Ends (q : List UInt8) : Prop := q = [] ∨ ∃ q', q = 32 :: q'
theorem digits_loop (s : ByteArray) (q : List UInt8) (hq : Ends q) (mns : Bool) (p0 e : Nat) (V : Int) (R : Int × Int) (hsz : s.size < 4611686018427387904) (hR : ∀ k, 3 ≤ k → arrearslaw18_number.j3 k s (e : Int) mns p0 V false = some R) (hV : -9223372036854775808 ≤ V) :
    ∀ (ds pre : List UInt8) (n : Int) (k : Nat), s = ⟨(pre ++ ds ++ q).toArray⟩ → e = pre.length + ds.length → p0 ≤ pre.length → e ≤ p0 + 19 → (∀ c ∈ ds, Dig c) → n ≤ 0 → val n ds = V → 2 * ds.length + 4 ≤ k →
    arrearslaw18_number.l0 k s pre.length mns p0 n = some R := by
  intro ds
  induction ds with
  | nil =>
    intro pre n k hs he hp hl hd hn hv hk
    obtain ⟨k, rfl⟩ : ∃ m, k = m + 1 := ⟨k - 1, by omega⟩
    have hv' : n = V := hv
    have he' : pre.length = e := by simpa using he.symm
    subst hv'
    subst he'
    simp only [List.append_nil] at hs
    have hss : s.size = pre.length + q.length := by rw [hs, ba_size, List.length_append]
    simp only [arrearslaw18_number.l0]
    rcases hq with rfl | ⟨q', rfl⟩
    · rw [if_neg (by rw [hss]; simp)]
      exact hR k (by simp at hk; omega)
    · rw [if_pos (by rw [hss]; simp only [List.length_cons]; omega), if_pos (by omega)]
      have : bt s (pre.length : Int) = 32 := by rw [hs]; exact bt_mid pre q' 32
      rw [this]
      exact hR k (by simp at hk; omega)
  | cons c ds ih =>
    intro pre n k hs he hp hl hd hn hv hk
    simp only [List.length_cons] at he hk
    obtain ⟨k, rfl⟩ : ∃ m, k = m + 2 := ⟨k - 2, by omega⟩
    have hss : s.size = pre.length + (ds.length + 1) + q.length := by rw [hs, ba_size, List.length_append, List.length_append, List.length_cons]
    have hb : bt s (pre.length : Int) = (c.toNat : Int) := by
      rw [hs, List.append_assoc, List.cons_append]
      exact bt_mid pre (ds ++ q) c
    have hc := hd c (by simp)
    unfold Dig at hc
    have hlow := val_le ds (10 * n - ((c.toNat : Int) - 48)) (by omega) (fun x hx => hd x (by simp [hx]))
    have hv2 : val (10 * n - ((c.toNat : Int) - 48)) ds = V := hv
    have h32 : ((c.toNat : Int) != 32) = true := by rw [bne_iff_ne]; omega
    simp only [arrearslaw18_number.l0]
    rw [if_pos (by omega), if_pos (by omega), hb, h32]
    simp only [arrearslaw18_number.j3]
    rw [if_pos True.intro, if_pos (by omega), if_pos (by omega), hb, if_neg (by omega), if_neg (by omega), if_neg (by rw [w64 (by omega) (by omega)]; omega), wi _ (by omega)]
    have hw : wrap64 (wrap64 (10 * n) - ((c.toNat : Int) - 48) % 256) = 10 * n - ((c.toNat : Int) - 48) := by
      rw [w64 (x := 10 * n) (by omega) (by omega), w64 (by omega) (by omega)]
      omega
    rw [hw]
    have h := ih (pre ++ [c]) (10 * n - ((c.toNat : Int) - 48)) k (by rw [hs]; simp) (by rw [List.length_append, List.length_singleton]; omega) (by rw [List.length_append]; omega) hl (fun x hx => hd x (by simp [hx])) (by omega) hv2 (by omega)
    rw [List.length_append, List.length_singleton] at h
    exact h
theorem digs_head : ∀ (n : Nat), n ≠ 0 → ∃ c t, digs n = c :: t ∧ (c.toNat : Int) ≠ 48 := by
  intro n
  induction n using Nat.strongRecOn with
  | _ n ih =>
    intro h
    rw [digs_step n h]
    by_cases h1 : n / 10 = 0
    · rw [h1]
      refine ⟨_, [], rfl, ?_⟩
      rw [(dig_of (u := n % 10) (by omega)).2]
      omega
    · obtain ⟨c, t, e, hc⟩ := ih (n / 10) (by omega) h1
      exact ⟨c, t ++ [UInt8.ofNat (48 + n % 10)], by rw [e]; rfl, hc⟩
theorem end_ok (s : ByteArray) (mns : Bool) (p0 e : Nat) (V r : Int) (hp : p0 < e) (he : e ≤ s.size) (hsz : s.size < 4611686018427387904) (h48 : bt s (p0 : Int) = 48 → mns = false ∧ e = p0 + 1) (hr : r = if mns = true then V else wrap64 (-V)) :
    ∀ k, 3 ≤ k → arrearslaw18_number.j3 k s (e : Int) mns p0 V false = some (r, (e : Int)) := by
  intro k hk
  obtain ⟨k, rfl⟩ : ∃ m, k = m + 2 := ⟨k - 2, by omega⟩
  have hj4 : arrearslaw18_number.j4 (k + 1) (e : Int) mns V false = some (r, (e : Int)) := by
    simp only [arrearslaw18_number.j4]
    rw [if_neg (by simp), hr]
    cases mns <;> simp
  rw [show k + 2 = (k + 1) + 1 from rfl]
  simp only [arrearslaw18_number.j3]
  rw [if_neg (by simp), if_neg (by omega), if_pos (by omega), if_pos (by omega)]
  by_cases h : bt s (p0 : Int) = 48
  · obtain ⟨h1, h2⟩ := h48 h
    subst h1
    have hd : decide (wrap64 ((e : Int) - (p0 : Int)) > 1) = false := by
      rw [w64 (by omega) (by omega)]
      exact decide_eq_false (by omega)
    rw [if_pos h, if_neg (by simp), hd]
    exact hj4
  · rw [if_neg h]
    exact hj4
theorem number_at (p q : List UInt8) (x : Int) (h0 : -9223372036854775808 ≤ x) (h1 : x ≤ 9223372036854775807) (hq : Ends q) (hsz : (p ++ Lib.itoa x ++ q).length < 4611686018427387904) (k : Nat) (hk : 60 ≤ k) :
    arrearslaw18_number.f k ⟨(p ++ Lib.itoa x ++ q).toArray⟩ (p.length : Int) = some (x, ((p.length + (Lib.itoa x).length : Nat) : Int)) := by
  obtain ⟨k, rfl⟩ : ∃ m, k = m + 2 := ⟨k - 2, by omega⟩
  have hss := ba_size (p ++ Lib.itoa x ++ q)
  have hlen : (p ++ Lib.itoa x ++ q).length = p.length + (Lib.itoa x).length + q.length := by rw [List.length_append, List.length_append]
  by_cases hz : x = 0
  · subst hz
    have e : Lib.itoa 0 = [48] := by decide +kernel
    rw [e] at hss hlen hsz ⊢
    have hb : bt (⟨(p ++ [48] ++ q).toArray⟩ : ByteArray) (p.length : Int) = 48 := by
      rw [List.append_assoc]
      exact bt_mid p q 48
    have h45 : ((48 : Int) == 45) = false := by decide
    unfold arrearslaw18_number.f
    rw [if_pos (by rw [hss, hlen]; simp only [List.length_cons, List.length_nil]; omega), if_pos (by omega), hb, h45]
    simp only [arrearslaw18_number.j0]
    rw [if_neg (by simp)]
    simp only [arrearslaw18_number.j1]
    exact digits_loop _ q hq false p.length (p.length + 1) 0 _ (by rw [hss]; exact hsz) (end_ok _ false p.length (p.length + 1) 0 0 (by omega) (by rw [hss, hlen]; simp only [List.length_cons, List.length_nil]; omega) (by rw [hss]; exact hsz) (fun _ => ⟨rfl, rfl⟩) (by decide +kernel)) (by omega) [48] p 0 k rfl rfl (Nat.le_refl _) (by omega) (fun c hc => by simp at hc; subst hc; unfold Dig; decide) (by omega) rfl (by simp; omega)
  · have hl19 := digs_len 19 x.natAbs (by omega)
    obtain ⟨c, t, ec, hc48⟩ := digs_head x.natAbs (by omega)
    have hcd := digs_dig x.natAbs c (by rw [ec]; simp)
    unfold Dig at hcd
    have hval := digs_val x.natAbs
    rw [itoa_digs x hz] at hss hlen hsz ⊢
    unfold sgn at hss hlen hsz ⊢
    by_cases hn : x < 0
    · rw [if_pos hn] at hss hlen hsz ⊢
      have hb : bt (⟨(p ++ ([45] ++ digs x.natAbs) ++ q).toArray⟩ : ByteArray) (p.length : Int) = 45 := by
        rw [List.append_assoc, List.append_assoc]
        exact bt_mid p (digs x.natAbs ++ q) 45
      have es : (⟨(p ++ ([45] ++ digs x.natAbs) ++ q).toArray⟩ : ByteArray) = ⟨((p ++ [45]) ++ digs x.natAbs ++ q).toArray⟩ := by simp
      have hb2 : bt (⟨(p ++ ([45] ++ digs x.natAbs) ++ q).toArray⟩ : ByteArray) ((p.length + 1 : Nat) : Int) = (c.toNat : Int) := by
        rw [es, ec, List.append_assoc, List.cons_append]
        have := bt_mid (p ++ [45]) (t ++ q) c
        rw [List.length_append, List.length_singleton] at this
        exact this
      have h45 : ((45 : Int) == 45) = true := by decide
      have hlen : (p ++ ([45] ++ digs x.natAbs) ++ q).length = p.length + ((digs x.natAbs).length + 1) + q.length := hlen
      show arrearslaw18_number.f (k + 2) ⟨(p ++ ([45] ++ digs x.natAbs) ++ q).toArray⟩ (p.length : Int) = some (x, ((p.length + ((digs x.natAbs).length + 1) : Nat) : Int))
      unfold arrearslaw18_number.f
      rw [if_pos (by rw [hss, hlen]; omega), if_pos (by omega), hb, h45]
      simp only [arrearslaw18_number.j0]
      rw [if_pos True.intro, wi _ (by omega)]
      simp only [arrearslaw18_number.j1]
      have := digits_loop _ q hq true (p.length + 1) (p.length + 1 + (digs x.natAbs).length) x (x, _) (by rw [hss]; exact hsz) (end_ok _ true (p.length + 1) (p.length + 1 + (digs x.natAbs).length) x x (by rw [ec]; simp) (by rw [hss, hlen]; omega) (by rw [hss]; exact hsz) (fun h => absurd (hb2.symm.trans h) hc48) (by simp)) h0 (digs x.natAbs) (p ++ [45]) 0 k es (by rw [List.length_append, List.length_singleton]) (by rw [List.length_append, List.length_singleton]; exact Nat.le_refl _) (by omega) (digs_dig _) (Int.le_refl _) (by rw [hval]; omega) (by omega)
      rw [List.length_append, List.length_singleton] at this
      rw [this]
      congr 2
      omega
    · rw [if_neg hn] at hss hlen hsz ⊢
      simp only [List.nil_append] at hss hlen hsz ⊢
      have hb : bt (⟨(p ++ digs x.natAbs ++ q).toArray⟩ : ByteArray) (p.length : Int) = (c.toNat : Int) := by
        rw [ec, List.append_assoc, List.cons_append]
        exact bt_mid p (t ++ q) c
      have h45 : ((c.toNat : Int) == 45) = false := beq_eq_false_iff_ne.2 (by omega)
      unfold arrearslaw18_number.f
      rw [if_pos (by rw [hss, hlen, ec]; simp only [List.length_cons]; omega), if_pos (by omega), hb, h45]
      simp only [arrearslaw18_number.j0]
      rw [if_neg (by simp)]
      simp only [arrearslaw18_number.j1]
      exact digits_loop _ q hq false p.length (p.length + (digs x.natAbs).length) (-x) (x, _) (by rw [hss]; exact hsz) (end_ok _ false p.length (p.length + (digs x.natAbs).length) (-x) x (by rw [ec]; simp) (by rw [hss, hlen]; omega) (by rw [hss]; exact hsz) (fun h => absurd (hb.symm.trans h) hc48) (by rw [if_neg (by simp), w64 (by omega) (by omega)]; omega)) (by omega) (digs x.natAbs) p 0 k rfl rfl (Nat.le_refl _) (by omega) (digs_dig _) (Int.le_refl _) (by rw [hval]; omega) (by omega)
end Go.Proofs.YtpglakfafanhoaaDoor.SBackN
