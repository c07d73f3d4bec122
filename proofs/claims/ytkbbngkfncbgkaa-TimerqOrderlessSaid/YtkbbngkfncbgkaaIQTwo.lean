/- Two queues beside one another: arrearslaw11.emptied. Conditions: the two hold the same items, no more than 300, and share no memory. -/
import Derived.Test.YtkbbngkfncbgkaaIQList
import Derived.Test.YtkbbngkfncbgkaaIQSortsP
namespace Go.Proofs.Ytkbbngkfncbgkaa.IQTwo
open Go.RowKit Go.Maps Go.Proofs.Ytkbbngkfncbgkaa.IQHeap Go.Proofs.Ytkbbngkfncbgkaa.IQWords Go.Proofs.Ytkbbngkfncbgkaa.IQSwap Go.Proofs.Ytkbbngkfncbgkaa.IQOrd Go.Proofs.Ytkbbngkfncbgkaa.IQUp Go.Proofs.Ytkbbngkfncbgkaa.IQGet Go.Proofs.Ytkbbngkfncbgkaa.IQPush Go.Proofs.Ytkbbngkfncbgkaa.IQTake Go.Proofs.Ytkbbngkfncbgkaa.IQPop Go.Proofs.Ytkbbngkfncbgkaa.IQFill Go.Proofs.Ytkbbngkfncbgkaa.IQUnl Go.Proofs.Ytkbbngkfncbgkaa.IQSortsP Go.Proofs.Ytkbbngkfncbgkaa.PA
set_option linter.unusedVariables false
set_option linter.unusedSimpArgs false
/-- The blocks of a queue. -/
def Bl (qb mb : Nat) (v : Value) (k : Nat) : Prop := k = qb ∨ k = mb ∨ v.ownBlock = some k
/-- Two queues share no block. -/
def Ap (qb mb : Nat) (v : Value) (qb2 mb2 : Nat) (v2 : Value) : Prop := ∀ k, Bl qb mb v k → ¬ Bl qb2 mb2 v2 k
theorem Ap.symm {qb mb qb2 mb2 : Nat} {v v2 : Value} (h : Ap qb mb v qb2 mb2 v2) : Ap qb2 mb2 v2 qb mb v := fun k h2 h1 => h k h1 h2
theorem Ap.left {qb mb qb2 mb2 : Nat} {v v2 v3 : Value} (h : Ap qb mb v qb2 mb2 v2) (e : v3.ownBlock = v.ownBlock) : Ap qb mb v3 qb2 mb2 v2 := fun k h1 => h k (h1.imp id (fun h => h.imp id (fun h => by rw [← e]; exact h)))
theorem Ap.right {qb mb qb2 mb2 : Nat} {v v2 v3 : Value} (h : Ap qb mb v qb2 mb2 v2) (e : v3.ownBlock = v2.ownBlock) : Ap qb mb v qb2 mb2 v3 := (h.symm.left e).symm
theorem Ap.kept {w W : World} {qb mb qb2 mb2 : Nat} {v v2 : Value} {L : List It} (h : Ap qb mb v qb2 mb2 v2) (hQ : QS w qb2 v2 mb2 L) (ht : Tn w W (fun q => q = qb ∨ q = mb ∨ v.ownBlock = some q)) : QS W qb2 v2 mb2 L :=
  hQ.kept ht (fun h1 => h _ h1 (.inl rfl)) (fun h1 => h _ h1 (.inr (.inl rfl))) (fun k hk h1 => h k h1 (.inr (.inr hk)))
theorem wf_le {x : Int} (h : (Lit.int .i64 x).wf = true) : x ≤ 9223372036854775807 := by
  simp [Lit.wf, IntKind.bits, IntKind.signed, IntKind.wrap] at h
  omega
theorem same_head {L M : List It} (hp : L.Perm M) (hl : HP ltI d0 L) (hm : HP ltI d0 M) (hn : (L.map (·.1)).Nodup) (h0 : 0 < L.length) : at_ d0 L 0 = at_ d0 M 0 := by
  have h0m : 0 < M.length := by rw [← hp.length_eq]; exact h0
  have hmin : ∀ {L : List It}, HP ltI d0 L → ∀ y ∈ L, ltK y.1 (at_ d0 L 0).1 = false := by
    intro L hl y hy
    obtain ⟨j, hj, e⟩ := List.getElem_of_mem hy
    have h2 := hl.min wo j j (Nat.le_refl _) hj
    rw [at_eq d0 L hj, e] at h2
    exact h2
  have h1 := hmin hl _ (hp.mem_iff.2 (at_mem h0m))
  have h2 := hmin hm _ (hp.mem_iff.1 (at_mem h0))
  have e := ltK_total h1 h2
  have hi : ∀ (L : List It), (L.map (·.1)).Nodup → ∀ x ∈ L, ∀ y ∈ L, x.1 = y.1 → x = y := by
    intro L
    induction L with
    | nil => intro _ x hx; cases hx
    | cons z r ih =>
      intro hn x hx y hy e
      rw [List.map_cons, List.nodup_cons] at hn
      rcases List.mem_cons.1 hx with ex | hx2
      · rcases List.mem_cons.1 hy with ey | hy2
        · rw [ex, ey]
        · exact (hn.1 (List.mem_map.2 ⟨y, hy2, by rw [← e, ex]⟩)).elim
      · rcases List.mem_cons.1 hy with ey | hy2
        · exact (hn.1 (List.mem_map.2 ⟨x, hx2, by rw [e, ey]⟩)).elim
        · exact ih hn.2 x hx2 y hy2 e
  exact hi L hn _ (at_mem h0) _ (hp.mem_iff.2 (at_mem h0m)) e.symm
theorem same_take {L M : List It} (hp : L.Perm M) (h0 : 0 < L.length) (e : at_ d0 L 0 = at_ d0 M 0) : (takeF ltI d0 L 0).Perm (takeF ltI d0 M 0) := by
  have h1 := takeF_perm (lt := ltI) (d := d0) h0
  have h2 := takeF_perm (lt := ltI) (d := d0) (L := M) (i := 0) (by rw [← hp.length_eq]; exact h0)
  rw [← e] at h2
  exact ((h1.trans hp).trans h2.symm).cons_inv
theorem take_nodup {L : List It} (hn : (L.map (·.1)).Nodup) (h0 : 0 < L.length) : ((takeF ltI d0 L 0).map (·.1)).Nodup := by
  have h1 := ((takeF_perm (lt := ltI) (d := d0) h0).map (·.1)).nodup_iff.2 hn
  rw [List.map_cons, List.nodup_cons] at h1
  exact h1.2
theorem take_len {L : List It} (h0 : 0 < L.length) : (takeF ltI d0 L 0).length + 1 = L.length := by
  have h := (takeF_perm (lt := ltI) (d := d0) h0).length_eq
  rw [List.length_cons] at h
  exact h
theorem qs_nodup {w : World} {qb mb : Nat} {v : Value} {L : List It} (h : QS w qb v mb L) : (L.map (·.1)).Nodup := by
  obtain ⟨f, _, hf⟩ := h.pm
  rw [List.nodup_iff_pairwise_ne, List.pairwise_map, List.pairwise_iff_getElem]
  intro i j hi hj hij e
  have := hf.inj hi hj (by rw [at_eq d0 L hi, at_eq d0 L hj]; exact e)
  omega
theorem same_k (a b : Ky) (t : Bool) (h : decide (a = b) = t) (w : World) : Calls Try.prog 11 #[.agg #[.int .i64 a.d, .int .i64 a.l, .int .i64 a.k], .agg #[.int .i64 b.d, .int .i64 b.l, .int .i64 b.k]] w fun e w' => e = .returned (.bool t) ∧ Below w.heap.size w w' :=
  arrearslaw11_same.calls a.d a.l a.k b.d b.l b.k t w (by rw [← h]; exact same_f ⟨a.d, a.l, a.k⟩ ⟨b.d, b.l, b.k⟩)
def popF (X : List It) : List It := if 0 < X.length then takeF ltI d0 X 0 else X
/-- PopDue of the last day, whatever is in the queue. -/
theorem pop_all (qb mb : Nat) (u : Value) (X : List It) (w : World) (k : Ky) (n : Int) (t : Bool) (hl : X.length < 3000000000000) (hk : (at_ d0 X 0).1 = k) (hn : (at_ d0 X 0).2 = n) (ht : decide (0 < X.length) = t) (hQ : QS w qb u mb X) :
    Calls Try.prog 9 #[.pointer (some ⟨qb, 0, none⟩), .int .i64 9223372036854775807] w fun e w' =>
      e = .returned (.tuple #[.agg #[.int .i64 k.d, .int .i64 k.l, .int .i64 k.k], .int .i64 n, .bool t]) ∧ ∃ u2, QS w' qb u2 mb (popF X) ∧ Tn w w' (Bl qb mb u) ∧ u2.ownBlock = u.ownBlock := by
  subst hk hn ht
  unfold popF
  by_cases h0 : 0 < X.length
  · rw [if_pos h0, decide_eq_true h0]
    exact pop_some qb mb u _ X w hl hQ h0 (wf_le (hQ.okAt h0).d)
  · have hX : X = [] := List.eq_nil_of_length_eq_zero (by omega)
    rw [if_neg h0, decide_eq_false h0]
    refine (pop_none qb mb u 9223372036854775807 X w hQ (fun x hx => by rw [hX] at hx; cases hx)).mono ?_
    rintro e w' ⟨h1, h2⟩
    refine ⟨?_, u, hQ.kept h2 (fun h => h) (fun h => h) (fun _ _ h => h), h2.mono (fun _ h => h.elim), rfl⟩
    rw [h1, hX]
    rfl
set_option maxHeartbeats 4000000 in
set_option maxRecDepth 1000000 in
theorem emptied_calls (qb mb qb2 mb2 : Nat) (v v2 : Value) (L M : List It) (w : World) (hQ : QS w qb v mb L) (hQ2 : QS w qb2 v2 mb2 M) (hA : Ap qb mb v qb2 mb2 v2) (hp : L.Perm M) (hl : HP ltI d0 L) (hm : HP ltI d0 M) (hn : L.length ≤ 300) :
    Calls Try.prog 17 #[.pointer (some ⟨qb, 0, none⟩), .pointer (some ⟨qb2, 0, none⟩)] w fun e w' => e = .returned (.bool true) ∧ Tn w w' (fun k => Bl qb mb v k ∨ Bl qb2 mb2 v2 k) := by
  have HQ0 := Hd.mk hQ
  have HQ20 := Hd.mk hQ2
  have HP0 := Hd.mk hp
  have HL0 := Hd.mk hl
  have HM0 := Hd.mk hm
  clear hQ hQ2 hp hl hm
  go_enter Try.func17, Try.ntmps17
  go_wp2
  go_loopg [5] (L.length + 2) (fun g s5 wr => ∃ (t : Nat) (u u2 : Value) (X Y : List It), s5 = .int .i64 t ∧ X.length + t = L.length ∧ L.length + 2 ≤ g + t ∧ Hd (QS wr qb u mb X) ∧ Hd (QS wr qb2 u2 mb2 Y) ∧ Hd (u.ownBlock = v.ownBlock) ∧ Hd (u2.ownBlock = v2.ownBlock) ∧ Hd (X.Perm Y) ∧ Hd (HP ltI d0 X) ∧ Hd (HP ltI d0 Y) ∧ Hd (Tn w wr (fun k => Bl qb mb v k ∨ Bl qb2 mb2 v2 k)))
  case atStart => exact ⟨0, v, v2, L, M, rfl, rfl, by omega, HQ0, HQ20, ⟨rfl⟩, ⟨rfl⟩, HP0, HL0, HM0, ⟨Tn.refl _ _⟩⟩
  case round =>
    clear HQ0 HQ20 HP0 HL0 HM0
    obtain ⟨t, u, u2, X, Y, rfl, hlen, hg, HQ, HQ2, HU, HU2, HP_, HX, HY, HT⟩ := hrel
    have c1 : (t : Int) ≤ 300 := by omega
    have hlY := HP_.out.length_eq
    have HAX : Hd (Ap qb mb u qb2 mb2 u2) := ⟨(hA.left HU.out).right HU2.out⟩
    obtain ⟨k, hk⟩ : ∃ k, (at_ d0 X 0).1 = k := ⟨_, rfl⟩
    obtain ⟨n, hn2⟩ : ∃ n, (at_ d0 X 0).2 = n := ⟨_, rfl⟩
    obtain ⟨b, hb⟩ : ∃ b, decide (0 < X.length) = b := ⟨_, rfl⟩
    have he : at_ d0 X 0 = at_ d0 Y 0 := by
      by_cases h0 : 0 < X.length
      · exact same_head HP_.out HX.out HY.out (qs_nodup HQ.out) h0
      · have hX : X = [] := List.eq_nil_of_length_eq_zero (by omega)
        have hY : Y = [] := List.eq_nil_of_length_eq_zero (by omega)
        rw [hX, hY]
    have PX := Hd.mk (fun W (h : QS W qb u mb X) => pop_all qb mb u X W k n b (by omega) hk hn2 hb h)
    have PY := Hd.mk (fun W (h : QS W qb2 u2 mb2 Y) => pop_all qb2 mb2 u2 Y W k n b (by omega) (by rw [← he]; exact hk) (by rw [← he]; exact hn2) (by rw [← hlY]; exact hb) h)
    have HBB := Hd.mk hb
    have HEE := Hd.mk he
    clear hk hn2 hb he
    go_upto_region 5 with (first | (go_at_call 9; refine (PX.out _ HQ.out).mono ?_; rintro e W2 ⟨rfl, u3, hQ3, hT3, hu3⟩; have HQ3 := Hd.mk hQ3; have HT3 := Hd.mk hT3; have HU3 := Hd.mk hu3; clear hQ3 hT3 hu3))
    have HK1 : Hd ((W2.alloc (.cells #[.int .i64 k.d, .int .i64 k.l, .int .i64 k.k] 26)).heap[W2.heap.size]? = some (.cells #[.int .i64 k.d, .int .i64 k.l, .int .i64 k.k] 26 (0, 0))) := ⟨heap_alloc_new W2 _⟩
    have HQ4 := Hd.mk (HQ3.out.alloc (.cells #[.int .i64 k.d, .int .i64 k.l, .int .i64 k.k] 26))
    have HQ24 := Hd.mk ((HAX.out.kept HQ2.out HT3.out).alloc (.cells #[.int .i64 k.d, .int .i64 k.l, .int .i64 k.k] 26))
    have HT4 := Hd.mk (HT3.out.then_ (Tn.alloc W2 (.cells #[.int .i64 k.d, .int .i64 k.l, .int .i64 k.k] 26) (fun _ => False)) (fun _ h => h.elim))
    have HF1 : Hd (¬ Bl qb2 mb2 u2 W2.heap.size) := ⟨by
      have h := qs_lts (HAX.out.kept HQ2.out HT3.out)
      rintro (h1 | h1 | h1)
      · omega
      · omega
      · have := h.2.2 _ h1; omega⟩
    obtain ⟨kb, hkb⟩ : ∃ kb, W2.heap.size = kb := ⟨_, rfl⟩
    rw [hkb] at HK1 HF1 ⊢
    generalize hW4 : W2.alloc (.cells #[.int .i64 k.d, .int .i64 k.l, .int .i64 k.k] 26) = W4 at HK1 HQ4 HQ24 HT4 ⊢
    clear hW4 HQ HQ2 HQ3 HT3 hkb
    go_upto_region 6 with (first | (go_at_call 9; refine (PY.out _ HQ24.out).mono ?_; rintro e W5 ⟨rfl, u5, hQ5, hT5, hu5⟩; have HQ5 := Hd.mk hQ5; have HT5 := Hd.mk hT5; have HU5 := Hd.mk hu5; clear hQ5 hT5 hu5))
    have HK2 : Hd ((W5.alloc (.cells #[.int .i64 k.d, .int .i64 k.l, .int .i64 k.k] 26)).heap[W5.heap.size]? = some (.cells #[.int .i64 k.d, .int .i64 k.l, .int .i64 k.k] 26 (0, 0))) := ⟨heap_alloc_new W5 _⟩
    have HK15 : Hd ((W5.alloc (.cells #[.int .i64 k.d, .int .i64 k.l, .int .i64 k.k] 26)).heap[kb]? = some (.cells #[.int .i64 k.d, .int .i64 k.l, .int .i64 k.k] 26 (0, 0))) := ⟨(Tn.alloc W5 _ (fun _ => False)).blk (HT5.out.blk HK1.out HF1.out) (fun h => h)⟩
    have HA4 : Hd (Ap qb2 mb2 u2 qb mb u3) := ⟨(HAX.out.left HU3.out).symm⟩
    have HQ6 := Hd.mk ((HA4.out.kept HQ4.out HT5.out).alloc (.cells #[.int .i64 k.d, .int .i64 k.l, .int .i64 k.k] 26))
    have HQ26 := Hd.mk (HQ5.out.alloc (.cells #[.int .i64 k.d, .int .i64 k.l, .int .i64 k.k] 26))
    have HT6 := Hd.mk (HT5.out.then_ (Tn.alloc W5 (.cells #[.int .i64 k.d, .int .i64 k.l, .int .i64 k.k] 26) (fun _ => False)) (fun _ h => h.elim))
    obtain ⟨kb2, hkb2⟩ : ∃ kb, W5.heap.size = kb := ⟨_, rfl⟩
    rw [hkb2] at HK2 ⊢
    generalize hW6 : W5.alloc (.cells #[.int .i64 k.d, .int .i64 k.l, .int .i64 k.k] 26) = W6 at HK2 HK15 HQ6 HQ26 HT6 ⊢
    clear hW6 HK1 HQ4 HQ24 HQ5 HT5 hkb2
    have e0 : W6.cell? ⟨kb, 0, none⟩ = some (.int .i64 k.d) := cell_of_row W6 kb 0 _ _ (0, 0) HK15.out
    have e1 : W6.cell? ⟨kb, 1, none⟩ = some (.int .i64 k.l) := cell_of_row W6 kb 1 _ _ (0, 0) HK15.out
    have e2 : W6.cell? ⟨kb, 2, none⟩ = some (.int .i64 k.k) := cell_of_row W6 kb 2 _ _ (0, 0) HK15.out
    have f0 : W6.cell? ⟨kb2, 0, none⟩ = some (.int .i64 k.d) := cell_of_row W6 kb2 0 _ _ (0, 0) HK2.out
    have f1 : W6.cell? ⟨kb2, 1, none⟩ = some (.int .i64 k.l) := cell_of_row W6 kb2 1 _ _ (0, 0) HK2.out
    have f2 : W6.cell? ⟨kb2, 2, none⟩ = some (.int .i64 k.k) := cell_of_row W6 kb2 2 _ _ (0, 0) HK2.out
    have hbb : (b != b) = false := bne_self_eq_false b
    have hnn : (n != n) = false := by simp
    have HTA : Hd (Tn w W6 (fun k => Bl qb mb v k ∨ Bl qb2 mb2 v2 k)) := ⟨by
      have h1 := HT.out.then_ HT4.out (fun q h => .inl (.inl (h.imp id (fun h => h.imp id (fun h => by rw [← HU.out]; exact h)))))
      exact h1.then_ HT6.out (fun q h => .inl (.inr (h.imp id (fun h => h.imp id (fun h => by rw [← HU2.out]; exact h)))))⟩
    go_upto_region 8 with (first | (go_at_call 11; refine (same_k k k true (by simp) _).mono ?_; rintro e W7 ⟨rfl, hb7⟩))
    have HT7 := Hd.mk (Tn.of_below hb7 (fun _ => False))
    clear hb7 e0 e1 e2 f0 f1 f2
    cases b
    · go_wp2
      go_ret
      exact ⟨rfl, HTA.out.then_ HT7.out (fun _ h => h.elim)⟩
    · have h0 : 0 < X.length := of_decide_eq_true HBB.out
      have hpx : popF X = takeF ltI d0 X 0 := if_pos h0
      have hpy : popF Y = takeF ltI d0 Y 0 := if_pos (by omega)
      have hl1 := take_len h0
      have HP2 := Hd.mk (same_take HP_.out h0 HEE.out)
      have HX2 := Hd.mk (takeF_HP wo HX.out h0)
      have HY2 := Hd.mk (takeF_HP wo HY.out (i := 0) (by omega))
      rw [hpx] at HQ6
      rw [hpy] at HQ26
      clear hpx hpy
      go_wp2
      go_roundg (L.length + 1 - t)
      case measure => omega
      case rel => exact ⟨t + 1, u3, u5, _, _, by go_num, by omega, by omega, ⟨HQ6.out.kept HT7.out (fun h => h) (fun h => h) (fun _ _ h => h)⟩, ⟨HQ26.out.kept HT7.out (fun h => h) (fun h => h) (fun _ _ h => h)⟩, ⟨HU3.out.trans HU.out⟩, ⟨HU5.out.trans HU2.out⟩, HP2, HX2, HY2, ⟨HTA.out.then_ HT7.out (fun _ h => h.elim)⟩⟩
end Go.Proofs.Ytkbbngkfncbgkaa.IQTwo
