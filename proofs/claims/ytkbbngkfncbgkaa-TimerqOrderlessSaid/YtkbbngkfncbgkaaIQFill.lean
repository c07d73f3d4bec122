/- arrearslaw11.filled: a queue into which keys were put one by one. Conditions: the keys can be read, their numbers are ints, they are no more than a million. -/
import Derived.Test.YtkbbngkfncbgkaaIQPop
namespace Go.Proofs.Ytkbbngkfncbgkaa.IQFill
open Go.RowKit Go.Maps Go.Proofs.Ytkbbngkfncbgkaa.IQHeap Go.Proofs.Ytkbbngkfncbgkaa.IQWords Go.Proofs.Ytkbbngkfncbgkaa.IQSwap Go.Proofs.Ytkbbngkfncbgkaa.IQOrd Go.Proofs.Ytkbbngkfncbgkaa.IQUp Go.Proofs.Ytkbbngkfncbgkaa.IQGet Go.Proofs.Ytkbbngkfncbgkaa.IQPush Go.Proofs.Ytkbbngkfncbgkaa.IQPut
set_option linter.unusedVariables false
set_option linter.unusedSimpArgs false
/-- A row of keys that is read. -/
def kz : Ky := ⟨0, 0, 0⟩
def ka (ks : List Ky) (i : Nat) : Ky := ks.getD i kz
theorem ka_mem {ks : List Ky} {i : Nat} (h : i < ks.length) : ka ks i ∈ ks := by
  unfold ka
  rw [List.getD_eq_getElem?_getD, List.getElem?_eq_getElem h]
  exact List.getElem_mem h
def KR (w : World) (A : Option Addr) (ks : List Ky) : Prop := ∀ i, i < ks.length → ∃ ad, A = some ad ∧ w.cell? (ad.add (i * 3)) = some (.int .i64 (ka ks i).d) ∧ w.cell? ⟨(ad.add (i * 3)).block, (ad.add (i * 3)).off + 1, none⟩ = some (.int .i64 (ka ks i).l) ∧ w.cell? ⟨(ad.add (i * 3)).block, (ad.add (i * 3)).off + 2, none⟩ = some (.int .i64 (ka ks i).k)
theorem add_block (ad : Addr) (n : Nat) : (ad.add n).block = ad.block := by
  unfold Addr.add
  split <;> rfl
theorem KR.kept {w W : World} {S : Nat → Prop} {A : Option Addr} {ks : List Ky} (h : KR w A ks) (ht : Tn w W S) (hn : ∀ ad, A = some ad → ¬ S ad.block) : KR W A ks := fun i hi => by
  obtain ⟨ad, e, h0, h1, h2⟩ := h i hi
  have hm : ∀ a : Addr, a.block = ad.block → ∀ u, w.cell? a = some u → W.cell? a = some u := fun a ha u hu => (World.cell?_of_block (ht.block a.block (World.block_lt_of_cell? w a hu) (by rw [ha]; exact hn ad e))).trans hu
  exact ⟨ad, e, hm _ (add_block _ _) _ h0, hm ⟨_, _, none⟩ (add_block _ _) _ h1, hm ⟨_, _, none⟩ (add_block _ _) _ h2⟩
theorem keep3 {w W : World} {ad : Addr} {a b c : Value} (ht : Tn w W (fun _ => False)) (h0 : w.cell? ad = some a) (h1 : w.cell? ⟨ad.block, ad.off + 1, none⟩ = some b) (h2 : w.cell? ⟨ad.block, ad.off + 2, none⟩ = some c) :
    True ∧ True ∧ W.cell? ad = some a ∧ W.cell? ⟨ad.block, ad.off + 1, none⟩ = some b ∧ W.cell? ⟨ad.block, ad.off + 2, none⟩ = some c :=
  have hm : ∀ (a : Addr) u, w.cell? a = some u → W.cell? a = some u := fun a u hu => (World.cell?_of_block (ht.block a.block (World.block_lt_of_cell? w a hu) (fun h => h))).trans hu
  ⟨trivial, trivial, hm _ _ h0, hm _ _ h1, hm _ _ h2⟩
/-- The keys' first places, as items. -/
def fst (ks : List Ky) : Nat → List It
  | 0 => []
  | n + 1 => if (fst ks n).any (fun x => decide (x.1 = ka ks n)) = true then fst ks n else (ka ks n, (n : Int)) :: fst ks n
theorem fst_length (ks : List Ky) : ∀ n, (fst ks n).length ≤ n
  | 0 => Nat.le_refl _
  | n + 1 => by
    have h := fst_length ks n
    unfold fst
    split
    · omega
    · simp; omega
theorem any_at {ks : List Ky} {n : Nat} {L : List It} (hp : L.Perm (fst ks n)) (k : Ky) : ((fst ks n).any (fun x => decide (x.1 = k)) = true) ↔ ∃ i, i < L.length ∧ (at_ d0 L i).1 = k := by
  rw [List.any_eq_true]
  constructor
  · rintro ⟨x, hx, e⟩
    have h1 := hp.mem_iff.2 hx
    obtain ⟨i, hi, e2⟩ := List.getElem_of_mem h1
    exact ⟨i, hi, by rw [at_eq d0 L hi, e2]; simpa using e⟩
  · rintro ⟨i, hi, e⟩
    exact ⟨at_ d0 L i, hp.mem_iff.1 (at_mem hi), by simpa using e⟩
section
variable (qb mb : Nat) (v : Value) (L : List It) (k : Ky) (w : World) (hk : KyOk k) (hQ : QS w qb v mb L)
include hk hQ
theorem get_no (hl : L.length < 5000000000000) (hno : ∀ j, j < L.length → (at_ d0 L j).1 ≠ k) : Calls Try.prog 12 #[.pointer (some ⟨qb, 0, none⟩), .agg #[.int .i64 k.d, .int .i64 k.l, .int .i64 k.k]] w fun e w' => e = .returned (.tuple #[.int .i64 0, .bool false]) ∧ Tn w w' (fun _ => False) :=
  (get_calls qb mb v L k w hk hl hQ).mono fun e w' h => ⟨by
    rcases h.1 with ⟨h, _⟩ | ⟨i, hi, h, _⟩
    · exact h
    · exact absurd h (hno i hi), h.2⟩
theorem get_yes (hl : L.length < 5000000000000) {j : Nat} (hj : j < L.length) (he : (at_ d0 L j).1 = k) : Calls Try.prog 12 #[.pointer (some ⟨qb, 0, none⟩), .agg #[.int .i64 k.d, .int .i64 k.l, .int .i64 k.k]] w fun e w' => e = .returned (.tuple #[.int .i64 (at_ d0 L j).2, .bool true]) ∧ Tn w w' (fun _ => False) :=
  (get_calls qb mb v L k w hk hl hQ).mono fun e w' h => ⟨by
    rcases h.1 with ⟨_, h⟩ | ⟨i, hi, h1, h⟩
    · exact absurd he (h j hj)
    · obtain ⟨f, _, hf⟩ := hQ.pm
      have e1 := hf.inj hi hj (h1.trans he.symm)
      rw [← e1]
      exact h, h.2⟩
theorem put_no (n : Int) (hl : L.length + 1 < 3000000000000) (hno : ∀ j, j < L.length → (at_ d0 L j).1 ≠ k) : Calls Try.prog 14 #[.pointer (some ⟨qb, 0, none⟩), .agg #[.int .i64 k.d, .int .i64 k.l, .int .i64 k.k], .int .i64 n] w fun e w' =>
    e = .returned (.int .i64 0) ∧ ∃ v1, QS w' qb v1 mb (pushF ltI d0 L (k, n)) ∧ Tn w w' (fun q => q = qb ∨ q = mb ∨ v.ownBlock = some q) ∧ ∀ q, v1.ownBlock = some q → v.ownBlock = some q ∨ w.heap.size ≤ q :=
  (put_calls qb mb v L k n w hk hl hQ).mono fun e w' h => by
    rcases h with ⟨_, ⟨i, hi, h⟩, _⟩ | ⟨h1, _, h2⟩
    · exact absurd h (hno i hi)
    · exact ⟨h1, h2⟩
theorem put_yes (n : Int) (hl : L.length + 1 < 3000000000000) {j : Nat} (hj : j < L.length) (he : (at_ d0 L j).1 = k) : Calls Try.prog 14 #[.pointer (some ⟨qb, 0, none⟩), .agg #[.int .i64 k.d, .int .i64 k.l, .int .i64 k.k], .int .i64 n] w fun e w' =>
    e = .returned (.int .i64 110) ∧ Tn w w' (fun _ => False) :=
  (put_calls qb mb v L k n w hk hl hQ).mono fun e w' h => by
    rcases h with ⟨h1, _, h2⟩ | ⟨_, h, _⟩
    · exact ⟨h1, h2⟩
    · exact absurd he (h j hj)
end
set_option maxHeartbeats 4000000 in
set_option maxRecDepth 1000000 in
theorem filled_calls (A : Option Addr) (cap : Nat) (ks : List Ky) (w : World) (hr : KR w A ks) (hok : ∀ k ∈ ks, KyOk k) (hlen : ks.length ≤ 1000000) :
    Calls Try.prog 6 #[.slice A ks.length cap] w fun e w' => ∃ qb mb v L, e = .returned (.pointer (some ⟨qb, 0, none⟩)) ∧ QS w' qb v mb L ∧ HP ltI d0 L ∧ L.Perm (fst ks ks.length) ∧ Tn w w' (fun _ => False) ∧ w.heap.size ≤ qb ∧ w.heap.size ≤ mb ∧ ∀ k, v.ownBlock = some k → w.heap.size ≤ k := by
  have HR := Hd.mk hr
  have HOK := Hd.mk hok
  clear hr hok
  go_enter Try.func6, Try.ntmps6
  go_upto_region 4 with (first | (go_at_call 13; refine (new_calls _).mono ?_; rintro e W1 ⟨qb, mb, rfl, hb1, hb2, hQ1, hT1⟩; have HQ1 := Hd.mk hQ1; have HT1 := Hd.mk hT1; clear hQ1 hT1))
  go_wp2
  go_loopg [4] (ks.length + 1) (fun g s4 wr => ∃ (i : Nat) (v : Value) (L : List It), s4 = .int .i64 i ∧ i ≤ ks.length ∧ ks.length + 1 ≤ g + i ∧ Hd (QS wr qb v mb L) ∧ Hd (HP ltI d0 L) ∧ Hd (L.Perm (fst ks i)) ∧ Hd (Tn w wr (fun _ => False)) ∧ Hd (∀ k, v.ownBlock = some k → w.heap.size ≤ k))
  case atStart => exact ⟨0, .slice none 0 0, [], rfl, Nat.zero_le _, by omega, HQ1, ⟨fun j _ h => absurd h (Nat.not_lt_zero _)⟩, ⟨List.Perm.refl _⟩, HT1, ⟨fun k h => by cases h⟩⟩
  case round =>
    clear HQ1 HT1
    obtain ⟨i, v, L, rfl, hi, hg, HQ, HH, HP_, HT, HV⟩ := hrel
    by_cases c1 : i < ks.length
    · have c1' : (i : Int) < (ks.length : Int) := by omega
      have hkr := HR.out.kept HT.out (fun _ _ h => h)
      have HK := Hd.mk (HOK.out _ (ka_mem c1))
      have HLL : Hd (L.length ≤ i) := ⟨by rw [HP_.out.length_eq]; exact fst_length ks i⟩
      have hLl : L.length < 5000000000000 := by have := HLL.out; omega
      have hLp : L.length + 1 < 3000000000000 := by have := HLL.out; omega
      obtain ⟨ad, eA, k0, k1, k2⟩ := hkr i c1
      subst eA
      clear hkr
      have HAN := Hd.mk (any_at HP_.out (ka ks i))
      have HF : Hd (fst ks (i + 1) = if (fst ks i).any (fun x => decide (x.1 = ka ks i)) = true then fst ks i else (ka ks i, (i : Int)) :: fst ks i) := ⟨rfl⟩
      by_cases hth : ∃ j, j < L.length ∧ (at_ d0 L j).1 = ka ks i
      · obtain ⟨j, hj, hje⟩ := hth
        have HF2 : Hd (fst ks (i + 1) = fst ks i) := ⟨by rw [HF.out, if_pos (HAN.out.2 ⟨j, hj, hje⟩)]⟩
        have HJ := Hd.mk hje
        clear hje
        go_wp2_with (first | (go_at_call 12; refine (get_yes qb mb v L (ka ks i) _ HK.out HQ.out hLl hj HJ.out).mono ?_; rintro e W2 ⟨rfl, hT2⟩; obtain ⟨_, _, k0, k1, k2⟩ := keep3 hT2 k0 k1 k2; have HQ2 := Hd.mk (HQ.out.kept hT2 (fun h => h) (fun h => h) (fun _ _ h => h)); have HT2 := Hd.mk (HT.out.then_ hT2 (fun _ h => h.elim)); clear hT2) | (go_at_call 14; refine (put_yes qb mb v L (ka ks i) _ HK.out HQ2.out i hLp hj HJ.out).mono ?_; rintro e W3 ⟨rfl, hT3⟩; have HQ3 := Hd.mk (HQ2.out.kept hT3 (fun h => h) (fun h => h) (fun _ _ h => h)); have HT3 := Hd.mk (HT2.out.then_ hT3 (fun _ h => h.elim)); clear hT3))
        go_roundg (ks.length - i)
        case measure => omega
        case rel => exact ⟨i + 1, v, L, by go_num, by omega, by omega, HQ3, HH, ⟨by rw [HF2.out]; exact HP_.out⟩, HT3, HV⟩
      · have hno : ∀ j, j < L.length → (at_ d0 L j).1 ≠ ka ks i := fun j hj e => hth ⟨j, hj, e⟩
        have HF2 : Hd (fst ks (i + 1) = (ka ks i, (i : Int)) :: fst ks i) := ⟨by rw [HF.out, if_neg (fun h => hth (HAN.out.1 h))]⟩
        have HNO := Hd.mk hno
        clear hth hno
        go_wp2_with (first | (go_at_call 12; refine (get_no qb mb v L (ka ks i) _ HK.out HQ.out hLl HNO.out).mono ?_; rintro e W2 ⟨rfl, hT2⟩; obtain ⟨_, _, k0, k1, k2⟩ := keep3 hT2 k0 k1 k2; have HQ2 := Hd.mk (HQ.out.kept hT2 (fun h => h) (fun h => h) (fun _ _ h => h)); have HT2 := Hd.mk (HT.out.then_ hT2 (fun _ h => h.elim)); clear hT2) | (go_at_call 14; refine (put_no qb mb v L (ka ks i) _ HK.out HQ2.out i hLp HNO.out).mono ?_; rintro e W3 ⟨rfl, v3, hQ3, hT3, hN3⟩; have HQ3 := Hd.mk hQ3; have HT3 := Hd.mk (HT2.out.then_ hT3 (fun q h => .inr (h.elim (fun h => by rw [h]; exact hb1) (fun h => h.elim (fun h => by rw [h]; exact hb2) (fun h => HV.out q h))))); have HV3 : Hd (∀ k, v3.ownBlock = some k → w.heap.size ≤ k) := ⟨fun q h => (hN3 q h).elim (fun h => HV.out q h) (fun h => Nat.le_trans HT2.out.size h)⟩; clear hQ3 hT3 hN3))
        go_roundg (ks.length - i)
        case measure => omega
        case rel => exact ⟨i + 1, v3, _, by go_num, by omega, by omega, HQ3, ⟨pushF_HP wo HH.out _⟩, ⟨by rw [HF2.out]; exact (pushF_perm _ _).trans (HP_.out.cons _)⟩, HT3, HV3⟩
    · have c1' : decide ((i : Int) < (ks.length : Int)) = false := decide_eq_false (by omega)
      have e : i = ks.length := by omega
      subst e
      go_wp2
      go_ret
      exact ⟨qb, mb, v, L, rfl, HQ.out, HH.out, HP_.out, HT.out, hb1, hb2, HV.out⟩
end Go.Proofs.Ytkbbngkfncbgkaa.IQFill
