/- arrearslaw11.filled: a queue into which keys were put one by one. Conditions: the keys can be read, their numbers are ints, they are no more than a million. -/
import Derived.Test.YtkbbngkfncbgkaaDoorZIQPop
namespace Go.Proofs.YtkbbngkfncbgkaaDoor.IQFill
open Go.RowKit Go.Maps Go.Proofs.YtkbbngkfncbgkaaDoor.IQHeap Go.Proofs.YtkbbngkfncbgkaaDoor.IQWords Go.Proofs.YtkbbngkfncbgkaaDoor.IQSwap Go.Proofs.YtkbbngkfncbgkaaDoor.IQOrd Go.Proofs.YtkbbngkfncbgkaaDoor.IQUp Go.Proofs.YtkbbngkfncbgkaaDoor.IQGet Go.Proofs.YtkbbngkfncbgkaaDoor.IQPush Go.Proofs.YtkbbngkfncbgkaaDoor.IQPut
set_option linter.unusedVariables false
set_option linter.unusedSimpArgs false
/-- A row of keys that is read. -/
def kz : Ky := ⟨0, 0, 0⟩
def ka (ks : List Ky) (i : Nat) : Ky := ks.getD i kz
theorem ka_mem {ks : List Ky} {i : Nat} (h : i < ks.length) : ka ks i ∈ ks := by
  unfold ka
  rw [List.getD_eq_getElem?_getD, List.getElem?_eq_getElem h]
  exact List.getElem_mem h
def KR (w : World) (A : Option Addr) (ks : List Ky) : Prop := ∀ i, i < ks.length → ∃ ad, A = some ad ∧ w.cell? (ad.add (i * 3)) = some (.int .i64 (ka ks i).d) ∧ w.cell? ⟨(ad.add (i * 3)).block, (ad.add (i * 3)).off + 1, none⟩ = some (.int .i64 (ka ks i).l) ∧ w.cell? ⟨(ad.add (i * 3)).block, (ad.add (i * 3)).off + 2, none⟩ = some (.int .i64 (ka ks i).k)
theorem add_block (ad : Addr) (n : Nat) : (ad.add n).block = ad.block := by
  unfold Addr.add
  split <;> rfl
theorem KR.kept {w W : World} {S : Nat → Prop} {A : Option Addr} {ks : List Ky} (h : KR w A ks) (ht : Tn w W S) (hn : ∀ ad, A = some ad → ¬ S ad.block) : KR W A ks := fun i hi => by
  obtain ⟨ad, e, h0, h1, h2⟩ := h i hi
  have hm : ∀ a : Addr, a.block = ad.block → ∀ u, w.cell? a = some u → W.cell? a = some u := fun a ha u hu => (World.cell?_of_block (ht.block a.block (World.block_lt_of_cell? w a hu) (by rw [ha]; exact hn ad e))).trans hu
  exact ⟨ad, e, hm _ (add_block _ _) _ h0, hm ⟨_, _, none⟩ (add_block _ _) _ h1, hm ⟨_, _, none⟩ (add_block _ _) _ h2⟩
theorem keep3 {w W : World} {ad : Addr} {a b c : Value} (ht : Tn w W (fun _ => False)) (h0 : w.cell? ad = some a) (h1 : w.cell? ⟨ad.block, ad.off + 1, none⟩ = some b) (h2 : w.cell? ⟨ad.block, ad.off + 2, none⟩ = some c) :
    True ∧ True ∧ W.cell? ad = some a ∧ W.cell? ⟨ad.block, ad.off + 1, none⟩ = some b ∧ W.cell? ⟨ad.block, ad.off + 2, none⟩ = some c :=
  have hm : ∀ (a : Addr) u, w.cell? a = some u → W.cell? a = some u := fun a u hu => (World.cell?_of_block (ht.block a.block (World.block_lt_of_cell? w a hu) (fun h => h))).trans hu
  ⟨trivial, trivial, hm _ _ h0, hm _ _ h1, hm _ _ h2⟩
section
variable (qb mb : Nat) (v : Value) (L : List It) (k : Ky) (w : World) (hk : KyOk k) (hQ : QS w qb v mb L)
include hk hQ
theorem get_no (hl : L.length < 5000000000000) (hno : ∀ j, j < L.length → (at_ d0 L j).1 ≠ k) : Calls Tryd.prog 31 #[.pointer (some ⟨qb, 0, none⟩), .agg #[.int .i64 k.d, .int .i64 k.l, .int .i64 k.k]] w fun e w' => e = .returned (.tuple #[.int .i64 0, .bool false]) ∧ Tn w w' (fun _ => False) :=
  (get_calls qb mb v L k w hk hl hQ).mono fun e w' h => ⟨by
    rcases h.1 with ⟨h, _⟩ | ⟨i, hi, h, _⟩
    · exact h
    · exact absurd h (hno i hi), h.2⟩
theorem get_yes (hl : L.length < 5000000000000) {j : Nat} (hj : j < L.length) (he : (at_ d0 L j).1 = k) : Calls Tryd.prog 31 #[.pointer (some ⟨qb, 0, none⟩), .agg #[.int .i64 k.d, .int .i64 k.l, .int .i64 k.k]] w fun e w' => e = .returned (.tuple #[.int .i64 (at_ d0 L j).2, .bool true]) ∧ Tn w w' (fun _ => False) :=
  (get_calls qb mb v L k w hk hl hQ).mono fun e w' h => ⟨by
    rcases h.1 with ⟨_, h⟩ | ⟨i, hi, h1, h⟩
    · exact absurd he (h j hj)
    · obtain ⟨f, _, hf⟩ := hQ.pm
      have e1 := hf.inj hi hj (h1.trans he.symm)
      rw [← e1]
      exact h, h.2⟩
theorem put_no (n : Int) (hl : L.length + 1 < 3000000000000) (hno : ∀ j, j < L.length → (at_ d0 L j).1 ≠ k) : Calls Tryd.prog 13 #[.pointer (some ⟨qb, 0, none⟩), .agg #[.int .i64 k.d, .int .i64 k.l, .int .i64 k.k], .int .i64 n] w fun e w' =>
    e = .returned (.int .i64 0) ∧ ∃ v1, QS w' qb v1 mb (pushF ltI d0 L (k, n)) ∧ Tn w w' (fun q => q = qb ∨ q = mb ∨ v.ownBlock = some q) ∧ ∀ q, v1.ownBlock = some q → v.ownBlock = some q ∨ w.heap.size ≤ q :=
  (put_calls qb mb v L k n w hk hl hQ).mono fun e w' h => by
    rcases h with ⟨_, ⟨i, hi, h⟩, _⟩ | ⟨h1, _, h2⟩
    · exact absurd h (hno i hi)
    · exact ⟨h1, h2⟩
theorem put_yes (n : Int) (hl : L.length + 1 < 3000000000000) {j : Nat} (hj : j < L.length) (he : (at_ d0 L j).1 = k) : Calls Tryd.prog 13 #[.pointer (some ⟨qb, 0, none⟩), .agg #[.int .i64 k.d, .int .i64 k.l, .int .i64 k.k], .int .i64 n] w fun e w' =>
    e = .returned (.int .i64 110) ∧ Tn w w' (fun _ => False) :=
  (put_calls qb mb v L k n w hk hl hQ).mono fun e w' h => by
    rcases h with ⟨h1, _, h2⟩ | ⟨_, h, _⟩
    · exact ⟨h1, h2⟩
    · exact absurd he (h j hj)
end
end Go.Proofs.YtkbbngkfncbgkaaDoor.IQFill
