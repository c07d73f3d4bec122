/- The queue's up and down: they come to upF and downF. Condition: the place is within the row. -/
import Derived.Test.YtkbbngkfncbgkaaIQOrd
import Derived.Deep.LoopGhost
namespace Go.Proofs.Ytkbbngkfncbgkaa.IQUp
open Go.RowKit Go.Maps Go.Proofs.Ytkbbngkfncbgkaa.IQHeap Go.Proofs.Ytkbbngkfncbgkaa.IQWords Go.Proofs.Ytkbbngkfncbgkaa.IQSwap Go.Proofs.Ytkbbngkfncbgkaa.IQOrd
set_option linter.unusedVariables false
set_option linter.unusedSimpArgs false
theorem own_eq {b : Nat} {A : Option Addr} {n c : Nat} (h : A = some ⟨b, 0, none⟩) : (Value.slice A n c).ownBlock = some b := by rw [h]; rfl
/-- swap, the row's block not named. -/
theorem swap_v (qb mb : Nat) (v : Value) (i j : Nat) (L : List It) (w : World) (hi : i < L.length) (hj : j < L.length) (hl : L.length < 5000000000000) (hQ : QS w qb v mb L) :
    Calls Try.prog 23 #[.pointer (some ⟨qb, 0, none⟩), .int .i64 i, .int .i64 j] w fun e w' => e = .returned (.tuple #[]) ∧ QS w' qb v mb (sw d0 L i j) ∧ Tn w w' (fun k => k = mb ∨ v.ownBlock = some k) := by
  obtain ⟨b, cap, rfl⟩ := hQ.row.form (by omega)
  refine (swap_calls qb mb b cap i j L w hi hj hl hQ).mono ?_
  rintro e w' ⟨h1, h2, h3⟩
  exact ⟨h1, h2, h3.mono (fun k hk => hk.imp id (fun e => by rw [e]; rfl))⟩
set_option maxHeartbeats 4000000 in
set_option maxRecDepth 1000000 in
theorem up_calls (qb mb : Nat) (v : Value) (i0 : Nat) (L0 : List It) (w : World) (hi0 : i0 < L0.length) (hl : L0.length < 5000000000000) (hQ0 : QS w qb v mb L0) :
    Calls Try.prog 24 #[.pointer (some ⟨qb, 0, none⟩), .int .i64 i0] w fun e w' => e = .returned (.tuple #[]) ∧ QS w' qb v mb (upF ltI d0 L0 i0) ∧ Tn w w' (fun k => k = mb ∨ v.ownBlock = some k) := by
  have hrel0 : Hd (QS w qb v mb L0) := ⟨hQ0⟩
  clear hQ0
  go_enter Try.func24, Try.ntmps24
  go_wp2
  go_loopg [1] (i0 + 1) (fun g s1 wr => ∃ (i : Nat) (L : List It), s1 = .int .i64 i ∧ i < L.length ∧ L.length = L0.length ∧ i + 1 ≤ g ∧ Hd (QS wr qb v mb L) ∧ Hd (upF ltI d0 L i = upF ltI d0 L0 i0) ∧ Hd (Tn w wr (fun k => k = mb ∨ v.ownBlock = some k)))
  case atStart => exact ⟨i0, L0, rfl, hi0, rfl, by omega, hrel0, ⟨rfl⟩, ⟨Tn.refl _ _⟩⟩
  case round =>
    clear hrel0
    obtain ⟨i, L, rfl, hi, hlL, hg, hQ, hF, hT⟩ := hrel
    have hl2 : L.length < 5000000000000 := by omega
    by_cases c1 : 0 < i
    · have hp : par i < L.length := by have := par_lt c1; omega
      have hpl := par_lt c1
      have c1' : (i : Int) > 0 := by omega
      have hpi : ((i : Int) - 1).tdiv 2 = (par i : Nat) := by
        unfold par
        rw [Int.tdiv_eq_ediv_of_nonneg (by omega)]
        omega
      by_cases hc : ltI (at_ d0 L i) (at_ d0 L (par i)) = true
      · go_wp2_with (first | (go_at_call 28; refine (before_calls qb mb i (par i) v L _ hi hp hQ.out).mono ?_; rintro e w1 ⟨rfl, hb⟩; have hQ1 := Hd.mk (QS.kept hQ.out (Tn.of_below hb (fun _ => False)) (fun h => h) (fun h => h) (fun _ _ h => h)); have hT1 := Hd.mk (Tn.then_ hT.out (Tn.of_below hb (fun _ => False)) (fun _ h => h.elim))) | (go_at_call 23; refine (swap_v qb mb v i (par i) L _ hi hp hl2 hQ1.out).mono ?_; rintro e w2 ⟨rfl, hQ2, hT2⟩))
        go_roundg (par i + 1)
        case measure => omega
        case rel => exact ⟨par i, sw d0 L i (par i), rfl, by rw [sw_length]; exact hp, by rw [sw_length]; exact hlL, Nat.le_refl _, ⟨hQ2⟩, ⟨by rw [← upF_go c1 hc]; exact hF.out⟩, ⟨Tn.then_ hT1.out hT2 (fun _ h => .inl h)⟩⟩
      · have hc2 : ltI (at_ d0 L i) (at_ d0 L (par i)) = false := by simpa using hc
        have hs := Hd.mk (upF_stop (lt := ltI) (d := d0) (L := L) (i := i) (fun h => hc h.2))
        clear hc
        go_wp2_with (first | (go_at_call 28; refine (before_calls qb mb i (par i) v L _ hi hp hQ.out).mono ?_; rintro e w1 ⟨rfl, hb⟩; have hQ1 := Hd.mk (QS.kept hQ.out (Tn.of_below hb (fun _ => False)) (fun h => h) (fun h => h) (fun _ _ h => h)); have hT1 := Hd.mk (Tn.then_ hT.out (Tn.of_below hb (fun _ => False)) (fun _ h => h.elim))))
        go_end0
        exact ⟨rfl, by rw [← hF.out, hs.out]; exact hQ1.out, hT1.out⟩
    · have c1' : decide ((i : Int) > 0) = false := decide_eq_false (by omega)
      have hs := Hd.mk (upF_stop (lt := ltI) (d := d0) (L := L) (i := i) (fun h => c1 h.1))
      go_wp2
      go_end0
      exact ⟨rfl, by rw [← hF.out, hs.out]; exact hQ.out, hT.out⟩
end Go.Proofs.Ytkbbngkfncbgkaa.IQUp
