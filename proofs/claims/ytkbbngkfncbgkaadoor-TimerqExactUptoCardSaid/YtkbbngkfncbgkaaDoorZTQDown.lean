/- The queue's down comes to downF. Condition: the place is within the row. -/
import Derived.Test.YtkbbngkfncbgkaaDoorZTQOrd
import Derived.Deep.LoopGhost
namespace Go.Proofs.YtkbbngkfncbgkaaDoor.TQUp
open Go.RowKit Go.Maps Go.Proofs.YtkbbngkfncbgkaaDoor.IQHeap Go.Proofs.YtkbbngkfncbgkaaDoor.TQWords Go.Proofs.YtkbbngkfncbgkaaDoor.TQSwap Go.Proofs.YtkbbngkfncbgkaaDoor.TQOrd
set_option linter.unusedVariables false
set_option linter.unusedSimpArgs false
theorem own_eq {b : Nat} {A : Option Addr} {n c : Nat} (h : A = some ⟨b, 0, none⟩) : (Value.slice A n c).ownBlock = some b := by rw [h]; rfl
/-- swap, the row's block not named. -/
theorem swap_v (qb mb : Nat) (v : Value) (i j : Nat) (L : List It) (w : World) (hi : i < L.length) (hj : j < L.length) (hl : L.length < 5000000000000) (hQ : QS w qb v mb L) :
    Calls Tryd.prog 54 #[.pointer (some ⟨qb, 0, none⟩), .int .i64 i, .int .i64 j] w fun e w' => e = .returned (.tuple #[]) ∧ QS w' qb v mb (sw d0 L i j) ∧ Tn w w' (fun k => k = mb ∨ v.ownBlock = some k) := by
  obtain ⟨b, cap, rfl⟩ := hQ.row.form (by omega)
  refine (swap_calls qb mb b cap i j L w hi hj hl hQ).mono ?_
  rintro e w' ⟨h1, h2, h3⟩
  exact ⟨h1, h2, h3.mono (fun k hk => hk.imp id (fun e => by rw [e]; rfl))⟩
set_option maxHeartbeats 4000000 in
set_option maxRecDepth 1000000 in
theorem up_calls (qb mb : Nat) (v : Value) (i0 : Nat) (L0 : List It) (w : World) (hi0 : i0 < L0.length) (hl : L0.length < 5000000000000) (hQ0 : QS w qb v mb L0) :
    Calls Tryd.prog 50 #[.pointer (some ⟨qb, 0, none⟩), .int .i64 i0] w fun e w' => e = .returned (.tuple #[]) ∧ QS w' qb v mb (upF ltI d0 L0 i0) ∧ Tn w w' (fun k => k = mb ∨ v.ownBlock = some k) := by
  have hrel0 : Hd (QS w qb v mb L0) := ⟨hQ0⟩
  clear hQ0
  go_enter Tryd.func50, Tryd.ntmps50
  go_wp2
  go_loopg [1] (i0 + 1) (fun g s1 wr => ∃ (i : Nat) (L : List It), s1 = .int .i64 i ∧ i < L.length ∧ L.length = L0.length ∧ i + 1 ≤ g ∧ Hd (QS wr qb v mb L) ∧ Hd (upF ltI d0 L i = upF ltI d0 L0 i0) ∧ Hd (Tn w wr (fun k => k = mb ∨ v.ownBlock = some k)))
  case atStart => exact ⟨i0, L0, rfl, hi0, rfl, by omega, hrel0, ⟨rfl⟩, ⟨Tn.refl _ _⟩⟩
  case round =>
    clear hrel0
    obtain ⟨i, L, rfl, hi, hlL, hg, hQ, hF, hT⟩ := hrel
    have hl2 : L.length < 5000000000000 := by omega
    by_cases c1 : 0 < i
    · have hp : par i < L.length := by have := par_lt c1; omega
      have hpl := par_lt c1
      have c1' : (i : Int) > 0 := by omega
      have hpi : ((i : Int) - 1).tdiv 2 = (par i : Nat) := by
        unfold par
        rw [Int.tdiv_eq_ediv_of_nonneg (by omega)]
        omega
      by_cases hc : ltI (at_ d0 L i) (at_ d0 L (par i)) = true
      · go_wp2_with (first | (go_at_call 59; refine (before_calls qb mb i (par i) v L _ hi hp hQ.out).mono ?_; rintro e w1 ⟨rfl, hb⟩; have hQ1 := Hd.mk (QS.kept hQ.out (Tn.of_below hb (fun _ => False)) (fun h => h) (fun h => h) (fun _ _ h => h)); have hT1 := Hd.mk (Tn.then_ hT.out (Tn.of_below hb (fun _ => False)) (fun _ h => h.elim))) | (go_at_call 54; refine (swap_v qb mb v i (par i) L _ hi hp hl2 hQ1.out).mono ?_; rintro e w2 ⟨rfl, hQ2, hT2⟩))
        go_roundg (par i + 1)
        case measure => omega
        case rel => exact ⟨par i, sw d0 L i (par i), rfl, by rw [sw_length]; exact hp, by rw [sw_length]; exact hlL, Nat.le_refl _, ⟨hQ2⟩, ⟨by rw [← upF_go c1 hc]; exact hF.out⟩, ⟨Tn.then_ hT1.out hT2 (fun _ h => .inl h)⟩⟩
      · have hc2 : ltI (at_ d0 L i) (at_ d0 L (par i)) = false := by simpa using hc
        have hs := Hd.mk (upF_stop (lt := ltI) (d := d0) (L := L) (i := i) (fun h => hc h.2))
        clear hc
        go_wp2_with (first | (go_at_call 59; refine (before_calls qb mb i (par i) v L _ hi hp hQ.out).mono ?_; rintro e w1 ⟨rfl, hb⟩; have hQ1 := Hd.mk (QS.kept hQ.out (Tn.of_below hb (fun _ => False)) (fun h => h) (fun h => h) (fun _ _ h => h)); have hT1 := Hd.mk (Tn.then_ hT.out (Tn.of_below hb (fun _ => False)) (fun _ h => h.elim))))
        go_end0
        exact ⟨rfl, by rw [← hF.out, hs.out]; exact hQ1.out, hT1.out⟩
    · have c1' : decide ((i : Int) > 0) = false := decide_eq_false (by omega)
      have hs := Hd.mk (upF_stop (lt := ltI) (d := d0) (L := L) (i := i) (fun h => c1 h.1))
      go_wp2
      go_end0
      exact ⟨rfl, by rw [← hF.out, hs.out]; exact hQ.out, hT.out⟩
end Go.Proofs.YtkbbngkfncbgkaaDoor.TQUp

namespace Go.Proofs.YtkbbngkfncbgkaaDoor.TQDown
open Go.RowKit Go.Maps Go.Proofs.YtkbbngkfncbgkaaDoor.IQHeap Go.Proofs.YtkbbngkfncbgkaaDoor.TQWords Go.Proofs.YtkbbngkfncbgkaaDoor.TQSwap Go.Proofs.YtkbbngkfncbgkaaDoor.TQOrd Go.Proofs.YtkbbngkfncbgkaaDoor.TQUp
set_option linter.unusedVariables false
set_option linter.unusedSimpArgs false
def restF (L : List It) (i c m : Nat) : Nat := if c = 2 * i + 1 then pick ltI d0 L (2 * i + 2) (pick ltI d0 L (2 * i + 1) m) else if c = 2 * i + 2 then pick ltI d0 L (2 * i + 2) m else m
theorem rest_start (L : List It) (i : Nat) : restF L i (2 * i + 1) i = least ltI d0 L i := by
  unfold restF least
  rw [if_pos rfl]
theorem rest_go (L : List It) (i c m : Nat) (h1 : 2 * i + 1 ≤ c) (h2 : c ≤ 2 * i + 2) : restF L i (c + 1) (pick ltI d0 L c m) = restF L i c m := by
  unfold restF
  by_cases e : c = 2 * i + 1
  · subst e
    rw [if_neg (by omega), if_pos (by omega), if_pos rfl]
  · have e2 : c = 2 * i + 2 := by omega
    subst e2
    rw [if_neg (by omega), if_neg (by omega), if_neg (by omega), if_pos rfl]
theorem pick_out (L : List It) (c m : Nat) (h : ¬ c < L.length) : pick ltI d0 L c m = m := by
  unfold pick
  rw [if_neg (fun hh => h hh.1)]
theorem rest_end (L : List It) (i c m : Nat) (h1 : 2 * i + 1 ≤ c) (h : ¬ (c ≤ 2 * i + 2 ∧ c < L.length)) : restF L i c m = m := by
  unfold restF
  split
  · rw [pick_out _ _ _ (by omega), pick_out _ _ _ (by omega)]
  · split
    · rw [pick_out _ _ _ (by omega)]
    · rfl
set_option maxHeartbeats 4000000 in
set_option maxRecDepth 1000000 in
theorem down_calls (qb mb : Nat) (v : Value) (i0 : Nat) (L0 : List It) (w : World) (hi0 : i0 < L0.length) (hl : L0.length < 5000000000000) (hQ0 : QS w qb v mb L0) :
    Calls Tryd.prog 55 #[.pointer (some ⟨qb, 0, none⟩), .int .i64 i0] w fun e w' => e = .returned (.tuple #[]) ∧ QS w' qb v mb (downF ltI d0 L0 i0) ∧ Tn w w' (fun k => k = mb ∨ v.ownBlock = some k) := by
  obtain ⟨b, cap, rfl⟩ := hQ0.row.form (by omega)
  have hrel0 : Hd (QS w qb (.slice (some ⟨b, 0, none⟩) L0.length cap) mb L0) := ⟨hQ0⟩
  clear hQ0
  go_enter Tryd.func55, Tryd.ntmps55
  go_wp2
  go_loopg [1, 4, 5] (L0.length + 1) (fun g s1 s4 s5 wr => ∃ (i : Nat) (L : List It), s1 = .int .i64 i ∧ i < L.length ∧ L.length = L0.length ∧ L.length + 1 ≤ g + i ∧ Hd (QS wr qb (.slice (some ⟨b, 0, none⟩) L0.length cap) mb L) ∧ Hd (downF ltI d0 L i = downF ltI d0 L0 i0) ∧ Hd (Tn w wr (fun k => k = mb ∨ (Value.slice (some ⟨b, 0, none⟩) L0.length cap).ownBlock = some k)))
  case atStart => exact ⟨i0, L0, rfl, hi0, rfl, by omega, hrel0, ⟨rfl⟩, ⟨Tn.refl _ _⟩⟩
  case round =>
    clear hrel0
    obtain ⟨i, L, rfl, hi, hlL, hg, hQ, hF, hT⟩ := hrel
    have hl2 : L.length < 5000000000000 := by omega
    go_wp2
    go_loopg [4, 5] 3 (fun g s4 s5 wr => ∃ (m c : Nat), s4 = .int .i64 m ∧ s5 = .int .i64 c ∧ m < L.length ∧ 2 * i + 1 ≤ c ∧ c ≤ 2 * i + 3 ∧ 2 * i + 4 ≤ g + c ∧ Hd (QS wr qb (.slice (some ⟨b, 0, none⟩) L0.length cap) mb L) ∧ Hd (restF L i c m = least ltI d0 L i) ∧ Hd (Tn w wr (fun k => k = mb ∨ (Value.slice (some ⟨b, 0, none⟩) L0.length cap).ownBlock = some k)))
    case atStart => exact ⟨i, 2 * i + 1, rfl, by go_num, hi, Nat.le_refl _, by omega, by omega, hQ, ⟨rest_start L i⟩, hT⟩
    case round =>
      clear hQ hT
      obtain ⟨m, c, rfl, rfl, hm, hc1, hc3, hgi, hQ, hR, hT⟩ := hrel
      have q0 := hQ.out.c0
      by_cases cA : c ≤ 2 * i + 2
      · have cA' : (c : Int) ≤ 2 * (i : Int) + 2 := by omega
        by_cases cB : c < L.length
        · have cB' : (c : Int) < (L0.length : Int) := by omega
          have hgo := Hd.mk (rest_go L i c m hc1 cA)
          by_cases hc : ltI (at_ d0 L c) (at_ d0 L m) = true
          · have hpk : pick ltI d0 L c m = c := by unfold pick; rw [if_pos ⟨cB, hc⟩]
            have HPK := Hd.mk hpk
            clear hpk
            go_wp2_with (first | (go_at_call 59; refine (before_calls qb mb c m _ L _ cB hm hQ.out).mono ?_; rintro e w1 ⟨rfl, hb⟩; have hQ1 := Hd.mk (QS.kept hQ.out (Tn.of_below hb (fun _ => False)) (fun h => h) (fun h => h) (fun _ _ h => h)); have hT1 := Hd.mk (Tn.then_ hT.out (Tn.of_below hb (fun _ => False)) (fun _ h => h.elim))))
            go_roundg (2 * i + 3 - c)
            case measure => omega
            case rel => exact ⟨c, c + 1, by go_num, by go_num, cB, by omega, by omega, by omega, hQ1, ⟨by rw [← hR.out, ← hgo.out, HPK.out]⟩, hT1⟩
          · have hc2 : ltI (at_ d0 L c) (at_ d0 L m) = false := by simpa using hc
            have hpk : pick ltI d0 L c m = m := by unfold pick; rw [if_neg (fun hh => hc hh.2)]
            have HPK := Hd.mk hpk
            clear hpk hc
            go_wp2_with (first | (go_at_call 59; refine (before_calls qb mb c m _ L _ cB hm hQ.out).mono ?_; rintro e w1 ⟨rfl, hb⟩; have hQ1 := Hd.mk (QS.kept hQ.out (Tn.of_below hb (fun _ => False)) (fun h => h) (fun h => h) (fun _ _ h => h)); have hT1 := Hd.mk (Tn.then_ hT.out (Tn.of_below hb (fun _ => False)) (fun _ h => h.elim))))
            go_roundg (2 * i + 3 - c)
            case measure => omega
            case rel => exact ⟨m, c + 1, by go_num, by go_num, hm, by omega, by omega, by omega, hQ1, ⟨by rw [← hR.out, ← hgo.out, HPK.out]⟩, hT1⟩
        · have cB' : decide ((c : Int) < (L0.length : Int)) = false := decide_eq_false (by omega)
          have hend := rest_end L i c m hc1 (fun h => cB h.2)
          have hlm : Hd (least ltI d0 L i = m) := ⟨by rw [← hR.out, hend]⟩
          clear hend
          by_cases hmi : m = i
          · subst hmi
            have hs := Hd.mk (downF_stop (lt := ltI) (d := d0) (L := L) (i := m) hlm.out)
            go_wp2
            (try simp only [Exit.inBlock, Exit.then])
            refine bodyPost_ret (results_none rfl _ _ _) rfl ?_
            exact ⟨rfl, by rw [← hF.out, hs.out]; exact hQ.out, hT.out⟩
          · have hmi2 : ((m : Int) == (i : Int)) = false := beq_eq_false_iff_ne.2 (by omega)
            have hs : Hd (downF ltI d0 L i = downF ltI d0 (sw d0 L i m) m) := ⟨by
              have h := downF_go (lt := ltI) (d := d0) (L := L) (i := i) (by rw [hlm.out]; exact hmi)
              rw [hlm.out] at h
              exact h⟩
            have him : i < m := by
              rcases least_or ltI d0 L i with h | ⟨h, _⟩
              · rw [hlm.out] at h
                exact absurd h hmi
              · rw [hlm.out] at h
                exact h
            go_wp2_with (first | (go_at_call 54; refine (swap_v qb mb _ i m L _ hi hm hl2 hQ.out).mono ?_; rintro e w2 ⟨rfl, hQ2, hT2⟩))
            go_roundg (L.length + 1 - m)
            case measure => omega
            case rel => exact ⟨m, sw d0 L i m, rfl, by rw [sw_length]; exact hm, by rw [sw_length]; exact hlL, by rw [sw_length]; omega, ⟨hQ2⟩, ⟨by rw [← hs.out]; exact hF.out⟩, ⟨Tn.then_ hT.out hT2 (fun _ h => .inl h)⟩⟩
      · have cA' : decide ((c : Int) ≤ 2 * (i : Int) + 2) = false := decide_eq_false (by omega)
        have hend := rest_end L i c m hc1 (fun h => cA h.1)
        have hlm : Hd (least ltI d0 L i = m) := ⟨by rw [← hR.out, hend]⟩
        clear hend
        by_cases hmi : m = i
        · subst hmi
          have hs := Hd.mk (downF_stop (lt := ltI) (d := d0) (L := L) (i := m) hlm.out)
          go_wp2
          (try simp only [Exit.inBlock, Exit.then])
          refine bodyPost_ret (results_none rfl _ _ _) rfl ?_
          exact ⟨rfl, by rw [← hF.out, hs.out]; exact hQ.out, hT.out⟩
        · have hmi2 : ((m : Int) == (i : Int)) = false := beq_eq_false_iff_ne.2 (by omega)
          have hs : Hd (downF ltI d0 L i = downF ltI d0 (sw d0 L i m) m) := ⟨by
            have h := downF_go (lt := ltI) (d := d0) (L := L) (i := i) (by rw [hlm.out]; exact hmi)
            rw [hlm.out] at h
            exact h⟩
          have him : i < m := by
            rcases least_or ltI d0 L i with h | ⟨h, _⟩
            · rw [hlm.out] at h
              exact absurd h hmi
            · rw [hlm.out] at h
              exact h
          go_wp2_with (first | (go_at_call 54; refine (swap_v qb mb _ i m L _ hi hm hl2 hQ.out).mono ?_; rintro e w2 ⟨rfl, hQ2, hT2⟩))
          go_roundg (L.length + 1 - m)
          case measure => omega
          case rel => exact ⟨m, sw d0 L i m, rfl, by rw [sw_length]; exact hm, by rw [sw_length]; exact hlL, by rw [sw_length]; omega, ⟨hQ2⟩, ⟨by rw [← hs.out]; exact hF.out⟩, ⟨Tn.then_ hT.out hT2 (fun _ h => .inl h)⟩⟩
end Go.Proofs.YtkbbngkfncbgkaaDoor.TQDown
