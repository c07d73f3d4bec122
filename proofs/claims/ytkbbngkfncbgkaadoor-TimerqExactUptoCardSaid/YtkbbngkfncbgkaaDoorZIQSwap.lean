/- The queue's swap: the items at two places are exchanged, in the row and in the map. Condition: both places are within the row. -/
import Derived.Test.YtkbbngkfncbgkaaDoorZIQWords
import Derived.BigRegion
import Derived.BigQuiet
import Derived.StillTailTactics
import Derived.Deep.QuietTactic
namespace Go.Proofs.YtkbbngkfncbgkaaDoor.IQSwap
open Go.RowKit Go.Maps Go.Proofs.YtkbbngkfncbgkaaDoor.IQHeap Go.Proofs.YtkbbngkfncbgkaaDoor.IQWords
set_option linter.unusedVariables false
set_option linter.unusedSimpArgs false
theorem wf_nat {i : Nat} (h : i < 9000000000000000000) : (Lit.int .i64 (i : Int)).wf = true := by
  exact WalkArith.wf_i64 (by omega)
/-- What stands between the exchange in the row and the map's stores. -/
structure Mid (w W : World) (qb mb b cap : Nat) (L L2 : List It) (s : Nat) (f : Ky → Option Nat) : Prop where
  st : W.heap[qb]? = some (.cells #[.slice (some ⟨b, 0, none⟩) L.length cap, .map (some mb)] 54 (0, 0))
  row : IR W (.slice (some ⟨b, 0, none⟩) L.length cap) L2
  pm : PMf W mb s f
  tn : Tn w W (fun k => k = mb ∨ k = b)
theorem mid0 {w : World} {qb mb b cap : Nat} {L : List It} {f : Ky → Option Nat} {i j : Nat} (hi : i < L.length) (hj : j < L.length) (hQ : QS w qb (.slice (some ⟨b, 0, none⟩) L.length cap) mb L) (hp : PMf w mb L.length f) {x y : It} (hx : at_ d0 L i = x) (hy : at_ d0 L j = y) :
    Mid w (put4 (put4 w b i y) b j x).drew qb mb b cap L (sw d0 L i j) L.length f := by
  obtain ⟨r1, t1⟩ := hQ.row.put hi y
  have r2 : IR (put4 w b i y) (.slice (some ⟨b, 0, none⟩) (L.set i y).length cap) (L.set i y) := by rw [List.length_set]; exact r1
  obtain ⟨r3, t3⟩ := r2.put (i := j) (by rw [List.length_set]; exact hj) x
  have t0 := Tn.then_ t1 t3 (fun _ h => Or.inl h)
  have t := Tn.drew t0
  have n2 : qb ≠ b := fun e => hQ.n2 (by rw [e]; rfl)
  have n3 : mb ≠ b := fun e => hQ.n3 (by rw [e]; rfl)
  refine ⟨t.blk hQ.st n2, ?_, hp.kept t n3, t.mono (fun _ h => .inr h)⟩
  unfold sw
  rw [hx, hy]
  rw [List.length_set] at r3
  exact IR.drew r3
theorem Mid.store {w W W1 : World} {qb mb b cap : Nat} {L L2 : List It} {s s1 : Nat} {f f1 : Ky → Option Nat} (h : Mid w W qb mb b cap L L2 s f) (hQ : QS w qb (.slice (some ⟨b, 0, none⟩) L.length cap) mb L) (hp : PMf W1 mb s1 f1) (ht : Tn W W1 (fun q => q = mb)) : Mid w W1 qb mb b cap L L2 s1 f1 := by
  have n3 : b ≠ mb := fun e => hQ.n3 (by rw [← e]; rfl)
  refine ⟨ht.blk h.st hQ.n1, h.row.kept ht (fun k hk => by cases hk; exact n3), hp, h.tn.then_ ht (fun k hk => .inl (.inl hk))⟩
theorem Mid.drew {w W : World} {qb mb b cap : Nat} {L L2 : List It} {s : Nat} {f : Ky → Option Nat} (h : Mid w W qb mb b cap L L2 s f) : Mid w W.drew qb mb b cap L L2 s f := ⟨h.st, h.row.drew, h.pm.drew, h.tn.drew⟩
theorem Mid.at0 {w W : World} {qb mb b cap : Nat} {L L2 : List It} {s : Nat} {f : Ky → Option Nat} (h : Mid w W qb mb b cap L L2 s f) (hl : L2.length = L.length) {i : Nat} (hi : i < L.length) {x : It} (hx : at_ d0 L2 i = x) :
    W.cell? ⟨qb, 0, none⟩ = some (.slice (some ⟨b, 0, none⟩) L.length cap) ∧ W.cell? ⟨qb, 1, none⟩ = some (.map (some mb)) ∧ W.cell? ⟨b, i * 4, none⟩ = some (.int .i64 x.1.d) ∧ W.cell? ⟨b, i * 4 + 1, none⟩ = some (.int .i64 x.1.l) ∧ W.cell? ⟨b, i * 4 + 2, none⟩ = some (.int .i64 x.1.k) := by
  have r := h.row
  rw [← hl] at r
  rw [← hx]
  exact ⟨cell_of_row W qb 0 _ _ (0, 0) h.st, cell_of_row W qb 1 _ _ (0, 0) h.st, r.cell (by omega) 0 (by decide), r.cell (by omega) 1 (by decide), r.cell (by omega) 2 (by decide)⟩
set_option maxHeartbeats 4000000 in
set_option maxRecDepth 1000000 in
theorem swap_calls (qb mb b cap i j : Nat) (L : List It) (w : World) (hi : i < L.length) (hj : j < L.length) (hl : L.length < 5000000000000) (hQ : QS w qb (.slice (some ⟨b, 0, none⟩) L.length cap) mb L) :
    Calls Tryd.prog 52 #[.pointer (some ⟨qb, 0, none⟩), .int .i64 i, .int .i64 j] w fun e w' => e = .returned (.tuple #[]) ∧ QS w' qb (.slice (some ⟨b, 0, none⟩) L.length cap) mb (sw d0 L i j) ∧ Tn w w' (fun k => k = mb ∨ k = b) := by
  obtain ⟨f, hp, hf⟩ := hQ.pm
  obtain ⟨x, hx⟩ : ∃ x, at_ d0 L i = x := ⟨_, rfl⟩
  obtain ⟨y, hy⟩ : ∃ y, at_ d0 L j = y := ⟨_, rfl⟩
  have hM := mid0 hi hj hQ hp hx hy
  have q0 := hQ.c0
  have q1 := hQ.c1
  have c0 : w.cell? ⟨b, i * 4, none⟩ = some (.int .i64 x.1.d) := by rw [← hx]; exact hQ.row.cell hi 0 (by decide)
  have c1 : w.cell? ⟨b, i * 4 + 1, none⟩ = some (.int .i64 x.1.l) := by rw [← hx]; exact hQ.row.cell hi 1 (by decide)
  have c2 : w.cell? ⟨b, i * 4 + 2, none⟩ = some (.int .i64 x.1.k) := by rw [← hx]; exact hQ.row.cell hi 2 (by decide)
  have c3 : w.cell? ⟨b, i * 4 + 3, none⟩ = some (.int .i64 x.2) := by rw [← hx]; exact hQ.row.cell hi 3 (by decide)
  have e0 : w.cell? ⟨b, j * 4, none⟩ = some (.int .i64 y.1.d) := by rw [← hy]; exact hQ.row.cell hj 0 (by decide)
  have e1 : w.cell? ⟨b, j * 4 + 1, none⟩ = some (.int .i64 y.1.l) := by rw [← hy]; exact hQ.row.cell hj 1 (by decide)
  have e2 : w.cell? ⟨b, j * 4 + 2, none⟩ = some (.int .i64 y.1.k) := by rw [← hy]; exact hQ.row.cell hj 2 (by decide)
  have e3 : w.cell? ⟨b, j * 4 + 3, none⟩ = some (.int .i64 y.2) := by rw [← hy]; exact hQ.row.cell hj 3 (by decide)
  have hfr : ∀ k, w.frozen? ⟨b, k, none⟩ = false := hQ.row.frozen
  have hne : qb ≠ b := fun e => hQ.n2 (by rw [e]; rfl)
  have im : (i : Int) < (L.length : Int) := by omega
  have jm : (j : Int) < (L.length : Int) := by omega
  have hlen : (sw d0 L i j).length = L.length := sw_length _ _ _ _
  have hu : at_ d0 (sw d0 L i j) j = x := by rw [at_sw d0 L j hi hj, if_pos rfl, hx]
  have hz : at_ d0 (sw d0 L i j) i = y := by
    rw [at_sw d0 L i hi hj]
    by_cases e : i = j
    · subst e
      rw [if_pos rfl, ← hy]
    · rw [if_neg e, if_pos rfl, hy]
  have kx : KyOk x.1 := by rw [← hx]; exact hQ.okAt hi
  have ky : KyOk y.1 := by rw [← hy]; exact hQ.okAt hj
  have fx : f x.1 = some i := by rw [← hx]; exact hf.1 i hi
  have fy : f y.1 = some j := by rw [← hy]; exact hf.1 j hj
  have hend : ∀ W, Mid w W qb mb b cap L (sw d0 L i j) L.length (upd (upd f y.1 (some i)) x.1 (some j)) → QS W qb (.slice (some ⟨b, 0, none⟩) L.length cap) mb (sw d0 L i j) ∧ Tn w W (fun k => k = mb ∨ k = b) := fun W h => by
    refine ⟨⟨h.st, h.row, ⟨_, by rw [hlen]; exact h.pm, by rw [← hx, ← hy]; exact hf.swap hi hj⟩, fun q hq => hQ.ok q ((sw_perm d0 hi hj).mem_iff.1 hq)⟩, h.tn⟩
  have hs1 : (f y.1).isSome = true := by rw [fy]; rfl
  have hs2 : (upd f y.1 (some i) x.1).isSome = true := by
    unfold upd
    split
    · rfl
    · rw [fx]; rfl
  have HM := Hd.mk hM
  have HE := Hd.mk hend
  have HQ := Hd.mk hQ
  have HS1 := Hd.mk hs1
  have HS2 := Hd.mk hs2
  have KX := Hd.mk kx
  have KY := Hd.mk ky
  have HZ := Hd.mk hz
  have HU := Hd.mk hu
  have HX := Hd.mk hx
  have HY := Hd.mk hy
  clear hM hend hf hQ hp hs1 hs2 fx fy kx ky hz hu hx hy
  go_enter Tryd.func52, Tryd.ntmps52
  go_wp2
  by_cases hij : i = j
  · subst hij
    have hxy : x = y := by rw [← HX.out, ← HY.out]
    subst hxy
    clear e0 e1 e2 e3 jm
    go_region
    go_wp2
    generalize hW : World.drew _ = W0
    have hM1 : Mid w W0 qb mb b cap L (sw d0 L i i) L.length f := by rw [← hW]; exact HM.out
    clear HM hW q0 q1 c0 c1 c2 c3 hfr hne
    obtain ⟨q0, q1, c0, c1, c2⟩ := hM1.at0 hlen hi HZ.out
    have HM1 := Hd.mk hM1
    clear hM1
    go_still_tail 13, (by kernel_rfl)
    change wpList _ _ _ _ _ W0.drew
    clear q0 q1 c0 c1 c2
    refine PMf.store (w := W0.drew) HM1.out.pm.drew KY.out i (wf_nat (by omega)) (by omega) rfl _ _ _ rfl rfl rfl rfl ?_
    intro W1 hp1 ht1
    rw [if_pos HS1.out] at hp1
    have hM2 := HM1.out.drew.store HQ.out hp1 ht1
    clear HM1 hp1 ht1
    go_wp2
    obtain ⟨q0, q1, c0, c1, c2⟩ := hM2.at0 hlen hi HU.out
    have HM2 := Hd.mk hM2
    clear hM2
    go_still_tail 13, (by kernel_rfl)
    change wpList _ _ _ _ _ W1.drew
    clear q0 q1 c0 c1 c2
    refine PMf.store (w := W1.drew) HM2.out.pm.drew KX.out i (wf_nat (by omega)) (by omega) rfl _ _ _ rfl rfl rfl rfl ?_
    intro W2 hp2 ht2
    rw [if_pos HS2.out] at hp2
    have hM3 := HM2.out.drew.store HQ.out hp2 ht2
    go_wp2
    go_end0
    exact ⟨rfl, HE.out _ hM3⟩
  · go_region
    go_wp2
    generalize hW : World.drew _ = W0
    have hM1 : Mid w W0 qb mb b cap L (sw d0 L i j) L.length f := by rw [← hW]; exact HM.out
    clear HM hW q0 q1 c0 c1 c2 c3 e0 e1 e2 e3 hfr hne
    obtain ⟨q0, q1, c0, c1, c2⟩ := hM1.at0 hlen hi HZ.out
    have HM1 := Hd.mk hM1
    clear hM1
    go_still_tail 13, (by kernel_rfl)
    change wpList _ _ _ _ _ W0.drew
    clear q0 q1 c0 c1 c2
    refine PMf.store (w := W0.drew) HM1.out.pm.drew KY.out i (wf_nat (by omega)) (by omega) rfl _ _ _ rfl rfl rfl rfl ?_
    intro W1 hp1 ht1
    rw [if_pos HS1.out] at hp1
    have hM2 := HM1.out.drew.store HQ.out hp1 ht1
    clear HM1 hp1 ht1
    go_wp2
    obtain ⟨q0, q1, c0, c1, c2⟩ := hM2.at0 hlen hj HU.out
    have HM2 := Hd.mk hM2
    clear hM2
    go_still_tail 13, (by kernel_rfl)
    change wpList _ _ _ _ _ W1.drew
    clear q0 q1 c0 c1 c2
    refine PMf.store (w := W1.drew) HM2.out.pm.drew KX.out j (wf_nat (by omega)) (by omega) rfl _ _ _ rfl rfl rfl rfl ?_
    intro W2 hp2 ht2
    rw [if_pos HS2.out] at hp2
    have hM3 := HM2.out.drew.store HQ.out hp2 ht2
    go_wp2
    go_end0
    exact ⟨rfl, HE.out _ hM3⟩
end Go.Proofs.YtkbbngkfncbgkaaDoor.IQSwap
