/- The queue's take: the item at a place is taken out. Condition: the place is within the row. -/
import Derived.Test.YtkbbngkfncbgkaaDoorZTQPut
namespace Go.Proofs.YtkbbngkfncbgkaaDoor.TQTake
open Go.RowKit Go.Maps Go.Proofs.YtkbbngkfncbgkaaDoor.IQHeap Go.Proofs.YtkbbngkfncbgkaaDoor.TQWords Go.Proofs.YtkbbngkfncbgkaaDoor.TQSwap Go.Proofs.YtkbbngkfncbgkaaDoor.TQOrd Go.Proofs.YtkbbngkfncbgkaaDoor.TQUp Go.Proofs.YtkbbngkfncbgkaaDoor.TQDown Go.Proofs.YtkbbngkfncbgkaaDoor.TQGet Go.Proofs.YtkbbngkfncbgkaaDoor.TQPush Go.Proofs.YtkbbngkfncbgkaaDoorW.PrintWords
set_option linter.unusedVariables false
set_option linter.unusedSimpArgs false
theorem cells4 (w : World) : (w.alloc (.cells #[.int .i64 0, .int .i64 0, .int .i64 0, .string ⟨#[]⟩] 71)).heap[w.heap.size]? = some (.cells #[.int .i64 0, .int .i64 0, .int .i64 0, .string ⟨#[]⟩] 71 (0, 0)) := heap_alloc_new w _
theorem qs_lts {w : World} {qb mb : Nat} {v : Value} {L : List It} (h : QS w qb v mb L) : qb < w.heap.size ∧ mb < w.heap.size ∧ ∀ k, v.ownBlock = some k → k < w.heap.size := by
  obtain ⟨f, hp, _⟩ := h.pm
  obtain ⟨es, c, hb⟩ := hp.lt
  exact ⟨(Array.getElem?_eq_some_iff.1 h.st).1, (Array.getElem?_eq_some_iff.1 hb).1, h.row.lt⟩
/-- Behind the row's cut. -/
structure TMid (w W : World) (qb mb b cap m : Nat) (L1 L2 : List It) (f : Ky → Option Nat) : Prop where
  st : W.heap[qb]? = some (.cells #[.slice (some ⟨b, 0, none⟩) m cap, .map (some mb)] 57 (0, 0))
  row : IR W (.slice (some ⟨b, 0, none⟩) m cap) L2
  pm : PMf W mb (m + 1) f
  tn : Tn w W (fun q => q = qb ∨ q = b)
theorem tmid0 {W : World} {qb mb b cap m : Nat} {L1 : List It} {f : Ky → Option Nat} (hQ : QS W qb (.slice (some ⟨b, 0, none⟩) (m + 1) cap) mb L1) (hp : PMf W mb (m + 1) f) (hl : L1.length = m + 1) (z : It) :
    TMid W ((put4 W b m z).setCell ⟨qb, 0, none⟩ (.slice (some ⟨b, 0, none⟩) m cap)) qb mb b cap m L1 L1.dropLast f := by
  have hr := hQ.row
  rw [← hl] at hr
  obtain ⟨r1, t1⟩ := hr.put (i := m) (by omega) z
  have r2 : IR (put4 W b m z) (.slice (some ⟨b, 0, none⟩) (L1.set m z).length cap) (L1.set m z) := by rw [List.length_set]; exact r1
  have r3 := r2.cut (by rw [List.length_set]; omega)
  have e : (L1.set m z).dropLast = L1.dropLast := by
    rw [List.dropLast_eq_take, List.dropLast_eq_take, List.length_set, hl, Nat.add_sub_cancel]
    exact List.take_set_of_le (Nat.le_refl _)
  rw [e, List.length_set, hl, Nat.add_sub_cancel] at r3
  have n2 : qb ≠ b := fun e => hQ.n2 (by rw [e]; rfl)
  have n3 : mb ≠ b := fun e => hQ.n3 (by rw [e]; rfl)
  have hset : Tn (put4 W b m z) ((put4 W b m z).setCell ⟨qb, 0, none⟩ (.slice (some ⟨b, 0, none⟩) m cap)) (fun q => q = qb) := ⟨rfl, rfl, rfl, by simp [World.setCell], fun i _ hn => Below.heap_setCell _ ⟨qb, 0, none⟩ _ i hn⟩
  have h2 := t1.blk hQ.st n2
  exact ⟨heap_setCell_same _ qb 0 _ _ _ h2, r3.kept hset (fun k hk e => by cases hk; exact n2 e.symm), (hp.kept t1 n3).kept hset (fun e => hQ.n1 e.symm), (t1.mono (fun _ h => .inr h)).then_ hset (fun _ h => .inl (.inl h))⟩
theorem TMid.fin {w W W2 : World} {qb mb b cap m : Nat} {L1 : List It} {f : Ky → Option Nat} (h : TMid w W qb mb b cap m L1 L1.dropLast f) (hQ : QS w qb (.slice (some ⟨b, 0, none⟩) (m + 1) cap) mb L1) (hl : L1.length = m + 1) (hf : Placed L1 f) (hp : PMf W2 mb m (upd f (at_ d0 L1 m).1 none)) (ht : Tn W.drew W2 (fun q => q = mb)) :
    QS W2 qb (.slice (some ⟨b, 0, none⟩) m cap) mb L1.dropLast ∧ Tn w W2 (fun q => q = qb ∨ q = mb ∨ q = b) := by
  have n3 : b ≠ mb := fun e => hQ.n3 (by rw [← e]; rfl)
  have hpop := hf.pop (by omega)
  rw [hl, Nat.add_sub_cancel] at hpop
  refine ⟨⟨ht.blk h.st hQ.n1, h.row.drew.kept ht (fun k hk e => by cases hk; exact n3 e), ⟨_, ?_, hpop⟩, fun x hx => hQ.ok x ((List.dropLast_sublist L1).subset hx)⟩, (h.tn.mono (S2 := fun q => q = qb ∨ q = mb ∨ q = b) (fun _ h => h.elim .inl (fun h => .inr (.inr h)))).drew.then_ ht (fun _ h => .inl (.inr (.inl h)))⟩
  rw [List.length_dropLast, hl, Nat.add_sub_cancel]
  exact hp
theorem rset {W : World} {rb : Nat} {z0 z1 z2 z3 : Value} {y : It} (h : W.heap[rb]? = some (.cells #[z0, z1, z2, z3] 71 (0, 0))) :
    ((((W.setCell ⟨rb, 0, none⟩ (.int .i64 y.1.d)).setCell ⟨rb, 1, none⟩ (.int .i64 y.1.l)).setCell ⟨rb, 2, none⟩ (.int .i64 y.1.k)).setCell ⟨rb, 3, none⟩ (.string y.2)).heap[rb]? = some (.cells #[.int .i64 y.1.d, .int .i64 y.1.l, .int .i64 y.1.k, .string y.2] 71 (0, 0)) ∧
      Tn W ((((W.setCell ⟨rb, 0, none⟩ (.int .i64 y.1.d)).setCell ⟨rb, 1, none⟩ (.int .i64 y.1.l)).setCell ⟨rb, 2, none⟩ (.int .i64 y.1.k)).setCell ⟨rb, 3, none⟩ (.string y.2)) (fun q => q = rb) := by
  have hset : ∀ (W : World) (j : Nat) (u : Value), Tn W (W.setCell ⟨rb, j, none⟩ u) (fun q => q = rb) := fun W j u => ⟨rfl, rfl, rfl, by simp [World.setCell], fun i _ hn => Below.heap_setCell _ ⟨rb, j, none⟩ _ i hn⟩
  have h1 := heap_setCell_same W rb 0 _ _ (.int .i64 y.1.d) h
  have h2 := heap_setCell_same _ rb 1 _ _ (.int .i64 y.1.l) h1
  have h3 := heap_setCell_same _ rb 2 _ _ (.int .i64 y.1.k) h2
  have h4 := heap_setCell_same _ rb 3 _ _ (.string y.2) h3
  exact ⟨h4, (((hset _ _ _).then_ (hset _ _ _) (fun _ h => .inl h)).then_ (hset _ _ _) (fun _ h => .inl h)).then_ (hset _ _ _) (fun _ h => .inl h)⟩
set_option maxHeartbeats 4000000 in
set_option maxRecDepth 1000000 in
theorem take_calls (qb mb b cap m i : Nat) (L : List It) (w : World) (hm : L.length = m + 1) (hi : i < L.length) (hl : L.length < 3000000000000) (hQ : QS w qb (.slice (some ⟨b, 0, none⟩) (m + 1) cap) mb L) :
    Calls Tryd.prog 35 #[.pointer (some ⟨qb, 0, none⟩), .int .i64 i] w fun e w' =>
      e = .returned (.agg #[.int .i64 (at_ d0 L i).1.d, .int .i64 (at_ d0 L i).1.l, .int .i64 (at_ d0 L i).1.k, .string (at_ d0 L i).2]) ∧ QS w' qb (.slice (some ⟨b, 0, none⟩) m cap) mb (takeF ltI d0 L i) ∧ Tn w w' (fun q => q = qb ∨ q = mb ∨ q = b) := by
  have HT := Hd.mk (Tn.alloc w (.cells #[.int .i64 0, .int .i64 0, .int .i64 0, .string ⟨#[]⟩] 71) (fun _ => False))
  have HA := Hd.mk (hQ.alloc (.cells #[.int .i64 0, .int .i64 0, .int .i64 0, .string ⟨#[]⟩] 71))
  have HBX := Hd.mk (cells4 w)
  have hmi : m < L.length := by omega
  have hl5 : L.length < 5000000000000 := by omega
  have hlm : m < 3000000000000 := by omega
  have HRB : Hd (w.heap.size ≠ qb ∧ w.heap.size ≠ mb ∧ w.heap.size ≠ b) := ⟨by have := qs_lts hQ; exact ⟨by omega, by omega, by have := this.2.2 b rfl; omega⟩⟩
  have HRB : Hd (w.heap.size ≠ qb ∧ w.heap.size ≠ mb ∧ w.heap.size ≠ b) := ⟨by have := qs_lts hQ; exact ⟨by omega, by omega, by have := this.2.2 b rfl; omega⟩⟩
  have HRB : Hd (w.heap.size ≠ qb ∧ w.heap.size ≠ mb ∧ w.heap.size ≠ b) := ⟨by have := qs_lts hQ; exact ⟨by omega, by omega, by have := this.2.2 b rfl; omega⟩⟩
  have HRB : Hd (w.heap.size ≠ qb ∧ w.heap.size ≠ mb ∧ w.heap.size ≠ b) := ⟨by have := qs_lts hQ; exact ⟨by omega, by omega, by have := this.2.2 b rfl; omega⟩⟩
  clear hQ
  go_enter Tryd.func35, Tryd.ntmps35
  go_upto_region 1 with (fail)
  obtain ⟨rb, hrb⟩ : ∃ rb, w.heap.size = rb := ⟨_, rfl⟩
  rw [hrb] at HBX HRB ⊢
  generalize hW : w.alloc (.cells #[.int .i64 0, .int .i64 0, .int .i64 0, .string ⟨#[]⟩] 71) = W1 at HT HA HBX ⊢
  clear hW
  have q0 := HA.out.c0
  go_upto_region 3 with (first | (go_at_call 54; refine (swap_v qb mb _ i m L _ hi hmi hl5 HA.out).mono ?_; rintro e W2 ⟨rfl, hQ2, hT2⟩))
  obtain ⟨L1, hL1⟩ : ∃ L1, sw d0 L i m = L1 := ⟨_, rfl⟩
  have hlen1 : L1.length = m + 1 := by rw [← hL1, sw_length]; exact hm
  rw [hL1] at hQ2
  have hm1 : m < L1.length := by omega
  obtain ⟨x, hx⟩ : ∃ x, at_ d0 L1 m = x := ⟨_, rfl⟩
  have hrow := hQ2.row
  rw [← hlen1] at hrow
  have q0 := hQ2.c0
  have c0 : W2.cell? ⟨b, m * 4, none⟩ = some (.int .i64 x.1.d) := by rw [← hx]; exact hrow.cell hm1 0 (by decide)
  have c1 : W2.cell? ⟨b, m * 4 + 1, none⟩ = some (.int .i64 x.1.l) := by rw [← hx]; exact hrow.cell hm1 1 (by decide)
  have c2 : W2.cell? ⟨b, m * 4 + 2, none⟩ = some (.int .i64 x.1.k) := by rw [← hx]; exact hrow.cell hm1 2 (by decide)
  have c3 : W2.cell? ⟨b, m * 4 + 3, none⟩ = some (.string x.2) := by rw [← hx]; exact hrow.cell hm1 3 (by decide)
  have HQ2 := Hd.mk hQ2
  have HT2 := Hd.mk hT2
  clear hQ2 hT2 hrow
  have HRX : Hd (W2.heap[rb]? = some (.cells #[.int .i64 0, .int .i64 0, .int .i64 0, .string ⟨#[]⟩] 71 (0, 0))) := ⟨HT2.out.blk HBX.out (fun h => h.elim HRB.out.2.1 (fun h => HRB.out.2.2 (by injection h with h; exact h.symm)))⟩
  have HRX : Hd (W2.heap[rb]? = some (.cells #[.int .i64 0, .int .i64 0, .int .i64 0, .string ⟨#[]⟩] 71 (0, 0))) := ⟨HT2.out.blk HBX.out (fun h => h.elim HRB.out.2.1 (fun h => HRB.out.2.2 (by injection h with h; exact h.symm)))⟩
  have HRX : Hd (W2.heap[rb]? = some (.cells #[.int .i64 0, .int .i64 0, .int .i64 0, .string ⟨#[]⟩] 71 (0, 0))) := ⟨HT2.out.blk HBX.out (fun h => h.elim HRB.out.2.1 (fun h => HRB.out.2.2 (by injection h with h; exact h.symm)))⟩
  have HRX : Hd (W2.heap[rb]? = some (.cells #[.int .i64 0, .int .i64 0, .int .i64 0, .string ⟨#[]⟩] 71 (0, 0))) := ⟨HT2.out.blk HBX.out (fun h => h.elim HRB.out.2.1 (fun h => HRB.out.2.2 (by injection h with h; exact h.symm)))⟩
  go_upto_region 4 with (fail)
  have HA3 := Hd.mk (HQ2.out.alloc (.cells #[.int .i64 x.1.d, .int .i64 x.1.l, .int .i64 x.1.k, .string x.2] 71))
  have HT3 := Hd.mk (Tn.alloc W2 (.cells #[.int .i64 x.1.d, .int .i64 x.1.l, .int .i64 x.1.k, .string x.2] 71) (fun _ => False))
  have HOX : Hd ((W2.alloc (.cells #[.int .i64 x.1.d, .int .i64 x.1.l, .int .i64 x.1.k, .string x.2] 71)).heap[W2.heap.size]? = some (.cells #[.int .i64 x.1.d, .int .i64 x.1.l, .int .i64 x.1.k, .string x.2] 71 (0, 0))) := ⟨heap_alloc_new W2 _⟩
  have HOB : Hd (W2.heap.size ≠ qb ∧ W2.heap.size ≠ mb ∧ W2.heap.size ≠ b ∧ W2.heap.size ≠ rb) := ⟨by
    have := (qs_lts HQ2.out)
    have := (Array.getElem?_eq_some_iff.1 HRX.out).1
    exact ⟨by omega, by omega, by have := (qs_lts HQ2.out).2.2 b rfl; omega, by omega⟩⟩
  obtain ⟨ob, hob⟩ : ∃ ob, W2.heap.size = ob := ⟨_, rfl⟩
  rw [hob] at HOX HOB ⊢
  replace HRX : Hd _ := ⟨HT3.out.blk HRX.out (fun h => h)⟩
  replace c0 := alloc_cell c0 (.cells #[.int .i64 x.1.d, .int .i64 x.1.l, .int .i64 x.1.k, .string x.2] 71)
  replace c1 := alloc_cell c1 (.cells #[.int .i64 x.1.d, .int .i64 x.1.l, .int .i64 x.1.k, .string x.2] 71)
  replace c2 := alloc_cell c2 (.cells #[.int .i64 x.1.d, .int .i64 x.1.l, .int .i64 x.1.k, .string x.2] 71)
  replace c3 := alloc_cell c3 (.cells #[.int .i64 x.1.d, .int .i64 x.1.l, .int .i64 x.1.k, .string x.2] 71)
  replace q0 := alloc_cell q0 (.cells #[.int .i64 x.1.d, .int .i64 x.1.l, .int .i64 x.1.k, .string x.2] 71)
  generalize hW3 : W2.alloc (.cells #[.int .i64 x.1.d, .int .i64 x.1.l, .int .i64 x.1.k, .string x.2] 71) = W3 at HA3 HT3 HOX HRX c0 c1 c2 c3 q0 ⊢
  clear hW3
  obtain ⟨f1, hp1, hf1⟩ := HA3.out.pm
  rw [hlen1] at hp1
  have HM0 := Hd.mk (tmid0 HA3.out hp1 hlen1 d0)
  have HF1 := Hd.mk hf1
  clear hp1 hf1
  have hr3 := HA3.out.row
  rw [← hlen1] at hr3
  have hfr : ∀ k, W3.frozen? ⟨b, k, none⟩ = false := hr3.frozen
  clear hr3
  have hfq : W3.frozen? ⟨qb, 0, none⟩ = false := frozen_of_row W3 qb 0 _ _ HA3.out.st
  have hne : qb ≠ b := fun e => HA3.out.n2 (by rw [e]; rfl)
  have hsl : (m : Int) ≤ (cap : Int) := by
    rcases HA3.out.row.2 with ⟨h, _⟩ | ⟨g, cap', cur, h, _, _, hn, _⟩
    · cases h
    · injection h with _ _ h
      omega
  go_upto_region 6 with (fail)
  generalize hW4 : World.setCell _ _ _ = W4
  have HM : Hd (TMid W3 W4 qb mb b cap m L1 L1.dropLast f1) := ⟨by rw [← hW4]; exact HM0.out⟩
  have HRX4 : Hd (W4.heap[rb]? = _) := ⟨HM.out.tn.blk HRX.out (fun h => h.elim HRB.out.1 HRB.out.2.2)⟩
  have HOX4 : Hd (W4.heap[ob]? = _) := ⟨HM.out.tn.blk HOX.out (fun h => h.elim HOB.out.1 HOB.out.2.2.1)⟩
  clear hW4 HM0 q0 c0 c1 c2 c3 hfr hfq hne hsl HRX HOX
  have KX : Hd (KyOk x.1) := ⟨by rw [← hx]; exact HA3.out.okAt hm1⟩
  have q1 : W4.cell? ⟨qb, 1, none⟩ = some (.map (some mb)) := cell_of_row W4 qb 1 _ _ (0, 0) HM.out.st
  have o0 : W4.cell? ⟨ob, 0, none⟩ = some (.int .i64 x.1.d) := cell_of_row W4 ob 0 _ _ (0, 0) HOX4.out
  have o1 : W4.cell? ⟨ob, 1, none⟩ = some (.int .i64 x.1.l) := cell_of_row W4 ob 1 _ _ (0, 0) HOX4.out
  have o2 : W4.cell? ⟨ob, 2, none⟩ = some (.int .i64 x.1.k) := cell_of_row W4 ob 2 _ _ (0, 0) HOX4.out
  go_still_tail 6, (by kernel_rfl)
  change wpList _ _ _ _ _ W4.drew
  clear q1 o0 o1 o2
  refine PMf.drop (w := W4.drew) HM.out.pm.drew KX.out rfl _ _ rfl rfl rfl ?_
  intro W5 hp5 ht5
  have hfx : f1 x.1 = some m := by rw [← hx]; exact HF1.out.1 m hm1
  rw [hfx] at hp5
  simp only [Option.isSome_some, if_true, Nat.add_sub_cancel] at hp5
  obtain ⟨hQ5, hT5⟩ := HM.out.fin HA3.out hlen1 HF1.out (by rw [hx]; exact hp5) ht5
  have hcut : L1.dropLast = cutF d0 L i := by
    rw [← hL1]
    unfold cutF
    rw [hm, Nat.add_sub_cancel]
  rw [hcut] at hQ5
  have HRX5 : Hd (W5.heap[rb]? = _) := ⟨ht5.blk HRX4.out HRB.out.2.1⟩
  have HOX5 : Hd (W5.heap[ob]? = _) := ⟨ht5.blk HOX4.out HOB.out.2.1⟩
  have HQ5 := Hd.mk hQ5
  have hxi : x = at_ d0 L i := by rw [← hx, ← hL1, at_sw d0 L m hi hmi, if_pos rfl]
  have HT5 : Hd (Tn w W5 (fun q => q = qb ∨ q = mb ∨ q = b)) := ⟨by
    have h1 := (HT.out.mono (S2 := fun q => q = qb ∨ q = mb ∨ q = b) (fun _ h => h.elim)).then_ HT2.out (fun q h => .inl (h.elim (fun h => .inr (.inl h)) (fun h => .inr (.inr (by injection h with h; exact h.symm)))))
    exact (h1.then_ HT3.out (fun _ h => h.elim)).then_ hT5 (fun _ h => .inl h)⟩
  clear hQ5 hT5 hp5 ht5 hfx hx HM HRX4 HOX4 HF1 HA3 HT3 HQ2 HT2 HT HA HBX KX hcut
  have hcl := cutF_length (d := d0) L i
  rw [hm, Nat.add_sub_cancel] at hcl
  subst hxi
  by_cases him : i < m
  · have him' : (i : Int) < (m : Int) := by omega
    have hic : i < (cutF d0 L i).length := by omega
    have hcl5 : (cutF d0 L i).length < 5000000000000 := by omega
    have hul : (upF ltI d0 (cutF d0 L i) i).length = m := by rw [upF_length hic]; exact hcl
    have hiu : i < (upF ltI d0 (cutF d0 L i) i).length := by omega
    have hul5 : (upF ltI d0 (cutF d0 L i) i).length < 5000000000000 := by omega
    have htk : takeF ltI d0 L i = downF ltI d0 (upF ltI d0 (cutF d0 L i) i) i := by unfold takeF; rw [if_pos (by omega)]
    have HTK := Hd.mk htk
    clear htk
    go_upto_region 10 with (first | (go_at_call 50; refine (up_calls qb mb _ i (cutF d0 L i) _ hic hcl5 HQ5.out).mono ?_; rintro e W6 ⟨rfl, hQ6, hT6⟩; have HQ6 := Hd.mk hQ6; have HT6 := Hd.mk hT6; clear hQ6 hT6) | (go_at_call 55; refine (down_calls qb mb _ i (upF ltI d0 (cutF d0 L i) i) _ hiu hul5 HQ6.out).mono ?_; rintro e W7 ⟨rfl, hQ7, hT7⟩; have HQ7 := Hd.mk hQ7; have HT7 := Hd.mk hT7; clear hQ7 hT7))
    have HT67 := Hd.mk (HT6.out.then_ HT7.out (fun _ h => .inl h))
    have HRX7 : Hd (W7.heap[rb]? = _) := ⟨HT67.out.blk HRX5.out (fun h => h.elim HRB.out.2.1 (fun h => HRB.out.2.2 (by injection h with h; exact h.symm)))⟩
    have HOX7 : Hd (W7.heap[ob]? = _) := ⟨HT67.out.blk HOX5.out (fun h => h.elim HOB.out.2.1 (fun h => HOB.out.2.2.1 (by injection h with h; exact h.symm)))⟩
    have HT8 := Hd.mk (HT5.out.then_ HT67.out (fun q h => .inl (h.elim (fun h => .inr (.inl h)) (fun h => .inr (.inr (by injection h with h; exact h.symm))))))
    obtain ⟨hr8, ht8⟩ := rset (y := at_ d0 L i) HRX7.out
    have HR8 := Hd.mk hr8
    have HT9 := Hd.mk ht8
    clear hr8 ht8
    have o0 : W7.cell? ⟨ob, 0, none⟩ = some (.int .i64 (at_ d0 L i).1.d) := cell_of_row W7 ob 0 _ _ (0, 0) HOX7.out
    have o1 : W7.cell? ⟨ob, 1, none⟩ = some (.int .i64 (at_ d0 L i).1.l) := cell_of_row W7 ob 1 _ _ (0, 0) HOX7.out
    have o2 : W7.cell? ⟨ob, 2, none⟩ = some (.int .i64 (at_ d0 L i).1.k) := cell_of_row W7 ob 2 _ _ (0, 0) HOX7.out
    have o3 : W7.cell? ⟨ob, 3, none⟩ = some (.string (at_ d0 L i).2) := cell_of_row W7 ob 3 _ _ (0, 0) HOX7.out
    have r0 : W7.cell? ⟨rb, 0, none⟩ = some (.int .i64 0) := cell_of_row W7 rb 0 _ _ (0, 0) HRX7.out
    have r1 : W7.cell? ⟨rb, 1, none⟩ = some (.int .i64 0) := cell_of_row W7 rb 1 _ _ (0, 0) HRX7.out
    have r2 : W7.cell? ⟨rb, 2, none⟩ = some (.int .i64 0) := cell_of_row W7 rb 2 _ _ (0, 0) HRX7.out
    have r3 : W7.cell? ⟨rb, 3, none⟩ = some (.string ⟨#[]⟩) := cell_of_row W7 rb 3 _ _ (0, 0) HRX7.out
    have hfz : ∀ k, W7.frozen? ⟨rb, k, none⟩ = false := fun k => frozen_of_row W7 rb k _ _ HRX7.out
    go_wp2
    (try simp only [Exit.inBlock, Exit.then])
    refine bodyPost_ret (results_single rfl (.cell rb 71 _ (0, 0) _ rfl HR8.out Tryd.underlying71 rfl (by kernel_rfl) .nil)) rfl ?_
    exact ⟨rfl, by rw [HTK.out]; exact HQ7.out.kept HT9.out (fun h => HRB.out.1 h.symm) (fun h => HRB.out.2.1 h.symm) (fun k hk h => by cases hk; exact HRB.out.2.2 h.symm), HT8.out.then_ HT9.out (fun q h => .inr (by rw [h, ← hrb]; exact Nat.le_refl _))⟩
  · have him' : decide ((i : Int) < (m : Int)) = false := decide_eq_false (by omega)
    have htk : takeF ltI d0 L i = cutF d0 L i := by unfold takeF; rw [if_neg (by omega)]
    have HTK := Hd.mk htk
    clear htk
    go_upto_region 10 with (fail)
    have HRX7 := HRX5
    have HOX7 := HOX5
    have HQ7 := HQ5
    have HT8 := HT5
    obtain ⟨hr8, ht8⟩ := rset (y := at_ d0 L i) HRX7.out
    have HR8 := Hd.mk hr8
    have HT9 := Hd.mk ht8
    clear hr8 ht8
    have o0 : W5.cell? ⟨ob, 0, none⟩ = some (.int .i64 (at_ d0 L i).1.d) := cell_of_row W5 ob 0 _ _ (0, 0) HOX7.out
    have o1 : W5.cell? ⟨ob, 1, none⟩ = some (.int .i64 (at_ d0 L i).1.l) := cell_of_row W5 ob 1 _ _ (0, 0) HOX7.out
    have o2 : W5.cell? ⟨ob, 2, none⟩ = some (.int .i64 (at_ d0 L i).1.k) := cell_of_row W5 ob 2 _ _ (0, 0) HOX7.out
    have o3 : W5.cell? ⟨ob, 3, none⟩ = some (.string (at_ d0 L i).2) := cell_of_row W5 ob 3 _ _ (0, 0) HOX7.out
    have r0 : W5.cell? ⟨rb, 0, none⟩ = some (.int .i64 0) := cell_of_row W5 rb 0 _ _ (0, 0) HRX7.out
    have r1 : W5.cell? ⟨rb, 1, none⟩ = some (.int .i64 0) := cell_of_row W5 rb 1 _ _ (0, 0) HRX7.out
    have r2 : W5.cell? ⟨rb, 2, none⟩ = some (.int .i64 0) := cell_of_row W5 rb 2 _ _ (0, 0) HRX7.out
    have r3 : W5.cell? ⟨rb, 3, none⟩ = some (.string ⟨#[]⟩) := cell_of_row W5 rb 3 _ _ (0, 0) HRX7.out
    have hfz : ∀ k, W5.frozen? ⟨rb, k, none⟩ = false := fun k => frozen_of_row W5 rb k _ _ HRX7.out
    go_wp2
    (try simp only [Exit.inBlock, Exit.then])
    refine bodyPost_ret (results_single rfl (.cell rb 71 _ (0, 0) _ rfl HR8.out Tryd.underlying71 rfl (by kernel_rfl) .nil)) rfl ?_
    exact ⟨rfl, by rw [HTK.out]; exact HQ7.out.kept HT9.out (fun h => HRB.out.1 h.symm) (fun h => HRB.out.2.1 h.symm) (fun k hk h => by cases hk; exact HRB.out.2.2 h.symm), HT8.out.then_ HT9.out (fun q h => .inr (by rw [h, ← hrb]; exact Nat.le_refl _))⟩
end Go.Proofs.YtkbbngkfncbgkaaDoor.TQTake
