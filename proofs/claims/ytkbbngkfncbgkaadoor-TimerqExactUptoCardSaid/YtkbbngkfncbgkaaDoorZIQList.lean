/- The queue's List, up to the library's sort (a hypothesis here). Condition: the row is not beyond all memory. -/
import Derived.Test.YtkbbngkfncbgkaaDoorZIQOrdG
import Derived.Test.YtkbbngkfncbgkaaDoorZIQFill
import Derived.Shelf.SlSortCmp.InsertionK
namespace Go.Proofs.YtkbbngkfncbgkaaDoor.IQList
open Go.RowKit Go.Maps Go.Proofs.YtkbbngkfncbgkaaDoor.IQHeap Go.Proofs.YtkbbngkfncbgkaaDoor.IQWords Go.Proofs.YtkbbngkfncbgkaaDoor.IQSwap Go.Proofs.YtkbbngkfncbgkaaDoor.IQOrd Go.Proofs.YtkbbngkfncbgkaaDoor.IQUp Go.Proofs.YtkbbngkfncbgkaaDoor.IQGet Go.Proofs.YtkbbngkfncbgkaaDoor.IQPush Go.Proofs.YtkbbngkfncbgkaaDoor.IQTake Go.Proofs.YtkbbngkfncbgkaaDoor.IQFill Go.Proofs.YtkbbngkfncbgkaaDoor.IQOrdG Go.Proofs.YtkbbngkfncbgkaaDoor.PA Go.Proofs.YtkbbngkfncbgkaaDoorW.PrintWords Go.Sort
set_option linter.unusedVariables false
set_option linter.unusedSimpArgs false
instance : Inhabited Ky := ⟨⟨0, 0, 0⟩⟩
/-- What the library's sort answers here. -/
structure SortOk : Prop where
  some_ : ∀ (g cap : Nat) (d : Array Ky) (W : World), g < W.heap.size → HoldsK ek 3 W g 0 d → d.size < 4611686018427387904 →
    Calls Tryd.prog 56 #[.slice (some ⟨g, 0, none⟩) d.size cap, .func (.func 57) #[] #[]] W fun e w' => e = .returned (.tuple #[]) ∧ ∃ n os, w' = sortWorldK ek 3 W g 0 n (d.toList.mergeSort fun x y => !(ltK y x)).toArray os
  none_ : ∀ (p : Option Addr) (cap : Nat) (W : World), Calls Tryd.prog 56 #[.slice p 0 cap, .func (.func 57) #[] #[]] W fun e w' => e = .returned (.tuple #[]) ∧ w' = W
theorem infoK : (Tryd.prog.info? 24).map (fun i => (i.zero, i.size, i.bytes)) = some (some (.agg #[.int .i64 0, .int .i64 0, .int .i64 0]), 3, 24) := by kernel_rfl
theorem one3 {k : Ky} : ∀ u ∈ [Value.int .i64 k.d, Value.int .i64 k.l, Value.int .i64 k.k], u.oneCell' = true := by
  intro u hu
  simp only [List.mem_cons, List.not_mem_nil, or_false] at hu
  rcases hu with rfl | rfl | rfl <;> rfl
theorem take_ek {L : List It} {i : Nat} (h : i < L.length) : (L.take (i + 1)).flatMap (fun x => ek x.1) = (L.take i).flatMap (fun x => ek x.1) ++ [.int .i64 (at_ d0 L i).1.d, .int .i64 (at_ d0 L i).1.l, .int .i64 (at_ d0 L i).1.k] := by
  rw [List.take_succ_eq_append_getElem h, List.flatMap_append, at_eq d0 L h]
  rfl
theorem flat3_length : ∀ L : List It, (L.flatMap fun x => ek x.1).length = L.length * 3
  | [] => rfl
  | x :: r => by
    rw [List.flatMap_cons, List.length_append, flat3_length r]
    simp [ek]
    omega
theorem flat3_get : ∀ (L : List It) (i c : Nat), i < L.length → c < 3 → (L.flatMap fun x => ek x.1)[i * 3 + c]? = (ek (at_ d0 L i).1)[c]?
  | x :: r, 0, c, _, hc => by
    rw [List.flatMap_cons, List.getElem?_append_left (by simp [ek]; omega), Nat.zero_mul, Nat.zero_add]
    rfl
  | x :: r, i + 1, c, hi, hc => by
    rw [List.flatMap_cons, List.getElem?_append_right (by simp [ek]; omega), show (i + 1) * 3 + c - (ek x.1).length = i * 3 + c by simp [ek]; omega, flat3_get r i c (by simpa using hi) hc]
    rfl
theorem holds_own {W : World} {base g c n : Nat} {L : List It} (h : W.ownsRow base 24 3 (.slice (some ⟨g, 0, none⟩) n c) n (L.flatMap fun x => ek x.1)) : HoldsK ek 3 W g 0 (L.map (·.1)).toArray := by
  have hn : L.length = n := by
    have h1 := h.1
    rw [flat3_length] at h1
    omega
  intro j hj
  rw [size_flatK] at hj
  have hj2 : j < n * 3 := by simp at hj; omega
  rw [get_flatK _ _ _ _ hj, Nat.zero_add]
  refine ⟨?_, World.ownsRow.frozenAt h j⟩
  rw [World.ownsRow.cellAt h j hj2]
  have hd : j / 3 < L.length := by omega
  have e1 : j = (j / 3) * 3 + j % 3 := by omega
  have hm : j % 3 < 3 := Nat.mod_lt _ (by decide)
  have e2 := flat3_get L (j / 3) (j % 3) hd hm
  rw [← e1] at e2
  rw [e2]
  have e3 : (L.map (·.1)).toArray[j / 3]! = (at_ d0 L (j / 3)).1 := by
    rw [getElem!_pos _ _ (by simpa using hd), at_eq d0 L hd]
    simp
  rw [e3, getElem!_pos (ek _) (j % 3) (by show j % 3 < 3; exact hm)]
  exact List.getElem?_eq_getElem _
theorem kr_holds {W : World} {g : Nat} {ks : List Ky} (h : HoldsK ek 3 W g 0 ks.toArray) : KR W (some ⟨g, 0, none⟩) ks := fun i hi => by
  have hc : ∀ c, c < 3 → W.cell? ⟨g, i * 3 + c, none⟩ = some ((ek (ka ks i))[c]!) := fun c hc => by
    have h1 := (h (i * 3 + c) (by rw [size_flatK]; simp; omega)).1
    rw [get_flatK _ _ _ _ (by simp; omega), Nat.zero_add, show (i * 3 + c) / 3 = i by omega, show (i * 3 + c) % 3 = c by omega] at h1
    have e3 : ks.toArray[i]! = ka ks i := by
      rw [getElem!_pos _ _ (by simpa using hi)]
      unfold ka
      rw [List.getD_eq_getElem?_getD, List.getElem?_eq_getElem hi]
      rfl
    rw [e3] at h1
    exact h1
  have ha : (⟨g, 0, none⟩ : Addr).add (i * 3) = ⟨g, i * 3, none⟩ := by
    unfold Addr.add
    split
    · rename_i h; rw [h]
    · rw [Nat.zero_add]
  refine ⟨_, rfl, ?_, ?_, ?_⟩
  · rw [ha]; exact hc 0 (by decide)
  · rw [ha]; exact hc 1 (by decide)
  · rw [ha]; exact hc 2 (by decide)
theorem sort_tn {W : World} {g n : Nat} {d : Array Ky} {os : Array Obj} (hg : g < W.heap.size) : Tn W (sortWorldK ek 3 W g 0 n d os) (fun q => q = g) := by
  refine ⟨rfl, rfl, rfl, size_sortWorldK_c _ _ _ _ _ _ _ _, fun k hk hn => ?_⟩
  show ((W.heap.modify g _) ++ os)[k]? = W.heap[k]?
  rw [Array.getElem?_append_left (by simpa using hk), Array.getElem?_modify, if_neg (fun e => hn e.symm)]
theorem keepb {w W : World} {a : Addr} {u : Value} (hb : Below w.heap.size w W) (h : w.cell? a = some u) : W.cell? a = some u :=
  (World.cell?_of_block (hb.block a.block (World.block_lt_of_cell? w a h))).trans h
theorem sorted_own {W : World} {base g c n m : Nat} {xs : List Value} {ks : List Ky} {os : Array Obj} (h : W.ownsRow base 24 3 (.slice (some ⟨g, 0, none⟩) n c) n xs) (hk : ks.length = n) (hg0 : g < W.heap.size) :
    (sortWorldK ek 3 W g 0 m ks.toArray os).ownsRow base 24 3 (.slice (some ⟨g, 0, none⟩) n c) n (ks.flatMap ek) := by
  obtain ⟨h1, h2⟩ := h
  rcases h2 with ⟨h', _⟩ | ⟨g', cap', cur, h', hb, hg, hnc, hcm, hcs, ht⟩
  · simp at h'
  · simp only [Value.slice.injEq, Option.some.injEq, Addr.mk.injEq, and_true, true_and] at h'
    obtain ⟨rfl, rfl⟩ := h'
    have hfl : ∀ l : List Ky, (l.flatMap ek).length = l.length * 3 := fun l => by
      induction l with
      | nil => rfl
      | cons a r ih => rw [List.flatMap_cons, List.length_append, ih]; simp [ek]; omega
    have hget : ∀ (l : List Ky) (i c : Nat), i < l.length → c < 3 → (l.flatMap ek)[i * 3 + c]? = (ek (l[i]!))[c]? := fun l => by
      induction l with
      | nil => intro i c hi; exact absurd hi (Nat.not_lt_zero _)
      | cons a r ih =>
        intro i c hi hc
        match i with
        | 0 =>
          rw [List.flatMap_cons, List.getElem?_append_left (by simp [ek]; omega), Nat.zero_mul, Nat.zero_add]
          rfl
        | i + 1 =>
          rw [List.flatMap_cons, List.getElem?_append_right (by simp [ek]; omega), show (i + 1) * 3 + c - (ek a).length = i * 3 + c by simp [ek]; omega, ih i c (by simpa using hi) hc]
          rfl
    have hmul : n * 3 ≤ c * 3 := Nat.mul_le_mul_right 3 hnc
    refine ⟨by rw [hfl, hk], .inr ⟨g, c, putCells id 0 (flatK ek 3 ks.toArray) cur, rfl, hb, ?_, hnc, hcm, by simp [putCells, hcs], ?_⟩⟩
    · show ((W.heap.modify g _) ++ os)[g]? = _
      rw [Array.getElem?_append_left (by simpa using hg0), Array.getElem?_modify, if_pos rfl, hg]
      rfl
    · apply List.ext_getElem?
      intro j
      rw [List.getElem?_take]
      by_cases hj : j < n * 3
      · rw [if_pos hj]
        have e1 : j = (j / 3) * 3 + j % 3 := by omega
        have hm : j % 3 < 3 := Nat.mod_lt _ (by decide)
        have hd : j / 3 < ks.length := by omega
        have e2 := hget ks (j / 3) (j % 3) hd hm
        rw [← e1] at e2
        rw [e2, Array.getElem?_toList]
        unfold putCells
        rw [Array.getElem?_mapIdx, Array.getElem?_eq_getElem (by omega)]
        simp only [Option.map_some]
        rw [if_pos ⟨Nat.zero_le _, by rw [size_flatK]; simp; omega⟩, Nat.sub_zero, get_flatK _ _ _ _ (by simp; omega)]
        have e3 : ks.toArray[j / 3]! = ks[j / 3]! := by simp
        rw [e3, getElem!_pos (ek _) (j % 3) (by show j % 3 < 3; exact hm)]
        exact (List.getElem?_eq_getElem _).symm
      · rw [if_neg hj, List.getElem?_eq_none (by rw [hfl]; omega)]
set_option maxHeartbeats 4000000 in
set_option maxRecDepth 1000000 in
theorem list_own (HS : SortOk) (qb mb : Nat) (v : Value) (L : List It) (w : World) (hl : L.length < 3000000000000) (hQ : QS w qb v mb L) :
    Calls Tryd.prog 44 #[.pointer (some ⟨qb, 0, none⟩)] w fun e w' => ∃ (A : Option Addr) (cap : Nat), e = .returned (.slice A L.length cap) ∧ KR w' A ((L.map (·.1)).mergeSort fun x y => !(ltK y x)) ∧ (∀ ad, A = some ad → w.heap.size ≤ ad.block) ∧ Tn w w' (fun _ => False) ∧ w'.ownsRow w.heap.size 24 3 (.slice A L.length cap) L.length (((L.map (·.1)).mergeSort fun x y => !(ltK y x)).flatMap ek) := by
  obtain ⟨A, cap, rfl⟩ := hQ.row.forms
  have q0 := hQ.c0
  have HQ := Hd.mk hQ
  clear hQ
  go_enter Tryd.func44, Tryd.ntmps44
  go_wp2
  go_loopg [3, 11] (L.length + 1) (fun g s3 s11 wr => ∃ i : Nat, s11 = .int .i64 i ∧ i ≤ L.length ∧ L.length + 1 ≤ g + i ∧ Hd (wr.ownsRow w.heap.size 24 3 s3 i ((L.take i).flatMap fun x => ek x.1)) ∧ Hd (Below w.heap.size w wr))
  case atStart => exact ⟨0, rfl, Nat.zero_le _, by omega, ⟨World.ownsRow_nil _ _ _ _⟩, ⟨Below.refl _ _⟩⟩
  case round =>
    obtain ⟨i, rfl, hi, hg, HO, HB⟩ := hrel
    by_cases c1 : i < L.length
    · have c1' : (i : Int) < (L.length : Int) := by omega
      obtain ⟨b, cap', hv⟩ := HQ.out.row.form (by omega)
      injection hv with hv _ hv2
      subst hv hv2
      obtain ⟨x, hx⟩ : ∃ x, at_ d0 L i = x := ⟨_, rfl⟩
      have k0 : wr.cell? ⟨b, i * 4, none⟩ = some (.int .i64 x.1.d) := keepb HB.out (by rw [← hx]; exact HQ.out.row.cell c1 0 (by decide))
      have k1 : wr.cell? ⟨b, i * 4 + 1, none⟩ = some (.int .i64 x.1.l) := keepb HB.out (by rw [← hx]; exact HQ.out.row.cell c1 1 (by decide))
      have k2 : wr.cell? ⟨b, i * 4 + 2, none⟩ = some (.int .i64 x.1.k) := keepb HB.out (by rw [← hx]; exact HQ.out.row.cell c1 2 (by decide))
      have k3 : wr.cell? ⟨b, i * 4 + 3, none⟩ = some (.int .i64 x.2) := keepb HB.out (by rw [← hx]; exact HQ.out.row.cell c1 3 (by decide))
      have HLIM : Hd ((i + 1) * 24 ≤ 140737488355328) := ⟨by omega⟩
      have HO2 := Hd.mk (HO.out.alloc (.cells #[.int .i64 x.1.d, .int .i64 x.1.l, .int .i64 x.1.k, .int .i64 x.2] 68))
      have HB2 := Hd.mk (HB.out.alloc HB.out.size (.cells #[.int .i64 x.1.d, .int .i64 x.1.l, .int .i64 x.1.k, .int .i64 x.2] 68))
      have HIT : Hd ((wr.alloc (.cells #[.int .i64 x.1.d, .int .i64 x.1.l, .int .i64 x.1.k, .int .i64 x.2] 68)).heap[wr.heap.size]? = some (.cells #[.int .i64 x.1.d, .int .i64 x.1.l, .int .i64 x.1.k, .int .i64 x.2] 68 (0, 0))) := ⟨heap_alloc_new wr _⟩
      go_upto_region 5 with (fail)
      obtain ⟨ib, hib⟩ : ∃ ib, wr.heap.size = ib := ⟨_, rfl⟩
      rw [hib] at HIT ⊢
      generalize hW2 : wr.alloc (.cells #[.int .i64 x.1.d, .int .i64 x.1.l, .int .i64 x.1.k, .int .i64 x.2] 68) = W2 at HIT HO2 HB2 ⊢
      clear hW2 k0 k1 k2 k3 HO HB
      have i0 : W2.cell? ⟨ib, 0, none⟩ = some (.int .i64 x.1.d) := cell_of_row W2 ib 0 _ _ (0, 0) HIT.out
      have i1 : W2.cell? ⟨ib, 1, none⟩ = some (.int .i64 x.1.l) := cell_of_row W2 ib 1 _ _ (0, 0) HIT.out
      have i2 : W2.cell? ⟨ib, 2, none⟩ = some (.int .i64 x.1.k) := cell_of_row W2 ib 2 _ _ (0, 0) HIT.out
      go_upto_region 6 with (first | ((with_reducible refine gate_builtin (b := .append) (xs := #[.tmp 15, .tmp 18]) rfl ?_); go_loud (at_builtin; refine print_append_cells (w0 := w) w.heap.size rfl (.tmp 15) (.tmp 18) 85 24 (.agg #[.int .i64 0, .int .i64 0, .int .i64 0]) 3 24 rfl Tryd.underlying85 infoK rfl (by decide) (by decide) u3 i ((L.take i).flatMap fun x => ek x.1) [.int .i64 x.1.d, .int .i64 x.1.l, .int .i64 x.1.k] rfl rfl rfl one3 HO2.out HB2.out HB2.out.size HLIM.out ?_; intro v1 w3 hown hbl hgr hat; have HO3 := Hd.mk hown; have HB3 := Hd.mk hbl; clear hown hbl hgr hat)))
      go_wp2
      go_roundg (L.length - i)
      case measure => omega
      case rel => exact ⟨i + 1, by go_num, by omega, by omega, ⟨by rw [take_ek c1, hx]; exact HO3.out⟩, HB3⟩
    · have c1' : decide ((i : Int) < (L.length : Int)) = false := decide_eq_false (by omega)
      have e : i = L.length := by omega
      subst e
      rw [List.take_length] at HO
      by_cases h0 : L.length = 0
      · have hL : L = [] := List.eq_nil_of_length_eq_zero h0
        obtain ⟨A3, c3, e3⟩ : ∃ A c, u3 = .slice A 0 c := by
          rcases HO.out.2 with ⟨h, _⟩ | ⟨g, c, cur, h, _⟩
          · exact ⟨none, 0, h⟩
          · rw [h0] at h
            exact ⟨_, c, h⟩
        subst e3
        have hbs : ∀ ad, A3 = some ad → w.heap.size ≤ ad.block := fun ad e => (World.ownsRow.lt HO.out ad.block (by rw [e]; rfl)).1
        have HBS := Hd.mk hbs
        have HL := Hd.mk hL
        clear hbs hL
        go_wp2_with (first | (go_at_call 56; refine (HS.none_ A3 c3 _).mono ?_; rintro e w4 ⟨rfl, rfl⟩))
        go_ret
        exact ⟨A3, c3, by rw [h0]; rfl, fun i hi => by rw [HL.out] at hi; exact absurd hi (by simp), HBS.out, Tn.of_below HB.out _, by rw [h0, HL.out]; have h6 := HO.out; rw [h0, HL.out] at h6; simpa using h6⟩
      · obtain ⟨g, c3, e3⟩ : ∃ g c, u3 = .slice (some ⟨g, 0, none⟩) L.length c := by
          rcases HO.out.2 with ⟨_, h⟩ | ⟨g, c, cur, h, _⟩
          · exact absurd h h0
          · exact ⟨g, c, h⟩
        subst e3
        obtain ⟨hg1, hg2⟩ := World.ownsRow.lt HO.out g rfl
        have hH := holds_own HO.out
        have HH := Hd.mk hH
        have HN : Hd (((L.map (·.1)).toArray).size = L.length) := ⟨by simp⟩
        have HS2 := Hd.mk (HS.some_ g c3 (L.map (·.1)).toArray wr hg2 hH (by rw [HN.out]; omega))
        rw [HN.out] at HS2
        clear hH
        go_wp2_with (first | (go_at_call 56; refine HS2.out.mono ?_; rintro e w4 ⟨rfl, n4, os4, rfl⟩))
        go_ret
        have hs : ((L.map (·.1)).toArray.toList.mergeSort fun x y => !(ltK y x)).toArray.size = (L.map (·.1)).toArray.size := by simp
        have h5 := holdsK_sortWorldK_c ek 3 wr g 0 (L.map (·.1)).toArray _ n4 os4 HH.out hg2 hs
        refine ⟨some ⟨g, 0, none⟩, c3, rfl, ?_, fun ad e => by cases e; exact hg1, ?_, ?_⟩
        · exact kr_holds h5
        · exact (Tn.of_below HB.out (fun _ => False)).then_ (sort_tn hg2) (fun q h => .inr (by rw [h]; exact hg1))
        · exact sorted_own HO.out (by simp) hg2
theorem list_calls (HS : SortOk) (qb mb : Nat) (v : Value) (L : List It) (w : World) (hl : L.length < 3000000000000) (hQ : QS w qb v mb L) :
    Calls Tryd.prog 44 #[.pointer (some ⟨qb, 0, none⟩)] w fun e w' => ∃ (A : Option Addr) (cap : Nat), e = .returned (.slice A L.length cap) ∧ KR w' A ((L.map (·.1)).mergeSort fun x y => !(ltK y x)) ∧ (∀ ad, A = some ad → w.heap.size ≤ ad.block) ∧ Tn w w' (fun _ => False) :=
  (list_own HS qb mb v L w hl hQ).mono fun e w' ⟨A, cap, h1, h2, h3, h4, _⟩ => ⟨A, cap, h1, h2, h3, h4⟩
end Go.Proofs.YtkbbngkfncbgkaaDoor.IQList
