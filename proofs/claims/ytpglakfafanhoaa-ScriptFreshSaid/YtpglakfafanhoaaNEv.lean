/- Events of ScriptFresh's walk: a constant text's bytes and their mark, a text put behind it, tables joined, a byte written. Conditions: those that each states. -/
import Derived.Test.YtpglakfafanhoaaNRows
import Derived.Lib.FrozenHead2
namespace Go.Proofs.Ytpglakfafanhoaa.NEv
open Go.RowKit Go.Proofs.YtpglakfafanhoaaW.PrintWords Go.Proofs.YtpglakfafanhoaaW.PrintLast Go.Proofs.YtpglakfafanhoaaW.PrintMore Go.Proofs.Ytpglakfafanhoaa.PA Go.Proofs.Ytpglakfafanhoaa.NPl Go.Proofs.Ytpglakfafanhoaa.NRows
set_option linter.unusedVariables false
set_option linter.unusedSimpArgs false
/-- All but block g stays. -/
structure Tz (g : Nat) (w w' : World) : Prop where
  os : w'.os = w.os
  tape : w'.tape = w.tape
  output : w'.output = w.output
  size : w.heap.size ≤ w'.heap.size
  block : ∀ i, i < w.heap.size → i ≠ g → w'.heap[i]? = w.heap[i]?
theorem Tz.set (g j : Nat) (w : World) (v : Value) : Tz g w (w.setCell ⟨g, j, none⟩ v) :=
  ⟨rfl, rfl, rfl, by simp, fun i _ hn => Below.heap_setCell w ⟨g, j, none⟩ v i hn⟩
theorem Tz.below {g B : Nat} {a w w' : World} (h : Tz g w w') (hb : Below B a w) (hB : B ≤ g) (hs : B ≤ w.heap.size) : Below B a w' :=
  ⟨h.os.trans hb.os, h.tape.trans hb.tape, h.output.trans hb.output, Nat.le_trans hb.size h.size, fun i hi => (h.block i (by omega) (by omega)).trans (hb.block i hi)⟩
theorem freeze_tz (W : World) (g k n : Nat) : Tz g W (W.freeze ⟨g, k, none⟩ n) := by
  unfold World.freeze
  split
  · exact ⟨rfl, rfl, rfl, Nat.le_refl _, fun i _ _ => rfl⟩
  · exact ⟨rfl, rfl, rfl, by simp, fun i _ hi => by simp [Array.getElem?_modify, Ne.symm hi]⟩
section
variable {ops : Array Oper} {rest : List Oper} {o : Oper} {a : Act} {Q : Exit → Act → World → Prop} {W : World}
def H5 : Array Value := #[.int .u8 99, .int .u8 97, .int .u8 108, .int .u8 109, .int .u8 10]
theorem H5_row : RowL H5 HEAD5 := fun j hj => by
  have h : j = 0 ∨ j = 1 ∨ j = 2 ∨ j = 3 ∨ j = 4 := by have : j < 5 := hj; omega
  rcases h with rfl | rfl | rfl | rfl | rfl <;> rfl
theorem nlit_event (hgd : o.guard = none) {N : Tmp} (_hd : o.dst = some N)
    (hrun : (execOp a.eval o).run Try.prog W = .ok (.value (.slice (some ⟨W.heap.size, 0, none⟩) 5 5)) (W.alloc (.cells H5 5 (0, 0))))
    (h : ∀ g, g = W.heap.size → ∀ w1, w1.heap[g]? = some (.cells H5 5 (0, 0)) → Below W.heap.size W w1 → wpList Try.prog ops Q rest (a.put o.dst (.slice (some ⟨g, 0, none⟩) 5 5)) w1) : wpList Try.prog ops Q (o :: rest) a W :=
  Kd.event_run hgd hrun (h _ rfl _ (blk_new W _) (below_alloc (Below.refl _ _) _))
theorem run_convert_mark {P : Program} (w : World) (t e : TypeId) (C : Array Value) (fr : Nat × Nat) (g n c : Nat) (hg : w.heap[g]? = some (.cells C e fr)) (ht : P.underlying t = some (.slice e)) (he : P.underlying e = some (.int .u8)) :
    (convert t t (.slice (some ⟨g, 0, none⟩) n c)).run P w = .ok (.slice (some ⟨g, 0, none⟩) n c) (w.freeze ⟨g, C.size, none⟩ 1) := by
  have hsh : w.shape? g = some (e, C.size) := by
    unfold World.shape?
    rw [hg]
  simp [convert, run_underlying ht, run_underlying he, markStringish, hsh]
theorem nmark_event (hgd : o.guard = none) {N : Tmp} (_hd : o.dst = some N) {x : Operand} {g n c : Nat}
    (ho : o.op = .convert 22 22 x) (hx : a.eval x = .slice (some ⟨g, 0, none⟩) n c) (hg : W.heap[g]? = some (.cells H5 5 (0, 0)))
    (h : ∀ w1, w1.heap[g]? = some (.cells H5 5 (5, 6)) → Tz g W w1 → wpList Try.prog ops Q rest (a.put o.dst (.slice (some ⟨g, 0, none⟩) n c)) w1) : wpList Try.prog ops Q (o :: rest) a W := by
  have hr := run_convert_mark (P := Try.prog) W 22 5 _ _ g n c hg Try.underlying22 Try.underlying5
  refine Kd.event_run hgd (v := .slice (some ⟨g, 0, none⟩) n c) (w1 := W.freeze ⟨g, H5.size, none⟩ 1) ?_ (h _ ?_ (freeze_tz _ _ _ _))
  · simp only [execOp, ho, hx]
    simp [hr]
  · simp [World.freeze, Array.getElem?_modify, hg, H5]
theorem infoB : ∃ i : TypeInfo, Try.prog.info? 5 = some i ∧ i.zero = some (.int .u8 0) ∧ i.size = 1 ∧ i.bytes = 1 := by
  obtain ⟨i, hi, hz⟩ := Option.map_eq_some_iff.1 (show (Try.prog.info? 5).map (fun i => (i.zero, i.size, i.bytes)) = some (some (.int .u8 0), 1, 1) by kernel_rfl)
  simp only [Prod.mk.injEq] at hz
  exact ⟨i, hi, hz.1, hz.2.1, hz.2.2⟩
theorem infoR : ∃ (i : TypeInfo) (by_ : Nat), Try.prog.info? 22 = some i ∧ i.zero = some (.slice none 0 0) ∧ i.size = 1 ∧ i.bytes = by_ ∧ by_ = 24 := by
  obtain ⟨i, hi, hz⟩ := Option.map_eq_some_iff.1 (show (Try.prog.info? 22).map (fun i => (i.zero, i.size, i.bytes)) = some (some (.slice none 0 0), 1, 24) by kernel_rfl)
  simp only [Prod.mk.injEq] at hz
  exact ⟨i, _, hi, hz.1, hz.2.1, rfl, hz.2.2⟩
/-- append([]byte("calm\n"), text...). -/
theorem njoin_event (hgd : o.guard = none) (s x : Operand) (ho : o.op = .call { callee := .builtin .append, args := #[s, x], argTypes := #[22, 22] })
    {g : Nat} (hs : a.eval s = .slice (some ⟨g, 0, none⟩) 5 5) (hg : W.heap[g]? = some (.cells H5 5 (5, 6)))
    {A : Option Addr} {n c : Nat} {l : List Int} (hx : a.eval x = .slice A n c) (hC : Kd.C (Kd.int .u8) W A n l) (hn : n ≤ 200000) {B : Nat} (hB : B ≤ g) (hBW : B ≤ W.heap.size)
    (h : ∀ gx nx cx w1 cells fz, nx = n + 5 → nx ≤ cx → w1.heap[gx]? = some (.cells cells 5 fz) → RowL cells (HEAD5 ++ l) → Below W.heap.size W w1 → B ≤ gx → wpList Try.prog ops Q rest (a.put o.dst (.slice (some ⟨gx, 0, none⟩) nx cx)) w1) :
    wpList Try.prog ops Q (o :: rest) a W := by
  obtain ⟨i, hi, hz, h1, h2⟩ := infoB
  obtain ⟨hl, _, hr⟩ := Kd.reads_of_C (enc := Value.int .u8) (d := (0 : Int)) (h1 := fun _ => rfl) hC
  have hcell : ∀ j v, H5.toList[j]? = some v → W.cell? ((⟨g, 0, none⟩ : Addr).add j) = some v := fun j v hv => by
    rw [ad0, cell_of_row W g j H5 _ _ hg, ← Array.getElem?_toList]
    exact hv
  by_cases h0 : n = 0
  · subst h0
    have hl0 : l = [] := List.length_eq_zero_iff.1 hl
    subst hl0
    have hrun : (Builtin.append_ #[22, 22] o.type #[.slice (some ⟨g, 0, none⟩) 5 5, .slice A 0 c]).run Try.prog W = .ok (.slice (some ⟨g, 0, none⟩) 5 5) W := by
      have hf : (Builtin.firstCells i.size 0 (.slice A 0 c)).run Try.prog W = .ok #[] W := by
        cases A with
        | none => simp [Builtin.firstCells]
        | some ad => simpa using run_firstCells_some (P := Try.prog) W i.size 0 ad 0 c [] (by simp) (fun j v hv => by simp at hv)
      simp [Builtin.append_, run_underlying Try.underlying22, sizeOf, typeInfo, hi, Builtin.lenOf, hf, storeCells]
    refine wpList_plain hgd fun K hK => ?_
    unfold Oper.wp execOp
    simp only [ho, resolve, invoke, builtin, Sem.run_bind, Sem.run_pure, Result.andThen_ok, List.map_toArray, List.map_cons, List.map_nil, hs, hx, hrun]
    exact hK _ _ (h g 5 5 W H5 (5, 6) rfl (Nat.le_refl _) hg (by rw [List.append_nil]; exact H5_row) (Below.refl _ _) hB)
  · obtain ⟨ad, rfl, hat⟩ := hr (by omega)
    have hnews : ∀ j v, (l.map (Value.int .u8))[j]? = some v → W.cell? (ad.add j) = some v := fun j v hv => by
      rw [List.getElem?_map] at hv
      obtain ⟨p, hp, rfl⟩ := Option.map_eq_some_iff.1 hv
      obtain ⟨hjl, hpe⟩ := List.getElem?_eq_some_iff.1 hp
      rw [hat j (by omega), List.getD_eq_getElem?_getD, hp]
      rfl
    have hrun := run_append_grow (P := Try.prog) W 22 o.type 5 i (.int .u8 0) Try.underlying22 hi hz ⟨g, 0, none⟩ 5 5 H5.toList (by rw [h1]; rfl) hcell ad n c (l.map (Value.int .u8)) (by rw [List.length_map, hl, h1, Nat.mul_one]) hnews (by omega) (by omega) (growslice_fits (by omega) (by rw [h2]; omega))
    have hge := grownCap_ge W (5 + n) 5 5
    refine wpList_plain hgd fun K hK => ?_
    unfold Oper.wp execOp
    simp only [ho, resolve, invoke, builtin, Sem.run_bind, Sem.run_pure, Result.andThen_ok, List.map_toArray, List.map_cons, List.map_nil, hs, hx, hrun]
    refine hK _ _ (h W.heap.size (5 + n) _ _ _ (0, 0) (Nat.add_comm _ _) hge (heap_alloc_new W.drew _) (fun j hj => ?_) ⟨rfl, rfl, rfl, by simp, fun k hk => heap_alloc_old W.drew _ hk⟩ hBW)
    rw [List.length_append] at hj
    have h5 : HEAD5.length = 5 := rfl
    have hA : (H5.toList.toArray ++ (l.map (Value.int .u8)).toArray ++ Builtin.zeroCells (Value.int .u8 0).cells (grownCap W (5 + n) 5 5 - (5 + n)))[j]? = (H5.toList ++ l.map (Value.int .u8))[j]? := by
      rw [Array.getElem?_append_left (by rw [Array.size_append, List.size_toArray, List.size_toArray, List.length_map]; have h_ : H5.toList.length = 5 := rfl; omega), List.append_toArray, List.getElem?_toArray]
    rw [hA]
    have hm : H5.toList ++ l.map (Value.int .u8) = (HEAD5 ++ l).map (Value.int .u8) := by rw [List.map_append]; rfl
    have hjl : j < (HEAD5 ++ l).length := by rw [List.length_append]; omega
    rw [hm, List.getElem?_map, List.getElem?_eq_getElem hjl, List.getD_eq_getElem?_getD, List.getElem?_eq_getElem hjl]
    rfl
/-- [][]byte{}. -/
theorem nnone_event (hgd : o.guard = none) {N : Tmp} (_hd : o.dst = some N)
    (hrun : (execOp a.eval o).run Try.prog W = .ok (.value (.slice (some ⟨W.heap.size, 0, none⟩) 0 0)) (W.alloc (.cells #[] 22 (0, 0))))
    (h : ∀ v w1, w1.ownsRow W.heap.size 22 1 v 0 [] → Below W.heap.size W w1 → wpList Try.prog ops Q rest (a.put o.dst v) w1) : wpList Try.prog ops Q (o :: rest) a W := by
  refine Kd.event_run hgd hrun (h _ _ ⟨by simp, .inr ⟨W.heap.size, 0, #[], rfl, Nat.le_refl _, heap_alloc_new W _, Nat.le_refl _, Nat.zero_le _, rfl, by simp⟩⟩ (below_alloc (Below.refl _ _) _))
theorem below_grown {B : Nat} {w0 W w1 : World} {v : Value} {e : TypeId} {size n : Nat} {xs : List Value} (hb : Below B w0 W) (hB : B ≤ W.heap.size) (ho : W.ownsRow B e size v n xs) (hg : W.grownBy w1 v.ownBlock) : Below B w0 w1 := by
  refine ⟨hg.os.trans hb.os, hg.tape.trans hb.tape, hg.output.trans hb.output, Nat.le_trans hb.size hg.size, fun k hk => ?_⟩
  rw [hg.block k (by omega) (fun e => by have := own_base ho k e.symm; omega), hb.block k hk]
/-- append(table, rows...). -/
theorem ntabs_event (hgd : o.guard = none) (s x : Operand) (ho : o.op = .call { callee := .builtin .append, args := #[s, x], argTypes := #[24, 24] })
    {B n : Nat} {v : Value} {xs : List Value} {w0 : World} (hs : a.eval s = v) (hown : W.ownsRow B 22 1 v n xs) {h1 m c : Nat} {vs : Nat → Value} (hx : a.eval x = .slice (some ⟨h1, 0, none⟩) m c) (ht : Tab W h1 m vs) (hv : ∀ j, j < m → (vs j).oneCell' = true)
    (hnm : n + m ≤ 1000000) (hB : B ≤ W.heap.size) (hb : Below B w0 W)
    (h : ∀ v1 w1, w1.ownsRow B 22 1 v1 (n + m) (xs ++ (List.range m).map vs) → Below B w0 w1 → wpList Try.prog ops Q rest (a.put o.dst v1) w1) :
    wpList Try.prog ops Q (o :: rest) a W := by
  obtain ⟨i, by_, hi, hz, hsz, h2, h3⟩ := infoR
  refine wpList_append_own W hgd s x 24 ho B 22 i (.slice none 0 0) 1 by_ Try.underlying24 hi hz hsz h2 rfl (by decide) v n xs hs hown ⟨h1, 0, none⟩ m c ((List.range m).map vs) hx (by simp) (fun j u hu => ?_) (fun u hu => ?_) (by unfold maxLen; omega) (by rw [h3]; omega) hB (fun v1 w1 k1 k2 _ => h v1 w1 k1 (below_grown hb hB hown k2))
  · obtain ⟨hjl, e⟩ := List.getElem?_eq_some_iff.1 hu
    rw [List.length_map, List.length_range] at hjl
    rw [ad0, ht.cell j hjl, ← e]
    simp
  · obtain ⟨j, hj, rfl⟩ := List.mem_map.1 hu
    exact hv j (List.mem_range.1 hj)
/-- One cell written. -/
theorem nput_event (hgd : o.guard = none) {p : Tmp} {v : Operand} {T : TypeId} (ho : o.op = .store T (.tmp p) v) (hN : o.dst = none) {g j : Nat} {old : Array Value} {x : Value} {T' : TypeId}
    (hrun : (execOp a.eval o).run Try.prog W = .ok .skip (W.setCell ⟨g, j, none⟩ x)) (hg : W.heap[g]? = some (.cells old T' (0, 0)))
    (h : ∀ w', w'.heap[g]? = some (.cells (old.set! j x) T' (0, 0)) → Tz g W w' → wpList Try.prog ops Q rest a w') : wpList Try.prog ops Q (o :: rest) a W := by
  refine store_event hgd ho hN hrun ?_
  rintro w' rfl
  exact h _ (blk_put hg j x rfl) (Tz.set g j W x)
end
theorem own_tab {W : World} {B n : Nat} {v : Value} {vs : Nat → Value} (h : W.ownsRow B 22 1 v n ((List.range n).map vs)) (hp : 0 < n) : ∃ g c, v = .slice (some ⟨g, 0, none⟩) n c ∧ n ≤ c ∧ Tab W g n vs ∧ B ≤ g := by
  rcases h.2 with ⟨_, e⟩ | ⟨g, cap, cur, rfl, hb, hg, hn, hm, hs, ht⟩
  · omega
  refine ⟨g, cap, rfl, hn, ⟨cur, hg, fun j hj => ?_⟩, hb⟩
  have h3 : ((List.range n).map vs)[j]? = some (vs j) := by simp [hj]
  rw [← ht, List.getElem?_take_of_lt (by omega), Array.getElem?_toList] at h3
  exact h3
theorem row1_one {W : World} {v : Value} {L : List Int} {g : Nat} (h : Row1 W v L g) : v.oneCell' = true := by
  obtain ⟨c, cells, rfl, _⟩ := h
  rfl
def vjoin {α : Type} (m : Nat) (a b : Nat → α) : Nat → α := fun j => if j < m then a j else b (j - m)
theorem map_join (m : Nat) (a b : Nat → Value) : [] ++ (List.range m).map a ++ (List.range m).map b = (List.range (m + m)).map (vjoin m a b) := by
  rw [List.nil_append]
  apply List.ext_getElem
  · simp
  · intro j h1 h2
    have e : ((List.range (m + m)).map (vjoin m a b))[j] = vjoin m a b j := by rw [List.getElem_map, List.getElem_range]
    rw [e, List.getElem_append]
    unfold vjoin
    split
    · rename_i h
      rw [List.length_map, List.length_range] at h
      rw [if_pos h, List.getElem_map, List.getElem_range]
    · rename_i h
      rw [List.length_map, List.length_range] at h
      rw [if_neg h, List.getElem_map, List.getElem_range, List.length_map, List.length_range]
theorem map_snoc (i : Nat) (a : Nat → Value) (v : Value) : (List.range i).map a ++ [v] = (List.range (i + 1)).map (fun j => if j < i then a j else v) := by
  rw [List.range_succ, List.map_append]
  congr 1
  · exact List.map_congr_left fun j hj => by rw [if_pos (List.mem_range.1 hj)]
  · simp
theorem rows_join {W : World} {m : Nat} {v1 v2 : Nat → Value} {b1 b2 : Nat → Nat} {Ls : List (List Int)} (hl : Ls.length = m) (h1 : RowsN W m v1 (fun j => Ls.getD j []) b1) (h2 : RowsN W m v2 (fun j => Ls.getD j []) b2) :
    RowsN W (m + m) (vjoin m v1 v2) (fun j => (Ls ++ Ls).getD j []) (vjoin m b1 b2) := fun j hj => by
  have e : (Ls ++ Ls).getD j [] = if j < m then Ls.getD j [] else Ls.getD (j - m) [] := by
    rw [List.getD_eq_getElem?_getD]
    split
    · rw [List.getElem?_append_left (by omega), List.getD_eq_getElem?_getD]
    · rw [List.getElem?_append_right (by omega), hl, List.getD_eq_getElem?_getD]
  simp only [e, vjoin]
  split
  · rename_i h; exact h1 j h
  · rename_i h; exact h2 (j - m) (by omega)
theorem inj_join {m : Nat} {b1 b2 : Nat → Nat} (h1 : Inj m b1) (h2 : Inj m b2) (h : ∀ i j, i < m → j < m → b1 i = b2 j → False) : Inj (m + m) (vjoin m b1 b2) := fun i j hi hj e => by
  unfold vjoin at e
  split at e <;> split at e
  · exact h1 i j (by assumption) (by assumption) e
  · exact (h i (j - m) (by assumption) (by omega) e).elim
  · exact (h j (i - m) (by assumption) (by omega) e.symm).elim
  · have := h2 (i - m) (j - m) (by omega) (by omega) e
    omega
theorem all_join {m : Nat} {b1 b2 : Nat → Nat} {P : Nat → Prop} (h1 : ∀ j, j < m → P (b1 j)) (h2 : ∀ j, j < m → P (b2 j)) : ∀ j, j < m + m → P (vjoin m b1 b2 j) := fun j hj => by
  unfold vjoin
  split
  · exact h1 j (by assumption)
  · exact h2 (j - m) (by omega)
theorem rowsn_one {W : World} {m : Nat} {v : Nat → Value} {f : Nat → List Int} {b : Nat → Nat} (h : RowsN W m v f b) : ∀ j, j < m → (v j).oneCell' = true := fun j hj => row1_one (h j hj)
theorem rowsn_snoc {W : World} {i g : Nat} {ws : Nat → Value} {v : Value} {f : Nat → List Int} {bw : Nat → Nat} (h : RowsN W i ws f bw) (hv : Row1 W v (f i) g) : RowsN W (i + 1) (fun j => if j < i then ws j else v) f (fun j => if j < i then bw j else g) := fun j hj => by
  by_cases c : j < i
  · simp only [if_pos c]; exact h j c
  · have e : j = i := by omega
    subst e
    simp only [if_neg c]; exact hv
theorem all_snoc {i g : Nat} {bw : Nat → Nat} {P : Nat → Prop} (h : ∀ j, j < i → P (bw j)) (hg : P g) : ∀ j, j < i + 1 → P (if j < i then bw j else g) := fun j hj => by
  by_cases c : j < i
  · rw [if_pos c]; exact h j c
  · rw [if_neg c]; exact hg
/-- A table grown: rows of bytes stay (they are of another type). -/
theorem row1_grown {W w1 : World} {B n : Nat} {v u : Value} {xs : List Value} {L : List Int} {g : Nat} (h : Row1 W v L g) (ho : W.ownsRow B 22 1 u n xs) (hg : W.grownBy w1 u.ownBlock) : Row1 w1 v L g := by
  obtain ⟨c, cells, h1, h2, h3, h4, h5, h6⟩ := h
  exact ⟨c, cells, h1, h2, h3, blk_grown h4 hg (own_ne ho h4 (by decide)), h5, h6⟩
theorem own_below {W w1 : World} {B n size : Nat} {e : TypeId} {v : Value} {xs : List Value} (ho : W.ownsRow B e size v n xs) (hb : Below W.heap.size W w1) : w1.ownsRow B e size v n xs := own_move ho (fun k hk => hb.block k (own_lt ho k hk))
theorem wrap_step {i n : Nat} (h : i < n) (hn : n ≤ 1000000000) : wrap64 ((i : Int) + 1) = ((i + 1 : Nat) : Int) := by unfold wrap64; omega
theorem sub_lt' {i n kq : Nat} (h : i < n) (hk : i + kq = n) : n - (i + 1) < kq := by omega
theorem sub_step' {i n kq : Nat} (h : i < n) (hk : i + kq = n) : i + 1 + (n - (i + 1)) = n := by omega
/-- All blocks but the rows' stand. -/
structure Kp (bs : Nat → Nat) (N : Nat) (a W : World) : Prop where
  os : W.os = a.os
  tape : W.tape = a.tape
  output : W.output = a.output
  size : a.heap.size ≤ W.heap.size
  block : ∀ g, g < a.heap.size → (∀ j, j < N → g ≠ bs j) → W.heap[g]? = a.heap[g]?
section
variable {bs : Nat → Nat} {N : Nat} {a W W' : World}
theorem Kp.refl (bs : Nat → Nat) (N : Nat) (a : World) : Kp bs N a a := ⟨rfl, rfl, rfl, Nat.le_refl _, fun _ _ _ => rfl⟩
theorem Kp.tz {g : Nat} (h : Kp bs N a W) (ht : Tz g W W') (hg : ∃ j, j < N ∧ bs j = g) : Kp bs N a W' := by
  obtain ⟨j, hj, rfl⟩ := hg
  exact ⟨ht.os.trans h.os, ht.tape.trans h.tape, ht.output.trans h.output, Nat.le_trans h.size ht.size, fun g hg hn => (ht.block g (Nat.lt_of_lt_of_le hg h.size) (hn j hj)).trans (h.block g hg hn)⟩
theorem Kp.below (h : Kp bs N a W) (hb : Below W.heap.size W W') : Kp bs N a W' :=
  ⟨hb.os.trans h.os, hb.tape.trans h.tape, hb.output.trans h.output, Nat.le_trans h.size hb.size, fun g hg hn => (hb.block g (Nat.lt_of_lt_of_le hg h.size)).trans (h.block g hg hn)⟩
theorem Kp.grown {v : Value} (h : Kp bs N a W) (hb : W.grownBy W' v.ownBlock) (hv : ∀ k, v.ownBlock = some k → (∃ j, j < N ∧ bs j = k) ∨ a.heap.size ≤ k) : Kp bs N a W' :=
  ⟨hb.os.trans h.os, hb.tape.trans h.tape, hb.output.trans h.output, Nat.le_trans h.size hb.size, fun g hg hn => (hb.block g (Nat.lt_of_lt_of_le hg h.size) (fun e => by
    rcases hv g e.symm with ⟨j, hj, rfl⟩ | h1
    · exact hn j hj rfl
    · omega)).trans (h.block g hg hn)⟩
theorem Kp.blk (h : Kp bs N a W) {g : Nat} {o : Obj} (hg : a.heap[g]? = some o) (hn : ∀ j, j < N → g ≠ bs j) : W.heap[g]? = some o := (h.block g (blk_lt hg) hn).trans hg
theorem Kp.tab (h : Kp bs N a W) {g n : Nat} {vs : Nat → Value} (ht : Tab a g n vs) (hn : ∀ j, j < N → g ≠ bs j) : Tab W g n vs := ht.kept (h.block g ht.lt hn)
theorem Kp.row1 (h : Kp bs N a W) {v : Value} {L : List Int} {g : Nat} (hr : Row1 a v L g) (hn : ∀ j, j < N → g ≠ bs j) : Row1 W v L g := hr.kept (h.block g hr.lt hn)
theorem Kp.rows (h : Kp bs N a W) {n : Nat} {ws : Nat → Value} {f : Nat → List Int} {bw : Nat → Nat} (hr : RowsN a n ws f bw) (hn : ∀ i, i < n → ∀ j, j < N → bw i ≠ bs j) : RowsN W n ws f bw := fun i hi => h.row1 (hr i hi) (hn i hi)
theorem Kp.fin {B : Nat} {w : World} (h : Kp bs N a W) (hb : Below B w a) (hB : B ≤ a.heap.size) (hn : ∀ j, j < N → B ≤ bs j) : Below B w W :=
  ⟨h.os.trans hb.os, h.tape.trans hb.tape, h.output.trans hb.output, Nat.le_trans hb.size h.size, fun k hk => (h.block k (by omega) (fun j hj e => by have := hn j hj; omega)).trans (hb.block k hk)⟩
end
theorem rowsn_congr {W : World} {N : Nat} {vs : Nat → Value} {f f' : Nat → List Int} {bs : Nat → Nat} (h : RowsN W N vs f bs) (e : ∀ j, j < N → f j = f' j) : RowsN W N vs f' bs := fun j hj => by
  rw [← e j hj]; exact h j hj
theorem RowL.put {cells : Array Value} {l : List Int} (hc : RowL cells l) (i : Nat) (x : Int) (hi : i < l.length) : RowL (cells.set! i (.int .u8 x)) (l.set i x) := fun j hj => by
  rw [List.length_set] at hj
  have h0 := hc j hj
  have hsz : i < cells.size := (Array.getElem?_eq_some_iff.1 (hc i hi)).1
  by_cases e : i = j
  · subst e
    rw [Array.set!_eq_setIfInBounds, Array.getElem?_setIfInBounds_self_of_lt hsz, List.getD_eq_getElem?_getD, List.getElem?_set_self hi]
    rfl
  · rw [Array.set!_eq_setIfInBounds, Array.getElem?_setIfInBounds_ne e, h0, List.getD_eq_getElem?_getD, List.getD_eq_getElem?_getD, List.getElem?_set_ne e]
/-- A byte written into row i. -/
theorem rowsn_put {W W' : World} {N i k : Nat} {x : Int} {vs : Nat → Value} {f f' : Nat → List Int} {bs : Nat → Nat} {cells : Array Value} (h : RowsN W N vs f bs) (hI : Inj N bs) (hi : i < N) (hk : k < (f i).length) (hc : W.heap[bs i]? = some (.cells cells 5 (0, 0))) (hr : RowL cells (f i))
    (hg : W'.heap[bs i]? = some (.cells (cells.set! k (.int .u8 x)) 5 (0, 0))) (ht : Tz (bs i) W W') (e1 : (f i).set k x = f' i) (e2 : ∀ j, j < N → j ≠ i → f j = f' j) : RowsN W' N vs f' bs := fun j hj => by
  by_cases e : j = i
  · subst e
    obtain ⟨c, cells', h1, h2, h3, h4, h5, h6⟩ := h j hj
    have ec : cells' = cells := by
      rw [hc] at h4
      injection h4 with h4
      injection h4 with h4
      exact h4.symm
    subst ec
    have hl : (f' j).length = (f j).length := by rw [← e1, List.length_set]
    refine ⟨c, _, by rw [hl]; exact h1, by rw [hl]; exact h2, h3, hg, by rw [Array.set!_eq_setIfInBounds, Array.size_setIfInBounds]; exact h5, ?_⟩
    rw [← e1]
    exact RowL.put hr k x hk
  · rw [← e2 j hj e]
    exact (h j hj).kept (ht.block _ (h j hj).lt (fun he => e (hI j i hj hi he)))
def REP (LL : List (List Int)) (j : Nat) : List Int := List.replicate (LL.getD j []).length (j : Int)
def CUR (LL : List (List Int)) (i k : Nat) (j : Nat) : List Int := if j < i then REP LL j else if j = i then List.replicate k (i : Int) ++ (LL.getD i []).drop k else LL.getD j []
theorem cur_zero (LL : List (List Int)) (i j : Nat) : CUR LL i 0 j = if j < i then REP LL j else LL.getD j [] := by
  unfold CUR
  split
  · rfl
  · split
    · rename_i h; rw [h]; simp
    · rfl
theorem cur_full (LL : List (List Int)) (i n j : Nat) (hn : (LL.getD i []).length = n) : CUR LL i n j = if j < i + 1 then REP LL j else LL.getD j [] := by
  unfold CUR
  by_cases h1 : j < i
  · rw [if_pos h1, if_pos (by omega)]
  · rw [if_neg h1]
    by_cases h2 : j = i
    · subst h2
      rw [if_pos rfl, if_pos (by omega), List.drop_eq_nil_of_le (by omega), List.append_nil, ← hn]
      rfl
    · rw [if_neg h2, if_neg (by omega)]
theorem cur_len (LL : List (List Int)) (i k n : Nat) (hn : (LL.getD i []).length = n) (hk : k ≤ n) : (CUR LL i k i).length = n := by
  unfold CUR
  rw [if_neg (Nat.lt_irrefl _), if_pos rfl, List.length_append, List.length_replicate, List.length_drop]
  omega
theorem cur_step (LL : List (List Int)) (i k n : Nat) (hn : (LL.getD i []).length = n) (hk : k < n) : (CUR LL i k i).set k (i : Int) = CUR LL i (k + 1) i := by
  unfold CUR
  rw [if_neg (Nat.lt_irrefl _), if_neg (Nat.lt_irrefl _), if_pos rfl, if_pos rfl, List.set_append_right _ _ (by simp), List.length_replicate, Nat.sub_self, List.drop_eq_getElem_cons (by omega), List.set_cons_zero, List.replicate_succ', List.append_assoc]
  rfl
theorem cur_else (LL : List (List Int)) (i k j : Nat) (h : j ≠ i) : CUR LL i k j = CUR LL i (k + 1) j := by
  unfold CUR
  rw [if_neg h, if_neg h]
/-- As Row1, but of the block's end nothing is told. -/
def RowW (W : World) (v : Value) (L : List Int) (g : Nat) : Prop := ∃ c cells, v = .slice (some ⟨g, 0, none⟩) L.length c ∧ L.length ≤ c ∧ c ≤ maxLen ∧ W.heap[g]? = some (.cells cells 5 (0, 0)) ∧ RowL cells L
theorem Row1_W {W : World} {v : Value} {L : List Int} {g : Nat} (h : Row1 W v L g) : RowW W v L g := by
  obtain ⟨c, cells, h1, h2, h3, h4, h5, h6⟩ := h
  exact ⟨c, cells, h1, h2, h3, h4, h6⟩
theorem RowW.lt {W : World} {v : Value} {L : List Int} {g : Nat} (h : RowW W v L g) : g < W.heap.size := by
  obtain ⟨c, cells, h1, h2, h3, h4, h6⟩ := h
  exact blk_lt h4
theorem RowW.kept {W W' : World} {v : Value} {L : List Int} {g : Nat} (h : RowW W v L g) (hk : W'.heap[g]? = W.heap[g]?) : RowW W' v L g := by
  obtain ⟨c, cells, h1, h2, h3, h4, h6⟩ := h
  exact ⟨c, cells, h1, h2, h3, hk.trans h4, h6⟩
theorem RowW.below {W W' : World} {v : Value} {L : List Int} {g : Nat} (h : RowW W v L g) (hb : Below W.heap.size W W') : RowW W' v L g := h.kept (hb.block _ h.lt)
theorem RowW.grown {W w1 : World} {B n : Nat} {v u : Value} {xs : List Value} {L : List Int} {g : Nat} (h : RowW W v L g) (ho : W.ownsRow B 22 1 u n xs) (hg : W.grownBy w1 u.ownBlock) : RowW w1 v L g := by
  obtain ⟨c, cells, h1, h2, h3, h4, h6⟩ := h
  exact ⟨c, cells, h1, h2, h3, blk_grown h4 hg (own_ne ho h4 (by decide)), h6⟩
def RowsW (W : World) (N : Nat) (vs : Nat → Value) (Ls : Nat → List Int) (bs : Nat → Nat) : Prop := ∀ j, j < N → RowW W (vs j) (Ls j) (bs j)
theorem rowsw_snoc {W : World} {i g : Nat} {ws : Nat → Value} {v : Value} {f : Nat → List Int} {bw : Nat → Nat} (h : RowsW W i ws f bw) (hv : RowW W v (f i) g) : RowsW W (i + 1) (fun j => if j < i then ws j else v) f (fun j => if j < i then bw j else g) := fun j hj => by
  by_cases c : j < i
  · simp only [if_pos c]; exact h j c
  · have e : j = i := by omega
    subst e
    simp only [if_neg c]; exact hv
theorem own_of_row1 {W : World} {v : Value} {L : List Int} {g : Nat} (h : Row1 W v L g) : W.ownsRow 0 5 1 v L.length (L.map (Value.int .u8)) := by
  obtain ⟨c, cells, h1, h2, h3, h4, h5, h6⟩ := h
  refine ⟨by rw [List.length_map, Nat.mul_one], .inr ⟨g, c, cells, h1, Nat.zero_le _, h4, h2, h3, by rw [h5, Nat.mul_one], ?_⟩⟩
  rw [Nat.mul_one]
  apply List.ext_getElem?
  intro j
  by_cases hj : j < L.length
  · rw [List.getElem?_take_of_lt hj, Array.getElem?_toList, h6 j hj, List.getElem?_map, List.getElem?_eq_getElem hj, List.getD_eq_getElem?_getD, List.getElem?_eq_getElem hj]
    rfl
  · rw [List.getElem?_eq_none (by rw [List.length_take]; omega), List.getElem?_eq_none (by rw [List.length_map]; omega)]
theorem rowl_of_take {cells : Array Value} {L : List Int} {n : Nat} (hn : n = L.length) (h : cells.toList.take n = L.map (Value.int .u8)) : RowL cells L := fun j hj => by
  have h3 : (L.map (Value.int .u8))[j]? = some (.int .u8 L[j]) := by rw [List.getElem?_map, List.getElem?_eq_getElem hj]; rfl
  rw [← h, List.getElem?_take_of_lt (by omega), Array.getElem?_toList] at h3
  rw [h3, List.getD_eq_getElem?_getD, List.getElem?_eq_getElem hj]
  rfl
theorem RowL.pre {cells : Array Value} {L M : List Int} (h : RowL cells (L ++ M)) : RowL cells L := fun j hj => by
  rw [h j (by rw [List.length_append]; omega), List.getD_eq_getElem?_getD, List.getElem?_append_left hj, ← List.getD_eq_getElem?_getD]
section
variable {ops : Array Oper} {rest : List Oper} {o : Oper} {a : Act} {Q : Exit → Act → World → Prop} {W : World}
/-- append(row, tail...): in place or anew; the old row reads as before. -/
theorem nrow_event (hgd : o.guard = none) (s x : Operand) (ho : o.op = .call { callee := .builtin .append, args := #[s, x], argTypes := #[22, 22] })
    {v : Value} {L M : List Int} {g gt m c : Nat} (hs : a.eval s = v) (hv : Row1 W v L g) (hx : a.eval x = .slice (some ⟨gt, 0, none⟩) m c) (ht : Row1 W (.slice (some ⟨gt, 0, none⟩) m c) M gt) (hl : L.length + M.length ≤ 10000000)
    (h : ∀ g' n' c' w1, n' = (L ++ M).length → RowW w1 (.slice (some ⟨g', 0, none⟩) n' c') (L ++ M) g' → RowW w1 v L g → W.grownBy w1 (some g) → (g' = g ∨ g' = W.heap.size) → wpList Try.prog ops Q rest (a.put o.dst (.slice (some ⟨g', 0, none⟩) n' c')) w1) :
    wpList Try.prog ops Q (o :: rest) a W := by
  obtain ⟨i, hi, hz, h1, h2⟩ := infoB
  obtain ⟨cM, cellsM, eM, hM1, hM2, hM3, hM4, hM5⟩ := ht
  injection eM with _ eM _
  subst eM
  obtain ⟨c0, cells, rfl, k2, k3, k4, k5, k6⟩ := hv
  have hnews : ∀ j u, (M.map (Value.int .u8))[j]? = some u → W.cell? ((⟨gt, 0, none⟩ : Addr).add j) = some u := fun j u hu => by
    rw [List.getElem?_map] at hu
    obtain ⟨p, hp, rfl⟩ := Option.map_eq_some_iff.1 hu
    obtain ⟨hjl, _⟩ := List.getElem?_eq_some_iff.1 hp
    rw [ad0, blk_cell hM3, hM5 j hjl, List.getD_eq_getElem?_getD, hp]
    rfl
  have h1c : ∀ u ∈ M.map (Value.int .u8), u.oneCell' = true := fun u hu => by
    obtain ⟨p, _, rfl⟩ := List.mem_map.1 hu
    rfl
  have hlm : (M.map (Value.int .u8)).length = M.length * i.size := by rw [List.length_map, h1, Nat.mul_one]
  have hold : (cells.toList.take L.length) = L.map (Value.int .u8) := by
    apply List.ext_getElem?
    intro j
    by_cases hj : j < L.length
    · rw [List.getElem?_take_of_lt hj, Array.getElem?_toList, k6 j hj, List.getElem?_map, List.getElem?_eq_getElem hj, List.getD_eq_getElem?_getD, List.getElem?_eq_getElem hj]
      rfl
    · rw [List.getElem?_eq_none (by rw [List.length_take]; omega), List.getElem?_eq_none (by rw [List.length_map]; omega)]
  by_cases hroom : L.length + M.length ≤ c0
  · have hrun := run_append_room (P := Try.prog) W 22 o.type 5 i Try.underlying22 hi g L.length c0 cells k4 ⟨gt, 0, none⟩ M.length c (M.map (Value.int .u8)) hlm hnews h1c hroom (by rw [h1, Nat.mul_one, List.length_map, k5]; exact hroom)
    rw [h1, Nat.mul_one, hold, List.length_map] at hrun
    have hrl : RowL (L.map (Value.int .u8) ++ M.map (Value.int .u8) ++ cells.toList.drop (L.length + M.length)).toArray (L ++ M) := rowl_of_take (n := (L ++ M).length) rfl (by rw [← List.map_append]; exact List.take_left' (by rw [List.length_map]))
    refine wpList_plain hgd fun K hK => ?_
    unfold Oper.wp execOp
    simp only [ho, resolve, invoke, builtin, Sem.run_bind, Sem.run_pure, Result.andThen_ok, List.map_toArray, List.map_cons, List.map_nil, hs, hx, hrun]
    exact hK _ _ (h g _ c0 _ (by rw [List.length_append]) ⟨c0, _, by rw [List.length_append], by rw [List.length_append]; exact hroom, k3, setRow_heap W g cells _ _ _ k4, hrl⟩ ⟨c0, _, rfl, k2, k3, setRow_heap W g cells _ _ _ k4, RowL.pre hrl⟩ ⟨rfl, rfl, rfl, by simp, fun k _ hk => setRow_other W g k _ (fun e => hk (by rw [e]))⟩ (.inl rfl))
  · have hcell : ∀ j v, (L.map (Value.int .u8))[j]? = some v → W.cell? ((⟨g, 0, none⟩ : Addr).add j) = some v := fun j u hu => by
      rw [List.getElem?_map] at hu
      obtain ⟨p, hp, rfl⟩ := Option.map_eq_some_iff.1 hu
      obtain ⟨hjl, _⟩ := List.getElem?_eq_some_iff.1 hp
      rw [ad0, blk_cell k4, k6 j hjl, List.getD_eq_getElem?_getD, hp]
      rfl
    have hrun := run_append_grow (P := Try.prog) W 22 o.type 5 i (.int .u8 0) Try.underlying22 hi hz ⟨g, 0, none⟩ L.length c0 (L.map (Value.int .u8)) (by rw [List.length_map, h1, Nat.mul_one]) hcell ⟨gt, 0, none⟩ M.length c (M.map (Value.int .u8)) hlm hnews (by omega) (by omega) (growslice_fits (by omega) (by rw [h2]; omega))
    have hge := grownCap_ge W (L.length + M.length) c0 5
    have hle := grownCap_le_maxLen W (L.length + M.length) c0 5 (by unfold maxLen; omega)
    refine wpList_plain hgd fun K hK => ?_
    unfold Oper.wp execOp
    simp only [ho, resolve, invoke, builtin, Sem.run_bind, Sem.run_pure, Result.andThen_ok, List.map_toArray, List.map_cons, List.map_nil, hs, hx, hrun]
    refine hK _ _ (h W.heap.size _ _ _ (by rw [List.length_append]) ⟨_, _, by rw [List.length_append], by rw [List.length_append]; exact hge, hle, heap_alloc_new W.drew _, rowl_of_take (n := (L ++ M).length) rfl ?_⟩ ⟨c0, cells, rfl, k2, k3, (heap_alloc_old W.drew _ (blk_lt k4)).trans k4, k6⟩ ⟨rfl, rfl, rfl, by simp, fun k hk _ => heap_alloc_old W.drew _ hk⟩ (.inr rfl))
    rw [Array.toList_append, Array.toList_append, List.map_append]
    exact List.take_left' (by simp)
end
def LNG (LL : List (List Int)) (j : Nat) : List Int := REP LL j ++ List.replicate 64 (100 + (j : Int))
theorem rep_len (LL : List (List Int)) (j n : Nat) (h : (LL.getD j []).length = n) : (REP LL j).length = n := by unfold REP; rw [List.length_replicate, h]
theorem rowsw_of {W : World} {N : Nat} {vs : Nat → Value} {f : Nat → List Int} {bs : Nat → Nat} (h : RowsN W N vs f bs) : RowsW W N vs f bs := fun j hj => Row1_W (h j hj)
theorem wrap100 {i N : Nat} (h : i < N) (hN : N ≤ 80) : wrap64 (100 + (i : Int)) = 100 + (i : Int) := by unfold wrap64; omega
theorem mod100 {i N : Nat} (h : i < N) (hN : N ≤ 80) : (100 + (i : Int)) % 256 = 100 + (i : Int) := by omega
theorem mod_i {i N : Nat} (h : i < N) (hN : N ≤ 80) : (i : Int) % 256 = (i : Int) := by omega
theorem num64 {ni nl : Nat} {x : Int} (h : ni ≤ 1048576) (hn : ni + 64 = nl) (hx : wrap64 ((ni : Int) + 64) = x) : (((nl : Int)) == x) = true ∧ (((nl : Int)) != x) = false ∧ x = (nl : Int) := by
  have e : x = (nl : Int) := by rw [← hx]; unfold wrap64; omega
  subst e
  exact ⟨beq_self_eq_true _, bne_self_eq_false _, rfl⟩
theorem num63 {ni nl : Nat} {x : Int} (h : ni ≤ 1048576) (hn : ni + 64 = nl) (hx : wrap64 ((ni : Int) + 63) = x) : 0 ≤ x ∧ x < (nl : Int) ∧ x.toNat = ni + 63 := by
  have e : x = (ni : Int) + 63 := by rw [← hx]; unfold wrap64; omega
  omega
theorem long_at (LL : List (List Int)) (i ni k : Nat) (cells : Array Value) (hn : (LL.getD i []).length = ni) (h : RowL cells (LNG LL i)) (h1 : ni ≤ k) (h2 : k < ni + 64) : cells[k]? = some (.int .u8 (100 + (i : Int))) := by
  have hl : (REP LL i).length = ni := rep_len LL i ni hn
  rw [h k (by unfold LNG; rw [List.length_append, hl, List.length_replicate]; exact h2)]
  unfold LNG
  rw [List.getD_eq_getElem?_getD, List.getElem?_append_right (by omega), hl, List.getElem?_replicate, if_pos (by omega)]
  rfl
theorem rep_at (LL : List (List Int)) (i ni k : Nat) (cells : Array Value) (hn : (LL.getD i []).length = ni) (h : RowL cells (REP LL i)) (hk : k < ni) : cells[k]? = some (.int .u8 (i : Int)) := by
  rw [h k (by rw [rep_len LL i ni hn]; exact hk)]
  unfold REP
  rw [List.getD_eq_getElem?_getD, List.getElem?_replicate, if_pos (by rw [hn]; exact hk)]
  rfl
theorem long_rep (LL : List (List Int)) (i ni k : Nat) (cells : Array Value) (hn : (LL.getD i []).length = ni) (h : RowL cells (LNG LL i)) (hk : k < ni) : cells[k]? = some (.int .u8 (i : Int)) :=
  rep_at LL i ni k cells hn (RowL.pre h) hk
theorem rowC {W : World} {L : List Int} {g n c : Nat} {A : Option Addr} (h : Row1 W (.slice A n c) L g) : Kd.C (Kd.int .u8) W A n L := h.C.2.2.2
theorem half_of {m N : Nat} (h : m + m = N) : Int.tdiv (N : Int) 2 = (m : Int) := by
  have e : (N : Int) = 2 * (m : Int) := by omega
  rw [e]
  exact Int.mul_tdiv_cancel_left _ (by decide)
theorem tab_pre {W : World} {h N m : Nat} {vs : Nat → Value} (t : Tab W h N vs) (hm : m ≤ N) : Tab W h m vs := by
  obtain ⟨cells, h1, h2⟩ := t
  exact ⟨cells, h1, fun j hj => h2 j (by omega)⟩
theorem rows_pre {W : World} {N m : Nat} {vs : Nat → Value} {bs : Nat → Nat} {Ls LL : List (List Int)} (hl : Ls.length = m) (hL : Ls ++ Ls = LL) (hN : m + m = N) (h : RowsN W N vs (fun j => LL.getD j []) bs) : RowsN W m vs (fun j => Ls.getD j []) bs := fun j hj => by
  have h1 := h j (by omega)
  have e : LL.getD j [] = Ls.getD j [] := by rw [← hL, List.getD_eq_getElem?_getD, List.getElem?_append_left (by omega), ← List.getD_eq_getElem?_getD]
  simp only [e] at h1
  exact h1
theorem half_wrap {m N : Nat} (h : m + m = N) (hm : m ≤ 40) : wrap64 (Int.tdiv (N : Int) 2) = (m : Int) := by rw [half_of h]; unfold wrap64; omega
theorem wrap_m {m : Nat} (hm : m ≤ 40) : wrap64 (m : Int) = (m : Int) := by unfold wrap64; omega
end Go.Proofs.Ytpglakfafanhoaa.NEv
