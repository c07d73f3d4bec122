-- Laid by wip/myprint.py, a driver over the kit's print, for this claim: a lemma's text, not read by a person.
import Derived.Deep.RegionWith
import Derived.Laws.BytesArg
import Derived.Test.YtifkobejdldkbaaDoorPEx0
import Derived.Test.YtifkobejdldkbaaDoorPEx1
namespace Go.Proofs.YtifkobejdldkbaaDoor.PE
open Go.RowKit Go.Proofs.YtifkobejdldkbaaDoorW.PrintWords Go.Proofs.YtifkobejdldkbaaDoorW.PrintLast Go.Proofs.YtifkobejdldkbaaDoorW.PrintMore
attribute [local go_sem] max2_int min2_int max_two min_two max_three min_three max_four min_four   -- for this text's walks alone
set_option linter.unusedVariables false
set_option linter.unusedSimpArgs false

/-! ### calendar_FormatDate: function 42 -/
-- ALONE
def calendar_FormatDate.putw : Nat → List Int → Nat → Int → List Int
  | 0, xs, _, _ => xs
  | j + 1, xs, o, x => calendar_FormatDate.putw j (xs.set (o + j) ((wrap64 (48 + (Int.tmod x 10))) % 256)) o (wrap64 (Int.tdiv x 10))
theorem calendar_FormatDate.putw_len : ∀ (j : Nat) (xs : List Int) (o : Nat) (x : Int), (calendar_FormatDate.putw j xs o x).length = xs.length
  | 0, _, _, _ => rfl
  | j + 1, xs, o, x => by rw [calendar_FormatDate.putw, calendar_FormatDate.putw_len j, List.length_set]
/-- A row of bytes with a conversion's mark behind it. -/
@[reducible] def RowU8 (w : World) (g : Nat) (xs : List Int) : Prop := w.heap[g]? = some (.cells (xs.map (Value.int .u8)).toArray 5 (xs.length, xs.length + 1))
theorem rowU8_set {w : World} {g : Nat} {xs : List Int} (h : RowU8 w g xs) (i : Nat) (v : Int) : RowU8 (w.setCell ⟨g, i, none⟩ (.int .u8 v)) g (xs.set i v) := by
  simp [RowU8, World.setCell, Array.getElem?_modify, h]
theorem rowU8_cell {w : World} {g : Nat} {xs : List Int} (h : RowU8 w g xs) {i : Nat} (hi : i < xs.length) : w.cell? ⟨g, i, none⟩ = some (.int .u8 (xs.getD i 0)) := by
  rw [cell_of_row w g i _ _ _ h]
  simp [List.getD, hi]
theorem rowU8_frozen {w : World} {g : Nat} {xs : List Int} (h : RowU8 w g xs) {i : Nat} (hi : i < xs.length) : w.frozen? ⟨g, i, none⟩ = false := by
  simp [World.frozen?, h]
  omega
theorem run_convert_mark {P : Program} (w : World) (t e : TypeId) (C : Array Value) (fr : Nat × Nat) (g n c : Nat) (hg : w.heap[g]? = some (.cells C e fr)) (ht : P.underlying t = some (.slice e)) (he : P.underlying e = some (.int .u8)) :
    (convert t t (.slice (some ⟨g, 0, none⟩) n c)).run P w = .ok (.slice (some ⟨g, 0, none⟩) n c) (w.freeze ⟨g, C.size, none⟩ 1) := by
  have hsh : w.shape? g = some (e, C.size) := by
    unfold World.shape?
    rw [hg]
  simp [convert, run_underlying ht, run_underlying he, markStringish, hsh]
theorem mark_event {P : Program} {ops : Array Oper} {rest : List Oper} {o : Oper} {a : Act} {Q : Exit → Act → World → Prop} {W : World} (hgd : o.guard = none) {N : Tmp} (_hd : o.dst = some N) {t : TypeId} {x : Operand} {g c b : Nat} {w0 : World} (xs : List Int)
    (ho : o.op = .convert t t x) (hx : a.eval x = .slice (some ⟨g, 0, none⟩) xs.length c) (hs : P.underlying t = some (.slice 5)) (he : P.underlying 5 = some (.int .u8))
    (hg : W.heap[g]? = some (.cells (xs.map (Value.int .u8)).toArray 5 (0, 0))) (hB : Below b w0 W) (hb : b ≤ g)
    (h : ∀ w1, RowU8 w1 g xs → Below b w0 w1 → (∀ i, i ≠ g → w1.heap[i]? = W.heap[i]?) → wpList P ops Q rest (a.put o.dst (.slice (some ⟨g, 0, none⟩) xs.length c)) w1) : wpList P ops Q (o :: rest) a W := by
  have hr := run_convert_mark (P := P) W t 5 _ _ g xs.length c hg hs he
  have hoth : ∀ i, i ≠ g → (W.freeze ⟨g, (xs.map (Value.int .u8)).toArray.size, none⟩ 1).heap[i]? = W.heap[i]? := fun i hi => by
    unfold World.freeze
    rw [if_neg (by decide)]
    simp [Array.getElem?_modify, Ne.symm hi]
  refine Kd.event_run hgd (v := .slice (some ⟨g, 0, none⟩) xs.length c) (w1 := W.freeze ⟨g, (xs.map (Value.int .u8)).toArray.size, none⟩ 1) ?_ (h _ ?_ ⟨?_, ?_, ?_, ?_, fun k hk => (hoth k (by omega)).trans (hB.block k hk)⟩ hoth)
  · simp only [execOp, ho, hx]
    simp [hr]
  · simp [RowU8, World.freeze, Array.getElem?_modify, hg]
  · rw [← hB.os]; unfold World.freeze; rw [if_neg (by decide)]
  · rw [← hB.tape]; unfold World.freeze; rw [if_neg (by decide)]
  · rw [← hB.output]; unfold World.freeze; rw [if_neg (by decide)]
  · have := hB.size
    unfold World.freeze
    rw [if_neg (by decide)]
    simpa using this
set_option maxHeartbeats 4000000 in
set_option maxRecDepth 100000 in
theorem calendar_FormatDate.put_at (xs : List Int) (g o n c b : Nat) (x : Int) (w0 w : World) (hB : Below b w0 w) (hb : b ≤ g) (hrow : RowU8 w g xs) (hn : o + n ≤ xs.length) (hz : xs.length ≤ 1000) :
    Calls Tryd.prog 60 #[.slice (some ⟨g, o, none⟩) n c, .int .i64 x] w fun e w' => e = .returned (.tuple #[]) ∧ RowU8 w' g (calendar_FormatDate.putw n xs o x) ∧ Below b w0 w' ∧ ∀ i, i ≠ g → w'.heap[i]? = w.heap[i]? := by
  have HB := Aside0.mk hB
  have HR := Aside0.mk hrow
  have HZ := Aside0.mk hz
  have HN := Aside0.mk hn
  have HG := Aside0.mk hb
  clear hB hrow hz hn hb
  have ew : wrap64 ((n : Int) - 1) = (n : Int) - 1 := by have := HZ.out; have := HN.out; unfold wrap64; omega
  go_enter Tryd.func60, Tryd.ntmps60
  go_wp2
  go_loopg [1, 4] n (fun kq v1 v4 w' => ∃ (ys : List Int) (y i : Int), v1 = .int .i64 y ∧ v4 = .int .i64 i ∧ Aside0 (i = (kq : Int) - 1) ∧ Aside0 (ys.length = xs.length) ∧ Aside0 (calendar_FormatDate.putw kq ys o y = calendar_FormatDate.putw n xs o x) ∧ Aside0 (kq ≤ n) ∧ Aside0 (RowU8 w' g ys) ∧ Aside0 (Below b w0 w') ∧ Aside0 (∀ i, i ≠ g → w'.heap[i]? = w.heap[i]?))
  case atStart => exact ⟨xs, x, (n : Int) - 1, rfl, (by first | rfl | (simp only [ew]) | (simp [ew]; done)), ⟨rfl⟩, ⟨rfl⟩, ⟨rfl⟩, ⟨Nat.le_refl _⟩, HR, HB, ⟨fun _ _ => rfl⟩⟩
  case round =>
    obtain ⟨ys, y, i, rfl, rfl, HI, HL, HA, HK, HR, HB, HO⟩ := hrel
    cases gk with
    | zero =>
      have c4b0 : decide (0 ≤ i) = false := decide_eq_false (by have := HI.out; omega)
      go_wp2
      first | go_end0 | ((try simp only [Exit.inBlock, Exit.then]); refine bodyPost_ret (results_none rfl _ _ _) rfl ?_)
      refine ⟨by first | rfl | (simp; done), ?_, HB.out, HO.out⟩
      have := HA.out
      rw [calendar_FormatDate.putw] at this
      rw [← this]
      exact HR.out
    | succ d =>
      have hi : i = (d : Int) := by have := HI.out; omega
      have c4b0 : decide (0 ≤ i) = true := decide_eq_true (by omega)
      have p7 : (0 ≤ i) = True := eq_true (by omega)
      have q7 : (i < (n : Int)) = True := eq_true (by have := HK.out; omega)
      have hlt : o + i.toNat < ys.length := by have := HK.out; have := HN.out; have := HL.out; omega
      have hx := rowU8_cell HR.out hlt
      have hf := rowU8_frozen HR.out hlt
      have HI2 := Aside0.mk hi
      have HLT := Aside0.mk hlt
      clear hi hlt
      go_wp2_with (first | ((with_reducible refine gate_store (t := 5) (p := 18) rfl ?_); refine store_event (t := 5) (p := 18) (v := ?vo) (w1 := (wr.setCell ⟨g, o + i.toNat, none⟩ (.int .u8 ((wrap64 (48 + (Int.tmod y 10))) % 256)))) ?hg ?ho ?hn ?hr ?_; (case ho => rfl); (case hg => rfl); (case hn => rfl); (case hr => first | (go_simp; done) | (go_simp; rfl)); intro w9 hw; have n0_ := Aside0.mk (show RowU8 w9 g (ys.set (o + i.toNat) ((wrap64 (48 + (Int.tmod y 10))) % 256)) by rw [hw]; exact rowU8_set HR.out _ _); have n1_ := Aside0.mk (show Below b w0 w9 by rw [hw]; exact HB.out.setCell HG.out _); have n2_ := Aside0.mk (show ∀ i, i ≠ g → w9.heap[i]? = w.heap[i]? from fun q hq => by rw [hw]; exact (Below.heap_setCell _ _ _ _ (by exact hq)).trans (HO.out q hq)); clear HR HB HO hw; have HR := n0_; have HB := n1_; have HO := n2_; clear n0_ n1_ n2_))
      go_roundg d
      case measure => omega
      case rel => exact ⟨(ys.set (o + i.toNat) ((wrap64 (48 + (Int.tmod y 10))) % 256)), (wrap64 (Int.tdiv y 10)), i - 1, (by first | rfl | (simp; done) | (simp [*]; done)), (by first | rfl | (congr 1; have := HI2.out; have := HZ.out; have := HN.out; have := HK.out; unfold wrap64; omega)), ⟨by have := HI2.out; omega⟩, ⟨by rw [List.length_set]; exact HL.out⟩, ⟨by rw [← HA.out, calendar_FormatDate.putw, show i.toNat = d by have := HI2.out; omega]⟩, ⟨by have := HK.out; omega⟩, HR, HB, HO⟩
def calendar_FormatDate.fmt (y m d : Int) : List Int := calendar_FormatDate.putw 2 (calendar_FormatDate.putw 2 (calendar_FormatDate.putw 4 [48, 48, 48, 48, 45, 48, 48, 45, 48, 48] 0 y) 5 m) 8 d
def calendar_FormatDate.f (k : Nat) (a0 : Int) : Option (ByteArray × Bool) := (calendar_Civil.f k a0).bind fun bt => if bt.2.2.2 = true then some (strOfNums (calendar_FormatDate.fmt bt.1 bt.2.1 bt.2.2.1), true) else some (ByteArray.empty, false)
theorem calendar_FormatDate.mono : ∀ a0 k, LeO (calendar_FormatDate.f k a0) (calendar_FormatDate.f (k + 1) a0) := by
  intro a0 k
  unfold calendar_FormatDate.f
  exact LeO.bind (calendar_Civil.mono _ _) (fun _ => LeO.refl _)
theorem lit_event {P : Program} {ops : Array Oper} {rest : List Oper} {o : Oper} {a : Act} {Q : Exit → Act → World → Prop} {W : World} (hgd : o.guard = none) {N : Tmp} (_hd : o.dst = some N) {cs : Array Value} {t : TypeId} {n : Nat}
    (hrun : (execOp a.eval o).run P W = .ok (.value (.slice (some ⟨W.heap.size, 0, none⟩) n n)) (W.alloc (.cells cs t (0, 0))))
    (h : ∀ g, g = W.heap.size → ∀ w1, w1.heap[g]? = some (.cells cs t (0, 0)) → Below W.heap.size W w1 → wpList P ops Q rest (a.put o.dst (.slice (some ⟨g, 0, none⟩) n n)) w1) : wpList P ops Q (o :: rest) a W :=
  Kd.event_run hgd hrun (h _ rfl _ (blk_new W _) (below_alloc (Below.refl _ _) _))
set_option maxHeartbeats 4000000 in
set_option maxRecDepth 100000 in
theorem calendar_FormatDate.calls (k : Nat) (a0 : Int) (r1 : ByteArray) (r2 : Bool) (w : World) (hrT : AheadAt w) (h : calendar_FormatDate.f k a0 = some (r1, r2)) :
    Calls Tryd.prog 42 #[.int .i64 a0] w fun e w' => e = .returned (.tuple #[.string r1, .bool r2]) ∧ Below w.heap.size w w' := by
  have hu27 := Tryd.underlying27
  have HRT := Aside0.mk hrT
  clear hrT
  have HB := Aside0.mk (Below.refl w.heap.size w)
  have H := Option.bind_eq_some_iff.mp h
  clear h
  obtain ⟨⟨t1, t2, t3, t4⟩, A10, H⟩ := H
  have A1 := Aside0.mk A10
  clear A10
  cases t4 with
  | false =>
    simp only [Bool.false_eq_true, if_false, Option.some.injEq, Prod.mk.injEq] at H
    obtain ⟨rfl, rfl⟩ := H
    go_enter Tryd.func42, Tryd.ntmps42
    go_wp2_with (first | ((with_reducible refine gate_callee (f := 23) rfl ?_); refine goesL_ (some 9) rfl rfl Tryd.func23 (by kernel_rfl) rfl #[.int .i64 a0] rfl (by (try simp only [List.map_toArray, List.map_cons, List.map_nil]); first | done | rfl) ?_; (with_reducible refine (calendar_Civil.calls k a0 t1 t2 t3 _ _ ?side1 A1.out).mono ?_); (case side1 => repeat (first | exact HRT.out | (with_reducible refine Kd.C_alloc ?_ _) | (with_reducible refine Kd.C_drewN ?_ _) | (with_reducible refine Kd.C_drew ?_))); rintro e w7 ⟨rfl, hb⟩; refine ⟨_, rfl, ?_⟩; have n0_ := Aside0.mk (below_step (by repeat (first | (with_reducible first | exact HB.out | apply below_alloc | apply pw_below_drewN | apply below_drew1) | exact HB.out)) hb); clear HB; have HB := n0_; clear n0_ hb) | ((with_reducible refine gate_dst (N := 4) rfl ?_); refine box_event ?hg (N := 4) ?hd (cs := #[.int .i64 0, .int .i64 0, .int .i64 0]) (t := 27) ?hr ?_; (case hd => rfl); (case hg => rfl); (case hr => first | (go_simp; done) | (go_simp; rfl)); intro g1 hg w8 hbox hb; have n0_ := Aside0.mk (below_step (by repeat (first | (with_reducible first | exact HB.out | apply below_alloc | apply pw_below_drewN | apply below_drew1) | exact HB.out)) hb); have n1_ := Aside0.mk hbox; have n2_ := Aside0.mk ((by rw [hg]; exact below_size (by repeat (first | (with_reducible first | exact HB.out | apply below_alloc | apply pw_below_drewN | apply below_drew1) | exact HB.out))) : w.heap.size ≤ g1); clear HB; have HB := n0_; have BK := n1_; have GE1 := n2_; clear n0_ n1_ n2_ hb hbox hg; have hc8_0 : w8.cell? ⟨g1, 0, none⟩ = some (.int .i64 0) := (blk_cell BK.out 0).trans rfl; have hf8_0 := blk_frozen BK.out 0; have hc8_1 : w8.cell? ⟨g1, 1, none⟩ = some (.int .i64 0) := (blk_cell BK.out 1).trans rfl; have hf8_1 := blk_frozen BK.out 1; have hc8_2 : w8.cell? ⟨g1, 2, none⟩ = some (.int .i64 0) := (blk_cell BK.out 2).trans rfl; have hf8_2 := blk_frozen BK.out 2; skip) | ((with_reducible refine gate_dst (N := 14) rfl ?_); refine lit_event ?hg (N := 14) ?hd (n := 10) (cs := ([48, 48, 48, 48, 45, 48, 48, 45, 48, 48].map (Value.int .u8)).toArray) (t := 5) ?hr ?_; (case hd => rfl); (case hg => rfl); (case hr => first | (go_simp; done) | (go_simp; rfl)); intro g2 hg w10 hbox hb; have n1_ := Aside0.mk hbox; have hbk : w10.heap[g1]? = some (.cells #[.int .i64 t1, .int .i64 t2, .int .i64 t3] 27 (0, 0)) := blk_below (by (with_reducible repeat (first | refine blk_drewN ?_ _ | refine blk_drew ?_ | refine blk_alloc ?_ _)); refine blk_put (cs := #[.int .i64 t1, .int .i64 t2, .int .i64 0]) ?_ 2 _ rfl; (with_reducible repeat (first | refine blk_drewN ?_ _ | refine blk_drew ?_ | refine blk_alloc ?_ _)); refine blk_put (cs := #[.int .i64 t1, .int .i64 0, .int .i64 0]) ?_ 1 _ rfl; (with_reducible repeat (first | refine blk_drewN ?_ _ | refine blk_drew ?_ | refine blk_alloc ?_ _)); refine blk_put (cs := #[.int .i64 0, .int .i64 0, .int .i64 0]) ?_ 0 _ rfl; (with_reducible repeat (first | refine blk_drewN ?_ _ | refine blk_drew ?_ | refine blk_alloc ?_ _)); exact BK.out) hb; have hne : g1 ≠ g2 := (by rw [hg]; exact Nat.ne_of_lt (blk_lt (g := g1) (o := .cells #[.int .i64 t1, .int .i64 t2, .int .i64 t3] 27 (0, 0)) (by (with_reducible repeat (first | refine blk_drewN ?_ _ | refine blk_drew ?_ | refine blk_alloc ?_ _)); refine blk_put (cs := #[.int .i64 t1, .int .i64 t2, .int .i64 0]) ?_ 2 _ rfl; (with_reducible repeat (first | refine blk_drewN ?_ _ | refine blk_drew ?_ | refine blk_alloc ?_ _)); refine blk_put (cs := #[.int .i64 t1, .int .i64 0, .int .i64 0]) ?_ 1 _ rfl; (with_reducible repeat (first | refine blk_drewN ?_ _ | refine blk_drew ?_ | refine blk_alloc ?_ _)); refine blk_put (cs := #[.int .i64 0, .int .i64 0, .int .i64 0]) ?_ 0 _ rfl; (with_reducible repeat (first | refine blk_drewN ?_ _ | refine blk_drew ?_ | refine blk_alloc ?_ _)); exact BK.out))); have n0_ := Aside0.mk (below_step (by repeat (first | (with_reducible first | exact HB.out | apply below_alloc | apply pw_below_drewN | apply below_drew1 | refine below_set ?_ GE1.out) | exact HB.out)) hb); have n2_ := Aside0.mk ((by rw [hg]; exact below_size (by repeat (first | (with_reducible first | exact HB.out | apply below_alloc | apply pw_below_drewN | apply below_drew1 | refine below_set ?_ GE1.out) | exact HB.out))) : w.heap.size ≤ g2); clear HB BK; have HB := n0_; have ROW0 := n1_; have GE2 := n2_; have BK := Aside0.mk hbk; have NE := Aside0.mk hne; clear n0_ n1_ n2_ hb hbox hg hbk hne; have hc10_0 : w10.cell? ⟨g1, 0, none⟩ = some (.int .i64 t1) := (blk_cell BK.out 0).trans rfl; have hf10_0 := blk_frozen BK.out 0; have hc10_1 : w10.cell? ⟨g1, 1, none⟩ = some (.int .i64 t2) := (blk_cell BK.out 1).trans rfl; have hf10_1 := blk_frozen BK.out 1; have hc10_2 : w10.cell? ⟨g1, 2, none⟩ = some (.int .i64 t3) := (blk_cell BK.out 2).trans rfl; have hf10_2 := blk_frozen BK.out 2; skip) | ((with_reducible refine gate_dst (N := 15) rfl ?_); refine mark_event ?hg (N := 15) ?hd (t := 58) (x := .tmp 14) (g := g2) (c := 10) (b := w.heap.size) (w0 := w) [48, 48, 48, 48, 45, 48, 48, 45, 48, 48] ?ho ?hx Tryd.underlying58 Tryd.underlying5 (by (with_reducible repeat (first | refine blk_drewN ?_ _ | refine blk_drew ?_ | refine blk_alloc ?_ _)); exact ROW0.out) (by repeat (first | (with_reducible first | exact HB.out | apply below_alloc | apply pw_below_drewN | apply below_drew1 | refine below_set ?_ GE1.out) | exact HB.out)) GE2.out ?_; (case hd => rfl); (case hg => rfl); (case ho => rfl); (case hx => rfl); intro w14 hrow_ hb_ ho_; have n0_ := Aside0.mk hrow_; have n1_ := Aside0.mk hb_; have n2_ := Aside0.mk ((ho_ g1 NE.out).trans (by (with_reducible repeat (first | refine blk_drewN ?_ _ | refine blk_drew ?_ | refine blk_alloc ?_ _)); exact BK.out)); clear hrow_ hb_ ho_ ROW0 HB BK; have ROW := n0_; have HB := n1_; have BK := n2_; clear n0_ n1_ n2_; have hc14_0 : w14.cell? ⟨g1, 0, none⟩ = some (.int .i64 t1) := (blk_cell BK.out 0).trans rfl; have hf14_0 := blk_frozen BK.out 0; have hc14_1 : w14.cell? ⟨g1, 1, none⟩ = some (.int .i64 t2) := (blk_cell BK.out 1).trans rfl; have hf14_1 := blk_frozen BK.out 1; have hc14_2 : w14.cell? ⟨g1, 2, none⟩ = some (.int .i64 t3) := (blk_cell BK.out 2).trans rfl; have hf14_2 := blk_frozen BK.out 2; skip))
    go_ret2
    exact ⟨by first | rfl | (simp; done), (by repeat (first | (with_reducible first | exact HB.out | apply below_alloc | apply pw_below_drewN | apply below_drew1 | refine below_set ?_ GE1.out) | exact HB.out))⟩
  | true =>
    simp only [if_true, Option.some.injEq, Prod.mk.injEq] at H
    obtain ⟨rfl, rfl⟩ := H
    go_enter Tryd.func42, Tryd.ntmps42
    go_wp2_with (first | ((with_reducible refine gate_callee (f := 23) rfl ?_); refine goesL_ (some 9) rfl rfl Tryd.func23 (by kernel_rfl) rfl #[.int .i64 a0] rfl (by (try simp only [List.map_toArray, List.map_cons, List.map_nil]); first | done | rfl) ?_; (with_reducible refine (calendar_Civil.calls k a0 t1 t2 t3 _ _ ?side1 A1.out).mono ?_); (case side1 => repeat (first | exact HRT.out | (with_reducible refine Kd.C_alloc ?_ _) | (with_reducible refine Kd.C_drewN ?_ _) | (with_reducible refine Kd.C_drew ?_))); rintro e w7 ⟨rfl, hb⟩; refine ⟨_, rfl, ?_⟩; have n0_ := Aside0.mk (below_step (by repeat (first | (with_reducible first | exact HB.out | apply below_alloc | apply pw_below_drewN | apply below_drew1) | exact HB.out)) hb); clear HB; have HB := n0_; clear n0_ hb) | ((with_reducible refine gate_dst (N := 4) rfl ?_); refine box_event ?hg (N := 4) ?hd (cs := #[.int .i64 0, .int .i64 0, .int .i64 0]) (t := 27) ?hr ?_; (case hd => rfl); (case hg => rfl); (case hr => first | (go_simp; done) | (go_simp; rfl)); intro g1 hg w8 hbox hb; have n0_ := Aside0.mk (below_step (by repeat (first | (with_reducible first | exact HB.out | apply below_alloc | apply pw_below_drewN | apply below_drew1) | exact HB.out)) hb); have n1_ := Aside0.mk hbox; have n2_ := Aside0.mk ((by rw [hg]; exact below_size (by repeat (first | (with_reducible first | exact HB.out | apply below_alloc | apply pw_below_drewN | apply below_drew1) | exact HB.out))) : w.heap.size ≤ g1); clear HB; have HB := n0_; have BK := n1_; have GE1 := n2_; clear n0_ n1_ n2_ hb hbox hg; have hc8_0 : w8.cell? ⟨g1, 0, none⟩ = some (.int .i64 0) := (blk_cell BK.out 0).trans rfl; have hf8_0 := blk_frozen BK.out 0; have hc8_1 : w8.cell? ⟨g1, 1, none⟩ = some (.int .i64 0) := (blk_cell BK.out 1).trans rfl; have hf8_1 := blk_frozen BK.out 1; have hc8_2 : w8.cell? ⟨g1, 2, none⟩ = some (.int .i64 0) := (blk_cell BK.out 2).trans rfl; have hf8_2 := blk_frozen BK.out 2; skip) | ((with_reducible refine gate_dst (N := 14) rfl ?_); refine lit_event ?hg (N := 14) ?hd (n := 10) (cs := ([48, 48, 48, 48, 45, 48, 48, 45, 48, 48].map (Value.int .u8)).toArray) (t := 5) ?hr ?_; (case hd => rfl); (case hg => rfl); (case hr => first | (go_simp; done) | (go_simp; rfl)); intro g2 hg w10 hbox hb; have n1_ := Aside0.mk hbox; have hbk : w10.heap[g1]? = some (.cells #[.int .i64 t1, .int .i64 t2, .int .i64 t3] 27 (0, 0)) := blk_below (by (with_reducible repeat (first | refine blk_drewN ?_ _ | refine blk_drew ?_ | refine blk_alloc ?_ _)); refine blk_put (cs := #[.int .i64 t1, .int .i64 t2, .int .i64 0]) ?_ 2 _ rfl; (with_reducible repeat (first | refine blk_drewN ?_ _ | refine blk_drew ?_ | refine blk_alloc ?_ _)); refine blk_put (cs := #[.int .i64 t1, .int .i64 0, .int .i64 0]) ?_ 1 _ rfl; (with_reducible repeat (first | refine blk_drewN ?_ _ | refine blk_drew ?_ | refine blk_alloc ?_ _)); refine blk_put (cs := #[.int .i64 0, .int .i64 0, .int .i64 0]) ?_ 0 _ rfl; (with_reducible repeat (first | refine blk_drewN ?_ _ | refine blk_drew ?_ | refine blk_alloc ?_ _)); exact BK.out) hb; have hne : g1 ≠ g2 := (by rw [hg]; exact Nat.ne_of_lt (blk_lt (g := g1) (o := .cells #[.int .i64 t1, .int .i64 t2, .int .i64 t3] 27 (0, 0)) (by (with_reducible repeat (first | refine blk_drewN ?_ _ | refine blk_drew ?_ | refine blk_alloc ?_ _)); refine blk_put (cs := #[.int .i64 t1, .int .i64 t2, .int .i64 0]) ?_ 2 _ rfl; (with_reducible repeat (first | refine blk_drewN ?_ _ | refine blk_drew ?_ | refine blk_alloc ?_ _)); refine blk_put (cs := #[.int .i64 t1, .int .i64 0, .int .i64 0]) ?_ 1 _ rfl; (with_reducible repeat (first | refine blk_drewN ?_ _ | refine blk_drew ?_ | refine blk_alloc ?_ _)); refine blk_put (cs := #[.int .i64 0, .int .i64 0, .int .i64 0]) ?_ 0 _ rfl; (with_reducible repeat (first | refine blk_drewN ?_ _ | refine blk_drew ?_ | refine blk_alloc ?_ _)); exact BK.out))); have n0_ := Aside0.mk (below_step (by repeat (first | (with_reducible first | exact HB.out | apply below_alloc | apply pw_below_drewN | apply below_drew1 | refine below_set ?_ GE1.out) | exact HB.out)) hb); have n2_ := Aside0.mk ((by rw [hg]; exact below_size (by repeat (first | (with_reducible first | exact HB.out | apply below_alloc | apply pw_below_drewN | apply below_drew1 | refine below_set ?_ GE1.out) | exact HB.out))) : w.heap.size ≤ g2); clear HB BK; have HB := n0_; have ROW0 := n1_; have GE2 := n2_; have BK := Aside0.mk hbk; have NE := Aside0.mk hne; clear n0_ n1_ n2_ hb hbox hg hbk hne; have hc10_0 : w10.cell? ⟨g1, 0, none⟩ = some (.int .i64 t1) := (blk_cell BK.out 0).trans rfl; have hf10_0 := blk_frozen BK.out 0; have hc10_1 : w10.cell? ⟨g1, 1, none⟩ = some (.int .i64 t2) := (blk_cell BK.out 1).trans rfl; have hf10_1 := blk_frozen BK.out 1; have hc10_2 : w10.cell? ⟨g1, 2, none⟩ = some (.int .i64 t3) := (blk_cell BK.out 2).trans rfl; have hf10_2 := blk_frozen BK.out 2; skip) | ((with_reducible refine gate_dst (N := 15) rfl ?_); refine mark_event ?hg (N := 15) ?hd (t := 58) (x := .tmp 14) (g := g2) (c := 10) (b := w.heap.size) (w0 := w) [48, 48, 48, 48, 45, 48, 48, 45, 48, 48] ?ho ?hx Tryd.underlying58 Tryd.underlying5 (by (with_reducible repeat (first | refine blk_drewN ?_ _ | refine blk_drew ?_ | refine blk_alloc ?_ _)); exact ROW0.out) (by repeat (first | (with_reducible first | exact HB.out | apply below_alloc | apply pw_below_drewN | apply below_drew1 | refine below_set ?_ GE1.out) | exact HB.out)) GE2.out ?_; (case hd => rfl); (case hg => rfl); (case ho => rfl); (case hx => rfl); intro w14 hrow_ hb_ ho_; have n0_ := Aside0.mk hrow_; have n1_ := Aside0.mk hb_; have n2_ := Aside0.mk ((ho_ g1 NE.out).trans (by (with_reducible repeat (first | refine blk_drewN ?_ _ | refine blk_drew ?_ | refine blk_alloc ?_ _)); exact BK.out)); clear hrow_ hb_ ho_ ROW0 HB BK; have ROW := n0_; have HB := n1_; have BK := n2_; clear n0_ n1_ n2_; have hc14_0 : w14.cell? ⟨g1, 0, none⟩ = some (.int .i64 t1) := (blk_cell BK.out 0).trans rfl; have hf14_0 := blk_frozen BK.out 0; have hc14_1 : w14.cell? ⟨g1, 1, none⟩ = some (.int .i64 t2) := (blk_cell BK.out 1).trans rfl; have hf14_1 := blk_frozen BK.out 1; have hc14_2 : w14.cell? ⟨g1, 2, none⟩ = some (.int .i64 t3) := (blk_cell BK.out 2).trans rfl; have hf14_2 := blk_frozen BK.out 2; skip))
    go_region_with (go_at_call 60; refine (calendar_FormatDate.put_at [48, 48, 48, 48, 45, 48, 48, 45, 48, 48] g2 0 4 10 w.heap.size t1 w _ (by repeat (first | (with_reducible first | exact HB.out | apply below_alloc | apply pw_below_drewN | apply below_drew1 | refine below_set ?_ GE1.out) | exact HB.out)) (by exact GE2.out) (by (with_reducible repeat (first | refine blk_drewN ?_ _ | refine blk_drew ?_ | refine blk_alloc ?_ _)); exact ROW.out) (by first | decide | (rw [calendar_FormatDate.putw_len]; decide) | (rw [calendar_FormatDate.putw_len, calendar_FormatDate.putw_len]; decide)) (by first | decide | (rw [calendar_FormatDate.putw_len]; decide) | (rw [calendar_FormatDate.putw_len, calendar_FormatDate.putw_len]; decide))).mono ?_; rintro e w11 ⟨rfl, hrow_, hb_, ho_⟩; have n0_ := Aside0.mk hrow_; have n1_ := Aside0.mk hb_; have n2_ := Aside0.mk ((ho_ g1 NE.out).trans (by (with_reducible repeat (first | refine blk_drewN ?_ _ | refine blk_drew ?_ | refine blk_alloc ?_ _)); exact BK.out)); clear hrow_ hb_ ho_ ROW HB BK; have ROW := n0_; have HB := n1_; have BK := n2_; clear n0_ n1_ n2_; have hcw11_0 : w11.cell? ⟨g1, 0, none⟩ = some (.int .i64 t1) := (blk_cell BK.out 0).trans rfl; have hfw11_0 := blk_frozen BK.out 0; have hcw11_1 : w11.cell? ⟨g1, 1, none⟩ = some (.int .i64 t2) := (blk_cell BK.out 1).trans rfl; have hfw11_1 := blk_frozen BK.out 1; have hcw11_2 : w11.cell? ⟨g1, 2, none⟩ = some (.int .i64 t3) := (blk_cell BK.out 2).trans rfl; have hfw11_2 := blk_frozen BK.out 2; skip)
    go_wp2
    go_region_with (go_at_call 60; refine (calendar_FormatDate.put_at (calendar_FormatDate.putw 4 [48, 48, 48, 48, 45, 48, 48, 45, 48, 48] 0 t1) g2 5 2 5 w.heap.size t2 w _ (by repeat (first | (with_reducible first | exact HB.out | apply below_alloc | apply pw_below_drewN | apply below_drew1 | refine below_set ?_ GE1.out) | exact HB.out)) (by exact GE2.out) (by (with_reducible repeat (first | refine blk_drewN ?_ _ | refine blk_drew ?_ | refine blk_alloc ?_ _)); exact ROW.out) (by first | decide | (rw [calendar_FormatDate.putw_len]; decide) | (rw [calendar_FormatDate.putw_len, calendar_FormatDate.putw_len]; decide)) (by first | decide | (rw [calendar_FormatDate.putw_len]; decide) | (rw [calendar_FormatDate.putw_len, calendar_FormatDate.putw_len]; decide))).mono ?_; rintro e w12 ⟨rfl, hrow_, hb_, ho_⟩; have n0_ := Aside0.mk hrow_; have n1_ := Aside0.mk hb_; have n2_ := Aside0.mk ((ho_ g1 NE.out).trans (by (with_reducible repeat (first | refine blk_drewN ?_ _ | refine blk_drew ?_ | refine blk_alloc ?_ _)); exact BK.out)); clear hrow_ hb_ ho_ ROW HB BK; have ROW := n0_; have HB := n1_; have BK := n2_; clear n0_ n1_ n2_; have hcw12_0 : w12.cell? ⟨g1, 0, none⟩ = some (.int .i64 t1) := (blk_cell BK.out 0).trans rfl; have hfw12_0 := blk_frozen BK.out 0; have hcw12_1 : w12.cell? ⟨g1, 1, none⟩ = some (.int .i64 t2) := (blk_cell BK.out 1).trans rfl; have hfw12_1 := blk_frozen BK.out 1; have hcw12_2 : w12.cell? ⟨g1, 2, none⟩ = some (.int .i64 t3) := (blk_cell BK.out 2).trans rfl; have hfw12_2 := blk_frozen BK.out 2; skip)
    go_wp2
    go_region_with (go_at_call 60; refine (calendar_FormatDate.put_at (calendar_FormatDate.putw 2 (calendar_FormatDate.putw 4 [48, 48, 48, 48, 45, 48, 48, 45, 48, 48] 0 t1) 5 t2) g2 8 2 2 w.heap.size t3 w _ (by repeat (first | (with_reducible first | exact HB.out | apply below_alloc | apply pw_below_drewN | apply below_drew1 | refine below_set ?_ GE1.out) | exact HB.out)) (by exact GE2.out) (by (with_reducible repeat (first | refine blk_drewN ?_ _ | refine blk_drew ?_ | refine blk_alloc ?_ _)); exact ROW.out) (by first | decide | (rw [calendar_FormatDate.putw_len]; decide) | (rw [calendar_FormatDate.putw_len, calendar_FormatDate.putw_len]; decide)) (by first | decide | (rw [calendar_FormatDate.putw_len]; decide) | (rw [calendar_FormatDate.putw_len, calendar_FormatDate.putw_len]; decide))).mono ?_; rintro e w13 ⟨rfl, hrow_, hb_, ho_⟩; have n0_ := Aside0.mk hrow_; have n1_ := Aside0.mk hb_; have n2_ := Aside0.mk ((ho_ g1 NE.out).trans (by (with_reducible repeat (first | refine blk_drewN ?_ _ | refine blk_drew ?_ | refine blk_alloc ?_ _)); exact BK.out)); clear hrow_ hb_ ho_ ROW HB BK; have ROW := n0_; have HB := n1_; have BK := n2_; clear n0_ n1_ n2_; have hcw13_0 : w13.cell? ⟨g1, 0, none⟩ = some (.int .i64 t1) := (blk_cell BK.out 0).trans rfl; have hfw13_0 := blk_frozen BK.out 0; have hcw13_1 : w13.cell? ⟨g1, 1, none⟩ = some (.int .i64 t2) := (blk_cell BK.out 1).trans rfl; have hfw13_1 := blk_frozen BK.out 1; have hcw13_2 : w13.cell? ⟨g1, 2, none⟩ = some (.int .i64 t3) := (blk_cell BK.out 2).trans rfl; have hfw13_2 := blk_frozen BK.out 2; skip)
    have hcv : (convert 58 9 (.slice (some ⟨g2, 0, none⟩) 10 10)).run Tryd.prog w13 = .ok (.string (strOfNums (calendar_FormatDate.putw 2 (calendar_FormatDate.putw 2 (calendar_FormatDate.putw 4 [48, 48, 48, 48, 45, 48, 48, 45, 48, 48] 0 t1) 5 t2) 8 t3))) w13 := run_convert_bytes_arg w13 58 5 Tryd.underlying58 Tryd.underlying5 g2 0 10 10 (calendar_FormatDate.putw 2 (calendar_FormatDate.putw 2 (calendar_FormatDate.putw 4 [48, 48, 48, 48, 45, 48, 48, 45, 48, 48] 0 t1) 5 t2) 8 t3) (by rw [calendar_FormatDate.putw_len, calendar_FormatDate.putw_len, calendar_FormatDate.putw_len]; rfl) (fun i hi => by rw [Nat.zero_add]; exact rowU8_cell ROW.out (by rw [calendar_FormatDate.putw_len, calendar_FormatDate.putw_len, calendar_FormatDate.putw_len]; exact hi)) 9 Tryd.underlying9
    go_wp2
    go_ret2
    exact ⟨by first | rfl | (simp; done), (by repeat (first | (with_reducible first | exact HB.out | apply below_alloc | apply pw_below_drewN | apply below_drew1 | refine below_set ?_ GE1.out) | exact HB.out))⟩

end Go.Proofs.YtifkobejdldkbaaDoor.PE
