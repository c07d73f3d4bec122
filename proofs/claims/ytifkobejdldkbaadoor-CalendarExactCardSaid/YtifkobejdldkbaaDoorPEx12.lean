-- Laid by wip/myprint.py, a driver over the kit's print, for this claim: a lemma's text, not read by a person.
import Derived.Lib.ConvBytes
import Derived.Test.YtifkobejdldkbaaDoorPEx0
namespace Go.Proofs.YtifkobejdldkbaaDoor.PE
open Go.RowKit Go.Proofs.YtifkobejdldkbaaDoorW.PrintWords Go.Proofs.YtifkobejdldkbaaDoorW.PrintLast Go.Proofs.YtifkobejdldkbaaDoorW.PrintMore
attribute [local go_sem] max2_int min2_int max_two min_two max_three min_three max_four min_four   -- for this text's walks alone
set_option linter.unusedVariables false
set_option linter.unusedSimpArgs false

/-! ### calendar_digits: function 61 -/
-- ALONE
theorem conv_event {P : Program} {ops : Array Oper} {rest : List Oper} {o : Oper} {a : Act} {Q : Exit → Act → World → Prop} {W : World} (hgd : o.guard = none) {N : Tmp} (_hd : o.dst = some N) {s : ByteArray} {e src dst : TypeId} {x : Operand} {u : TypeDesc}
    (ho : o.op = .convert src dst x) (hx : a.eval x = .string s) (hs : P.underlying src = some u) (hdst : P.underlying dst = some (.slice e)) (he : P.underlying e = some (.int .u8))
    (h : ∀ g c w1, (∀ j : Nat, j < s.size → w1.cell? ⟨g, j, none⟩ = some (.int .u8 (bt s j))) → Below W.heap.size W w1 → wpList P ops Q rest (a.put o.dst (.slice (some ⟨g, 0, none⟩) s.size c)) w1) : wpList P ops Q (o :: rest) a W := by
  refine Kd.event_run hgd (v := .slice (some ⟨W.heap.size, 0, none⟩) s.size (grownCap W s.size 0 e)) (w1 := Lib.bytesWorld W e s) ?_ (h _ _ _ (fun j hj => ?_) ⟨rfl, rfl, rfl, by rw [Lib.bytesWorld_size]; omega, fun k hk => Lib.bytesWorld_at_old W e s k hk⟩)
  · simp [execOp, ho, hx, Lib.run_convert_string_bytes W src dst e s hs hdst he]
  · rw [Lib.bytesWorld_cell W e s j hj, bt, dif_pos (by simpa using hj)]
    congr 3
    simp [List.getD, ByteArray.getElem_eq_getElem_data, hj]

def calendar_digits.l0 : Nat → ByteArray → Int → Int → Int × Bool
  | 0, _, n, _ => (n, true)
  | d + 1, s, n, j => if bt s j < 48 then (0, false) else if bt s j > 57 then (0, false) else calendar_digits.l0 d s (wrap64 (wrap64 (10 * n) + ((bt s j - 48) % 256))) (j + 1)
def calendar_digits.f (a0 : ByteArray) : Option (Int × Bool) := if (a0.size : Int) ≤ 9223372036854775807 then some (calendar_digits.l0 a0.size a0 0 0) else none
set_option maxHeartbeats 4000000 in
set_option maxRecDepth 100000 in
theorem calendar_digits.calls (a0 : ByteArray) (r1 : Int) (r2 : Bool) (w : World) (h : calendar_digits.f a0 = some (r1, r2)) :
    Calls Tryd.prog 61 #[.string a0] w fun e w' => e = .returned (.tuple #[.int .i64 r1, .bool r2]) ∧ Below w.heap.size w w' := by
  have HB := Aside0.mk (Below.refl w.heap.size w)
  unfold calendar_digits.f at h
  by_cases hz : (a0.size : Int) ≤ 9223372036854775807
  case neg => rw [if_neg hz] at h; cases h
  rw [if_pos hz] at h
  have H' := Aside0.mk (Option.some.inj h)
  have HZ := Aside0.mk hz
  clear h hz
  go_enter Tryd.func61, Tryd.ntmps61
  go_wp2_with (first | ((with_reducible refine gate_dst (N := 8) rfl ?_); refine conv_event ?hg (N := 8) ?hd (s := a0) (e := 5) (src := 9) (dst := 58) (x := .tmp 7) ?ho ?hx Tryd.underlying9 Tryd.underlying58 Tryd.underlying5 ?_; (case hd => rfl); (case hg => rfl); (case ho => rfl); (case hx => rfl); intro g c w1 hc hb; have HC := Aside0.mk hc; have HB2 := Aside0.mk (below_step HB.out hb); clear hc hb HB; have HB := HB2; clear HB2))
  go_loopg [4, 10] (a0.size) (fun kq v4 v10 w' => ∃ (n : Int) (j : Nat), v4 = .int .i64 n ∧ v10 = .int .i64 j ∧ Aside0 (j + kq = a0.size) ∧ Aside0 (calendar_digits.l0 kq a0 n j = (r1, r2)) ∧ Aside0 (∀ j : Nat, j < a0.size → w'.cell? ⟨g, j, none⟩ = some (.int .u8 (bt a0 j))) ∧ Aside0 (Below w.heap.size w w'))
  case atStart => exact ⟨0, 0, rfl, rfl, ⟨by omega⟩, H', HC, HB⟩
  case round =>
    clear H'
    obtain ⟨n, j, rfl, rfl, HJ, HA, HC, HB⟩ := hrel
    cases gk with
    | zero =>
      have H := HA.out
      simp only [calendar_digits.l0, Prod.mk.injEq] at H
      obtain ⟨rfl, rfl⟩ := H
      have q7 : decide ((j : Int) < (a0.size : Int)) = false := decide_eq_false (by have := HJ.out; omega)
      have q7n : decide (j < a0.size) = false := decide_eq_false (by have := HJ.out; omega)
      go_wp2
      go_ret2
      exact ⟨by first | rfl | (simp; done), by repeat (first | (with_reducible first | exact HB.out | apply below_alloc | apply pw_below_drewN | apply below_drew1) | exact HB.out)⟩
    | succ d =>
      have H := HA.out
      simp only [calendar_digits.l0] at H
      have hj := HJ.out
      have p7 : (0 ≤ (j : Int)) = True := eq_true (by omega)
      have q7 : ((j : Int) < (a0.size : Int)) = True := eq_true (by omega)
      have q7b : decide ((j : Int) < (a0.size : Int)) = true := decide_eq_true (by omega)
      have hx := HC.out j (by omega)
      have hx2 : wr.cell? ⟨g, (j : Int).toNat, none⟩ = some (.int .u8 (bt a0 j)) := by rw [Int.toNat_natCast]; exact hx
      clear hj
      by_cases c1 : bt a0 j < 48
      · rw [if_pos c1] at H
        simp only [Prod.mk.injEq] at H
        obtain ⟨rfl, rfl⟩ := H
        have c1b : decide (bt a0 j < 48) = true := decide_eq_true c1
        go_wp2
        go_ret2
        exact ⟨by first | rfl | (simp; done), by repeat (first | (with_reducible first | exact HB.out | apply below_alloc | apply pw_below_drewN | apply below_drew1) | exact HB.out)⟩
      · rw [if_neg c1] at H
        have c1b : decide (bt a0 j < 48) = false := decide_eq_false c1
        by_cases c2 : bt a0 j > 57
        · rw [if_pos c2] at H
          simp only [Prod.mk.injEq] at H
          obtain ⟨rfl, rfl⟩ := H
          have c2b : decide (57 < bt a0 j) = true := decide_eq_true c2
          go_wp2
          go_ret2
          exact ⟨by first | rfl | (simp; done), by repeat (first | (with_reducible first | exact HB.out | apply below_alloc | apply pw_below_drewN | apply below_drew1) | exact HB.out)⟩
        · rw [if_neg c2] at H
          have c2b : decide (57 < bt a0 j) = false := decide_eq_false c2
          have H' := Aside0.mk H
          clear H
          go_wp2
          go_roundg d
          case measure => omega
          case rel => exact ⟨wrap64 (wrap64 (10 * n) + ((bt a0 j - 48) % 256)), j + 1, (by first | rfl | (congr 2; rw [Int.emod_eq_of_lt (by omega) (by omega)])), (by first | rfl | (show Value.int .i64 (wrap64 ((j : Int) + 1)) = Value.int .i64 (((j + 1 : Nat) : Int)); congr 1; have := HZ.out; have := HJ.out; unfold wrap64; omega)), ⟨by have := HJ.out; omega⟩, H', HC, HB⟩

end Go.Proofs.YtifkobejdldkbaaDoor.PE
