/- script.whole by hand: the whole number that a word writes, or a fault. -/
import Derived.Test.YtjhodgcjkobpoaaGreatDoorYFFields
import Derived.Deep.LoopGhost
import Derived.Lib.OthersKept
import Derived.Laws.RangeAny
import Derived.BigRegion
namespace Go.Proofs.YtjhodgcjkobpoaaGreatDoor.FWhole
open Go.RowKit Go.Proofs.YtjhodgcjkobpoaaGreatDoorW.PrintWords Go.Proofs.YtjhodgcjkobpoaaGreatDoorW.PrintLast Go.Proofs.YtjhodgcjkobpoaaGreatDoorW.PrintMore Go.Proofs.YtjhodgcjkobpoaaGreatDoor.PA Go.Proofs.YtjhodgcjkobpoaaGreatDoor.FTell Go.Proofs.YtjhodgcjkobpoaaGreatDoor.FFields
set_option linter.unusedVariables false
set_option linter.unusedSimpArgs false
/-- Digits one by one behind a number so far. -/
def wrun : List UInt8 → Int → Option Int
  | [], n => some n
  | b :: l, n => if 48 ≤ b.toNat ∧ b.toNat ≤ 57 then wrun l (n * 10 + ((b.toNat : Int) - 48)) else none
def wD (s : ByteArray) : List UInt8 := Lib.trimPrefix s.data.toList [45]
def wM (s : ByteArray) : Bool := Lib.hasPrefix s.data.toList [45]
/-- Is the word's make wrong at the first look? -/
def wBad (D : List UInt8) (m : Bool) : Prop := D = [] ∨ 18 < D.length ∨ (D.headD 0 = 48 ∧ (m = true ∨ 1 < D.length))
instance (D : List UInt8) (m : Bool) : Decidable (wBad D m) := by unfold wBad; infer_instance
/-- The number that a word writes. -/
def wv (s : ByteArray) : Option Int := if wBad (wD s) (wM s) then none else (wrun (wD s) 0).map fun n => if wM s = true then -n else n
def FAULT (g : Nat) : Value := .iface 47 (.pointer (some ⟨g, 0, none⟩))
def errOf (g : Nat) : Option Int → Value
  | none => FAULT g
  | some _ => .nilIface
theorem cut_c (s : ByteArray) (w : World) : Calls Tryz.prog 75 #[.string s, .string ⟨#[45]⟩] w fun e w' => e = .returned (.tuple #[.string ⟨(wD s).toArray⟩, .bool (wM s)]) ∧ w' = w := Tryz.strings_CutPrefix s ⟨#[45]⟩ w
set_option maxHeartbeats 8000000 in
set_option maxRecDepth 100000 in
theorem whole_empty (s ds : ByteArray) (m : Bool) (w : World) (hds : ⟨(wD s).toArray⟩ = ds) (hm : wM s = m) (hv : wv s = none) (hn : ds.toList.isEmpty = true) :
    Calls Tryz.prog 50 #[.string s] w fun e w' => ∃ g, e = .returned (.tuple #[.int .i64 ((wv s).getD 0), errOf g (wv s)]) ∧ w'.heap[g]? = some (.cells #[.int .i64 182] 51 (0, 0)) ∧ w.heap.size ≤ g ∧ Below w.heap.size w w' := by
  have HB := Aside0.mk (Below.refl w.heap.size w)
  have HC := Aside0.mk (cut_c s)
  rw [hds, hm] at HC
  have HDS := Aside0.mk hds
  have HM := Aside0.mk hm
  have HV := Aside0.mk hv
  clear hds hm hv
  clear HDS HM
  go_enter Tryz.func50, Tryz.ntmps50
  go_upto_region 3 with (first | (go_at_call 75; (with_reducible refine (HC.out _).mono ?_); rintro e w1 ⟨rfl, hw1⟩; have hw2 := hw1.symm; subst hw2; (try clear hw1)))
  go_wp2
  go_ret2
  refine ⟨w.heap.size, ?_, blk_new w _, Nat.le_refl _, below_alloc (Below.refl _ _) _⟩
  rw [HV.out]
  rfl
set_option maxHeartbeats 8000000 in
set_option maxRecDepth 100000 in
theorem whole_long (s ds : ByteArray) (m : Bool) (w : World) (hds : ⟨(wD s).toArray⟩ = ds) (hm : wM s = m) (hv : wv s = none) (hn : ds.toList.isEmpty = false) (hl : 18 < ds.size) :
    Calls Tryz.prog 50 #[.string s] w fun e w' => ∃ g, e = .returned (.tuple #[.int .i64 ((wv s).getD 0), errOf g (wv s)]) ∧ w'.heap[g]? = some (.cells #[.int .i64 182] 51 (0, 0)) ∧ w.heap.size ≤ g ∧ Below w.heap.size w w' := by
  have HB := Aside0.mk (Below.refl w.heap.size w)
  have HC := Aside0.mk (cut_c s)
  rw [hds, hm] at HC
  have HDS := Aside0.mk hds
  have HM := Aside0.mk hm
  have HV := Aside0.mk hv
  clear hds hm hv
  have hl1 : decide ((ds.size : Int) > 18) = true := decide_eq_true (by omega)
  have hl2 : decide (18 < (ds.size : Int)) = true := decide_eq_true (by omega)
  clear HDS HM hl
  go_enter Tryz.func50, Tryz.ntmps50
  go_upto_region 3 with (first | (go_at_call 75; (with_reducible refine (HC.out _).mono ?_); rintro e w1 ⟨rfl, hw1⟩; have hw2 := hw1.symm; subst hw2; (try clear hw1)))
  go_wp2
  go_ret2
  refine ⟨w.heap.size, ?_, blk_new w _, Nat.le_refl _, below_alloc (Below.refl _ _) _⟩
  rw [HV.out]
  rfl
set_option maxHeartbeats 8000000 in
set_option maxRecDepth 100000 in
theorem whole_minus0 (s ds : ByteArray) (m : Bool) (w : World) (hds : ⟨(wD s).toArray⟩ = ds) (hm : wM s = m) (hv : wv s = none) (hn : ds.toList.isEmpty = false) (h0 : 0 < ds.size) (hl : ¬ 18 < ds.size) (hz : ((ds[0].toNat : Int) == 48) = true) (hm1 : m = true) :
    Calls Tryz.prog 50 #[.string s] w fun e w' => ∃ g, e = .returned (.tuple #[.int .i64 ((wv s).getD 0), errOf g (wv s)]) ∧ w'.heap[g]? = some (.cells #[.int .i64 182] 51 (0, 0)) ∧ w.heap.size ≤ g ∧ Below w.heap.size w w' := by
  have HB := Aside0.mk (Below.refl w.heap.size w)
  have HC := Aside0.mk (cut_c s)
  rw [hds, hm] at HC
  have HDS := Aside0.mk hds
  have HM := Aside0.mk hm
  have HV := Aside0.mk hv
  clear hds hm hv
  have hl1 : decide ((ds.size : Int) > 18) = false := decide_eq_false (by omega)
  have hl2 : decide (18 < (ds.size : Int)) = false := decide_eq_false (by omega)
  have h00 : (0 : Int) < (ds.size : Int) := by omega
  subst hm1
  clear HDS HM hl
  go_enter Tryz.func50, Tryz.ntmps50
  go_upto_region 3 with (first | (go_at_call 75; (with_reducible refine (HC.out _).mono ?_); rintro e w1 ⟨rfl, hw1⟩; have hw2 := hw1.symm; subst hw2; (try clear hw1)))
  go_wp2
  go_ret2
  refine ⟨w.heap.size, ?_, blk_new w _, Nat.le_refl _, below_alloc (Below.refl _ _) _⟩
  rw [HV.out]
  rfl
set_option maxHeartbeats 8000000 in
set_option maxRecDepth 100000 in
theorem whole_lead0 (s ds : ByteArray) (m : Bool) (w : World) (hds : ⟨(wD s).toArray⟩ = ds) (hm : wM s = m) (hv : wv s = none) (hn : ds.toList.isEmpty = false) (h0 : 0 < ds.size) (hl : ¬ 18 < ds.size) (hz : ((ds[0].toNat : Int) == 48) = true) (hm1 : m = false) (h1 : 1 < ds.size) :
    Calls Tryz.prog 50 #[.string s] w fun e w' => ∃ g, e = .returned (.tuple #[.int .i64 ((wv s).getD 0), errOf g (wv s)]) ∧ w'.heap[g]? = some (.cells #[.int .i64 182] 51 (0, 0)) ∧ w.heap.size ≤ g ∧ Below w.heap.size w w' := by
  have HB := Aside0.mk (Below.refl w.heap.size w)
  have HC := Aside0.mk (cut_c s)
  rw [hds, hm] at HC
  have HDS := Aside0.mk hds
  have HM := Aside0.mk hm
  have HV := Aside0.mk hv
  clear hds hm hv
  have hl1 : decide ((ds.size : Int) > 18) = false := decide_eq_false (by omega)
  have hl2 : decide (18 < (ds.size : Int)) = false := decide_eq_false (by omega)
  have h00 : (0 : Int) < (ds.size : Int) := by omega
  subst hm1
  have h11 : decide (1 < (ds.size : Int)) = true := decide_eq_true (by omega)
  have h12 : decide ((ds.size : Int) > 1) = true := decide_eq_true (by omega)
  clear HDS HM hl h1
  go_enter Tryz.func50, Tryz.ntmps50
  go_upto_region 3 with (first | (go_at_call 75; (with_reducible refine (HC.out _).mono ?_); rintro e w1 ⟨rfl, hw1⟩; have hw2 := hw1.symm; subst hw2; (try clear hw1)))
  go_wp2
  go_ret2
  refine ⟨w.heap.size, ?_, blk_new w _, Nat.le_refl _, below_alloc (Below.refl _ _) _⟩
  rw [HV.out]
  rfl
theorem step_at {ds : ByteArray} {pos : Nat} {x : Int} (hp : pos < ds.size) :
    (if 48 ≤ (ds[pos]'hp).toNat ∧ (ds[pos]'hp).toNat ≤ 57 then wrun (ds.data.toList.drop (pos + 1)) (x * 10 + (((ds[pos]'hp).toNat : Int) - 48)) else none) = wrun (ds.data.toList.drop pos) x := by
  have h : pos < ds.data.toList.length := by rw [Array.length_toList]; exact hp
  rw [List.drop_eq_getElem_cons h]
  rfl
theorem rune_bad {ds : ByteArray} {pos c : Nat} (hp : pos < ds.size) (hd : ¬ (48 ≤ (ds[pos]'hp).toNat ∧ (ds[pos]'hp).toNat ≤ 57)) (hc : c = (Utf8.decode ds pos).1) : c < 48 ∨ 57 < c := by
  by_cases ha : (ds[pos]'hp).toNat < 128
  · rw [decode_ascii ds pos hp ha] at hc
    subst hc
    show (ds[pos]'hp).toNat < 48 ∨ 57 < (ds[pos]'hp).toNat
    omega
  · have := decode_high ds pos hp (by omega)
    omega
theorem pow_le {a b : Nat} (h : a ≤ b) : (10 : Int) ^ a ≤ 10 ^ b := by
  have h1 : (10 : Nat) ^ a ≤ 10 ^ b := Nat.pow_le_pow_right (by omega) h
  exact_mod_cast h1
set_option maxHeartbeats 8000000 in
set_option maxRecDepth 100000 in
theorem whole_go (s ds : ByteArray) (m : Bool) (w : World) (hds : ⟨(wD s).toArray⟩ = ds) (hm : wM s = m) (hv : wv s = (wrun ds.data.toList 0).map fun n => if m = true then -n else n) (hn : ds.toList.isEmpty = false) (h0 : 0 < ds.size) (hl : ¬ 18 < ds.size) (hz : ((ds[0].toNat : Int) == 48) = false) :
    Calls Tryz.prog 50 #[.string s] w fun e w' => ∃ g, e = .returned (.tuple #[.int .i64 ((wv s).getD 0), errOf g (wv s)]) ∧ w'.heap[g]? = some (.cells #[.int .i64 182] 51 (0, 0)) ∧ w.heap.size ≤ g ∧ Below w.heap.size w w' := by
  have HB := Aside0.mk (Below.refl w.heap.size w)
  have HC := Aside0.mk (cut_c s)
  rw [hds, hm] at HC
  have HDS := Aside0.mk hds
  have HM := Aside0.mk hm
  have HV := Aside0.mk hv
  clear hds hm hv
  have hl1 : decide ((ds.size : Int) > 18) = false := decide_eq_false (by omega)
  have hl2 : decide (18 < (ds.size : Int)) = false := decide_eq_false (by omega)
  have h00 : (0 : Int) < (ds.size : Int) := by omega
  have HL := Aside0.mk hl
  clear hl
  go_enter Tryz.func50, Tryz.ntmps50
  go_upto_region 3 with (first | (go_at_call 75; (with_reducible refine (HC.out _).mono ?_); rintro e w1 ⟨rfl, hw1⟩; have hw2 := hw1.symm; subst hw2; (try clear hw1)))
  go_wp2
  go_loopg [7] ds.size (fun kq v7 w' => ∃ (x : Int) (pos : Nat), v7 = .int .i64 x ∧ Aside0 (pos + kq = ds.size) ∧ Aside0 (w'.heap[w.heap.size + 1]? = some (.stringIter ds pos)) ∧ Aside0 (w'.heap[w.heap.size]? = some (.cells #[.int .i64 182] 51 (0, 0))) ∧ Aside0 (Below w.heap.size w w') ∧ Aside0 (0 ≤ x ∧ x < 10 ^ pos) ∧ Aside0 (wrun (ds.data.toList.drop pos) x = wrun ds.data.toList 0))
  case atStart =>
    have e1 := World.iter_heap (w.alloc (.cells #[.int .i64 182] 51 (0, 0))) ds 0
    have e2 : (w.alloc (.cells #[.int .i64 182] 51 (0, 0))).heap.size = w.heap.size + 1 := by simp
    rw [e2] at e1
    refine ⟨0, 0, rfl, ⟨by omega⟩, ⟨e1⟩, ⟨?_⟩, ⟨below_alloc (below_alloc (Below.refl _ _) _) _⟩, ⟨by omega⟩, ⟨rfl⟩⟩
    exact blk_alloc (blk_new w _) _
  case round =>
    obtain ⟨x, pos, rfl, HP, HI, BK, HB, HX, HR⟩ := hrel
    by_cases hp : pos < ds.size
    · have hnx : ∀ ty, (Instr.next (.pointer (some ⟨w.heap.size + 1, 0, none⟩)) true ty).run Tryz.prog wr = _ := fun ty => Lib.run_next_any_at wr (w.heap.size + 1) ds pos ty HI.out hp
      have i1 := Lib.iterAt_heap wr (w.heap.size + 1) ds pos (pos + (Utf8.decode ds pos).2) HI.out
      have i2 := Lib.below_iterAt HB.out (k := w.heap.size + 1) (by omega) ds (pos + (Utf8.decode ds pos).2)
      have i3 := (Lib.iterAt_other wr (w.heap.size + 1) w.heap.size ds (pos + (Utf8.decode ds pos).2) (by omega)).trans BK.out
      obtain ⟨W1, hW1⟩ : ∃ W1, W1 = wr.iterAt (w.heap.size + 1) ds (pos + (Utf8.decode ds pos).2) := ⟨_, rfl⟩
      rw [← hW1] at hnx i1 i2 i3
      clear hW1 HI BK HB
      have BK := Aside0.mk i3
      have HB := Aside0.mk i2
      have HI := Aside0.mk i1
      clear i1 i2 i3
      have HS := Aside0.mk (step_at (x := x) hp)
      rw [HR.out] at HS
      obtain ⟨c, hc⟩ : ∃ c, c = (Utf8.decode ds pos).1 := ⟨_, rfl⟩
      rw [← hc] at hnx
      by_cases hd : 48 ≤ (ds[pos]'hp).toNat ∧ (ds[pos]'hp).toNat ≤ 57
      · have ha := decode_ascii ds pos hp (by omega)
        have hcb : c = (ds[pos]'hp).toNat := by rw [hc, ha]
        have hw1 : (Utf8.decode ds pos).2 = 1 := by rw [ha]
        rw [hw1] at HI
        have HSS := HS.out
        rw [if_pos hd, ← hcb] at HSS
        have HS2 := Aside0.mk HSS
        rw [← hcb] at hd
        obtain ⟨d, hdd⟩ : ∃ d : Int, d = (c : Int) := ⟨_, rfl⟩
        rw [← hdd] at hnx
        rw [← hdd] at HS2
        have q1 : decide (d < 48) = false := decide_eq_false (by omega)
        have q2 : decide (d > 57) = false := decide_eq_false (by omega)
        have q3 : decide (57 < d) = false := decide_eq_false (by omega)
        have hpow : (10 : Int) ^ pos ≤ 10 ^ 17 := pow_le (by have := HL.out; omega)
        have hx0 := HX.out
        have w1 : wrap64 (x * 10) = x * 10 := by unfold wrap64; omega
        have w2 : wrap32 (d - 48) = d - 48 := by unfold wrap32; omega
        have w3 : wrap64 (d - 48) = d - 48 := by unfold wrap64; omega
        have w4 : wrap64 (x * 10 + (d - 48)) = x * 10 + (d - 48) := by unfold wrap64; omega
        have HX2 : Aside0 (0 ≤ x * 10 + (d - 48) ∧ x * 10 + (d - 48) < 10 ^ (pos + 1)) := ⟨by rw [Int.pow_succ]; omega⟩
        have HP2 : Aside0 (pos < ds.size) := ⟨hp⟩
        clear HS HSS ha hcb hw1 hd hdd hpow hx0 hc hp
        go_wp2
        go_roundg (ds.size - (pos + 1))
        case measure => have := HP2.out; have := HP.out; omega
        case rel => exact ⟨x * 10 + (d - 48), pos + 1, (by first | rfl | (rw [w4]; done) | (simp only [w1, w2, w3, w4]; done) | (simp [w1, w2, w3, w4]; done)), ⟨by have := HP2.out; omega⟩, ⟨HI.out⟩, ⟨(by (with_reducible repeat (first | refine blk_drewN ?_ _ | refine blk_drew ?_ | refine blk_alloc ?_ _)); exact BK.out)⟩, ⟨(by repeat (first | (with_reducible first | exact HB.out | apply below_alloc | apply pw_below_drewN | apply below_drew1) | exact HB.out))⟩, HX2, HS2⟩
      · have HSS := HS.out
        rw [if_neg hd] at HSS
        have HV2 : Aside0 (wv s = none) := ⟨by rw [HV.out, ← HSS]; rfl⟩
        have hr : c < 48 ∨ 57 < c := rune_bad hp hd hc
        clear HS HSS hd hc
        obtain ⟨d, hdd⟩ : ∃ d : Int, d = (c : Int) := ⟨_, rfl⟩
        rw [← hdd] at hnx
        by_cases hlow : c < 48
        · have q1 : decide (d < 48) = true := decide_eq_true (by omega)
          clear hr hlow hdd hp
          go_wp2
          go_ret2
          exact ⟨w.heap.size, by rw [HV2.out]; rfl, (by (with_reducible repeat (first | refine blk_drewN ?_ _ | refine blk_drew ?_ | refine blk_alloc ?_ _)); exact BK.out), Nat.le_refl _, (by repeat (first | (with_reducible first | exact HB.out | apply below_alloc | apply pw_below_drewN | apply below_drew1) | exact HB.out))⟩
        · have q1 : decide (d < 48) = false := decide_eq_false (by omega)
          have q2 : decide (d > 57) = true := decide_eq_true (by omega)
          have q3 : decide (57 < d) = true := decide_eq_true (by omega)
          clear hr hlow hdd hp
          go_wp2
          go_ret2
          exact ⟨w.heap.size, by rw [HV2.out]; rfl, (by (with_reducible repeat (first | refine blk_drewN ?_ _ | refine blk_drew ?_ | refine blk_alloc ?_ _)); exact BK.out), Nat.le_refl _, (by repeat (first | (with_reducible first | exact HB.out | apply below_alloc | apply pw_below_drewN | apply below_drew1) | exact HB.out))⟩
    · have hnx : ∀ ty, (Instr.next (.pointer (some ⟨w.heap.size + 1, 0, none⟩)) true ty).run Tryz.prog wr = _ := fun ty => Lib.run_next_end_at wr (w.heap.size + 1) ds pos ty HI.out hp
      have hz : ds.data.toList.drop pos = [] := List.drop_eq_nil_of_le (by rw [Array.length_toList]; exact Nat.le_of_not_lt hp)
      have HR2 := HR.out
      rw [hz] at HR2
      have hv := HV.out
      rw [← HR2] at hv
      have hp17 : (10 : Int) ^ pos ≤ 10 ^ 18 := pow_le (by have := HP.out; have := HL.out; omega)
      have hx0 := HX.out
      have wn : wrap64 (-x) = -x := by unfold wrap64; omega
      cases m with
      | true =>
        have HV2 : Aside0 (wv s = some (-x)) := ⟨hv⟩
        clear hv HR2 hz hp hp17 hx0
        go_wp2
        go_ret2
        exact ⟨w.heap.size, by rw [HV2.out]; rfl, (by (with_reducible repeat (first | refine blk_drewN ?_ _ | refine blk_drew ?_ | refine blk_alloc ?_ _)); exact BK.out), Nat.le_refl _, (by repeat (first | (with_reducible first | exact HB.out | apply below_alloc | apply pw_below_drewN | apply below_drew1) | exact HB.out))⟩
      | false =>
        have HV2 : Aside0 (wv s = some x) := ⟨hv⟩
        clear hv HR2 hz hp hp17 hx0
        go_wp2
        go_ret2
        exact ⟨w.heap.size, by rw [HV2.out]; rfl, (by (with_reducible repeat (first | refine blk_drewN ?_ _ | refine blk_drew ?_ | refine blk_alloc ?_ _)); exact BK.out), Nat.le_refl _, (by repeat (first | (with_reducible first | exact HB.out | apply below_alloc | apply pw_below_drewN | apply below_drew1) | exact HB.out))⟩
set_option maxHeartbeats 8000000 in
set_option maxRecDepth 100000 in
theorem whole_one (s ds : ByteArray) (m : Bool) (w : World) (hds : ⟨(wD s).toArray⟩ = ds) (hm : wM s = m) (hv : wv s = (wrun ds.data.toList 0).map fun n => if m = true then -n else n) (hn : ds.toList.isEmpty = false) (h0 : 0 < ds.size) (hl : ¬ 18 < ds.size) (hz : ((ds[0].toNat : Int) == 48) = true) (hm1 : m = false) (h1 : ds.size = 1) :
    Calls Tryz.prog 50 #[.string s] w fun e w' => ∃ g, e = .returned (.tuple #[.int .i64 ((wv s).getD 0), errOf g (wv s)]) ∧ w'.heap[g]? = some (.cells #[.int .i64 182] 51 (0, 0)) ∧ w.heap.size ≤ g ∧ Below w.heap.size w w' := by
  have HB := Aside0.mk (Below.refl w.heap.size w)
  have HC := Aside0.mk (cut_c s)
  rw [hds, hm] at HC
  have HDS := Aside0.mk hds
  have HM := Aside0.mk hm
  have HV := Aside0.mk hv
  clear hds hm hv
  have hl1 : decide ((ds.size : Int) > 18) = false := decide_eq_false (by omega)
  have hl2 : decide (18 < (ds.size : Int)) = false := decide_eq_false (by omega)
  have h00 : (0 : Int) < (ds.size : Int) := by omega
  have HM1 := Aside0.mk hm1
  have h11 : decide (1 < (ds.size : Int)) = false := decide_eq_false (by omega)
  have h12 : decide ((ds.size : Int) > 1) = false := decide_eq_false (by omega)
  clear h1
  have HL := Aside0.mk hl
  clear hl
  go_enter Tryz.func50, Tryz.ntmps50
  go_upto_region 3 with (first | (go_at_call 75; (with_reducible refine (HC.out _).mono ?_); rintro e w1 ⟨rfl, hw1⟩; have hw2 := hw1.symm; subst hw2; (try clear hw1)))
  go_wp2
  go_loopg [7] ds.size (fun kq v7 w' => ∃ (x : Int) (pos : Nat), v7 = .int .i64 x ∧ Aside0 (pos + kq = ds.size) ∧ Aside0 (w'.heap[w.heap.size + 1]? = some (.stringIter ds pos)) ∧ Aside0 (w'.heap[w.heap.size]? = some (.cells #[.int .i64 182] 51 (0, 0))) ∧ Aside0 (Below w.heap.size w w') ∧ Aside0 (0 ≤ x ∧ x < 10 ^ pos) ∧ Aside0 (wrun (ds.data.toList.drop pos) x = wrun ds.data.toList 0))
  case atStart =>
    have e1 := World.iter_heap (w.alloc (.cells #[.int .i64 182] 51 (0, 0))) ds 0
    have e2 : (w.alloc (.cells #[.int .i64 182] 51 (0, 0))).heap.size = w.heap.size + 1 := by simp
    rw [e2] at e1
    refine ⟨0, 0, rfl, ⟨by omega⟩, ⟨e1⟩, ⟨?_⟩, ⟨below_alloc (below_alloc (Below.refl _ _) _) _⟩, ⟨by omega⟩, ⟨rfl⟩⟩
    exact blk_alloc (blk_new w _) _
  case round =>
    obtain ⟨x, pos, rfl, HP, HI, BK, HB, HX, HR⟩ := hrel
    by_cases hp : pos < ds.size
    · have hnx : ∀ ty, (Instr.next (.pointer (some ⟨w.heap.size + 1, 0, none⟩)) true ty).run Tryz.prog wr = _ := fun ty => Lib.run_next_any_at wr (w.heap.size + 1) ds pos ty HI.out hp
      have i1 := Lib.iterAt_heap wr (w.heap.size + 1) ds pos (pos + (Utf8.decode ds pos).2) HI.out
      have i2 := Lib.below_iterAt HB.out (k := w.heap.size + 1) (by omega) ds (pos + (Utf8.decode ds pos).2)
      have i3 := (Lib.iterAt_other wr (w.heap.size + 1) w.heap.size ds (pos + (Utf8.decode ds pos).2) (by omega)).trans BK.out
      obtain ⟨W1, hW1⟩ : ∃ W1, W1 = wr.iterAt (w.heap.size + 1) ds (pos + (Utf8.decode ds pos).2) := ⟨_, rfl⟩
      rw [← hW1] at hnx i1 i2 i3
      clear hW1 HI BK HB
      have BK := Aside0.mk i3
      have HB := Aside0.mk i2
      have HI := Aside0.mk i1
      clear i1 i2 i3
      have HS := Aside0.mk (step_at (x := x) hp)
      rw [HR.out] at HS
      obtain ⟨c, hc⟩ : ∃ c, c = (Utf8.decode ds pos).1 := ⟨_, rfl⟩
      rw [← hc] at hnx
      by_cases hd : 48 ≤ (ds[pos]'hp).toNat ∧ (ds[pos]'hp).toNat ≤ 57
      · have ha := decode_ascii ds pos hp (by omega)
        have hcb : c = (ds[pos]'hp).toNat := by rw [hc, ha]
        have hw1 : (Utf8.decode ds pos).2 = 1 := by rw [ha]
        rw [hw1] at HI
        have HSS := HS.out
        rw [if_pos hd, ← hcb] at HSS
        have HS2 := Aside0.mk HSS
        rw [← hcb] at hd
        obtain ⟨d, hdd⟩ : ∃ d : Int, d = (c : Int) := ⟨_, rfl⟩
        rw [← hdd] at hnx
        rw [← hdd] at HS2
        have q1 : decide (d < 48) = false := decide_eq_false (by omega)
        have q2 : decide (d > 57) = false := decide_eq_false (by omega)
        have q3 : decide (57 < d) = false := decide_eq_false (by omega)
        have hpow : (10 : Int) ^ pos ≤ 10 ^ 17 := pow_le (by have := HL.out; omega)
        have hx0 := HX.out
        have w1 : wrap64 (x * 10) = x * 10 := by unfold wrap64; omega
        have w2 : wrap32 (d - 48) = d - 48 := by unfold wrap32; omega
        have w3 : wrap64 (d - 48) = d - 48 := by unfold wrap64; omega
        have w4 : wrap64 (x * 10 + (d - 48)) = x * 10 + (d - 48) := by unfold wrap64; omega
        have HX2 : Aside0 (0 ≤ x * 10 + (d - 48) ∧ x * 10 + (d - 48) < 10 ^ (pos + 1)) := ⟨by rw [Int.pow_succ]; omega⟩
        have HP2 : Aside0 (pos < ds.size) := ⟨hp⟩
        clear HS HSS ha hcb hw1 hd hdd hpow hx0 hc hp
        go_wp2
        go_roundg (ds.size - (pos + 1))
        case measure => have := HP2.out; have := HP.out; omega
        case rel => exact ⟨x * 10 + (d - 48), pos + 1, (by first | rfl | (rw [w4]; done) | (simp only [w1, w2, w3, w4]; done) | (simp [w1, w2, w3, w4]; done)), ⟨by have := HP2.out; omega⟩, ⟨HI.out⟩, ⟨(by (with_reducible repeat (first | refine blk_drewN ?_ _ | refine blk_drew ?_ | refine blk_alloc ?_ _)); exact BK.out)⟩, ⟨(by repeat (first | (with_reducible first | exact HB.out | apply below_alloc | apply pw_below_drewN | apply below_drew1) | exact HB.out))⟩, HX2, HS2⟩
      · have HSS := HS.out
        rw [if_neg hd] at HSS
        have HV2 : Aside0 (wv s = none) := ⟨by rw [HV.out, ← HSS]; rfl⟩
        have hr : c < 48 ∨ 57 < c := rune_bad hp hd hc
        clear HS HSS hd hc
        obtain ⟨d, hdd⟩ : ∃ d : Int, d = (c : Int) := ⟨_, rfl⟩
        rw [← hdd] at hnx
        by_cases hlow : c < 48
        · have q1 : decide (d < 48) = true := decide_eq_true (by omega)
          clear hr hlow hdd hp
          go_wp2
          go_ret2
          exact ⟨w.heap.size, by rw [HV2.out]; rfl, (by (with_reducible repeat (first | refine blk_drewN ?_ _ | refine blk_drew ?_ | refine blk_alloc ?_ _)); exact BK.out), Nat.le_refl _, (by repeat (first | (with_reducible first | exact HB.out | apply below_alloc | apply pw_below_drewN | apply below_drew1) | exact HB.out))⟩
        · have q1 : decide (d < 48) = false := decide_eq_false (by omega)
          have q2 : decide (d > 57) = true := decide_eq_true (by omega)
          have q3 : decide (57 < d) = true := decide_eq_true (by omega)
          clear hr hlow hdd hp
          go_wp2
          go_ret2
          exact ⟨w.heap.size, by rw [HV2.out]; rfl, (by (with_reducible repeat (first | refine blk_drewN ?_ _ | refine blk_drew ?_ | refine blk_alloc ?_ _)); exact BK.out), Nat.le_refl _, (by repeat (first | (with_reducible first | exact HB.out | apply below_alloc | apply pw_below_drewN | apply below_drew1) | exact HB.out))⟩
    · have hnx : ∀ ty, (Instr.next (.pointer (some ⟨w.heap.size + 1, 0, none⟩)) true ty).run Tryz.prog wr = _ := fun ty => Lib.run_next_end_at wr (w.heap.size + 1) ds pos ty HI.out hp
      have hz : ds.data.toList.drop pos = [] := List.drop_eq_nil_of_le (by rw [Array.length_toList]; exact Nat.le_of_not_lt hp)
      have HR2 := HR.out
      rw [hz] at HR2
      have hv := HV.out
      rw [← HR2] at hv
      have hp17 : (10 : Int) ^ pos ≤ 10 ^ 18 := pow_le (by have := HP.out; have := HL.out; omega)
      have hx0 := HX.out
      have wn : wrap64 (-x) = -x := by unfold wrap64; omega
      have hm2 := HM1.out
      cases m with
      | true => cases hm2
      | false =>
        have HV2 : Aside0 (wv s = some x) := ⟨hv⟩
        clear hv HR2 hz hp hp17 hx0
        go_wp2
        go_ret2
        exact ⟨w.heap.size, by rw [HV2.out]; rfl, (by (with_reducible repeat (first | refine blk_drewN ?_ _ | refine blk_drew ?_ | refine blk_alloc ?_ _)); exact BK.out), Nat.le_refl _, (by repeat (first | (with_reducible first | exact HB.out | apply below_alloc | apply pw_below_drewN | apply below_drew1) | exact HB.out))⟩
theorem whole_c (s : ByteArray) (w : World) : Calls Tryz.prog 50 #[.string s] w fun e w' => ∃ g, e = .returned (.tuple #[.int .i64 ((wv s).getD 0), errOf g (wv s)]) ∧ w'.heap[g]? = some (.cells #[.int .i64 182] 51 (0, 0)) ∧ w.heap.size ≤ g ∧ Below w.heap.size w w' := by
  obtain ⟨ds, hds⟩ : ∃ ds : ByteArray, ⟨(wD s).toArray⟩ = ds := ⟨_, rfl⟩
  obtain ⟨m, hm⟩ : ∃ m, wM s = m := ⟨_, rfl⟩
  have hD : ds.data.toList = wD s := by subst hds; rfl
  have hsz : ds.size = (wD s).length := by rw [← hD, Array.length_toList]; rfl
  have hem : ds.toList = wD s := by rw [ByteArray.toList_eq, hD]
  have hw : wv s = if wBad (wD s) m then none else (wrun ds.data.toList 0).map fun n => if m = true then -n else n := by unfold wv; rw [hm, hD]
  by_cases c0 : wD s = []
  · exact whole_empty s ds m w hds hm (by rw [hw, if_pos (.inl c0)]) (by rw [hem, c0]; rfl)
  have hn : ds.toList.isEmpty = false := by rw [hem]; exact Bool.eq_false_iff.2 (fun h => c0 (List.isEmpty_iff.1 h))
  have h0 : 0 < ds.size := by rw [hsz]; exact List.length_pos_iff.2 c0
  by_cases c1 : 18 < ds.size
  · exact whole_long s ds m w hds hm (by rw [hw, if_pos (.inr (.inl (by omega)))]) hn c1
  have hb0 : (wD s).headD 0 = ds[0]'h0 := by
    have h : 0 < ds.data.toList.length := by rw [Array.length_toList]; exact h0
    rw [← hD]
    cases hl : ds.data.toList with
    | nil => rw [hl] at h; cases h
    | cons b l =>
      show b = ds.data[0]
      rw [← Array.getElem_toList]
      simp [hl]
  by_cases c2 : (ds[0]'h0).toNat = 48
  · have hz : (((ds[0]'h0).toNat : Int) == 48) = true := beq_iff_eq.2 (by omega)
    have hh : (wD s).headD 0 = 48 := by rw [hb0]; exact UInt8.toNat_inj.1 c2
    cases m with
    | true => exact whole_minus0 s ds true w hds hm (by rw [hw, if_pos (.inr (.inr ⟨hh, .inl rfl⟩))]) hn h0 c1 hz rfl
    | false =>
      by_cases c3 : 1 < ds.size
      · exact whole_lead0 s ds false w hds hm (by rw [hw, if_pos (.inr (.inr ⟨hh, .inr (by omega)⟩))]) hn h0 c1 hz rfl c3
      · exact whole_one s ds false w hds hm (by
          rw [hw, if_neg]
          rintro (h | h | ⟨_, h | h⟩)
          · exact c0 h
          · omega
          · cases h
          · omega) hn h0 c1 hz rfl (by omega)
  · have hz : (((ds[0]'h0).toNat : Int) == 48) = false := beq_eq_false_iff_ne.2 (by omega)
    exact whole_go s ds m w hds hm (by
      rw [hw, if_neg]
      rintro (h | h | ⟨h, _⟩)
      · exact c0 h
      · omega
      · rw [hb0] at h
        exact c2 (by rw [h]; rfl)) hn h0 c1 hz
end Go.Proofs.YtjhodgcjkobpoaaGreatDoor.FWhole
