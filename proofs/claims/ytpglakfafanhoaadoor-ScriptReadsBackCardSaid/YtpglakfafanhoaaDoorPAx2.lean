-- Laid by wip/myprint.py, a driver over the kit's print, for this claim: a lemma's text, not read by a person.
import Derived.Shelf.Strings.Builder1
import Derived.Test.YtpglakfafanhoaaDoorPAx0
namespace Go.Proofs.YtpglakfafanhoaaDoor.PA
open Go.RowKit Go.Proofs.YtpglakfafanhoaaDoorW.PrintWords Go.Proofs.YtpglakfafanhoaaDoorW.PrintLast Go.Proofs.YtpglakfafanhoaaDoorW.PrintMore
attribute [local go_sem] max2_int min2_int max_two min_two max_three min_three max_four min_four   -- for this text's walks alone
set_option linter.unusedVariables false
set_option linter.unusedSimpArgs false

/-! ### script_Show: function 6 -/
-- ALONE
open Go.Shelf in
def Tryd.laysWS_ren : Go.Shelf.Ren := ⟨fun | 166 => 10 | 240 => 16 | 276 => 19 | n => n, fun | 0 => 0 | 3 => 3 | 4 => 4 | 9 => 9 | 20 => 20 | 37 => 34 | 70 => 33 | 72 => 36 | 75 => 38 | 80 => 43 | 164 => 46 | 5 => 5 | n => n, fun | n => n⟩
open Go.Shelf in
theorem Tryd.lays166 : Go.Proofs.Lays.n166 Tryd.prog Tryd.laysWS_ren := {
  mixed := by kernel_rfl
  f166 := Tryd.func10.trans (congrArg some (by kernel_rfl))
  f240 := Tryd.func16.trans (congrArg some (by kernel_rfl))
  f276 := Tryd.func19.trans (congrArg some (by kernel_rfl))
  t0 := Tryd.underlying0
  a0 := Tryd.isAgg0
  z0 := Tryd.sizeOf0
  v0 := Tryd.zeroValue0
  t3 := Tryd.underlying3
  a3 := Tryd.isAgg3
  z3 := Tryd.sizeOf3
  v3 := Tryd.zeroValue3
  t4 := Tryd.underlying4
  a4 := Tryd.isAgg4
  z4 := Tryd.sizeOf4
  v4 := Tryd.zeroValue4
  t9 := Tryd.underlying9
  a9 := Tryd.isAgg9
  z9 := Tryd.sizeOf9
  v9 := Tryd.zeroValue9
  t20 := Tryd.underlying20
  a20 := Tryd.isAgg20
  z20 := Tryd.sizeOf20
  v20 := Tryd.zeroValue20
  t37 := Tryd.underlying34
  a37 := Tryd.isAgg34
  z37 := Tryd.sizeOf34
  v37 := Tryd.zeroValue34
  t70 := Tryd.underlying33
  a70 := Tryd.isAgg33
  z70 := Tryd.sizeOf33
  v70 := Tryd.zeroValue33
  t72 := Tryd.underlying36
  a72 := Tryd.isAgg36
  z72 := Tryd.sizeOf36
  v72 := Tryd.zeroValue36
  t75 := Tryd.underlying38
  a75 := Tryd.isAgg38
  z75 := Tryd.sizeOf38
  v75 := Tryd.zeroValue38
  t164 := Tryd.underlying46
  a164 := Tryd.isAgg46
  z164 := Tryd.sizeOf46
  v164 := Tryd.zeroValue46 }
open Go.Shelf in
theorem Tryd.Builder_Extra_WS : Builder.Extra Tryd.prog Tryd.laysWS_ren := {
  sizeBuilder := by kernel_rfl
  liesBuilder := by kernel_rfl
  t5 := Tryd.underlying5
  a5 := Tryd.isAgg5
  z5 := Tryd.sizeOf5
  v5 := Tryd.zeroValue5
  infoByte := by kernel_rfl
  cellsByte := by kernel_rfl
  sizeByte := by kernel_rfl
  neB5 := by decide }
/-- The bytes as numbers. -/
def bnum (l : List UInt8) : List Int := l.map fun c => (c.toNat : Int)
theorem bnum_len (l : List UInt8) : (bnum l).length = l.length := List.length_map ..
theorem encs_bnum (l : List UInt8) : encs (Value.int .u8) (bnum l) = Lib.byteCells l := by
  simp [encs, bnum, Lib.byteCells, Function.comp_def]
theorem str_cells (s : ByteArray) : Lib.strCells s = Lib.byteCells s.data.toList := by
  simp [Lib.strCells, Lib.byteCells]
/-- A builder at block b that holds these bytes; nothing else is known of it. -/
def BuAt (w : World) (b : Nat) (l : List UInt8) : Prop := ∃ p v, (p = .pointer none ∨ p = .pointer (some ⟨b, 0, none⟩)) ∧ w.heap[b]? = some (.cells #[p, v] 36 (0, 0)) ∧ (Kd.int .u8).R 5 w b (fun _ => True) v (bnum l) ∧ v.ownBlock ≠ some b
theorem BuAt.below {w w1 : World} {b : Nat} {l : List UInt8} (h : BuAt w b l) (hb : Below w.heap.size w w1) : BuAt w1 b l := by
  obtain ⟨p, v, hp, h1, h2, h3⟩ := h
  exact ⟨p, v, hp, blk_below h1 hb, Kd.R_below h2 hb, h3⟩
theorem BuAt.lt {w : World} {b : Nat} {l : List UInt8} (h : BuAt w b l) : b < w.heap.size := by
  obtain ⟨p, v, hp, h1, _⟩ := h
  exact blk_lt h1
theorem BuAt.is {w : World} {b : Nat} {l : List UInt8} (h : BuAt w b l) : Lib.IsBuilder 36 5 b b (Lib.byteCells l) w := by
  obtain ⟨p, v, hp, h1, h2, h3⟩ := h
  have ho := Kd.own_of_R h2
  rw [encs_bnum, bnum_len] at ho
  have hl : (Lib.byteCells l).length = l.length := by simp [Lib.byteCells]
  rw [← hl] at ho
  rcases hp with rfl | rfl
  · exact .inl ⟨Nat.le_refl _, v, h1, ho, h3⟩
  · exact .inr ⟨Nat.le_refl _, v, h1, ho, h3⟩
theorem BuAt.of {w : World} {b : Nat} {l : List UInt8} (h : Lib.BuilderAt 36 5 b b (.pointer (some ⟨b, 0, none⟩)) (Lib.byteCells l) w) : BuAt w b l := by
  obtain ⟨_, v, h1, h2, h3⟩ := h
  refine ⟨_, v, .inr rfl, h1, Kd.R_of_own ?_ (fun _ _ => trivial), h3⟩
  have hl : (Lib.byteCells l).length = l.length := by simp [Lib.byteCells]
  rw [encs_bnum, bnum_len, ← hl]
  exact h2
theorem BuAt.fresh {w : World} {b : Nat} (h : w.heap[b]? = some (.cells #[.pointer none, .slice none 0 0] 36 (0, 0))) : BuAt w b [] :=
  ⟨_, _, .inl rfl, h, Kd.R_nil _ _ _ _ _, by simp [Value.ownBlock]⟩
theorem bu_write {w : World} {b : Nat} {l : List UInt8} {s : ByteArray} (h : BuAt w b l) (hl : l.length + s.size ≤ 140737488355328) :
    Calls Tryd.prog 10 #[.pointer (some ⟨b, 0, none⟩), .string s] w fun e w' => e = .returned (.tuple #[.int .i64 s.size, .nilIface]) ∧ BuAt w' b (l ++ s.data.toList) ∧ Below b w w' := by
  have hn : (Lib.byteCells l).length + s.size ≤ 140737488355328 := by simpa [Lib.byteCells] using hl
  refine (Any.Builder_WriteString Tryd.lays166 Tryd.Builder_Extra_WS b b (Lib.byteCells l) s w h.is hn (Nat.le_of_lt h.lt)).mono ?_
  rintro e w' ⟨he, hb, hbel⟩
  refine ⟨he, BuAt.of ?_, hbel⟩
  rw [str_cells] at hb
  rw [show Lib.byteCells (l ++ s.data.toList) = Lib.byteCells l ++ Lib.byteCells s.data.toList by simp [Lib.byteCells]]
  exact hb
theorem bu_string {w : World} {b : Nat} {l : List UInt8} (h : BuAt w b l) :
    Calls Tryd.prog 14 #[.pointer (some ⟨b, 0, none⟩)] w fun e w' => e = .returned (.string ⟨l.toArray⟩) ∧ Below b w w' := Tryd.Builder_String_any b b l w h.is (Nat.le_of_lt h.lt)
theorem bu_reset {w : World} {b : Nat} {l : List UInt8} (h : BuAt w b l) :
    Calls Tryd.prog 11 #[.pointer (some ⟨b, 0, none⟩)] w fun e w' => e = .returned (.tuple #[]) ∧ BuAt w' b [] ∧ Below b w w' := by
  obtain ⟨p, v, _, h1, _, _⟩ := h
  have hc0 := blk_cell h1 0
  have hc1 := blk_cell h1 1
  have hf0 := blk_frozen h1 0
  have hf1 := blk_frozen h1 1
  have hu36 := Tryd.underlying36
  go_enter Tryd.func11, Tryd.ntmps11
  go_wp2
  refine bodyPost_end (v := .tuple #[]) (results_none rfl _ _ _) rfl ?_
  refine ⟨rfl, BuAt.fresh (blk_put (cs' := #[.pointer none, .slice none 0 0]) (blk_put (cs' := #[.pointer none, v]) h1 0 (.pointer none) rfl) 1 (.slice none 0 0) rfl), ?_⟩
  exact Below.setCell (p := ⟨b, 1, none⟩) (Below.setCell (p := ⟨b, 0, none⟩) (Below.refl b w) (Nat.le_refl b) _) (Nat.le_refl b) _
theorem infoNum : (Tryd.prog.info? 2).map (fun i => (i.zero, i.size, i.bytes)) = some (some (.int .i64 0), 1, 8) := by kernel_rfl
theorem grow_below {w : World} {k : Nat} {os : Array Obj} : Below w.heap.size w (Go.Sort.grow (w.drewN k) os) := ⟨rfl, rfl, rfl, by simp [Go.Sort.grow], fun i hi => by simp [Go.Sort.grow, Array.getElem?_append, hi]⟩
theorem fmt_call (n : Int) (h0 : -9223372036854775808 ≤ n) (h1 : n ≤ 9223372036854775807) (t : ByteArray) (ht : t = ⟨(Lib.itoa n).toArray⟩) (w : World) (hp : PowAt w) :
    Calls Tryd.prog 13 #[.int .i64 n, .int .i64 10] w fun e w' => e = .returned (.string t) ∧ Below w.heap.size w w' := by
  subst ht
  refine (Tryd.strconv_FormatInt_10 n h0 h1 w (PowAt_tab hp)).mono ?_
  rintro e w' ⟨he, k, os, rfl⟩
  exact ⟨he, grow_below⟩
theorem itoa_call (n : Int) (h0 : -9223372036854775808 ≤ n) (h1 : n ≤ 9223372036854775807) (t : ByteArray) (ht : t = ⟨(Lib.itoa n).toArray⟩) (w : World) (hp : PowAt w) :
    Calls Tryd.prog 12 #[.int .i64 n] w fun e w' => e = .returned (.string t) ∧ Below w.heap.size w w' := by
  subst ht
  refine (Tryd.strconv_Itoa n h0 h1 w (PowAt_tab hp)).mono ?_
  rintro e w' ⟨he, k, os, rfl⟩
  exact ⟨he, grow_below⟩
theorem nd_short : ∀ (d u : Nat), u < 10 ^ d → 1 ≤ d → Lib.nDigits u ≤ d
  | 0, _, _, h => absurd h (by omega)
  | d + 1, u, h, _ => by
    by_cases c : u < 10
    · rw [Lib.nDigits_small c]; omega
    · rw [Lib.nDigits_big c]
      rcases Nat.eq_zero_or_pos d with rfl | hd
      · exact absurd h (by simpa using c)
      · have h2 : u / 10 < 10 ^ d := by
          rw [Nat.pow_succ] at h
          generalize 10 ^ d = q at h ⊢
          omega
        have := nd_short d (u / 10) h2 hd
        omega
theorem itoa_len (n : Int) (h0 : -9223372036854775808 ≤ n) (h1 : n ≤ 9223372036854775807) : (Lib.itoa n).length ≤ 20 := by
  unfold Lib.itoa
  split
  · have := nd_short 19 n.natAbs (by omega) (by omega)
    rw [List.length_cons, Lib.decDigits_length]
    omega
  · have := nd_short 19 n.toNat (by omega) (by omega)
    rw [Lib.decDigits_length]
    omega
/-- The numbers of a reply, each with a blank ahead. -/
def tailB : List Int → List UInt8
  | [] => []
  | x :: l => 32 :: (Lib.itoa x ++ tailB l)
theorem tailB_snoc (l : List Int) (x : Int) : tailB (l ++ [x]) = tailB l ++ 32 :: Lib.itoa x := by
  induction l with
  | nil => simp [tailB]
  | cons a l ih =>
    show 32 :: (Lib.itoa a ++ tailB (l ++ [x])) = (32 :: (Lib.itoa a ++ tailB l)) ++ 32 :: Lib.itoa x
    rw [ih]
    simp
theorem tailB_len (l : List Int) (h : ∀ x ∈ l, -9223372036854775808 ≤ x ∧ x ≤ 9223372036854775807) : (tailB l).length ≤ 21 * l.length := by
  induction l with
  | nil => exact Nat.le_refl _
  | cons a l ih =>
    have h1 := ih (fun x hx => h x (by simp [hx]))
    have h2 := itoa_len a (h a (by simp)).1 (h a (by simp)).2
    simp only [tailB, List.length_cons, List.length_append]
    omega
def headB (a : Int) : List UInt8 := if a = 0 then [111, 107] else [101, 114, 114, 111, 114, 32] ++ Lib.itoa a
theorem rd_take {l : List Int} {x : Int} (h0 : 0 ≤ x) (h1 : x < l.length) : l.take (x + 1).toNat = l.take x.toNat ++ [rd l x] := by
  have e : (x + 1).toNat = x.toNat + 1 := by omega
  have h : x.toNat < l.length := by omega
  rw [e, List.take_succ_eq_append_getElem h]
  unfold rd
  rw [List.getD_eq_getElem?_getD, List.getElem?_eq_getElem h]
  rfl
theorem rd_in {l : List Int} {x : Int} (h0 : 0 ≤ x) (h1 : x < l.length) : rd l x ∈ l := by
  have h : x.toNat < l.length := by omega
  unfold rd
  rw [List.getD_eq_getElem?_getD, List.getElem?_eq_getElem h]
  exact List.getElem_mem h
def script_Show.f (a0 : Int) (l : List Int) : Option ByteArray := if (-9223372036854775808 ≤ a0 ∧ a0 ≤ 9223372036854775807) ∧ (∀ x ∈ l, -9223372036854775808 ≤ x ∧ x ≤ 9223372036854775807) ∧ l.length ≤ 300000 then some ⟨(headB a0 ++ tailB l).toArray⟩ else none
theorem tail_bound {a0 : Int} {l : List Int} (hg : (-9223372036854775808 ≤ a0 ∧ a0 ≤ 9223372036854775807) ∧ (∀ x ∈ l, -9223372036854775808 ≤ x ∧ x ≤ 9223372036854775807) ∧ l.length ≤ 300000) (i : Nat) : (headB a0 ++ tailB (l.take i)).length ≤ 6400000 := by
  have h1 := tailB_len (l.take i) (fun x hx => hg.2.1 x (List.mem_of_mem_take hx))
  have h2 : (l.take i).length ≤ l.length := List.length_take_le' _ _
  have h3 := itoa_len a0 hg.1.1 hg.1.2
  have h4 : (headB a0).length ≤ 26 := by
    unfold headB
    split
    · decide
    · rw [List.length_append]
      simp only [List.length_cons, List.length_nil]
      omega
  have h5 := hg.2.2
  rw [List.length_append]
  omega
theorem itoa_size (n : Int) (h0 : -9223372036854775808 ≤ n) (h1 : n ≤ 9223372036854775807) : (⟨(Lib.itoa n).toArray⟩ : ByteArray).size ≤ 20 := by
  show (Lib.itoa n).toArray.size ≤ 20
  rw [List.size_toArray]
  exact itoa_len n h0 h1
theorem blank_data (t : List UInt8) : ((⟨#[32]⟩ : ByteArray) ++ (⟨t.toArray⟩ : ByteArray)).data.toList = 32 :: t := by
  rw [ByteArray.data_append]
  simp
theorem error_data (t : List UInt8) : ((⟨#[101, 114, 114, 111, 114, 32]⟩ : ByteArray) ++ (⟨t.toArray⟩ : ByteArray)).data.toList = [101, 114, 114, 111, 114, 32] ++ t := by
  rw [ByteArray.data_append]
  simp
theorem BuAt.le {w : World} {b : Nat} {l : List UInt8} (h : BuAt w b l) : b ≤ w.heap.size := Nat.le_of_lt h.lt
theorem below_of {B b : Nat} {w W W' : World} (h : Below B w W) (hb : B ≤ b) (_hs : b ≤ W.heap.size) (k : Below b W W') : Below B w W' :=
  h.trans (k.mono hb)
set_option maxHeartbeats 8000000 in
set_option maxRecDepth 100000 in
theorem script_Show.calls (a0 : Int) (A1 : Option Addr) (c1 : Nat) (l1 : List Int) (r : ByteArray) (w : World) (hr0 : Kd.C (Kd.int .i64) w A1 l1.length l1) (hc0 : l1.length ≤ c1) (hrP : PowAt w) (h : script_Show.f a0 l1 = some r) :
    Calls Tryd.prog 6 #[.agg #[.int .i64 a0, .slice A1 l1.length c1]] w fun e w' => e = .returned (.string r) ∧ Below w.heap.size w w' := by
  unfold script_Show.f at h
  by_cases hg : (-9223372036854775808 ≤ a0 ∧ a0 ≤ 9223372036854775807) ∧ (∀ x ∈ l1, -9223372036854775808 ≤ x ∧ x ≤ 9223372036854775807) ∧ l1.length ≤ 300000
  case neg => rw [if_neg hg] at h; cases h
  rw [if_pos hg] at h
  obtain rfl := Option.some.inj h
  have HR := Aside0.mk hr0
  have HG := Aside0.mk hg
  have HP := Aside0.mk hrP
  clear h hr0 hg hrP
  have hu25 := Tryd.underlying25
  have hu36 := Tryd.underlying36
  have HB := Aside0.mk (Below.refl w.heap.size w)
  by_cases ha : a0 = 0
  · have b0 : (a0 == 0) = true := beq_iff_eq.2 ha
    have b1 : (a0 != 0) = false := bne_eq_false_iff_eq.2 ha
    have HA := Aside0.mk (show headB a0 = [111, 107] from if_pos ha)
    clear ha
    go_enter Tryd.func6, Tryd.ntmps6
    go_wp2_with (first | ((with_reducible refine gate_dst (N := 1) rfl ?_); refine box_event ?hg (N := 1) ?hd (cs := #[.int .i64 a0, .slice A1 l1.length c1]) (t := 25) ?hr ?_; (case hd => rfl); (case hg => rfl); (case hr => first | (go_simp; done) | (go_simp; rfl)); intro gb hg w3 hbox hb; have n0_ := Aside0.mk (below_step (by repeat (first | (with_reducible first | exact HB.out | apply below_alloc | apply pw_below_drewN | apply below_drew1) | exact HB.out)) hb); have n1_ := Aside0.mk hbox; clear HB; have HB := n0_; have BK := n1_; clear n0_ n1_ hb hbox hg) | ((with_reducible refine gate_dst (N := 3) rfl ?_); refine box_event ?hg (N := 3) ?hd (cs := #[.pointer none, .slice none 0 0]) (t := 36) ?hr ?_; (case hd => rfl); (case hg => rfl); (case hr => first | (go_simp; done) | (go_simp; rfl)); intro gu hg w4 hbox hb; have n0_ := Aside0.mk (below_step (by repeat (first | (with_reducible first | exact HB.out | apply below_alloc | apply pw_below_drewN | apply below_drew1) | exact HB.out)) hb); have n1_ := Aside0.mk (BuAt.fresh hbox); have n2_ := Aside0.mk (hg ▸ blk_lt (by (with_reducible repeat (first | refine blk_drewN ?_ _ | refine blk_drew ?_ | refine blk_alloc ?_ _)); exact BK.out) : gb < gu); have n3_ := Aside0.mk (blk_below (by (with_reducible repeat (first | refine blk_drewN ?_ _ | refine blk_drew ?_ | refine blk_alloc ?_ _)); exact BK.out) hb); have n4_ := Aside0.mk (hg ▸ below_size (by repeat (first | (with_reducible first | exact HB.out | apply below_alloc | apply pw_below_drewN | apply below_drew1) | exact HB.out)) : w.heap.size ≤ gu); clear HB BK; have HB := n0_; have HU := n1_; have GU := n2_; have BK := n3_; have GE := n4_; clear n0_ n1_ n2_ n3_ n4_ hb hbox hg; have hcz_0 : w4.cell? ⟨gb, 0, none⟩ = some (.int .i64 a0) := (blk_cell BK.out 0).trans rfl; have hcz_1 : w4.cell? ⟨gb, 1, none⟩ = some (.slice A1 l1.length c1) := (blk_cell BK.out 1).trans rfl; have hfz_0 := blk_frozen BK.out 0; have hfz_1 := blk_frozen BK.out 1) | (go_at_call 10; ((with_reducible refine (bu_write (s := ⟨#[111, 107]⟩) HU.out (by decide)).mono ?_); rintro e w5 ⟨rfl, hbu, hb⟩); have n0_ := Aside0.mk (below_of (by repeat (first | (with_reducible first | exact HB.out | apply below_alloc | apply pw_below_drewN | apply below_drew1) | exact HB.out)) GE.out (BuAt.le HU.out) hb); have n1_ := Aside0.mk hbu; have n3_ := Aside0.mk ((hb.block gb GU.out).trans (by (with_reducible repeat (first | refine blk_drewN ?_ _ | refine blk_drew ?_ | refine blk_alloc ?_ _)); exact BK.out)); clear HB HU BK; (try clear hcz_0 hcz_1 hfz_0 hfz_1); have HB := n0_; have HU := n1_; have BK := n3_; clear n0_ n1_ n3_ hb hbu; have hcz_0 : w5.cell? ⟨gb, 0, none⟩ = some (.int .i64 a0) := (blk_cell BK.out 0).trans rfl; have hcz_1 : w5.cell? ⟨gb, 1, none⟩ = some (.slice A1 l1.length c1) := (blk_cell BK.out 1).trans rfl; have hfz_0 := blk_frozen BK.out 0; have hfz_1 := blk_frozen BK.out 1))
    go_loopg [19] l1.length (fun kq v19 w' => ∃ x : Int, v19 = .int .i64 x ∧ Aside0 (0 ≤ x) ∧ Aside0 (x + kq = l1.length) ∧ Aside0 (BuAt w' gu (headB a0 ++ tailB (l1.take x.toNat))) ∧ Aside0 (Below w.heap.size w w'))
    case atStart => exact ⟨0, rfl, ⟨Int.le_refl _⟩, ⟨by omega⟩, ⟨by rw [HA.out]; simpa [tailB] using HU.out⟩, HB⟩
    case round =>
      obtain ⟨x, rfl, HX0, HX1, HU, HB⟩ := hrel
      by_cases hx : x < l1.length
      · have hx0 := HX0.out
        obtain ⟨ad, ea, hc⟩ := Kd.at_int HR.out x hx0 hx
        subst ea
        replace hc := (HB.out.cell (World.block_lt_of_cell? w _ hc)).trans hc
        have hm := rd_in hx0 hx
        have hm' := HG.out.2.1 _ hm
        have HM := Aside0.mk hm'
        have HT := Aside0.mk (rd_take hx0 hx)
        have z0 : (l1.length ≤ 300000) = True := eq_true HG.out.2.2
        have hsz : (9223372036854775807 < 1 + (⟨(Lib.itoa (rd l1 x)).toArray⟩ : ByteArray).size) = False := eq_false (by have := itoa_size (rd l1 x) hm'.1 hm'.2; omega)
        have hsz2 : (9223372036854775807 < 1 + (Lib.itoa (rd l1 x)).length) = False := eq_false (by have := itoa_len (rd l1 x) hm'.1 hm'.2; omega)
        have hbd := tail_bound HG.out x.toNat
        have hbd2 : (headB a0 ++ tailB (l1.take x.toNat)).length + ((⟨#[32]⟩ : ByteArray) ++ (⟨(Lib.itoa (rd l1 x)).toArray⟩ : ByteArray)).size ≤ 140737488355328 := by
          rw [ByteArray.size_append]
          have := itoa_size (rd l1 x) hm'.1 hm'.2
          have e1 : (⟨#[32]⟩ : ByteArray).size = 1 := rfl
          omega
        have HBD := Aside0.mk hbd2
        have hw : wrap64 (x + 1) = x + 1 := by
          have := HG.out.2.2
          unfold wrap64
          omega
        clear hbd hbd2 hm hm' z0
        go_wp2_with (first | (go_at_call 13; ((with_reducible refine (fmt_call (rd l1 x) HM.out.1 HM.out.2 _ rfl _ (PowAt_below HP.out (by repeat (first | (with_reducible first | exact HB.out | apply below_alloc | apply pw_below_drewN | apply below_drew1) | exact HB.out)))).mono ?_); rintro e w6 ⟨rfl, hb⟩); have n0_ := Aside0.mk (below_step (by repeat (first | (with_reducible first | exact HB.out | apply below_alloc | apply pw_below_drewN | apply below_drew1) | exact HB.out)) hb); have n1_ := Aside0.mk (BuAt.below HU.out hb); clear HB HU; (try clear hcz_0 hcz_1 hfz_0 hfz_1); have HB := n0_; have HU := n1_; clear n0_ n1_ hb) | (go_at_call 10; ((with_reducible refine (bu_write (s := _) HU.out HBD.out).mono ?_); rintro e w5 ⟨rfl, hbu, hb⟩); have n0_ := Aside0.mk (below_of (by repeat (first | (with_reducible first | exact HB.out | apply below_alloc | apply pw_below_drewN | apply below_drew1) | exact HB.out)) GE.out (BuAt.le HU.out) hb); have n1_ := Aside0.mk hbu; clear HB HU; (try clear hcz_0 hcz_1 hfz_0 hfz_1); have HB := n0_; have HU := n1_; clear n0_ n1_ hb hbu))
        go_roundg (l1.length - (x + 1).toNat)
        case measure => have := HX0.out; have := HX1.out; omega
        case rel =>
          have e := HT.out
          exact ⟨x + 1, (by first | rfl | (simp; done) | go_num | (simp [*]; done)), ⟨by have := HX0.out; omega⟩, ⟨by have := HX0.out; omega⟩, ⟨by rw [e, tailB_snoc, ← List.append_assoc]; have hq := HU.out; rw [blank_data] at hq; exact hq⟩, ⟨(by repeat (first | (with_reducible first | exact HB.out | apply below_alloc | apply pw_below_drewN | apply below_drew1) | exact HB.out))⟩⟩
      · have HE : Aside0 (l1.take x.toNat = l1) := ⟨List.take_of_length_le (by omega)⟩
        go_wp2_with (first | (go_at_call 14; ((with_reducible refine (bu_string HU.out).mono ?_); rintro e w7 ⟨rfl, hb⟩); have n0_ := Aside0.mk (below_of (by repeat (first | (with_reducible first | exact HB.out | apply below_alloc | apply pw_below_drewN | apply below_drew1) | exact HB.out)) GE.out (BuAt.le HU.out) hb); clear HB HU; have HB := n0_; clear n0_ hb))
        rw [HE.out]
        go_ret
        exact ⟨rfl, (by repeat (first | (with_reducible first | exact HB.out | apply below_alloc | apply pw_below_drewN | apply below_drew1) | exact HB.out))⟩
  · have b0 : (a0 == 0) = false := beq_eq_false_iff_ne.2 ha
    have b1 : (a0 != 0) = true := bne_iff_ne.2 ha
    have HA := Aside0.mk (show headB a0 = [101, 114, 114, 111, 114, 32] ++ Lib.itoa a0 from if_neg ha)
    have hsz : (9223372036854775807 < 6 + (⟨(Lib.itoa a0).toArray⟩ : ByteArray).size) = False := eq_false (by have := itoa_size a0 HG.out.1.1 HG.out.1.2; omega)
    have hsz2 : (9223372036854775807 < 6 + (Lib.itoa a0).length) = False := eq_false (by have := itoa_len a0 HG.out.1.1 HG.out.1.2; omega)
    have HBD : Aside0 (([] : List UInt8).length + ((⟨#[101, 114, 114, 111, 114, 32]⟩ : ByteArray) ++ (⟨(Lib.itoa a0).toArray⟩ : ByteArray)).size ≤ 140737488355328) := ⟨by
      rw [ByteArray.size_append]
      have := itoa_size a0 HG.out.1.1 HG.out.1.2
      have e1 : (⟨#[101, 114, 114, 111, 114, 32]⟩ : ByteArray).size = 6 := rfl
      simp only [List.length_nil]
      omega⟩
    clear ha
    go_enter Tryd.func6, Tryd.ntmps6
    go_wp2_with (first | ((with_reducible refine gate_dst (N := 1) rfl ?_); refine box_event ?hg (N := 1) ?hd (cs := #[.int .i64 a0, .slice A1 l1.length c1]) (t := 25) ?hr ?_; (case hd => rfl); (case hg => rfl); (case hr => first | (go_simp; done) | (go_simp; rfl)); intro gb hg w3 hbox hb; have n0_ := Aside0.mk (below_step (by repeat (first | (with_reducible first | exact HB.out | apply below_alloc | apply pw_below_drewN | apply below_drew1) | exact HB.out)) hb); have n1_ := Aside0.mk hbox; clear HB; have HB := n0_; have BK := n1_; clear n0_ n1_ hb hbox hg) | ((with_reducible refine gate_dst (N := 3) rfl ?_); refine box_event ?hg (N := 3) ?hd (cs := #[.pointer none, .slice none 0 0]) (t := 36) ?hr ?_; (case hd => rfl); (case hg => rfl); (case hr => first | (go_simp; done) | (go_simp; rfl)); intro gu hg w4 hbox hb; have n0_ := Aside0.mk (below_step (by repeat (first | (with_reducible first | exact HB.out | apply below_alloc | apply pw_below_drewN | apply below_drew1) | exact HB.out)) hb); have n1_ := Aside0.mk (BuAt.fresh hbox); have n2_ := Aside0.mk (hg ▸ blk_lt (by (with_reducible repeat (first | refine blk_drewN ?_ _ | refine blk_drew ?_ | refine blk_alloc ?_ _)); exact BK.out) : gb < gu); have n3_ := Aside0.mk (blk_below (by (with_reducible repeat (first | refine blk_drewN ?_ _ | refine blk_drew ?_ | refine blk_alloc ?_ _)); exact BK.out) hb); have n4_ := Aside0.mk (hg ▸ below_size (by repeat (first | (with_reducible first | exact HB.out | apply below_alloc | apply pw_below_drewN | apply below_drew1) | exact HB.out)) : w.heap.size ≤ gu); clear HB BK; have HB := n0_; have HU := n1_; have GU := n2_; have BK := n3_; have GE := n4_; clear n0_ n1_ n2_ n3_ n4_ hb hbox hg; have hcz_0 : w4.cell? ⟨gb, 0, none⟩ = some (.int .i64 a0) := (blk_cell BK.out 0).trans rfl; have hcz_1 : w4.cell? ⟨gb, 1, none⟩ = some (.slice A1 l1.length c1) := (blk_cell BK.out 1).trans rfl; have hfz_0 := blk_frozen BK.out 0; have hfz_1 := blk_frozen BK.out 1) | (go_at_call 10; ((with_reducible refine (bu_write (s := ⟨#[111, 107]⟩) HU.out (by decide)).mono ?_); rintro e w5 ⟨rfl, hbu, hb⟩); have n0_ := Aside0.mk (below_of (by repeat (first | (with_reducible first | exact HB.out | apply below_alloc | apply pw_below_drewN | apply below_drew1) | exact HB.out)) GE.out (BuAt.le HU.out) hb); have n1_ := Aside0.mk hbu; have n3_ := Aside0.mk ((hb.block gb GU.out).trans (by (with_reducible repeat (first | refine blk_drewN ?_ _ | refine blk_drew ?_ | refine blk_alloc ?_ _)); exact BK.out)); clear HB HU BK; (try clear hcz_0 hcz_1 hfz_0 hfz_1); have HB := n0_; have HU := n1_; have BK := n3_; clear n0_ n1_ n3_ hb hbu; have hcz_0 : w5.cell? ⟨gb, 0, none⟩ = some (.int .i64 a0) := (blk_cell BK.out 0).trans rfl; have hcz_1 : w5.cell? ⟨gb, 1, none⟩ = some (.slice A1 l1.length c1) := (blk_cell BK.out 1).trans rfl; have hfz_0 := blk_frozen BK.out 0; have hfz_1 := blk_frozen BK.out 1) | (go_at_call 11; ((with_reducible refine (bu_reset HU.out).mono ?_); rintro e w5 ⟨rfl, hbu, hb⟩); have n0_ := Aside0.mk (below_of (by repeat (first | (with_reducible first | exact HB.out | apply below_alloc | apply pw_below_drewN | apply below_drew1) | exact HB.out)) GE.out (BuAt.le HU.out) hb); have n1_ := Aside0.mk hbu; have n3_ := Aside0.mk ((hb.block gb GU.out).trans (by (with_reducible repeat (first | refine blk_drewN ?_ _ | refine blk_drew ?_ | refine blk_alloc ?_ _)); exact BK.out)); clear HB HU BK; (try clear hcz_0 hcz_1 hfz_0 hfz_1); have HB := n0_; have HU := n1_; have BK := n3_; clear n0_ n1_ n3_ hb hbu; have hcz_0 : w5.cell? ⟨gb, 0, none⟩ = some (.int .i64 a0) := (blk_cell BK.out 0).trans rfl; have hcz_1 : w5.cell? ⟨gb, 1, none⟩ = some (.slice A1 l1.length c1) := (blk_cell BK.out 1).trans rfl; have hfz_0 := blk_frozen BK.out 0; have hfz_1 := blk_frozen BK.out 1) | (go_at_call 12; ((with_reducible refine (itoa_call a0 HG.out.1.1 HG.out.1.2 _ rfl _ (PowAt_below HP.out (by repeat (first | (with_reducible first | exact HB.out | apply below_alloc | apply pw_below_drewN | apply below_drew1) | exact HB.out)))).mono ?_); rintro e w6 ⟨rfl, hb⟩); have n0_ := Aside0.mk (below_step (by repeat (first | (with_reducible first | exact HB.out | apply below_alloc | apply pw_below_drewN | apply below_drew1) | exact HB.out)) hb); have n1_ := Aside0.mk (BuAt.below HU.out hb); have n3_ := Aside0.mk (blk_below (by (with_reducible repeat (first | refine blk_drewN ?_ _ | refine blk_drew ?_ | refine blk_alloc ?_ _)); exact BK.out) hb); clear HB HU BK; (try clear hcz_0 hcz_1 hfz_0 hfz_1); have HB := n0_; have HU := n1_; have BK := n3_; clear n0_ n1_ n3_ hb; have hcz_0 : w6.cell? ⟨gb, 0, none⟩ = some (.int .i64 a0) := (blk_cell BK.out 0).trans rfl; have hcz_1 : w6.cell? ⟨gb, 1, none⟩ = some (.slice A1 l1.length c1) := (blk_cell BK.out 1).trans rfl; have hfz_0 := blk_frozen BK.out 0; have hfz_1 := blk_frozen BK.out 1) | (go_at_call 10; ((with_reducible refine (bu_write (s := _) HU.out HBD.out).mono ?_); rintro e w5 ⟨rfl, hbu, hb⟩); have n0_ := Aside0.mk (below_of (by repeat (first | (with_reducible first | exact HB.out | apply below_alloc | apply pw_below_drewN | apply below_drew1) | exact HB.out)) GE.out (BuAt.le HU.out) hb); have n1_ := Aside0.mk hbu; have n3_ := Aside0.mk ((hb.block gb GU.out).trans (by (with_reducible repeat (first | refine blk_drewN ?_ _ | refine blk_drew ?_ | refine blk_alloc ?_ _)); exact BK.out)); clear HB HU BK; (try clear hcz_0 hcz_1 hfz_0 hfz_1); have HB := n0_; have HU := n1_; have BK := n3_; clear n0_ n1_ n3_ hb hbu; have hcz_0 : w5.cell? ⟨gb, 0, none⟩ = some (.int .i64 a0) := (blk_cell BK.out 0).trans rfl; have hcz_1 : w5.cell? ⟨gb, 1, none⟩ = some (.slice A1 l1.length c1) := (blk_cell BK.out 1).trans rfl; have hfz_0 := blk_frozen BK.out 0; have hfz_1 := blk_frozen BK.out 1))
    go_loopg [19] l1.length (fun kq v19 w' => ∃ x : Int, v19 = .int .i64 x ∧ Aside0 (0 ≤ x) ∧ Aside0 (x + kq = l1.length) ∧ Aside0 (BuAt w' gu (headB a0 ++ tailB (l1.take x.toNat))) ∧ Aside0 (Below w.heap.size w w'))
    case atStart => exact ⟨0, rfl, ⟨Int.le_refl _⟩, ⟨by omega⟩, ⟨by rw [HA.out]; have hq := HU.out; rw [error_data, List.nil_append] at hq; simpa [tailB] using hq⟩, HB⟩
    case round =>
      obtain ⟨x, rfl, HX0, HX1, HU, HB⟩ := hrel
      by_cases hx : x < l1.length
      · have hx0 := HX0.out
        obtain ⟨ad, ea, hc⟩ := Kd.at_int HR.out x hx0 hx
        subst ea
        replace hc := (HB.out.cell (World.block_lt_of_cell? w _ hc)).trans hc
        have hm := rd_in hx0 hx
        have hm' := HG.out.2.1 _ hm
        have HM := Aside0.mk hm'
        have HT := Aside0.mk (rd_take hx0 hx)
        have z0 : (l1.length ≤ 300000) = True := eq_true HG.out.2.2
        have hsz : (9223372036854775807 < 1 + (⟨(Lib.itoa (rd l1 x)).toArray⟩ : ByteArray).size) = False := eq_false (by have := itoa_size (rd l1 x) hm'.1 hm'.2; omega)
        have hsz2 : (9223372036854775807 < 1 + (Lib.itoa (rd l1 x)).length) = False := eq_false (by have := itoa_len (rd l1 x) hm'.1 hm'.2; omega)
        have hbd := tail_bound HG.out x.toNat
        have hbd2 : (headB a0 ++ tailB (l1.take x.toNat)).length + ((⟨#[32]⟩ : ByteArray) ++ (⟨(Lib.itoa (rd l1 x)).toArray⟩ : ByteArray)).size ≤ 140737488355328 := by
          rw [ByteArray.size_append]
          have := itoa_size (rd l1 x) hm'.1 hm'.2
          have e1 : (⟨#[32]⟩ : ByteArray).size = 1 := rfl
          omega
        have HBD := Aside0.mk hbd2
        have hw : wrap64 (x + 1) = x + 1 := by
          have := HG.out.2.2
          unfold wrap64
          omega
        clear hbd hbd2 hm hm' z0
        go_wp2_with (first | (go_at_call 13; ((with_reducible refine (fmt_call (rd l1 x) HM.out.1 HM.out.2 _ rfl _ (PowAt_below HP.out (by repeat (first | (with_reducible first | exact HB.out | apply below_alloc | apply pw_below_drewN | apply below_drew1) | exact HB.out)))).mono ?_); rintro e w6 ⟨rfl, hb⟩); have n0_ := Aside0.mk (below_step (by repeat (first | (with_reducible first | exact HB.out | apply below_alloc | apply pw_below_drewN | apply below_drew1) | exact HB.out)) hb); have n1_ := Aside0.mk (BuAt.below HU.out hb); clear HB HU; (try clear hcz_0 hcz_1 hfz_0 hfz_1); have HB := n0_; have HU := n1_; clear n0_ n1_ hb) | (go_at_call 10; ((with_reducible refine (bu_write (s := _) HU.out HBD.out).mono ?_); rintro e w5 ⟨rfl, hbu, hb⟩); have n0_ := Aside0.mk (below_of (by repeat (first | (with_reducible first | exact HB.out | apply below_alloc | apply pw_below_drewN | apply below_drew1) | exact HB.out)) GE.out (BuAt.le HU.out) hb); have n1_ := Aside0.mk hbu; clear HB HU; (try clear hcz_0 hcz_1 hfz_0 hfz_1); have HB := n0_; have HU := n1_; clear n0_ n1_ hb hbu))
        go_roundg (l1.length - (x + 1).toNat)
        case measure => have := HX0.out; have := HX1.out; omega
        case rel =>
          have e := HT.out
          exact ⟨x + 1, (by first | rfl | (simp; done) | go_num | (simp [*]; done)), ⟨by have := HX0.out; omega⟩, ⟨by have := HX0.out; omega⟩, ⟨by rw [e, tailB_snoc, ← List.append_assoc]; have hq := HU.out; rw [blank_data] at hq; exact hq⟩, ⟨(by repeat (first | (with_reducible first | exact HB.out | apply below_alloc | apply pw_below_drewN | apply below_drew1) | exact HB.out))⟩⟩
      · have HE : Aside0 (l1.take x.toNat = l1) := ⟨List.take_of_length_le (by omega)⟩
        go_wp2_with (first | (go_at_call 14; ((with_reducible refine (bu_string HU.out).mono ?_); rintro e w7 ⟨rfl, hb⟩); have n0_ := Aside0.mk (below_of (by repeat (first | (with_reducible first | exact HB.out | apply below_alloc | apply pw_below_drewN | apply below_drew1) | exact HB.out)) GE.out (BuAt.le HU.out) hb); clear HB HU; have HB := n0_; clear n0_ hb))
        rw [HE.out]
        go_ret
        exact ⟨rfl, (by repeat (first | (with_reducible first | exact HB.out | apply below_alloc | apply pw_below_drewN | apply below_drew1) | exact HB.out))⟩

end Go.Proofs.YtpglakfafanhoaaDoor.PA
