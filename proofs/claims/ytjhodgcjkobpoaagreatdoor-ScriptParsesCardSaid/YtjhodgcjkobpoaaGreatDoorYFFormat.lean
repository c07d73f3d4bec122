/- script.Format by hand: the line of an operation. Conditions: the tables stand as laid; the plain function answers. -/
import Derived.Test.YtjhodgcjkobpoaaGreatDoorYFFields
import Derived.Deep.LoopGhost
import Derived.BigRegion
namespace Go.Proofs.YtjhodgcjkobpoaaGreatDoor.FFormat
open Go.RowKit Go.Proofs.YtjhodgcjkobpoaaGreatDoorW.PrintWords Go.Proofs.YtjhodgcjkobpoaaGreatDoorW.PrintLast Go.Proofs.YtjhodgcjkobpoaaGreatDoorW.PrintMore Go.Proofs.YtjhodgcjkobpoaaGreatDoor.PA Go.Proofs.YtjhodgcjkobpoaaGreatDoor.FTell Go.Proofs.YtjhodgcjkobpoaaGreatDoor.FFields
set_option linter.unusedVariables false
set_option linter.unusedSimpArgs false
attribute [local go_sem] pl_store_func
/-- What a field of this letter tells. -/
def tellAt (l : Nat) (a1 a2 a3 a4 a5 : Int) (a6 : ByteArray) : Option (ByteArray × Bool) :=
  if l = 65 then (money_Format.f a2).map (fun t => (t, true)) else if l = 82 then script_digits.f a3 else if l = 84 then some (typeAt a5) else if l = 70 then some (fatesAt a6) else if l = 76 then script_digits.f a1 else if l = 67 then script_digits.f a4 else script_digits.f a5
theorem tells_c (l : Nat) (a0 a1 a2 a3 a4 a5 : Int) (a6 : ByteArray) (r1 : ByteArray) (r2 : Bool) (f1 f2 : Value) (w : World) (hrP : PowAt w) (hf : Fld w l f1 f2) (h : tellAt l a1 a2 a3 a4 a5 a6 = some (r1, r2)) :
    ∃ g1 lb1 g lb, f1 = .func (.func g1) #[] lb1 ∧ f2 = .func (.func g) #[] lb ∧ (∀ args w, (callFunc g args).run Tryz.prog w = .ok (.enter g args) w) ∧
      ∀ W, Below w.heap.size w W → Calls Tryz.prog g (#[.agg #[.int .i64 a0, .int .i64 a1, .int .i64 a2, .int .i64 a3, .int .i64 a4, .int .i64 a5, .string a6]] ++ lb) W fun e w' => e = .returned (.tuple #[.string r1, .bool r2]) ∧ Below W.heap.size W w' := by
  unfold Fld at hf
  unfold tellAt at h
  rcases hf with ⟨rfl, b, hb0, hb, rfl, rfl⟩ | ⟨rfl, b, hb0, hb, rfl, rfl⟩ | ⟨rfl, b, hb0, hb, rfl, rfl⟩ | ⟨rfl, rfl, rfl⟩ | ⟨rfl, rfl, rfl⟩ | ⟨rfl, rfl, rfl⟩ | ⟨rfl, rfl, rfl⟩
  · exact ⟨_, _, _, _, rfl, rfl, enters_of Tryz.func51 (by kernel_rfl) rfl, fun W hW => loan_tell a0 a1 a2 a3 a4 a5 a6 b r1 r2 W (PowAt_below hrP hW) (Nat.lt_of_lt_of_le hb0 hW.size) ((hW.cell (p := ⟨b, 0, none⟩) hb0).trans hb) h⟩
  · exact ⟨_, _, _, _, rfl, rfl, enters_of Tryz.func51 (by kernel_rfl) rfl, fun W hW => count_tell a0 a1 a2 a3 a4 a5 a6 b r1 r2 W (PowAt_below hrP hW) (Nat.lt_of_lt_of_le hb0 hW.size) ((hW.cell (p := ⟨b, 0, none⟩) hb0).trans hb) h⟩
  · exact ⟨_, _, _, _, rfl, rfl, enters_of Tryz.func51 (by kernel_rfl) rfl, fun W hW => days_tell a0 a1 a2 a3 a4 a5 a6 b r1 r2 W (PowAt_below hrP hW) (Nat.lt_of_lt_of_le hb0 hW.size) ((hW.cell (p := ⟨b, 0, none⟩) hb0).trans hb) h⟩
  · rw [if_pos rfl] at h
    obtain ⟨t, ht, e⟩ := Option.map_eq_some_iff.1 h
    obtain ⟨rfl, rfl⟩ := Prod.mk.inj e
    exact ⟨_, _, _, _, rfl, rfl, enters_of Tryz.func55 (by kernel_rfl) rfl, fun W hW => amount_tell a0 a1 a2 a3 a4 a5 a6 _ W (PowAt_below hrP hW) ht⟩
  · rw [if_neg (by decide), if_pos rfl] at h
    exact ⟨_, _, _, _, rfl, rfl, enters_of Tryz.func58 (by kernel_rfl) rfl, fun W hW => rate_tell a0 a1 a2 a3 a4 a5 a6 r1 r2 W (PowAt_below hrP hW) h⟩
  · rw [if_neg (by decide), if_neg (by decide), if_pos rfl] at h
    have h := Option.some.inj h
    obtain rfl : (typeAt a5).1 = r1 := by rw [h]
    obtain rfl : (typeAt a5).2 = r2 := by rw [h]
    exact ⟨_, _, _, _, rfl, rfl, enters_of Tryz.func60 (by kernel_rfl) rfl, fun W hW => plan_tell a0 a1 a2 a3 a4 a5 a6 W (PowAt_below hrP hW)⟩
  · rw [if_neg (by decide), if_neg (by decide), if_neg (by decide), if_pos rfl] at h
    have h := Option.some.inj h
    obtain rfl : (fatesAt a6).1 = r1 := by rw [h]
    obtain rfl : (fatesAt a6).2 = r2 := by rw [h]
    exact ⟨_, _, _, _, rfl, rfl, enters_of Tryz.func62 (by kernel_rfl) rfl, fun W hW => letters_tell a0 a1 a2 a3 a4 a5 a6 W⟩
/-- The fields one by one behind the line so far. -/
def fmtL (a1 a2 a3 a4 a5 : Int) (a6 : ByteArray) : List Nat → ByteArray → Option (ByteArray × Bool)
  | [], line => some (if 100 < line.size then (⟨#[]⟩, false) else (line, true))
  | l :: ls, line => (tellAt l a1 a2 a3 a4 a5 a6).bind fun r => if r.2 = true then (if 9223372036854775807 < line.size + (1 + r.1.size) then none else fmtL a1 a2 a3 a4 a5 a6 ls (line ++ (⟨#[32]⟩ ++ r.1))) else some (⟨#[]⟩, false)
/-- The word of a kind. -/
def nameAt (k : Int) : ByteArray := namesL.getD k.toNat ⟨#[]⟩
theorem name_at {w : World} (h : PowAt w) (k : Int) (h0 : 0 ≤ k) (h1 : k ≤ 21) : w.cell? ⟨0, k.toNat, none⟩ = some (.string (nameAt k)) := by
  refine PowAt_name h k.toNat _ ?_
  have : k.toNat < namesL.length := by show k.toNat < 22; omega
  unfold nameAt
  rw [List.getElem?_eq_getElem this, List.getD_eq_getElem?_getD, List.getElem?_eq_getElem this]
  rfl
def fmtF (a0 a1 a2 a3 a4 a5 : Int) (a6 : ByteArray) : Option (ByteArray × Bool) := if a0 < 1 then some (⟨#[]⟩, false) else if 21 < a0 then some (⟨#[]⟩, false) else fmtL a1 a2 a3 a4 a5 a6 (shapeL a0) (nameAt a0)
set_option maxHeartbeats 8000000 in
set_option maxRecDepth 100000 in
theorem format_low (a0 a1 a2 a3 a4 a5 : Int) (a6 : ByteArray) (hk : a0 < 1) (w : World) : Calls Tryz.prog 11 #[.agg #[.int .i64 a0, .int .i64 a1, .int .i64 a2, .int .i64 a3, .int .i64 a4, .int .i64 a5, .string a6]] w fun e w' => e = .returned (.tuple #[.string ⟨#[]⟩, .bool false]) ∧ Below w.heap.size w w' := by
  have hu := Tryz.underlying25
  have HB := Aside0.mk (Below.refl w.heap.size w)
  have e : decide (a0 < 1) = true := decide_eq_true hk
  clear hk
  go_enter Tryz.func11, Tryz.ntmps11
  go_wp2_with (first | ((with_reducible refine gate_dst (N := 1) rfl ?_); refine box_event ?hg (N := 1) ?hd (cs := #[.int .i64 a0, .int .i64 a1, .int .i64 a2, .int .i64 a3, .int .i64 a4, .int .i64 a5, .string a6]) (t := 25) ?hr ?_; (case hd => rfl); (case hg => rfl); (case hr => first | (go_simp; done) | (go_simp; rfl)); intro gb hg w3 hbox hb; have n0_ := Aside0.mk (below_step (by repeat (first | (with_reducible first | exact HB.out | apply below_alloc | apply pw_below_drewN | apply below_drew1) | exact HB.out)) hb); have n1_ := Aside0.mk (hbox); clear HB; have HB := n0_; have BK := n1_; clear n0_ n1_; clear hb hbox hg; have hcz_0 : w3.cell? ⟨gb, 0, none⟩ = some (.int .i64 a0) := (blk_cell BK.out 0).trans rfl))
  go_ret2
  exact ⟨rfl, (by repeat (first | (with_reducible first | exact HB.out | apply below_alloc | apply pw_below_drewN | apply below_drew1) | exact HB.out))⟩
set_option maxHeartbeats 8000000 in
set_option maxRecDepth 100000 in
theorem format_high (a0 a1 a2 a3 a4 a5 : Int) (a6 : ByteArray) (h0 : ¬ a0 < 1) (hk : 21 < a0) (w : World) : Calls Tryz.prog 11 #[.agg #[.int .i64 a0, .int .i64 a1, .int .i64 a2, .int .i64 a3, .int .i64 a4, .int .i64 a5, .string a6]] w fun e w' => e = .returned (.tuple #[.string ⟨#[]⟩, .bool false]) ∧ Below w.heap.size w w' := by
  have hu := Tryz.underlying25
  have HB := Aside0.mk (Below.refl w.heap.size w)
  have e0 : decide (a0 < 1) = false := decide_eq_false h0
  have e : decide (a0 > 21) = true := decide_eq_true hk
  have e' : decide (21 < a0) = true := decide_eq_true hk
  clear hk h0
  go_enter Tryz.func11, Tryz.ntmps11
  go_wp2_with (first | ((with_reducible refine gate_dst (N := 1) rfl ?_); refine box_event ?hg (N := 1) ?hd (cs := #[.int .i64 a0, .int .i64 a1, .int .i64 a2, .int .i64 a3, .int .i64 a4, .int .i64 a5, .string a6]) (t := 25) ?hr ?_; (case hd => rfl); (case hg => rfl); (case hr => first | (go_simp; done) | (go_simp; rfl)); intro gb hg w3 hbox hb; have n0_ := Aside0.mk (below_step (by repeat (first | (with_reducible first | exact HB.out | apply below_alloc | apply pw_below_drewN | apply below_drew1) | exact HB.out)) hb); have n1_ := Aside0.mk (hbox); clear HB; have HB := n0_; have BK := n1_; clear n0_ n1_; clear hb hbox hg; have hcz_0 : w3.cell? ⟨gb, 0, none⟩ = some (.int .i64 a0) := (blk_cell BK.out 0).trans rfl))
  go_ret2
  exact ⟨rfl, (by repeat (first | (with_reducible first | exact HB.out | apply below_alloc | apply pw_below_drewN | apply below_drew1) | exact HB.out))⟩
theorem shapeL_le (k : Int) : (shapeL k).length ≤ 5 := by
  unfold shapeL
  by_cases h1 : k = 1
  · rw [if_pos h1]; decide
  rw [if_neg h1]
  by_cases h2 : k = 2
  · rw [if_pos h2]; decide
  rw [if_neg h2]
  by_cases h4 : k = 4
  · rw [if_pos h4]; decide
  rw [if_neg h4]
  by_cases h5 : k = 5
  · rw [if_pos h5]; decide
  rw [if_neg h5]
  by_cases h3 : k = 3
  · rw [if_pos h3]; decide
  rw [if_neg h3]
  by_cases h15 : k = 15
  · rw [if_pos h15]; decide
  rw [if_neg h15]
  by_cases h16 : k = 16
  · rw [if_pos h16]; decide
  rw [if_neg h16]
  by_cases h6 : k = 6
  · rw [if_pos h6]; decide
  rw [if_neg h6]
  by_cases h7 : k = 7
  · rw [if_pos h7]; decide
  rw [if_neg h7]
  by_cases h8 : k = 8
  · rw [if_pos h8]; decide
  rw [if_neg h8]
  by_cases h9 : k = 9
  · rw [if_pos h9]; decide
  rw [if_neg h9]
  by_cases h10 : k = 10
  · rw [if_pos h10]; decide
  rw [if_neg h10]
  by_cases h12 : k = 12
  · rw [if_pos h12]; decide
  rw [if_neg h12]
  decide
/-- A list of fields in memory, from an address on. -/
def FLA (W : World) (A : Option Addr) (ls : List Nat) : Prop := ∀ (i l : Nat), ls[i]? = some l → ∃ g f1 f2, A = some ⟨g, 0, none⟩ ∧ W.cell? ⟨g, i * 2, none⟩ = some f1 ∧ W.cell? ⟨g, i * 2 + 1, none⟩ = some f2 ∧ g < W.heap.size ∧ Fld W l f1 f2
theorem FLA.below {w W : World} {A : Option Addr} {ls : List Nat} (h : FLA w A ls) (hb : Below w.heap.size w W) : FLA W A ls := fun i l hi => by
  obtain ⟨g, f1, f2, e, c1, c2, c3, c4⟩ := h i l hi
  exact ⟨g, f1, f2, e, (hb.cell (p := ⟨g, i * 2, none⟩) c3).trans c1, (hb.cell (p := ⟨g, i * 2 + 1, none⟩) c3).trans c2, Nat.lt_of_lt_of_le c3 hb.size, c4.below hb⟩
theorem fields_a (k : Int) (w : World) : Calls Tryz.prog 24 #[.int .i64 k] w fun e w' => ∃ A, e = .returned (.slice A (shapeL k).length (shapeL k).length) ∧ FLA w' A (shapeL k) ∧ Below w.heap.size w w' := by
  refine (fields_c k w).mono ?_
  rintro e w' ⟨v, rfl, h | h, hb⟩
  · obtain ⟨h1, rfl⟩ := h
    refine ⟨none, by rw [h1]; rfl, fun i l hi => ?_, hb⟩
    rw [h1] at hi
    cases hi
  · obtain ⟨g, rfl, h⟩ := h
    refine ⟨_, rfl, fun i l hi => ?_, hb⟩
    obtain ⟨f1, f2, h1, h2, h3, h4⟩ := h i l hi
    exact ⟨g, f1, f2, rfl, h1, h2, h3, h4⟩
set_option maxHeartbeats 8000000 in
set_option maxRecDepth 100000 in
theorem format_mid (a0 a1 a2 a3 a4 a5 : Int) (a6 : ByteArray) (h0 : ¬ a0 < 1) (h1 : ¬ 21 < a0) (r1 : ByteArray) (r2 : Bool) (w : World) (hrP : PowAt w) (h : fmtL a1 a2 a3 a4 a5 a6 (shapeL a0) (nameAt a0) = some (r1, r2)) :
    Calls Tryz.prog 11 #[.agg #[.int .i64 a0, .int .i64 a1, .int .i64 a2, .int .i64 a3, .int .i64 a4, .int .i64 a5, .string a6]] w fun e w' => e = .returned (.tuple #[.string r1, .bool r2]) ∧ Below w.heap.size w w' := by
  have hu := Tryz.underlying25
  have hu43 := Tryz.underlying68
  have HB := Aside0.mk (Below.refl w.heap.size w)
  have HRP := Aside0.mk hrP
  have HH := Aside0.mk h
  have e0 : decide (a0 < 1) = false := decide_eq_false h0
  have e : decide (a0 > 21) = false := decide_eq_false h1
  have e' : decide (21 < a0) = false := decide_eq_false h1
  have hk0 : 0 ≤ a0 := by omega
  have hk1 : a0 < 22 := by omega
  have hname : ∀ W, Below w.heap.size w W → W.cell? ⟨0, a0.toNat, none⟩ = some (.string (nameAt a0)) := fun W hb => name_at (PowAt_below hrP hb) a0 (by omega) (by omega)
  have HN := Aside0.mk hname
  have HLS : Aside0 ((shapeL a0).length ≤ 5) := ⟨shapeL_le a0⟩
  clear hrP h h0 h1 hname
  go_enter Tryz.func11, Tryz.ntmps11
  go_upto_region 3 with (first | ((with_reducible refine gate_dst (N := 1) rfl ?_); refine box_event ?hg (N := 1) ?hd (cs := #[.int .i64 a0, .int .i64 a1, .int .i64 a2, .int .i64 a3, .int .i64 a4, .int .i64 a5, .string a6]) (t := 25) ?hr ?_; (case hd => rfl); (case hg => rfl); (case hr => first | (go_simp; done) | (go_simp; rfl)); intro gb hg w3 hbox hb; have n0_ := Aside0.mk (below_step (by repeat (first | (with_reducible first | exact HB.out | apply below_alloc | apply pw_below_drewN | apply below_drew1) | exact HB.out)) hb); have n1_ := Aside0.mk (hbox); clear HB; have HB := n0_; have BK := n1_; clear n0_ n1_; clear hb hbox hg; have hcz_0 : w3.cell? ⟨gb, 0, none⟩ = some (.int .i64 a0) := (blk_cell BK.out 0).trans rfl))
  have hname := HN.out _ (by repeat (first | (with_reducible first | exact HB.out | apply below_alloc | apply pw_below_drewN | apply below_drew1) | exact HB.out))
  go_upto_region 4 with fail
  clear hname HN e0 e e'
  go_wp2_with (first | (go_at_call 24; (with_reducible refine (fields_a a0 _).mono ?_); rintro e w5 ⟨A5, rfl, hfl, hb⟩; have n0_ := Aside0.mk (below_step (by repeat (first | (with_reducible first | exact HB.out | apply below_alloc | apply pw_below_drewN | apply below_drew1) | exact HB.out)) hb); have n1_ := Aside0.mk (blk_below (by (with_reducible repeat (first | refine blk_drewN ?_ _ | refine blk_drew ?_ | refine blk_alloc ?_ _)); exact BK.out) hb); have HFL := Aside0.mk hfl; (try clear hcz_0); clear HB BK hfl hb; have HB := n0_; have BK := n1_; clear n0_ n1_))
  generalize shapeL a0 = ls at *
  generalize nameAt a0 = line0 at *
  go_loopg [4, 25] ls.length (fun kq v4 v25 w' => ∃ (i : Nat) (line : ByteArray), v25 = .int .i64 (i : Int) ∧ v4 = .string line ∧ Aside0 (i + kq = ls.length) ∧ Aside0 (fmtL a1 a2 a3 a4 a5 a6 (ls.drop i) line = some (r1, r2)) ∧ Aside0 (w'.heap[gb]? = some (.cells #[.int .i64 a0, .int .i64 a1, .int .i64 a2, .int .i64 a3, .int .i64 a4, .int .i64 a5, .string a6] 25 (0, 0))) ∧ Aside0 (Below w.heap.size w w') ∧ Aside0 (FLA w' A5 ls))
  case atStart => exact ⟨0, line0, rfl, rfl, ⟨by omega⟩, HH, ⟨(by (with_reducible repeat (first | refine blk_drewN ?_ _ | refine blk_drew ?_ | refine blk_alloc ?_ _)); exact BK.out)⟩, ⟨(by repeat (first | (with_reducible first | exact HB.out | apply below_alloc | apply pw_below_drewN | apply below_drew1) | exact HB.out))⟩, ⟨HFL.out⟩⟩
  case round =>
    obtain ⟨i, line, rfl, rfl, HI, HH, BK, HB, HFL⟩ := hrel
    by_cases hx : i < ls.length
    · obtain ⟨l, hl⟩ : ∃ l, ls[i]? = some l := ⟨_, List.getElem?_eq_getElem hx⟩
      have hdrop : ls.drop i = l :: ls.drop (i + 1) := by
        rw [List.drop_eq_getElem_cons hx]
        rw [List.getElem?_eq_getElem hx] at hl
        rw [Option.some.inj hl]
      have HH1 := HH.out
      rw [hdrop] at HH1
      unfold fmtL at HH1
      obtain ⟨⟨t1, t2⟩, hT, HH1⟩ := Option.bind_eq_some_iff.1 HH1
      obtain ⟨g0, f1, f2, rfl, c1, c2, c3, hF⟩ := HFL.out i l hl
      obtain ⟨q1, lb1, g, lb, rfl, rfl, eg, hTE⟩ := tells_c l a0 a1 a2 a3 a4 a5 a6 t1 t2 f1 f2 wr (PowAt_below HRP.out HB.out) hF hT
      have HTE := Aside0.mk hTE
      have HH2 := Aside0.mk HH1
      have HR := Aside0.mk (Below.refl wr.heap.size wr)
      have HX := Aside0.mk hx
      have hlt : decide ((i : Int) < (ls.length : Int)) = true := decide_eq_true (by omega)
      have hi0 : (0 : Int) ≤ (i : Int) := by omega
      have hi1 : (i : Int) < (ls.length : Int) := by omega
      clear hTE HH1 hT hF hdrop hl HH hx
      have hcz_0 : wr.cell? ⟨gb, 0, none⟩ = some (.int .i64 a0) := (blk_cell BK.out 0).trans rfl
      have hcz_1 : wr.cell? ⟨gb, 1, none⟩ = some (.int .i64 a1) := (blk_cell BK.out 1).trans rfl
      have hcz_2 : wr.cell? ⟨gb, 2, none⟩ = some (.int .i64 a2) := (blk_cell BK.out 2).trans rfl
      have hcz_3 : wr.cell? ⟨gb, 3, none⟩ = some (.int .i64 a3) := (blk_cell BK.out 3).trans rfl
      have hcz_4 : wr.cell? ⟨gb, 4, none⟩ = some (.int .i64 a4) := (blk_cell BK.out 4).trans rfl
      have hcz_5 : wr.cell? ⟨gb, 5, none⟩ = some (.int .i64 a5) := (blk_cell BK.out 5).trans rfl
      have hcz_6 : wr.cell? ⟨gb, 6, none⟩ = some (.string a6) := (blk_cell BK.out 6).trans rfl
      go_upto_region 7 with fail
      obtain ⟨W7, eW⟩ : ∃ W7, W7 = wr.alloc (.cells #[.func (.func q1) #[] lb1, .func (.func g) #[] lb] 68 (0, 0)) := ⟨_, rfl⟩
      have n0_ : Aside0 (Below wr.heap.size wr W7) := ⟨by rw [eW]; exact below_alloc (Below.refl _ _) _⟩
      have n1_ : Aside0 (W7.heap[gb]? = some (.cells #[.int .i64 a0, .int .i64 a1, .int .i64 a2, .int .i64 a3, .int .i64 a4, .int .i64 a5, .string a6] 25 (0, 0))) := ⟨by rw [eW]; exact blk_alloc BK.out _⟩
      have n2_ : Aside0 (Below w.heap.size w W7) := ⟨by rw [eW]; exact below_alloc HB.out _⟩
      have hc7 : W7.cell? ⟨wr.heap.size, 1, none⟩ = some (.func (.func g) #[] lb) := by rw [eW]; simp
      rw [← eW]
      clear eW c1 c2 c3 hcz_0 hcz_1 hcz_2 hcz_3 hcz_4 hcz_5 hcz_6 HR BK HB
      have HR := n0_
      have BK := n1_
      have HB := n2_
      clear n0_ n1_ n2_
      have hcz_0 : W7.cell? ⟨gb, 0, none⟩ = some (.int .i64 a0) := (blk_cell BK.out 0).trans rfl
      have hcz_1 : W7.cell? ⟨gb, 1, none⟩ = some (.int .i64 a1) := (blk_cell BK.out 1).trans rfl
      have hcz_2 : W7.cell? ⟨gb, 2, none⟩ = some (.int .i64 a2) := (blk_cell BK.out 2).trans rfl
      have hcz_3 : W7.cell? ⟨gb, 3, none⟩ = some (.int .i64 a3) := (blk_cell BK.out 3).trans rfl
      have hcz_4 : W7.cell? ⟨gb, 4, none⟩ = some (.int .i64 a4) := (blk_cell BK.out 4).trans rfl
      have hcz_5 : W7.cell? ⟨gb, 5, none⟩ = some (.int .i64 a5) := (blk_cell BK.out 5).trans rfl
      have hcz_6 : W7.cell? ⟨gb, 6, none⟩ = some (.string a6) := (blk_cell BK.out 6).trans rfl
      cases t2 with
      | false =>
        obtain ⟨rfl, rfl⟩ := Prod.mk.inj (Option.some.inj HH2.out)
        clear HH2
        go_wp2_with (first | (go_at_fn g; refine (HTE.out _ (by repeat (first | (with_reducible first | exact HR.out | apply below_alloc | apply pw_below_drewN | apply below_drew1) | exact HR.out))).mono ?_; rintro e w7 ⟨rfl, hb⟩; have n0_ := Aside0.mk (below_step (by repeat (first | (with_reducible first | exact HB.out | apply below_alloc | apply pw_below_drewN | apply below_drew1) | exact HB.out)) hb); have n1_ := Aside0.mk (blk_below (by (with_reducible repeat (first | refine blk_drewN ?_ _ | refine blk_drew ?_ | refine blk_alloc ?_ _)); exact BK.out) hb); have n2_ := Aside0.mk (below_step (by repeat (first | (with_reducible first | exact HR.out | apply below_alloc | apply pw_below_drewN | apply below_drew1) | exact HR.out)) hb); (try clear hcz_0 hcz_1 hcz_2 hcz_3 hcz_4 hcz_5 hcz_6); clear HB BK HR hb; have HB := n0_; have BK := n1_; have HR := n2_; clear n0_ n1_ n2_))
        go_ret2
        exact ⟨rfl, (by repeat (first | (with_reducible first | exact HB.out | apply below_alloc | apply pw_below_drewN | apply below_drew1) | exact HB.out))⟩
      | true =>
        have hq := HH2.out
        rw [if_pos rfl] at hq
        by_cases hz : 9223372036854775807 < line.size + (1 + t1.size)
        · rw [if_pos hz] at hq; cases hq
        rw [if_neg hz] at hq
        have HH3 := Aside0.mk hq
        have hz1 : (9223372036854775807 < line.size + (1 + t1.size)) = False := eq_false hz
        have hz2 : (9223372036854775807 < 1 + t1.size) = False := eq_false (by omega)
        have hw : wrap64 ((i : Int) + 1) = ((i + 1 : Nat) : Int) := by
          have := HLS.out
          have := HX.out
          unfold wrap64
          omega
        clear HH2 hq hz
        go_wp2_with (first | (go_at_fn g; refine (HTE.out _ (by repeat (first | (with_reducible first | exact HR.out | apply below_alloc | apply pw_below_drewN | apply below_drew1) | exact HR.out))).mono ?_; rintro e w7 ⟨rfl, hb⟩; have n0_ := Aside0.mk (below_step (by repeat (first | (with_reducible first | exact HB.out | apply below_alloc | apply pw_below_drewN | apply below_drew1) | exact HB.out)) hb); have n1_ := Aside0.mk (blk_below (by (with_reducible repeat (first | refine blk_drewN ?_ _ | refine blk_drew ?_ | refine blk_alloc ?_ _)); exact BK.out) hb); have n2_ := Aside0.mk (below_step (by repeat (first | (with_reducible first | exact HR.out | apply below_alloc | apply pw_below_drewN | apply below_drew1) | exact HR.out)) hb); (try clear hcz_0 hcz_1 hcz_2 hcz_3 hcz_4 hcz_5 hcz_6); clear HB BK HR hb; have HB := n0_; have BK := n1_; have HR := n2_; clear n0_ n1_ n2_))
        go_roundg (ls.length - (i + 1))
        case measure => have := HX.out; have := HI.out; omega
        case rel => exact ⟨i + 1, _, (by first | rfl | (simp; done) | go_num | (simp [*]; done)), rfl, ⟨by have := HX.out; omega⟩, HH3, ⟨(by (with_reducible repeat (first | refine blk_drewN ?_ _ | refine blk_drew ?_ | refine blk_alloc ?_ _)); exact BK.out)⟩, ⟨(by repeat (first | (with_reducible first | exact HB.out | apply below_alloc | apply pw_below_drewN | apply below_drew1) | exact HB.out))⟩, ⟨HFL.out.below (by repeat (first | (with_reducible first | exact HR.out | apply below_alloc | apply pw_below_drewN | apply below_drew1) | exact HR.out))⟩⟩
    · have hlt : decide ((i : Int) < (ls.length : Int)) = false := decide_eq_false (by omega)
      have hd : ls.drop i = [] := List.drop_eq_nil_of_le (by omega)
      have hq := HH.out
      rw [hd] at hq
      have hq' := Option.some.inj (show some (if 100 < line.size then ((⟨#[]⟩ : ByteArray), false) else (line, true)) = some (r1, r2) from hq)
      clear hq hd HH
      by_cases hz : 100 < line.size
      · rw [if_pos hz] at hq'
        obtain ⟨rfl, rfl⟩ := Prod.mk.inj hq'
        have hz1 : decide ((line.size : Int) > 100) = true := decide_eq_true (by omega)
        have hz2 : decide (100 < (line.size : Int)) = true := decide_eq_true (by omega)
        have hz3 : decide (100 < line.size) = true := decide_eq_true hz
        clear hz hq'
        go_wp2
        go_ret2
        exact ⟨rfl, (by repeat (first | (with_reducible first | exact HB.out | apply below_alloc | apply pw_below_drewN | apply below_drew1) | exact HB.out))⟩
      · rw [if_neg hz] at hq'
        obtain ⟨rfl, rfl⟩ := Prod.mk.inj hq'
        have hz1 : decide ((line.size : Int) > 100) = false := decide_eq_false (by omega)
        have hz2 : decide (100 < (line.size : Int)) = false := decide_eq_false (by omega)
        have hz3 : decide (100 < line.size) = false := decide_eq_false hz
        clear hz hq'
        go_wp2
        go_ret2
        exact ⟨rfl, (by repeat (first | (with_reducible first | exact HB.out | apply below_alloc | apply pw_below_drewN | apply below_drew1) | exact HB.out))⟩
theorem format_c (a0 a1 a2 a3 a4 a5 : Int) (a6 : ByteArray) (r1 : ByteArray) (r2 : Bool) (w : World) (hrP : PowAt w) (h : fmtF a0 a1 a2 a3 a4 a5 a6 = some (r1, r2)) :
    Calls Tryz.prog 11 #[.agg #[.int .i64 a0, .int .i64 a1, .int .i64 a2, .int .i64 a3, .int .i64 a4, .int .i64 a5, .string a6]] w fun e w' => e = .returned (.tuple #[.string r1, .bool r2]) ∧ Below w.heap.size w w' := by
  unfold fmtF at h
  by_cases h0 : a0 < 1
  · rw [if_pos h0] at h
    obtain ⟨rfl, rfl⟩ := Prod.mk.inj (Option.some.inj h)
    exact format_low a0 a1 a2 a3 a4 a5 a6 h0 w
  rw [if_neg h0] at h
  by_cases h1 : 21 < a0
  · rw [if_pos h1] at h
    obtain ⟨rfl, rfl⟩ := Prod.mk.inj (Option.some.inj h)
    exact format_high a0 a1 a2 a3 a4 a5 a6 h0 h1 w
  rw [if_neg h1] at h
  exact format_mid a0 a1 a2 a3 a4 a5 a6 h0 h1 r1 r2 w hrP h
end Go.Proofs.YtjhodgcjkobpoaaGreatDoor.FFormat
