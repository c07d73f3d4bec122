/- script.kindOf by hand: the kind that a word begins. Conditions: the table of names stands as laid. -/
import Derived.Test.YtjhodgcjkobpoaaGreatDoorYFRead
import Derived.Deep.LoopGhost
namespace Go.Proofs.YtjhodgcjkobpoaaGreatDoor.FKind
open Go.RowKit Go.Proofs.YtjhodgcjkobpoaaGreatDoorW.PrintWords Go.Proofs.YtjhodgcjkobpoaaGreatDoorW.PrintLast Go.Proofs.YtjhodgcjkobpoaaGreatDoorW.PrintMore Go.Proofs.YtjhodgcjkobpoaaGreatDoor.PA Go.Proofs.YtjhodgcjkobpoaaGreatDoor.FRead
set_option linter.unusedVariables false
set_option linter.unusedSimpArgs false
/-- The first place from i on at which the word stands, 0 left out. -/
def kf (s : ByteArray) : List ByteArray → Nat → Int
  | [], _ => 0
  | n :: l, i => if 0 < i ∧ n.toList = s.toList then (i : Int) else kf s l (i + 1)
def kindP (s : ByteArray) : Int := kf s namesL 0
def namesV : Value := .agg (namesL.map Value.string).toArray
theorem names_at0 (w : World) : (Instr.index 63 namesV (.int .i64 0)).run Tryz.prog w = .ok (.string ⟨#[]⟩) w := by kernel_rfl
theorem names_at1 (w : World) : (Instr.index 63 namesV (.int .i64 1)).run Tryz.prog w = .ok (.string ⟨#[111, 112, 101, 110]⟩) w := by kernel_rfl
theorem names_at2 (w : World) : (Instr.index 63 namesV (.int .i64 2)).run Tryz.prog w = .ok (.string ⟨#[112, 97, 121]⟩) w := by kernel_rfl
theorem names_at3 (w : World) : (Instr.index 63 namesV (.int .i64 3)).run Tryz.prog w = .ok (.string ⟨#[114, 101, 116, 117, 114, 110]⟩) w := by kernel_rfl
theorem names_at4 (w : World) : (Instr.index 63 namesV (.int .i64 4)).run Tryz.prog w = .ok (.string ⟨#[114, 101, 102, 117, 110, 100]⟩) w := by kernel_rfl
theorem names_at5 (w : World) : (Instr.index 63 namesV (.int .i64 5)).run Tryz.prog w = .ok (.string ⟨#[119, 97, 105, 118, 101]⟩) w := by kernel_rfl
theorem names_at6 (w : World) : (Instr.index 63 namesV (.int .i64 6)).run Tryz.prog w = .ok (.string ⟨#[112, 114, 111, 109, 105, 115, 101]⟩) w := by kernel_rfl
theorem names_at7 (w : World) : (Instr.index 63 namesV (.int .i64 7)).run Tryz.prog w = .ok (.string ⟨#[114, 101, 115, 116, 114, 117, 99, 116, 117, 114, 101]⟩) w := by kernel_rfl
theorem names_at8 (w : World) : (Instr.index 63 namesV (.int .i64 8)).run Tryz.prog w = .ok (.string ⟨#[100, 97, 121]⟩) w := by kernel_rfl
theorem names_at9 (w : World) : (Instr.index 63 namesV (.int .i64 9)).run Tryz.prog w = .ok (.string ⟨#[116, 105, 99, 107]⟩) w := by kernel_rfl
theorem names_at10 (w : World) : (Instr.index 63 namesV (.int .i64 10)).run Tryz.prog w = .ok (.string ⟨#[102, 97, 116, 101]⟩) w := by kernel_rfl
theorem names_at11 (w : World) : (Instr.index 63 namesV (.int .i64 11)).run Tryz.prog w = .ok (.string ⟨#[99, 97, 108, 109]⟩) w := by kernel_rfl
theorem names_at12 (w : World) : (Instr.index 63 namesV (.int .i64 12)).run Tryz.prog w = .ok (.string ⟨#[99, 114, 97, 115, 104]⟩) w := by kernel_rfl
theorem names_at13 (w : World) : (Instr.index 63 namesV (.int .i64 13)).run Tryz.prog w = .ok (.string ⟨#[99, 111, 109, 112, 97, 99, 116]⟩) w := by kernel_rfl
theorem names_at14 (w : World) : (Instr.index 63 namesV (.int .i64 14)).run Tryz.prog w = .ok (.string ⟨#[114, 101, 115, 116, 97, 114, 116]⟩) w := by kernel_rfl
theorem names_at15 (w : World) : (Instr.index 63 namesV (.int .i64 15)).run Tryz.prog w = .ok (.string ⟨#[108, 111, 97, 110]⟩) w := by kernel_rfl
theorem names_at16 (w : World) : (Instr.index 63 namesV (.int .i64 16)).run Tryz.prog w = .ok (.string ⟨#[112, 108, 97, 110]⟩) w := by kernel_rfl
theorem names_at17 (w : World) : (Instr.index 63 namesV (.int .i64 17)).run Tryz.prog w = .ok (.string ⟨#[98, 111, 111, 107, 115]⟩) w := by kernel_rfl
theorem names_at18 (w : World) : (Instr.index 63 namesV (.int .i64 18)).run Tryz.prog w = .ok (.string ⟨#[97, 103, 105, 110, 103]⟩) w := by kernel_rfl
theorem names_at19 (w : World) : (Instr.index 63 namesV (.int .i64 19)).run Tryz.prog w = .ok (.string ⟨#[110, 111, 116, 105, 99, 101, 115]⟩) w := by kernel_rfl
theorem names_at20 (w : World) : (Instr.index 63 namesV (.int .i64 20)).run Tryz.prog w = .ok (.string ⟨#[116, 105, 109, 101, 114, 115]⟩) w := by kernel_rfl
theorem names_at21 (w : World) : (Instr.index 63 namesV (.int .i64 21)).run Tryz.prog w = .ok (.string ⟨#[116, 111, 100, 97, 121]⟩) w := by kernel_rfl
theorem names_at (i : Nat) (n : ByteArray) (h : namesL[i]? = some n) (w : World) : (Instr.index 63 namesV (.int .i64 (i : Int))).run Tryz.prog w = .ok (.string n) w := by
  match i, h with
  | 0, h => obtain rfl := Option.some.inj h; exact names_at0 w
  | 1, h => obtain rfl := Option.some.inj h; exact names_at1 w
  | 2, h => obtain rfl := Option.some.inj h; exact names_at2 w
  | 3, h => obtain rfl := Option.some.inj h; exact names_at3 w
  | 4, h => obtain rfl := Option.some.inj h; exact names_at4 w
  | 5, h => obtain rfl := Option.some.inj h; exact names_at5 w
  | 6, h => obtain rfl := Option.some.inj h; exact names_at6 w
  | 7, h => obtain rfl := Option.some.inj h; exact names_at7 w
  | 8, h => obtain rfl := Option.some.inj h; exact names_at8 w
  | 9, h => obtain rfl := Option.some.inj h; exact names_at9 w
  | 10, h => obtain rfl := Option.some.inj h; exact names_at10 w
  | 11, h => obtain rfl := Option.some.inj h; exact names_at11 w
  | 12, h => obtain rfl := Option.some.inj h; exact names_at12 w
  | 13, h => obtain rfl := Option.some.inj h; exact names_at13 w
  | 14, h => obtain rfl := Option.some.inj h; exact names_at14 w
  | 15, h => obtain rfl := Option.some.inj h; exact names_at15 w
  | 16, h => obtain rfl := Option.some.inj h; exact names_at16 w
  | 17, h => obtain rfl := Option.some.inj h; exact names_at17 w
  | 18, h => obtain rfl := Option.some.inj h; exact names_at18 w
  | 19, h => obtain rfl := Option.some.inj h; exact names_at19 w
  | 20, h => obtain rfl := Option.some.inj h; exact names_at20 w
  | 21, h => obtain rfl := Option.some.inj h; exact names_at21 w
  | i + 22, h => cases h
theorem names_load (w : World) (hrP : PowAt w) : (loadVar 63 ⟨0, 0, none⟩).run Tryz.prog w = .ok namesV w := by
  obtain ⟨⟨o0, o2, o3, h0, h2, h3, k0, k2, k3⟩, _⟩ := hrP
  have hs := k0 w h0
  unfold StrIs World.var? at hs
  rw [show Tryz.prog.globalNamed "arrears/script.names" = some 0 by kernel_rfl, Option.bind_some, h0] at hs
  cases o0 with
  | cells cs t fr =>
    obtain rfl := Option.some.inj (show some cs = _ from hs)
    exact run_loadVar_row w 0 _ 63 _ _ _ h0 Tryz.underlying63 rfl (by kernel_rfl)
  | _ => cases hs
theorem names_event {ops : Array Oper} {rest : List Oper} {o : Oper} {a : Act} {Q : Exit → Act → World → Prop} {W : World} (hgd : o.guard = none) (ho : o.op = .load 63 (.global 0))
    (hl : (loadVar 63 ⟨0, 0, none⟩).run Tryz.prog W = .ok namesV W) (h : wpList Tryz.prog ops Q rest (a.put o.dst namesV) W) : wpList Tryz.prog ops Q (o :: rest) a W :=
  Kd.event_run hgd (v := namesV) (w1 := W) (by
    have e : Instr.loadAt 63 (.pointer (some ⟨0, 0, none⟩)) = loadVar 63 ⟨0, 0, none⟩ := rfl
    simp only [execOp, ho, Act.eval]
    simp [e, hl, Result.andThen]) h
set_option maxHeartbeats 8000000 in
set_option maxRecDepth 100000 in
theorem kind_c (s : ByteArray) (w : World) (hrP : PowAt w) :
    Calls Tryz.prog 27 #[.string s] w fun e w' => e = .returned (.int .i64 (kindP s)) ∧ Below w.heap.size w w' := by
  have hload := names_load w hrP
  clear hrP
  have HK : Aside0 (kf s namesL 0 = kindP s) := ⟨rfl⟩
  go_enter Tryz.func27, Tryz.ntmps27
  go_upto_region 2 with (first | ((with_reducible refine gate_dst (N := 5) rfl ?_); refine names_event rfl rfl hload ?_))
  clear hload
  go_loopg [6] 22 (fun kq v6 w' => ∃ i : Nat, v6 = .int .i64 (i : Int) ∧ Aside0 (i + kq = 22) ∧ Aside0 (kf s (namesL.drop i) i = kindP s) ∧ Aside0 (Below w.heap.size w w'))
  case atStart => exact ⟨0, rfl, ⟨rfl⟩, HK, ⟨Below.refl _ _⟩⟩
  case round =>
    obtain ⟨i, rfl, HI, HF, HB⟩ := hrel
    by_cases hx : i < 22
    · have hi : namesL[i]? = some (namesL[i]'hx) := List.getElem?_eq_getElem (show i < namesL.length from hx)
      have hat := fun w => names_at i _ hi w
      have hd : namesL.drop i = (namesL[i]'hx) :: namesL.drop (i + 1) := List.drop_eq_getElem_cons (show i < namesL.length from hx)
      have HQ := HF.out
      rw [hd] at HQ
      generalize (namesL[i]'hx) = n at *
      have HQ2 : Aside0 ((if 0 < i ∧ n.toList = s.toList then (i : Int) else kf s (namesL.drop (i + 1)) (i + 1)) = kindP s) := ⟨HQ⟩
      have hlt : decide ((i : Int) < 22) = true := decide_eq_true (by omega)
      have hw : wrap64 ((i : Int) + 1) = ((i + 1 : Nat) : Int) := by unfold wrap64; omega
      have HX := Aside0.mk hx
      clear hi hd HQ HF
      by_cases hz : 0 < i
      · have z1 : decide ((i : Int) > 0) = true := decide_eq_true (by omega)
        have z2 : decide (0 < (i : Int)) = true := decide_eq_true (by omega)
        have z3 : decide (0 < i) = true := decide_eq_true hz
        by_cases he : n.toList = s.toList
        · have e1 : (n.toList == s.toList) = true := beq_iff_eq.2 he
          have HR : Aside0 ((i : Int) = kindP s) := ⟨by have := HQ2.out; rwa [if_pos ⟨hz, he⟩] at this⟩
          clear he hx hz HQ2
          go_wp2
          go_ret
          exact ⟨by (rw [← HR.out]; try rfl), (by repeat (first | (with_reducible first | exact HB.out | apply below_alloc | apply pw_below_drewN | apply below_drew1) | exact HB.out))⟩
        · have e1 : (n.toList == s.toList) = false := beq_eq_false_iff_ne.2 he
          have HR : Aside0 (kf s (namesL.drop (i + 1)) (i + 1) = kindP s) := ⟨by have := HQ2.out; rwa [if_neg (fun h => he h.2)] at this⟩
          clear he hx hz HQ2
          go_wp2
          go_roundg (22 - (i + 1))
          case measure => have := HX.out; have := HI.out; omega
          case rel => exact ⟨i + 1, (by first | rfl | (simp; done) | go_num | (simp [*]; done)), ⟨by have := HX.out; omega⟩, HR, ⟨(by repeat (first | (with_reducible first | exact HB.out | apply below_alloc | apply pw_below_drewN | apply below_drew1) | exact HB.out))⟩⟩
      · have z1 : decide ((i : Int) > 0) = false := decide_eq_false (by omega)
        have z2 : decide (0 < (i : Int)) = false := decide_eq_false (by omega)
        have z3 : decide (0 < i) = false := decide_eq_false hz
        have HR : Aside0 (kf s (namesL.drop (i + 1)) (i + 1) = kindP s) := ⟨by have := HQ2.out; rwa [if_neg (fun h => hz h.1)] at this⟩
        clear hx hz HQ2
        go_wp2
        go_roundg (22 - (i + 1))
        case measure => have := HX.out; have := HI.out; omega
        case rel => exact ⟨i + 1, (by first | rfl | (simp; done) | go_num | (simp [*]; done)), ⟨by have := HX.out; omega⟩, HR, ⟨(by repeat (first | (with_reducible first | exact HB.out | apply below_alloc | apply pw_below_drewN | apply below_drew1) | exact HB.out))⟩⟩
    · have hlt : decide ((i : Int) < 22) = false := decide_eq_false (by omega)
      have HR : Aside0 (0 = kindP s) := ⟨by
        have := HF.out
        rw [List.drop_eq_nil_of_le (show namesL.length ≤ i from by show 22 ≤ i; omega)] at this
        exact this⟩
      clear hx HF
      go_wp2
      go_ret
      exact ⟨by (rw [← HR.out]; try rfl), (by repeat (first | (with_reducible first | exact HB.out | apply below_alloc | apply pw_below_drewN | apply below_drew1) | exact HB.out))⟩
end Go.Proofs.YtjhodgcjkobpoaaGreatDoor.FKind
