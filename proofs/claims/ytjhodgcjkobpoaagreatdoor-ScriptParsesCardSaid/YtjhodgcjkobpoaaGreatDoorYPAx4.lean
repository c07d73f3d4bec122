-- Laid by wip/myprint.py, a driver over the kit's print, for this claim: a lemma's text, not read by a person.
import Derived.Test.YtjhodgcjkobpoaaGreatDoorShelf
import Derived.Test.YtjhodgcjkobpoaaGreatDoorYPAx0
import Derived.Test.YtjhodgcjkobpoaaGreatDoorYPAx3
namespace Go.Proofs.YtjhodgcjkobpoaaGreatDoor.PA
open Go.RowKit Go.Proofs.YtjhodgcjkobpoaaGreatDoorW.PrintWords Go.Proofs.YtjhodgcjkobpoaaGreatDoorW.PrintLast Go.Proofs.YtjhodgcjkobpoaaGreatDoorW.PrintMore
attribute [local go_sem] max2_int min2_int max_two min_two max_three min_three max_four min_four   -- for this text's walks alone
set_option linter.unusedVariables false
set_option linter.unusedSimpArgs false

/-! ### money_Format: function 56 -/
-- ALONE
def money_Format.dd (n : Nat) : List Int := (Lib.decDigits n).map fun b => (b.toNat : Int)
def money_Format.f (a0 : Int) : Option (ByteArray) := (money_magnitude.f a0).bind fun m => if 0 ≤ m ∧ m ≤ 18446744073709551615 then some (strOfNums ((if a0 < 0 then [45] else []) ++ money_Format.dd (m.toNat / 100) ++ [46, 48 + m % 100 / 10, 48 + m % 10])) else none
theorem infoU8 : (Tryz.prog.info? 5).map (fun i => (i.zero, i.size, i.bytes)) = some (some (.int .u8 0), 1, 1) := by kernel_rfl
/-- make([]byte, 0, 24). -/
theorem room_event {ops : Array Oper} {rest : List Oper} {o : Oper} {a : Act} {Q : Exit → Act → World → Prop} {W : World} (hgd : o.guard = none) {N : Tmp} (_hd : o.dst = some N) {x y : Operand}
    (ho : o.op = .makeSlice 22 x y) (hx : a.eval x = .int .i64 0) (hy : a.eval y = .int .i64 24)
    (h : ∀ v w1, (Kd.int .u8).R 5 w1 W.heap.size (fun _ => True) v [] → Below W.heap.size W w1 → wpList Tryz.prog ops Q rest (a.put o.dst v) w1) : wpList Tryz.prog ops Q (o :: rest) a W := by
  obtain ⟨i0, hi, hzz⟩ := Option.map_eq_some_iff.1 infoU8
  simp only [Prod.mk.injEq] at hzz
  obtain ⟨hz0, hz1, hz2⟩ := hzz
  have hr := run_make (P := Tryz.prog) W 22 5 i0 (.int .u8 0) Tryz.underlying22 hi hz0 .i64 .i64 0 24 (by omega) (by omega) (by rw [hz2]; decide) (by omega)
  rw [hz1] at hr
  refine Kd.event_run hgd (v := .slice (some ⟨W.heap.size, 0, none⟩) 0 24) (w1 := W.alloc (.cells (madeCells (Value.int .u8 0).cells 24) 5)) ?_ (h _ _ ?_ (below_alloc (Below.refl _ _) _))
  · simp [execOp, ho, hx, hy, hr, Result.andThen]
  · exact Kd.R_of_own ⟨rfl, .inr ⟨W.heap.size, 24, _, rfl, Nat.le_refl _, blk_new W _, Nat.zero_le _, by decide, by simp [size_madeCells], rfl⟩⟩ (fun _ _ => trivial)
theorem lit_event {P : Program} {ops : Array Oper} {rest : List Oper} {o : Oper} {a : Act} {Q : Exit → Act → World → Prop} {W : World} (hgd : o.guard = none) {N : Tmp} (_hd : o.dst = some N) {cs : Array Value} {t : TypeId} {n : Nat}
    (hrun : (execOp a.eval o).run P W = .ok (.value (.slice (some ⟨W.heap.size, 0, none⟩) n n)) (W.alloc (.cells cs t (0, 0))))
    (h : ∀ g, g = W.heap.size → ∀ w1, w1.heap[g]? = some (.cells cs t (0, 0)) → Below W.heap.size W w1 → wpList P ops Q rest (a.put o.dst (.slice (some ⟨g, 0, none⟩) n n)) w1) : wpList P ops Q (o :: rest) a W :=
  Kd.event_run hgd hrun (h _ rfl _ (blk_new W _) (below_alloc (Below.refl _ _) _))
theorem own_elder {W w1 : World} {b : Nat} {v : Value} {xs : List Int} (h : (Kd.int .u8).R 5 W b (fun _ => True) v xs) (hb : Below W.heap.size W w1) : (Kd.int .u8).R 5 w1 b (fun _ => True) v xs :=
  Kd.R_mono (Kd.R_below (Kd.R_bound h) hb) (fun _ _ => trivial)
theorem lit_reads {W : World} {g : Nat} {ys : List Int} (h : W.heap[g]? = some (.cells (ys.map (Value.int .u8)).toArray 5 (0, 0))) (hl : ys.length ≤ 100) : ReadsRow (fun x cs => cs = [.int .u8 x]) (Kd.int .u8).sz W (some ⟨g, 0, none⟩) ys.length ys := by
  refine ⟨rfl, by omega, fun _ => ⟨_, rfl, fun j p hj => ⟨[.int .u8 p], rfl, rfl, fun i u hu => ?_⟩⟩⟩
  cases i with
  | zero =>
    obtain rfl := Option.some.inj hu
    have e : (⟨g, 0, none⟩ : Addr).add (j * (Kd.int .u8).sz + 0) = ⟨g, j, none⟩ := by
      show (⟨g, 0, none⟩ : Addr).add (j * 1 + 0) = _
      unfold Addr.add
      split
      · rename_i h; simp [h]
      · simp
    obtain ⟨hjl, hp⟩ := List.getElem?_eq_some_iff.1 hj
    rw [e, blk_cell h j]
    simp [hjl, hp]
  | succ i => simp at hu
theorem appendUint (B : Nat) (u : Int) (h0 : 0 ≤ u) (h1 : u < 18446744073709551616) (v : Value) (xs : List Int) (w : World) (ho : (Kd.int .u8).R 5 w B (fun _ => True) v xs) (hB : B ≤ w.heap.size) (hl : xs.length ≤ 1000) (hp : PowAt w) :
    Calls Tryz.prog 79 #[v, .int .u64 u, .int .i64 10] w fun e w' => ∃ v', e = .returned v' ∧ (Kd.int .u8).R 5 w' B (fun _ => True) v' (xs ++ money_Format.dd u.toNat) ∧ Below B w w' := by
  obtain ⟨n, rfl⟩ := Int.eq_ofNat_of_zero_le h0
  have hown := Kd.own_of_R ho
  go_enter Tryz.func79, Tryz.ntmps79
  go_wp2_with (first | ((with_reducible refine gate_callee (f := 90) rfl ?_); refine goesL_ (some 10) rfl rfl Tryz.func90 (by kernel_rfl) rfl #[v, .int .u64 n, .int .i64 10] rfl (by (try simp only [List.map_toArray, List.map_cons, List.map_nil]); first | done | rfl) ?_; refine (Tryz.internal_strconv_AppendUint_10 B xs.length n (by omega) v _ _ hown hB (by omega) (PowAt_tab hp)).mono ?_; rintro e w1 ⟨v1, rfl, ho1, hb1, _⟩; refine ⟨_, rfl, ?_⟩))
  go_ret
  refine ⟨_, rfl, ?_, hb1⟩
  refine Kd.R_of_own ?_ (fun _ _ => trivial)
  have e1 : (xs ++ money_Format.dd (n : Int).toNat).length = xs.length + (Lib.decDigits n).length := by simp [money_Format.dd]
  have e2 : encs (Value.int .u8) (xs ++ money_Format.dd (n : Int).toNat) = encs (Value.int .u8) xs ++ Lib.byteCells (Lib.decDigits n) := by
    simp [encs, money_Format.dd, Lib.byteCells, Function.comp_def]
  rw [e1]
  exact (show w1.ownsRow B 5 1 v1 (xs.length + (Lib.decDigits n).length) (encs (Value.int .u8) (xs ++ money_Format.dd (n : Int).toNat)) from e2 ▸ ho1)
theorem conv_own {W : World} {b : Nat} {v : Value} {xs : List Int} (h : (Kd.int .u8).R 5 W b (fun _ => True) v xs) : (convert 22 9 v).run Tryz.prog W = .ok (.string (strOfNums xs)) W :=
  own_string (base := b) (n := xs.length) Tryz.underlying22 Tryz.underlying5 Tryz.underlying9 (Kd.own_of_R h)
theorem nd_short : ∀ (d u : Nat), u < 10 ^ d → 1 ≤ d → Lib.nDigits u ≤ d
  | 0, _, _, h => absurd h (by omega)
  | d + 1, u, h, _ => by
    by_cases c : u < 10
    · rw [Lib.nDigits_small c]; omega
    · rw [Lib.nDigits_big c]
      rcases Nat.eq_zero_or_pos d with rfl | hd
      · exact absurd h (by simpa using c)
      · have h2 : u / 10 < 10 ^ d := by
          rw [Nat.pow_succ] at h
          generalize 10 ^ d = q at h ⊢
          omega
        have := nd_short d (u / 10) h2 hd
        omega
theorem dd_short (m : Int) (h0 : 0 ≤ m) (h1 : m ≤ 18446744073709551615) : (money_Format.dd (m / 100).toNat).length ≤ 20 := by
  unfold money_Format.dd
  rw [List.length_map, Lib.decDigits_length]
  exact nd_short 20 _ (by omega) (by omega)
theorem ddiv (m : Int) (h0 : 0 ≤ m) : m.toNat / 100 = (m / 100).toNat := by omega
set_option maxHeartbeats 4000000 in
set_option maxRecDepth 100000 in
theorem money_Format.calls (a0 : Int) (r : ByteArray) (w : World) (hrP : PowAt w) (h : money_Format.f a0 = some r) :
    Calls Tryz.prog 56 #[.int .i64 a0] w fun e w' => e = .returned (.string r) ∧ Below w.heap.size w w' := by
  have HRP := Aside0.mk hrP
  clear hrP
  have HB := Aside0.mk (Below.refl w.heap.size w)
  obtain ⟨m, A10, H⟩ := Option.bind_eq_some_iff.mp h
  clear h
  have A1 := Aside0.mk A10
  clear A10
  by_cases hm : 0 ≤ m ∧ m ≤ 18446744073709551615
  case neg => rw [if_neg hm] at H; cases H
  rw [if_pos hm] at H
  obtain ⟨hm0, hm1⟩ := hm
  obtain rfl := Option.some.inj H
  clear H
  by_cases c1 : a0 < 0
  · have c1b : decide (a0 < 0) = true := decide_eq_true c1
    rw [if_pos c1]
    clear c1
    go_enter Tryz.func56, Tryz.ntmps56
    go_wp2_with (first | ((with_reducible refine gate_callee (f := 78) rfl ?_); refine goesL_ (some 7) rfl rfl Tryz.func78 (by kernel_rfl) rfl #[.int .i64 a0] rfl (by (try simp only [List.map_toArray, List.map_cons, List.map_nil]); first | done | rfl) ?_; (with_reducible refine (money_magnitude.calls a0 m _ A1.out).mono ?_); rintro e w1 ⟨rfl, ⟨nd, rfl⟩⟩; refine ⟨_, rfl, ?_⟩) | ((with_reducible refine gate_dst (N := 8) rfl ?_); refine room_event ?hg (N := 8) ?hd (x := .const (.int .i64 0)) (y := .const (.int .i64 24)) ?ho ?hx ?hy ?_; (case hd => rfl); (case hg => rfl); (case ho => rfl); (case hx => rfl); (case hy => rfl); intro v2 w2 ho hb; have n0_ := Aside0.mk (below_step (by repeat (first | (with_reducible first | exact HB.out | apply below_alloc | apply pw_below_drewN | apply below_drew1) | exact HB.out)) hb); have n1_ := Aside0.mk (Kd.R_lower ho (below_size (by repeat (first | (with_reducible first | exact HB.out | apply below_alloc | apply pw_below_drewN | apply below_drew1) | exact HB.out)))); clear HB; have HB := n0_; have HO := n1_; clear n0_ n1_ ho hb) | ((with_reducible refine gate_dst (N := 12) rfl ?_); refine lit_event ?hg (N := 12) ?hd (n := 1) (cs := #[.int .u8 45]) (t := 5) ?hr ?_; (case hd => rfl); (case hg => rfl); (case hr => first | (go_simp; done) | (go_simp; rfl)); intro gl12 hg w3 hbox hb; have n0_ := Aside0.mk (below_step (by repeat (first | (with_reducible first | exact HB.out | apply below_alloc | apply pw_below_drewN | apply below_drew1) | exact HB.out)) hb); have n1_ := Aside0.mk (own_elder (by (with_reducible repeat (first | apply Kd.R_alloc | apply Kd.R_drewN | apply Kd.R_drew)); exact HO.out) hb); have n2_ := Aside0.mk hbox; clear HB HO; have HB := n0_; have HO := n1_; have HL12 := n2_; clear n0_ n1_ n2_ hg hb hbox) | ((with_reducible refine gate_builtin (b := .append) (xs := #[.tmp 11, .tmp 12]) rfl ?_); at_builtin; refine Kd.R_append_rows (Kd.int .u8) (Rr := fun x cs => cs = [.int .u8 x]) (w0 := w) w.heap.size rfl (.tmp 11) (.tmp 12) 22 5 (.int .u8 0) 1 rfl Tryz.underlying22 infoU8 rfl (by decide) (by omega) _ [] [45] _ _ _ (fun _ => True) (fun _ => False) rfl rfl ?aO ?aR (fun _ _ h => h) (fun _ h => h.elim) ?aF ?aB ?aS ?aL ?_; (case aR => exact lit_reads HL12.out (by simp)); (case aB => exact (by repeat (first | (with_reducible first | exact HB.out | apply below_alloc | apply pw_below_drewN | apply below_drew1) | exact HB.out))); (case aF => exact (fun _ _ => trivial)); (case aO => exact (by (with_reducible repeat (first | apply Kd.R_alloc | apply Kd.R_drewN | apply Kd.R_drew)); exact HO.out)); (case aS => exact (below_size (by repeat (first | (with_reducible first | exact HB.out | apply below_alloc | apply pw_below_drewN | apply below_drew1) | exact HB.out)))); (case aL => (have hdl := dd_short m hm0 hm1; first | (simp; done) | (simp only [List.length_append, List.length_cons, List.length_nil]; omega))); intro v4 w4 ho hb hg hat; have n0_ := Aside0.mk hb; have n1_ := Aside0.mk ho; clear HB HO HL12; have HB := n0_; have HO := n1_; clear n0_ n1_ ho hb hg hat) | ((with_reducible refine gate_callee (f := 79) rfl ?_); refine goesL_ (some 17) rfl rfl Tryz.func79 (by kernel_rfl) rfl #[v4, .int .u64 (m / 100), .int .i64 10] rfl (by (try simp only [List.map_toArray, List.map_cons, List.map_nil]); first | done | rfl) ?_; refine (appendUint w.heap.size (m / 100) (by omega) (by omega) _ _ _ (by (with_reducible repeat (first | apply Kd.R_alloc | apply Kd.R_drewN | apply Kd.R_drew)); exact HO.out) (below_size (by repeat (first | (with_reducible first | exact HB.out | apply below_alloc | apply pw_below_drewN | apply below_drew1) | exact HB.out))) (by simp) (PowAt_below HRP.out (by repeat (first | (with_reducible first | exact HB.out | apply below_alloc | apply pw_below_drewN | apply below_drew1) | exact HB.out)))).mono ?_; rintro e w5 ⟨v5, rfl, ho, hb⟩; refine ⟨_, rfl, ?_⟩; have n0_ := Aside0.mk (Below.trans (by repeat (first | (with_reducible first | exact HB.out | apply below_alloc | apply pw_below_drewN | apply below_drew1) | exact HB.out)) hb); have n1_ := Aside0.mk ho; clear HB HO; have HB := n0_; have HO := n1_; clear n0_ n1_ ho hb) | ((with_reducible refine gate_dst (N := 28) rfl ?_); refine lit_event ?hg (N := 28) ?hd (n := 3) (cs := #[.int .u8 46, .int .u8 (48 + m % 100 / 10), .int .u8 (48 + m % 10)]) (t := 5) ?hr ?_; (case hd => rfl); (case hg => rfl); (case hr => first | (go_simp; done) | (go_simp; rfl)); intro gl28 hg w6 hbox hb; have n0_ := Aside0.mk (below_step (by repeat (first | (with_reducible first | exact HB.out | apply below_alloc | apply pw_below_drewN | apply below_drew1) | exact HB.out)) hb); have n1_ := Aside0.mk (own_elder (by (with_reducible repeat (first | apply Kd.R_alloc | apply Kd.R_drewN | apply Kd.R_drew)); exact HO.out) hb); have n2_ := Aside0.mk hbox; clear HB HO; have HB := n0_; have HO := n1_; have HL28 := n2_; clear n0_ n1_ n2_ hg hb hbox) | ((with_reducible refine gate_builtin (b := .append) (xs := #[.tmp 21, .tmp 28]) rfl ?_); at_builtin; refine Kd.R_append_rows (Kd.int .u8) (Rr := fun x cs => cs = [.int .u8 x]) (w0 := w) w.heap.size rfl (.tmp 21) (.tmp 28) 22 5 (.int .u8 0) 1 rfl Tryz.underlying22 infoU8 rfl (by decide) (by omega) _ ([] ++ [45] ++ (money_Format.dd (m / 100).toNat)) [46, 48 + m % 100 / 10, 48 + m % 10] _ _ _ (fun _ => True) (fun _ => False) rfl rfl ?aO ?aR (fun _ _ h => h) (fun _ h => h.elim) ?aF ?aB ?aS ?aL ?_; (case aR => exact lit_reads HL28.out (by simp)); (case aB => exact (by repeat (first | (with_reducible first | exact HB.out | apply below_alloc | apply pw_below_drewN | apply below_drew1) | exact HB.out))); (case aF => exact (fun _ _ => trivial)); (case aO => exact (by (with_reducible repeat (first | apply Kd.R_alloc | apply Kd.R_drewN | apply Kd.R_drew)); exact HO.out)); (case aS => exact (below_size (by repeat (first | (with_reducible first | exact HB.out | apply below_alloc | apply pw_below_drewN | apply below_drew1) | exact HB.out)))); (case aL => (have hdl := dd_short m hm0 hm1; first | (simp; done) | (simp only [List.length_append, List.length_cons, List.length_nil]; omega))); intro v7 w7 ho hb hg hat; have n0_ := Aside0.mk hb; have n1_ := Aside0.mk ho; clear HB HO HL28; have HB := n0_; have HO := n1_; clear n0_ n1_ ho hb hg hat))
    rw [conv_own HO.out]
    go_wp2
    go_ret
    exact ⟨by first | rfl | (simp [ddiv m hm0]; done), (by repeat (first | (with_reducible first | exact HB.out | apply below_alloc | apply pw_below_drewN | apply below_drew1) | exact HB.out))⟩
  · have c1b : decide (a0 < 0) = false := decide_eq_false c1
    rw [if_neg c1]
    go_enter Tryz.func56, Tryz.ntmps56
    go_wp2_with (first | ((with_reducible refine gate_callee (f := 78) rfl ?_); refine goesL_ (some 7) rfl rfl Tryz.func78 (by kernel_rfl) rfl #[.int .i64 a0] rfl (by (try simp only [List.map_toArray, List.map_cons, List.map_nil]); first | done | rfl) ?_; (with_reducible refine (money_magnitude.calls a0 m _ A1.out).mono ?_); rintro e w1 ⟨rfl, ⟨nd, rfl⟩⟩; refine ⟨_, rfl, ?_⟩) | ((with_reducible refine gate_dst (N := 8) rfl ?_); refine room_event ?hg (N := 8) ?hd (x := .const (.int .i64 0)) (y := .const (.int .i64 24)) ?ho ?hx ?hy ?_; (case hd => rfl); (case hg => rfl); (case ho => rfl); (case hx => rfl); (case hy => rfl); intro v2 w2 ho hb; have n0_ := Aside0.mk (below_step (by repeat (first | (with_reducible first | exact HB.out | apply below_alloc | apply pw_below_drewN | apply below_drew1) | exact HB.out)) hb); have n1_ := Aside0.mk (Kd.R_lower ho (below_size (by repeat (first | (with_reducible first | exact HB.out | apply below_alloc | apply pw_below_drewN | apply below_drew1) | exact HB.out)))); clear HB; have HB := n0_; have HO := n1_; clear n0_ n1_ ho hb) | ((with_reducible refine gate_callee (f := 79) rfl ?_); refine goesL_ (some 17) rfl rfl Tryz.func79 (by kernel_rfl) rfl #[v2, .int .u64 (m / 100), .int .i64 10] rfl (by (try simp only [List.map_toArray, List.map_cons, List.map_nil]); first | done | rfl) ?_; refine (appendUint w.heap.size (m / 100) (by omega) (by omega) _ _ _ (by (with_reducible repeat (first | apply Kd.R_alloc | apply Kd.R_drewN | apply Kd.R_drew)); exact HO.out) (below_size (by repeat (first | (with_reducible first | exact HB.out | apply below_alloc | apply pw_below_drewN | apply below_drew1) | exact HB.out))) (by simp) (PowAt_below HRP.out (by repeat (first | (with_reducible first | exact HB.out | apply below_alloc | apply pw_below_drewN | apply below_drew1) | exact HB.out)))).mono ?_; rintro e w5 ⟨v5, rfl, ho, hb⟩; refine ⟨_, rfl, ?_⟩; have n0_ := Aside0.mk (Below.trans (by repeat (first | (with_reducible first | exact HB.out | apply below_alloc | apply pw_below_drewN | apply below_drew1) | exact HB.out)) hb); have n1_ := Aside0.mk ho; clear HB HO; have HB := n0_; have HO := n1_; clear n0_ n1_ ho hb) | ((with_reducible refine gate_dst (N := 28) rfl ?_); refine lit_event ?hg (N := 28) ?hd (n := 3) (cs := #[.int .u8 46, .int .u8 (48 + m % 100 / 10), .int .u8 (48 + m % 10)]) (t := 5) ?hr ?_; (case hd => rfl); (case hg => rfl); (case hr => first | (go_simp; done) | (go_simp; rfl)); intro gl28 hg w6 hbox hb; have n0_ := Aside0.mk (below_step (by repeat (first | (with_reducible first | exact HB.out | apply below_alloc | apply pw_below_drewN | apply below_drew1) | exact HB.out)) hb); have n1_ := Aside0.mk (own_elder (by (with_reducible repeat (first | apply Kd.R_alloc | apply Kd.R_drewN | apply Kd.R_drew)); exact HO.out) hb); have n2_ := Aside0.mk hbox; clear HB HO; have HB := n0_; have HO := n1_; have HL28 := n2_; clear n0_ n1_ n2_ hg hb hbox) | ((with_reducible refine gate_builtin (b := .append) (xs := #[.tmp 21, .tmp 28]) rfl ?_); at_builtin; refine Kd.R_append_rows (Kd.int .u8) (Rr := fun x cs => cs = [.int .u8 x]) (w0 := w) w.heap.size rfl (.tmp 21) (.tmp 28) 22 5 (.int .u8 0) 1 rfl Tryz.underlying22 infoU8 rfl (by decide) (by omega) _ ([] ++ (money_Format.dd (m / 100).toNat)) [46, 48 + m % 100 / 10, 48 + m % 10] _ _ _ (fun _ => True) (fun _ => False) rfl rfl ?aO ?aR (fun _ _ h => h) (fun _ h => h.elim) ?aF ?aB ?aS ?aL ?_; (case aR => exact lit_reads HL28.out (by simp)); (case aB => exact (by repeat (first | (with_reducible first | exact HB.out | apply below_alloc | apply pw_below_drewN | apply below_drew1) | exact HB.out))); (case aF => exact (fun _ _ => trivial)); (case aO => exact (by (with_reducible repeat (first | apply Kd.R_alloc | apply Kd.R_drewN | apply Kd.R_drew)); exact HO.out)); (case aS => exact (below_size (by repeat (first | (with_reducible first | exact HB.out | apply below_alloc | apply pw_below_drewN | apply below_drew1) | exact HB.out)))); (case aL => (have hdl := dd_short m hm0 hm1; first | (simp; done) | (simp only [List.length_append, List.length_cons, List.length_nil]; omega))); intro v7 w7 ho hb hg hat; have n0_ := Aside0.mk hb; have n1_ := Aside0.mk ho; clear HB HO HL28; have HB := n0_; have HO := n1_; clear n0_ n1_ ho hb hg hat))
    rw [conv_own HO.out]
    go_wp2
    go_ret
    exact ⟨by first | rfl | (simp [ddiv m hm0]; done), (by repeat (first | (with_reducible first | exact HB.out | apply below_alloc | apply pw_below_drewN | apply below_drew1) | exact HB.out))⟩

end Go.Proofs.YtjhodgcjkobpoaaGreatDoor.PA
