-- Laid by wip/myprint.py, a driver over the kit's print, for this claim: a lemma's text, not read by a person.
import Derived.Test.YtpglakfafanhoaaShelf
import Derived.Lib.IndexBytes
import Derived.Lib.Bytes
import Derived.Test.YtpglakfafanhoaaPAx0
namespace Go.Proofs.Ytpglakfafanhoaa.PA
open Go.RowKit Go.Proofs.YtpglakfafanhoaaW.PrintWords Go.Proofs.YtpglakfafanhoaaW.PrintLast Go.Proofs.YtpglakfafanhoaaW.PrintMore
attribute [local go_sem] max2_int min2_int max_two min_two max_three min_three max_four min_four   -- for this text's walks alone
set_option linter.unusedVariables false
set_option linter.unusedSimpArgs false

/-! ### script_Lines: function 6 -/
-- ALONE
/-- A line is kept if it is not empty and no remark. -/
def keepL (cur : List Int) : List (List Int) := if cur ≠ [] ∧ rd cur 0 ≠ 35 then [cur] else []
/-- The kept lines of a text, the first one begun already. -/
def scan : List Int → List Int → List (List Int)
  | [], cur => keepL cur
  | c :: t, cur => if c = 10 then keepL cur ++ scan t [] else scan t (cur ++ [c])
/-- The place of the first line's end; -1: there is none. -/
def idx10 : List Int → Int
  | [] => -1
  | c :: t => if c = 10 then 0 else if idx10 t = -1 then -1 else idx10 t + 1
theorem idx10_ge (t : List Int) : -1 ≤ idx10 t := by
  induction t with
  | nil => exact Int.le_refl _
  | cons c t ih =>
    unfold idx10
    split
    · omega
    · split <;> omega
theorem idx10_lt (t : List Int) : idx10 t < t.length := by
  induction t with
  | nil => decide
  | cons c t ih =>
    unfold idx10
    simp only [List.length_cons]
    split
    · omega
    · split <;> omega
theorem idx10_byte (t : List Int) (h : ∀ x ∈ t, 0 ≤ x ∧ x < 256) : Lib.indexByte (Lib.bytesOf t) 10 = idx10 t := by
  induction t with
  | nil => rfl
  | cons c t ih =>
    have hc := h c (by simp)
    have e : ((UInt8.ofNat c.toNat) == (10 : UInt8)) = decide (c = 10) := by
      obtain ⟨n, rfl⟩ := Int.eq_ofNat_of_zero_le hc.1
      have h1 : n < 256 := by omega
      rw [Bool.eq_iff_iff, beq_iff_eq, decide_eq_true_iff, Int.toNat_natCast]
      constructor
      · intro g
        have := congrArg UInt8.toNat g
        rw [UInt8.toNat_ofNat'] at this
        have h2 : (10 : UInt8).toNat = 10 := rfl
        omega
      · intro g
        rw [show n = 10 by omega]
        rfl
    show (if (UInt8.ofNat c.toNat) == 10 then 0 else if Lib.indexByte (Lib.bytesOf t) 10 == -1 then -1 else Lib.indexByte (Lib.bytesOf t) 10 + 1) = idx10 (c :: t)
    rw [ih (fun x hx => h x (by simp [hx])), e]
    show _ = (if c = 10 then 0 else if idx10 t = -1 then -1 else idx10 t + 1)
    simp
theorem index_nl (t : List Int) (h : ∀ x ∈ t, 0 ≤ x ∧ x < 256) : Lib.index (Lib.bytesOf t) (Lib.bytesOf [10]) = idx10 t := by
  rw [show Lib.bytesOf [10] = [10] from rfl, Lib.index_one, idx10_byte t h]
theorem scan_cons (c : Int) (t cur : List Int) : scan (c :: t) cur = if c = 10 then keepL cur ++ scan t [] else scan t (cur ++ [c]) := by rw [scan]
theorem scan_none (t : List Int) : ∀ cur, idx10 t = -1 → scan t cur = keepL (cur ++ t) := by
  induction t with
  | nil => intro cur _; simp [scan]
  | cons c t ih =>
    intro cur h
    unfold idx10 at h
    have hg := idx10_ge t
    by_cases hc : c = 10
    · rw [if_pos hc] at h; omega
    · rw [if_neg hc] at h
      rw [scan_cons]
      rw [if_neg hc, ih _ (by split at h <;> omega)]
      simp
theorem scan_at (t : List Int) : ∀ cur (i : Nat), idx10 t = i → scan t cur = keepL (cur ++ t.take i) ++ scan (t.drop (i + 1)) [] := by
  induction t with
  | nil => intro cur i h; simp [idx10] at h
  | cons c t ih =>
    intro cur i h
    unfold idx10 at h
    by_cases hc : c = 10
    · rw [if_pos hc] at h
      obtain rfl : i = 0 := by omega
      rw [scan_cons]
      rw [if_pos hc]
      simp
    · rw [if_neg hc] at h
      rw [scan_cons]
      rw [if_neg hc]
      by_cases h1 : idx10 t = -1
      · rw [if_pos h1] at h; omega
      · rw [if_neg h1] at h
        obtain ⟨j, rfl⟩ : ∃ j, i = j + 1 := ⟨i - 1, by have := idx10_ge t; omega⟩
        rw [ih _ j (by omega)]
        simp
theorem keepL_len (cur : List Int) : (keepL cur).length ≤ 1 := by
  unfold keepL
  split <;> simp
theorem scan_len (t : List Int) : ∀ cur, (scan t cur).length ≤ t.length + 1 := by
  induction t with
  | nil => intro cur; exact keepL_len cur
  | cons c t ih =>
    intro cur
    rw [scan_cons]
    split
    · rw [List.length_append]
      have := keepL_len cur
      have := ih []
      simp only [List.length_cons]
      omega
    · have := ih (cur ++ [c])
      simp only [List.length_cons]
      omega
theorem infoU8 : (Try.prog.info? 5).map (fun i => (i.zero, i.size, i.bytes)) = some (some (.int .u8 0), 1, 1) := by kernel_rfl
theorem infoRow : (Try.prog.info? 22).map (fun i => (i.zero, i.size, i.bytes)) = some (some (.slice none 0 0), 1, 24) := by kernel_rfl

/-- internal/bytealg.MaxLen's cell (block 0) holds some number. -/
theorem MaxAt_cell {w W : World} (h : MaxAt w) (hb : Below w.heap.size w W) : ∃ m, W.cell? ⟨0, 0, none⟩ = some (.int .i64 m) := by
  obtain ⟨m, hm⟩ := MaxAt_below h hb
  exact ⟨m, hm⟩
def lineOf (t : List Int) : List Int := if 0 ≤ idx10 t then t.take (idx10 t).toNat else t
def restOf (t : List Int) : List Int := if 0 ≤ idx10 t then t.drop ((idx10 t).toNat + 1) else []
theorem scan_step (t : List Int) : scan t [] = keepL (lineOf t) ++ scan (restOf t) [] := by
  unfold lineOf restOf
  by_cases h : 0 ≤ idx10 t
  · rw [if_pos h, if_pos h, scan_at t [] (idx10 t).toNat (by omega), List.nil_append]
  · rw [if_neg h, if_neg h, scan_none t [] (by have := idx10_ge t; omega), List.nil_append]
    simp [scan, keepL]
theorem rest_len (t : List Int) (h : 0 < t.length) : (restOf t).length + 1 ≤ t.length := by
  unfold restOf
  split
  · rw [List.length_drop]; have := idx10_lt t; omega
  · simp; omega
theorem rest_mem {t : List Int} {x : Int} (h : x ∈ restOf t) : x ∈ t := by
  unfold restOf at h
  split at h
  · exact List.mem_of_mem_drop h
  · cases h
theorem line_len (t : List Int) : (lineOf t).length ≤ t.length := by
  unfold lineOf
  split
  · rw [List.length_take]; omega
  · exact Nat.le_refl _
/-- The bytes of a row that is read, in the shelf's words. -/
theorem bytesIn {w : World} {A : Option Addr} {t : List Int} (h : (Kd.int .u8).C w A t.length t) : Lib.BytesIn w A t.length t := by
  intro hn
  obtain ⟨ad, e, _⟩ := Kd.at_int h 0 (by omega) (by omega)
  subst e
  refine (Lib.BytesIn.of_cells (a := ad) fun i hi => ?_) hn
  obtain ⟨ad', e', hx⟩ := Kd.at_int h (i : Int) (by omega) (by omega)
  cases e'
  rw [Int.toNat_natCast] at hx
  exact hx
theorem cut_nl (p : Option Addr) (c : Nat) (t : List Int) (b c2 : Nat) (w0 W : World) (hC : (Kd.int .u8).C w0 p t.length t) (hB : Below w0.heap.size w0 W) (hr : ∀ x ∈ t, 0 ≤ x ∧ x < 256) (h0 : 0 < t.length) (hcap : t.length ≤ c) (hs : t.length < 4294967281)
    (hnl : W.heap[b]? = some (.cells #[.int .u8 10] 5 (0, 0))) (hm : MaxAt w0) :
    Calls Try.prog 11 #[.slice p t.length c, .slice (some ⟨b, 0, none⟩) 1 c2] W fun e w' => (∃ pr cr, e = .returned (.tuple #[.slice p (lineOf t).length c, .slice pr (restOf t).length cr, .bool (decide (0 ≤ idx10 t))]) ∧ (restOf t).length ≤ cr ∧ (Kd.int .u8).C w0 p (lineOf t).length (lineOf t) ∧ (Kd.int .u8).C w0 pr (restOf t).length (restOf t)) ∧ ∃ q, w' = W.drewN q := by
  obtain ⟨m, hmm⟩ := MaxAt_cell hm hB
  have hlt := idx10_lt t
  have hge := idx10_ge t
  have hnl' : Lib.BytesIn W (some ⟨b, 0, none⟩) 1 [10] := fun _ => ⟨b, 0, rfl, fun i hi => by
    obtain rfl : i = 0 := by omega
    exact (blk_cell hnl 0).trans rfl⟩
  refine (Try.bytes_Cut_all p (some ⟨b, 0, none⟩) t.length c 1 c2 t [10] m W rfl rfl hr (fun y hy => by simp at hy; omega) (bytesIn (Kd.C_below hC hB)) hnl' (fun e => by
    subst e
    obtain ⟨ad, e, _⟩ := Kd.at_int hC 0 (by omega) (by omega)
    cases e) hcap hs (by omega) hmm).mono fun e w' ⟨he, hw⟩ => ⟨?_, hw⟩
  rw [index_nl t hr] at he
  by_cases hi : 0 ≤ idx10 t
  · have e1 : lineOf t = t.take (idx10 t).toNat := if_pos hi
    have e2 : restOf t = t.drop ((idx10 t).toNat + 1) := if_pos hi
    have h1 := Kd.C_take hC (m := (idx10 t).toNat) (by omega)
    have h2 := Kd.C_drop hC (m := (idx10 t).toNat + 1) (c := c) (by omega) hcap
    have l1 : (t.take (idx10 t).toNat).length = (idx10 t).toNat := by rw [List.length_take]; omega
    have l2 : (t.drop ((idx10 t).toNat + 1)).length = t.length - ((idx10 t).toNat + 1) := List.length_drop
    rw [e1, e2]
    refine ⟨_, c - ((idx10 t).toNat + 1), ?_, by omega, h1, h2⟩
    rw [he]
    unfold Lib.cutV Lib.fromV
    rw [if_pos hi, decide_eq_true hi, l1, l2, show ((idx10 t).toNat + 1) * (Kd.int .u8).sz = (idx10 t).toNat + 1 from Nat.mul_one _]
  · have e1 : lineOf t = t := if_neg hi
    have e2 : restOf t = [] := if_neg hi
    rw [e1, e2]
    refine ⟨none, 0, ?_, Nat.le_refl _, hC, Kd.C_nil _ _⟩
    rw [he]
    unfold Lib.cutV
    rw [if_neg hi, decide_eq_false hi]
    rfl
def script_Lines.f (l0 : List Int) : Option (List (List Int)) := if (∀ x ∈ l0, 0 ≤ x ∧ x < 256) ∧ l0.length < 4294967281 then some (scan l0 []) else none
/-- make([]byte, 0, n). -/
theorem room_event {ops : Array Oper} {rest : List Oper} {o : Oper} {a : Act} {Q : Exit → Act → World → Prop} {W : World} (hgd : o.guard = none) {N : Tmp} (_hd : o.dst = some N) {x y : Operand} {n : Nat} (hn : n < 4294967281)
    (ho : o.op = .makeSlice 22 x y) (hx : a.eval x = .int .i64 0) (hy : a.eval y = .int .i64 (n : Int))
    (h : ∀ v w1, (Kd.int .u8).R 5 w1 W.heap.size (fun _ => True) v [] → Below W.heap.size W w1 → wpList Try.prog ops Q rest (a.put o.dst v) w1) : wpList Try.prog ops Q (o :: rest) a W := by
  obtain ⟨i0, hi, hzz⟩ := Option.map_eq_some_iff.1 infoU8
  simp only [Prod.mk.injEq] at hzz
  obtain ⟨hz0, hz1, hz2⟩ := hzz
  have hr := run_make (P := Try.prog) W 22 5 i0 (.int .u8 0) Try.underlying22 hi hz0 .i64 .i64 0 n (by omega) (by omega) (by rw [hz2]; omega) (by omega)
  rw [hz1] at hr
  refine Kd.event_run hgd (v := .slice (some ⟨W.heap.size, 0, none⟩) 0 n) (w1 := W.alloc (.cells (madeCells (Value.int .u8 0).cells n) 5)) ?_ (h _ _ ?_ (below_alloc (Below.refl _ _) _))
  · simp [execOp, ho, hx, hy, hr, Result.andThen]
  · exact Kd.R_of_own ⟨rfl, .inr ⟨W.heap.size, n, _, rfl, Nat.le_refl _, blk_new W _, Nat.zero_le _, by unfold maxLen; omega, by simp [size_madeCells], rfl⟩⟩ (fun _ _ => trivial)
theorem lit_event {P : Program} {ops : Array Oper} {rest : List Oper} {o : Oper} {a : Act} {Q : Exit → Act → World → Prop} {W : World} (hgd : o.guard = none) {N : Tmp} (_hd : o.dst = some N) {cs : Array Value} {t : TypeId} {n : Nat}
    (hrun : (execOp a.eval o).run P W = .ok (.value (.slice (some ⟨W.heap.size, 0, none⟩) n n)) (W.alloc (.cells cs t (0, 0))))
    (h : ∀ g, g = W.heap.size → ∀ w1, w1.heap[g]? = some (.cells cs t (0, 0)) → Below W.heap.size W w1 → wpList P ops Q rest (a.put o.dst (.slice (some ⟨g, 0, none⟩) n n)) w1) : wpList P ops Q (o :: rest) a W :=
  Kd.event_run hgd hrun (h _ rfl _ (blk_new W _) (below_alloc (Below.refl _ _) _))
set_option maxHeartbeats 8000000 in
set_option maxRecDepth 100000 in
theorem script_Lines.calls (A0 : Option Addr) (c0 : Nat) (l0 : List Int) (r : List (List Int)) (w : World) (hr0 : Kd.C (Kd.int .u8) w A0 l0.length l0) (hc0 : l0.length ≤ c0) (hrM : MaxAt w) (h : script_Lines.f l0 = some r) :
    Calls Try.prog 6 #[.slice A0 l0.length c0] w fun e w' => ∃ v0_ : Value, e = .returned (v0_) ∧ Kd.S (Kd.slice 5 (Kd.int .u8)) 22 w' w.heap.size (fun _ => True) v0_ r ∧ Below w.heap.size w w' := by
  unfold script_Lines.f at h
  by_cases hg : (∀ x ∈ l0, 0 ≤ x ∧ x < 256) ∧ l0.length < 4294967281
  case neg => rw [if_neg hg] at h; cases h
  rw [if_pos hg] at h
  obtain rfl := Option.some.inj h
  have HR0 := Aside0.mk hr0
  have HG := Aside0.mk hg
  have HRM := Aside0.mk hrM
  clear h hr0 hg hrM
  have HB := Aside0.mk (Below.refl w.heap.size w)
  go_enter Try.func6, Try.ntmps6
  go_wp2
  go_loopg [0, 3] l0.length (fun kq v0 v3 w' => ∃ (tx : List Int) (Ax : Option Addr) (cx : Nat) (x3 : List (List Int)), v0 = .slice Ax tx.length cx ∧ Aside0 (tx.length ≤ cx) ∧ Aside0 (Kd.C (Kd.int .u8) w Ax tx.length tx) ∧ Aside0 (∀ x ∈ tx, 0 ≤ x ∧ x < 256) ∧ Aside0 (tx.length ≤ kq) ∧ Aside0 (kq ≤ l0.length) ∧ Aside0 (x3 ++ scan tx [] = scan l0 []) ∧ Aside0 (x3.length + tx.length ≤ l0.length) ∧ Aside0 (Kd.S (Kd.slice 5 (Kd.int .u8)) 22 w' w.heap.size (fun _ => True) v3 x3) ∧ Aside0 (Below w.heap.size w w'))
  case atStart => exact ⟨l0, A0, c0, [], rfl, ⟨hc0⟩, HR0, ⟨HG.out.1⟩, ⟨Nat.le_refl _⟩, ⟨Nat.le_refl _⟩, ⟨rfl⟩, ⟨by simp⟩, ⟨Kd.S_nil _ _ _ _ _⟩, ⟨(by repeat (first | (with_reducible first | exact HB.out | apply below_alloc | apply pw_below_drewN | apply below_drew1) | exact HB.out))⟩⟩
  case round =>
    obtain ⟨tx, Ax, cx, x3, rfl, HCX, HR1, HBY, HK, HK0, HSC, HLN, HO3, HB⟩ := hrel
    by_cases hz : 0 < tx.length
    · have z0 : decide (0 < (tx.length : Int)) = true := decide_eq_true (by omega)
      have z1 : decide (0 < tx.length) = true := decide_eq_true hz
      have hrl := rest_len tx hz
      have HRL := Aside0.mk hrl
      have HZ := Aside0.mk hz
      clear hrl hz
      go_upto_region 5 with (first | ((with_reducible refine gate_dst (N := 12) rfl ?_); refine lit_event ?hg (N := 12) ?hd (n := 1) (cs := #[.int .u8 10]) (t := 5) ?hr ?_; (case hd => rfl); (case hg => rfl); (case hr => first | (go_simp; done) | (go_simp; rfl)); intro gl12 hg w3 hbox hb; have n0_ := Aside0.mk (below_step (by repeat (first | (with_reducible first | exact HB.out | apply below_alloc | apply pw_below_drewN | apply below_drew1) | exact HB.out)) hb); have n1_ := Aside0.mk (Kd.S_below (by (with_reducible repeat (first | apply Kd.S_alloc | apply Kd.S_drewN | apply Kd.S_drew)); exact HO3.out) hb); have n2_ := Aside0.mk hbox; clear HB HO3; have HB := n0_; have HO3 := n1_; have HL12 := n2_; clear n0_ n1_ n2_ hg hb hbox) | ((with_reducible refine gate_callee (f := 11) rfl ?_); refine goesL_ (some 13) rfl rfl Try.func11 (by kernel_rfl) rfl #[.slice Ax tx.length cx, .slice (some ⟨gl12, 0, none⟩) 1 1] rfl (by (try simp only [List.map_toArray, List.map_cons, List.map_nil]); first | done | rfl) ?_; refine (cut_nl Ax cx tx gl12 1 w _ HR1.out (by repeat (first | (with_reducible first | exact HB.out | apply below_alloc | apply pw_below_drewN | apply below_drew1) | exact HB.out)) HBY.out HZ.out HCX.out (by have := HK.out; have := HK0.out; have := HG.out.2; omega) HL12.out HRM.out).mono ?_; rintro e w4 ⟨⟨pr, cr, rfl, hcr, hCl, hCr⟩, ⟨nd, rfl⟩⟩; refine ⟨_, rfl, ?_⟩; have HCR := Aside0.mk hcr; have HCl := Aside0.mk hCl; have HCr := Aside0.mk hCr; clear hcr hCl hCr))
      have e := HSC.out
      rw [scan_step, ← List.append_assoc] at e
      have ll := line_len tx
      have lt5 := HG.out.2
      by_cases hl : lineOf tx ≠ [] ∧ rd (lineOf tx) 0 ≠ 35
      · rw [show keepL (lineOf tx) = [lineOf tx] from if_pos hl] at e
        have lp : 0 < (lineOf tx).length := List.length_pos_iff.2 hl.1
        have y0 : decide (0 < ((lineOf tx).length : Int)) = true := decide_eq_true (by omega)
        have y1 : decide (0 < (lineOf tx).length) = true := decide_eq_true lp
        have y2 : (rd (lineOf tx) 0 != 35) = true := bne_iff_ne.2 hl.2
        have y3 : (rd (lineOf tx) 0 == 35) = false := beq_eq_false_iff_ne.2 hl.2
        obtain ⟨ad, ea, hx⟩ := Kd.at_int HCl.out 0 (by omega) (by omega)
        subst ea
        rw [show ((0 : Int)).toNat = 0 from rfl, Addr.add_zero'] at hx
        replace hx := (HB.out.cell (World.block_lt_of_cell? w _ hx)).trans hx
        have y4 : (0 < (lineOf tx).length) = True := eq_true lp
        have y5 : (lineOf tx).length < 4294967281 := by have := HK.out; have := HK0.out; omega
        have LY5 := Aside0.mk y5
        have LE := Aside0.mk e
        clear y5 e lp hl
        go_wp2_with (first | ((with_reducible refine gate_dst (N := 30) rfl ?_); refine room_event ?hg (N := 30) ?hd (x := .const (.int .i64 0)) (y := .tmp 29) (n := (lineOf tx).length) LY5.out ?ho ?hx ?hy ?_; (case hd => rfl); (case hg => rfl); (case ho => rfl); (case hx => rfl); (case hy => rfl); intro v2 w5 ho hb; have n0_ := Aside0.mk (below_step (by repeat (first | (with_reducible first | exact HB.out | apply below_alloc | apply pw_below_drewN | apply below_drew1) | exact HB.out)) hb); have n1_ := Aside0.mk (Kd.S_elder' (by (with_reducible repeat (first | apply Kd.S_alloc | apply Kd.S_drewN | apply Kd.S_drew)); exact HO3.out) (Kd.R_base ho) hb); have n2_ := Aside0.mk (Kd.R_lower ho (below_size (by repeat (first | (with_reducible first | exact HB.out | apply below_alloc | apply pw_below_drewN | apply below_drew1) | exact HB.out)))); clear HB HO3; have HB := n0_; have HO3 := n1_; have HO := n2_; clear n0_ n1_ n2_ ho hb) | ((with_reducible refine gate_builtin (b := .append) (xs := #[.tmp 30, .tmp 31]) rfl ?_); at_builtin; refine Kd.R_append_rows (Kd.int .u8) (w0 := w) w.heap.size rfl (.tmp 30) (.tmp 31) 22 5 (.int .u8 0) 1 rfl Try.underlying22 infoU8 rfl (by decide) (by omega) v2 [] (lineOf tx) _ _ _ (fun _ => True) (fun _ => False) rfl rfl ?aO ?aR (fun _ _ h => h) (fun _ h => h.elim) ?aF ?aB ?aS ?aL ?_; (case aR => exact Kd.C_below HCl.out (by repeat (first | (with_reducible first | exact HB.out | apply below_alloc | apply pw_below_drewN | apply below_drew1) | exact HB.out))); (case aB => exact (by repeat (first | (with_reducible first | exact HB.out | apply below_alloc | apply pw_below_drewN | apply below_drew1) | exact HB.out))); (case aF => exact (fun _ _ => trivial)); (case aO => exact (by (with_reducible repeat (first | apply Kd.R_alloc | apply Kd.R_drewN | apply Kd.R_drew)); exact HO.out)); (case aS => exact (below_size (by repeat (first | (with_reducible first | exact HB.out | apply below_alloc | apply pw_below_drewN | apply below_drew1) | exact HB.out)))); (case aL => have := LY5.out; simp only [List.length_nil]; omega); intro v4 w6 ho hb hg hat; rw [List.nil_append] at ho; have n0_ := Aside0.mk (Kd.S_after (by (with_reducible repeat (first | apply Kd.S_alloc | apply Kd.S_drewN | apply Kd.S_drew)); exact HO3.out) hg hat); have n1_ := Aside0.mk ho; have n2_ := Aside0.mk hb; clear HB HO3 HO; have HB := n2_; have HO3 := n0_; have HO := n1_; clear n0_ n1_ n2_ ho hb hg hat; obtain ⟨Ao, co, eo⟩ := Kd.R_slice HO.out; subst eo) | ((with_reducible refine gate_builtin (b := .append) (xs := #[.tmp 27, .tmp 33]) rfl ?_); at_builtin; refine Kd.S_append (Kd.slice 5 (Kd.int .u8)) (w0 := w) w.heap.size rfl (.tmp 27) (.tmp 33) 24 22 (.slice none 0 0) 24 rfl Try.underlying24 infoRow rfl (by decide) (by omega) u3 x3 (lineOf tx) [.slice Ao (lineOf tx).length co] (fun _ => True) (fun k_ => some k_ = (.slice Ao (lineOf tx).length co : Value).ownBlock) rfl rfl ?aP (fun k_ hk_ => ((Kd.R_mono (ok' := fun k_ => ((fun _ => True)) k_ ∧ some k_ ≠ (u3 : Value).ownBlock) (Kd.R_apart' (HO.out) (Kd.S_typed HO3.out) (by decide)) (fun k_ hk => ⟨trivial, hk.2⟩))).1 k_ hk_.symm) ?aF ?aO ?aB ?aS ?aL ?_; (case aP => exact Kd.M_row (Kd.R_mono (Kd.R_tight rfl (Kd.R_mono (ok' := fun k_ => ((fun _ => True)) k_ ∧ some k_ ≠ (u3 : Value).ownBlock) (Kd.R_apart' (HO.out) (Kd.S_typed HO3.out) (by decide)) (fun k_ hk => ⟨trivial, hk.2⟩))) (fun _ h_ => h_))); (case aB => exact (by repeat (first | (with_reducible first | exact HB.out | apply below_alloc | apply pw_below_drewN | apply below_drew1) | exact HB.out))); (case aF => exact (fun _ _ => trivial)); (case aO => exact (by (with_reducible repeat (first | apply Kd.S_alloc | apply Kd.S_drewN | apply Kd.S_drew)); exact Kd.S_mono HO3.out (fun k_ hk => ⟨trivial, fun e_ => hk.2 e_⟩))); (case aS => exact (below_size (by repeat (first | (with_reducible first | exact HB.out | apply below_alloc | apply pw_below_drewN | apply below_drew1) | exact HB.out)))); (case aL => have := HLN.out; have := HG.out.2; have := HZ.out; omega); intro v7 w7 ho hb hg hat; have n0_ := Aside0.mk hb; have n1_ := Aside0.mk ho; clear HB HO3 HO; have HB := n0_; have HO3 := n1_; clear n0_ n1_ ho hb hg hat))
        go_roundg (restOf tx).length
        case measure => have := HK.out; have := HRL.out; omega
        case rel => exact ⟨restOf tx, pr, cr, x3 ++ [lineOf tx], rfl, HCR, HCr, ⟨fun x hx => HBY.out x (rest_mem hx)⟩, ⟨Nat.le_refl _⟩, ⟨by have := HK.out; have := HK0.out; have := HRL.out; omega⟩, LE, ⟨by have := HLN.out; have := HRL.out; rw [List.length_append]; simp only [List.length_cons, List.length_nil]; omega⟩, ⟨by (with_reducible repeat (first | apply Kd.S_alloc | apply Kd.S_drewN | apply Kd.S_drew)); exact HO3.out⟩, ⟨(by repeat (first | (with_reducible first | exact HB.out | apply below_alloc | apply pw_below_drewN | apply below_drew1) | exact HB.out))⟩⟩
      · rw [show keepL (lineOf tx) = [] from if_neg hl, List.append_nil] at e
        have LE := Aside0.mk e
        clear e
        by_cases lp : 0 < (lineOf tx).length
        · have y0 : decide (0 < ((lineOf tx).length : Int)) = true := decide_eq_true (by omega)
          have y1 : decide (0 < (lineOf tx).length) = true := decide_eq_true lp
          have h35 : rd (lineOf tx) 0 = 35 := Decidable.byContradiction fun h => hl ⟨List.length_pos_iff.1 lp, h⟩
          have y2 : (rd (lineOf tx) 0 != 35) = false := bne_eq_false_iff_eq.2 h35
          have y3 : (rd (lineOf tx) 0 == 35) = true := beq_iff_eq.2 h35
          obtain ⟨ad, ea, hx⟩ := Kd.at_int HCl.out 0 (by omega) (by omega)
          subst ea
          rw [show ((0 : Int)).toNat = 0 from rfl, Addr.add_zero'] at hx
          replace hx := (HB.out.cell (World.block_lt_of_cell? w _ hx)).trans hx
          have y4 : (0 < (lineOf tx).length) = True := eq_true lp
          clear lp hl h35
          go_wp2
          go_roundg (restOf tx).length
          case measure => have := HK.out; have := HRL.out; omega
          case rel => exact ⟨restOf tx, pr, cr, x3, rfl, HCR, HCr, ⟨fun x hx => HBY.out x (rest_mem hx)⟩, ⟨Nat.le_refl _⟩, ⟨by have := HK.out; have := HK0.out; have := HRL.out; omega⟩, LE, ⟨by have := HLN.out; have := HRL.out; omega⟩, ⟨by (with_reducible repeat (first | apply Kd.S_alloc | apply Kd.S_drewN | apply Kd.S_drew)); exact HO3.out⟩, ⟨(by repeat (first | (with_reducible first | exact HB.out | apply below_alloc | apply pw_below_drewN | apply below_drew1) | exact HB.out))⟩⟩
        · have y0 : decide (0 < ((lineOf tx).length : Int)) = false := decide_eq_false (by omega)
          have y1 : decide (0 < (lineOf tx).length) = false := decide_eq_false lp
          clear lp hl
          go_wp2
          go_roundg (restOf tx).length
          case measure => have := HK.out; have := HRL.out; omega
          case rel => exact ⟨restOf tx, pr, cr, x3, rfl, HCR, HCr, ⟨fun x hx => HBY.out x (rest_mem hx)⟩, ⟨Nat.le_refl _⟩, ⟨by have := HK.out; have := HK0.out; have := HRL.out; omega⟩, LE, ⟨by have := HLN.out; have := HRL.out; omega⟩, ⟨by (with_reducible repeat (first | apply Kd.S_alloc | apply Kd.S_drewN | apply Kd.S_drew)); exact HO3.out⟩, ⟨(by repeat (first | (with_reducible first | exact HB.out | apply below_alloc | apply pw_below_drewN | apply below_drew1) | exact HB.out))⟩⟩
    · obtain rfl : tx = [] := List.eq_nil_of_length_eq_zero (by omega)
      have e := HSC.out
      rw [show scan [] [] = [] from rfl, List.append_nil] at e
      go_wp2
      go_ret
      refine ⟨_, rfl, ?_, (by repeat (first | (with_reducible first | exact HB.out | apply below_alloc | apply pw_below_drewN | apply below_drew1) | exact HB.out))⟩
      rw [← e]
      (with_reducible repeat (first | apply Kd.S_alloc | apply Kd.S_drewN | apply Kd.S_drew)); exact HO3.out

end Go.Proofs.Ytpglakfafanhoaa.PA
