/- arrearslaw11.TimerqExact by hand: it returns true. Conditions: the script can be read, its numbers are ints, it has at most 1048576 calls; the table of powers of ten stands as laid. -/
import Derived.Test.YtkbbngkfncbgkaaDoorZULaws
import Derived.Laws.AppendOwnNone
import Derived.Maps.AppendAt
namespace Go.Proofs.YtkbbngkfncbgkaaDoor.UExact
open Go.RowKit Go.Proofs.YtkbbngkfncbgkaaDoor.IQHeap Go.Proofs.YtkbbngkfncbgkaaDoor.UPlain Go.Proofs.YtkbbngkfncbgkaaDoor.URel Go.Proofs.YtkbbngkfncbgkaaDoor.URef Go.Proofs.YtkbbngkfncbgkaaDoor.UTrio Go.Proofs.YtkbbngkfncbgkaaDoorW.PrintWords Go.Proofs.YtkbbngkfncbgkaaDoorW.PrintLast Go.Proofs.YtkbbngkfncbgkaaDoorW.PrintMore Go.Proofs.YtkbbngkfncbgkaaDoor.UWord Go.Proofs.YtkbbngkfncbgkaaDoor.UNexts Go.Proofs.YtkbbngkfncbgkaaDoor.UPops Go.Proofs.YtkbbngkfncbgkaaDoor.UUpTo Go.Proofs.YtkbbngkfncbgkaaDoor.ULaws
open Go.Proofs.YtkbbngkfncbgkaaDoor.IQWords (Ky KyOk Tn QS Hd)
set_option linter.unusedVariables false
set_option linter.unusedSimpArgs false
section
variable {P : Program} {ops : Array Oper} {rest : List Oper} {o : Oper} {a : Act} {Q : Exit → Act → World → Prop}
theorem app_from {w0 W : World} (base : Nat) (hgd : o.guard = none) (s x : Operand) (t e : TypeId) (z : Value) (size bytes : Nat)
    (ho : o.op = .call { callee := .builtin .append, args := #[s, x], argTypes := #[t, t] }) (ht : P.underlying t = some (.slice e)) (hinfo : (P.info? e).map (fun i => (i.zero, i.size, i.bytes)) = some (some z, size, bytes)) (hz : z.cells.size = size) (hs0 : 0 < size)
    (v : Value) (n m c : Nat) (A : Option Addr) (xs news : List Value) (hs : a.eval s = v) (hx : a.eval x = .slice A m c) (hys : news.length = m * size) (h1 : ∀ u ∈ news, u.oneCell' = true)
    (hA : (A = none ∧ m = 0 ∧ c = 0) ∨ ∃ ad, A = some ad ∧ ∀ j u, news[j]? = some u → W.cell? (ad.add j) = some u)
    (HO : W.ownsRow base e size v n xs) (HB : Below base w0 W) (hbase : base ≤ W.heap.size) (hl : (n + m) * bytes ≤ 140737488355328) (h63 : n + m ≤ maxLen)
    (h : ∀ v1 w1, w1.ownsRow base e size v1 (n + m) (xs ++ news) → Below base w0 w1 → wpList P ops Q rest (a.put o.dst v1) w1) : wpList P ops Q (o :: rest) a W := by
  obtain ⟨i0, hi, hzz⟩ := Option.map_eq_some_iff.1 hinfo
  simp only [Prod.mk.injEq] at hzz
  obtain ⟨hz0, hz1, hz2⟩ := hzz
  rcases hA with ⟨rfl, rfl, rfl⟩ | ⟨ad, rfl, hc⟩
  · have hn : news = [] := List.eq_nil_of_length_eq_zero (by simpa using hys)
    subst hn
    refine wpList_append_own_none hgd s x t ho base e i0 size ht hi v n xs hs HO hx ?_
    exact h v W (by simpa using HO) HB
  · refine wpList_append_own_at W hgd s x t ho base e i0 z size bytes ht hi hz0 hz1 hz2 hz hs0 v n xs hs HO ad m c news hx hys hc h1 h63 hl hbase ?_
    intro v1 w1 hown hg _ _
    exact h v1 w1 hown (HB.grown hg hbase (own_base HO))
theorem app_m {w0 W : World} (base : Nat) (hgd : o.guard = none) (s x : Operand) (t e : TypeId) (z : Value) (size bytes : Nat)
    (ho : o.op = .call { callee := .builtin .append, args := #[s, x], argTypes := #[t, t] }) (ht : P.underlying t = some (.slice e)) (hinfo : (P.info? e).map (fun i => (i.zero, i.size, i.bytes)) = some (some z, size, bytes)) (hz : z.cells.size = size) (hs0 : 0 < size)
    (v : Value) (n m : Nat) (xs ys : List Value) (hs : a.eval s = v) (hx : a.eval x = .slice (some ⟨W.heap.size, 0, none⟩) m m) (hys : ys.length = m * size) (h1 : ∀ u ∈ ys, u.oneCell' = true)
    (HO : W.ownsRow base e size v n xs) (HB : Below base w0 W) (hbase : base ≤ W.heap.size) (hl : (n + m) * bytes ≤ 140737488355328) (h63 : n + m ≤ maxLen)
    (h : ∀ v1 w1, w1.ownsRow base e size v1 (n + m) (xs ++ ys) → Below base w0 w1 → wpList P ops Q rest (a.put o.dst v1) w1) : wpList P ops Q (o :: rest) a (W.alloc (.cells ys.toArray e)) :=
  app_from base hgd s x t e z size bytes ho ht hinfo hz hs0 v n m m (some ⟨W.heap.size, 0, none⟩) xs ys hs hx hys h1 (.inr ⟨_, rfl, fun j u hu => by
    rw [at_add, cell_of_row _ W.heap.size j ys.toArray e (0, 0) (heap_alloc_new W _)]
    simpa using hu⟩) (HO.alloc _) (HB.alloc hbase _) (by simp; omega) hl h63 h
end
theorem oc_len : ∀ l : List Opp, (l.flatMap oc).length = l.length * 6
  | [] => rfl
  | a :: r => by
    rw [List.flatMap_cons, List.length_append, oc_len r]
    simp [oc]
    omega
theorem oc_one (l : List Opp) : ∀ u ∈ l.flatMap oc, u.oneCell' = true := by
  intro u hu
  obtain ⟨o, _, h⟩ := List.mem_flatMap.1 hu
  simp only [oc, List.mem_cons, List.not_mem_nil, or_false] at h
  rcases h with rfl | rfl | rfl | rfl | rfl | rfl <;> rfl
theorem or_cells {w : World} {ad : Addr} {l : List Opp} (h : OR w (some ad) l) : ∀ j u, (l.flatMap oc)[j]? = some u → w.cell? (ad.add j) = some u := fun j u hu => by
  have hj : j < l.length * 6 := by rw [← oc_len]; exact (List.getElem?_eq_some_iff.1 hu).1
  have hd : j / 6 < l.length := by omega
  obtain ⟨ad', e, h0, h1, h2, h3, h4, h5⟩ := h (j / 6) _ (List.getElem?_eq_getElem hd)
  injection e with e
  subst e
  have e1 : j = j / 6 * 6 + j % 6 := by omega
  have hm : j % 6 < 6 := Nat.mod_lt _ (by decide)
  have e2 := oc_get l (j / 6) (j % 6) _ (List.getElem?_eq_getElem hd) hm
  rw [← e1, hu] at e2
  rw [e1]
  generalize j % 6 = c at hm e2 ⊢
  match c, hm with
  | 0, _ => rw [Nat.add_zero, h0, e2]; rfl
  | 1, _ => rw [add_field _ _ 1 (by omega), h1, e2]; rfl
  | 2, _ => rw [add_field _ _ 2 (by omega), h2, e2]; rfl
  | 3, _ => rw [add_field _ _ 3 (by omega), h3, e2]; rfl
  | 4, _ => rw [add_field _ _ 4 (by omega), h4, e2]; rfl
  | 5, _ => rw [add_field _ _ 5 (by omega), h5, e2]; rfl
  | c + 6, hm => omega
theorem infoO : (Tryd.prog.info? 26).map (fun i => (i.zero, i.size, i.bytes)) = some (some (.agg #[.int .i64 0, .bool false, .int .i64 0, .int .i64 0, .int .i64 0, .int .i64 0]), 6, 48) := by kernel_rfl
def o1 : Opp := ⟨1, true, ⟨3, 2, 1⟩, 7⟩
def l1 (oth : Bool) : Opp := ⟨7, oth, ⟨0, 0, 0⟩, 0⟩
def p1 (oth : Bool) : Opp := ⟨6, oth, ⟨0, 0, 0⟩, 9223372036854775807⟩
/-- The calls so far: k pairs of PopDue behind the lists. -/
def calls (ops : List Opp) : Nat → List Opp
  | 0 => [o1] ++ ops ++ [l1 false, l1 true]
  | k + 1 => calls ops k ++ [p1 false, p1 true]
theorem calls_len (ops : List Opp) : ∀ k, (calls ops k).length = 1 + ops.length + 2 + 2 * k
  | 0 => by simp [calls]; omega
  | k + 1 => by
    have := calls_len ops k
    simp [calls]
    omega
theorem calls_ok {ops : List Opp} (h : ∀ o ∈ ops, OpOk o) : ∀ k, ∀ o ∈ calls ops k, OpOk o
  | 0, o, ho => by
    unfold calls at ho
    simp only [List.mem_append, List.mem_cons, List.not_mem_nil, or_false] at ho
    rcases ho with (rfl | ho) | rfl | rfl
    · exact ⟨⟨lit_ok (by decide) (by decide), lit_ok (by decide) (by decide), lit_ok (by decide) (by decide)⟩, lit_ok (by decide) (by decide)⟩
    · exact h o ho
    · exact ⟨⟨lit_ok (by decide) (by decide), lit_ok (by decide) (by decide), lit_ok (by decide) (by decide)⟩, lit_ok (by decide) (by decide)⟩
    · exact ⟨⟨lit_ok (by decide) (by decide), lit_ok (by decide) (by decide), lit_ok (by decide) (by decide)⟩, lit_ok (by decide) (by decide)⟩
  | k + 1, o, ho => by
    have ih := calls_ok h k
    unfold calls at ho
    simp only [List.mem_append, List.mem_cons, List.not_mem_nil, or_false] at ho
    rcases ho with ho | rfl | rfl
    · exact ih o ho
    · exact ⟨⟨lit_ok (by decide) (by decide), lit_ok (by decide) (by decide), lit_ok (by decide) (by decide)⟩, lit_ok (by decide) (by decide)⟩
    · exact ⟨⟨lit_ok (by decide) (by decide), lit_ok (by decide) (by decide), lit_ok (by decide) (by decide)⟩, lit_ok (by decide) (by decide)⟩
theorem own0 {W : World} {b : Nat} {v : Value} {ops : List Opp} (h : W.ownsRow b 26 6 v (0 + 1 + ops.length + 2) ((([] ++ [.int .i64 1, .bool true, .int .i64 3, .int .i64 2, .int .i64 1, .int .i64 7]) ++ ops.flatMap oc) ++ [.int .i64 7, .bool false, .int .i64 0, .int .i64 0, .int .i64 0, .int .i64 0, .int .i64 7, .bool true, .int .i64 0, .int .i64 0, .int .i64 0, .int .i64 0])) : W.ownsRow b 26 6 v (1 + ops.length + 2 + 2 * 0) ((calls ops 0).flatMap oc) := by
  have e : (calls ops 0).flatMap oc = (([] ++ [.int .i64 1, .bool true, .int .i64 3, .int .i64 2, .int .i64 1, .int .i64 7]) ++ ops.flatMap oc) ++ [.int .i64 7, .bool false, .int .i64 0, .int .i64 0, .int .i64 0, .int .i64 0, .int .i64 7, .bool true, .int .i64 0, .int .i64 0, .int .i64 0, .int .i64 0] := by
    unfold calls
    rw [List.flatMap_append, List.flatMap_append]
    rfl
  rw [e, Nat.mul_zero, Nat.add_zero, show 1 + ops.length + 2 = 0 + 1 + ops.length + 2 by omega]
  exact h
theorem ownk {W : World} {b : Nat} {v : Value} {ops : List Opp} {k : Nat} (h : W.ownsRow b 26 6 v (1 + ops.length + 2 + 2 * k + 2) ((calls ops k).flatMap oc ++ [.int .i64 6, .bool false, .int .i64 0, .int .i64 0, .int .i64 0, .int .i64 9223372036854775807, .int .i64 6, .bool true, .int .i64 0, .int .i64 0, .int .i64 0, .int .i64 9223372036854775807])) : W.ownsRow b 26 6 v (1 + ops.length + 2 + 2 * (k + 1)) ((calls ops (k + 1)).flatMap oc) := by
  have e : (calls ops (k + 1)).flatMap oc = (calls ops k).flatMap oc ++ [.int .i64 6, .bool false, .int .i64 0, .int .i64 0, .int .i64 0, .int .i64 9223372036854775807, .int .i64 6, .bool true, .int .i64 0, .int .i64 0, .int .i64 0, .int .i64 9223372036854775807] := by
    show (calls ops k ++ [p1 false, p1 true]).flatMap oc = _
    rw [List.flatMap_append]
    rfl
  rw [e, show 1 + ops.length + 2 + 2 * (k + 1) = 1 + ops.length + 2 + 2 * k + 2 by omega]
  exact h
theorem one_y1 : ∀ u ∈ ([.int .i64 1, .bool true, .int .i64 3, .int .i64 2, .int .i64 1, .int .i64 7] : List Value), u.oneCell' = true := by
  intro u hu
  simp only [List.mem_cons, List.not_mem_nil, or_false] at hu
  rcases hu with rfl | rfl | rfl | rfl | rfl | rfl <;> rfl
theorem one_y2 : ∀ u ∈ ([.int .i64 7, .bool false, .int .i64 0, .int .i64 0, .int .i64 0, .int .i64 0, .int .i64 7, .bool true, .int .i64 0, .int .i64 0, .int .i64 0, .int .i64 0] : List Value), u.oneCell' = true := by
  intro u hu
  simp only [List.mem_cons, List.not_mem_nil, or_false] at hu
  rcases hu with rfl | rfl | rfl | rfl | rfl | rfl | rfl | rfl | rfl | rfl | rfl | rfl <;> rfl
theorem one_y3 : ∀ u ∈ ([.int .i64 6, .bool false, .int .i64 0, .int .i64 0, .int .i64 0, .int .i64 9223372036854775807, .int .i64 6, .bool true, .int .i64 0, .int .i64 0, .int .i64 0, .int .i64 9223372036854775807] : List Value), u.oneCell' = true := by
  intro u hu
  simp only [List.mem_cons, List.not_mem_nil, or_false] at hu
  rcases hu with rfl | rfl | rfl | rfl | rfl | rfl | rfl | rfl | rfl | rfl | rfl | rfl <;> rfl
set_option maxHeartbeats 8000000 in
set_option maxRecDepth 1000000 in
theorem exact_walk (A : Option Addr) (cap : Nat) (ops : List Opp) (w : World) (hr : OR w A ops) (hA : (A = none ∧ ops.length = 0 ∧ cap = 0) ∨ ∃ ad, A = some ad) (hok : ∀ o ∈ ops, OpOk o) (hlen : ops.length ≤ 1048576) (hP : PowAt w) :
    Calls Tryd.prog 6 #[.slice A ops.length cap] w fun e w' => e = .returned (.bool true) ∧ Below w.heap.size w w' := by
  have HR := Hd.mk hr
  have HA := Hd.mk hA
  have HOK := Hd.mk hok
  have HP := Hd.mk hP
  have HO0 : Hd (w.ownsRow w.heap.size 26 6 (.slice none 0 0) 0 []) := ⟨World.ownsRow_nil _ _ _ _⟩
  have HB0 : Hd (Below w.heap.size w w) := ⟨Below.refl _ _⟩
  have HZ := Hd.mk (PowAt_lt hP)
  clear hr hA hok hP
  go_enter Tryd.func6, Tryd.ntmps6
  go_upto_region 3 with (first | ((with_reducible refine gate_builtin (b := .append) (xs := #[.tmp 5, .tmp 8]) rfl ?_); go_loud (at_builtin; refine app_m (w0 := w) w.heap.size rfl (.tmp 5) (.tmp 8) 22 26 (.agg #[.int .i64 0, .bool false, .int .i64 0, .int .i64 0, .int .i64 0, .int .i64 0]) 6 48 rfl Tryd.underlying22 infoO rfl (by decide)  (.slice none 0 0) 0 1 [] [.int .i64 1, .bool true, .int .i64 3, .int .i64 2, .int .i64 1, .int .i64 7] rfl rfl rfl one_y1 HO0.out HB0.out (Nat.le_refl _) (by decide) (by decide) ?_; intro v1 w1 hown hbl; have HO1 := Hd.mk hown; have HB1 := Hd.mk hbl; clear hown hbl)))
  have HR1 := Hd.mk (HR.out.kept (Tn.of_below HB1.out _))
  have HA1 : Hd ((A = none ∧ ops.length = 0 ∧ cap = 0) ∨ ∃ ad, A = some ad ∧ ∀ j u, (ops.flatMap oc)[j]? = some u → w1.cell? (ad.add j) = some u) := ⟨HA.out.imp id (fun ⟨ad, e⟩ => ⟨ad, e, or_cells (by rw [← e]; exact HR1.out)⟩)⟩
  have HL1 : Hd (((0 + 1) + ops.length) * 48 ≤ 140737488355328 ∧ (0 + 1) + ops.length ≤ maxLen) := ⟨by unfold maxLen; omega⟩
  have HN1 : Hd ((ops.flatMap oc).length = ops.length * 6) := ⟨oc_len ops⟩
  go_upto_region 4 with (first | ((with_reducible refine gate_builtin (b := .append) (xs := #[.tmp 10, .tmp 11]) rfl ?_); go_loud (at_builtin; refine app_from (w0 := w) w.heap.size rfl (.tmp 10) (.tmp 11) 22 26 (.agg #[.int .i64 0, .bool false, .int .i64 0, .int .i64 0, .int .i64 0, .int .i64 0]) 6 48 rfl Tryd.underlying22 infoO rfl (by decide)  v1 (0 + 1) ops.length cap A ([] ++ [.int .i64 1, .bool true, .int .i64 3, .int .i64 2, .int .i64 1, .int .i64 7]) (ops.flatMap oc) rfl rfl HN1.out (oc_one ops) HA1.out HO1.out HB1.out HB1.out.size HL1.out.1 HL1.out.2 ?_; intro v2 w2 hown hbl; have HO2 := Hd.mk hown; have HB2 := Hd.mk hbl; clear hown hbl)))
  clear HO0 HB0 HO1 HB1 HR1 HA1 HL1 HN1 HR HA
  have HL2 : Hd (((0 + 1) + ops.length + 2) * 48 ≤ 140737488355328 ∧ (0 + 1) + ops.length + 2 ≤ maxLen) := ⟨by unfold maxLen; omega⟩
  go_upto_region 5 with (first | ((with_reducible refine gate_builtin (b := .append) (xs := #[.tmp 13, .tmp 16]) rfl ?_); go_loud (at_builtin; refine app_m (w0 := w) w.heap.size rfl (.tmp 13) (.tmp 16) 22 26 (.agg #[.int .i64 0, .bool false, .int .i64 0, .int .i64 0, .int .i64 0, .int .i64 0]) 6 48 rfl Tryd.underlying22 infoO rfl (by decide)  v2 ((0 + 1) + ops.length) 2 (([] ++ [.int .i64 1, .bool true, .int .i64 3, .int .i64 2, .int .i64 1, .int .i64 7]) ++ ops.flatMap oc) [.int .i64 7, .bool false, .int .i64 0, .int .i64 0, .int .i64 0, .int .i64 0, .int .i64 7, .bool true, .int .i64 0, .int .i64 0, .int .i64 0, .int .i64 0] rfl rfl rfl one_y2 HO2.out HB2.out HB2.out.size HL2.out.1 HL2.out.2 ?_; intro v3 w3 hown hbl; have HO3 := Hd.mk (own0 hown); have HB3 := Hd.mk hbl; clear hown hbl)))
  clear HO2 HB2 HL2
  go_wp2
  go_loopg [3, 4] (ops.length + 3) (fun g s3 s4 wr => ∃ k : Nat, s4 = .int .i64 k ∧ k ≤ ops.length + 2 ∧ ops.length + 3 ≤ g + k ∧ Hd (wr.ownsRow w.heap.size 26 6 s3 (1 + ops.length + 2 + 2 * k) ((calls ops k).flatMap oc)) ∧ Hd (Below w.heap.size w wr))
  case atStart => exact ⟨0, rfl, Nat.zero_le _, by omega, HO3, HB3⟩
  case round =>
    clear HO3 HB3
    obtain ⟨k, rfl, hk, hg, HO, HB⟩ := hrel
    by_cases c1 : k ≤ ops.length + 1
    · have c1' : (k : Int) ≤ (ops.length : Int) + 1 := by omega
      have HL : Hd ((1 + ops.length + 2 + 2 * k + 2) * 48 ≤ 140737488355328 ∧ 1 + ops.length + 2 + 2 * k + 2 ≤ maxLen) := ⟨by unfold maxLen; omega⟩
      go_upto_region 7 with (first | ((with_reducible refine gate_builtin (b := .append) (xs := #[.tmp 25, .tmp 28]) rfl ?_); go_loud (at_builtin; refine app_m (w0 := w) w.heap.size rfl (.tmp 25) (.tmp 28) 22 26 (.agg #[.int .i64 0, .bool false, .int .i64 0, .int .i64 0, .int .i64 0, .int .i64 0]) 6 48 rfl Tryd.underlying22 infoO rfl (by decide)  u3 (1 + ops.length + 2 + 2 * k) 2 ((calls ops k).flatMap oc) [.int .i64 6, .bool false, .int .i64 0, .int .i64 0, .int .i64 0, .int .i64 9223372036854775807, .int .i64 6, .bool true, .int .i64 0, .int .i64 0, .int .i64 0, .int .i64 9223372036854775807] rfl rfl rfl one_y3 HO.out HB.out HB.out.size HL.out.1 HL.out.2 ?_; intro v4 w4 hown hbl; have HO4 := Hd.mk (ownk hown); have HB4 := Hd.mk hbl; clear hown hbl)))
      go_wp2
      go_roundg (ops.length + 2 - k)
      case measure => omega
      case rel => exact ⟨k + 1, by go_num, by omega, by omega, HO4, HB4⟩
    · have c1' : decide ((k : Int) ≤ (ops.length : Int) + 1) = false := decide_eq_false (by omega)
      obtain ⟨gl, cl, eu⟩ : ∃ gl cl, u3 = .slice (some ⟨gl, 0, none⟩) (calls ops k).length cl := by
        rcases HO.out.2 with ⟨_, h⟩ | ⟨gl, cap', cur, e, _⟩
        · omega
        · rw [calls_len]; exact ⟨gl, cap', e⟩
      subst eu
      have HRC : Hd (OR wr (some ⟨gl, 0, none⟩) (calls ops k)) := ⟨OR_block fun j hj => by
        have h := HO.out
        rw [← calls_len] at h
        exact World.ownsRow.cellAt h j hj⟩
      have HOC := Hd.mk (calls_ok HOK.out k)
      have HLC : Hd ((calls ops k).length < 2940000000000) := ⟨by rw [calls_len]; omega⟩
      have HPW := Hd.mk (PowAt_of HP.out (HB.out.block 0 HZ.out))
      clear HO hg hk c1
      go_wp2_with (first | (go_at_call 7; refine (upto_calls (some ⟨gl, 0, none⟩) cl (calls ops k) 1 7 _ HRC.out HOC.out HLC.out HPW.out).mono ?_; rintro e W5 ⟨rfl, hb5⟩; have HB5 := Hd.mk hb5; clear hb5))
      go_ret
      exact ⟨rfl, ((Tn.of_below HB.out (fun _ => False)).then_ (Tn.of_below HB5.out (fun _ => False)) (fun _ h => h.elim)).below (Nat.le_refl _) (fun _ h => h.elim)⟩
end Go.Proofs.YtkbbngkfncbgkaaDoor.UExact
