/- TimerqOrderless: for every input that can be read the law returns true, and each argument reads behind the call as it read before; no condition. The row out of the walk by hand. -/
import Derived.Test.YtkbbngkfncbgkaaRows
import Derived.Test.YtkbbngkfncbgkaaIQOrdL
import Derived.Deep.Slices
import Derived.Deep.Fields
import Derived.ChangeSame
import Derived.WalkKit
import Derived.ProofKit
import Derived.OpenShut
import Derived.ShutString
import Derived.ChangeOld
import Derived.Below
import Derived.SizedLaws
namespace Go.Proofs.Ytkbbngkfncbgkaa.timerqOrderless
open Go.ChangeShapes Go.WideShapes Go.ChangeAt Go.RowKit
open Go.ChangeMaps (open_string shut_string)
set_option linter.unusedVariables false
theorem own : ownKnob Try.prog.godebug = none := by kernel_rfl
theorem laidOut : laidOutB Try.prog = true := by kernel_rfl
section
open Go.Deep
variable {H : Type} {enc : TypeId × Value → H} {P : Program} {w : World} {base : Nat} {spare : Nat → Bool} {held : Bool}
theorem open_fields {t e : TypeId} {fs : Array Field} {fuel : Nat} {cs : List Value} {x : DataW H × List MemPlace} (ht : P.underlying t = some (.slice e)) (he : P.underlying e = some (.struct fs))
    (hone : oneCellFields P fs = true) (hC : P.cellsOf e = fs.size) (h : DataW.trod enc P w base spare held fuel t cs = some x) :
    cs = [.slice none 0 0] ∨
    ∃ (a : Addr) (len cap : Nat), cs = [.slice (some a) len cap] ∧ len ≤ cap ∧ cap ≤ maxLen ∧
      ∀ i, i < len → ∃ n : Nat, ∀ (j : Nat) (f : Field), fs[j]? = some f → ∃ (v : Value) (y : DataW H × List MemPlace), w.cell? (a.add (i * fs.size + j)) = some v ∧ DataW.trod enc P w base spare held n f.type [v] = some y := by
  rcases open_slice ht h with h0 | ⟨a, len, cap, m, n, D, Pl, hcs, hb, hl, hm, hmm, hx, hi⟩
  · exact .inl h0.1
  · refine .inr ⟨a, len, cap, hcs, hl, hm, fun i hil => ?_⟩
    have him : i < m := by
      rw [hmm]
      split <;> omega
    obtain ⟨cs', hc, ht'⟩ := hi i him
    rw [hC] at hc
    obtain ⟨ys, n', hn', hy, hlen, hyl, hf⟩ := DataW.trod_struct he ht'
    obtain ⟨_, hcl, hat⟩ := World.cells?_some hc
    refine ⟨n', fun j f hj => ?_⟩
    obtain ⟨ho, hk⟩ := hone_of hone j f hj
    have hjl : j < fs.size := (Array.getElem?_eq_some_iff.1 hj).1
    have hcell := hat j hjl
    have hv : cs'[j]? = some (cs'[j]'(by omega)) := List.getElem?_eq_getElem (by omega)
    have h1 := hf j f hj
    rw [ho, hk] at h1
    have hone' : (cs'.drop j).take 1 = [cs'[j]'(by omega)] := by
      rw [List.drop_eq_getElem_cons (by omega)]
      rfl
    rw [hone'] at h1
    have hys : ys[j]? = some (ys[j]'(by omega)) := List.getElem?_eq_getElem (by omega)
    refine ⟨_, _, ?_, h1.trans hys⟩
    rw [← Go.Deep.add_add, hcell, hv]
end
section
open Go.Proofs.YtkbbngkfncbgkaaW.PrintWords Go.Proofs.Ytkbbngkfncbgkaa.IQWords Go.Proofs.Ytkbbngkfncbgkaa.IQUnl Go.Proofs.Ytkbbngkfncbgkaa.PA
variable {H : Type} {enc : TypeId × Value → H} {w : World} {base : Nat} {spare : Nat → Bool} {held : Bool}
theorem open_key {a : Addr} {i n : Nat}
    (h0 : ∃ (v : Value) (y : DataW H × List MemPlace), w.cell? (a.add (i * 3 + 0)) = some v ∧ DataW.trod enc Try.prog w base spare held n 3 [v] = some y)
    (h1 : ∃ (v : Value) (y : DataW H × List MemPlace), w.cell? (a.add (i * 3 + 1)) = some v ∧ DataW.trod enc Try.prog w base spare held n 3 [v] = some y)
    (h2 : ∃ (v : Value) (y : DataW H × List MemPlace), w.cell? (a.add (i * 3 + 2)) = some v ∧ DataW.trod enc Try.prog w base spare held n 3 [v] = some y) :
    ∃ x : S26, KyOk (tk x) ∧ ∃ c : List Value, c.length = 3 ∧ k26.K w x c ∧ ∀ j u, c[j]? = some u → w.cell? (a.add (i * 3 + j)) = some u := by
  obtain ⟨v0, y0, c0, t0⟩ := h0
  obtain ⟨v1, y1, c1, t1⟩ := h1
  obtain ⟨v2, y2, c2, t2⟩ := h2
  obtain ⟨n0, e0, _, w0⟩ := DataW.trod_int Try.underlying3 t0
  obtain ⟨n1, e1, _, w1⟩ := DataW.trod_int Try.underlying3 t1
  obtain ⟨n2, e2, _, w2⟩ := DataW.trod_int Try.underlying3 t2
  obtain rfl := (List.cons.inj e0).1
  obtain rfl := (List.cons.inj e1).1
  obtain rfl := (List.cons.inj e2).1
  refine ⟨⟨n0, n1, n2⟩, ⟨w0, w1, w2⟩, _, rfl, k26_mk w ⟨n0, n1, n2⟩, fun j u hu => ?_⟩
  match j, hu with
  | 0, hu => obtain rfl := Option.some.inj hu; exact c0
  | 1, hu => obtain rfl := Option.some.inj hu; exact c1
  | 2, hu => obtain rfl := Option.some.inj hu; exact c2
  | j + 3, hu => simp at hu
theorem open_keys {v : Value} {n : Nat} {y : DataW H × List MemPlace} (h : DataW.trod enc Try.prog w base spare held n 22 [v] = some y) :
    ∃ (A : Option Addr) (c : Nat) (l : List S26), v = .slice A l.length c ∧ l.length ≤ c ∧ Kd.C k26 w A l.length l ∧ ∀ o ∈ l, KyOk (tk o) := by
  rcases open_fields Try.underlying22 Try.underlying26 (by kernel_rfl) (by kernel_rfl) h with hcs | ⟨a, len, cap, hcs, hl, hm, hi⟩
  · obtain rfl := (List.cons.inj hcs).1
    exact ⟨none, 0, [], rfl, Nat.le_refl _, Kd.C_nil _ _, fun x hx => (by cases hx)⟩
  · obtain rfl := (List.cons.inj hcs).1
    have key : ∀ i, i < len → ∃ x : S26, KyOk (tk x) ∧ ∃ c : List Value, c.length = 3 ∧ k26.K w x c ∧ ∀ j u, c[j]? = some u → w.cell? (a.add (i * 3 + j)) = some u := fun i hil => by
      obtain ⟨m, hm⟩ := hi i hil
      exact open_key (hm 0 _ rfl) (hm 1 _ rfl) (hm 2 _ rfl)
    obtain ⟨g, hg⟩ : ∃ g : Nat → S26, ∀ i, i < len → KyOk (tk (g i)) ∧ ∃ c : List Value, c.length = 3 ∧ k26.K w (g i) c ∧ ∀ j u, c[j]? = some u → w.cell? (a.add (i * 3 + j)) = some u := by
      refine ⟨fun i => if h : i < len then Classical.choose (key i h) else z26, fun i h => ?_⟩
      have e : (if h : i < len then Classical.choose (key i h) else z26) = Classical.choose (key i h) := dif_pos h
      show KyOk (tk (if h : i < len then Classical.choose (key i h) else z26)) ∧ ∃ c : List Value, c.length = 3 ∧ k26.K w (if h : i < len then Classical.choose (key i h) else z26) c ∧ _
      rw [e]
      exact Classical.choose_spec (key i h)
    have e : ((List.range len).map g).length = len := by simp
    unfold maxLen at hm
    refine ⟨some a, cap, (List.range len).map g, by rw [e], by omega, ⟨rfl, by omega, fun _ => ⟨a, rfl, fun j p hj => ?_⟩⟩, fun o ho => ?_⟩
    rotate_left
    · obtain ⟨i, hi', rfl⟩ := List.mem_map.1 ho
      exact (hg i (List.mem_range.1 hi')).1
    obtain ⟨hjl, hp⟩ := List.getElem?_eq_some_iff.1 hj
    rw [e] at hjl
    have hp' : g j = p := by simpa using hp
    rw [← hp']
    exact (hg j hjl).2
end

set_option maxRecDepth 100000 in
theorem lifted (os : Os) (started : os.Started) (H : Type) (enc : TypeId × Value → H) :
    ReturnsInHanded {} Try.checked os 4 .any (Rows.timerqOrderlessSpec.pre6 enc Try.prog Try.f4 Rows.timerqOrderlessRow.domain false) (Rows.timerqOrderlessSpec.post enc Try.prog Try.f4 false true false false) := by
  refine returnsInHanded_of_change_sized (C := Try.checked) own started (by kernel_rfl) Try.func4
    (ChangeSpec.witness6 (enc := enc) (C := Try.checked) false ⟨#[], #[.slice none 0 0, .slice none 0 0], []⟩ 8 (by kernel_rfl) (by kernel_rfl) (by kernel_rfl) (by kernel_rfl)) ?_
  intro W base args ds gs before hval0 hW hcnd hsz0 _
  have hsz : (DataW.weightsEach Try.prog (Try.f4.params.toList ++ Rows.timerqOrderlessSpec.plain.varTypes Try.prog) (ds ++ gs)).all (· ≤ reachBytes) = true := hsz0
  have hval : ∀ (j : Nat) t v, Try.f4.params[j]? = some t → args[j]? = some v → Value.okWide Try.prog W .any base t v := hval0
  have hW' := hW
  obtain ⟨p, q, hA0, hV, rfl, hfz, hnd⟩ := hW
  have hA : DataW.TrodAll enc Try.prog W 0 (fun _ => true) true Try.f4.params.toList args.toList ds p := hA0
  rw [Try.params4] at hA hval hsz
  obtain ⟨v0, vs0, d0, ds0, p0, q0, hargs, rfl, rfl, h0, r0⟩ := trodAll_cons hA
  obtain ⟨v1, vs1, d1, ds1, p1, q1, rfl, rfl, rfl, h1, r1⟩ := trodAll_cons r0
  obtain ⟨rfl, rfl, rfl⟩ := trodAll_nil r1
  obtain rfl : args = #[v0, v1] := by cases args; simp_all
  obtain ⟨rfl, rfl⟩ := trodVars_none hV
  have k0 := h0
  have lt0 : ∀ x ∈ p0, x.block < W.heap.size := by obtain ⟨m, hm⟩ := k0; exact DataW.trod_lt m _ _ _ hm
  obtain ⟨fuel0, hf0⟩ := h0
  obtain ⟨a00, len0, cap0, hv0⟩ := okWide_slice Try.underlying22 (hval 0 22 v0 rfl rfl)
  have hcs0 : v0.cells.toList = [v0] := by rw [hv0]; rfl
  rw [hcs0] at hf0
  obtain ⟨A0, c0, l0, rfl, hc0, hC0, hok0⟩ := open_keys hf0
  have k1 := h1
  have lt1 : ∀ x ∈ p1, x.block < W.heap.size := by obtain ⟨m, hm⟩ := k1; exact DataW.trod_lt m _ _ _ hm
  obtain ⟨fuel1, hf1⟩ := h1
  obtain ⟨a01, len1, cap1, hv1⟩ := okWide_slice Try.underlying22 (hval 1 22 v1 rfl rfl)
  have hcs1 : v1.cells.toList = [v1] := by rw [hv1]; rfl
  rw [hcs1] at hf1
  obtain ⟨A1, c1, l1, rfl, hc1, hC1, hok1⟩ := open_keys hf1
  clear hA0 hval0 hsz0 hsz
  refine (Go.Proofs.Ytkbbngkfncbgkaa.IQOrdL.orderless_walk A0 A1 c0 c1 l0 l1 W hC0 hC1 hc0 hc1 (fun k hk => by obtain ⟨o, ho, rfl⟩ := List.mem_map.1 hk; exact hok0 o ho) (fun k hk => by obtain ⟨o, ho, rfl⟩ := List.mem_map.1 hk; exact hok1 o ho)).mono fun e W' ⟨he, bel⟩ => ?_
  subst he
  exact ⟨_, rfl, _, _, _, [], _, [], hW', trodAll_mk1 (shut_bool Try.underlying4 _), (trodAll_cons_mk (Below.trod laidOut (by kernel_rfl) (of_decide_eq_true (by kernel_rfl)) k0 bel lt0) (trodAll_cons_mk (Below.trod laidOut (by kernel_rfl) (of_decide_eq_true (by kernel_rfl)) k1 bel lt1) trodAll_mk0)), rfl, bel.frame _, fun h => by cases h⟩
theorem over : Rows.timerqOrderlessRow.holds Try.pinned (OpenSpec.ofChange Rows.timerqOrderlessSpec) :=
  OpenClaim.holds_of_wide 4 Try.f4 rfl rfl rfl rfl rfl rfl rfl ⟨rfl, rfl, rfl, rfl, rfl⟩ rfl rfl rfl rfl rfl (by kernel_rfl) Try.func4 (by kernel_rfl)
    (of_decide_eq_true (by kernel_rfl)) (by unfold Func.isWrapper; first | (rw [if_pos (by decide +kernel)]; kernel_rfl) | (rw [if_neg (by decide +kernel)]; exact ⟨rfl, rfl⟩))
    (fun os started H enc _ => lifted os started H enc)
theorem proved : Rows.TimerqOrderlessSaid := over
#print axioms proved
end Go.Proofs.Ytkbbngkfncbgkaa.timerqOrderless
namespace Go.Proofs.Ytkbbngkfncbgkaa
/-- The row, under a short name, for the claim. -/
theorem timerqOrderless_holds : Rows.TimerqOrderlessSaid := timerqOrderless.proved
end Go.Proofs.Ytkbbngkfncbgkaa
