/- MoneyExact: whatever calls are made, in whatever order, each answers as the document says, and the script reads behind the call as it read before; strconv's table of powers of ten holds what the program's text lays (tied to the text by the card); no other condition. -/
import Derived.Test.YtfofcgflamidhaaDoorRows
import Derived.Test.YtfofcgflamidhaaDoorZPXx16
import Derived.Test.YtfofcgflamidhaaDoorZXMExact
import Derived.Deep.Slices
import Derived.Deep.Fields
import Derived.ChangeSame
import Derived.Test.YtfofcgflamidhaaDoorCards
import Derived.Test.YtfofcgflamidhaaDoorTie
import Derived.Deep.DeepHandedRow
import Derived.Lib.LaidTab
import Derived.WalkKit
import Derived.ProofKit
import Derived.OpenShut
import Derived.ShutString
import Derived.ChangeOld
import Derived.Below
import Derived.SizedLaws
namespace Go.Proofs.YtfofcgflamidhaaDoor.moneyExact
open Go.ChangeShapes Go.WideShapes Go.ChangeAt Go.RowKit
open Go.ChangeMaps (open_string shut_string)
set_option linter.unusedVariables false
theorem laidOut : laidOutB Tryd.prog = true := by kernel_rfl
section
open Go.Deep
variable {H : Type} {enc : TypeId × Value → H} {P : Program} {w : World} {base : Nat} {spare : Nat → Bool} {held : Bool}
theorem open_fields {t e : TypeId} {fs : Array Field} {fuel : Nat} {cs : List Value} {x : DataW H × List MemPlace} (ht : P.underlying t = some (.slice e)) (he : P.underlying e = some (.struct fs))
    (hone : oneCellFields P fs = true) (hC : P.cellsOf e = fs.size) (h : DataW.trod enc P w base spare held fuel t cs = some x) :
    cs = [.slice none 0 0] ∨
    ∃ (a : Addr) (len cap : Nat), cs = [.slice (some a) len cap] ∧ len ≤ cap ∧ cap ≤ maxLen ∧
      ∀ i, i < len → ∃ n : Nat, ∀ (j : Nat) (f : Field), fs[j]? = some f → ∃ (v : Value) (y : DataW H × List MemPlace), w.cell? (a.add (i * fs.size + j)) = some v ∧ DataW.trod enc P w base spare held n f.type [v] = some y := by
  rcases open_slice ht h with h0 | ⟨a, len, cap, m, n, D, Pl, hcs, hb, hl, hm, hmm, hx, hi⟩
  · exact .inl h0.1
  · refine .inr ⟨a, len, cap, hcs, hl, hm, fun i hil => ?_⟩
    have him : i < m := by
      rw [hmm]
      split <;> omega
    obtain ⟨cs', hc, ht'⟩ := hi i him
    rw [hC] at hc
    obtain ⟨ys, n', hn', hy, hlen, hyl, hf⟩ := DataW.trod_struct he ht'
    obtain ⟨_, hcl, hat⟩ := World.cells?_some hc
    refine ⟨n', fun j f hj => ?_⟩
    obtain ⟨ho, hk⟩ := hone_of hone j f hj
    have hjl : j < fs.size := (Array.getElem?_eq_some_iff.1 hj).1
    have hcell := hat j hjl
    have hv : cs'[j]? = some (cs'[j]'(by omega)) := List.getElem?_eq_getElem (by omega)
    have h1 := hf j f hj
    rw [ho, hk] at h1
    have hone' : (cs'.drop j).take 1 = [cs'[j]'(by omega)] := by
      rw [List.drop_eq_getElem_cons (by omega)]
      rfl
    rw [hone'] at h1
    have hys : ys[j]? = some (ys[j]'(by omega)) := List.getElem?_eq_getElem (by omega)
    refine ⟨_, _, ?_, h1.trans hys⟩
    rw [← Go.Deep.add_add, hcell, hv]
end
section
open Go.Proofs.YtfofcgflamidhaaDoorW.PrintWords
variable {H : Type} {enc : TypeId × Value → H} {w : World} {base : Nat} {spare : Nat → Bool} {held : Bool}
theorem open_list {n : Nat} {v : Value} {y : DataW H × List MemPlace} (h : DataW.trod enc Tryd.prog w base spare held n 28 [v] = some y) : ∃ (A : Option Addr) (c : Nat) (l : List Int), v = .slice A l.length c ∧ l.length ≤ c ∧ (Kd.int .i64).C w A l.length l ∧ ∀ x ∈ l, XMB.I64 x := by
  rcases open_ints Tryd.underlying28 Tryd.underlying2 (by kernel_rfl) h with ⟨hcs, _⟩ | ⟨x, l, c, zs, hcs, _, hl, hm, hz, _, hcell, hwf⟩
  · obtain rfl := (List.cons.inj hcs).1
    exact ⟨none, 0, [], rfl, Nat.le_refl _, Kd.C_nil _ _, fun x hx => (by cases hx)⟩
  · obtain rfl := (List.cons.inj hcs).1
    have hzl : l ≤ zs.length := by rw [hz]; split <;> omega
    have e : (zs.take l).length = l := by rw [List.length_take]; omega
    refine ⟨some x, c, zs.take l, by rw [e], by omega, Kd.C_of_reads (d := (0 : Int)) (h1 := fun _ => rfl) ⟨rfl, by rw [e]; unfold maxLen at hm; omega, fun _ => ⟨x, rfl, fun j hj => ?_⟩⟩, fun y hy => XMB.I64.of (hwf y (List.mem_of_mem_take hy))⟩
    rw [e] at hj
    rw [hcell j (by omega), List.getD_eq_getElem?_getD, List.getD_eq_getElem?_getD, List.getElem?_take_of_lt hj]
theorem open_op {a : Addr} {i n : Nat}
    (h0 : ∃ (v : Value) (y : DataW H × List MemPlace), w.cell? (a.add (i * 6 + 0)) = some v ∧ DataW.trod enc Tryd.prog w base spare held n 3 [v] = some y)
    (h1 : ∃ (v : Value) (y : DataW H × List MemPlace), w.cell? (a.add (i * 6 + 1)) = some v ∧ DataW.trod enc Tryd.prog w base spare held n 2 [v] = some y)
    (h2 : ∃ (v : Value) (y : DataW H × List MemPlace), w.cell? (a.add (i * 6 + 2)) = some v ∧ DataW.trod enc Tryd.prog w base spare held n 2 [v] = some y)
    (h3 : ∃ (v : Value) (y : DataW H × List MemPlace), w.cell? (a.add (i * 6 + 3)) = some v ∧ DataW.trod enc Tryd.prog w base spare held n 2 [v] = some y)
    (h4 : ∃ (v : Value) (y : DataW H × List MemPlace), w.cell? (a.add (i * 6 + 4)) = some v ∧ DataW.trod enc Tryd.prog w base spare held n 28 [v] = some y)
    (h5 : ∃ (v : Value) (y : DataW H × List MemPlace), w.cell? (a.add (i * 6 + 5)) = some v ∧ DataW.trod enc Tryd.prog w base spare held n 9 [v] = some y) :
    ∃ x : PX.S30, XMExact.OpOk x ∧ ∃ c : List Value, c.length = 6 ∧ PX.k30.K w x c ∧ ∀ j u, c[j]? = some u → w.cell? (a.add (i * 6 + j)) = some u := by
  obtain ⟨v0, y0, c0, t0⟩ := h0
  obtain ⟨v1, y1, c1, t1⟩ := h1
  obtain ⟨v2, y2, c2, t2⟩ := h2
  obtain ⟨v3, y3, c3, t3⟩ := h3
  obtain ⟨v4, y4, c4, t4⟩ := h4
  obtain ⟨v5, y5, c5, t5⟩ := h5
  obtain ⟨n0, e0, _⟩ := DataW.trod_int Tryd.underlying3 t0
  obtain ⟨n1, e1, _, w1⟩ := DataW.trod_int Tryd.underlying2 t1
  obtain ⟨n2, e2, _, w2⟩ := DataW.trod_int Tryd.underlying2 t2
  obtain ⟨n3, e3, _, w3⟩ := DataW.trod_int Tryd.underlying2 t3
  obtain ⟨A4, k4, l4, rfl, hl4, hC4, hw4⟩ := open_list t4
  obtain ⟨s, e5, _, w5⟩ := DataW.trod_string Tryd.underlying9 t5
  obtain rfl := (List.cons.inj e0).1
  obtain rfl := (List.cons.inj e1).1
  obtain rfl := (List.cons.inj e2).1
  obtain rfl := (List.cons.inj e3).1
  obtain rfl := (List.cons.inj e5).1
  refine ⟨⟨n0, n1, n2, n3, l4, s⟩, ⟨XMB.I64.of w1, XMB.I64.of w2, XMB.I64.of w3, hw4, by unfold maxLen at w5; show s.size ≤ 9223372036854775807; omega⟩, _, rfl, PX.k30_mk w ⟨n0, n1, n2, n3, l4, s⟩ hl4 hC4, fun j u hu => ?_⟩
  match j, hu with
  | 0, hu => obtain rfl := Option.some.inj hu; exact c0
  | 1, hu => obtain rfl := Option.some.inj hu; exact c1
  | 2, hu => obtain rfl := Option.some.inj hu; exact c2
  | 3, hu => obtain rfl := Option.some.inj hu; exact c3
  | 4, hu => obtain rfl := Option.some.inj hu; exact c4
  | 5, hu => obtain rfl := Option.some.inj hu; exact c5
  | j + 6, hu => simp at hu
theorem open_ops {v : Value} {n : Nat} {y : DataW H × List MemPlace} (h : DataW.trod enc Tryd.prog w base spare held n 26 [v] = some y) :
    ∃ (A : Option Addr) (c : Nat) (l : List PX.S30), v = .slice A l.length c ∧ l.length ≤ c ∧ l.length ≤ 9223372036854775807 ∧ Kd.C PX.k30 w A l.length l ∧ ∀ o ∈ l, XMExact.OpOk o := by
  rcases open_fields Tryd.underlying26 Tryd.underlying30 (by kernel_rfl) (by kernel_rfl) h with hcs | ⟨a, len, cap, hcs, hl, hm, hi⟩
  · obtain rfl := (List.cons.inj hcs).1
    exact ⟨none, 0, [], rfl, Nat.le_refl _, by decide, Kd.C_nil _ _, fun x hx => (by cases hx)⟩
  · obtain rfl := (List.cons.inj hcs).1
    have key : ∀ i, i < len → ∃ x : PX.S30, XMExact.OpOk x ∧ ∃ c : List Value, c.length = 6 ∧ PX.k30.K w x c ∧ ∀ j u, c[j]? = some u → w.cell? (a.add (i * 6 + j)) = some u := fun i hil => by
      obtain ⟨m, hm⟩ := hi i hil
      exact open_op (hm 0 _ rfl) (hm 1 _ rfl) (hm 2 _ rfl) (hm 3 _ rfl) (hm 4 _ rfl) (hm 5 _ rfl)
    obtain ⟨g, hg⟩ : ∃ g : Nat → PX.S30, ∀ i, i < len → XMExact.OpOk (g i) ∧ ∃ c : List Value, c.length = 6 ∧ PX.k30.K w (g i) c ∧ ∀ j u, c[j]? = some u → w.cell? (a.add (i * 6 + j)) = some u := by
      refine ⟨fun i => if h : i < len then Classical.choose (key i h) else PX.z30, fun i h => ?_⟩
      have e : (if h : i < len then Classical.choose (key i h) else PX.z30) = Classical.choose (key i h) := dif_pos h
      show XMExact.OpOk (if h : i < len then Classical.choose (key i h) else PX.z30) ∧ ∃ c : List Value, c.length = 6 ∧ PX.k30.K w (if h : i < len then Classical.choose (key i h) else PX.z30) c ∧ _
      rw [e]
      exact Classical.choose_spec (key i h)
    have e : ((List.range len).map g).length = len := by simp
    unfold maxLen at hm
    refine ⟨some a, cap, (List.range len).map g, by rw [e], by omega, by omega, ⟨rfl, by omega, fun _ => ⟨a, rfl, fun j p hj => ?_⟩⟩, fun o ho => ?_⟩
    rotate_left
    · obtain ⟨i, hi', rfl⟩ := List.mem_map.1 ho
      exact (hg i (List.mem_range.1 hi')).1
    obtain ⟨hjl, hp⟩ := List.getElem?_eq_some_iff.1 hj
    rw [e] at hjl
    have hp' : g j = p := by simpa using hp
    rw [← hp']
    exact (hg j hjl).2
end
theorem own : ownKnob Tryd.prog.godebug = none := by kernel_rfl
theorem laid_tail {P : Program} {W : World} {x : String × DataW Unit} {rest : List (String × DataW Unit)} {ps : List MemPlace} (h : DataW.LaidVars P W (x :: rest) ps) : ∃ q, DataW.LaidVars P W rest q := by
  obtain ⟨n, d⟩ := x
  obtain ⟨_, _, _, _, _, q, _, _, _, _, h1, h2⟩ := h
  first | exact ⟨_, h1⟩ | exact ⟨_, h2⟩
theorem tab_of {P : Program} {W : World} {name : String} {k : IntKind} {zs : List Int} {rest : List (String × DataW Unit)} {g : Nat} {t e : TypeId} {n : Nat} {ps : List MemPlace}
    (hg : P.globalNamed name = some g) (hty : (P.globals[g]?).map (·.type) = some t) (ht : P.underlying t = some (.array n e)) (he : P.underlying e = some (.int k)) (hce : P.cellsOf e = 1) (hct : P.cellsOf t = n)
    (h : DataW.LaidVars P W ((name, Lib.tabData k zs) :: rest) ps) : Lib.TabIs P W name k zs := by
  obtain ⟨g', t', cs, fuel, p, q, hg', ht', hvar, hd, _, _⟩ := h
  obtain rfl := Option.some.inj (hg.symm.trans hg')
  obtain rfl := Option.some.inj (hty.symm.trans ht')
  unfold Lib.TabIs
  rw [hvar, ← Lib.cells_of_tab ht he hce hct hd]
theorem table2 {W : World} (h : laidMetH Tryd.prog Rows.moneyExactRow.laid W) : Lib.TabIs Tryd.prog W "internal/strconv.uint64pow10" .u64 Lib.pow10Tab := by
  obtain ⟨ps, hl, _⟩ := (show laidMet Tryd.prog Rows.moneyExactRow.laid W from h)
  obtain ⟨_, hl⟩ := laid_tail hl
  obtain ⟨_, hl⟩ := laid_tail hl
  exact tab_of (by kernel_rfl : Tryd.prog.globalNamed "internal/strconv.uint64pow10" = some 0) (by kernel_rfl : (Tryd.prog.globals[0]?).map (·.type) = some 85) Tryd.underlying85 Tryd.underlying34 (by kernel_rfl : Tryd.prog.cellsOf 34 = 1) (by kernel_rfl : Tryd.prog.cellsOf 85 = 20) hl
theorem powAt {W : World} (h : laidMetH Tryd.prog Rows.moneyExactRow.laid W) : PX.PowAt W := PX.PowAt_mk (table2 h)
def lay_ (cs : Array Value) : Obj → Obj
  | .cells _ t frozen => .cells cs t frozen
  | o => o
/-- A world for the witness: the table (block 0) holds what its initialiser lays. -/
noncomputable def laidWorld (os : Os) : World :=
  { World.holding Tryd.prog os ⟨#[], #[], []⟩ with heap := ((((World.holding Tryd.prog os ⟨#[], #[], []⟩).heap.modify 3 (lay_ #[.int .u8 0, .int .u8 1, .int .u8 28, .int .u8 2, .int .u8 29, .int .u8 14, .int .u8 24, .int .u8 3, .int .u8 30, .int .u8 22, .int .u8 20, .int .u8 15, .int .u8 25, .int .u8 17, .int .u8 4, .int .u8 8, .int .u8 31, .int .u8 27, .int .u8 13, .int .u8 23, .int .u8 21, .int .u8 19, .int .u8 16, .int .u8 7, .int .u8 26, .int .u8 12, .int .u8 18, .int .u8 6, .int .u8 11, .int .u8 5, .int .u8 10, .int .u8 9])).modify 4 (lay_ #[.int .u8 0, .int .u8 1, .int .u8 56, .int .u8 2, .int .u8 57, .int .u8 49, .int .u8 28, .int .u8 3, .int .u8 61, .int .u8 58, .int .u8 42, .int .u8 50, .int .u8 38, .int .u8 29, .int .u8 17, .int .u8 4, .int .u8 62, .int .u8 47, .int .u8 59, .int .u8 36, .int .u8 45, .int .u8 43, .int .u8 51, .int .u8 22, .int .u8 53, .int .u8 39, .int .u8 33, .int .u8 30, .int .u8 24, .int .u8 18, .int .u8 12, .int .u8 5, .int .u8 63, .int .u8 55, .int .u8 48, .int .u8 27, .int .u8 60, .int .u8 41, .int .u8 37, .int .u8 16, .int .u8 46, .int .u8 35, .int .u8 44, .int .u8 21, .int .u8 52, .int .u8 32, .int .u8 23, .int .u8 11, .int .u8 54, .int .u8 26, .int .u8 40, .int .u8 15, .int .u8 34, .int .u8 20, .int .u8 31, .int .u8 10, .int .u8 25, .int .u8 14, .int .u8 19, .int .u8 9, .int .u8 13, .int .u8 8, .int .u8 7, .int .u8 6])).modify 0 (lay_ #[.int .u64 1, .int .u64 10, .int .u64 100, .int .u64 1000, .int .u64 10000, .int .u64 100000, .int .u64 1000000, .int .u64 10000000, .int .u64 100000000, .int .u64 1000000000, .int .u64 10000000000, .int .u64 100000000000, .int .u64 1000000000000, .int .u64 10000000000000, .int .u64 100000000000000, .int .u64 1000000000000000, .int .u64 10000000000000000, .int .u64 100000000000000000, .int .u64 1000000000000000000, .int .u64 10000000000000000000])) }
theorem laid_met (os : Os) : laidMet Tryd.prog Rows.moneyExactRow.laid ((laidWorld os).forCall (fun _ _ => 0) ⟨#[], #[.slice none 0 0], []⟩).memory :=
  laidMet_of_run' 8 (by kernel_rfl) (by kernel_rfl)
theorem reads (os : Os) {H : Type} (enc : TypeId × Value → H) : ∃ places, DataW.whole enc Tryd.prog ((laidWorld os).forCall (fun _ _ => 0) ⟨#[], #[.slice none 0 0], []⟩).memory Tryd.f4.params.toList Rows.moneyExactSpec.vars false #[.slice none 0 0].toList 8 = some ([.nil], [], places) :=
  ⟨[], by kernel_rfl⟩
set_option maxRecDepth 100000 in
theorem lifted (os : Os) (started : os.Started) (H : Type) (enc : TypeId × Value → H) (F : Stop.Interp) :
    ReturnsInHanded {} Tryd.checked os 4 .any ((OpenSpec.ofChange Rows.moneyExactSpec).preRow enc Tryd.prog Tryd.f4 Rows.moneyExactRow.domain false Rows.moneyExactRow.laid) (((OpenSpec.ofChange Rows.moneyExactSpec).at F).post enc Tryd.prog Tryd.f4 false true false false) := by
  obtain ⟨places, hx⟩ := reads os enc
  refine returnsInHanded_of_row (C := Tryd.checked) (s := OpenSpec.ofChange Rows.moneyExactSpec) own started (by kernel_rfl) Tryd.func4
    (witness_row_at (enc := enc) (C := Tryd.checked) false (laidWorld os) #[.slice none 0 0] rfl (by kernel_rfl) (by kernel_rfl) (by kernel_rfl)
      (OpenSpec.preRow_of_cond 8 hx (by kernel_rfl) (fun k hk => by cases hk) (by kernel_rfl) (laid_met os))) ?_
  intro W base args ds gs before hval0 hW hcnd _ hsz0 hL _ _
  have hP := powAt hL
  have hsz : (DataW.weightsEach Tryd.prog (Tryd.f4.params.toList ++ Rows.moneyExactSpec.plain.varTypes Tryd.prog) (ds ++ gs)).all (· ≤ reachBytes) = true := hsz0
  have hval : ∀ (j : Nat) t v, Tryd.f4.params[j]? = some t → args[j]? = some v → Value.okWide Tryd.prog W .any base t v := hval0
  have hW' := hW
  obtain ⟨p, q, hA0, hV, rfl, hfz, hnd⟩ := hW
  have hA : DataW.TrodAll enc Tryd.prog W 0 (fun _ => true) true Tryd.f4.params.toList args.toList ds p := hA0
  rw [Tryd.params4] at hA hval hsz
  obtain ⟨v0, vs0, d0, ds0, p0, q0, hargs, rfl, rfl, h0, r0⟩ := trodAll_cons hA
  obtain ⟨rfl, rfl, rfl⟩ := trodAll_nil r0
  obtain rfl : args = #[v0] := by cases args; simp_all
  obtain ⟨rfl, rfl⟩ := trodVars_none hV
  obtain ⟨a0, len0, cap0, rfl⟩ := okWide_slice Tryd.underlying26 (hval 0 26 v0 rfl rfl)
  have k0 := h0
  have lt0 : ∀ x ∈ p0, x.block < W.heap.size := by obtain ⟨m, hm⟩ := k0; exact DataW.trod_lt m _ _ _ hm
  obtain ⟨A0, c0, l0, e0, hlc, hlm, hC, hok⟩ := (by obtain ⟨fuel, hf⟩ := h0; exact open_ops hf : ∃ (A : Option Addr) (c : Nat) (l : List PX.S30), (Value.slice a0 len0 cap0) = .slice A l.length c ∧ l.length ≤ c ∧ l.length ≤ 9223372036854775807 ∧ Go.Proofs.YtfofcgflamidhaaDoorW.PrintWords.Kd.C PX.k30 W A l.length l ∧ ∀ o ∈ l, XMExact.OpOk o)
  injection e0 with e1 e2 e3
  subst e1; subst e2; subst e3
  obtain ⟨k, hk⟩ := XMExact.exact_ev l0 hlm hok
  clear hA0 hval0 hsz0 hsz
  refine (PX.arrearslaw1_MoneyExact.calls k a0 cap0 l0 true W hC hlc hP (hk k (Nat.le_refl _))).mono fun e W' ⟨he, bel⟩ => ?_
  subst he
  exact ⟨_, rfl, _, _, _, [], _, [], hW', trodAll_mk1 (shut_bool Tryd.underlying4 _), (trodAll_cons_mk (Below.trod laidOut (by kernel_rfl) (of_decide_eq_true (by kernel_rfl)) k0 bel lt0) trodAll_mk0), rfl, bel.frame _, fun h => by cases h⟩
theorem said : Rows.MoneyExactSaid :=
  OpenClaim.holds_of_cond 4 Tryd.f4 rfl rfl rfl rfl rfl rfl rfl ⟨rfl, rfl, rfl, rfl, rfl⟩ rfl rfl rfl rfl rfl (by kernel_rfl) Tryd.func4 (by kernel_rfl)
    (of_decide_eq_true (by kernel_rfl)) (by unfold Func.isWrapper; first | (rw [if_pos (by decide +kernel)]; kernel_rfl) | (rw [if_neg (by decide +kernel)]; exact ⟨rfl, rfl⟩))
    (fun os started H enc _ F => by rw [OpenClaim.pre_eq_preRow]; exact lifted os started H enc F)
theorem plain (f : FuncId) (fn : Func) (hf : Tryd.pinned.checked.prog.funcNamed "arrears/arrearslaw1.MoneyExact" = some f) (hfn : Tryd.pinned.checked.prog.funcs[f]? = some fn) :
    false = Tryd.pinned.checked.prog.looks [] ∧ ∀ (j : Nat) t, fn.params[j]? = some t → Tryd.pinned.checked.prog.wantsStandIn t = false := by
  obtain rfl : f = 4 := Option.some.inj ((show Tryd.prog.funcNamed "arrears/arrearslaw1.MoneyExact" = some 4 by kernel_rfl).symm.trans hf) |>.symm
  obtain rfl : fn = Tryd.f4 := (Option.some.inj (Tryd.func4.symm.trans hfn)).symm
  refine ⟨by kernel_rfl, fun j t ht => ?_⟩
  rw [Tryd.params4] at ht
  match j, ht with
  | 0, ht => obtain rfl := Option.some.inj ht; exact (show Tryd.prog.wantsStandIn 26 = false by kernel_rfl)
  | j + 1, ht => cases ht
theorem proved : Rows.MoneyExactCardSaid :=
  Claim7.holds_tied_plain_at .later [] _ _ _ _ said (fun _ h => by cases h) (by kernel_rfl) (fun _ h => by cases h) moneyExact_row_tie rfl ⟨rfl, rfl⟩ (by kernel_rfl) rfl plain (by kernel_rfl)
#print axioms proved
end Go.Proofs.YtfofcgflamidhaaDoor.moneyExact
namespace Go.Proofs.YtfofcgflamidhaaDoor
/-- The row, under a short name, for the claim. -/
theorem moneyExact_holds : Rows.MoneyExactCardSaid := moneyExact.proved
end Go.Proofs.YtfofcgflamidhaaDoor
