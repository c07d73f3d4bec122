/- ScriptWhole: for every input that can be read the law returns true, and each argument reads behind the call as it read before; the tables that the program's text lays hold what it lays (tied to the text by the card); no other condition. The row out of the walk by hand. -/
import Derived.Test.YtjhodgcjkobpoaaGreatDoorRows
import Derived.Test.YtjhodgcjkobpoaaGreatDoorZPAx17
import Derived.Test.YtjhodgcjkobpoaaGreatDoorZWholeP
import Derived.Deep.Slices
import Derived.Deep.Fields
import Derived.Lib.SmallJoins
import Derived.LaidHandle
import Derived.Test.YtjhodgcjkobpoaaGreatDoorShelf
import Derived.Test.YtjhodgcjkobpoaaGreatDoorCards
import Derived.Test.YtjhodgcjkobpoaaGreatDoorTie
import Derived.Deep.DeepHandedRow
import Derived.Lib.LaidTab
import Derived.WalkKit
import Derived.ProofKit
import Derived.OpenShut
import Derived.ShutString
import Derived.ChangeOld
import Derived.Below
import Derived.SizedLaws
namespace Go.Proofs.YtjhodgcjkobpoaaGreatDoor.scriptWhole
open Go.ChangeShapes Go.WideShapes Go.ChangeAt Go.RowKit
open Go.ChangeMaps (open_string shut_string)
set_option linter.unusedVariables false
theorem own : ownKnob Tryz.prog.godebug = none := by kernel_rfl
theorem laidOut : laidOutB Tryz.prog = true := by kernel_rfl
section
variable {H : Type} {enc : TypeId × Value → H} {w : World} {base : Nat} {spare : Nat → Bool} {held : Bool}
theorem cells_of_strs {P : Program} {fuel : Nat} {t e : TypeId} {n : Nat} {cs : List Value} {zs : List ByteArray} {p : List MemPlace} {sp : Nat → Bool}
    (ht : P.underlying t = some (.array n e)) (he : P.underlying e = some .string) (hce : P.cellsOf e = 1) (hct : P.cellsOf t = n)
    (h : DataW.trod enc P w base sp held fuel t cs = some (.agg (zs.map fun z => .lit (.string z.data.toList)), p)) : cs = zs.map Value.string := by
  cases fuel with
  | zero => simp [DataW.trod] at h
  | succ fuel =>
    simp only [DataW.trod, ht, hce, hct, Nat.mul_one] at h
    split at h
    · rename_i hl
      obtain ⟨xs, hm, hx⟩ := Option.map_eq_some_iff.1 h
      have hxs : xs.map (·.1) = zs.map fun z => (DataW.lit (.string z.data.toList) : DataW H) := by
        have := congrArg Prod.fst hx
        simpa using this
      have hxl : xs.length = n := by simpa using Lib.mapM_length hm
      have hzl : zs.length = n := by
        have := congrArg List.length hxs
        simp at this
        omega
      apply List.ext_getElem?
      intro i
      by_cases hi : i < n
      · obtain ⟨b, hb, hf⟩ := Lib.mapM_at hm i i (by simp [hi])
        obtain ⟨z, hc, rfl, _⟩ := DataW.trod_string he hf
        have h1 : cs[i]? = some (.string z) := by
          have := congrArg (·[0]?) hc
          simpa [List.getElem?_take, List.getElem?_drop] using this
        have h2 : (xs.map (·.1))[i]? = some (DataW.lit (.string z.data.toList) : DataW H) := by simp [hb]
        rw [hxs] at h2
        simp only [List.getElem?_map, Option.map_eq_some_iff, DataW.lit.injEq, Lit.string.injEq] at h2
        obtain ⟨z', hz', e⟩ := h2
        have e' : z' = z := ByteArray.ext (Array.toList_inj.1 e)
        subst e'
        simp [h1, hz']
      · rw [List.getElem?_eq_none (by omega), List.getElem?_eq_none (by simp; omega)]
    · cases h
theorem strs_of {P : Program} {W : World} {name : String} (zs : List ByteArray) {d : DataW Unit} {rest : List (String × DataW Unit)} {g : Nat} {t e : TypeId} {n : Nat} {ps : List MemPlace}
    (hg : P.globalNamed name = some g) (hty : (P.globals[g]?).map (·.type) = some t) (ht : P.underlying t = some (.array n e)) (he : P.underlying e = some .string) (hce : P.cellsOf e = 1) (hct : P.cellsOf t = n)
    (h : DataW.LaidVars P W ((name, d) :: rest) ps) (hd : d = .agg (zs.map fun z => .lit (.string z.data.toList)) := by rfl) : PA.StrIs P W name zs := by
  subst hd
  obtain ⟨g', t', cs, fuel, p, q, hg', ht', hvar, hd, _, _⟩ := h
  obtain rfl := Option.some.inj (hg.symm.trans hg')
  obtain rfl := Option.some.inj (hty.symm.trans ht')
  unfold PA.StrIs
  rw [hvar, ← cells_of_strs ht he hce hct hd]
end
section
open Go.Deep
variable {H : Type} {enc : TypeId × Value → H} {P : Program} {w : World} {base : Nat} {spare : Nat → Bool} {held : Bool}
theorem open_fields {t e : TypeId} {fs : Array Field} {fuel : Nat} {cs : List Value} {x : DataW H × List MemPlace} (ht : P.underlying t = some (.slice e)) (he : P.underlying e = some (.struct fs))
    (hone : oneCellFields P fs = true) (hC : P.cellsOf e = fs.size) (h : DataW.trod enc P w base spare held fuel t cs = some x) :
    cs = [.slice none 0 0] ∨
    ∃ (a : Addr) (len cap : Nat), cs = [.slice (some a) len cap] ∧ len ≤ cap ∧ cap ≤ maxLen ∧
      ∀ i, i < len → ∃ n : Nat, ∀ (j : Nat) (f : Field), fs[j]? = some f → ∃ (v : Value) (y : DataW H × List MemPlace), w.cell? (a.add (i * fs.size + j)) = some v ∧ DataW.trod enc P w base spare held n f.type [v] = some y := by
  rcases open_slice ht h with h0 | ⟨a, len, cap, m, n, D, Pl, hcs, hb, hl, hm, hmm, hx, hi⟩
  · exact .inl h0.1
  · refine .inr ⟨a, len, cap, hcs, hl, hm, fun i hil => ?_⟩
    have him : i < m := by
      rw [hmm]
      split <;> omega
    obtain ⟨cs', hc, ht'⟩ := hi i him
    rw [hC] at hc
    obtain ⟨ys, n', hn', hy, hlen, hyl, hf⟩ := DataW.trod_struct he ht'
    obtain ⟨_, hcl, hat⟩ := World.cells?_some hc
    refine ⟨n', fun j f hj => ?_⟩
    obtain ⟨ho, hk⟩ := hone_of hone j f hj
    have hjl : j < fs.size := (Array.getElem?_eq_some_iff.1 hj).1
    have hcell := hat j hjl
    have hv : cs'[j]? = some (cs'[j]'(by omega)) := List.getElem?_eq_getElem (by omega)
    have h1 := hf j f hj
    rw [ho, hk] at h1
    have hone' : (cs'.drop j).take 1 = [cs'[j]'(by omega)] := by
      rw [List.drop_eq_getElem_cons (by omega)]
      rfl
    rw [hone'] at h1
    have hys : ys[j]? = some (ys[j]'(by omega)) := List.getElem?_eq_getElem (by omega)
    refine ⟨_, _, ?_, h1.trans hys⟩
    rw [← Go.Deep.add_add, hcell, hv]
end
section
open Go.Proofs.YtjhodgcjkobpoaaGreatDoorW.PrintWords Go.Joins Go.Deep
variable {H : Type} {enc : TypeId × Value → H} {w : World} {base : Nat} {spare : Nat → Bool} {held : Bool}
theorem open_el {a : Addr} {i n : Nat}
    (h0 : ∃ (v : Value) (y : DataW H × List MemPlace), w.cell? (a.add (i * 7 + 0)) = some v ∧ DataW.trod enc Tryz.prog w base spare held n 3 [v] = some y)
    (h1 : ∃ (v : Value) (y : DataW H × List MemPlace), w.cell? (a.add (i * 7 + 1)) = some v ∧ DataW.trod enc Tryz.prog w base spare held n 3 [v] = some y)
    (h2 : ∃ (v : Value) (y : DataW H × List MemPlace), w.cell? (a.add (i * 7 + 2)) = some v ∧ DataW.trod enc Tryz.prog w base spare held n 2 [v] = some y)
    (h3 : ∃ (v : Value) (y : DataW H × List MemPlace), w.cell? (a.add (i * 7 + 3)) = some v ∧ DataW.trod enc Tryz.prog w base spare held n 2 [v] = some y)
    (h4 : ∃ (v : Value) (y : DataW H × List MemPlace), w.cell? (a.add (i * 7 + 4)) = some v ∧ DataW.trod enc Tryz.prog w base spare held n 3 [v] = some y)
    (h5 : ∃ (v : Value) (y : DataW H × List MemPlace), w.cell? (a.add (i * 7 + 5)) = some v ∧ DataW.trod enc Tryz.prog w base spare held n 3 [v] = some y)
    (h6 : ∃ (v : Value) (y : DataW H × List MemPlace), w.cell? (a.add (i * 7 + 6)) = some v ∧ DataW.trod enc Tryz.prog w base spare held n 9 [v] = some y) :
    ∃ x : PA.S25, (FInv.I6 (WholeP.toO x) ∧ x.f6.size ≤ 9223372036854775807) ∧ ∃ c : List Value, c.length = 7 ∧ PA.k25.K w x c ∧ ∀ j u, c[j]? = some u → w.cell? (a.add (i * 7 + j)) = some u := by
  obtain ⟨v0, y0, c0, t0⟩ := h0
  obtain ⟨v1, y1, c1, t1⟩ := h1
  obtain ⟨v2, y2, c2, t2⟩ := h2
  obtain ⟨v3, y3, c3, t3⟩ := h3
  obtain ⟨v4, y4, c4, t4⟩ := h4
  obtain ⟨v5, y5, c5, t5⟩ := h5
  obtain ⟨v6, y6, c6, t6⟩ := h6
  obtain ⟨n0, e0, _, w0⟩ := DataW.trod_int Tryz.underlying3 t0
  obtain ⟨n1, e1, _, w1⟩ := DataW.trod_int Tryz.underlying3 t1
  obtain ⟨n2, e2, _, w2⟩ := DataW.trod_int Tryz.underlying2 t2
  obtain ⟨n3, e3, _, w3⟩ := DataW.trod_int Tryz.underlying2 t3
  obtain ⟨n4, e4, _, w4⟩ := DataW.trod_int Tryz.underlying3 t4
  obtain ⟨n5, e5, _, w5⟩ := DataW.trod_int Tryz.underlying3 t5
  obtain ⟨n6, e6, _, w6⟩ := DataW.trod_string Tryz.underlying9 t6
  obtain rfl := (List.cons.inj e0).1
  obtain rfl := (List.cons.inj e1).1
  obtain rfl := (List.cons.inj e2).1
  obtain rfl := (List.cons.inj e3).1
  obtain rfl := (List.cons.inj e4).1
  obtain rfl := (List.cons.inj e5).1
  obtain rfl := (List.cons.inj e6).1
  refine ⟨⟨n0, n1, n2, n3, n4, n5, n6⟩, ⟨⟨bounds_i64 w1, bounds_i64 w2, bounds_i64 w3, bounds_i64 w4, bounds_i64 w5⟩, by unfold maxLen at w6; show n6.size ≤ _; omega⟩, _, rfl, PA.k25_mk w ⟨n0, n1, n2, n3, n4, n5, n6⟩, fun j u hu => ?_⟩
  match j, hu with
  | 0, hu => obtain rfl := Option.some.inj hu; exact c0
  | 1, hu => obtain rfl := Option.some.inj hu; exact c1
  | 2, hu => obtain rfl := Option.some.inj hu; exact c2
  | 3, hu => obtain rfl := Option.some.inj hu; exact c3
  | 4, hu => obtain rfl := Option.some.inj hu; exact c4
  | 5, hu => obtain rfl := Option.some.inj hu; exact c5
  | 6, hu => obtain rfl := Option.some.inj hu; exact c6
  | j + 7, hu => simp at hu
theorem open_ops {v : Value} {n : Nat} {y : DataW H × List MemPlace} (h : DataW.trod enc Tryz.prog w base spare held n 34 [v] = some y) :
    ∃ (A : Option Addr) (c : Nat) (l : List PA.S25), v = .slice A l.length c ∧ l.length ≤ c ∧ Kd.C PA.k25 w A l.length l ∧ ∀ x ∈ l, FInv.I6 (WholeP.toO x) ∧ x.f6.size ≤ 9223372036854775807 := by
  rcases open_fields Tryz.underlying34 Tryz.underlying25 (by kernel_rfl) (by kernel_rfl) h with hcs | ⟨a, len, cap, hcs, hl, hm, hi⟩
  · obtain rfl := (List.cons.inj hcs).1
    exact ⟨none, 0, [], rfl, Nat.le_refl _, Kd.C_nil _ _, fun x hx => (by cases hx)⟩
  · obtain rfl := (List.cons.inj hcs).1
    have key : ∀ i, i < len → ∃ x : PA.S25, (FInv.I6 (WholeP.toO x) ∧ x.f6.size ≤ 9223372036854775807) ∧ ∃ c : List Value, c.length = 7 ∧ PA.k25.K w x c ∧ ∀ j u, c[j]? = some u → w.cell? (a.add (i * 7 + j)) = some u := fun i hil => by
      obtain ⟨m, hm⟩ := hi i hil
      exact open_el (hm 0 _ rfl) (hm 1 _ rfl) (hm 2 _ rfl) (hm 3 _ rfl) (hm 4 _ rfl) (hm 5 _ rfl) (hm 6 _ rfl)
    obtain ⟨g, hg⟩ : ∃ g : Nat → PA.S25, ∀ i, i < len → (FInv.I6 (WholeP.toO (g i)) ∧ (g i).f6.size ≤ 9223372036854775807) ∧ ∃ c : List Value, c.length = 7 ∧ PA.k25.K w (g i) c ∧ ∀ j u, c[j]? = some u → w.cell? (a.add (i * 7 + j)) = some u := by
      refine ⟨fun i => if h : i < len then Classical.choose (key i h) else PA.z25, fun i h => ?_⟩
      have e : (if h : i < len then Classical.choose (key i h) else PA.z25) = Classical.choose (key i h) := dif_pos h
      show (FInv.I6 (WholeP.toO (if h : i < len then Classical.choose (key i h) else PA.z25)) ∧ (if h : i < len then Classical.choose (key i h) else PA.z25).f6.size ≤ _) ∧ ∃ c : List Value, c.length = 7 ∧ PA.k25.K w (if h : i < len then Classical.choose (key i h) else PA.z25) c ∧ _
      rw [e]
      exact Classical.choose_spec (key i h)
    have e : ((List.range len).map g).length = len := by simp
    unfold maxLen at hm
    refine ⟨some a, cap, (List.range len).map g, by rw [e], by omega, ⟨rfl, by omega, fun _ => ⟨a, rfl, fun j p hj => ?_⟩⟩, fun x hx => ?_⟩
    · obtain ⟨hjl, hp⟩ := List.getElem?_eq_some_iff.1 hj
      rw [e] at hjl
      have hp' : g j = p := by simpa using hp
      rw [← hp']
      exact (hg j hjl).2
    · obtain ⟨i, hi', rfl⟩ := List.mem_map.1 hx
      exact (hg i (List.mem_range.1 hi')).1
theorem open_list {n : Nat} {v : Value} {y : DataW H × List MemPlace} (h : DataW.trod enc Tryz.prog w base spare held n 35 [v] = some y) : ∃ (A : Option Addr) (c : Nat) (l : List Int), v = .slice A l.length c ∧ l.length ≤ c ∧ (Kd.int .i64).C w A l.length l := by
  rcases open_ints Tryz.underlying35 Tryz.underlying3 (by kernel_rfl) h with ⟨hcs, _⟩ | ⟨x, l, c, zs, hcs, _, hl, hm, hz, _, hcell, _⟩
  · obtain rfl := (List.cons.inj hcs).1
    exact ⟨none, 0, [], rfl, Nat.le_refl _, Kd.C_nil _ _⟩
  · obtain rfl := (List.cons.inj hcs).1
    have hzl : l ≤ zs.length := by rw [hz]; split <;> omega
    have e : (zs.take l).length = l := by rw [List.length_take]; omega
    refine ⟨some x, c, zs.take l, by rw [e], by omega, Kd.C_of_reads (d := (0 : Int)) (h1 := fun _ => rfl) ⟨rfl, by rw [e]; unfold maxLen at hm; omega, fun _ => ⟨x, rfl, fun j hj => ?_⟩⟩⟩
    rw [e] at hj
    rw [hcell j (by omega), List.getD_eq_getElem?_getD, List.getD_eq_getElem?_getD, List.getElem?_take_of_lt hj]
end

theorem laid_tail {P : Program} {W : World} {x : String × DataW Unit} {rest : List (String × DataW Unit)} {ps : List MemPlace} (h : DataW.LaidVars P W (x :: rest) ps) : ∃ q, DataW.LaidVars P W rest q := by
  obtain ⟨n, d⟩ := x
  obtain ⟨_, _, _, _, _, q, _, _, _, _, h1, h2⟩ := h
  first | exact ⟨_, h1⟩ | exact ⟨_, h2⟩
theorem tab_of {P : Program} {W : World} {name : String} {k : IntKind} {zs : List Int} {rest : List (String × DataW Unit)} {g : Nat} {t e : TypeId} {n : Nat} {ps : List MemPlace}
    (hg : P.globalNamed name = some g) (hty : (P.globals[g]?).map (·.type) = some t) (ht : P.underlying t = some (.array n e)) (he : P.underlying e = some (.int k)) (hce : P.cellsOf e = 1) (hct : P.cellsOf t = n)
    (h : DataW.LaidVars P W ((name, Lib.tabData k zs) :: rest) ps) : Lib.TabIs P W name k zs := by
  obtain ⟨g', t', cs, fuel, p, q, hg', ht', hvar, hd, _, _⟩ := h
  obtain rfl := Option.some.inj (hg.symm.trans hg')
  obtain rfl := Option.some.inj (hty.symm.trans ht')
  unfold Lib.TabIs
  rw [hvar, ← Lib.cells_of_tab ht he hce hct hd]
def laid0 : List (String × DataW Unit) := [("math/bits.deBruijn32tab", Rows.laid_math_bits_deBruijn32tab), ("math/bits.deBruijn64tab", Rows.laid_math_bits_deBruijn64tab), ("internal/strconv.uint64pow10", Rows.laid_internal_strconv_uint64pow10), ("unicode/utf8.acceptRanges", Rows.laid_unicode_utf8_acceptRanges), ("arrears/script.types", Rows.laid_arrears_script_types), ("arrears/script.names", Rows.laid_arrears_script_names), ("unicode/utf8.first", Rows.laid_unicode_utf8_first)]
theorem oneRow : ((List.range 186).filter fun t => Tryz.prog.rowNamed t [101, 114, 114, 111, 114]) = [44] := by kernel_rfl
theorem fact_etype {W : World} (h : laidMetH Tryz.prog Rows.scriptWholeRow.laid W) : W.cell? ⟨1, 0, none⟩ = some (.iface 98 (.agg #[.pointer (some ⟨9, 44, none⟩)])) := by
  have h' : laidMet _ (Rows.scriptWholeRow.laid.filter fun x => x.2.handleName?.isNone) W ∧ handlesMet Tryz.prog [("errors.errorType", Rows.laid_errors_errorType)] W := h
  obtain ⟨name, u, ty, e1, e2, e3, e4, e5⟩ := h'.2 _ (List.mem_singleton.2 rfl)
  have en : name = [101, 114, 114, 111, 114] := (Option.some.inj e1).symm
  subst en
  obtain rfl := Option.some.inj ((show (Tryz.prog.cutTypes.find? (·.1 == "internal/reflectlite.rtype")).map (·.2) = some 98 by kernel_rfl).symm.trans e2)
  have hm : ty ∈ (List.range 186).filter fun t => Tryz.prog.rowNamed t [101, 114, 114, 111, 114] := List.mem_filter.2 ⟨List.mem_range.2 (by rw [← (show Tryz.prog.types.size = 186 by kernel_rfl)]; exact e3), e4⟩
  rw [oneRow] at hm
  obtain rfl := List.mem_singleton.1 hm
  have hh : typeHandle Tryz.prog 44 = .pointer (some ⟨9, 44, none⟩) := by kernel_rfl
  rw [hh] at e5
  simpa using World.var?_cell (by kernel_rfl : Tryz.prog.globalNamed "errors.errorType" = some 1) e5 0
theorem fact_max {W : World} (h : W.ShapedOpen Tryz.prog) : ∃ m, W.cell? ⟨3, 0, none⟩ = some (.int .i64 m) := Go.Proofs.cell_of_shapedOpen_int (zero := #[.int .i64 0]) (t := 3) h (of_decide_eq_true (by kernel_rfl)) (by kernel_rfl) rfl (by kernel_rfl) (by kernel_rfl) Tryz.underlying3
theorem table_pow10 {W : World} (h : laidMetH Tryz.prog Rows.scriptWholeRow.laid W) : Lib.TabIs Tryz.prog W "internal/strconv.uint64pow10" .u64 Lib.pow10Tab := by
  obtain ⟨ps, hl, _⟩ := (show laidMet Tryz.prog laid0 W from (show laidMet _ (Rows.scriptWholeRow.laid.filter fun x => x.2.handleName?.isNone) W ∧ _ from h).1)
  obtain ⟨_, hl⟩ := laid_tail hl
  obtain ⟨_, hl⟩ := laid_tail hl
  exact tab_of (by kernel_rfl : Tryz.prog.globalNamed "internal/strconv.uint64pow10" = some 6) (by kernel_rfl : (Tryz.prog.globals[6]?).map (·.type) = some 151) Tryz.underlying151 Tryz.underlying111 (by kernel_rfl : Tryz.prog.cellsOf 111 = 1) (by kernel_rfl : Tryz.prog.cellsOf 151 = 20) hl
theorem table_types {W : World} (h : laidMetH Tryz.prog Rows.scriptWholeRow.laid W) : PA.StrIs Tryz.prog W "arrears/script.types" PA.typesL := by
  obtain ⟨ps, hl, _⟩ := (show laidMet Tryz.prog laid0 W from (show laidMet _ (Rows.scriptWholeRow.laid.filter fun x => x.2.handleName?.isNone) W ∧ _ from h).1)
  obtain ⟨_, hl⟩ := laid_tail hl
  obtain ⟨_, hl⟩ := laid_tail hl
  obtain ⟨_, hl⟩ := laid_tail hl
  obtain ⟨_, hl⟩ := laid_tail hl
  exact strs_of PA.typesL (by kernel_rfl : Tryz.prog.globalNamed "arrears/script.types" = some 2) (by kernel_rfl : (Tryz.prog.globals[2]?).map (·.type) = some 117) Tryz.underlying117 Tryz.underlying9 (by kernel_rfl : Tryz.prog.cellsOf 9 = 1) (by kernel_rfl : Tryz.prog.cellsOf 117 = 3) hl
theorem table_names {W : World} (h : laidMetH Tryz.prog Rows.scriptWholeRow.laid W) : PA.StrIs Tryz.prog W "arrears/script.names" PA.namesL := by
  obtain ⟨ps, hl, _⟩ := (show laidMet Tryz.prog laid0 W from (show laidMet _ (Rows.scriptWholeRow.laid.filter fun x => x.2.handleName?.isNone) W ∧ _ from h).1)
  obtain ⟨_, hl⟩ := laid_tail hl
  obtain ⟨_, hl⟩ := laid_tail hl
  obtain ⟨_, hl⟩ := laid_tail hl
  obtain ⟨_, hl⟩ := laid_tail hl
  obtain ⟨_, hl⟩ := laid_tail hl
  exact strs_of PA.namesL (by kernel_rfl : Tryz.prog.globalNamed "arrears/script.names" = some 0) (by kernel_rfl : (Tryz.prog.globals[0]?).map (·.type) = some 63) Tryz.underlying63 Tryz.underlying9 (by kernel_rfl : Tryz.prog.cellsOf 9 = 1) (by kernel_rfl : Tryz.prog.cellsOf 63 = 22) hl
theorem fact_pow {W : World} (h : laidMetH Tryz.prog Rows.scriptWholeRow.laid W) (hs : W.ShapedOpen Tryz.prog) : PA.PowAt W := PA.PowAt_mk (table_names h) (table_types h) (table_pow10 h) (fact_max hs) (fact_etype h)
def lay_ (cs : Array Value) : Obj → Obj
  | .cells _ t frozen => .cells cs t frozen
  | o => o
/-- A world for the witness. -/
noncomputable def laidWorld (os : Os) : World :=
  { World.holding Tryz.prog os ⟨#[], #[], []⟩ with heap := (((((((((World.holding Tryz.prog os ⟨#[], #[], []⟩).heap.modify 7 (lay_ #[.int .u8 0, .int .u8 1, .int .u8 28, .int .u8 2, .int .u8 29, .int .u8 14, .int .u8 24, .int .u8 3, .int .u8 30, .int .u8 22, .int .u8 20, .int .u8 15, .int .u8 25, .int .u8 17, .int .u8 4, .int .u8 8, .int .u8 31, .int .u8 27, .int .u8 13, .int .u8 23, .int .u8 21, .int .u8 19, .int .u8 16, .int .u8 7, .int .u8 26, .int .u8 12, .int .u8 18, .int .u8 6, .int .u8 11, .int .u8 5, .int .u8 10, .int .u8 9])).modify 8 (lay_ #[.int .u8 0, .int .u8 1, .int .u8 56, .int .u8 2, .int .u8 57, .int .u8 49, .int .u8 28, .int .u8 3, .int .u8 61, .int .u8 58, .int .u8 42, .int .u8 50, .int .u8 38, .int .u8 29, .int .u8 17, .int .u8 4, .int .u8 62, .int .u8 47, .int .u8 59, .int .u8 36, .int .u8 45, .int .u8 43, .int .u8 51, .int .u8 22, .int .u8 53, .int .u8 39, .int .u8 33, .int .u8 30, .int .u8 24, .int .u8 18, .int .u8 12, .int .u8 5, .int .u8 63, .int .u8 55, .int .u8 48, .int .u8 27, .int .u8 60, .int .u8 41, .int .u8 37, .int .u8 16, .int .u8 46, .int .u8 35, .int .u8 44, .int .u8 21, .int .u8 52, .int .u8 32, .int .u8 23, .int .u8 11, .int .u8 54, .int .u8 26, .int .u8 40, .int .u8 15, .int .u8 34, .int .u8 20, .int .u8 31, .int .u8 10, .int .u8 25, .int .u8 14, .int .u8 19, .int .u8 9, .int .u8 13, .int .u8 8, .int .u8 7, .int .u8 6])).modify 6 (lay_ #[.int .u64 1, .int .u64 10, .int .u64 100, .int .u64 1000, .int .u64 10000, .int .u64 100000, .int .u64 1000000, .int .u64 10000000, .int .u64 100000000, .int .u64 1000000000, .int .u64 10000000000, .int .u64 100000000000, .int .u64 1000000000000, .int .u64 10000000000000, .int .u64 100000000000000, .int .u64 1000000000000000, .int .u64 10000000000000000, .int .u64 100000000000000000, .int .u64 1000000000000000000, .int .u64 10000000000000000000])).modify 5 (lay_ #[.int .u8 128, .int .u8 191, .int .u8 160, .int .u8 191, .int .u8 128, .int .u8 159, .int .u8 144, .int .u8 191, .int .u8 128, .int .u8 143, .int .u8 0, .int .u8 0, .int .u8 0, .int .u8 0, .int .u8 0, .int .u8 0, .int .u8 0, .int .u8 0, .int .u8 0, .int .u8 0, .int .u8 0, .int .u8 0, .int .u8 0, .int .u8 0, .int .u8 0, .int .u8 0, .int .u8 0, .int .u8 0, .int .u8 0, .int .u8 0, .int .u8 0, .int .u8 0])).modify 1 (lay_ #[.iface 98 (.agg #[.pointer (some ⟨9, 44, none⟩)])])).modify 2 (lay_ #[.string ⟨#[108, 101, 118, 101, 108]⟩, .string ⟨#[101, 113, 117, 97, 108]⟩, .string ⟨#[98, 97, 108, 108, 111, 111, 110]⟩])).modify 0 (lay_ #[.string ⟨#[]⟩, .string ⟨#[111, 112, 101, 110]⟩, .string ⟨#[112, 97, 121]⟩, .string ⟨#[114, 101, 116, 117, 114, 110]⟩, .string ⟨#[114, 101, 102, 117, 110, 100]⟩, .string ⟨#[119, 97, 105, 118, 101]⟩, .string ⟨#[112, 114, 111, 109, 105, 115, 101]⟩, .string ⟨#[114, 101, 115, 116, 114, 117, 99, 116, 117, 114, 101]⟩, .string ⟨#[100, 97, 121]⟩, .string ⟨#[116, 105, 99, 107]⟩, .string ⟨#[102, 97, 116, 101]⟩, .string ⟨#[99, 97, 108, 109]⟩, .string ⟨#[99, 114, 97, 115, 104]⟩, .string ⟨#[99, 111, 109, 112, 97, 99, 116]⟩, .string ⟨#[114, 101, 115, 116, 97, 114, 116]⟩, .string ⟨#[108, 111, 97, 110]⟩, .string ⟨#[112, 108, 97, 110]⟩, .string ⟨#[98, 111, 111, 107, 115]⟩, .string ⟨#[97, 103, 105, 110, 103]⟩, .string ⟨#[110, 111, 116, 105, 99, 101, 115]⟩, .string ⟨#[116, 105, 109, 101, 114, 115]⟩, .string ⟨#[116, 111, 100, 97, 121]⟩])).modify 4 (lay_ (Go.Pinned.utf8FirstZ.map fun (n : Nat) => Value.int .u8 (n : Int)).toArray)) }
theorem laid_met (os : Os) : laidMetH Tryz.prog Rows.scriptWholeRow.laid ((laidWorld os).forCall (fun _ _ => 0) ⟨#[], #[.slice none 0 0, .slice none 0 0], []⟩).memory :=
  laidMetH_of_parts (laidMet_of_run' 8 (by kernel_rfl) (by kernel_rfl)) (by kernel_rfl)
theorem reads (os : Os) {H : Type} (enc : TypeId × Value → H) : ∃ places, DataW.whole enc Tryz.prog ((laidWorld os).forCall (fun _ _ => 0) ⟨#[], #[.slice none 0 0, .slice none 0 0], []⟩).memory Tryz.f4.params.toList Rows.scriptWholeSpec.vars false #[.slice none 0 0, .slice none 0 0].toList 8 = some ([.nil, .nil], [], places) :=
  ⟨[], by kernel_rfl⟩
set_option maxHeartbeats 2000000 in
set_option maxRecDepth 100000 in
theorem lifted (os : Os) (started : os.Started) (H : Type) (enc : TypeId × Value → H) (F : Stop.Interp) :
    ReturnsInHanded {} Tryz.checked os 4 .any ((OpenSpec.ofChange Rows.scriptWholeSpec).preRow enc Tryz.prog Tryz.f4 Rows.scriptWholeRow.domain false Rows.scriptWholeRow.laid) (((OpenSpec.ofChange Rows.scriptWholeSpec).at F).post enc Tryz.prog Tryz.f4 false true false false) := by
  obtain ⟨places, hx⟩ := reads os enc
  refine returnsInHanded_of_row (C := Tryz.checked) (s := OpenSpec.ofChange Rows.scriptWholeSpec) own started (by kernel_rfl) Tryz.func4
    (witness_row_at (enc := enc) (C := Tryz.checked) false (laidWorld os) #[.slice none 0 0, .slice none 0 0] rfl (by kernel_rfl) (by kernel_rfl) (by kernel_rfl)
      (OpenSpec.preRow_of_cond 8 hx (by kernel_rfl) (fun k hk => by cases hk) (by kernel_rfl) (laid_met os))) ?_
  intro W base args ds gs before hval0 hW hcnd _ hsz0 hL hsh _
  have hT_pow := fact_pow hL hsh
  have hsz : (DataW.weightsEach Tryz.prog (Tryz.f4.params.toList ++ Rows.scriptWholeSpec.plain.varTypes Tryz.prog) (ds ++ gs)).all (· ≤ reachBytes) = true := hsz0
  have hval : ∀ (j : Nat) t v, Tryz.f4.params[j]? = some t → args[j]? = some v → Value.okWide Tryz.prog W .any base t v := hval0
  have hW' := hW
  obtain ⟨p, q, hA0, hV, rfl, hfz, hnd⟩ := hW
  have hA : DataW.TrodAll enc Tryz.prog W 0 (fun _ => true) true Tryz.f4.params.toList args.toList ds p := hA0
  rw [Tryz.params4] at hA hval hsz
  obtain ⟨v0, vs0, d0, ds0, p0, q0, hargs, rfl, rfl, h0, r0⟩ := trodAll_cons hA
  obtain ⟨v1, vs1, d1, ds1, p1, q1, rfl, rfl, rfl, h1, r1⟩ := trodAll_cons r0
  obtain ⟨rfl, rfl, rfl⟩ := trodAll_nil r1
  obtain rfl : args = #[v0, v1] := by cases args; simp_all
  obtain ⟨rfl, rfl⟩ := trodVars_none hV
  have k0 := h0
  have lt0 : ∀ x ∈ p0, x.block < W.heap.size := by obtain ⟨m, hm⟩ := k0; exact DataW.trod_lt m _ _ _ hm
  obtain ⟨xpa, xpl, xpc, rfl⟩ := okWide_slice Tryz.underlying34 (hval 0 34 v0 rfl rfl)
  obtain ⟨Ap, cp, lp, ev, hlp, hCp, hI⟩ := (by obtain ⟨fuel, hf⟩ := h0; exact open_ops hf : ∃ (A : Option Addr) (c : Nat) (l : List PA.S25), (Value.slice xpa xpl xpc) = .slice A l.length c ∧ l.length ≤ c ∧ Go.Proofs.YtjhodgcjkobpoaaGreatDoorW.PrintWords.Kd.C PA.k25 W A l.length l ∧ ∀ x ∈ l, FInv.I6 (WholeP.toO x) ∧ x.f6.size ≤ 9223372036854775807)
  injection ev with ev1 ev2 ev3
  subst ev1 ev2 ev3
  have k1 := h1
  have lt1 : ∀ x ∈ p1, x.block < W.heap.size := by obtain ⟨m, hm⟩ := k1; exact DataW.trod_lt m _ _ _ hm
  obtain ⟨xqa, xql, xqc, rfl⟩ := okWide_slice Tryz.underlying35 (hval 1 35 v1 rfl rfl)
  obtain ⟨Aq, cq, lq, ev, hlq, hCq⟩ := (by obtain ⟨fuel, hf⟩ := h1; exact open_list hf : ∃ (A : Option Addr) (c : Nat) (l : List Int), (Value.slice xqa xql xqc) = .slice A l.length c ∧ l.length ≤ c ∧ (Go.Proofs.YtjhodgcjkobpoaaGreatDoorW.PrintWords.Kd.int .i64).C W A l.length l)
  injection ev with ev1 ev2 ev3
  subst ev1 ev2 ev3
  obtain ⟨k, hk⟩ := WholeP.whole_ev (ops := lp) (strewn := lq) hI
  clear hA0 hval0 hsz0 hsz
  refine (PA.arrearslaw18_ScriptWhole.calls k xpa xpc lp xqa xqc lq true W hCp hlp hCq hlq hT_pow hk).mono fun e W' ⟨he, bel⟩ => ?_
  subst he
  exact ⟨_, rfl, _, _, _, [], _, [], hW', trodAll_mk1 (shut_bool Tryz.underlying4 _), (trodAll_cons_mk (Below.trod laidOut (by kernel_rfl) (of_decide_eq_true (by kernel_rfl)) k0 bel lt0) (trodAll_cons_mk (Below.trod laidOut (by kernel_rfl) (of_decide_eq_true (by kernel_rfl)) k1 bel lt1) trodAll_mk0)), rfl, bel.frame _, fun h => by cases h⟩
theorem said : Rows.ScriptWholeSaid :=
  OpenClaim.holds_of_cond 4 Tryz.f4 rfl rfl rfl rfl rfl rfl rfl ⟨rfl, rfl, rfl, rfl, rfl⟩ rfl rfl rfl rfl rfl (by kernel_rfl) Tryz.func4 (by kernel_rfl)
    (of_decide_eq_true (by kernel_rfl)) (by unfold Func.isWrapper; first | (rw [if_pos (by decide +kernel)]; kernel_rfl) | (rw [if_neg (by decide +kernel)]; exact ⟨rfl, rfl⟩))
    (fun os started H enc _ F => by rw [OpenClaim.pre_eq_preRow]; exact lifted os started H enc F)
theorem plain (f : FuncId) (fn : Func) (hf : Tryz.pinned.checked.prog.funcNamed "arrears/arrearslaw18.ScriptWhole" = some f) (hfn : Tryz.pinned.checked.prog.funcs[f]? = some fn) :
    true = Tryz.pinned.checked.prog.looks [] ∧ ∀ (j : Nat) t, fn.params[j]? = some t → Tryz.pinned.checked.prog.wantsStandIn t = false := by
  obtain rfl : f = 4 := Option.some.inj ((show Tryz.prog.funcNamed "arrears/arrearslaw18.ScriptWhole" = some 4 by kernel_rfl).symm.trans hf) |>.symm
  obtain rfl : fn = Tryz.f4 := (Option.some.inj (Tryz.func4.symm.trans hfn)).symm
  refine ⟨by kernel_rfl, fun j t ht => ?_⟩
  rw [Tryz.params4] at ht
  match j, ht with
  | 0, ht => obtain rfl := Option.some.inj ht; exact (show Tryz.prog.wantsStandIn 34 = false by kernel_rfl)
  | 1, ht => obtain rfl := Option.some.inj ht; exact (show Tryz.prog.wantsStandIn 35 = false by kernel_rfl)
  | j + 2, ht => cases ht
theorem proved : Rows.ScriptWholeCardSaid :=
  Claim7.holds_tied_plain_at .later [] _ _ _ _ said (fun _ h => by cases h) (by kernel_rfl) (fun _ h => by cases h) scriptWhole_row_tie rfl ⟨rfl, rfl⟩ (by kernel_rfl) rfl plain (by kernel_rfl)
#print axioms proved
end Go.Proofs.YtjhodgcjkobpoaaGreatDoor.scriptWhole
namespace Go.Proofs.YtjhodgcjkobpoaaGreatDoor
/-- The row, under a short name, for the claim. -/
theorem scriptWhole_holds : Rows.ScriptWholeCardSaid := scriptWhole.proved
end Go.Proofs.YtjhodgcjkobpoaaGreatDoor
