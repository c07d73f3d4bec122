/- TimerqExact: for every input that can be read the law returns true, and each argument reads behind the call as it read before; the tables that the program's text lays hold what it lays (tied to the text by the card); no other condition. The row out of the walk by hand. -/
import Derived.Test.YtkbbngkfncbgkaaDoorRows
import Derived.Test.YtkbbngkfncbgkaaDoorZUExact
import Derived.Deep.Slices
import Derived.Deep.Fields
import Derived.ChangeSame
import Derived.Test.YtkbbngkfncbgkaaDoorCards
import Derived.Test.YtkbbngkfncbgkaaDoorTie
import Derived.Deep.DeepHandedRow
import Derived.Lib.LaidTab
import Derived.WalkKit
import Derived.ProofKit
import Derived.OpenShut
import Derived.ShutString
import Derived.ChangeOld
import Derived.Below
import Derived.SizedLaws
namespace Go.Proofs.YtkbbngkfncbgkaaDoor.timerqExact
open Go.ChangeShapes Go.WideShapes Go.ChangeAt Go.RowKit
open Go.ChangeMaps (open_string shut_string)
set_option linter.unusedVariables false
theorem own : ownKnob Tryd.prog.godebug = none := by kernel_rfl
theorem laidOut : laidOutB Tryd.prog = true := by kernel_rfl
theorem bulk_one {H : Type} (d : DataW H) : 1 ≤ Rows.uptoBulk d := by
  cases d with
  | lit l => cases l <;> simp [Rows.uptoBulk]
  | _ => simp [Rows.uptoBulk]
theorem bulk_len {H : Type} : ∀ l : List (DataW H), l.length ≤ Rows.uptoBulkAll l
  | [] => Nat.zero_le _
  | x :: r => by
    have h1 := bulk_one x
    have h2 := bulk_len r
    simp only [Rows.uptoBulkAll, List.length_cons]
    omega
section
open Go.Proofs.YtkbbngkfncbgkaaDoor.UUpTo Go.Proofs.YtkbbngkfncbgkaaDoorW.PrintWords
open Go.Proofs.YtkbbngkfncbgkaaDoor.IQWords (KyOk)
variable {H : Type} {enc : TypeId × Value → H} {w : World} {base : Nat} {spare : Nat → Bool} {held : Bool}
theorem open_op {a : Addr} {i n : Nat} {cs : List Value} {y : DataW H × List MemPlace} (hc : ∀ j, j < 6 → w.cell? (a.add (i * 6 + j)) = cs[j]?) (hl : cs.length = 6) (h : DataW.trod enc Tryd.prog w base spare held n 26 cs = some y) :
    ∃ o : Opp, OpOk o ∧ w.cell? (a.add (i * 6)) = some (.int .i64 o.kd) ∧ w.cell? ⟨(a.add (i * 6)).block, (a.add (i * 6)).off + 1, none⟩ = some (.bool o.oth) ∧ w.cell? ⟨(a.add (i * 6)).block, (a.add (i * 6)).off + 2, none⟩ = some (.int .i64 o.k.d) ∧ w.cell? ⟨(a.add (i * 6)).block, (a.add (i * 6)).off + 3, none⟩ = some (.int .i64 o.k.l) ∧ w.cell? ⟨(a.add (i * 6)).block, (a.add (i * 6)).off + 4, none⟩ = some (.int .i64 o.k.k) ∧ w.cell? ⟨(a.add (i * 6)).block, (a.add (i * 6)).off + 5, none⟩ = some (.int .i64 o.n) := by
  obtain ⟨u0, u1, u2, u3, u4, u5, rfl⟩ : ∃ u0 u1 u2 u3 u4 u5, cs = [u0, u1, u2, u3, u4, u5] := by
    match cs, hl with
    | [u0, u1, u2, u3, u4, u5], _ => exact ⟨u0, u1, u2, u3, u4, u5, rfl⟩
  obtain ⟨ys, n', _, _, _, hyl, hf⟩ := DataW.trod_struct Tryd.underlying26 h
  have e3 : Tryd.prog.cellsOf 3 = 1 := by kernel_rfl
  have e4 : Tryd.prog.cellsOf 4 = 1 := by kernel_rfl
  have e24 : Tryd.prog.cellsOf 24 = 3 := by kernel_rfl
  have f0 : DataW.trod enc Tryd.prog w base spare held n' 3 ((([u0, u1, u2, u3, u4, u5] : List Value).drop 0).take (Tryd.prog.cellsOf 3)) = ys[0]? := by
    have h := hf 0 _ rfl
    exact h
  have f1 : DataW.trod enc Tryd.prog w base spare held n' 4 ((([u0, u1, u2, u3, u4, u5] : List Value).drop 1).take (Tryd.prog.cellsOf 4)) = ys[1]? := by
    have h := hf 1 _ rfl
    exact h
  have f2 : DataW.trod enc Tryd.prog w base spare held n' 24 ((([u0, u1, u2, u3, u4, u5] : List Value).drop 2).take (Tryd.prog.cellsOf 24)) = ys[2]? := by
    have h := hf 2 _ rfl
    exact h
  have f3 : DataW.trod enc Tryd.prog w base spare held n' 3 ((([u0, u1, u2, u3, u4, u5] : List Value).drop 5).take (Tryd.prog.cellsOf 3)) = ys[3]? := by
    have h := hf 3 _ rfl
    exact h
  rw [e3] at f0 f3
  rw [e4] at f1
  rw [e24] at f2
  have hyl' : ys.length = 4 := hyl
  rw [List.getElem?_eq_getElem (by omega)] at f0 f1 f2 f3
  obtain ⟨zs, m', _, _, _, hzl, hg⟩ := DataW.trod_struct Tryd.underlying24 f2
  have g0 : DataW.trod enc Tryd.prog w base spare held m' 3 ((([u2, u3, u4] : List Value).drop 0).take (Tryd.prog.cellsOf 3)) = zs[0]? := by
    have h := hg 0 _ rfl
    exact h
  have g1 : DataW.trod enc Tryd.prog w base spare held m' 3 ((([u2, u3, u4] : List Value).drop 1).take (Tryd.prog.cellsOf 3)) = zs[1]? := by
    have h := hg 1 _ rfl
    exact h
  have g2 : DataW.trod enc Tryd.prog w base spare held m' 3 ((([u2, u3, u4] : List Value).drop 2).take (Tryd.prog.cellsOf 3)) = zs[2]? := by
    have h := hg 2 _ rfl
    exact h
  rw [e3] at g0 g1 g2
  have hzl' : zs.length = 3 := hzl
  rw [List.getElem?_eq_getElem (by omega)] at g0 g1 g2
  obtain ⟨n0, q0, _⟩ := DataW.trod_int Tryd.underlying3 f0
  obtain ⟨b1, q1, _⟩ := DataW.trod_bool Tryd.underlying4 f1
  obtain ⟨k0, r0, _, w0⟩ := DataW.trod_int Tryd.underlying3 g0
  obtain ⟨k1, r1, _, w1⟩ := DataW.trod_int Tryd.underlying3 g1
  obtain ⟨k2, r2, _, w2⟩ := DataW.trod_int Tryd.underlying3 g2
  obtain ⟨n3, q3, _, w3⟩ := DataW.trod_int Tryd.underlying3 f3
  obtain rfl : u0 = _ := (List.cons.inj q0).1
  obtain rfl : u1 = _ := (List.cons.inj q1).1
  obtain rfl : u2 = _ := (List.cons.inj r0).1
  obtain rfl : u3 = _ := (List.cons.inj r1).1
  obtain rfl : u4 = _ := (List.cons.inj r2).1
  obtain rfl : u5 = _ := (List.cons.inj q3).1
  exact ⟨⟨n0, b1, ⟨k0, k1, k2⟩, n3⟩, ⟨⟨w0, w1, w2⟩, w3⟩, hc 0 (by decide), by rw [← add_field _ _ 1 (by omega)]; exact hc 1 (by decide), by rw [← add_field _ _ 2 (by omega)]; exact hc 2 (by decide), by rw [← add_field _ _ 3 (by omega)]; exact hc 3 (by decide), by rw [← add_field _ _ 4 (by omega)]; exact hc 4 (by decide), by rw [← add_field _ _ 5 (by omega)]; exact hc 5 (by decide)⟩
theorem open_ops {v : Value} {n : Nat} {y : DataW H × List MemPlace} (h : DataW.trod enc Tryd.prog w base spare held n 22 [v] = some y) :
    ∃ (A : Option Addr) (c : Nat) (l : List Opp), v = .slice A l.length c ∧ l.length ≤ c ∧ OR w A l ∧ (∀ o ∈ l, OpOk o) ∧ (l.length = 0 ∨ ∃ elems spare, y.1 = .slice elems spare ∧ elems.length = l.length) ∧ ((A = none ∧ l.length = 0 ∧ c = 0) ∨ ∃ ad, A = some ad) := by
  rcases Go.Deep.open_slice Tryd.underlying22 h with ⟨hcs, _⟩ | ⟨a, len, cap, m, n', D, Pl, hcs, hb, hl, hm, hmm, hx, hi⟩
  · obtain rfl := (List.cons.inj hcs).1
    exact ⟨none, 0, [], rfl, Nat.le_refl _, fun i o hi => (by cases hi), fun o ho => (by cases ho), .inl rfl, .inl ⟨rfl, rfl, rfl⟩⟩
  · obtain rfl := (List.cons.inj hcs).1
    have e6 : Tryd.prog.cellsOf 26 = 6 := by kernel_rfl
    have key : ∀ i, i < len → ∃ o : Opp, OpOk o ∧ w.cell? (a.add (i * 6)) = some (.int .i64 o.kd) ∧ w.cell? ⟨(a.add (i * 6)).block, (a.add (i * 6)).off + 1, none⟩ = some (.bool o.oth) ∧ w.cell? ⟨(a.add (i * 6)).block, (a.add (i * 6)).off + 2, none⟩ = some (.int .i64 o.k.d) ∧ w.cell? ⟨(a.add (i * 6)).block, (a.add (i * 6)).off + 3, none⟩ = some (.int .i64 o.k.l) ∧ w.cell? ⟨(a.add (i * 6)).block, (a.add (i * 6)).off + 4, none⟩ = some (.int .i64 o.k.k) ∧ w.cell? ⟨(a.add (i * 6)).block, (a.add (i * 6)).off + 5, none⟩ = some (.int .i64 o.n) := fun i hil => by
      have him : i < m := by
        rw [hmm]
        split <;> omega
      obtain ⟨cs', hc, ht'⟩ := hi i him
      rw [e6] at hc
      obtain ⟨_, hcl, hat⟩ := World.cells?_some hc
      exact open_op (fun j hj => by rw [← Go.Deep.add_add]; exact hat j hj) hcl ht'
    obtain ⟨g, hg⟩ : ∃ g : Nat → Opp, ∀ i, i < len → OpOk (g i) ∧ w.cell? (a.add (i * 6)) = some (.int .i64 (g i).kd) ∧ w.cell? ⟨(a.add (i * 6)).block, (a.add (i * 6)).off + 1, none⟩ = some (.bool (g i).oth) ∧ w.cell? ⟨(a.add (i * 6)).block, (a.add (i * 6)).off + 2, none⟩ = some (.int .i64 (g i).k.d) ∧ w.cell? ⟨(a.add (i * 6)).block, (a.add (i * 6)).off + 3, none⟩ = some (.int .i64 (g i).k.l) ∧ w.cell? ⟨(a.add (i * 6)).block, (a.add (i * 6)).off + 4, none⟩ = some (.int .i64 (g i).k.k) ∧ w.cell? ⟨(a.add (i * 6)).block, (a.add (i * 6)).off + 5, none⟩ = some (.int .i64 (g i).n) := by
      refine ⟨fun i => if h : i < len then Classical.choose (key i h) else ⟨0, false, ⟨0, 0, 0⟩, 0⟩, fun i h => ?_⟩
      simp only [dif_pos h]
      exact Classical.choose_spec (key i h)
    have e : ((List.range len).map g).length = len := by simp
    refine ⟨some a, cap, (List.range len).map g, by rw [e], by omega, fun i o ho => ?_, fun o ho => ?_, .inr ⟨_, _, by rw [hx], by simp⟩, .inr ⟨a, rfl⟩⟩
    · obtain ⟨hil, hp⟩ := List.getElem?_eq_some_iff.1 ho
      rw [e] at hil
      have hp' : g i = o := by simpa using hp
      rw [← hp']
      exact ⟨a, rfl, (hg i hil).2⟩
    · obtain ⟨i, hi', rfl⟩ := List.mem_map.1 ho
      exact (hg i (List.mem_range.1 hi')).1
end
theorem laid_tail {P : Program} {W : World} {x : String × DataW Unit} {rest : List (String × DataW Unit)} {ps : List MemPlace} (h : DataW.LaidVars P W (x :: rest) ps) : ∃ q, DataW.LaidVars P W rest q := by
  obtain ⟨n, d⟩ := x
  obtain ⟨_, _, _, _, _, q, _, _, _, _, h1, h2⟩ := h
  first | exact ⟨_, h1⟩ | exact ⟨_, h2⟩
theorem tab_of {P : Program} {W : World} {name : String} {k : IntKind} {zs : List Int} {rest : List (String × DataW Unit)} {g : Nat} {t e : TypeId} {n : Nat} {ps : List MemPlace}
    (hg : P.globalNamed name = some g) (hty : (P.globals[g]?).map (·.type) = some t) (ht : P.underlying t = some (.array n e)) (he : P.underlying e = some (.int k)) (hce : P.cellsOf e = 1) (hct : P.cellsOf t = n)
    (h : DataW.LaidVars P W ((name, Lib.tabData k zs) :: rest) ps) : Lib.TabIs P W name k zs := by
  obtain ⟨g', t', cs, fuel, p, q, hg', ht', hvar, hd, _, _⟩ := h
  obtain rfl := Option.some.inj (hg.symm.trans hg')
  obtain rfl := Option.some.inj (hty.symm.trans ht')
  unfold Lib.TabIs
  rw [hvar, ← Lib.cells_of_tab ht he hce hct hd]
theorem table_pow {W : World} (h : laidMetH Tryd.prog Rows.timerqExactUptoRow.laid W) : Lib.TabIs Tryd.prog W "internal/strconv.uint64pow10" .u64 Lib.pow10Tab := by
  obtain ⟨ps, hl, _⟩ := (show laidMet Tryd.prog Rows.timerqExactUptoRow.laid W from h)
  obtain ⟨_, hl⟩ := laid_tail hl
  obtain ⟨_, hl⟩ := laid_tail hl
  exact tab_of (by kernel_rfl : Tryd.prog.globalNamed "internal/strconv.uint64pow10" = some 0) (by kernel_rfl : (Tryd.prog.globals[0]?).map (·.type) = some 119) Tryd.underlying119 Tryd.underlying100 (by kernel_rfl : Tryd.prog.cellsOf 100 = 1) (by kernel_rfl : Tryd.prog.cellsOf 119 = 20) hl
theorem fact_pow {W : World} (h : laidMetH Tryd.prog Rows.timerqExactUptoRow.laid W) : UTrio.PowAt W := UTrio.PowAt_mk (table_pow h)
def lay_ (cs : Array Value) : Obj → Obj
  | .cells _ t frozen => .cells cs t frozen
  | o => o
/-- A world for the witness. -/
noncomputable def laidWorld (os : Os) : World :=
  { World.holding Tryd.prog os ⟨#[], #[], []⟩ with heap := ((((World.holding Tryd.prog os ⟨#[], #[], []⟩).heap.modify 1 (lay_ #[.int .u8 0, .int .u8 1, .int .u8 28, .int .u8 2, .int .u8 29, .int .u8 14, .int .u8 24, .int .u8 3, .int .u8 30, .int .u8 22, .int .u8 20, .int .u8 15, .int .u8 25, .int .u8 17, .int .u8 4, .int .u8 8, .int .u8 31, .int .u8 27, .int .u8 13, .int .u8 23, .int .u8 21, .int .u8 19, .int .u8 16, .int .u8 7, .int .u8 26, .int .u8 12, .int .u8 18, .int .u8 6, .int .u8 11, .int .u8 5, .int .u8 10, .int .u8 9])).modify 2 (lay_ #[.int .u8 0, .int .u8 1, .int .u8 56, .int .u8 2, .int .u8 57, .int .u8 49, .int .u8 28, .int .u8 3, .int .u8 61, .int .u8 58, .int .u8 42, .int .u8 50, .int .u8 38, .int .u8 29, .int .u8 17, .int .u8 4, .int .u8 62, .int .u8 47, .int .u8 59, .int .u8 36, .int .u8 45, .int .u8 43, .int .u8 51, .int .u8 22, .int .u8 53, .int .u8 39, .int .u8 33, .int .u8 30, .int .u8 24, .int .u8 18, .int .u8 12, .int .u8 5, .int .u8 63, .int .u8 55, .int .u8 48, .int .u8 27, .int .u8 60, .int .u8 41, .int .u8 37, .int .u8 16, .int .u8 46, .int .u8 35, .int .u8 44, .int .u8 21, .int .u8 52, .int .u8 32, .int .u8 23, .int .u8 11, .int .u8 54, .int .u8 26, .int .u8 40, .int .u8 15, .int .u8 34, .int .u8 20, .int .u8 31, .int .u8 10, .int .u8 25, .int .u8 14, .int .u8 19, .int .u8 9, .int .u8 13, .int .u8 8, .int .u8 7, .int .u8 6])).modify 0 (lay_ #[.int .u64 1, .int .u64 10, .int .u64 100, .int .u64 1000, .int .u64 10000, .int .u64 100000, .int .u64 1000000, .int .u64 10000000, .int .u64 100000000, .int .u64 1000000000, .int .u64 10000000000, .int .u64 100000000000, .int .u64 1000000000000, .int .u64 10000000000000, .int .u64 100000000000000, .int .u64 1000000000000000, .int .u64 10000000000000000, .int .u64 100000000000000000, .int .u64 1000000000000000000, .int .u64 10000000000000000000])) }
theorem laid_met (os : Os) : laidMet Tryd.prog Rows.timerqExactUptoRow.laid ((laidWorld os).forCall (fun _ _ => 0) ⟨#[], #[.slice none 0 0], []⟩).memory :=
  laidMet_of_run' 8 (by kernel_rfl) (by kernel_rfl)
theorem reads (os : Os) {H : Type} (enc : TypeId × Value → H) : ∃ places, DataW.whole enc Tryd.prog ((laidWorld os).forCall (fun _ _ => 0) ⟨#[], #[.slice none 0 0], []⟩).memory Tryd.f6.params.toList Rows.timerqExactSpec.vars false #[.slice none 0 0].toList 8 = some ([.nil], [], places) :=
  ⟨[], by kernel_rfl⟩
set_option maxHeartbeats 2000000 in
set_option maxRecDepth 100000 in
theorem lifted (os : Os) (started : os.Started) (H : Type) (enc : TypeId × Value → H) (F : Stop.Interp) :
    ReturnsInHanded {} Tryd.checked os 6 .any ((Rows.OpenSpec.upto Rows.timerqExactSpec).preRow enc Tryd.prog Tryd.f6 Rows.timerqExactUptoRow.domain false Rows.timerqExactUptoRow.laid) (((Rows.OpenSpec.upto Rows.timerqExactSpec).at F).post enc Tryd.prog Tryd.f6 false true false false) := by
  obtain ⟨places, hx⟩ := reads os enc
  refine returnsInHanded_of_row (C := Tryd.checked) (s := Rows.OpenSpec.upto Rows.timerqExactSpec) own started (by kernel_rfl) Tryd.func6
    (witness_row_at (enc := enc) (C := Tryd.checked) false (laidWorld os) #[.slice none 0 0] rfl (by kernel_rfl) (by kernel_rfl) (by kernel_rfl)
      (OpenSpec.preRow_of_cond 8 hx (by kernel_rfl) (fun k hk => by cases hk; kernel_rfl) (by kernel_rfl) (laid_met os))) ?_
  intro W base args ds gs before hval0 hW hcnd hcd hsz0 hL _ _
  have hT_pow := fact_pow hL
  have hsz : (DataW.weightsEach Tryd.prog (Tryd.f6.params.toList ++ Rows.timerqExactSpec.plain.varTypes Tryd.prog) (ds ++ gs)).all (· ≤ reachBytes) = true := hsz0
  have hval : ∀ (j : Nat) t v, Tryd.f6.params[j]? = some t → args[j]? = some v → Value.okWide Tryd.prog W .any base t v := hval0
  have hW' := hW
  obtain ⟨p, q, hA0, hV, rfl, hfz, hnd⟩ := hW
  have hA : DataW.TrodAll enc Tryd.prog W 0 (fun _ => true) true Tryd.f6.params.toList args.toList ds p := hA0
  rw [Tryd.params6] at hA hval hsz
  obtain ⟨v0, vs0, d0, ds0, p0, q0, hargs, rfl, rfl, h0, r0⟩ := trodAll_cons hA
  obtain ⟨rfl, rfl, rfl⟩ := trodAll_nil r0
  obtain rfl : args = #[v0] := by cases args; simp_all
  obtain ⟨rfl, rfl⟩ := trodVars_none hV
  have k0 := h0
  have lt0 : ∀ x ∈ p0, x.block < W.heap.size := by obtain ⟨m, hm⟩ := k0; exact DataW.trod_lt m _ _ _ hm
  obtain ⟨fuel0, hf0⟩ := h0
  obtain ⟨a00, len0, cap0, hv0⟩ := okWide_slice Tryd.underlying22 (hval 0 22 v0 rfl rfl)
  have hcs0 : v0.cells.toList = [v0] := by rw [hv0]; rfl
  rw [hcs0] at hf0
  obtain ⟨A0, c0, l0, rfl, hc0, hR0, hok0, hsl0, hbl0⟩ := open_ops hf0
  have hlen0 : l0.length ≤ 1048576 := by
    rcases hsl0 with hz | ⟨elems, spare, e, e2⟩
    · omega
    · have e' : d0 = .slice elems spare := e
      subst e'
      have hb := of_decide_eq_true (hcd _ rfl)
      have h2 := bulk_len elems
      simp only [List.append_nil, Rows.uptoBulkAll, Rows.uptoBulk] at hb
      omega
  clear hA0 hval0 hsz0 hsz
  refine (UExact.exact_walk A0 c0 l0 W hR0 hbl0 hok0 hlen0 hT_pow).mono fun e W' ⟨he, bel⟩ => ?_
  subst he
  exact ⟨_, rfl, _, _, _, [], _, [], hW', trodAll_mk1 (shut_bool Tryd.underlying4 _), (trodAll_cons_mk (Below.trod laidOut (by kernel_rfl) (of_decide_eq_true (by kernel_rfl)) k0 bel lt0) trodAll_mk0), rfl, bel.frame _, fun h => by cases h⟩
theorem said : Rows.TimerqExactUptoSaid :=
  OpenClaim.holds_of_cond 6 Tryd.f6 rfl rfl rfl rfl rfl rfl rfl ⟨rfl, rfl, rfl, rfl, rfl⟩ rfl rfl rfl rfl rfl (by kernel_rfl) Tryd.func6 (by kernel_rfl)
    (of_decide_eq_true (by kernel_rfl)) (by unfold Func.isWrapper; first | (rw [if_pos (by decide +kernel)]; kernel_rfl) | (rw [if_neg (by decide +kernel)]; exact ⟨rfl, rfl⟩))
    (fun os started H enc _ F => by rw [OpenClaim.pre_eq_preRow]; exact lifted os started H enc F)
theorem plain (f : FuncId) (fn : Func) (hf : Tryd.pinned.checked.prog.funcNamed "arrears/arrearslaw11.TimerqExact" = some f) (hfn : Tryd.pinned.checked.prog.funcs[f]? = some fn) :
    false = Tryd.pinned.checked.prog.looks [] ∧ ∀ (j : Nat) t, fn.params[j]? = some t → Tryd.pinned.checked.prog.wantsStandIn t = false := by
  obtain rfl : f = 6 := Option.some.inj ((show Tryd.prog.funcNamed "arrears/arrearslaw11.TimerqExact" = some 6 by kernel_rfl).symm.trans hf) |>.symm
  obtain rfl : fn = Tryd.f6 := (Option.some.inj (Tryd.func6.symm.trans hfn)).symm
  refine ⟨by kernel_rfl, fun j t ht => ?_⟩
  rw [Tryd.params6] at ht
  match j, ht with
  | 0, ht => obtain rfl := Option.some.inj ht; exact (show Tryd.prog.wantsStandIn 22 = false by kernel_rfl)
  | j + 1, ht => cases ht
theorem proved : Rows.TimerqExactUptoCardSaid :=
  Claim7.holds_tied_plain_at .later [] _ _ _ _ said (fun _ h => by cases h) (by kernel_rfl) (fun _ h => by cases h) timerqExactUpto_row_tie rfl ⟨rfl, rfl⟩ (by kernel_rfl) rfl plain (by kernel_rfl)
#print axioms proved
end Go.Proofs.YtkbbngkfncbgkaaDoor.timerqExact
namespace Go.Proofs.YtkbbngkfncbgkaaDoor
/-- The row, under a short name, for the claim. -/
theorem timerqExact_holds : Rows.TimerqExactUptoCardSaid := timerqExact.proved
end Go.Proofs.YtkbbngkfncbgkaaDoor
