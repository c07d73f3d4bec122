/- script.parse by hand: what a line is read as: an operation, or a fault, or a fault and its place. Conditions: the tables stand as laid. -/
import Derived.Test.YtjhodgcjkobpoaaGreatDoorYFReads
import Derived.Test.YtjhodgcjkobpoaaGreatDoorYFKind
import Derived.Test.YtjhodgcjkobpoaaGreatDoorYFFormat
import Derived.Test.YtjhodgcjkobpoaaGreatDoorShelf
import Derived.Shelf.Strings.Split
import Derived.Lib.SplitLaws
import Derived.Deep.RegionHeld3
import Derived.Laws.ResultCell
namespace Go.Proofs.YtjhodgcjkobpoaaGreatDoor.FParse
open Go.RowKit Go.Proofs.YtjhodgcjkobpoaaGreatDoorW.PrintWords Go.Proofs.YtjhodgcjkobpoaaGreatDoorW.PrintLast Go.Proofs.YtjhodgcjkobpoaaGreatDoorW.PrintMore Go.Proofs.YtjhodgcjkobpoaaGreatDoor.PA Go.Proofs.YtjhodgcjkobpoaaGreatDoor.FTell Go.Proofs.YtjhodgcjkobpoaaGreatDoor.FFields Go.Proofs.YtjhodgcjkobpoaaGreatDoor.FWhole Go.Proofs.YtjhodgcjkobpoaaGreatDoor.FRead Go.Proofs.YtjhodgcjkobpoaaGreatDoor.FReads Go.Proofs.YtjhodgcjkobpoaaGreatDoor.FKind Go.Proofs.YtjhodgcjkobpoaaGreatDoor.FFormat
set_option linter.unusedVariables false
set_option linter.unusedSimpArgs false
attribute [local go_sem] pl_store_func
/-- The words of a line. -/
def wordsOf (s : ByteArray) : List ByteArray := Lib.splitB ⟨#[32]⟩ 0 (Lib.countB s ⟨#[32]⟩) s
def Zo : O := ⟨0, 0, 0, 0, 0, 0, ⟨#[]⟩⟩
/-- What a line is read as: an operation; a fault; a fault and its place. -/
inductive PR where
  | op (o : O)
  | flt (n : Int)
  | plc (p n : Int)
def PR.o : PR → O
  | .op o => o
  | _ => Zo
/-- The fields one by one. -/
def prun : List Nat → List ByteArray → O → Int → PR
  | [], _, o, _ => .op o
  | l :: ls, w :: ws, o, p => if (readP l w o).1 = true then .plc p 182 else prun ls ws (readP l w o).2 (p + ((w.size : Int) + 1))
  | _ :: _, [], o, _ => .op o
def parseW (s : ByteArray) : List ByteArray → PR
  | [] => .flt 180
  | w0 :: ws => if kindP w0 = 0 then .flt 180 else if ws.length = (shapeL (kindP w0)).length then prun (shapeL (kindP w0)) ws { Zo with a0 := kindP w0 } ((w0.size : Int) + 1) else .plc s.size 181
/-- script.parse. -/
def parseP (s : ByteArray) : PR := if 100 < s.size then .flt 1 else parseW s (wordsOf s)
def FaultAt (W : World) (g : Nat) (n : Int) : Prop := W.heap[g]? = some (.cells #[.int .i64 n] 51 (0, 0))
def PLACED (g : Nat) : Value := .iface 52 (.pointer (some ⟨g, 0, none⟩))
def PErr (B : Nat) (W : World) (v : Value) : PR → Prop
  | .op _ => v = .nilIface
  | .flt n => ∃ g, v = FAULT g ∧ FaultAt W g n ∧ B ≤ g
  | .plc p n => ∃ pb g, v = PLACED pb ∧ W.heap[pb]? = some (.cells #[.int .i64 p, FAULT g] 55 (0, 0)) ∧ FaultAt W g n ∧ B ≤ g ∧ B ≤ pb ∧ pb ≠ g
/-- What script.parse leaves. -/
def Parsed (r : PR) (w : World) (e : Ending) (w' : World) : Prop := ∃ v, e = .returned (.tuple #[.agg r.o.cs, v]) ∧ PErr w.heap.size w' v r ∧ Below w.heap.size w w'
theorem size_piece : ∀ (k : Nat) (s x : ByteArray), x ∈ Lib.splitB ⟨#[32]⟩ 0 k s → x.size ≤ s.size
  | 0, s, x, h => by
    rw [Lib.splitB_zero] at h
    rw [List.mem_singleton.1 h]
    exact Nat.le_refl _
  | k + 1, s, x, h => by
    unfold Lib.splitB at h
    split at h
    · rw [List.mem_singleton.1 h]
      exact Nat.le_refl _
    · rcases List.mem_cons.1 h with rfl | h
      · rw [ByteArray.size_extract]
        omega
      · have := size_piece k _ x h
        rw [ByteArray.size_extract] at this
        omega
theorem words_len (s : ByteArray) : (wordsOf s).length = Lib.countB s ⟨#[32]⟩ + 1 := Lib.splitB_all _ (by decide) 0 _ s rfl
theorem split_c (s : ByteArray) (hs : ¬ 100 < s.size) (w : World) (hrP : PowAt w) : Calls Tryz.prog 26 #[.string s, .string ⟨#[32]⟩] w fun e w' =>
    ∃ g, e = .returned (.slice (some ⟨g, 0, none⟩) (wordsOf s).length (wordsOf s).length) ∧ w'.heap[g]? = some (.cells ((wordsOf s).map Value.string).toArray 9 (0, 0)) ∧ w.heap.size ≤ g ∧ Below w.heap.size w w' := by
  obtain ⟨_, ⟨m, hm⟩, _⟩ := hrP
  refine (Tryz.strings_Split s ⟨#[32]⟩ m w (by omega) hm (by decide)).mono ?_
  rintro e w' ⟨rfl, rfl⟩
  exact ⟨w.heap.size, by rw [words_len], blk_new w _, Nat.le_refl _, below_alloc (Below.refl _ _) _⟩
/-- A struct written whole into its own block. -/
theorem row_event {ops : Array Oper} {rest : List Oper} {o : Oper} {a : Act} {Q : Exit → Act → World → Prop} {W : World} (hgd : o.guard = none) {p : Tmp} {v : Operand} {T : TypeId} (ho : o.op = .store T (.tmp p) v) (hN : o.dst = none) {g : Nat} {old : Array Value} (cs : Array Value) {T' : TypeId}
    (hx : a.eval (.tmp p) = .pointer (some ⟨g, 0, none⟩)) (hy : a.eval v = .agg cs) (hg : W.heap[g]? = some (.cells old T' (0, 0))) (hi : (Tryz.prog.info? T).map (·.size) = some cs.size) (hold : old.size = cs.size) (h1 : cs.all (·.oneCell') = true)
    (h : ∀ w', w'.heap[g]? = some (.cells cs T' (0, 0)) → Tz g W w' → wpList Tryz.prog ops Q rest a w') : wpList Tryz.prog ops Q (o :: rest) a W := by
  refine wpList_plain hgd fun K hK => wp_store_row T (.tmp p) v ho g cs hx hy T' old hg hi hold h1 ?_
  rw [hN]
  refine hK _ _ (h _ (setRow_heap W g old cs T' (0, 0) hg) ⟨rfl, rfl, rfl, ?_, fun i hi hne => setRow_other W g i cs hne⟩)
  rw [size_setRow]
  exact Nat.le_refl _
theorem ret_cell_tmp {fn : Func} {p u : Tmp} (h : fn.results = #[.cell p 25, .tmp u]) (tmps : Array Value) (w : World) (g : Nat) (cs : Array Value)
    (hp : tmps.getD p undef = .pointer (some ⟨g, 0, none⟩)) (hg : w.heap[g]? = some (.cells cs 25 (0, 0))) (hs : cs.size = 7) : (results fn tmps).run Tryz.prog w = .ok (.tuple #[.agg cs, tmps.getD u undef]) w := by
  rw [results_cell_tmp h]
  have hp' : tmps[p]?.getD undef = .pointer (some ⟨g, 0, none⟩) := by simpa using hp
  have hz : (Tryz.prog.info? 25).map (·.size) = some cs.size := by rw [hs]; kernel_rfl
  simp [hp', asAddr, Result.andThen, run_loadVar_row w g 25 25 cs (0, 0) _ hg Tryz.underlying25 rfl hz]
theorem one_cells (a0 a1 a2 a3 a4 a5 : Int) (a6 : ByteArray) : (#[Value.int .i64 a0, .int .i64 a1, .int .i64 a2, .int .i64 a3, .int .i64 a4, .int .i64 a5, .string a6]).all (·.oneCell') = true := by simp [Value.oneCell']
theorem Zcs_info : (Tryz.prog.info? 25).map (·.size) = some 7 := by kernel_rfl
set_option maxHeartbeats 8000000 in
set_option maxRecDepth 100000 in
theorem parse_long (s : ByteArray) (hs : 100 < s.size) (w : World) : Calls Tryz.prog 15 #[.string s] w (Parsed (.flt 1) w) := by
  have hu := Tryz.underlying25
  have HB := Aside0.mk (Below.refl w.heap.size w)
  have hz1 : decide ((s.size : Int) > 100) = true := decide_eq_true (by omega)
  have hz2 : decide (100 < (s.size : Int)) = true := decide_eq_true (by omega)
  have hz3 : decide (100 < s.size) = true := decide_eq_true hs
  clear hs
  go_enter Tryz.func15, Tryz.ntmps15
  go_wp2_with (first | ((with_reducible refine gate_dst (N := 2) rfl ?_); refine box_event ?hg (N := 2) ?hd (cs := #[.int .i64 0, .int .i64 0, .int .i64 0, .int .i64 0, .int .i64 0, .int .i64 0, .string ⟨#[]⟩]) (t := 25) ?hr ?_; (case hd => rfl); (case hg => rfl); (case hr => first | (go_simp; done) | (go_simp; rfl)); intro gb hg w3 hbox hb; have n0_ := Aside0.mk (hg ▸ Nat.le_refl _ : w.heap.size ≤ gb); have n1_ := Aside0.mk (below_step (by repeat (first | (with_reducible first | exact HB.out | apply below_alloc | apply pw_below_drewN | apply below_drew1) | exact HB.out)) hb); have n2_ := Aside0.mk (hbox); clear HB hb hbox; have GB := n0_; have HB := n1_; have BK := n2_; clear n0_ n1_ n2_; clear hg) | ((with_reducible refine gate_dst (N := 17) rfl ?_); refine box_event ?hg (N := 17) ?hd (cs := #[.int .i64 1]) (t := 51) ?hr ?_; (case hd => rfl); (case hg => rfl); (case hr => first | (go_simp; done) | (go_simp; rfl)); intro gf hg w3 hbox hb; have n0_ := Aside0.mk (hg ▸ below_size HB.out : w.heap.size ≤ gf); have n1_ := Aside0.mk (hg ▸ (Nat.ne_of_gt (blk_lt BK.out)) : gf ≠ gb); have n2_ := Aside0.mk (blk_below BK.out hb); have n3_ := Aside0.mk (hbox); have n4_ := Aside0.mk (below_step (by repeat (first | (with_reducible first | exact HB.out | apply below_alloc | apply pw_below_drewN | apply below_drew1) | exact HB.out)) hb); clear BK HB hb hbox; have GF := n0_; have NFBK := n1_; have BK := n2_; have BF := n3_; have HB := n4_; clear n0_ n1_ n2_ n3_ n4_; clear hg) | ((with_reducible refine gate_store (p := 2) rfl ?_); refine row_event rfl rfl rfl (g := gb) #[.int .i64 0, .int .i64 0, .int .i64 0, .int .i64 0, .int .i64 0, .int .i64 0, .string ⟨#[]⟩] rfl ?hy BK.out Zcs_info rfl (one_cells _ _ _ _ _ _ _) ?_; (case hy => first | rfl | (go_simp; done) | (go_simp; rfl)); intro w4 hrow ht; have n0_ := Aside0.mk ((ht.block _ (blk_lt BF.out) NFBK.out).trans BF.out); have n1_ := Aside0.mk (hrow); have n2_ := Aside0.mk (ht.below HB.out GB.out (below_size HB.out)); clear BF BK HB hrow ht; have BF := n0_; have BK := n1_; have HB := n2_; clear n0_ n1_ n2_; have hcz_0 : w4.cell? ⟨gb, 0, none⟩ = some (.int .i64 0) := (blk_cell BK.out 0).trans rfl; have hcz_1 : w4.cell? ⟨gb, 1, none⟩ = some (.int .i64 0) := (blk_cell BK.out 1).trans rfl; have hcz_2 : w4.cell? ⟨gb, 2, none⟩ = some (.int .i64 0) := (blk_cell BK.out 2).trans rfl; have hcz_3 : w4.cell? ⟨gb, 3, none⟩ = some (.int .i64 0) := (blk_cell BK.out 3).trans rfl; have hcz_4 : w4.cell? ⟨gb, 4, none⟩ = some (.int .i64 0) := (blk_cell BK.out 4).trans rfl; have hcz_5 : w4.cell? ⟨gb, 5, none⟩ = some (.int .i64 0) := (blk_cell BK.out 5).trans rfl; have hcz_6 : w4.cell? ⟨gb, 6, none⟩ = some (.string ⟨#[]⟩) := (blk_cell BK.out 6).trans rfl))
  ((try simp only [Exit.inBlock, Exit.then]); refine bodyPost_ret (ret_cell_tmp rfl _ _ gb _ rfl BK.out rfl) rfl ?_)
  exact ⟨_, rfl, ⟨gf, rfl, BF.out, GF.out⟩, HB.out⟩
theorem word_cell {W : World} {g : Nat} {wl : List ByteArray} {t : TypeId} {x : ByteArray} (i : Nat) (h : W.heap[g]? = some (.cells (wl.map Value.string).toArray t (0, 0))) (hi : wl[i]? = some x) : W.cell? ⟨g, i, none⟩ = some (.string x) := by
  rw [blk_cell h]
  simp [hi]
theorem place_step {p : Int} {i n : Nat} {wd : ByteArray} (h0 : 0 ≤ p) (h1 : p ≤ 101 * ((i : Int) + 1)) (hi : i < n) (hn : n ≤ 5) (hw : wd.size ≤ 100) :
    wrap64 ((wd.size : Int) + 1) = (wd.size : Int) + 1 ∧ wrap64 (p + ((wd.size : Int) + 1)) = p + ((wd.size : Int) + 1) ∧ 0 ≤ p + ((wd.size : Int) + 1) ∧ p + ((wd.size : Int) + 1) ≤ 101 * (((i + 1 : Nat) : Int) + 1) := by
  refine ⟨by unfold wrap64; omega, by unfold wrap64; omega, by omega, by omega⟩
theorem sub_step {i n k : Nat} (h : i < n) (hk : i + k = n) : i + 1 + (n - (i + 1)) = n := by omega
theorem sub_lt {i n k : Nat} (h : i < n) (hk : i + k = n) : n - (i + 1) < k := by omega
theorem drop_at {α : Type} {l : List α} {i : Nat} {x : α} (h : l[i]? = some x) : l.drop i = x :: l.drop (i + 1) := by
  obtain ⟨hi, e⟩ := List.getElem?_eq_some_iff.1 h
  rw [List.drop_eq_getElem_cons hi, e]
theorem split_n (s : ByteArray) (wl : List ByteArray) (n : Nat) (hwl : wordsOf s = wl) (hn : wl.length = n) (hs : ¬ 100 < s.size) (w : World) (hrP : PowAt w) : Calls Tryz.prog 26 #[.string s, .string ⟨#[32]⟩] w fun e w' =>
    ∃ g, e = .returned (.slice (some ⟨g, 0, none⟩) n n) ∧ w'.heap[g]? = some (.cells (wl.map Value.string).toArray 9 (0, 0)) ∧ w.heap.size ≤ g ∧ Below w.heap.size w w' := by
  subst hwl hn
  exact split_c s hs w hrP
theorem kind_n (s : ByteArray) (k : Int) (hk : kindP s = k) (w : World) (hrP : PowAt w) : Calls Tryz.prog 27 #[.string s] w fun e w' => e = .returned (.int .i64 k) ∧ Below w.heap.size w w' := by
  subst hk
  exact kind_c s w hrP
theorem fields_n (k : Int) (ls : List Nat) (hls : shapeL k = ls) (w : World) : Calls Tryz.prog 24 #[.int .i64 k] w fun e w' => ∃ A, e = .returned (.slice A ls.length ls.length) ∧ FLA w' A ls ∧ Below w.heap.size w w' := by
  subst hls
  exact fields_a k w
set_option maxHeartbeats 8000000 in
set_option maxRecDepth 100000 in
theorem parse_none (s w0 : ByteArray) (ws : List ByteArray) (k : Int) (hs : ¬ 100 < s.size) (hw : wordsOf s = w0 :: ws) (hk : kindP w0 = k) (hk0 : k = 0) (w : World) (hrP : PowAt w) : Calls Tryz.prog 15 #[.string s] w (Parsed (.flt 180) w) := by
  have hu := Tryz.underlying25
  have HB := Aside0.mk (Below.refl w.heap.size w)
  have HRP := Aside0.mk hrP
  have HS := Aside0.mk hs
  have HWL := Aside0.mk hw
  have HK := Aside0.mk hk
  obtain ⟨n, hn⟩ : ∃ n, (w0 :: ws).length = n := ⟨_, rfl⟩
  have HN := Aside0.mk hn
  have hn0 : (0 < n) = True := eq_true (by rw [← hn]; exact Nat.succ_pos _)
  have hn1 : (0 : Int) < (n : Int) := by rw [← hn]; exact Int.natCast_pos.2 (Nat.succ_pos _)
  have hz1 : decide ((s.size : Int) > 100) = false := decide_eq_false (by omega)
  have hz2 : decide (100 < (s.size : Int)) = false := decide_eq_false (by omega)
  have hz3 : decide (100 < s.size) = false := decide_eq_false hs
  subst hk0
  clear hs hw hk hn hrP
  go_enter Tryz.func15, Tryz.ntmps15
  go_wp2_with (first | ((with_reducible refine gate_dst (N := 2) rfl ?_); refine box_event ?hg (N := 2) ?hd (cs := #[.int .i64 0, .int .i64 0, .int .i64 0, .int .i64 0, .int .i64 0, .int .i64 0, .string ⟨#[]⟩]) (t := 25) ?hr ?_; (case hd => rfl); (case hg => rfl); (case hr => first | (go_simp; done) | (go_simp; rfl)); intro gb hg w3 hbox hb; have n0_ := Aside0.mk (hg ▸ Nat.le_refl _ : w.heap.size ≤ gb); have n1_ := Aside0.mk (below_step (by repeat (first | (with_reducible first | exact HB.out | apply below_alloc | apply pw_below_drewN | apply below_drew1) | exact HB.out)) hb); have n2_ := Aside0.mk (hbox); clear HB hb hbox; have GB := n0_; have HB := n1_; have BK := n2_; clear n0_ n1_ n2_; clear hg) | (go_at_call 26; (with_reducible refine (split_n s (w0 :: ws) n HWL.out HN.out HS.out _ (PowAt_below HRP.out (by repeat (first | (with_reducible first | exact HB.out | apply below_alloc | apply pw_below_drewN | apply below_drew1) | exact HB.out)))).mono ?_); rintro e wS ⟨gw, rfl, hbw, hgw, hb⟩; have n0_ := Aside0.mk (Nat.le_trans (below_size HB.out) hgw); have n1_ := Aside0.mk ((Nat.ne_of_gt (Nat.lt_of_lt_of_le (blk_lt BK.out) hgw) : gw ≠ gb)); have n2_ := Aside0.mk (hbw); have n3_ := Aside0.mk (blk_below BK.out hb); have n4_ := Aside0.mk (below_step (by repeat (first | (with_reducible first | exact HB.out | apply below_alloc | apply pw_below_drewN | apply below_drew1) | exact HB.out)) hb); clear HB BK hbw hgw hb; have GW := n0_; have NWBK := n1_; have BW := n2_; have BK := n3_; have HB := n4_; clear n0_ n1_ n2_ n3_ n4_; have hcw0 : wS.cell? ⟨gw, 0, none⟩ = some (.string w0) := word_cell 0 BW.out rfl) | (go_at_call 27; (with_reducible refine (kind_n w0 0 HK.out _ (PowAt_below HRP.out (by repeat (first | (with_reducible first | exact HB.out | apply below_alloc | apply pw_below_drewN | apply below_drew1) | exact HB.out)))).mono ?_); rintro e wK ⟨rfl, hb⟩; (try clear hcw0); have n0_ := Aside0.mk (blk_below BW.out hb); have n1_ := Aside0.mk (blk_below BK.out hb); have n2_ := Aside0.mk (below_step (by repeat (first | (with_reducible first | exact HB.out | apply below_alloc | apply pw_below_drewN | apply below_drew1) | exact HB.out)) hb); clear HB BK BW hb; have BW := n0_; have BK := n1_; have HB := n2_; clear n0_ n1_ n2_) | ((with_reducible refine gate_dst (N := 29) rfl ?_); refine box_event ?hg (N := 29) ?hd (cs := #[.int .i64 180]) (t := 51) ?hr ?_; (case hd => rfl); (case hg => rfl); (case hr => first | (go_simp; done) | (go_simp; rfl)); intro gf hg w3 hbox hb; have n0_ := Aside0.mk (hg ▸ below_size HB.out : w.heap.size ≤ gf); have n1_ := Aside0.mk (hg ▸ (Nat.ne_of_gt (blk_lt BK.out)) : gf ≠ gb); have n2_ := Aside0.mk (blk_below BK.out hb); have n3_ := Aside0.mk (hbox); have n4_ := Aside0.mk (below_step (by repeat (first | (with_reducible first | exact HB.out | apply below_alloc | apply pw_below_drewN | apply below_drew1) | exact HB.out)) hb); clear BK HB hb hbox; have GF := n0_; have NFBK := n1_; have BK := n2_; have BF := n3_; have HB := n4_; clear n0_ n1_ n2_ n3_ n4_; clear hg) | ((with_reducible refine gate_store (p := 2) rfl ?_); refine row_event rfl rfl rfl (g := gb) #[.int .i64 0, .int .i64 0, .int .i64 0, .int .i64 0, .int .i64 0, .int .i64 0, .string ⟨#[]⟩] rfl ?hy BK.out Zcs_info rfl (one_cells _ _ _ _ _ _ _) ?_; (case hy => first | rfl | (go_simp; done) | (go_simp; rfl)); intro w4 hrow ht; have n0_ := Aside0.mk ((ht.block _ (blk_lt BF.out) NFBK.out).trans BF.out); have n1_ := Aside0.mk (hrow); have n2_ := Aside0.mk (ht.below HB.out GB.out (below_size HB.out)); clear BF BK HB hrow ht; have BF := n0_; have BK := n1_; have HB := n2_; clear n0_ n1_ n2_; have hcz_0 : w4.cell? ⟨gb, 0, none⟩ = some (.int .i64 0) := (blk_cell BK.out 0).trans rfl; have hcz_1 : w4.cell? ⟨gb, 1, none⟩ = some (.int .i64 0) := (blk_cell BK.out 1).trans rfl; have hcz_2 : w4.cell? ⟨gb, 2, none⟩ = some (.int .i64 0) := (blk_cell BK.out 2).trans rfl; have hcz_3 : w4.cell? ⟨gb, 3, none⟩ = some (.int .i64 0) := (blk_cell BK.out 3).trans rfl; have hcz_4 : w4.cell? ⟨gb, 4, none⟩ = some (.int .i64 0) := (blk_cell BK.out 4).trans rfl; have hcz_5 : w4.cell? ⟨gb, 5, none⟩ = some (.int .i64 0) := (blk_cell BK.out 5).trans rfl; have hcz_6 : w4.cell? ⟨gb, 6, none⟩ = some (.string ⟨#[]⟩) := (blk_cell BK.out 6).trans rfl))
  ((try simp only [Exit.inBlock, Exit.then]); refine bodyPost_ret (ret_cell_tmp rfl _ _ gb _ rfl BK.out rfl) rfl ?_)
  exact ⟨_, rfl, ⟨gf, rfl, BF.out, GF.out⟩, HB.out⟩
set_option maxHeartbeats 8000000 in
set_option maxRecDepth 100000 in
theorem parse_fields (s w0 : ByteArray) (ws : List ByteArray) (k : Int) (ls : List Nat) (hs : ¬ 100 < s.size) (hw : wordsOf s = w0 :: ws) (hk : kindP w0 = k) (hk0 : k ≠ 0) (hls : shapeL k = ls) (hlen : ws.length ≠ ls.length) (w : World) (hrP : PowAt w) : Calls Tryz.prog 15 #[.string s] w (Parsed (.plc s.size 181) w) := by
  have hu := Tryz.underlying25
  have HB := Aside0.mk (Below.refl w.heap.size w)
  have HRP := Aside0.mk hrP
  have HS := Aside0.mk hs
  have HWL := Aside0.mk hw
  have HK := Aside0.mk hk
  obtain ⟨n, hn⟩ : ∃ n, (w0 :: ws).length = n := ⟨_, rfl⟩
  have HN := Aside0.mk hn
  have hn0 : (0 < n) = True := eq_true (by rw [← hn]; exact Nat.succ_pos _)
  have hn1 : (0 : Int) < (n : Int) := by rw [← hn]; exact Int.natCast_pos.2 (Nat.succ_pos _)
  have hz1 : decide ((s.size : Int) > 100) = false := decide_eq_false (by omega)
  have hz2 : decide (100 < (s.size : Int)) = false := decide_eq_false (by omega)
  have hz3 : decide (100 < s.size) = false := decide_eq_false hs
  have HLS := Aside0.mk hls
  have HL5 : Aside0 (ls.length ≤ 5) := ⟨by have := shapeL_le k; rw [hls] at this; exact this⟩
  have hl5 : (ls.length : Int) ≤ 5 := by have := HL5.out; omega
  have hk1 : (k == 0) = false := beq_eq_false_iff_ne.2 hk0
  have hwl : wrap64 ((ls.length : Int) + 1) = (ls.length : Int) + 1 := by unfold wrap64; omega
  have hq : ((n : Int) == (ls.length : Int) + 1) = false := beq_eq_false_iff_ne.2 (by rw [List.length_cons] at hn; omega)
  have hq2 : ((n : Int) != (ls.length : Int) + 1) = true := by rw [bne, hq]; rfl
  clear hs hw hk hn hrP hk0 hls hlen
  go_enter Tryz.func15, Tryz.ntmps15
  go_wp2_with (first | ((with_reducible refine gate_dst (N := 2) rfl ?_); refine box_event ?hg (N := 2) ?hd (cs := #[.int .i64 0, .int .i64 0, .int .i64 0, .int .i64 0, .int .i64 0, .int .i64 0, .string ⟨#[]⟩]) (t := 25) ?hr ?_; (case hd => rfl); (case hg => rfl); (case hr => first | (go_simp; done) | (go_simp; rfl)); intro gb hg w3 hbox hb; have n0_ := Aside0.mk (hg ▸ Nat.le_refl _ : w.heap.size ≤ gb); have n1_ := Aside0.mk (below_step (by repeat (first | (with_reducible first | exact HB.out | apply below_alloc | apply pw_below_drewN | apply below_drew1) | exact HB.out)) hb); have n2_ := Aside0.mk (hbox); clear HB hb hbox; have GB := n0_; have HB := n1_; have BK := n2_; clear n0_ n1_ n2_; clear hg) | (go_at_call 26; (with_reducible refine (split_n s (w0 :: ws) n HWL.out HN.out HS.out _ (PowAt_below HRP.out (by repeat (first | (with_reducible first | exact HB.out | apply below_alloc | apply pw_below_drewN | apply below_drew1) | exact HB.out)))).mono ?_); rintro e wS ⟨gw, rfl, hbw, hgw, hb⟩; have n0_ := Aside0.mk (Nat.le_trans (below_size HB.out) hgw); have n1_ := Aside0.mk ((Nat.ne_of_gt (Nat.lt_of_lt_of_le (blk_lt BK.out) hgw) : gw ≠ gb)); have n2_ := Aside0.mk (hbw); have n3_ := Aside0.mk (blk_below BK.out hb); have n4_ := Aside0.mk (below_step (by repeat (first | (with_reducible first | exact HB.out | apply below_alloc | apply pw_below_drewN | apply below_drew1) | exact HB.out)) hb); clear HB BK hbw hgw hb; have GW := n0_; have NWBK := n1_; have BW := n2_; have BK := n3_; have HB := n4_; clear n0_ n1_ n2_ n3_ n4_; have hcw0 : wS.cell? ⟨gw, 0, none⟩ = some (.string w0) := word_cell 0 BW.out rfl) | (go_at_call 27; (with_reducible refine (kind_n w0 k HK.out _ (PowAt_below HRP.out (by repeat (first | (with_reducible first | exact HB.out | apply below_alloc | apply pw_below_drewN | apply below_drew1) | exact HB.out)))).mono ?_); rintro e wK ⟨rfl, hb⟩; (try clear hcw0); have n0_ := Aside0.mk (blk_below BW.out hb); have n1_ := Aside0.mk (blk_below BK.out hb); have n2_ := Aside0.mk (below_step (by repeat (first | (with_reducible first | exact HB.out | apply below_alloc | apply pw_below_drewN | apply below_drew1) | exact HB.out)) hb); clear HB BK BW hb; have BW := n0_; have BK := n1_; have HB := n2_; clear n0_ n1_ n2_) | (go_at_call 24; (with_reducible refine (fields_n k ls HLS.out _).mono ?_); rintro e wF ⟨A5, rfl, hfl, hb⟩; have n0_ := Aside0.mk (hfl); have n1_ := Aside0.mk (blk_below BW.out hb); have n2_ := Aside0.mk (blk_below BK.out hb); have n3_ := Aside0.mk (below_step (by repeat (first | (with_reducible first | exact HB.out | apply below_alloc | apply pw_below_drewN | apply below_drew1) | exact HB.out)) hb); clear HB BK BW hfl hb; have HFL := n0_; have BW := n1_; have BK := n2_; have HB := n3_; clear n0_ n1_ n2_ n3_) | ((with_reducible refine gate_dst (N := 43) rfl ?_); refine box_event ?hg (N := 43) ?hd (cs := #[.int .i64 181]) (t := 51) ?hr ?_; (case hd => rfl); (case hg => rfl); (case hr => first | (go_simp; done) | (go_simp; rfl)); intro gf hg w3 hbox hb; have n0_ := Aside0.mk (hg ▸ below_size HB.out : w.heap.size ≤ gf); have n1_ := Aside0.mk (hg ▸ (Nat.ne_of_gt (blk_lt BK.out)) : gf ≠ gb); have n2_ := Aside0.mk (blk_below BK.out hb); have n3_ := Aside0.mk (hbox); have n4_ := Aside0.mk (below_step (by repeat (first | (with_reducible first | exact HB.out | apply below_alloc | apply pw_below_drewN | apply below_drew1) | exact HB.out)) hb); clear BK HB hb hbox; have GF := n0_; have NFBK := n1_; have BK := n2_; have BF := n3_; have HB := n4_; clear n0_ n1_ n2_ n3_ n4_; clear hg) | ((with_reducible refine gate_dst (N := 46) rfl ?_); refine box_event ?hg (N := 46) ?hd (cs := #[.int .i64 (s.size : Int), .iface 47 (.pointer (some ⟨gf, 0, none⟩))]) (t := 55) ?hr ?_; (case hd => rfl); (case hg => rfl); (case hr => first | (go_simp; done) | (go_simp; rfl)); intro gp hg w3 hbox hb; have n0_ := Aside0.mk (hg ▸ below_size HB.out : w.heap.size ≤ gp); have n1_ := Aside0.mk (hg ▸ (Nat.ne_of_gt (blk_lt BK.out)) : gp ≠ gb); have n2_ := Aside0.mk (hg ▸ (Nat.ne_of_gt (blk_lt BF.out)) : gp ≠ gf); have n3_ := Aside0.mk (blk_below BK.out hb); have n4_ := Aside0.mk (blk_below BF.out hb); have n5_ := Aside0.mk (hbox); have n6_ := Aside0.mk (below_step (by repeat (first | (with_reducible first | exact HB.out | apply below_alloc | apply pw_below_drewN | apply below_drew1) | exact HB.out)) hb); clear BK BF HB hb hbox; have GP := n0_; have NPBK := n1_; have NPBF := n2_; have BK := n3_; have BF := n4_; have BP := n5_; have HB := n6_; clear n0_ n1_ n2_ n3_ n4_ n5_ n6_; clear hg) | ((with_reducible refine gate_store (p := 2) rfl ?_); refine row_event rfl rfl rfl (g := gb) #[.int .i64 0, .int .i64 0, .int .i64 0, .int .i64 0, .int .i64 0, .int .i64 0, .string ⟨#[]⟩] rfl ?hy BK.out Zcs_info rfl (one_cells _ _ _ _ _ _ _) ?_; (case hy => first | rfl | (go_simp; done) | (go_simp; rfl)); intro w4 hrow ht; have n0_ := Aside0.mk ((ht.block _ (blk_lt BF.out) NFBK.out).trans BF.out); have n1_ := Aside0.mk ((ht.block _ (blk_lt BP.out) NPBK.out).trans BP.out); have n2_ := Aside0.mk (hrow); have n3_ := Aside0.mk (ht.below HB.out GB.out (below_size HB.out)); clear BF BP BK HB hrow ht; have BF := n0_; have BP := n1_; have BK := n2_; have HB := n3_; clear n0_ n1_ n2_ n3_; have hcz_0 : w4.cell? ⟨gb, 0, none⟩ = some (.int .i64 0) := (blk_cell BK.out 0).trans rfl; have hcz_1 : w4.cell? ⟨gb, 1, none⟩ = some (.int .i64 0) := (blk_cell BK.out 1).trans rfl; have hcz_2 : w4.cell? ⟨gb, 2, none⟩ = some (.int .i64 0) := (blk_cell BK.out 2).trans rfl; have hcz_3 : w4.cell? ⟨gb, 3, none⟩ = some (.int .i64 0) := (blk_cell BK.out 3).trans rfl; have hcz_4 : w4.cell? ⟨gb, 4, none⟩ = some (.int .i64 0) := (blk_cell BK.out 4).trans rfl; have hcz_5 : w4.cell? ⟨gb, 5, none⟩ = some (.int .i64 0) := (blk_cell BK.out 5).trans rfl; have hcz_6 : w4.cell? ⟨gb, 6, none⟩ = some (.string ⟨#[]⟩) := (blk_cell BK.out 6).trans rfl))
  ((try simp only [Exit.inBlock, Exit.then]); refine bodyPost_ret (ret_cell_tmp rfl _ _ gb _ rfl BK.out rfl) rfl ?_)
  exact ⟨_, rfl, ⟨gp, gf, rfl, BP.out, BF.out, GF.out, GP.out, NPBF.out⟩, HB.out⟩
set_option maxHeartbeats 8000000 in
set_option maxRecDepth 100000 in
theorem parse_go (s w0 : ByteArray) (ws : List ByteArray) (k : Int) (ls : List Nat) (hs : ¬ 100 < s.size) (hw : wordsOf s = w0 :: ws) (hk : kindP w0 = k) (hk0 : k ≠ 0) (hls : shapeL k = ls) (hlen : ws.length = ls.length) (w : World) (hrP : PowAt w) : Calls Tryz.prog 15 #[.string s] w (Parsed (prun ls ws { Zo with a0 := k } ((w0.size : Int) + 1)) w) := by
  obtain ⟨R, hR⟩ : ∃ R, prun ls ws { Zo with a0 := k } ((w0.size : Int) + 1) = R := ⟨_, rfl⟩
  rw [hR]
  have HR := Aside0.mk hR
  clear hR
  have HSZ : Aside0 (∀ x, x ∈ w0 :: ws → x.size ≤ 100) := ⟨fun x hx => Nat.le_trans (size_piece _ s x (by rw [← hw] at hx; exact hx)) (by omega)⟩
  have hu := Tryz.underlying25
  have HB := Aside0.mk (Below.refl w.heap.size w)
  have HRP := Aside0.mk hrP
  have HS := Aside0.mk hs
  have HWL := Aside0.mk hw
  have HK := Aside0.mk hk
  obtain ⟨n, hn⟩ : ∃ n, (w0 :: ws).length = n := ⟨_, rfl⟩
  have HN := Aside0.mk hn
  have hn0 : (0 < n) = True := eq_true (by rw [← hn]; exact Nat.succ_pos _)
  have hn1 : (0 : Int) < (n : Int) := by rw [← hn]; exact Int.natCast_pos.2 (Nat.succ_pos _)
  have hz1 : decide ((s.size : Int) > 100) = false := decide_eq_false (by omega)
  have hz2 : decide (100 < (s.size : Int)) = false := decide_eq_false (by omega)
  have hz3 : decide (100 < s.size) = false := decide_eq_false hs
  have HLS := Aside0.mk hls
  have HL5 : Aside0 (ls.length ≤ 5) := ⟨by have := shapeL_le k; rw [hls] at this; exact this⟩
  have hl5 : (ls.length : Int) ≤ 5 := by have := HL5.out; omega
  have hk1 : (k == 0) = false := beq_eq_false_iff_ne.2 hk0
  have hwl : wrap64 ((ls.length : Int) + 1) = (ls.length : Int) + 1 := by unfold wrap64; omega
  have hq : ((n : Int) == (ls.length : Int) + 1) = true := beq_iff_eq.2 (by rw [List.length_cons] at hn; omega)
  have hq2 : ((n : Int) != (ls.length : Int) + 1) = false := by rw [bne, hq]; rfl
  have hnl : Aside0 (n = ls.length + 1) := ⟨by rw [← hn, List.length_cons, hlen]⟩
  have HLEN := Aside0.mk hlen
  have hw0s : (w0.size : Int) ≤ 100 := by have := HSZ.out w0 (List.mem_cons_self ..); omega
  have hw0w : wrap64 ((w0.size : Int) + 1) = (w0.size : Int) + 1 := by unfold wrap64; omega
  clear hs hw hk hn hrP hk0 hls hlen
  go_enter Tryz.func15, Tryz.ntmps15
  go_wp2_with (first | ((with_reducible refine gate_dst (N := 2) rfl ?_); refine box_event ?hg (N := 2) ?hd (cs := #[.int .i64 0, .int .i64 0, .int .i64 0, .int .i64 0, .int .i64 0, .int .i64 0, .string ⟨#[]⟩]) (t := 25) ?hr ?_; (case hd => rfl); (case hg => rfl); (case hr => first | (go_simp; done) | (go_simp; rfl)); intro gb hg w3 hbox hb; have n0_ := Aside0.mk (hg ▸ Nat.le_refl _ : w.heap.size ≤ gb); have n1_ := Aside0.mk (below_step (by repeat (first | (with_reducible first | exact HB.out | apply below_alloc | apply pw_below_drewN | apply below_drew1) | exact HB.out)) hb); have n2_ := Aside0.mk (hbox); clear HB hb hbox; have GB := n0_; have HB := n1_; have BK := n2_; clear n0_ n1_ n2_; clear hg) | (go_at_call 26; (with_reducible refine (split_n s (w0 :: ws) n HWL.out HN.out HS.out _ (PowAt_below HRP.out (by repeat (first | (with_reducible first | exact HB.out | apply below_alloc | apply pw_below_drewN | apply below_drew1) | exact HB.out)))).mono ?_); rintro e wS ⟨gw, rfl, hbw, hgw, hb⟩; have n0_ := Aside0.mk (Nat.le_trans (below_size HB.out) hgw); have n1_ := Aside0.mk ((Nat.ne_of_gt (Nat.lt_of_lt_of_le (blk_lt BK.out) hgw) : gw ≠ gb)); have n2_ := Aside0.mk (hbw); have n3_ := Aside0.mk (blk_below BK.out hb); have n4_ := Aside0.mk (below_step (by repeat (first | (with_reducible first | exact HB.out | apply below_alloc | apply pw_below_drewN | apply below_drew1) | exact HB.out)) hb); clear HB BK hbw hgw hb; have GW := n0_; have NWBK := n1_; have BW := n2_; have BK := n3_; have HB := n4_; clear n0_ n1_ n2_ n3_ n4_; have hcw0 : wS.cell? ⟨gw, 0, none⟩ = some (.string w0) := word_cell 0 BW.out rfl) | (go_at_call 27; (with_reducible refine (kind_n w0 k HK.out _ (PowAt_below HRP.out (by repeat (first | (with_reducible first | exact HB.out | apply below_alloc | apply pw_below_drewN | apply below_drew1) | exact HB.out)))).mono ?_); rintro e wK ⟨rfl, hb⟩; (try clear hcw0); have n0_ := Aside0.mk (blk_below BW.out hb); have n1_ := Aside0.mk (blk_below BK.out hb); have n2_ := Aside0.mk (below_step (by repeat (first | (with_reducible first | exact HB.out | apply below_alloc | apply pw_below_drewN | apply below_drew1) | exact HB.out)) hb); clear HB BK BW hb; have BW := n0_; have BK := n1_; have HB := n2_; clear n0_ n1_ n2_) | (go_at_call 24; (with_reducible refine (fields_n k ls HLS.out _).mono ?_); rintro e wF ⟨A5, rfl, hfl, hb⟩; have n0_ := Aside0.mk (hfl); have n1_ := Aside0.mk (blk_below BW.out hb); have n2_ := Aside0.mk (blk_below BK.out hb); have n3_ := Aside0.mk (below_step (by repeat (first | (with_reducible first | exact HB.out | apply below_alloc | apply pw_below_drewN | apply below_drew1) | exact HB.out)) hb); clear HB BK BW hfl hb; have HFL := n0_; have BW := n1_; have BK := n2_; have HB := n3_; clear n0_ n1_ n2_ n3_) | ((with_reducible refine gate_dst (N := 7) rfl ?_); refine box_event ?hg (N := 7) ?hd (cs := #[.int .i64 0, .int .i64 0, .int .i64 0, .int .i64 0, .int .i64 0, .int .i64 0, .string ⟨#[]⟩]) (t := 25) ?hr ?_; (case hd => rfl); (case hg => rfl); (case hr => first | (go_simp; done) | (go_simp; rfl)); intro go hg w3 hbox hb; have n0_ := Aside0.mk (hg ▸ Nat.le_refl _ : wF.heap.size ≤ go); have n1_ := Aside0.mk (hb); have n2_ := Aside0.mk (hbox); clear hb hbox; have GO := n0_; have HF := n1_; have BO := n2_; clear n0_ n1_ n2_; clear hg) | ((with_reducible refine gate_store (p := 7) rfl ?_); refine row_event rfl rfl rfl (g := go) #[.int .i64 k, .int .i64 0, .int .i64 0, .int .i64 0, .int .i64 0, .int .i64 0, .string ⟨#[]⟩] rfl ?hy BO.out Zcs_info rfl (one_cells _ _ _ _ _ _ _) ?_; (case hy => first | rfl | (go_simp; done) | (go_simp; rfl)); intro w4 hrow ht; have n0_ := Aside0.mk (ht.below HF.out GO.out (below_size HF.out)); have n1_ := Aside0.mk (hrow); clear HF BO hrow ht; have HF := n0_; have BO := n1_; clear n0_ n1_; have hcw0 : w4.cell? ⟨gw, 0, none⟩ = some (.string w0) := word_cell 0 ((HF.out.block gw (blk_lt BW.out)).trans BW.out) rfl))
  clear hcw0 hq hq2 hz1 hz2 hz3 hk1 hwl hw0w hn0
  go_loopg [8, 57] ls.length (fun kq v8 v57 w' => ∃ (i : Nat) (p : Int) (o : O), v57 = .int .i64 (i : Int) ∧ v8 = .int .i64 p ∧ Aside0 (i + kq = ls.length) ∧ Aside0 (prun (ls.drop i) (ws.drop i) o p = R) ∧ Aside0 (w'.heap[go]? = some (.cells o.cs 25 (0, 0))) ∧ Aside0 (Below wF.heap.size wF w') ∧ Aside0 (0 ≤ p ∧ p ≤ 101 * ((i : Int) + 1)))
  case atStart => exact ⟨0, (w0.size : Int) + 1, { Zo with a0 := k }, rfl, (by first | rfl | (simp; done) | go_num), ⟨by omega⟩, HR, BO, HF, ⟨by omega⟩⟩
  case round =>
    obtain ⟨i, p, o, rfl, rfl, HI, HR, BO, HF, HP⟩ := hrel
    by_cases hx : i < ls.length
    · obtain ⟨l, hl⟩ : ∃ l, ls[i]? = some l := ⟨_, List.getElem?_eq_getElem hx⟩
      obtain ⟨wd, hwd⟩ : ∃ wd, ws[i]? = some wd := ⟨_, List.getElem?_eq_getElem (by rw [HLEN.out]; exact hx)⟩
      have HR1 := HR.out
      rw [drop_at hl, drop_at hwd, prun] at HR1
      have HSW : wd.size ≤ 100 := HSZ.out wd (List.mem_cons_of_mem _ (List.mem_of_getElem? hwd))
      obtain ⟨g0, f1, f2, rfl, c1, c2, c3, hF⟩ := HFL.out i l hl
      obtain ⟨q1, lb1, g2, lb2, rfl, rfl, eg, hRD⟩ := reads_c l f1 f2 wF hF
      have HRD0 : Aside0 (∀ W, Below wF.heap.size wF W → PowAt W → W.heap[go]? = some (.cells o.cs 25 (0, 0)) → Calls Tryz.prog q1 (#[.string wd, .pointer (some ⟨go, 0, none⟩)] ++ lb1) W (Go.Proofs.YtjhodgcjkobpoaaGreatDoor.FReads.Read l wd o go W)) := ⟨fun W h1 h2 h3 => hRD wd o go W (by omega) h1 h2 h3⟩
      have c1' := (HF.out.cell (p := ⟨g0, i * 2, none⟩) c3).trans c1
      have c2' := (HF.out.cell (p := ⟨g0, i * 2 + 1, none⟩) c3).trans c2
      have HWC : Aside0 (∀ W, Below wF.heap.size wF W → W.cell? ⟨gw, i + 1, none⟩ = some (.string wd)) := ⟨fun W h => word_cell (i + 1) ((h.block gw (blk_lt BW.out)).trans BW.out) hwd⟩
      have HX := Aside0.mk hx
      have hlt : decide ((i : Int) < (ls.length : Int)) = true := decide_eq_true (by omega)
      have hi0 : (0 : Int) ≤ (i : Int) := by omega
      have hi1 : (i : Int) < (ls.length : Int) := by omega
      clear c1 c2 hRD hF hl hwd hx HR
      go_upto_region 15 with fail
      obtain ⟨W7, eW⟩ : ∃ W7, W7 = wr.alloc (.cells #[.func (.func q1) #[] lb1, .func (.func g2) #[] lb2] 68 (0, 0)) := ⟨_, rfl⟩
      have n0_ : Aside0 (Below wF.heap.size wF W7) := ⟨by rw [eW]; exact below_alloc HF.out _⟩
      have n1_ : Aside0 (W7.heap[go]? = some (.cells o.cs 25 (0, 0))) := ⟨by rw [eW]; exact blk_alloc BO.out _⟩
      have hc7 : W7.cell? ⟨wr.heap.size, 0, none⟩ = some (.func (.func q1) #[] lb1) := by rw [eW]; simp
      have BQ : Aside0 (W7.heap[wr.heap.size]? = some (.cells #[.func (.func q1) #[] lb1, .func (.func g2) #[] lb2] 68 (0, 0))) := ⟨by rw [eW]; exact blk_new wr _⟩
      have NQ : Aside0 (wr.heap.size ≠ go) := ⟨Nat.ne_of_gt (blk_lt BO.out)⟩
      rw [← eW]
      clear eW c1' c2' HF BO
      have HF := n0_
      have BO := n1_
      clear n0_ n1_
      have hcw := HWC.out W7 HF.out
      have hj0 : (0 : Int) ≤ (i : Int) + 1 := by omega
      have hj1 : (i : Int) + 1 < (n : Int) := by have := hnl.out; omega
      have hjw : wrap64 ((i : Int) + 1) = (i : Int) + 1 := by unfold wrap64; omega
      have hjv : IntKind.i64.wrap ((i : Int) + 1) = (i : Int) + 1 := by first | (simp only [IntKind.wrap_i64]; omega) | (rw [IntKind.wrap_i64]; omega)
      have hj2 : i + 1 < n := by have := hnl.out; omega
      have HBW7 : Aside0 (Below w.heap.size w W7) := ⟨(HB.out.trans (HF.out.mono (below_size HB.out)))⟩
      have BK7 : Aside0 (W7.heap[gb]? = _) := ⟨(HF.out.block gb (blk_lt BK.out)).trans BK.out⟩
      cases hb : (readP l wd o).1 with
      | true =>
        rw [if_pos hb] at HR1
        have HRD : Aside0 (∀ W, Below wF.heap.size wF W → PowAt W → W.heap[go]? = some (.cells o.cs 25 (0, 0)) → Calls Tryz.prog q1 (#[.string wd, .pointer (some ⟨go, 0, none⟩)] ++ lb1) W fun e w' => ∃ gf, e = .returned (.iface 47 (.pointer (some ⟨gf, 0, none⟩))) ∧ FaultAt w' gf 182 ∧ W.heap.size ≤ gf ∧ Tz go W w') :=
          ⟨fun W h1 h2 h3 => (HRD0.out W h1 h2 h3).mono (by rintro e w' ⟨gf, rfl, h4, h5, h6⟩; rw [hb]; exact ⟨gf, rfl, (h4 hb).1, (h4 hb).2, h6⟩)⟩
        have HR2 := Aside0.mk HR1
        clear HRD0 HR1 hb
        go_region_held3 (fun w' => w'.cell? ⟨wr.heap.size, 0, none⟩ = some (.func (.func q1) #[] lb1) ∧ w'.cell? ⟨gw, i + 1, none⟩ = some (.string wd)) (first | exact ⟨hs1, hs2⟩ | go_keep) ((go_at_fn q1; (with_reducible refine (HRD.out _ (by repeat (first | (with_reducible first | exact HF.out | apply below_alloc | apply pw_below_drewN | apply below_drew1) | exact HF.out)) (PowAt_below HRP.out (HB.out.trans (Below.mono (by repeat (first | (with_reducible first | exact HF.out | apply below_alloc | apply pw_below_drewN | apply below_drew1) | exact HF.out)) (below_size HB.out)))) (by (with_reducible repeat (first | refine blk_drewN ?_ _ | refine blk_drew ?_ | refine blk_alloc ?_ _)); exact BO.out)).mono ?_); rintro e w8 ⟨gf, rfl, hfa, hgf, ht⟩; have hs1 : w8.cell? ⟨wr.heap.size, 0, none⟩ = some (.func (.func q1) #[] lb1) := (blk_cell ((ht.block _ (blk_lt BQ.out) NQ.out).trans BQ.out) 0).trans rfl; have n0_ := Aside0.mk (Nat.le_trans (below_size HBW7.out) hgf); have n1_ := Aside0.mk ((Nat.ne_of_gt (Nat.lt_of_lt_of_le (blk_lt BK7.out) hgf) : gf ≠ gb)); have n2_ := Aside0.mk (hfa); have n3_ := Aside0.mk (ht.below (B := wF.heap.size) (a := wF) (by repeat (first | (with_reducible first | exact HF.out | apply below_alloc | apply pw_below_drewN | apply below_drew1) | exact HF.out)) GO.out (by have h_ := below_size HF.out; exact h_)); clear HF BO hfa hgf ht; have GF := n0_; have NFBK := n1_; have BF := n2_; have HF := n3_; clear n0_ n1_ n2_ n3_; have hs2 : w8.cell? ⟨gw, i + 1, none⟩ = some (.string wd) := HWC.out w8 HF.out))
        have BK := Aside0.mk ((HF.out.block gb (blk_lt BK.out)).trans BK.out)
        have HB := Aside0.mk (HB.out.trans (HF.out.mono (below_size HB.out)))
        go_wp2_with (first | ((with_reducible refine gate_dst (N := 76) rfl ?_); refine box_event ?hg (N := 76) ?hd (cs := #[.int .i64 p, .iface 47 (.pointer (some ⟨gf, 0, none⟩))]) (t := 55) ?hr ?_; (case hd => rfl); (case hg => rfl); (case hr => first | (go_simp; done) | (go_simp; rfl)); intro gp hg w3 hbox hb; have n0_ := Aside0.mk (hg ▸ below_size HB.out : w.heap.size ≤ gp); have n1_ := Aside0.mk (hg ▸ (Nat.ne_of_gt (blk_lt BK.out)) : gp ≠ gb); have n2_ := Aside0.mk (hg ▸ (Nat.ne_of_gt (blk_lt BF.out)) : gp ≠ gf); have n3_ := Aside0.mk (blk_below BK.out hb); have n4_ := Aside0.mk (blk_below BF.out hb); have n5_ := Aside0.mk (hbox); have n6_ := Aside0.mk (below_step (by repeat (first | (with_reducible first | exact HB.out | apply below_alloc | apply pw_below_drewN | apply below_drew1) | exact HB.out)) hb); clear BK BF HB hb hbox; have GP := n0_; have NPBK := n1_; have NPBF := n2_; have BK := n3_; have BF := n4_; have BP := n5_; have HB := n6_; clear n0_ n1_ n2_ n3_ n4_ n5_ n6_; clear hg) | ((with_reducible refine gate_store (p := 2) rfl ?_); refine row_event rfl rfl rfl (g := gb) #[.int .i64 0, .int .i64 0, .int .i64 0, .int .i64 0, .int .i64 0, .int .i64 0, .string ⟨#[]⟩] rfl ?hy BK.out Zcs_info rfl (one_cells _ _ _ _ _ _ _) ?_; (case hy => first | rfl | (go_simp; done) | (go_simp; rfl)); intro w4 hrow ht; have n0_ := Aside0.mk ((ht.block _ (blk_lt BF.out) NFBK.out).trans BF.out); have n1_ := Aside0.mk ((ht.block _ (blk_lt BP.out) NPBK.out).trans BP.out); have n2_ := Aside0.mk (hrow); have n3_ := Aside0.mk (ht.below HB.out GB.out (below_size HB.out)); clear BF BP BK HB hrow ht; have BF := n0_; have BP := n1_; have BK := n2_; have HB := n3_; clear n0_ n1_ n2_ n3_; have hcz_0 : w4.cell? ⟨gb, 0, none⟩ = some (.int .i64 0) := (blk_cell BK.out 0).trans rfl; have hcz_1 : w4.cell? ⟨gb, 1, none⟩ = some (.int .i64 0) := (blk_cell BK.out 1).trans rfl; have hcz_2 : w4.cell? ⟨gb, 2, none⟩ = some (.int .i64 0) := (blk_cell BK.out 2).trans rfl; have hcz_3 : w4.cell? ⟨gb, 3, none⟩ = some (.int .i64 0) := (blk_cell BK.out 3).trans rfl; have hcz_4 : w4.cell? ⟨gb, 4, none⟩ = some (.int .i64 0) := (blk_cell BK.out 4).trans rfl; have hcz_5 : w4.cell? ⟨gb, 5, none⟩ = some (.int .i64 0) := (blk_cell BK.out 5).trans rfl; have hcz_6 : w4.cell? ⟨gb, 6, none⟩ = some (.string ⟨#[]⟩) := (blk_cell BK.out 6).trans rfl))
        ((try simp only [Exit.inBlock, Exit.then]); refine bodyPost_ret (ret_cell_tmp rfl _ _ gb _ rfl BK.out rfl) rfl ?_)
        rw [← HR2.out]
        exact ⟨_, rfl, ⟨gp, gf, rfl, BP.out, BF.out, GF.out, GP.out, NPBF.out⟩, HB.out⟩
      | false =>
        rw [if_neg (by rw [hb]; decide)] at HR1
        have HRD : Aside0 (∀ W, Below wF.heap.size wF W → PowAt W → W.heap[go]? = some (.cells o.cs 25 (0, 0)) → Calls Tryz.prog q1 (#[.string wd, .pointer (some ⟨go, 0, none⟩)] ++ lb1) W fun e w' => e = .returned .nilIface ∧ w'.heap[go]? = some (.cells (readP l wd o).2.cs 25 (0, 0)) ∧ Tz go W w') :=
          ⟨fun W h1 h2 h3 => (HRD0.out W h1 h2 h3).mono (by rintro e w' ⟨gf, rfl, h4, h5, h6⟩; rw [hb]; exact ⟨rfl, h5, h6⟩)⟩
        have HR2 := Aside0.mk HR1
        clear HRD0 HR1 hb
        go_region_held3 (fun w' => w'.cell? ⟨wr.heap.size, 0, none⟩ = some (.func (.func q1) #[] lb1) ∧ w'.cell? ⟨gw, i + 1, none⟩ = some (.string wd)) (first | exact ⟨hs1, hs2⟩ | go_keep) ((go_at_fn q1; (with_reducible refine (HRD.out _ (by repeat (first | (with_reducible first | exact HF.out | apply below_alloc | apply pw_below_drewN | apply below_drew1) | exact HF.out)) (PowAt_below HRP.out (HB.out.trans (Below.mono (by repeat (first | (with_reducible first | exact HF.out | apply below_alloc | apply pw_below_drewN | apply below_drew1) | exact HF.out)) (below_size HB.out)))) (by (with_reducible repeat (first | refine blk_drewN ?_ _ | refine blk_drew ?_ | refine blk_alloc ?_ _)); exact BO.out)).mono ?_); rintro e w8 ⟨rfl, ho, ht⟩; have hs1 : w8.cell? ⟨wr.heap.size, 0, none⟩ = some (.func (.func q1) #[] lb1) := (blk_cell ((ht.block _ (blk_lt BQ.out) NQ.out).trans BQ.out) 0).trans rfl; have n0_ := Aside0.mk (ht.below (B := wF.heap.size) (a := wF) (by repeat (first | (with_reducible first | exact HF.out | apply below_alloc | apply pw_below_drewN | apply below_drew1) | exact HF.out)) GO.out (by have h_ := below_size HF.out; exact h_)); have n1_ := Aside0.mk (ho); clear HF BO ho ht; have HF := n0_; have BO := n1_; clear n0_ n1_; have hs2 : w8.cell? ⟨gw, i + 1, none⟩ = some (.string wd) := HWC.out w8 HF.out))
        have hp0 : 0 ≤ p := HP.out.1
        have hp1 : p ≤ 101 * ((i : Int) + 1) := HP.out.2
        have hwds : (wd.size : Int) ≤ 100 := Int.ofNat_le.2 HSW
        have HPL := Aside0.mk (place_step hp0 hp1 HX.out HL5.out HSW)
        have hw1 : wrap64 ((wd.size : Int) + 1) = (wd.size : Int) + 1 := HPL.out.1
        have hw2 : wrap64 (p + ((wd.size : Int) + 1)) = p + ((wd.size : Int) + 1) := HPL.out.2.1
        go_wp2
        go_roundg (ls.length - (i + 1))
        case measure => exact sub_lt HX.out HI.out
        case rel => exact ⟨i + 1, p + ((wd.size : Int) + 1), (readP l wd o).2, (by first | rfl | (simp; done) | go_num | (simp [*]; done)), (by first | rfl | (simp; done) | go_num | (simp [*]; done)), ⟨sub_step HX.out HI.out⟩, HR2, BO, HF, ⟨HPL.out.2.2⟩⟩
    · have hlt : decide ((i : Int) < (ls.length : Int)) = false := decide_eq_false (by omega)
      have HR1 := HR.out
      rw [List.drop_eq_nil_of_le (by omega), prun] at HR1
      have HR2 := Aside0.mk HR1
      have BK := Aside0.mk ((HF.out.block gb (blk_lt BK.out)).trans BK.out)
      have HB := Aside0.mk (HB.out.trans (HF.out.mono (below_size HB.out)))
      have hco_0 : wr.cell? ⟨go, 0, none⟩ = some (.int .i64 o.a0) := (blk_cell BO.out 0).trans rfl
      have hco_1 : wr.cell? ⟨go, 1, none⟩ = some (.int .i64 o.a1) := (blk_cell BO.out 1).trans rfl
      have hco_2 : wr.cell? ⟨go, 2, none⟩ = some (.int .i64 o.a2) := (blk_cell BO.out 2).trans rfl
      have hco_3 : wr.cell? ⟨go, 3, none⟩ = some (.int .i64 o.a3) := (blk_cell BO.out 3).trans rfl
      have hco_4 : wr.cell? ⟨go, 4, none⟩ = some (.int .i64 o.a4) := (blk_cell BO.out 4).trans rfl
      have hco_5 : wr.cell? ⟨go, 5, none⟩ = some (.int .i64 o.a5) := (blk_cell BO.out 5).trans rfl
      have hco_6 : wr.cell? ⟨go, 6, none⟩ = some (.string o.a6) := (blk_cell BO.out 6).trans rfl
      clear HR1 HR
      go_wp2_with (first | ((with_reducible refine gate_store (p := 2) rfl ?_); refine row_event rfl rfl rfl (g := gb) #[.int .i64 o.a0, .int .i64 o.a1, .int .i64 o.a2, .int .i64 o.a3, .int .i64 o.a4, .int .i64 o.a5, .string o.a6] rfl ?hy BK.out Zcs_info rfl (one_cells _ _ _ _ _ _ _) ?_; (case hy => first | rfl | (go_simp; done) | (go_simp; rfl)); intro w4 hrow ht; have n0_ := Aside0.mk (hrow); have n1_ := Aside0.mk (ht.below HB.out GB.out (below_size HB.out)); clear BK HB hrow ht; have BK := n0_; have HB := n1_; clear n0_ n1_; have hcz_0 : w4.cell? ⟨gb, 0, none⟩ = some (.int .i64 o.a0) := (blk_cell BK.out 0).trans rfl; have hcz_1 : w4.cell? ⟨gb, 1, none⟩ = some (.int .i64 o.a1) := (blk_cell BK.out 1).trans rfl; have hcz_2 : w4.cell? ⟨gb, 2, none⟩ = some (.int .i64 o.a2) := (blk_cell BK.out 2).trans rfl; have hcz_3 : w4.cell? ⟨gb, 3, none⟩ = some (.int .i64 o.a3) := (blk_cell BK.out 3).trans rfl; have hcz_4 : w4.cell? ⟨gb, 4, none⟩ = some (.int .i64 o.a4) := (blk_cell BK.out 4).trans rfl; have hcz_5 : w4.cell? ⟨gb, 5, none⟩ = some (.int .i64 o.a5) := (blk_cell BK.out 5).trans rfl; have hcz_6 : w4.cell? ⟨gb, 6, none⟩ = some (.string o.a6) := (blk_cell BK.out 6).trans rfl))
      ((try simp only [Exit.inBlock, Exit.then]); refine bodyPost_ret (ret_cell_tmp rfl _ _ gb _ rfl BK.out rfl) rfl ?_)
      rw [← HR2.out]
      exact ⟨_, rfl, rfl, HB.out⟩
theorem parseW_cons (s w0 : ByteArray) (ws : List ByteArray) : parseW s (w0 :: ws) = if kindP w0 = 0 then .flt 180 else if ws.length = (shapeL (kindP w0)).length then prun (shapeL (kindP w0)) ws { Zo with a0 := kindP w0 } ((w0.size : Int) + 1) else .plc s.size 181 := rfl
theorem parse_c (s : ByteArray) (w : World) (hrP : PowAt w) : Calls Tryz.prog 15 #[.string s] w (Parsed (parseP s) w) := by
  unfold parseP
  by_cases h : 100 < s.size
  · rw [if_pos h]
    exact parse_long s h w
  rw [if_neg h]
  have hl := words_len s
  cases hw : wordsOf s with
  | nil => rw [hw] at hl; cases hl
  | cons w0 ws =>
    rw [parseW_cons]
    by_cases hk : kindP w0 = 0
    · rw [if_pos hk]
      exact parse_none s w0 ws _ h hw rfl hk w hrP
    rw [if_neg hk]
    by_cases hn : ws.length = (shapeL (kindP w0)).length
    · rw [if_pos hn]
      exact parse_go s w0 ws _ _ h hw rfl hk rfl hn w hrP
    · rw [if_neg hn]
      exact parse_fields s w0 ws _ _ h hw rfl hk rfl hn w hrP
end Go.Proofs.YtjhodgcjkobpoaaGreatDoor.FParse
